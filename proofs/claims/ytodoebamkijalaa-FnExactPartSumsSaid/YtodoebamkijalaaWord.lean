/- The contracts of IsWord, of the program and of the reference. -/
import Derived.Test.YtodoebamkijalaaSeq
namespace Go.Proofs.Ytodoebamkijalaa
open Go.RowKit

def bitB (v : Int) : Bool := decide (0 ≤ v) && decide (v ≤ 1)
theorem bitB_true {v : Int} (h : bitB v = true) : v = 0 ∨ v = 1 := by simp [bitB] at h; omega
theorem bitB_false {v : Int} (h : bitB v = false) : ¬ v = 0 ∧ ¬ v = 1 := by simp [bitB] at h; omega
def isWord (xs : List Int) : Bool := xs.all bitB && decide (xs.length ≤ 1000)
def bitsUpto (xs : List Int) (k : Nat) : Prop := ∀ i, i < k → bitB (xs.getD i 0) = true
theorem bitsUpto_zero (xs : List Int) : bitsUpto xs 0 := fun i h => absurd h (by omega)
theorem bitsUpto_succ {xs : List Int} {k : Nat} (h : bitsUpto xs k) (hx : bitB (xs.getD k 0) = true) : bitsUpto xs (k + 1) := fun i hi => by
  by_cases e : i = k
  · subst e; exact hx
  · exact h i (by omega)
theorem isWord_mem {xs : List Int} (h : isWord xs = true) : ∀ x ∈ xs, bitB x = true := by
  simp only [isWord, Bool.and_eq_true, List.all_eq_true] at h; exact h.1
theorem isWord_len {xs : List Int} (h : isWord xs = true) : xs.length ≤ 1000 := by
  simp only [isWord, Bool.and_eq_true, decide_eq_true_eq] at h; exact h.2
theorem isWord_no {xs : List Int} {k : Nat} (hk : k < xs.length) (hx : bitB (xs.getD k 0) = false) : isWord xs = false := by
  rw [← Bool.not_eq_true]
  intro h
  have h1 := isWord_mem h _ (List.getElem_mem hk)
  rw [← getD_at xs k hk, hx] at h1
  cases h1
theorem isWord_end {xs : List Int} {n : Nat} (hl : xs.length = n) (h : bitsUpto xs n) : isWord xs = decide (n ≤ 1000) := by
  have h1 : xs.all bitB = true := by
    rw [List.all_eq_true]
    intro x hx
    obtain ⟨i, hi, rfl⟩ := List.getElem_of_mem hx
    rw [← getD_at xs i hi]
    exact h i (by omega)
  simp [isWord, h1, hl]
theorem isWord_at {xs : List Int} (h : isWord xs = true) (k : Nat) (hk : k < xs.length) : xs.getD k 0 = 0 ∨ xs.getD k 0 = 1 := by
  rw [getD_at xs k hk]
  exact bitB_true (isWord_mem h _ (List.getElem_mem hk))

set_option maxHeartbeats 400000 in
theorem isWord_s (ao : Option Addr) (n cap : Nat) (xs : List Int) (w : World) (h : Sl w w.heap.size ao n cap xs) :
    Calls Try.prog 46 #[.slice ao n cap] w fun e w' => e = .returned (.bool (isWord xs)) ∧ w = w' := by
  obtain ⟨hl, _, hn, hat⟩ := h
  have hHl := Lib.hid hl
  clear hl
  go_enter Try.func46, Try.ntmps46
  go_wp2
  go_loop [4, 7] (fun _ i => ∃ k : Nat, k ≤ n ∧ i = .int .i64 k ∧ bitsUpto xs k) (fun _ i => n - (intOf i).toNat)
  case atStart => exact ⟨0, Nat.zero_le _, rfl, bitsUpto_zero _⟩
  case round =>
    obtain ⟨k, hk, rfl, hok⟩ := hrel
    by_cases hlt : k < n
    · obtain ⟨b, off, rfl, hbl, hc⟩ := hat (by omega)
      have hcx := hc k hlt
      clear hc hat
      cases hs : bitB (xs.getD k 0)
      · have hno := Lib.hid (isWord_no (by rw [hHl.out]; exact hlt) hs)
        generalize xs.getD k 0 = x at hcx hs
        unfold bitB at hs
        go_wp2_with (go_at_call 41; refine (in_s _ _ _ _).mono ?_; rw [hs]; rintro e w' ⟨rfl, rfl⟩)
        go_ret
        exact ⟨ret_bool hno.out.symm, rfl⟩
      · have hok1 := bitsUpto_succ hok hs
        generalize xs.getD k 0 = x at hcx hs
        unfold bitB at hs
        go_wp2_with (go_at_call 41; refine (in_s _ _ _ _).mono ?_; rw [hs]; rintro e w' ⟨rfl, rfl⟩)
        go_round
        case rel => exact ⟨k + 1, by omega, by go_num, hok1⟩
        case measure => simp [intOf]; omega
    · have : k = n := by omega
      subst this
      have he := Lib.hid (isWord_end hHl.out hok)
      go_wp2
      go_ret
      exact ⟨ret_bool (by rw [he.out]; exact decide_eq_decide.2 (by omega)), rfl⟩

set_option maxHeartbeats 400000 in
theorem isWord_i (ao : Option Addr) (n cap : Nat) (xs : List Int) (w : World) (h : Sl w w.heap.size ao n cap xs) :
    Calls Try.prog 47 #[.slice ao n cap] w fun e w' => e = .returned (.bool (isWord xs)) ∧ w = w' := by
  obtain ⟨hl, _, hn, hat⟩ := h
  have hHl := Lib.hid hl
  clear hl
  go_enter Try.func47, Try.ntmps47
  go_wp2
  go_loop [4, 7] (fun _ i => ∃ k : Nat, k ≤ n ∧ i = .int .i64 k ∧ bitsUpto xs k) (fun _ i => n - (intOf i).toNat)
  case atStart => exact ⟨0, Nat.zero_le _, rfl, bitsUpto_zero _⟩
  case round =>
    obtain ⟨k, hk, rfl, hok⟩ := hrel
    by_cases hlt : k < n
    · obtain ⟨b, off, rfl, hbl, hc⟩ := hat (by omega)
      have hcx := hc k hlt
      clear hc hat
      cases hs : bitB (xs.getD k 0)
      · have hno := Lib.hid (isWord_no (by rw [hHl.out]; exact hlt) hs)
        have hb := bitB_false hs
        generalize xs.getD k 0 = x at hcx hb
        have h1 : (x != 0) = true := by rw [bne_iff_ne]; exact hb.1
        have h2 : (x != 1) = true := by rw [bne_iff_ne]; exact hb.2
        clear hb hs
        go_wp2
        go_ret
        exact ⟨ret_bool hno.out.symm, rfl⟩
      · have hok1 := bitsUpto_succ hok hs
        have hb := bitB_true hs
        clear hs
        generalize xs.getD k 0 = x at hcx hb
        rcases hb with rfl | rfl
        · go_wp2
          go_round
          case rel => exact ⟨k + 1, by omega, by go_num, hok1⟩
          case measure => simp [intOf]; omega
        · go_wp2
          go_round
          case rel => exact ⟨k + 1, by omega, by go_num, hok1⟩
          case measure => simp [intOf]; omega
    · have : k = n := by omega
      subst this
      have he := Lib.hid (isWord_end hHl.out hok)
      go_wp2
      go_ret
      exact ⟨ret_bool (by rw [he.out]; exact decide_eq_decide.2 (by omega)), rfl⟩
end Go.Proofs.Ytodoebamkijalaa
