/- The contracts of IsSequence and SumOf, of the program and of the reference. -/
import Derived.Test.YtmgjbldnohkodaaBase
import Derived.Test.YtmgjbldnohkodaaPure
namespace Go.Proofs.Ytmgjbldnohkodaa
open Go.RowKit

/-- What the next steps need of a world behind a call: old cells and old marks read as before. -/
theorem bcell {W w1 : World} (hb : Below W.heap.size W w1) : (∀ b o, b < W.heap.size → w1.cell? ⟨b, o, none⟩ = W.cell? ⟨b, o, none⟩) ∧ (∀ b o, b < W.heap.size → w1.frozen? ⟨b, o, none⟩ = W.frozen? ⟨b, o, none⟩) :=
  ⟨fun b o h => hb.cell (p := ⟨b, o, none⟩) h, fun b o h => hb.frozen (p := ⟨b, o, none⟩) h⟩
theorem box_below (w : World) (o : Obj) : Below w.heap.size w (w.alloc o) := (Below.refl _ _).alloc (Nat.le_refl _) o
/-- A call behind a box of the caller's own. -/
theorem box_then {w w1 : World} {o : Obj} (h : Below (w.alloc o).heap.size (w.alloc o) w1) : Below w.heap.size w w1 := (box_below w o).trans (h.mono (by simp))
theorem then_then {w w1 w2 : World} (h : Below w.heap.size w w1) (k : Below w1.heap.size w1 w2) : Below w.heap.size w w2 := h.trans (k.mono h.size)

theorem ret_bool {a b : Bool} (h : a = b) : Ending.returned (.bool a) = .returned (.bool b) := by rw [h]
theorem ret_int {k : IntKind} {a b : Int} (h : a = b) : Ending.returned (.int k a) = .returned (.int k b) := by rw [h]

theorem sample_i (v : Int) (w : World) : Calls Try.prog 56 #[.int .i64 v] w fun e w' => e = .returned (.bool (sampleB v)) ∧ w = w' := by
  by_cases h1 : -1099511627776 ≤ v
  · go_enter Try.func56, Try.ntmps56
    go_wp2
    go_ret
    exact ⟨ret_bool (by simp [sampleB, h1]), rfl⟩
  · go_enter Try.func56, Try.ntmps56
    go_wp2
    go_ret
    exact ⟨ret_bool (by simp [sampleB]; omega), rfl⟩
theorem in_s (v a b : Int) (w : World) : Calls Try.prog 59 #[.int .i64 v, .int .i64 a, .int .i64 b] w fun e w' => e = .returned (.bool (decide (a ≤ v) && decide (v ≤ b))) ∧ w = w' := by
  by_cases h1 : a ≤ v
  · go_enter Try.func59, Try.ntmps59
    go_wp2
    go_ret
    exact ⟨ret_bool (by simp [h1]), rfl⟩
  · go_enter Try.func59, Try.ntmps59
    go_wp2
    go_ret
    exact ⟨ret_bool (by simp; omega), rfl⟩
theorem sample_s (v : Int) (w : World) : Calls Try.prog 58 #[.int .i64 v] w fun e w' => e = .returned (.bool (sampleB v)) ∧ w = w' := by
  go_enter Try.func58, Try.ntmps58
  go_wp2_with (go_at_call 59; refine (in_s _ _ _ _).mono ?_; rintro e w' ⟨rfl, rfl⟩)
  go_ret
  exact ⟨rfl, rfl⟩

set_option maxHeartbeats 400000 in
theorem isSeq_i (ao : Option Addr) (n cap : Nat) (xs : List Int) (w : World) (h : Sl w w.heap.size ao n cap xs) :
    Calls Try.prog 63 #[.slice ao n cap] w fun e w' => e = .returned (.bool (isSeq xs)) ∧ w = w' := by
  obtain ⟨hl, _, hn, hat⟩ := h
  have hHl := Lib.hid hl
  clear hl
  go_enter Try.func63, Try.ntmps63
  go_wp2
  go_loop [4, 7] (fun _ i => ∃ k : Nat, k ≤ n ∧ i = .int .i64 k ∧ okUpto xs k) (fun _ i => n - (intOf i).toNat)
  case atStart => exact ⟨0, Nat.zero_le _, rfl, okUpto_zero _⟩
  case round =>
    obtain ⟨k, hk, rfl, hok⟩ := hrel
    by_cases hlt : k < n
    · obtain ⟨b, off, rfl, hbl, hc⟩ := hat (by omega)
      have hcx := hc k hlt
      clear hc hat
      cases hs : sampleB (xs.getD k 0)
      · have hno := Lib.hid (isSeq_no (by rw [hHl.out]; exact hlt) hs)
        generalize xs.getD k 0 = x at hcx hs
        go_wp2_with (go_at_call 56; refine (sample_i _ _).mono ?_; rintro e w' ⟨rfl, rfl⟩)
        go_ret
        exact ⟨ret_bool hno.out.symm, rfl⟩
      · have hok1 := okUpto_succ hok hs
        generalize xs.getD k 0 = x at hcx hs
        go_wp2_with (go_at_call 56; refine (sample_i _ _).mono ?_; rintro e w' ⟨rfl, rfl⟩)
        go_round
        case rel => exact ⟨k + 1, by omega, by go_num, hok1⟩
        case measure => simp [intOf]; omega
    · have : k = n := by omega
      subst this
      have he := Lib.hid (isSeq_end hHl.out hok)
      go_wp2
      go_ret
      exact ⟨ret_bool (by rw [he.out]; exact decide_eq_decide.2 (by omega)), rfl⟩

set_option maxHeartbeats 400000 in
theorem isSeq_s (ao : Option Addr) (n cap : Nat) (xs : List Int) (w : World) (h : Sl w w.heap.size ao n cap xs) :
    Calls Try.prog 65 #[.slice ao n cap] w fun e w' => e = .returned (.bool (isSeq xs)) ∧ w = w' := by
  obtain ⟨hl, _, hn, hat⟩ := h
  have hHl := Lib.hid hl
  clear hl
  go_enter Try.func65, Try.ntmps65
  go_wp2
  go_loop [4, 7] (fun _ i => ∃ k : Nat, k ≤ n ∧ i = .int .i64 k ∧ okUpto xs k) (fun _ i => n - (intOf i).toNat)
  case atStart => exact ⟨0, Nat.zero_le _, rfl, okUpto_zero _⟩
  case round =>
    obtain ⟨k, hk, rfl, hok⟩ := hrel
    by_cases hlt : k < n
    · obtain ⟨b, off, rfl, hbl, hc⟩ := hat (by omega)
      have hcx := hc k hlt
      clear hc hat
      cases hs : sampleB (xs.getD k 0)
      · have hno := Lib.hid (isSeq_no (by rw [hHl.out]; exact hlt) hs)
        generalize xs.getD k 0 = x at hcx hs
        go_wp2_with (go_at_call 58; refine (sample_s _ _).mono ?_; rintro e w' ⟨rfl, rfl⟩)
        go_ret
        exact ⟨ret_bool hno.out.symm, rfl⟩
      · have hok1 := okUpto_succ hok hs
        generalize xs.getD k 0 = x at hcx hs
        go_wp2_with (go_at_call 58; refine (sample_s _ _).mono ?_; rintro e w' ⟨rfl, rfl⟩)
        go_round
        case rel => exact ⟨k + 1, by omega, by go_num, hok1⟩
        case measure => simp [intOf]; omega
    · have : k = n := by omega
      subst this
      have he := Lib.hid (isSeq_end hHl.out hok)
      go_wp2
      go_ret
      exact ⟨ret_bool (by rw [he.out]; exact decide_eq_decide.2 (by omega)), rfl⟩

end Go.Proofs.Ytmgjbldnohkodaa
