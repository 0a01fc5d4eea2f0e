/- The contracts of slices.Equal and PeriodOf, of the program and of the reference. -/
import Derived.Test.YtmgjbldnohkodaaSeqOps
import Derived.Test.YtmgjbldnohkodaaCut
namespace Go.Proofs.Ytmgjbldnohkodaa
open Go.RowKit

def sameUpto (xs ys : List Int) (k : Nat) : Prop := ∀ i, i < k → xs.getD i 0 = ys.getD i 0
theorem sameUpto_zero (xs ys : List Int) : sameUpto xs ys 0 := fun i h => absurd h (by omega)
theorem sameUpto_succ {xs ys : List Int} {k : Nat} (h : sameUpto xs ys k) (hx : xs.getD k 0 = ys.getD k 0) : sameUpto xs ys (k + 1) := fun i hi => by
  by_cases e : i = k
  · subst e; exact hx
  · exact h i (by omega)
def sameB (xs ys : List Int) : Bool := decide (xs = ys)
theorem sameB_no {xs ys : List Int} {k : Nat} (h : xs.getD k 0 ≠ ys.getD k 0) : sameB xs ys = false := by
  simp only [sameB, decide_eq_false_iff_not]
  intro e
  rw [e] at h
  exact h rfl
theorem sameB_yes {xs ys : List Int} {n : Nat} (h1 : xs.length = n) (h2 : ys.length = n) (h : sameUpto xs ys n) : sameB xs ys = true := by
  simp only [sameB, decide_eq_true_eq]
  exact list_ext (by omega) (fun i hi => h i (by omega))

set_option maxHeartbeats 400000 in
theorem equal_any (ao bo : Option Addr) (n c d : Nat) (xs ys : List Int) (w : World) (ha : Sl w w.heap.size ao n c xs) (hb : Sl w w.heap.size bo n d ys) :
    Calls Try.prog 57 #[.slice ao n c, .slice bo n d] w fun e w' => e = .returned (.bool (sameB xs ys)) ∧ Below w.heap.size w w' := by
  obtain ⟨hla, _, hn, ha⟩ := ha
  obtain ⟨hlb, _, _, hb⟩ := hb
  have HA := Lib.hid hla
  have HB := Lib.hid hlb
  clear hla hlb
  have hne : (((n : Nat) : Int) != ((n : Nat) : Int)) = false := by simp
  go_enter Try.func57, Try.ntmps57
  go_wp2
  go_loopw [5, 13] (fun _ i wr => ∃ k : Nat, k ≤ n ∧ i = .int .i64 k ∧ sameUpto xs ys k ∧ Below w.heap.size w wr) (fun _ i _ => n - (intOf i).toNat)
  case atStart => exact ⟨0, Nat.zero_le _, rfl, sameUpto_zero _ _, Below.refl _ _⟩
  case round =>
    clear hne
    obtain ⟨k, hk, rfl, hsame, hbel⟩ := hrel
    by_cases hlt : k < n
    · obtain ⟨b, off, rfl, hbl, hc⟩ := ha (by omega)
      obtain ⟨b2, off2, rfl, hbl2, hc2⟩ := hb (by omega)
      have hcx := (hbel.cell (p := ⟨b, off + k, none⟩) hbl).trans (hc k hlt)
      have hcy := (hbel.cell (p := ⟨b2, off2 + k, none⟩) hbl2).trans (hc2 k hlt)
      clear ha hb hc hc2
      by_cases hxy : xs.getD k 0 = ys.getD k 0
      · have hs1 := sameUpto_succ hsame hxy
        rw [← hxy] at hcy
        generalize xs.getD k 0 = x at hcx hcy
        clear hxy
        have hne : (x != x) = false := by simp
        go_wp2
        go_quiet (fail)
        go_wp2
        go_roundw
        case rel => exact ⟨k + 1, by omega, by go_num, hs1, below_drewN hbel _⟩
        case measure => simp [intOf]; omega
      · have hno := Lib.hid (sameB_no hxy)
        have hne : (xs.getD k 0 != ys.getD k 0) = true := by rw [bne_iff_ne]; exact hxy
        generalize xs.getD k 0 = x at hcx hne
        generalize ys.getD k 0 = y at hcy hne
        clear hxy
        go_wp2
        go_quiet (fail)
        go_wp2
        go_ret
        exact ⟨ret_bool hno.out.symm, below_drewN hbel _⟩
    · have : k = n := by omega
      subst this
      have he := Lib.hid (sameB_yes HA.out HB.out hsame)
      go_wp2
      go_ret
      exact ⟨ret_bool he.out.symm, hbel⟩

/-- p is a period. -/
def perB (xs : List Int) (p : Nat) : Bool := sameB (xs.drop p) (xs.take (xs.length - p))
/-- The least period from p on. -/
def perFrom (xs : List Int) : Nat → Nat → Nat
  | 0, p => p
  | f + 1, p => if perB xs p = true then p else perFrom xs f (p + 1)
def period (xs : List Int) : Nat := if isSeq xs = true ∧ xs.length ≠ 0 then perFrom xs (xs.length - 1) 1 else 0
theorem perB_end (xs : List Int) : perB xs xs.length = true := by simp [perB, sameB]
/-- Nothing below p is a period: the search from 1 comes to p. -/
theorem perFrom_at (xs : List Int) : ∀ (f p q : Nat), p ≤ q → q ≤ p + f → (∀ i, p ≤ i → i < q → perB xs i = false) → (perB xs q = true ∨ q = p + f) → perFrom xs f p = q := by
  intro f
  induction f with
  | zero => intro p q h1 h2 _ _; simp [perFrom]; omega
  | succ f ih =>
    intro p q h1 h2 h3 h4
    unfold perFrom
    by_cases e : p = q
    · subst e
      rcases h4 with h4 | h4
      · rw [if_pos h4]
      · omega
    · rw [if_neg (by rw [h3 p (Nat.le_refl _) (by omega)]; simp)]
      exact ih (p + 1) q (by omega) (by omega) (fun i a b => h3 i (by omega) b) (by rcases h4 with h4 | h4; exact .inl h4; exact .inr (by omega))
theorem period_no {xs : List Int} (h : isSeq xs = false ∨ xs.length = 0) : period xs = 0 := by
  unfold period
  rw [if_neg]
  rcases h with h | h
  · rw [h]; simp
  · simp [h]
theorem period_at {xs : List Int} {q : Nat} (hs : isSeq xs = true) (h1 : 1 ≤ q) (h2 : q ≤ xs.length) (h3 : ∀ i, 1 ≤ i → i < q → perB xs i = false) (h4 : perB xs q = true ∨ q = xs.length) : period xs = q := by
  unfold period
  rw [if_pos ⟨hs, by omega⟩]
  exact perFrom_at xs (xs.length - 1) 1 q h1 (by omega) h3 (by rcases h4 with h4 | h4; exact .inl h4; exact .inr (by omega))
def noPer (xs : List Int) (p : Nat) : Prop := ∀ i, 1 ≤ i → i < p → perB xs i = false
theorem noPer_one (xs : List Int) : noPer xs 1 := fun i h1 h2 => absurd h1 (by omega)
theorem noPer_succ {xs : List Int} {p : Nat} (h : noPer xs p) (hp : perB xs p = false) : noPer xs (p + 1) := fun i h1 h2 => by
  by_cases e : i = p
  · subst e; exact hp
  · exact h i h1 (by omega)

/-- The inner loop's answer: all pairs up to i agree. -/
def perUpto (xs : List Int) (p i : Nat) : Prop := ∀ j, p ≤ j → j < i → xs.getD j 0 = xs.getD (j - p) 0
theorem perUpto_start (xs : List Int) (p : Nat) : perUpto xs p p := fun j h1 h2 => absurd h1 (by omega)
theorem perUpto_succ {xs : List Int} {p i : Nat} (h : perUpto xs p i) (hx : xs.getD i 0 = xs.getD (i - p) 0) : perUpto xs p (i + 1) := fun j h1 h2 => by
  by_cases e : j = i
  · subst e; exact hx
  · exact h j h1 (by omega)
theorem getD_drop' (xs : List Int) (p i : Nat) : (xs.drop p).getD i 0 = xs.getD (p + i) 0 := by simp [List.getD, List.getElem?_drop]
theorem getD_take' (xs : List Int) (m i : Nat) (h : i < m) : (xs.take m).getD i 0 = xs.getD i 0 := by simp [List.getD, h]
theorem perB_yes {xs : List Int} {p : Nat} (hp : p ≤ xs.length) (h : perUpto xs p xs.length) : perB xs p = true := by
  unfold perB
  refine sameB_yes (n := xs.length - p) (by rw [List.length_drop]) (by rw [List.length_take]; omega) (fun i hi => ?_)
  rw [getD_drop', getD_take' _ _ _ hi, h (p + i) (by omega) (by omega)]
  congr 1
  omega
theorem perB_not {xs : List Int} {p i : Nat} (hp : p ≤ i) (hi : i < xs.length) (h : xs.getD i 0 ≠ xs.getD (i - p) 0) : perB xs p = false := by
  unfold perB
  refine sameB_no (k := i - p) ?_
  rw [getD_drop', getD_take' _ _ _ (by omega), show p + (i - p) = i from by omega]
  exact h
end Go.Proofs.Ytmgjbldnohkodaa
