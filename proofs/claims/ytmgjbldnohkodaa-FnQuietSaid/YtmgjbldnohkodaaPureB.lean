/- Plain functions on sequences: each r-th element, stuffed sequences, sums of r elements. -/
import Derived.Test.YtmgjbldnohkodaaPureD
namespace Go.Proofs.Ytmgjbldnohkodaa

def ratB (r : Int) : Bool := decide (1 ≤ r) && decide (r ≤ 100)
theorem ratB_true {r : Int} (h : ratB r = true) : 1 ≤ r ∧ r ≤ 100 := by simpa [ratB] using h
theorem ratB_false {r : Int} (h : ratB r = false) : ¬ (1 ≤ r ∧ r ≤ 100) := by simp [ratB] at h; omega

/-! ### Decimate -/
def decF (xs : List Int) (r p j : Nat) : Int := xs.getD (p + j * r) 0
/-- How many indices p, p + r .. lie below n. -/
def decN (n r p : Nat) : Nat := (n + r - 1 - p) / r
def decL (xs : List Int) (r p : Nat) : List Int := tab (decF xs r p) (decN xs.length r p)
theorem decN_lt {n r p j : Nat} (hr : 1 ≤ r) (hp : p < r) : j < decN n r p ↔ p + j * r < n := by
  unfold decN
  rw [Nat.lt_iff_add_one_le, Nat.le_div_iff_mul_le (by omega), Nat.add_mul]
  omega
theorem decN_le {n r p : Nat} (hr : 1 ≤ r) : decN n r p ≤ n := by
  unfold decN
  have : (n + r - 1 - p) / r ≤ (n * r + r - 1) / r := Nat.div_le_div_right (by
    have := Nat.mul_le_mul_left n hr
    omega)
  have h2 : (n * r + r - 1) / r = n := by
    rw [show n * r + r - 1 = (r - 1) + r * n from by rw [Nat.mul_comm n r]; omega, Nat.add_mul_div_left _ _ (by omega), Nat.div_eq_of_lt (by omega)]
    omega
  omega
def decB (xs : List Int) (r p : Int) : Bool := isSeq xs && (ratB r && (decide (0 ≤ p) && decide (p < r)))
def decV (xs : List Int) (r p : Int) : List Int := seqOr (decB xs r p) (decL xs r.toNat p.toNat)
theorem decB_no {xs : List Int} {r p : Int} (h : isSeq xs = false ∨ ratB r = false ∨ p < 0 ∨ r ≤ p) : decB xs r p = false := by
  rw [← Bool.not_eq_true]
  intro h1
  simp [decB] at h1
  rcases h with h | h | h | h
  · rw [h1.1] at h; cases h
  · rw [h1.2.1] at h; cases h
  · omega
  · omega
theorem decB_yes {xs : List Int} {r p : Int} (h1 : isSeq xs = true) (h2 : ratB r = true) (h3 : 0 ≤ p) (h4 : p < r) : decB xs r p = true := by simp [decB, h1, h2]; omega
theorem decV_len (xs : List Int) (r p : Int) : (decV xs r p).length ≤ 1048576 :=
  seqOr_len fun h => by
    simp [decB] at h
    have h1 := isSeq_len h.1
    have h2 := ratB_true h.2.1
    have h3 := decN_le (n := xs.length) (r := r.toNat) (p := p.toNat) (by omega)
    rw [decL, tab_length]
    omega

/-! ### Sums of r elements -/
def boxF (xs : List Int) (r i : Nat) : Int := sumUpto xs (i + 1) - sumUpto xs (i + 1 - r)
def boxL (xs : List Int) (r : Nat) : List Int := tab (boxF xs r) xs.length
def boxB (xs : List Int) (r : Int) : Bool := isSeq xs && (ratB r && isSeq (boxL xs r.toNat))
def boxV (xs : List Int) (r : Int) : List Int := seqOr (boxB xs r) (boxL xs r.toNat)
theorem boxB_no {xs : List Int} {r : Int} (h : isSeq xs = false ∨ ratB r = false) : boxB xs r = false := by
  rcases h with h | h <;> simp [boxB, h]
theorem boxB_mk {xs : List Int} {r : Int} (h1 : isSeq xs = true) (h2 : ratB r = true) : boxB xs r = isSeq (boxL xs r.toNat) := by simp [boxB, h1, h2]
theorem boxV_len (xs : List Int) (r : Int) : (boxV xs r).length ≤ 1048576 :=
  seqOr_len fun h => by
    simp [boxB] at h
    have := isSeq_len h.2.2
    omega

/-! ### Stuffed sequences -/
def stuffF (xs : List Int) (r j : Nat) : Int := if j % r = 0 then xs.getD (j / r) 0 else 0
def stuffL (xs : List Int) (r : Nat) : List Int := tab (stuffF xs r) (r * xs.length)
def stuffB (xs : List Int) (r : Int) : Bool := isSeq xs && (ratB r && isSeq (stuffL xs r.toNat))
def stuffV (xs : List Int) (r : Int) : List Int := seqOr (stuffB xs r) (stuffL xs r.toNat)
theorem stuffB_no {xs : List Int} {r : Int} (h : isSeq xs = false ∨ ratB r = false) : stuffB xs r = false := by
  rcases h with h | h <;> simp [stuffB, h]
theorem stuffB_mk {xs : List Int} {r : Int} (h1 : isSeq xs = true) (h2 : ratB r = true) : stuffB xs r = isSeq (stuffL xs r.toNat) := by simp [stuffB, h1, h2]
theorem stuffV_len (xs : List Int) (r : Int) : (stuffV xs r).length ≤ 1048576 :=
  seqOr_len fun h => by
    simp [stuffB] at h
    have := isSeq_len h.2.2
    omega
/-- While it is filled: the first k elements are there. -/
def sfStageF (xs : List Int) (r k j : Nat) : Int := if j % r = 0 ∧ j / r < k then xs.getD (j / r) 0 else 0
theorem sfStage_zero (xs : List Int) (r m : Nat) : tab (sfStageF xs r 0) m = List.replicate m 0 := by
  apply List.ext_getElem
  · simp [tab]
  · intro i h1 h2
    simp [tab, sfStageF]
theorem sfStage_end (xs : List Int) (r : Nat) : tab (sfStageF xs r xs.length) (r * xs.length) = stuffL xs r := by
  unfold stuffL
  refine tab_congr (fun j hj => ?_)
  unfold sfStageF stuffF
  by_cases h : j % r = 0
  · rw [if_pos h, if_pos ⟨h, Nat.div_lt_of_lt_mul hj⟩]
  · rw [if_neg h, if_neg (fun h2 => h h2.1)]
theorem sfStage_set (xs : List Int) (r k m : Nat) (hr : 1 ≤ r) (h : k * r < m) : (tab (sfStageF xs r k) m).set (k * r) (xs.getD k 0) = tab (sfStageF xs r (k + 1)) m := by
  rw [tab_set _ _ _ _ h]
  refine tab_congr (fun j _ => ?_)
  unfold sfStageF
  by_cases e : j = k * r
  · subst e
    rw [if_pos rfl, if_pos ⟨Nat.mul_mod_left _ _, by rw [Nat.mul_div_cancel _ (by omega)]; omega⟩, Nat.mul_div_cancel _ (by omega)]
  · rw [if_neg e]
    by_cases h1 : j % r = 0
    · have hj : j = (j / r) * r := (Nat.div_mul_cancel (Nat.dvd_of_mod_eq_zero h1)).symm
      have hne : j / r ≠ k := fun h2 => e (by rw [← h2]; exact hj)
      by_cases h2 : j / r < k
      · rw [if_pos ⟨h1, h2⟩, if_pos ⟨h1, by omega⟩]
      · rw [if_neg (fun h3 => h2 h3.2), if_neg (fun h3 => by have := h3.2; omega)]
    · rw [if_neg (fun h2 => h1 h2.1), if_neg (fun h2 => h1 h2.1)]
/-- While it is appended to: one element and the zeros behind it. -/
theorem stuff_next (xs : List Int) (r k : Nat) (hr : 1 ≤ r) : tab (stuffF xs r) (r * (k + 1)) = tab (stuffF xs r) (r * k) ++ [xs.getD k 0] ++ List.replicate (r - 1) 0 := by
  have h0 : r * (k + 1) = r * k + 1 + (r - 1) := by rw [Nat.mul_add]; omega
  rw [h0]
  have h1 : ∀ m, tab (stuffF xs r) (r * k + 1 + m) = tab (stuffF xs r) (r * k) ++ [stuffF xs r (r * k)] ++ tab (fun j => stuffF xs r (r * k + 1 + j)) m := by
    intro m
    induction m with
    | zero => rw [Nat.add_zero, tab_succ, tab_zero, List.append_nil]
    | succ m ih => rw [← Nat.add_assoc, tab_succ, ih, tab_succ, List.append_assoc]
  rw [h1]
  have h2 : stuffF xs r (r * k) = xs.getD k 0 := by
    unfold stuffF
    rw [if_pos (Nat.mul_mod_right _ _), Nat.mul_div_cancel_left _ (by omega)]
  have h3 : tab (fun j => stuffF xs r (r * k + 1 + j)) (r - 1) = List.replicate (r - 1) 0 := by
    apply List.ext_getElem
    · simp [tab]
    · intro i hi _
      have hi' : i < r - 1 := by simpa [tab] using hi
      have h4 : ¬ (r * k + 1 + i) % r = 0 := by
        rw [show r * k + 1 + i = (1 + i) + r * k from by omega, Nat.add_mul_mod_self_left, Nat.mod_eq_of_lt (by omega)]
        omega
      simp [tab, stuffF, h4]
  rw [h2, h3]
end Go.Proofs.Ytmgjbldnohkodaa
