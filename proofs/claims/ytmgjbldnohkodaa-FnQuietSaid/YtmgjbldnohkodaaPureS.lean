/- Plain functions on sequences: sums, differences, multiples. -/
import Derived.Test.YtmgjbldnohkodaaApp
namespace Go.Proofs.Ytmgjbldnohkodaa
open Go.RowKit

/-- x plus k times y, element by element. -/
def mixF (xs ys : List Int) (k : Int) (i : Nat) : Int := xs.getD i 0 + k * ys.getD i 0
def mixL (xs ys : List Int) (k : Int) : List Int := tab (mixF xs ys k) xs.length
def mixB (xs ys : List Int) (k : Int) : Bool := isSeq xs && (isSeq ys && (decide (xs.length = ys.length) && isSeq (mixL xs ys k)))
def mixV (xs ys : List Int) (k : Int) : List Int := seqOr (mixB xs ys k) (mixL xs ys k)
theorem mixB_true {xs ys : List Int} {k : Int} (h : mixB xs ys k = true) : isSeq xs = true ∧ isSeq ys = true ∧ xs.length = ys.length ∧ isSeq (mixL xs ys k) = true := by
  simpa [mixB] using h
theorem mixB_no {xs ys : List Int} {k : Int} (h : isSeq xs = false ∨ isSeq ys = false ∨ xs.length ≠ ys.length ∨ isSeq (mixL xs ys k) = false) : mixB xs ys k = false := by
  rw [← Bool.not_eq_true]
  intro h1
  have h2 := mixB_true h1
  rcases h with h | h | h | h
  · rw [h2.1] at h; cases h
  · rw [h2.2.1] at h; cases h
  · exact h h2.2.2.1
  · rw [h2.2.2.2] at h; cases h
theorem mixB_mk {xs ys : List Int} {k : Int} (h1 : isSeq xs = true) (h2 : isSeq ys = true) (h3 : xs.length = ys.length) : mixB xs ys k = isSeq (mixL xs ys k) := by
  simp [mixB, h1, h2, h3]
theorem mixL_length (xs ys : List Int) (k : Int) : (mixL xs ys k).length = xs.length := tab_length _ _

/-- k times each element; none if one is too great. -/
def scaleF (xs : List Int) (k : Int) (i : Nat) : Int := xs.getD i 0 * k
def scaleL (xs : List Int) (k : Int) : List Int := tab (scaleF xs k) xs.length
def bigAt (x k : Int) : Bool := decide (x ≠ 0) && decide (1099511627776 / max x (-x) < max k (-k))
def scaleB (xs : List Int) (k : Int) : Bool := isSeq xs && (sampleB k && isSeq (scaleL xs k))
def scaleV (xs : List Int) (k : Int) : List Int := seqOr (scaleB xs k) (scaleL xs k)
theorem scaleL_length (xs : List Int) (k : Int) : (scaleL xs k).length = xs.length := tab_length _ _
theorem abs_mul_le {x k M : Int} (hx : x ≠ 0) (hM : 0 ≤ M) : (M / max x (-x) < max k (-k)) ↔ ¬ (-M ≤ x * k ∧ x * k ≤ M) := by
  have hp : 0 < max x (-x) := by omega
  have hk : 0 ≤ max k (-k) := by omega
  have h1 : (M / max x (-x) < max k (-k)) ↔ M < max k (-k) * max x (-x) := Int.ediv_lt_iff_lt_mul hp
  rw [h1]
  have h2 : max k (-k) * max x (-x) = max (x * k) (-(x * k)) := by
    rcases Int.le_total 0 x with ax | ax <;> rcases Int.le_total 0 k with ak | ak
    · have e : 0 ≤ x * k := Int.mul_nonneg ax ak
      rw [Int.max_eq_left (by omega), Int.max_eq_left (by omega), Int.max_eq_left (by omega), Int.mul_comm]
    · have e : x * k ≤ 0 := Int.mul_nonpos_of_nonneg_of_nonpos ax ak
      rw [Int.max_eq_right (by omega), Int.max_eq_left (by omega), Int.max_eq_right (by omega), Int.neg_mul, Int.mul_comm]
    · have e : x * k ≤ 0 := Int.mul_nonpos_of_nonpos_of_nonneg ax ak
      rw [Int.max_eq_left (by omega), Int.max_eq_right (by omega), Int.max_eq_right (by omega), Int.mul_neg, Int.mul_comm]
    · have e : 0 ≤ x * k := Int.mul_nonneg_of_nonpos_of_nonpos ax ak
      rw [Int.max_eq_right (by omega), Int.max_eq_right (by omega), Int.max_eq_left (by omega), Int.neg_mul_neg, Int.mul_comm]
  rw [h2]
  omega
theorem scale_big {xs : List Int} {k : Int} {i : Nat} (hi : i < xs.length) (hb : sampleB (xs.getD i 0 * k) = false) : scaleB xs k = false := by
  have h : isSeq (scaleL xs k) = false := isSeq_no (k := i) (by rw [scaleL_length]; exact hi) (by rw [scaleL, tab_at _ _ _ hi, scaleF]; exact hb)
  simp [scaleB, h]
theorem scale_ok {xs : List Int} {k : Int} (h1 : isSeq xs = true) (h2 : sampleB k = true) (h : ∀ i, i < xs.length → sampleB (xs.getD i 0 * k) = true) : scaleB xs k = true := by
  have h3 : isSeq (scaleL xs k) = true := by
    refine isSeq_mk (by rw [scaleL_length]; exact isSeq_len h1) (fun x hx => ?_)
    obtain ⟨i, hi, rfl⟩ := tab_mem hx
    unfold scaleF
    exact sampleB_true (h i hi)
  simp [scaleB, h1, h2, h3]
theorem scaleB_no {xs : List Int} {k : Int} (h : isSeq xs = false ∨ sampleB k = false) : scaleB xs k = false := by
  rcases h with h | h <;> simp [scaleB, h]
theorem seqOr_len {b : Bool} {ys : List Int} (h : b = true → ys.length ≤ 1048576) : (seqOr b ys).length ≤ 1048576 := by
  cases hb : b
  · rw [seqOr_no rfl]; simp
  · rw [seqOr_yes rfl]; exact h hb
theorem mixV_len (xs ys : List Int) (k : Int) : (mixV xs ys k).length ≤ 1048576 :=
  seqOr_len fun h => by have := isSeq_len (mixB_true h).2.2.2; omega
theorem scaleB_true {xs : List Int} {k : Int} (h : scaleB xs k = true) : isSeq xs = true ∧ sampleB k = true ∧ isSeq (scaleL xs k) = true := by simpa [scaleB] using h
theorem scaleV_len (xs : List Int) (k : Int) : (scaleV xs k).length ≤ 1048576 :=
  seqOr_len fun h => by have := isSeq_len (scaleB_true h).2.2; omega
/-- Nothing, and false. -/
theorem ret_none {w : World} {ys : List Int} {b : Bool} (hb : b = false) : RetOwnB w (seqOr b ys) b (.returned (.tuple #[.slice none 0 0, .bool false])) w :=
  ⟨none, 0, 0, by rw [hb], by rw [seqOr_no hb]; exact Own.nil, Below.refl _ _⟩
theorem ret_none' {w w' : World} {ys : List Int} {b : Bool} (hb : b = false) (hw : Below w.heap.size w w') : RetOwnB w (seqOr b ys) b (.returned (.tuple #[.slice none 0 0, .bool false])) w' :=
  ⟨none, 0, 0, by rw [hb], by rw [seqOr_no hb]; exact Own.nil, hw⟩
theorem ret_list {w w' : World} {ao : Option Addr} {n cap : Nat} {ys : List Int} {b : Bool} (hb : b = true) (ho : Own w' w.heap.size w'.heap.size ao n cap ys) (hw : Below w.heap.size w w') :
    RetOwnB w (seqOr b ys) b (.returned (.tuple #[.slice ao n cap, .bool true])) w' :=
  ⟨ao, n, cap, by rw [hb], by rw [seqOr_yes hb]; exact ho, hw⟩

end Go.Proofs.Ytmgjbldnohkodaa
