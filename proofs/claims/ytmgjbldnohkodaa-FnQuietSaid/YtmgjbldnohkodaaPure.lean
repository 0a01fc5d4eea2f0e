/- Plain functions on lists of ints: what the program's functions compute. Nothing of the program is named here. -/
import Derived.Test.YtmgjbldnohkodaaMem
namespace Go.Proofs.Ytmgjbldnohkodaa

def sampleB (v : Int) : Bool := decide (-1099511627776 ≤ v) && decide (v ≤ 1099511627776)
theorem sampleB_true {v : Int} (h : sampleB v = true) : -1099511627776 ≤ v ∧ v ≤ 1099511627776 := by simpa [sampleB] using h
theorem sampleB_mk {v : Int} (h1 : -1099511627776 ≤ v) (h2 : v ≤ 1099511627776) : sampleB v = true := by simp [sampleB]; omega
theorem sampleB_false {v : Int} (h : sampleB v = false) : v < -1099511627776 ∨ 1099511627776 < v := by
  by_cases h1 : -1099511627776 ≤ v
  · by_cases h2 : v ≤ 1099511627776
    · rw [sampleB_mk h1 h2] at h; cases h
    · omega
  · omega
theorem sampleB_no {v : Int} (h : v < -1099511627776 ∨ 1099511627776 < v) : sampleB v = false := by
  rw [← Bool.not_eq_true]
  intro h1
  have := sampleB_true h1
  omega

def isSeq (xs : List Int) : Bool := xs.all sampleB && decide (xs.length ≤ 1000)
theorem isSeq_len {xs : List Int} (h : isSeq xs = true) : xs.length ≤ 1000 := by
  simp only [isSeq, Bool.and_eq_true, decide_eq_true_eq] at h; exact h.2
theorem isSeq_mem {xs : List Int} (h : isSeq xs = true) : ∀ x ∈ xs, -1099511627776 ≤ x ∧ x ≤ 1099511627776 := by
  simp only [isSeq, Bool.and_eq_true, List.all_eq_true] at h
  exact fun x hx => sampleB_true (h.1 x hx)
theorem isSeq_at {xs : List Int} (h : isSeq xs = true) (k : Nat) : -1099511627776 ≤ xs.getD k 0 ∧ xs.getD k 0 ≤ 1099511627776 := by
  by_cases hk : k < xs.length
  · have : xs.getD k 0 = xs[k] := by simp [List.getD, List.getElem?_eq_getElem hk]
    rw [this]
    exact isSeq_mem h _ (List.getElem_mem hk)
  · have : xs.getD k 0 = 0 := by simp [List.getD, List.getElem?_eq_none (Nat.le_of_not_lt hk)]
    rw [this]; omega
theorem isSeq_mk {xs : List Int} (hl : xs.length ≤ 1000) (h : ∀ x ∈ xs, -1099511627776 ≤ x ∧ x ≤ 1099511627776) : isSeq xs = true := by
  simp only [isSeq, Bool.and_eq_true, decide_eq_true_eq, List.all_eq_true]
  exact ⟨fun x hx => sampleB_mk (h x hx).1 (h x hx).2, hl⟩

/-- The first k elements are samples. -/
def okUpto (xs : List Int) (k : Nat) : Prop := ∀ i, i < k → sampleB (xs.getD i 0) = true
theorem okUpto_zero (xs : List Int) : okUpto xs 0 := fun i h => absurd h (by omega)
theorem okUpto_succ {xs : List Int} {k : Nat} (h : okUpto xs k) (hx : sampleB (xs.getD k 0) = true) : okUpto xs (k + 1) := fun i hi => by
  by_cases e : i = k
  · subst e; exact hx
  · exact h i (by omega)
theorem getD_at (xs : List Int) (k : Nat) (h : k < xs.length) : xs.getD k 0 = xs[k] := by simp [List.getD, List.getElem?_eq_getElem h]
theorem isSeq_no {xs : List Int} {k : Nat} (hk : k < xs.length) (hx : sampleB (xs.getD k 0) = false) : isSeq xs = false := by
  rw [← Bool.not_eq_true]
  intro h
  have h1 := isSeq_mem h _ (List.getElem_mem hk)
  rw [← getD_at xs k hk] at h1
  have := sampleB_false hx
  omega
theorem isSeq_end {xs : List Int} {n : Nat} (hl : xs.length = n) (h : okUpto xs n) : isSeq xs = decide (n ≤ 1000) := by
  have h1 : xs.all sampleB = true := by
    rw [List.all_eq_true]
    intro x hx
    obtain ⟨i, hi, rfl⟩ := List.getElem_of_mem hx
    rw [← getD_at xs i hi]
    exact h i (by omega)
  simp [isSeq, h1, hl]

/-- The sum of the first k elements; the sum of a sequence, 0 if it is none. -/
def sumUpto (xs : List Int) : Nat → Int
  | 0 => 0
  | k + 1 => sumUpto xs k + xs.getD k 0
theorem sumUpto_succ (xs : List Int) (k : Nat) : sumUpto xs (k + 1) = sumUpto xs k + xs.getD k 0 := rfl
def sumOf (xs : List Int) : Int := if isSeq xs = true then sumUpto xs xs.length else 0
theorem sumOf_no {xs : List Int} (h : isSeq xs = false) : sumOf xs = 0 := by simp [sumOf, h]
theorem sumOf_yes {xs : List Int} (h : isSeq xs = true) : sumOf xs = sumUpto xs xs.length := by simp [sumOf, h]
theorem sumUpto_end {xs : List Int} {n : Nat} (hl : xs.length = n) (h : isSeq xs = true) : sumUpto xs n = sumOf xs := by rw [sumOf_yes h, hl]
theorem sumUpto_bound {xs : List Int} {M : Int} (h : ∀ i, -M ≤ xs.getD i 0 ∧ xs.getD i 0 ≤ M) (k : Nat) : -(M * k) ≤ sumUpto xs k ∧ sumUpto xs k ≤ M * k := by
  induction k with
  | zero => simp [sumUpto]
  | succ k ih =>
    rw [sumUpto_succ]
    have := h k
    have e : M * ((k + 1 : Nat) : Int) = M * k + M := by rw [Int.natCast_add, Int.mul_add]; simp
    rw [e]
    omega
theorem sumUpto_le {xs : List Int} {n : Nat} (h : isSeq xs = true) (k : Nat) (_hk : k ≤ n) : -(1099511627776 * (k : Int)) ≤ sumUpto xs k ∧ sumUpto xs k ≤ 1099511627776 * (k : Int) :=
  sumUpto_bound (fun i => isSeq_at h i) k
end Go.Proofs.Ytmgjbldnohkodaa
