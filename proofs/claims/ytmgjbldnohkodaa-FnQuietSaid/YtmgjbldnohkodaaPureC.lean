/- Plain functions on sequences: convolution; in two parts of numbers, as the code does it. -/
import Derived.Test.YtmgjbldnohkodaaPureD
namespace Go.Proofs.Ytmgjbldnohkodaa

/-- One term of the convolution at n. -/
def cvT (xs hs : List Int) (n i : Nat) : Int := if i ≤ n then hs.getD i 0 * xs.getD (n - i) 0 else 0
def cvUpto (xs hs : List Int) (n : Nat) : Nat → Int
  | 0 => 0
  | i + 1 => cvUpto xs hs n i + cvT xs hs n i
theorem cvUpto_succ (xs hs : List Int) (n i : Nat) : cvUpto xs hs n (i + 1) = cvUpto xs hs n i + cvT xs hs n i := rfl
def cvF (xs hs : List Int) (n : Nat) : Int := cvUpto xs hs n hs.length
def cvL (xs hs : List Int) : List Int := tab (cvF xs hs) xs.length
def coB (h : Int) : Bool := decide (-1000000 ≤ h) && decide (h ≤ 1000000)
theorem coB_true {h : Int} (e : coB h = true) : -1000000 ≤ h ∧ h ≤ 1000000 := by simpa [coB] using e
theorem coB_false {h : Int} (e : coB h = false) : h < -1000000 ∨ 1000000 < h := by simp [coB] at e; omega
def coAll (hs : List Int) : Bool := hs.all coB && decide (hs.length ≤ 100)
def cvB (xs hs : List Int) : Bool := isSeq xs && (coAll hs && isSeq (cvL xs hs))
def cvV (xs hs : List Int) : List Int := seqOr (cvB xs hs) (cvL xs hs)
theorem coAll_at {hs : List Int} (h : coAll hs = true) (k : Nat) : -1000000 ≤ hs.getD k 0 ∧ hs.getD k 0 ≤ 1000000 := by
  simp only [coAll, Bool.and_eq_true, List.all_eq_true] at h
  by_cases hk : k < hs.length
  · rw [getD_at hs k hk]; exact coB_true (h.1 _ (List.getElem_mem hk))
  · rw [getD_out hs k (by omega)]; omega
theorem coAll_len {hs : List Int} (h : coAll hs = true) : hs.length ≤ 100 := by
  simp only [coAll, Bool.and_eq_true, decide_eq_true_eq] at h; exact h.2
theorem coAll_no {hs : List Int} {k : Nat} (hk : k < hs.length) (h : coB (hs.getD k 0) = false) : coAll hs = false := by
  rw [← Bool.not_eq_true]
  intro h1
  simp only [coAll, Bool.and_eq_true, List.all_eq_true] at h1
  have := h1.1 _ (List.getElem_mem hk)
  rw [← getD_at hs k hk, h] at this
  cases this
def coUpto (hs : List Int) (k : Nat) : Prop := ∀ i, i < k → coB (hs.getD i 0) = true
theorem coUpto_zero (hs : List Int) : coUpto hs 0 := fun i h => absurd h (by omega)
theorem coUpto_succ {hs : List Int} {k : Nat} (h : coUpto hs k) (hx : coB (hs.getD k 0) = true) : coUpto hs (k + 1) := fun i hi => by
  by_cases e : i = k
  · subst e; exact hx
  · exact h i (by omega)
theorem coAll_yes {hs : List Int} {n : Nat} (hl : hs.length = n) (hn : n ≤ 100) (h : coUpto hs n) : coAll hs = true := by
  have h1 : hs.all coB = true := by
    rw [List.all_eq_true]
    intro x hx
    obtain ⟨i, hi, rfl⟩ := List.getElem_of_mem hx
    rw [← getD_at hs i hi]
    exact h i (by omega)
  simp [coAll, h1, hl, hn]
theorem cvB_no {xs hs : List Int} (h : isSeq xs = false ∨ coAll hs = false) : cvB xs hs = false := by
  rcases h with h | h <;> simp [cvB, h]
theorem cvB_mk {xs hs : List Int} (h1 : isSeq xs = true) (h2 : coAll hs = true) : cvB xs hs = isSeq (cvL xs hs) := by simp [cvB, h1, h2]
theorem cvV_len (xs hs : List Int) : (cvV xs hs).length ≤ 1048576 :=
  seqOr_len fun h => by
    simp [cvB] at h
    have := isSeq_len h.2.2
    omega
theorem cvB_big {xs hs : List Int} {n : Nat} (hn : n < xs.length) (h : sampleB (cvF xs hs n) = false) : cvB xs hs = false := by
  have h1 : isSeq (cvL xs hs) = false := isSeq_no (k := n) (by rw [cvL, tab_length]; exact hn) (by rw [cvL, tab_at _ _ _ hn]; exact h)
  simp [cvB, h1]

/-- The two parts of a number, as the program cuts it (towards zero) .. -/
def hiI (x : Int) : Int := x.tdiv 1048576
def loI (x : Int) : Int := x.tmod 1048576
/-- .. and as the reference does (downward). -/
def hiS (x : Int) : Int := x / 1048576
def loS (x : Int) : Int := x - x / 1048576 * 1048576
theorem partI (x : Int) : hiI x * 1048576 + loI x = x := by unfold hiI loI; have := Int.tmod_add_mul_tdiv x 1048576; omega
theorem partS (x : Int) : hiS x * 1048576 + loS x = x := by unfold hiS loS; omega
theorem partI_bd {x : Int} (h : -1099511627776 ≤ x ∧ x ≤ 1099511627776) : -1048576 ≤ hiI x ∧ hiI x ≤ 1048576 ∧ -1048576 ≤ loI x ∧ loI x ≤ 1048576 := by
  unfold hiI loI
  have h1 := Int.tmod_add_mul_tdiv x 1048576
  rcases Int.le_total 0 x with h0 | h0
  · have a := Int.tmod_nonneg (b := 1048576) h0
    have b := Int.tmod_lt_of_pos x (show (0 : Int) < 1048576 by omega)
    omega
  · have a : (-x).tmod 1048576 = -(x.tmod 1048576) := Int.neg_tmod ..
    have b := Int.tmod_nonneg (a := -x) (b := 1048576) (by omega)
    have c := Int.tmod_lt_of_pos (-x) (show (0 : Int) < 1048576 by omega)
    omega
theorem partS_bd {x : Int} (h : -1099511627776 ≤ x ∧ x ≤ 1099511627776) : -1048576 ≤ hiS x ∧ hiS x ≤ 1048576 ∧ 0 ≤ loS x ∧ loS x ≤ 1048576 := by unfold hiS loS; omega

theorem mul_bd2 {s t M : Int} (hs : 0 ≤ s) (h1 : -M ≤ t) (h2 : t ≤ M) : -(s * M) ≤ s * t ∧ s * t ≤ s * M := by
  have a := Int.mul_le_mul_of_nonneg_left h1 hs
  have b := Int.mul_le_mul_of_nonneg_left h2 hs
  rw [Int.mul_neg] at a
  exact ⟨a, b⟩
/-- Sums of h times a part. -/
def ptT (f : Int → Int) (xs hs : List Int) (n i : Nat) : Int := if i ≤ n then hs.getD i 0 * f (xs.getD (n - i) 0) else 0
def ptUpto (f : Int → Int) (xs hs : List Int) (n : Nat) : Nat → Int
  | 0 => 0
  | i + 1 => ptUpto f xs hs n i + ptT f xs hs n i
theorem ptUpto_succ (f : Int → Int) (xs hs : List Int) (n i : Nat) : ptUpto f xs hs n (i + 1) = ptUpto f xs hs n i + ptT f xs hs n i := rfl
theorem pt_join {f g : Int → Int} {xs hs : List Int} (h : ∀ x, f x * 1048576 + g x = x) (n i : Nat) : ptUpto f xs hs n i * 1048576 + ptUpto g xs hs n i = cvUpto xs hs n i := by
  induction i with
  | zero => rfl
  | succ i ih =>
    rw [ptUpto_succ, ptUpto_succ, cvUpto_succ, ← ih]
    unfold ptT cvT
    by_cases hi : i ≤ n
    · rw [if_pos hi, if_pos hi, if_pos hi]
      have e := h (xs.getD (n - i) 0)
      generalize xs.getD (n - i) 0 = x at e ⊢
      generalize hs.getD i 0 = c
      have e2 : c * x = c * (f x * 1048576 + g x) := by rw [e]
      rw [e2, Int.mul_add, Int.add_mul, ← Int.mul_assoc]
      omega
    · rw [if_neg hi, if_neg hi, if_neg hi]; omega
theorem ptT_bd {f : Int → Int} {xs hs : List Int} (hx : ∀ k, -1048576 ≤ f (xs.getD k 0) ∧ f (xs.getD k 0) ≤ 1048576) (hh : coAll hs = true) (n i : Nat) : -1048576000000 ≤ ptT f xs hs n i ∧ ptT f xs hs n i ≤ 1048576000000 := by
  unfold ptT
  by_cases hi : i ≤ n
  · rw [if_pos hi]
    have a := coAll_at hh i
    have b := hx (n - i)
    generalize f (xs.getD (n - i) 0) = x at b
    generalize hs.getD i 0 = c at a
    rcases Int.le_total 0 c with h0 | h0
    · have := mul_bd2 (s := c) (t := x) (M := 1048576) h0 b.1 b.2
      have : c * 1048576 ≤ 1048576000000 := by omega
      omega
    · have h3 := mul_bd2 (s := -c) (t := x) (M := 1048576) (by omega) b.1 b.2
      simp only [Int.neg_mul] at h3
      omega
  · rw [if_neg hi]; omega
theorem ptUpto_bd {f : Int → Int} {xs hs : List Int} (hx : ∀ k, -1048576 ≤ f (xs.getD k 0) ∧ f (xs.getD k 0) ≤ 1048576) (hh : coAll hs = true) (n i : Nat) : -(1048576000000 * (i : Int)) ≤ ptUpto f xs hs n i ∧ ptUpto f xs hs n i ≤ 1048576000000 * (i : Int) := by
  induction i with
  | zero => simp [ptUpto]
  | succ i ih =>
    have := ptT_bd hx hh n i
    rw [ptUpto_succ]
    omega
/-- Behind the last index that counts nothing comes. -/
theorem ptUpto_stop (f : Int → Int) (xs hs : List Int) (n i : Nat) (h : n < i) (k : Nat) : ptUpto f xs hs n (i + k) = ptUpto f xs hs n i := by
  induction k with
  | zero => rfl
  | succ k ih => rw [← Nat.add_assoc, ptUpto_succ, ih, ptT, if_neg (by omega), Int.add_zero]
end Go.Proofs.Ytmgjbldnohkodaa
