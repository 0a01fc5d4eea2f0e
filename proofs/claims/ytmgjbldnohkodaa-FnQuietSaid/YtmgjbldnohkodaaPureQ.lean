/- Plain functions on quantisers: validity, levels, the number of the nearest level. -/
import Derived.Test.YtmgjbldnohkodaaPure
namespace Go.Proofs.Ytmgjbldnohkodaa

def isQ (l s : Int) : Bool := decide (2 ≤ l) && (decide (l ≤ 16) && (decide (1 ≤ s) && decide (s ≤ 1073741824)))
theorem isQ_true {l s : Int} (h : isQ l s = true) : 2 ≤ l ∧ l ≤ 16 ∧ 1 ≤ s ∧ s ≤ 1073741824 := by simpa [isQ] using h
theorem isQ_mk {l s : Int} (h1 : 2 ≤ l) (h2 : l ≤ 16) (h3 : 1 ≤ s) (h4 : s ≤ 1073741824) : isQ l s = true := by simp [isQ]; omega
theorem isQ_no {l s : Int} (h : ¬ (2 ≤ l ∧ l ≤ 16 ∧ 1 ≤ s ∧ s ≤ 1073741824)) : isQ l s = false := by
  rw [← Bool.not_eq_true]; intro h1; exact h (isQ_true h1)

/-- The level number i. -/
def lev (l s i : Int) : Int := s * (2 * i - (l - 1))
theorem mul_bd {s t M : Int} (hs : 0 ≤ s) (h1 : -M ≤ t) (h2 : t ≤ M) : -(s * M) ≤ s * t ∧ s * t ≤ s * M := by
  have a := Int.mul_le_mul_of_nonneg_left h1 hs
  have b := Int.mul_le_mul_of_nonneg_left h2 hs
  rw [Int.mul_neg] at a
  exact ⟨a, b⟩
theorem lev_bd {l s i : Int} (h : isQ l s = true) (h0 : 0 ≤ i) (h1 : i < l) : -17179869184 ≤ lev l s i ∧ lev l s i ≤ 17179869184 := by
  have hq := isQ_true h
  have := mul_bd (s := s) (t := 2 * i - (l - 1)) (M := 16) (by omega) (by omega) (by omega)
  unfold lev
  omega
/-- What the code's test asks: half the way from the level i - 1 to the level i. -/
theorem mid_bd {l s i : Int} (h : isQ l s = true) (h0 : 0 ≤ i) (h1 : i ≤ l) : -17179869184 ≤ s * (2 * i - l) ∧ s * (2 * i - l) ≤ 17179869184 := by
  have hq := isQ_true h
  have := mul_bd (s := s) (t := 2 * i - l) (M := 16) (by omega) (by omega) (by omega)
  omega
theorem rng_bd {l s : Int} (h : isQ l s = true) : 2 ≤ l * s ∧ l * s ≤ 17179869184 := by
  have hq := isQ_true h
  have a := Int.mul_le_mul_of_nonneg_left (show l ≤ 16 by omega) (show (0 : Int) ≤ s by omega)
  have b := Int.mul_le_mul_of_nonneg_left (show 2 ≤ l by omega) (show (0 : Int) ≤ s by omega)
  rw [Int.mul_comm l s]
  omega

/-- i is the number of the level that is nearest to v; of two, the greater one. -/
def IsIdx (l s v i : Int) : Prop := 0 ≤ i ∧ i < l ∧ (i = 0 ∨ s * (2 * i - l) ≤ v) ∧ (i = l - 1 ∨ v < s * (2 * (i + 1) - l))
theorem mid_mono {l s i j : Int} (hs : 0 ≤ s) (h : i ≤ j) : s * (2 * i - l) ≤ s * (2 * j - l) := Int.mul_le_mul_of_nonneg_left (by omega) hs
theorem IsIdx.unique {l s v i j : Int} (hs : 0 ≤ s) (hi : IsIdx l s v i) (hj : IsIdx l s v j) : i = j := by
  obtain ⟨a1, a2, a3, a4⟩ := hi
  obtain ⟨b1, b2, b3, b4⟩ := hj
  rcases Int.lt_trichotomy i j with h | h | h
  · have := mid_mono (l := l) (s := s) hs (show i + 1 ≤ j by omega)
    omega
  · exact h
  · have := mid_mono (l := l) (s := s) hs (show j + 1 ≤ i by omega)
    omega
/-- The number of the nearest level, found from the level k on upward. -/
def idxFrom (l s v : Int) : Nat → Int → Int
  | 0, i => i
  | f + 1, i => if i + 1 < l ∧ s * (2 * (i + 1) - l) ≤ v then idxFrom l s v f (i + 1) else i
def idx (l s v : Int) : Int := idxFrom l s v l.toNat 0
theorem idxFrom_is {l s v : Int} : ∀ (f : Nat) (i : Int), 0 ≤ i → i < l → (i = 0 ∨ s * (2 * i - l) ≤ v) → l - i ≤ f → IsIdx l s v (idxFrom l s v f i) := by
  intro f
  induction f with
  | zero => intro i h0 h1 _ hf; omega
  | succ f ih =>
    intro i h0 h1 h2 hf
    unfold idxFrom
    by_cases hc : i + 1 < l ∧ s * (2 * (i + 1) - l) ≤ v
    · rw [if_pos hc]
      exact ih (i + 1) (by omega) hc.1 (.inr hc.2) (by omega)
    · rw [if_neg hc]
      refine ⟨h0, h1, h2, ?_⟩
      omega
theorem idx_is {l s : Int} (v : Int) (h : isQ l s = true) : IsIdx l s v (idx l s v) := by
  have := isQ_true h
  exact idxFrom_is l.toNat 0 (by omega) (by omega) (.inl rfl) (by omega)
theorem idx_of {l s v i : Int} (h : isQ l s = true) (hi : IsIdx l s v i) : i = idx l s v :=
  IsIdx.unique (by have := isQ_true h; omega) hi (idx_is v h)

/-- The nearest among the levels 0 to m: for the reference's loop. -/
def IsBest (l s v m b : Int) : Prop := 0 ≤ b ∧ b ≤ m ∧ (b = 0 ∨ s * (2 * b - l) ≤ v) ∧ (b = m ∨ v < s * (2 * (b + 1) - l))
theorem IsBest.zero (l s v : Int) : IsBest l s v 0 0 := ⟨by omega, by omega, .inl rfl, .inl rfl⟩
theorem IsBest.idx {l s v b : Int} (h : IsBest l s v (l - 1) b) : IsIdx l s v b := ⟨h.1, by have := h.2.1; omega, h.2.2.1, h.2.2.2⟩
theorem lev_mid (l s i b : Int) : lev l s i + lev l s b = s * (2 * i - l) + s * (2 * (b + 1) - l) := by
  unfold lev
  rw [← Int.mul_add, ← Int.mul_add]
  congr 1
  omega
theorem lev_sub (l s i b : Int) : lev l s i - lev l s b = 2 * (s * (i - b)) := by
  unfold lev
  rw [← Int.mul_sub, Int.mul_left_comm]
  congr 1
  omega
/-- The next level is taken. -/
theorem IsBest.take {l s v m b : Int} (hs : 1 ≤ s) (h : IsBest l s v m b) (ht : max (lev l s (m + 1) - v) (-(lev l s (m + 1) - v)) ≤ max (lev l s b - v) (-(lev l s b - v))) : IsBest l s v (m + 1) (m + 1) := by
  obtain ⟨h0, h1, h2, h3⟩ := h
  have e1 := lev_mid l s (m + 1) b
  have e2 := lev_sub l s (m + 1) b
  have hp : 1 * (m + 1 - b) ≤ s * (m + 1 - b) := Int.mul_le_mul_of_nonneg_right hs (by omega)
  have hv : s * (2 * (m + 1) - l) + s * (2 * (b + 1) - l) ≤ 2 * v := by omega
  refine ⟨by omega, by omega, .inr ?_, .inl rfl⟩
  rcases h3 with rfl | h3
  · omega
  · have := mid_mono (l := l) (s := s) (by omega) (show b + 1 ≤ m + 1 by omega)
    omega
theorem IsBest.leave {l s v m b : Int} (hs : 1 ≤ s) (h : IsBest l s v m b) (ht : ¬ max (lev l s (m + 1) - v) (-(lev l s (m + 1) - v)) ≤ max (lev l s b - v) (-(lev l s b - v))) : IsBest l s v (m + 1) b := by
  obtain ⟨h0, h1, h2, h3⟩ := h
  have e1 := lev_mid l s (m + 1) b
  have e2 := lev_sub l s (m + 1) b
  have hp : 1 * (m + 1 - b) ≤ s * (m + 1 - b) := Int.mul_le_mul_of_nonneg_right hs (by omega)
  have hv : 2 * v < s * (2 * (m + 1) - l) + s * (2 * (b + 1) - l) := by omega
  refine ⟨h0, by omega, h2, .inr ?_⟩
  rcases h3 with rfl | h3
  · omega
  · exact h3

/-- LevelOf, IndexOf, Quantise, RangeOf, Overloads as functions. -/
def levB (l s i : Int) : Bool := isQ l s && (decide (0 ≤ i) && decide (i < l))
def levV (l s i : Int) : Int := if levB l s i = true then lev l s i else 0
def loud (v : Int) : Bool := decide (v < -1152921504606846976) || decide (1152921504606846976 < v)
theorem loud_no {v : Int} (h : loud v = false) : -1152921504606846976 ≤ v ∧ v ≤ 1152921504606846976 := by
  simp [loud] at h; omega
def idxV (l s v : Int) : Int := if isQ l s = true ∧ loud v = false then idx l s v else 0
def quant (l s v : Int) : Int := if isQ l s = true ∧ loud v = false then lev l s (idx l s v) else 0
def rng (l s : Int) : Int := if isQ l s = true then l * s else 0
def over (l s v : Int) : Bool := isQ l s && (decide (l * s < v) || decide (v < -(l * s)))
theorem levV_yes {l s i : Int} (h : levB l s i = true) : levV l s i = lev l s i := by simp [levV, h]
theorem levV_no {l s i : Int} (h : levB l s i = false) : levV l s i = 0 := by simp [levV, h]
theorem levB_yes {l s i : Int} (h : isQ l s = true) (h0 : 0 ≤ i) (h1 : i < l) : levB l s i = true := by simp [levB, h]; omega
theorem levB_no {l s i : Int} (h : isQ l s = false ∨ i < 0 ∨ l ≤ i) : levB l s i = false := by
  rcases h with h | h
  · simp [levB, h]
  · simp [levB]; omega
theorem idxV_yes {l s v : Int} (h : isQ l s = true) (h1 : loud v = false) : idxV l s v = idx l s v := by simp [idxV, h, h1]
theorem idxV_no {l s v : Int} (h : isQ l s = false ∨ loud v = true) : idxV l s v = 0 := by
  unfold idxV; rcases h with h | h <;> simp [h]
theorem quant_yes {l s v : Int} (h : isQ l s = true) (h1 : loud v = false) : quant l s v = lev l s (idx l s v) := by simp [quant, h, h1]
theorem quant_no {l s v : Int} (h : isQ l s = false ∨ loud v = true) : quant l s v = 0 := by
  unfold quant; rcases h with h | h <;> simp [h]
theorem rng_yes {l s : Int} (h : isQ l s = true) : rng l s = l * s := by simp [rng, h]
theorem rng_no {l s : Int} (h : isQ l s = false) : rng l s = 0 := by simp [rng, h]
end Go.Proofs.Ytmgjbldnohkodaa
