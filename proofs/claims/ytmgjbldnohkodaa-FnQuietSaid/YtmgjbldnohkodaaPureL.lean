/- Plain laws of quantisers: levels stay, order is kept, none is nearer. Nothing of the program is named here. -/
import Derived.Test.YtmgjbldnohkodaaPureQ
import Derived.Test.YtmgjbldnohkodaaPureS
namespace Go.Proofs.Ytmgjbldnohkodaa

theorem mid_succ (l s i : Int) : s * (2 * (i + 1) - l) = s * (2 * i - l) + 2 * s := by
  rw [show 2 * (i + 1) - l = (2 * i - l) + 2 from by omega, Int.mul_add]; omega
theorem lev_eq (l s i : Int) : lev l s i = s * (2 * i - l) + s := by
  unfold lev
  rw [show 2 * i - (l - 1) = (2 * i - l) + 1 from by omega, Int.mul_add, Int.mul_one]
theorem lev_idx {l s i : Int} (hq : isQ l s = true) (h0 : 0 ≤ i) (h1 : i < l) : idx l s (lev l s i) = i := by
  have hs := isQ_true hq
  refine (idx_of hq ⟨h0, h1, .inr ?_, .inr ?_⟩).symm
  · rw [lev_eq]; omega
  · rw [lev_eq, mid_succ]; omega
theorem lev_mono {l s i j : Int} (hs : 0 ≤ s) (h : i ≤ j) : lev l s i ≤ lev l s j := by
  rw [lev_eq, lev_eq]; have := mid_mono (l := l) hs h; omega
theorem idx_mono {l s v w : Int} (hq : isQ l s = true) (h : v ≤ w) : idx l s v ≤ idx l s w := by
  have hs := isQ_true hq
  have a := idx_is v hq
  have b := idx_is w hq
  rcases Int.lt_or_le (idx l s w) (idx l s v) with hlt | hge
  · exfalso
    have h1 := a.2.2.1
    have h2 := b.2.2.2
    have h3 := mid_mono (l := l) (s := s) (i := idx l s w + 1) (j := idx l s v) (by omega) (by omega)
    have := a.1; have := a.2.1; have := b.1; have := b.2.1
    rcases h1 with h1 | h1 <;> rcases h2 with h2 | h2 <;> omega
  · exact hge
/-- No level is nearer than that of idx, and of two that are as near it is the greater one. -/
theorem lev_near {l s v k : Int} (hq : isQ l s = true) (h0 : 0 ≤ k) (h1 : k < l) :
    max (lev l s (idx l s v) - v) (-(lev l s (idx l s v) - v)) ≤ max (lev l s k - v) (-(lev l s k - v)) ∧
    (max (lev l s (idx l s v) - v) (-(lev l s (idx l s v) - v)) = max (lev l s k - v) (-(lev l s k - v)) → lev l s k ≤ lev l s (idx l s v)) := by
  have hs := isQ_true hq
  have a := idx_is v hq
  generalize idx l s v = i at a ⊢
  obtain ⟨a1, a2, a3, a4⟩ := a
  rcases Int.lt_trichotomy k i with hk | hk | hk
  · have h3 := mid_mono (l := l) (s := s) (i := k + 1) (j := i) (by omega) (by omega)
    rw [mid_succ] at h3
    rw [lev_eq, lev_eq]
    rcases a3 with a3 | a3
    · omega
    · constructor <;> omega
  · subst hk; exact ⟨Int.le_refl _, fun _ => Int.le_refl _⟩
  · have h3 := mid_mono (l := l) (s := s) (i := i + 1) (j := k) (by omega) (by omega)
    rw [mid_succ] at h3
    rw [lev_eq, lev_eq]
    rcases a4 with a4 | a4
    · omega
    · rw [mid_succ] at a4
      constructor <;> omega
/-- What does not overload is missed by a step at most. -/
theorem lev_miss {l s v : Int} (hq : isQ l s = true) (h1 : v ≤ l * s) (h2 : -(l * s) ≤ v) : -s ≤ lev l s (idx l s v) - v ∧ lev l s (idx l s v) - v ≤ s := by
  have hs := isQ_true hq
  have a := idx_is v hq
  generalize idx l s v = i at a ⊢
  obtain ⟨a1, a2, a3, a4⟩ := a
  rw [lev_eq]
  rw [mid_succ] at a4
  constructor
  · rcases a4 with a4 | a4
    · subst a4
      have e : s * (2 * (l - 1) - l) = l * s - 2 * s := by rw [show 2 * (l - 1) - l = l - 2 from by omega, Int.mul_sub, Int.mul_comm]; omega
      omega
    · omega
  · rcases a3 with a3 | a3
    · subst a3
      have e : s * (2 * 0 - l) = -(l * s) := by rw [show 2 * 0 - l = -l from by omega, Int.mul_neg, Int.mul_comm]
      omega
    · omega

/-- The levels and the errors of a sequence. -/
def qsF (l s : Int) (xs : List Int) (i : Nat) : Int := lev l s (idx l s (xs.getD i 0))
def qsL (l s : Int) (xs : List Int) : List Int := tab (qsF l s xs) xs.length
def esF (l s : Int) (xs : List Int) (i : Nat) : Int := qsF l s xs i - xs.getD i 0
def esL (l s : Int) (xs : List Int) : List Int := tab (esF l s xs) xs.length
def qsB (l s : Int) (xs : List Int) : Bool := isQ l s && (isSeq xs && isSeq (esL l s xs))
def qsV (l s : Int) (xs : List Int) : List Int := seqOr (qsB l s xs) (qsL l s xs)
def esV (l s : Int) (xs : List Int) : List Int := seqOr (qsB l s xs) (esL l s xs)
theorem qsL_length (l s : Int) (xs : List Int) : (qsL l s xs).length = xs.length := tab_length _ _
theorem qsB_no {l s : Int} {xs : List Int} (h : isQ l s = false ∨ isSeq xs = false ∨ isSeq (esL l s xs) = false) : qsB l s xs = false := by
  rcases h with h | h | h <;> simp [qsB, h]
theorem qsB_mk {l s : Int} {xs : List Int} (h1 : isQ l s = true) (h2 : isSeq xs = true) : qsB l s xs = isSeq (esL l s xs) := by simp [qsB, h1, h2]
theorem qsV_len (l s : Int) (xs : List Int) : (qsV l s xs).length ≤ 1048576 :=
  seqOr_len fun h => by
    simp [qsB] at h
    have := isSeq_len h.2.1
    rw [qsL_length]
    omega
theorem esV_len (l s : Int) (xs : List Int) : (esV l s xs).length ≤ 1048576 :=
  seqOr_len fun h => by
    simp [qsB] at h
    have := isSeq_len h.2.2
    omega
theorem qs_bd {l s : Int} (xs : List Int) (i : Nat) (hq : isQ l s = true) : -17179869184 ≤ qsF l s xs i ∧ qsF l s xs i ≤ 17179869184 := by
  have hi := idx_is (xs.getD i 0) hq
  exact lev_bd hq hi.1 hi.2.1
theorem quant_seq {l s x : Int} (hq : isQ l s = true) (h : -1099511627776 ≤ x ∧ x ≤ 1099511627776) : quant l s x = lev l s (idx l s x) :=
  quant_yes hq (by simp [loud]; omega)
theorem loud_seq {x : Int} (h : -1099511627776 ≤ x ∧ x ≤ 1099511627776) : loud x = false := by simp [loud]; omega
theorem qs_seq {l s : Int} {xs : List Int} (hq : isQ l s = true) (hx : isSeq xs = true) : isSeq (qsL l s xs) = true := by
  refine isSeq_mk (by rw [qsL_length]; exact isSeq_len hx) (fun x hm => ?_)
  obtain ⟨i, _, rfl⟩ := tab_mem hm
  have := qs_bd xs i hq
  omega
/-- The errors are the levels less the elements. -/
theorem mix_es (l s : Int) (xs : List Int) : mixL (qsL l s xs) xs (-1) = esL l s xs := by
  unfold mixL esL
  rw [qsL_length]
  refine tab_congr fun i hi => ?_
  unfold mixF esF qsL
  rw [tab_at _ _ _ hi]
  omega
theorem mixB_es {l s : Int} {xs : List Int} (hq : isQ l s = true) (hx : isSeq xs = true) : mixB (qsL l s xs) xs (-1) = qsB l s xs ∧ mixV (qsL l s xs) xs (-1) = esV l s xs := by
  have h : mixB (qsL l s xs) xs (-1) = qsB l s xs := by rw [mixB_mk (qs_seq hq hx) hx (qsL_length _ _ _), mix_es, qsB_mk hq hx]
  exact ⟨h, by unfold mixV esV; rw [h, mix_es]⟩

/-- Is a number a level; the numbers of levels. -/
def isLev (l s v : Int) : Bool := decide (lev l s (idxV l s v) = v)
def btUpto (l s : Int) (xs : List Int) (k : Nat) : Prop := ∀ i, i < k → isLev l s (xs.getD i 0) = true
theorem btUpto_zero (l s : Int) (xs : List Int) : btUpto l s xs 0 := fun i h => absurd h (by omega)
theorem btUpto_succ {l s : Int} {xs : List Int} {k : Nat} (h : btUpto l s xs k) (hx : isLev l s (xs.getD k 0) = true) : btUpto l s xs (k + 1) := fun i hi => by
  by_cases e : i = k
  · subst e; exact hx
  · exact h i (by omega)
def btF (l s : Int) (xs : List Int) (i : Nat) : Int := idxV l s (xs.getD i 0)
def btL (l s : Int) (xs : List Int) : List Int := tab (btF l s xs) xs.length
def btB (l s : Int) (xs : List Int) : Bool := isQ l s && (decide (xs.length ≤ 1000) && xs.all (isLev l s))
def btV (l s : Int) (xs : List Int) : List Int := seqOr (btB l s xs) (btL l s xs)
theorem btV_len (l s : Int) (xs : List Int) : (btV l s xs).length ≤ 1048576 :=
  seqOr_len fun h => by
    simp [btB] at h
    rw [btL, tab_length]
    omega
theorem btB_no {l s : Int} {xs : List Int} (h : isQ l s = false ∨ ¬ xs.length ≤ 1000) : btB l s xs = false := by
  rcases h with h | h <;> simp [btB, h]
theorem btB_bad {l s : Int} {xs : List Int} {k : Nat} (hk : k < xs.length) (h : isLev l s (xs.getD k 0) = false) : btB l s xs = false := by
  rw [← Bool.not_eq_true]
  intro h1
  simp only [btB, Bool.and_eq_true, List.all_eq_true] at h1
  have := h1.2.2 _ (List.getElem_mem hk)
  rw [← getD_at xs k hk, h] at this
  cases this
theorem btB_yes {l s : Int} {xs : List Int} {n : Nat} (hl : xs.length = n) (hq : isQ l s = true) (hn : n ≤ 1000) (h : btUpto l s xs n) : btB l s xs = true := by
  simp only [btB, Bool.and_eq_true, List.all_eq_true, decide_eq_true_eq]
  refine ⟨hq, by omega, fun x hx => ?_⟩
  obtain ⟨i, hi, rfl⟩ := List.getElem_of_mem hx
  rw [← getD_at xs i hi]
  exact h i (by omega)
theorem idxV_bd {l s : Int} (v : Int) (hq : isQ l s = true) : 0 ≤ idxV l s v ∧ idxV l s v < l := by
  have := isQ_true hq
  cases h : loud v
  · rw [idxV_yes hq h]
    have hi := idx_is v hq
    exact ⟨hi.1, hi.2.1⟩
  · rw [idxV_no (.inr h)]; omega
theorem lev_rng {l s i : Int} (hq : isQ l s = true) (h0 : 0 ≤ i) (h1 : i < l) : -(l * s) ≤ lev l s i ∧ lev l s i ≤ l * s := by
  have hs := isQ_true hq
  have a := mul_bd (s := s) (t := 2 * i - (l - 1)) (M := l) (by omega) (by omega) (by omega)
  unfold lev
  rw [Int.mul_comm l s]
  exact a
/-- What lies outside the range is no level. -/
theorem isLev_out {l s v : Int} (hq : isQ l s = true) (h : v < -(l * s) ∨ l * s < v) : isLev l s v = false := by
  have hi := idxV_bd v hq
  have hr := lev_rng hq hi.1 hi.2
  simp only [isLev, decide_eq_false_iff_not]
  omega
theorem isLev_in {l s v : Int} (hq : isQ l s = true) (h0 : -(l * s) ≤ v) (h1 : v ≤ l * s) : loud v = false ∧ idxV l s v = idx l s v := by
  have hb := rng_bd hq
  have hl : loud v = false := by simp [loud]; omega
  exact ⟨hl, idxV_yes hq hl⟩
end Go.Proofs.Ytmgjbldnohkodaa
