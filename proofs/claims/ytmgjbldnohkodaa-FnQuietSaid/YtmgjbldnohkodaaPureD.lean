/- Plain functions on sequences: differences, running sums, their coefficients. -/
import Derived.Test.YtmgjbldnohkodaaPureS
namespace Go.Proofs.Ytmgjbldnohkodaa

theorem tab_set (f : Nat → Int) (n i : Nat) (v : Int) (_h : i < n) : (tab f n).set i v = tab (fun j => if j = i then v else f j) n := by
  apply List.ext_getElem
  · simp [tab]
  · intro j h1 h2
    rw [List.getElem_set]
    simp only [tab, List.getElem_map, List.getElem_range]
    by_cases e : i = j
    · subst e; simp
    · rw [if_neg e, if_neg (fun h => e h.symm)]

def diffAt (ys : List Int) (i : Nat) : Int := if i = 0 then ys.getD 0 0 else ys.getD i 0 - ys.getD (i - 1) 0
/-- Each element less the one before it. -/
def diff1 (ys : List Int) : List Int := tab (diffAt ys) ys.length
def diffs (xs : List Int) : Nat → List Int
  | 0 => xs
  | k + 1 => diff1 (diffs xs k)
theorem diff1_length (ys : List Int) : (diff1 ys).length = ys.length := tab_length _ _
theorem diffs_length (xs : List Int) (k : Nat) : (diffs xs k).length = xs.length := by
  induction k with
  | zero => rfl
  | succ k ih => rw [diffs, diff1_length, ih]
def dStageF (ys : List Int) (i j : Nat) : Int := if j ≤ i then ys.getD j 0 else diffAt ys j
/-- The list while it is turned from its end on: the elements up to i are as they were. -/
def dStage (ys : List Int) (i : Nat) : List Int := tab (dStageF ys i) ys.length
theorem dStage_start (ys : List Int) (i : Nat) (h : ys.length ≤ i + 1) : dStage ys i = ys := by
  unfold dStage
  rw [show tab (dStageF ys i) ys.length = tab (fun j => ys.getD j 0) ys.length from tab_congr (fun j hj => by unfold dStageF; rw [if_pos (by omega)])]
  exact tab_self ys
theorem dStage_end (ys : List Int) : dStage ys 0 = diff1 ys := by
  unfold dStage diff1
  refine tab_congr (fun j _ => ?_)
  unfold dStageF
  by_cases h : j = 0
  · subst h; simp [diffAt]
  · rw [if_neg (by omega)]
theorem dStage_length (ys : List Int) (i : Nat) : (dStage ys i).length = ys.length := tab_length _ _
theorem dStage_here (ys : List Int) (i : Nat) (h : i < ys.length) : (dStage ys i).getD i 0 = ys.getD i 0 := by
  unfold dStage
  rw [tab_at _ _ _ h, dStageF, if_pos (Nat.le_refl _)]
theorem dStage_before (ys : List Int) (i : Nat) (h : i < ys.length) : (dStage ys i).getD (i - 1) 0 = ys.getD (i - 1) 0 := by
  unfold dStage
  rw [tab_at _ _ _ (by omega), dStageF, if_pos (by omega)]
theorem dStage_set (ys : List Int) (i : Nat) (h0 : 0 < i) (h : i < ys.length) : (dStage ys i).set i (ys.getD i 0 - ys.getD (i - 1) 0) = dStage ys (i - 1) := by
  unfold dStage
  rw [tab_set _ _ _ _ h]
  refine tab_congr (fun j _ => ?_)
  unfold dStageF
  by_cases e : j = i
  · subst e
    rw [if_pos rfl, if_neg (by omega), diffAt, if_neg (by omega)]
  · rw [if_neg e]
    by_cases h1 : j ≤ i
    · rw [if_pos h1, if_pos (by omega)]
    · rw [if_neg h1, if_neg (by omega)]
theorem getD_out (ys : List Int) (i : Nat) (h : ys.length ≤ i) : ys.getD i 0 = 0 := by simp [List.getD, List.getElem?_eq_none h]
theorem diff1_at (ys : List Int) (i : Nat) (h : i < ys.length) : (diff1 ys).getD i 0 = diffAt ys i := tab_at _ _ _ h
theorem diff1_bd {ys : List Int} {M : Int} (_hM : 0 ≤ M) (h : ∀ i, -M ≤ ys.getD i 0 ∧ ys.getD i 0 ≤ M) (i : Nat) : -(2 * M) ≤ (diff1 ys).getD i 0 ∧ (diff1 ys).getD i 0 ≤ 2 * M := by
  by_cases hi : i < ys.length
  · rw [diff1_at ys i hi, diffAt]
    have a := h i
    have b := h (i - 1)
    by_cases h0 : i = 0
    · subst h0; rw [if_pos rfl]; omega
    · rw [if_neg h0]; omega
  · rw [getD_out _ _ (by rw [diff1_length]; omega)]; omega
theorem diffs_bd {xs : List Int} {M : Int} (hM : 0 ≤ M) (h : ∀ i, -M ≤ xs.getD i 0 ∧ xs.getD i 0 ≤ M) (k : Nat) : ∀ i, -(2 ^ k * M) ≤ (diffs xs k).getD i 0 ∧ (diffs xs k).getD i 0 ≤ 2 ^ k * M := by
  induction k with
  | zero => simpa [diffs] using h
  | succ k ih =>
    intro i
    have := diff1_bd (M := 2 ^ k * M) (Int.mul_nonneg (Int.pow_nonneg (by omega)) hM) ih i
    rw [Int.pow_succ, Int.mul_comm (2 ^ k) 2, Int.mul_assoc]
    exact this
theorem diffs_le {xs : List Int} {M : Int} (hM : 0 ≤ M) (h : ∀ i, -M ≤ xs.getD i 0 ∧ xs.getD i 0 ≤ M) (k : Nat) (hk : k ≤ 6) (i : Nat) : -(64 * M) ≤ (diffs xs k).getD i 0 ∧ (diffs xs k).getD i 0 ≤ 64 * M := by
  have a := diffs_bd hM h k i
  have b : (2 : Int) ^ k ≤ 64 := by
    have : (2 : Nat) ^ k ≤ 2 ^ 6 := Nat.pow_le_pow_right (by omega) hk
    have e : ((2 ^ k : Nat) : Int) = (2 : Int) ^ k := by simp
    omega
  have c := Int.mul_le_mul_of_nonneg_right b hM
  omega

/-- DifferencesOf. -/
def ordB (k : Int) : Bool := decide (0 ≤ k) && decide (k ≤ 6)
theorem ordB_true {k : Int} (h : ordB k = true) : 0 ≤ k ∧ k ≤ 6 := by simpa [ordB] using h
theorem ordB_false {k : Int} (h : ordB k = false) : ¬ (0 ≤ k ∧ k ≤ 6) := by simp [ordB] at h; omega
def diffB (xs : List Int) (k : Int) : Bool := isSeq xs && (ordB k && isSeq (diffs xs k.toNat))
def diffV (xs : List Int) (k : Int) : List Int := seqOr (diffB xs k) (diffs xs k.toNat)
theorem diffB_no {xs : List Int} {k : Int} (h : isSeq xs = false ∨ ordB k = false) : diffB xs k = false := by
  rcases h with h | h <;> simp [diffB, h]
theorem diffB_mk {xs : List Int} {k : Int} (h1 : isSeq xs = true) (h2 : ordB k = true) : diffB xs k = isSeq (diffs xs k.toNat) := by simp [diffB, h1, h2]
theorem diffV_len (xs : List Int) (k : Int) : (diffV xs k).length ≤ 1048576 :=
  seqOr_len fun h => by
    simp [diffB] at h
    have := isSeq_len h.2.2
    omega

/-! ### Running sums -/
def intF (ys : List Int) (i : Nat) : Int := sumUpto ys (i + 1)
def int1 (ys : List Int) : List Int := tab (intF ys) ys.length
theorem int1_length (ys : List Int) : (int1 ys).length = ys.length := tab_length _ _
def iStageF (ys : List Int) (i j : Nat) : Int := if j < i then intF ys j else ys.getD j 0
/-- The list while it is summed up: the elements below i are sums. -/
def iStage (ys : List Int) (i : Nat) : List Int := tab (iStageF ys i) ys.length
theorem iStage_length (ys : List Int) (i : Nat) : (iStage ys i).length = ys.length := tab_length _ _
theorem iStage_start (ys : List Int) : iStage ys 1 = ys := by
  unfold iStage
  rw [show tab (iStageF ys 1) ys.length = tab (fun j => ys.getD j 0) ys.length from tab_congr (fun j _ => by
    unfold iStageF
    by_cases h : j = 0
    · subst h; simp [intF, sumUpto]
    · rw [if_neg (by omega)])]
  exact tab_self ys
theorem iStage_end (ys : List Int) (i : Nat) (h : ys.length ≤ i) : iStage ys i = int1 ys := by
  unfold iStage int1
  exact tab_congr (fun j hj => by unfold iStageF; rw [if_pos (by omega)])
theorem iStage_here (ys : List Int) (i : Nat) (h : i < ys.length) : (iStage ys i).getD i 0 = ys.getD i 0 := by
  unfold iStage
  rw [tab_at _ _ _ h, iStageF, if_neg (by omega)]
theorem iStage_before (ys : List Int) (i : Nat) (h0 : 0 < i) (h : i < ys.length) : (iStage ys i).getD (i - 1) 0 = sumUpto ys i := by
  unfold iStage
  rw [tab_at _ _ _ (by omega), iStageF, if_pos (by omega), intF]
  congr 1
  omega
theorem iStage_set (ys : List Int) (i : Nat) (h : i < ys.length) : (iStage ys i).set i (ys.getD i 0 + sumUpto ys i) = iStage ys (i + 1) := by
  unfold iStage
  rw [tab_set _ _ _ _ h]
  refine tab_congr (fun j _ => ?_)
  unfold iStageF
  by_cases e : j = i
  · subst e
    rw [if_pos rfl, if_pos (by omega), intF, sumUpto_succ, Int.add_comm]
  · rw [if_neg e]
    by_cases h1 : j < i
    · rw [if_pos h1, if_pos (by omega)]
    · rw [if_neg h1, if_neg (by omega)]
/-- k running sums; none if one of them is no sequence. -/
def intg (xs : List Int) : Nat → Option (List Int)
  | 0 => some xs
  | k + 1 => match intg xs k with
    | none => none
    | some ys => if isSeq (int1 ys) = true then some (int1 ys) else none
theorem intg_next {xs ys : List Int} {k : Nat} (h : intg xs k = some ys) (hq : isSeq (int1 ys) = true) : intg xs (k + 1) = some (int1 ys) := by simp [intg, h, hq]
theorem intg_fail {xs ys : List Int} {k : Nat} (h : intg xs k = some ys) (hq : isSeq (int1 ys) = false) : intg xs (k + 1) = none := by simp [intg, h, hq]
theorem intg_none {xs : List Int} {k : Nat} (h : intg xs k = none) (j : Nat) : intg xs (k + j) = none := by
  induction j with
  | zero => exact h
  | succ j ih => rw [show k + (j + 1) = (k + j) + 1 from by omega, intg, ih]
theorem intg_seq {xs ys : List Int} {k : Nat} (h : intg xs k = some ys) (hx : isSeq xs = true) : isSeq ys = true ∧ ys.length = xs.length := by
  induction k generalizing ys with
  | zero => simp [intg] at h; subst h; exact ⟨hx, rfl⟩
  | succ k ih =>
    unfold intg at h
    cases hk : intg xs k with
    | none => rw [hk] at h; cases h
    | some zs =>
      rw [hk] at h
      simp at h
      obtain ⟨h1, rfl⟩ := h
      exact ⟨h1, by rw [int1_length]; exact (ih hk).2⟩
def intB (xs : List Int) (k : Int) : Bool := isSeq xs && (ordB k && (intg xs k.toNat).isSome)
def intV (xs : List Int) (k : Int) : List Int := seqOr (intB xs k) ((intg xs k.toNat).getD [])
theorem intB_no {xs : List Int} {k : Int} (h : isSeq xs = false ∨ ordB k = false) : intB xs k = false := by
  rcases h with h | h <;> simp [intB, h]
theorem intB_fail {xs : List Int} {k : Int} (h : intg xs k.toNat = none) : intB xs k = false := by simp [intB, h]
theorem intB_yes {xs ys : List Int} {k : Int} (h1 : isSeq xs = true) (h2 : ordB k = true) (h : intg xs k.toNat = some ys) : intB xs k = true := by simp [intB, h, h1, h2]
theorem intV_len (xs : List Int) (k : Int) : (intV xs k).length ≤ 1048576 :=
  seqOr_len fun h => by
    simp only [intB, Bool.and_eq_true, Option.isSome_iff_exists] at h
    obtain ⟨h1, _, ys, h2⟩ := h
    have := isSeq_len (intg_seq h2 h1).1
    rw [h2]
    simp
    omega

/-! ### The coefficients of differences -/
def oneL (k : Nat) : List Int := 1 :: List.replicate k 0
def coefs (k : Int) : List Int := if ordB k = true then diffs (oneL k.toNat) k.toNat else []
theorem coefs_yes {k : Int} (h : ordB k = true) : coefs k = diffs (oneL k.toNat) k.toNat := by simp [coefs, h]
theorem coefs_no {k : Int} (h : ordB k = false) : coefs k = [] := by simp [coefs, h]
theorem oneL_length (k : Nat) : (oneL k).length = k + 1 := by simp [oneL]
theorem oneL_bd (k i : Nat) : -1 ≤ (oneL k).getD i 0 ∧ (oneL k).getD i 0 ≤ 1 := by
  cases i with
  | zero => simp [oneL, List.getD]
  | succ i =>
    simp only [oneL, List.getD, List.getElem?_cons_succ, List.getElem?_replicate]
    split <;> simp
theorem coefs_len (k : Int) : (coefs k).length ≤ 1048576 := by
  cases h : ordB k
  · rw [coefs_no h]; simp
  · rw [coefs_yes h, diffs_length, oneL_length]
    have := ordB_true h
    omega
end Go.Proofs.Ytmgjbldnohkodaa
