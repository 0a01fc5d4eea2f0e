/- Plain laws of the convolution, differences and sums of lists. Nothing of the program is named here. -/
import Derived.Test.YtmgjbldnohkodaaPureP
import Derived.Test.YtmgjbldnohkodaaPureC
import Derived.Test.YtmgjbldnohkodaaPureB
namespace Go.Proofs.Ytmgjbldnohkodaa

def fnOf (xs : List Int) (i : Nat) : Int := xs.getD i 0
theorem fnOf_out (xs : List Int) (i : Nat) (h : xs.length ≤ i) : fnOf xs i = 0 := getD_out xs i h
theorem fnOf_tab (f : Nat → Int) (n i : Nat) (h : i < n) : fnOf (tab f n) i = f i := tab_at f n i h
theorem cvUpto_sm (xs hs : List Int) (n m : Nat) : cvUpto xs hs n m = sm (cvT xs hs n) m := by
  induction m with
  | zero => rfl
  | succ m ih => rw [cvUpto_succ, ih, sm_succ]
theorem cvT_far (xs hs : List Int) (n i : Nat) (h : hs.length ≤ i ∨ n < i) : cvT xs hs n i = 0 := by
  unfold cvT
  rcases h with h | h
  · rw [getD_out hs i h, Int.zero_mul, ite_self]
  · rw [if_neg (by omega)]
theorem cvF_cv (xs hs : List Int) (n : Nat) : cvF xs hs n = cv (fnOf hs) (fnOf xs) n := by
  unfold cvF
  rw [cvUpto_sm]
  have h1 : sm (cvT xs hs n) (max hs.length (n + 1)) = sm (cvT xs hs n) hs.length := sm_more (fun i hi => cvT_far xs hs n i (.inl hi)) (Nat.le_max_left _ _)
  have h2 : sm (cvT xs hs n) (max hs.length (n + 1)) = sm (cvT xs hs n) (n + 1) := sm_more (fun i hi => cvT_far xs hs n i (.inr (by omega))) (Nat.le_max_right _ _)
  rw [← h1, h2]
  unfold cv
  exact sm_congr fun i hi => by unfold cvT fnOf; rw [if_pos (by omega)]
theorem mul_abs {a b A B : Int} (h1 : -A ≤ a ∧ a ≤ A) (h2 : -B ≤ b ∧ b ≤ B) : -(A * B) ≤ a * b ∧ a * b ≤ A * B := by
  have hA : 0 ≤ A := by omega
  have hB : 0 ≤ B := by omega
  rcases Int.le_total 0 a with h0 | h0
  · have h3 := mul_bd2 (s := a) (t := b) (M := B) h0 h2.1 h2.2
    have h4 : a * B ≤ A * B := Int.mul_le_mul_of_nonneg_right h1.2 hB
    omega
  · have h3 := mul_bd2 (s := -a) (t := b) (M := B) (by omega) h2.1 h2.2
    have h4 : -a * B ≤ A * B := Int.mul_le_mul_of_nonneg_right (by omega) hB
    simp only [Int.neg_mul] at h3 h4
    omega
theorem cvF_bd {xs hs : List Int} {A B : Int} (h1 : ∀ i, -A ≤ hs.getD i 0 ∧ hs.getD i 0 ≤ A) (h2 : ∀ i, -B ≤ xs.getD i 0 ∧ xs.getD i 0 ≤ B) (n : Nat) : -(A * B * hs.length) ≤ cvF xs hs n ∧ cvF xs hs n ≤ A * B * hs.length := by
  unfold cvF
  rw [cvUpto_sm]
  refine sm_bd fun i _ => ?_
  unfold cvT
  split
  · exact mul_abs (h1 i) (h2 (n - i))
  · have := mul_abs (h1 i) (h2 n)
    omega
theorem isSeq_tab {f : Nat → Int} {n : Nat} (hn : n ≤ 1000) (h : ∀ i, i < n → -1099511627776 ≤ f i ∧ f i ≤ 1099511627776) : isSeq (tab f n) = true :=
  isSeq_mk (by rw [tab_length]; exact hn) (fun x hx => by obtain ⟨i, hi, rfl⟩ := tab_mem hx; exact h i hi)

/-! ### Differences -/
def dF (f : Nat → Int) (n : Nat) : Int := if n = 0 then f 0 else f n - f (n - 1)
def dK (f : Nat → Int) : Nat → Nat → Int
  | 0 => f
  | k + 1 => dF (dK f k)
def dRow (n : Nat) : Int := if n = 0 then 1 else if n = 1 then -1 else 0
def eRow (n : Nat) : Int := if n = 0 then 1 else 0
theorem cv_e (f : Nat → Int) (n : Nat) : cv eRow f n = f n := by
  cases n with
  | zero => rw [cv_zero]; simp [eRow]
  | succ n =>
    rw [cv_head]
    have : cv (fun i => eRow (i + 1)) f n = 0 := sm_zero fun i _ => by simp [eRow]
    rw [this]
    simp [eRow]
theorem cv_d (f : Nat → Int) (n : Nat) : cv dRow f n = dF f n := by
  cases n with
  | zero => rw [cv_zero]; simp [dRow, dF]
  | succ n =>
    rw [cv_head]
    have : cv (fun i => dRow (i + 1)) f n = cv (fun i => -1 * eRow i) f n := cv_congr (fun i _ => by cases i with | zero => simp [dRow, eRow] | succ i => simp [dRow, eRow]) (fun _ _ => rfl)
    rw [this, cv_mull, cv_e]
    simp [dRow, dF]
    omega
theorem dF_congr {f g : Nat → Int} {n : Nat} (h : ∀ i, i ≤ n → f i = g i) : dF f n = dF g n := by
  unfold dF
  rw [h 0 (by omega), h n (by omega), h (n - 1) (by omega)]
theorem dK_cv (f : Nat → Int) (k : Nat) : ∀ n, dK f k n = cv (dK eRow k) f n := by
  induction k with
  | zero => intro n; exact (cv_e f n).symm
  | succ k ih =>
    intro n
    show dF (dK f k) n = cv (dF (dK eRow k)) f n
    rw [dF_congr (fun i _ => ih i), ← cv_d]
    rw [← cv_assoc]
    exact cv_congr (fun i _ => cv_d _ i) (fun _ _ => rfl)
theorem diffs_dK (xs : List Int) (k : Nat) : ∀ i, i < xs.length → (diffs xs k).getD i 0 = dK (fnOf xs) k i := by
  induction k with
  | zero => intro i _; rfl
  | succ k ih =>
    intro i hi
    show (diff1 (diffs xs k)).getD i 0 = dF (dK (fnOf xs) k) i
    rw [diff1_at _ _ (by rw [diffs_length]; exact hi)]
    unfold diffAt dF
    by_cases h0 : i = 0
    · subst h0; rw [if_pos rfl, if_pos rfl, ih 0 hi]
    · rw [if_neg h0, if_neg h0, ih i hi, ih (i - 1) (by omega)]
theorem dK_far (k : Nat) : ∀ i, k < i → dK eRow k i = 0 := by
  induction k with
  | zero => intro i hi; show eRow i = 0; unfold eRow; rw [if_neg (by omega)]
  | succ k ih =>
    intro i hi
    show dF _ i = 0
    unfold dF
    rw [if_neg (by omega), ih i (by omega), ih (i - 1) (by omega)]
    rfl
theorem fnOf_one (k i : Nat) : fnOf (oneL k) i = eRow i := by
  cases i with
  | zero => rfl
  | succ i =>
    unfold fnOf oneL eRow
    rw [if_neg (by omega)]
    simp only [List.getD, List.getElem?_cons_succ, List.getElem?_replicate]
    split <;> rfl
theorem dK_congr {f g : Nat → Int} (k : Nat) : ∀ {n : Nat}, (∀ i, i ≤ n → f i = g i) → dK f k n = dK g k n := by
  induction k with
  | zero => intro n h; exact h n (Nat.le_refl _)
  | succ k ih => intro n h; exact dF_congr fun i hi => ih fun j hj => h j (by omega)
theorem coefs_fn {k : Nat} (hk : k ≤ 6) (i : Nat) : fnOf (coefs (k : Int)) i = dK eRow k i := by
  have ho : ordB (k : Int) = true := by simp [ordB]; omega
  have hl : (coefs (k : Int)).length = k + 1 := by rw [coefs_yes ho, diffs_length, oneL_length, Int.toNat_natCast]
  by_cases hi : i ≤ k
  · unfold fnOf
    rw [coefs_yes ho, Int.toNat_natCast, diffs_dK _ _ _ (by rw [oneL_length]; omega)]
    exact dK_congr k fun j _ => fnOf_one k j
  · rw [fnOf_out _ _ (by omega), dK_far _ _ (by omega)]
/-- The convolution with the coefficients of differences makes differences. -/
theorem cv_coefs (xs : List Int) {k : Nat} (hk : k ≤ 6) : cvL xs (coefs (k : Int)) = diffs xs k := by
  refine list_ext (by rw [cvL, tab_length, diffs_length]) (fun i hi => ?_)
  rw [cvL, tab_length] at hi
  rw [cvL, tab_at _ _ _ hi, cvF_cv, diffs_dK _ _ _ hi, dK_cv]
  exact cv_congr (fun j _ => coefs_fn hk j) (fun _ _ => rfl)

/-! ### Differences and sums undo each other -/
theorem int_diff (ys : List Int) : int1 (diff1 ys) = ys := by
  refine list_ext (by rw [int1_length, diff1_length]) (fun i hi => ?_)
  rw [int1_length, diff1_length] at hi
  unfold int1
  rw [diff1_length, tab_at _ _ _ hi]
  unfold intF
  induction i with
  | zero => rw [sumUpto_succ, diff1_at _ _ hi]; simp [sumUpto, diffAt]
  | succ i ih =>
    rw [sumUpto_succ, ih (by omega), diff1_at _ _ hi, diffAt, if_neg (by omega), Nat.add_sub_cancel]
    omega
theorem diff_int (ys : List Int) : diff1 (int1 ys) = ys := by
  refine list_ext (by rw [diff1_length, int1_length]) (fun i hi => ?_)
  rw [diff1_length, int1_length] at hi
  rw [diff1_at _ _ (by rw [int1_length]; exact hi)]
  unfold diffAt int1
  by_cases h0 : i = 0
  · subst h0
    rw [if_pos rfl, tab_at _ _ _ hi]
    simp [intF, sumUpto]
  · rw [if_neg h0, tab_at _ _ _ hi, tab_at _ _ _ (by omega)]
    unfold intF
    rw [show i - 1 + 1 = i from by omega, sumUpto_succ]
    omega
theorem diffs_succ' (xs : List Int) (k : Nat) : diffs (diff1 xs) k = diffs xs (k + 1) := by
  induction k with
  | zero => rfl
  | succ k ih => show diff1 (diffs (diff1 xs) k) = _; rw [ih]; rfl
theorem intg_diffs {xs : List Int} {k : Nat} (h : ∀ j, j ≤ k → isSeq (diffs xs j) = true) : ∀ j, j ≤ k → intg (diffs xs k) j = some (diffs xs (k - j)) := by
  intro j
  induction j with
  | zero => intro _; rfl
  | succ j ih =>
    intro hj
    have h1 := ih (by omega)
    have e : diffs xs (k - j) = diff1 (diffs xs (k - (j + 1))) := by rw [show k - j = (k - (j + 1)) + 1 from by omega]; rfl
    rw [e] at h1
    have h2 := intg_next h1 (by rw [int_diff]; exact h _ (by omega))
    rw [int_diff] at h2
    exact h2
theorem diffs_intg {xs : List Int} (k : Nat) : ∀ {ys : List Int}, intg xs k = some ys → diffs ys k = xs := by
  induction k with
  | zero => intro ys h; simp [intg] at h; exact h.symm
  | succ k ih =>
    intro ys h
    unfold intg at h
    cases hk : intg xs k with
    | none => rw [hk] at h; cases h
    | some zs =>
      rw [hk] at h
      simp at h
      obtain ⟨_, rfl⟩ := h
      rw [← diffs_succ', diff_int]
      exact ih hk

/-! ### Additivity, products of lists -/
theorem cvL_at (xs hs : List Int) (i : Nat) (h : i < xs.length) : (cvL xs hs).getD i 0 = cv (fnOf hs) (fnOf xs) i := by
  rw [cvL, tab_at _ _ _ h, cvF_cv]
theorem mixL_at (xs ys : List Int) (k : Int) (i : Nat) (h : i < xs.length) : (mixL xs ys k).getD i 0 = xs.getD i 0 + k * ys.getD i 0 := by
  rw [mixL, tab_at _ _ _ h]; rfl
theorem cvL_length (xs hs : List Int) : (cvL xs hs).length = xs.length := tab_length _ _
theorem cv_mix {xs ys hs : List Int} (h : xs.length = ys.length) : cvL (mixL xs ys 1) hs = mixL (cvL xs hs) (cvL ys hs) 1 := by
  refine list_ext (by rw [cvL_length, mixL_length, mixL_length, cvL_length]) (fun i hi => ?_)
  rw [cvL_length, mixL_length] at hi
  rw [cvL_at _ _ _ (by rw [mixL_length]; exact hi), mixL_at _ _ _ _ (by rw [cvL_length]; exact hi), cvL_at _ _ _ hi, cvL_at _ _ _ (by omega), Int.one_mul, ← cv_addr]
  refine cv_congr (fun _ _ => rfl) (fun j hj => ?_)
  show (mixL xs ys 1).getD j 0 = _
  rw [mixL_at _ _ _ _ (by omega), Int.one_mul]
  rfl
/-- A list with zeros behind it, convolved with another one: the product of the two, whole. -/
def longL (gs hs : List Int) : List Int := gs ++ List.replicate (hs.length - 1) 0
theorem longL_length (gs hs : List Int) : (longL gs hs).length = gs.length + (hs.length - 1) := by simp [longL]
theorem fnOf_long (gs hs : List Int) (i : Nat) : fnOf (longL gs hs) i = fnOf gs i := by
  unfold fnOf longL
  by_cases h : i < gs.length
  · simp [List.getD, List.getElem?_append_left h]
  · rw [getD_out gs i (by omega)]
    simp only [List.getD, List.getElem?_append_right (Nat.le_of_not_lt h), List.getElem?_replicate]
    split <;> rfl
theorem fnOf_both {gs hs : List Int} (i : Nat) (hh : 0 < hs.length) : fnOf (cvL (longL gs hs) hs) i = cv (fnOf hs) (fnOf gs) i := by
  by_cases hi : i < (longL gs hs).length
  · rw [cvL, fnOf_tab _ _ _ hi, cvF_cv]
    exact cv_congr (fun _ _ => rfl) (fun j _ => fnOf_long gs hs j)
  · rw [fnOf_out _ _ (by rw [cvL, tab_length]; omega)]
    rw [longL_length] at hi
    symm
    refine sm_zero fun j hj => ?_
    by_cases hjh : j < hs.length
    · rw [fnOf_out gs (i - j) (by omega), Int.mul_zero]
    · rw [fnOf_out hs j (by omega), Int.zero_mul]
theorem cv_twice {xs gs hs : List Int} (hh : 0 < hs.length) : cvL (cvL xs hs) gs = cvL xs (cvL (longL gs hs) hs) := by
  refine list_ext (by simp only [cvL, tab_length]) (fun i hi => ?_)
  have hi' : i < xs.length := by simpa only [cvL, tab_length] using hi
  have e1 : (cvL (cvL xs hs) gs).getD i 0 = cv (fnOf gs) (cv (fnOf hs) (fnOf xs)) i := by
    rw [cvL, tab_at _ _ _ (by rw [cvL, tab_length]; exact hi'), cvF_cv]
    refine cv_congr (fun _ _ => rfl) (fun j hj => ?_)
    rw [cvL, fnOf_tab _ _ _ (by omega), cvF_cv]
  have e2 : (cvL xs (cvL (longL gs hs) hs)).getD i 0 = cv (cv (fnOf hs) (fnOf gs)) (fnOf xs) i := by
    rw [cvL, tab_at _ _ _ hi', cvF_cv]
    exact cv_congr (fun j _ => fnOf_both j hh) (fun _ _ => rfl)
  rw [e1, e2, ← cv_assoc]
  exact cv_congr (fun j _ => cv_comm j _ _) (fun _ _ => rfl)

/-! ### Boxes -/
def onesL (r : Nat) : List Int := List.replicate r 1
theorem sumUpto_sm (xs : List Int) (n : Nat) : sumUpto xs n = sm (fnOf xs) n := by
  induction n with
  | zero => rfl
  | succ n ih => rw [sumUpto_succ, ih]; rfl
theorem ones_upto (xs : List Int) (n r m : Nat) (h : m ≤ r) : sm (cvT xs (onesL r) n) m = sumUpto xs (n + 1) - sumUpto xs (n + 1 - m) := by
  induction m with
  | zero => simp [sm]
  | succ m ih =>
    rw [sm_succ, ih (by omega)]
    unfold cvT
    have e : (onesL r).getD m 0 = 1 := by simp [onesL, List.getD, show m < r from by omega]
    by_cases hm : m ≤ n
    · rw [if_pos hm, e, Int.one_mul, show n + 1 - m = (n - m) + 1 from by omega, sumUpto_succ xs (n - m), show n + 1 - (m + 1) = n - m from by omega]
      omega
    · rw [if_neg hm, show n + 1 - m = 0 from by omega, show n + 1 - (m + 1) = 0 from by omega]
      omega
theorem box_cv (xs : List Int) (r : Nat) : boxL xs r = cvL xs (onesL r) := by
  unfold boxL cvL
  refine tab_congr fun i _ => ?_
  unfold cvF boxF
  rw [cvUpto_sm, ones_upto _ _ _ _ (by simp [onesL])]
  simp [onesL]

/-! ### Stuffed lists -/
theorem sm_blocks (f : Nat → Int) (r m : Nat) (hr : 1 ≤ r) (h : ∀ k t, k < m → 0 < t → t < r → f (r * k + t) = 0) : sm f (r * m) = sm (fun k => f (r * k)) m := by
  induction m with
  | zero => rfl
  | succ m ih =>
    have h1 : ∀ t, t < r → sm f (r * m + (t + 1)) = sm f (r * m) + f (r * m) := by
      intro t
      induction t with
      | zero => intro _; rfl
      | succ t iht => intro ht; rw [← Nat.add_assoc, sm_succ, iht (by omega), h m (t + 1) (by omega) (by omega) ht, Int.add_zero]
    have h2 := h1 (r - 1) (by omega)
    rw [show r - 1 + 1 = r from by omega] at h2
    rw [Nat.mul_add, Nat.mul_one, h2, ih (fun k t hk => h k t (by omega)), sm_succ]
theorem stuff_at (hs : List Int) (r k t : Nat) (hr : 1 ≤ r) (hk : k < hs.length) (ht : t < r) : (stuffL hs r).getD (r * k + t) 0 = if t = 0 then hs.getD k 0 else 0 := by
  have hlt : r * k + t < r * hs.length := by
    have : r * (k + 1) ≤ r * hs.length := Nat.mul_le_mul_left r hk
    rw [Nat.mul_add] at this
    omega
  unfold stuffL
  rw [tab_at _ _ _ hlt, stuffF, Nat.mul_add_mod, Nat.mod_eq_of_lt ht]
  have : (r * k + t) / r = k := by rw [Nat.mul_add_div (by omega), Nat.div_eq_of_lt ht]; omega
  rw [this]
theorem cvF_stuff {xs hs : List Int} {r j : Nat} (hr : 1 ≤ r) (hj : j * r < xs.length) : cvF xs (stuffL hs r) (j * r) = cvF (decL xs r 0) hs j := by
  unfold cvF
  rw [cvUpto_sm, cvUpto_sm]
  have hl : (stuffL hs r).length = r * hs.length := tab_length _ _
  rw [hl, sm_blocks _ _ _ hr]
  · refine sm_congr fun k hk => ?_
    unfold cvT
    have e1 : (stuffL hs r).getD (r * k) 0 = hs.getD k 0 := by have := stuff_at hs r k 0 hr hk (by omega); simpa using this
    by_cases h : k ≤ j
    · have h1 : r * k ≤ j * r := by rw [Nat.mul_comm r k]; exact Nat.mul_le_mul_right r h
      rw [if_pos h1, if_pos h, e1]
      congr 1
      have h2 : (j - k) * r = j * r - r * k := by rw [Nat.sub_mul, Nat.mul_comm k r]
      have h3 : j - k < decN xs.length r 0 := (decN_lt hr (by omega)).2 (by rw [Nat.zero_add, h2]; omega)
      unfold decL
      rw [tab_at _ _ _ h3, decF, Nat.zero_add, h2]
    · have h1 : ¬ r * k ≤ j * r := by rw [Nat.mul_comm r k]; intro h2; exact h (Nat.le_of_mul_le_mul_right h2 (by omega))
      rw [if_neg h1, if_neg h]
  · intro k t hk h0 ht
    unfold cvT
    rw [stuff_at hs r k t hr hk ht, if_neg (show ¬ t = 0 by omega), Int.zero_mul, ite_self]
/-- To convolve with a stuffed list and then to take each r-th element is to take these first. -/
theorem noble {xs hs : List Int} {r : Nat} (hr : 1 ≤ r) : decL (cvL xs (stuffL hs r)) r 0 = cvL (decL xs r 0) hs := by
  have hl : (cvL xs (stuffL hs r)).length = xs.length := tab_length _ _
  refine list_ext ?_ (fun j hj => ?_)
  · unfold decL; rw [tab_length, hl]; unfold cvL; rw [tab_length, tab_length]
  · have hj' : j < decN xs.length r 0 := by unfold decL at hj; rwa [tab_length, hl] at hj
    have h2 := (decN_lt hr (by omega)).1 hj'
    rw [Nat.zero_add] at h2
    unfold decL
    rw [hl, tab_at _ _ _ hj', decF, Nat.zero_add]
    unfold cvL
    rw [tab_at _ _ _ h2, tab_length, tab_at _ _ _ hj']
    exact cvF_stuff hr h2
/-- What was stuffed comes back. -/
theorem dec_stuff {xs : List Int} {r : Nat} (hr : 1 ≤ r) : decL (stuffL xs r) r 0 = xs := by
  have hl : (stuffL xs r).length = r * xs.length := tab_length _ _
  have hn : decN (r * xs.length) r 0 = xs.length := by
    unfold decN
    rw [show r * xs.length + r - 1 - 0 = (r - 1) + r * xs.length from by omega, Nat.add_mul_div_left _ _ (by omega), Nat.div_eq_of_lt (by omega)]
    omega
  refine list_ext ?_ (fun j hj => ?_)
  · unfold decL; rw [tab_length, hl, hn]
  · have hj' : j < xs.length := by unfold decL at hj; rwa [tab_length, hl, hn] at hj
    unfold decL
    rw [hl, hn, tab_at _ _ _ hj', decF, Nat.zero_add]
    have := stuff_at xs r j 0 hr hj' (by omega)
    rw [Nat.mul_comm j r]
    simpa using this
end Go.Proofs.Ytmgjbldnohkodaa
