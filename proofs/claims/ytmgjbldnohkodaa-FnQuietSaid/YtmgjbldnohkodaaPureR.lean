/- Plain laws of runs of modulators: what a run answers is its input and its shaped error. Nothing of the program is named here. -/
import Derived.Test.YtmgjbldnohkodaaPureM
import Derived.Test.YtmgjbldnohkodaaPureP2
namespace Go.Proofs.Ytmgjbldnohkodaa
set_option linter.unusedVariables false

theorem inMs_append (ms es : List Int) (e : Int) : ∀ i, i ≤ es.length → inMs ms (es ++ [e]) i = inMs ms es i := by
  intro i
  induction i with
  | zero => intro _; rfl
  | succ i ih =>
    intro h
    unfold inMs
    rw [ih (by omega)]
    congr 1
    simp [List.getD, List.getElem?_append_left (show i < es.length by omega)]
/-- Each output is its input, what is fed back, and the error. -/
theorem run_rel {l s : Int} {cs ms xs : List Int} : ∀ (k : Nat) (r : RunS), runUpto l s cs ms xs k = some r →
    r.ys.length = k ∧ r.es.length = k ∧ r.ms = inMs ms r.es k ∧ ∀ i, i < k → r.ys.getD i 0 = xs.getD i 0 + fed cs (inMs ms r.es i) + r.es.getD i 0 := by
  intro k
  induction k with
  | zero => intro r h; simp [runUpto] at h; subst h; exact ⟨rfl, rfl, rfl, fun i h => absurd h (by omega)⟩
  | succ k ih =>
    intro r h
    unfold runUpto at h
    cases hk : runUpto l s cs ms xs k with
    | none => rw [hk] at h; cases h
    | some r0 =>
      rw [hk] at h
      obtain ⟨a, b, c, d⟩ := ih r0 hk
      by_cases he : sampleB (stE l s cs r0.ms (xs.getD k 0)) = true
      · simp only [he, if_true] at h
        injection h with h
        subst h
        have h1 : ∀ (us : List Int) (u : Int), us.length = k → (us ++ [u]).getD k 0 = u := by
          intro us u hl
          subst hl
          simp [List.getD]
        have h2 : ∀ (us : List Int) (u : Int) (i : Nat), i < us.length → (us ++ [u]).getD i 0 = us.getD i 0 := by
          intro us u i hi
          simp [List.getD, List.getElem?_append_left hi]
        refine ⟨by simp [a], by simp [b], ?_, ?_⟩
        · show push r0.ms _ = inMs ms (r0.es ++ [_]) (k + 1)
          unfold inMs
          rw [inMs_append _ _ _ _ (by omega), h1 _ _ b, ← c]
        · intro i hi
          show (r0.ys ++ [_]).getD i 0 = _ + fed cs (inMs ms (r0.es ++ [_]) i) + (r0.es ++ [_]).getD i 0
          rw [inMs_append _ _ _ _ (by omega)]
          by_cases e : i = k
          · subst e
            rw [h1 _ _ a, h1 _ _ b, ← c]
            unfold stE stV
            omega
          · rw [h2 _ _ _ (by omega), h2 _ _ _ (by omega)]
            exact d i (by omega)
      · rw [Bool.not_eq_true] at he
        simp only [he] at h
        cases h
theorem inMs_zero (N : Nat) (hN : 1 ≤ N) (es : List Int) : ∀ i, (inMs (List.replicate N 0) es i).length = N ∧ ∀ j, j < N → (inMs (List.replicate N 0) es i).getD j 0 = if j < i then es.getD (i - 1 - j) 0 else 0 := by
  intro i
  induction i with
  | zero => exact ⟨by simp [inMs], fun j hj => by simp [inMs, List.getD, hj]⟩
  | succ i ih =>
    refine ⟨by unfold inMs; rw [push_length _ (by omega)]; exact ih.1, fun j hj => ?_⟩
    unfold inMs push
    cases j with
    | zero => simp
    | succ j =>
      have h3 := ih.2 j (by omega)
      rw [List.getD_cons_succ]
      have h4 : ((inMs (List.replicate N 0) es i).take ((inMs (List.replicate N 0) es i).length - 1)).getD j 0 = (inMs (List.replicate N 0) es i).getD j 0 := by
        simp only [List.getD]
        rw [List.getElem?_take_of_lt (by omega)]
      rw [h4, h3]
      by_cases h : j < i
      · rw [if_pos h, if_pos (by omega), show i + 1 - 1 - (j + 1) = i - 1 - j from by omega]
      · rw [if_neg h, if_neg (by omega)]
theorem fed_cv (cs es : List Int) (i : Nat) : ∀ m, m ≤ cs.length → cvUpto es (1 :: cs) i (m + 1) = es.getD i 0 + fedUpto cs (inMs (List.replicate cs.length 0) es i) m := by
  intro m
  induction m with
  | zero =>
    intro _
    rw [cvUpto_succ]
    simp [cvUpto, cvT, fedUpto]
  | succ m ih =>
    intro h
    rw [cvUpto_succ, ih (by omega), fedUpto_succ, (inMs_zero cs.length (by omega) es i).2 m (by omega)]
    unfold cvT
    rw [List.getD_cons_succ]
    by_cases hmi : m < i
    · rw [if_pos (by omega), if_pos hmi, show i - (m + 1) = i - 1 - m from by omega]; omega
    · rw [if_neg (by omega), if_neg hmi]; omega
/-- From plain memory: the outputs less the inputs are the errors, shaped. -/
theorem run_shaped {l s : Int} {cs xs : List Int} {k : Nat} {r : RunS} (h : runUpto l s cs (List.replicate cs.length 0) xs k = some r) (hx : k = xs.length) :
    r.ys.length = xs.length ∧ r.es.length = xs.length ∧ mixL r.ys xs (-1) = cvL r.es (1 :: cs) := by
  obtain ⟨h1, h2, _, h4⟩ := run_rel k r h
  refine ⟨by omega, by omega, list_ext (by rw [cvL_length, mixL_length]; omega) (fun i hi => ?_)⟩
  rw [mixL_length] at hi
  rw [mixL_at _ _ _ _ hi]
  unfold cvL
  rw [tab_at _ _ _ (by omega), h4 i (by omega)]
  show _ = cvUpto r.es (1 :: cs) i (cs.length + 1)
  rw [fed_cv cs r.es i cs.length (Nat.le_refl _)]
  unfold fed
  omega
theorem diff1_inj {xs ys : List Int} (h : diff1 xs = diff1 ys) : xs = ys := by rw [← int_diff xs, h, int_diff]
theorem diffs_inj (k : Nat) : ∀ {xs ys : List Int}, diffs xs k = diffs ys k → xs = ys := by
  induction k with
  | zero => intro xs ys h; exact h
  | succ k ih => intro xs ys h; exact ih (diff1_inj h)
theorem coefs_head {k : Nat} (h1 : 1 ≤ k) (h6 : k ≤ 6) : (1 : Int) :: (coefs (k : Int)).drop 1 = coefs (k : Int) := by
  have hcase : k = 1 ∨ k = 2 ∨ k = 3 ∨ k = 4 ∨ k = 5 ∨ k = 6 := by omega
  rcases hcase with rfl | rfl | rfl | rfl | rfl | rfl <;> rfl
end Go.Proofs.Ytmgjbldnohkodaa
