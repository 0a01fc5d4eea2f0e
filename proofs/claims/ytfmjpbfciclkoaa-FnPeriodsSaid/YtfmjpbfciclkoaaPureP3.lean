/- Plain laws of periods of repeated lists. Nothing of the program's code is named here. -/
import Derived.Test.YtfmjpbfciclkoaaPer
import Derived.Test.YtfmjpbfciclkoaaRep2
import Derived.Test.YtfmjpbfciclkoaaPureF
namespace Go.Proofs.Ytfmjpbfciclkoaa

theorem sameB_true {xs ys : List Int} (h : sameB xs ys = true) : xs = ys := by simpa [sameB] using h
theorem perB_true {xs : List Int} {p : Nat} (h : perB xs p = true) : perUpto xs p xs.length := by
  intro j h1 h2
  have e := sameB_true h
  have h3 : (xs.drop p).getD (j - p) 0 = (xs.take (xs.length - p)).getD (j - p) 0 := by rw [e]
  rw [getD_drop', getD_take' _ _ _ (by omega), show p + (j - p) = j from by omega] at h3
  exact h3
/-- What PeriodOf returns is the least period. -/
theorem period_is {xs : List Int} (hs : isSeq xs = true) (hl : 0 < xs.length) :
    1 ≤ period xs ∧ period xs ≤ xs.length ∧ perB xs (period xs) = true ∧ ∀ i, 1 ≤ i → i < period xs → perB xs i = false := by
  have key : ∀ f q, 1 ≤ q → q + f = xs.length → (∀ i, 1 ≤ i → i < q → perB xs i = false) → ∃ p, q ≤ p ∧ p ≤ xs.length ∧ perB xs p = true ∧ ∀ i, 1 ≤ i → i < p → perB xs i = false := by
    intro f
    induction f with
    | zero =>
      intro q h1 h2 h3
      exact ⟨q, Nat.le_refl _, by omega, by rw [show q = xs.length from by omega]; exact perB_end xs, h3⟩
    | succ f ih =>
      intro q h1 h2 h3
      cases hb : perB xs q
      · obtain ⟨p, a, b⟩ := ih (q + 1) (by omega) (by omega) (noPer_succ (p := q) h3 hb)
        exact ⟨p, by omega, b⟩
      · exact ⟨q, Nat.le_refl _, by omega, hb, h3⟩
  obtain ⟨p, h1, h2, h3, h4⟩ := key (xs.length - 1) 1 (Nat.le_refl _) (by omega) (noPer_one xs)
  rw [period_at hs h1 h2 h4 (.inl h3)]
  exact ⟨h1, h2, h3, h4⟩
/-- Two periods, the list at least as long as both together: their difference is one. -/
theorem per_sub {ys : List Int} {n p : Nat} (hp : perUpto ys p ys.length) (hn : perUpto ys n ys.length) (h1 : p ≤ n) (h2 : n + p ≤ ys.length) : perUpto ys (n - p) ys.length := by
  intro j hj hl
  by_cases h : n ≤ j
  · have a := hn j h hl
    have b := hp (j - n + p) (by omega) (by omega)
    rw [show j - n + p - p = j - n from by omega] at b
    rw [a, ← b, show j - n + p = j - (n - p) from by omega]
  · have a := hp (j + p) (by omega) (by omega)
    have b := hn (j + p) (by omega) (by omega)
    rw [show j + p - p = j from by omega] at a
    rw [← a, b, show j + p - n = j - (n - p) from by omega]
theorem per_mod {ys : List Int} {p : Nat} (hp : perUpto ys p ys.length) (h1 : 1 ≤ p) : ∀ (n : Nat), perUpto ys n ys.length → n + p ≤ ys.length → perUpto ys (n % p) ys.length := by
  intro n
  induction n using Nat.strongRecOn with
  | ind n ih =>
    intro hn hl
    by_cases h : n < p
    · rw [Nat.mod_eq_of_lt h]; exact hn
    · rw [Nat.mod_eq_sub_mod (by omega)]
      exact ih (n - p) (by omega) (per_sub hp hn (by omega) hl) (by omega)
theorem repL_per {xs : List Int} {k : Nat} : perUpto (repL xs k) xs.length (repL xs k).length := by
  intro j h1 h2
  rw [repL_length] at h2
  unfold repL
  rw [tab_at _ _ _ h2, tab_at _ _ _ (by omega)]
  unfold repF
  congr 1
  rw [Nat.mod_eq_sub_mod h1]
/-- The least period of a list that is repeated divides its length. -/
theorem repL_period {xs : List Int} {k : Nat} (hk : 2 ≤ k) (hs : isSeq (repL xs k) = true) (hl : 0 < xs.length) :
    1 ≤ period (repL xs k) ∧ period (repL xs k) ≤ xs.length ∧ xs.length % period (repL xs k) = 0 ∧ perUpto (repL xs k) (period (repL xs k)) (repL xs k).length := by
  have hlen := repL_length xs k
  have h2 : xs.length * 2 ≤ xs.length * k := Nat.mul_le_mul_left _ hk
  obtain ⟨h3, h4, h5, h6⟩ := period_is hs (by omega)
  have hle : period (repL xs k) ≤ xs.length := by
    rcases Nat.lt_or_ge xs.length (period (repL xs k)) with h | h
    · have := h6 xs.length (by omega) h
      rw [perB_yes (by omega) repL_per] at this
      cases this
    · exact h
  refine ⟨h3, hle, ?_, perB_true h5⟩
  rcases Nat.eq_zero_or_pos (xs.length % period (repL xs k)) with h | h
  · exact h
  · exfalso
    have h7 := per_mod (perB_true h5) h3 xs.length repL_per (by omega)
    have h8 := Nat.mod_lt xs.length (show 0 < period (repL xs k) by omega)
    have := h6 _ h h8
    rw [perB_yes (by omega) h7] at this
    cases this
theorem sum_rep (xs : List Int) (k : Nat) : sumUpto (repL xs k) (repL xs k).length = k * sumUpto xs xs.length := by
  have app : ∀ (us bs : List Int) (m : Nat), sumUpto (us ++ bs) (us.length + m) = sumUpto us us.length + sumUpto bs m := by
    intro us bs m
    induction m with
    | zero =>
      have : ∀ j, j ≤ us.length → sumUpto (us ++ bs) j = sumUpto us j := by
        intro j
        induction j with
        | zero => intro _; rfl
        | succ j ih => intro hj; rw [sumUpto_succ, sumUpto_succ, ih (by omega), getD_left _ _ _ (by omega)]
      rw [Nat.add_zero, this _ (Nat.le_refl _)]; simp [sumUpto]
    | succ m ih =>
      rw [← Nat.add_assoc, sumUpto_succ, ih, sumUpto_succ, getD_right _ _ _ (by omega), show us.length + m - us.length = m from by omega]
      omega
  induction k with
  | zero => rw [repL_zero]; simp [sumUpto]
  | succ k ih =>
    rw [repL_succ, List.length_append, app, ih]
    rw [Int.natCast_add, Int.add_mul]
    simp
theorem periods_facts {xs : List Int} {k : Nat} (hn : xs.length ≤ 12) (hx : Within xs 2) (h2 : 2 ≤ k) (h5 : k ≤ 5) :
    (repB xs (k : Int) = true ∧ repV xs (k : Int) = repL xs k) ∧ sumOf (repL xs k) = k * sumOf xs ∧ (-24 ≤ sumOf xs ∧ sumOf xs ≤ 24) ∧ period xs ≤ xs.length ∧
    (xs.length = 0 → period (repL xs k) = 0) ∧
    (0 < xs.length → 1 ≤ period (repL xs k) ∧ period (repL xs k) ≤ xs.length ∧ xs.length % period (repL xs k) = 0 ∧ perUpto (repL xs k) (period (repL xs k)) (xs.length * k)) ∧
    ∀ i, -2 ≤ (repL xs k).getD i 0 ∧ (repL xs k).getD i 0 ≤ 2 := by
  have bx := fun i => hx.at_ (by omega) i
  have sx := seq_of (by omega) (by omega) bx
  have hl : xs.length * k ≤ 60 := by have := Nat.mul_le_mul hn h5; omega
  have rb := repB_yes (t := (k : Int)) sx (by omega) (by rw [← Int.natCast_mul]; omega)
  have sr : isSeq (repL xs k) = true := by rw [repL_seq k sx, decide_eq_true_eq]; omega
  have hb := sumUpto_bound bx xs.length
  refine ⟨⟨rb, by unfold repV; rw [rb, Int.toNat_natCast]; rfl⟩, by rw [sumOf_yes sr, sumOf_yes sx, sum_rep], by rw [sumOf_yes sx]; omega, ?_, ?_, ?_, ?_⟩
  · rcases Nat.eq_zero_or_pos xs.length with h | h
    · rw [period_no (.inr h)]; omega
    · exact (period_is sx h).2.1
  · intro h; exact period_no (.inr (by rw [repL_length, h, Nat.zero_mul]))
  · intro h
    have := repL_period h2 sr h
    rw [repL_length] at this
    exact this
  · intro i
    by_cases hi : i < xs.length * k
    · unfold repL; rw [tab_at _ _ _ hi]; exact bx _
    · rw [getD_out _ _ (by rw [repL_length]; omega)]; omega
theorem period_five : period [5] = 1 := period_at (by decide) (Nat.le_refl _) (Nat.le_refl _) (fun i h1 h2 => by omega) (.inr rfl)
end Go.Proofs.Ytfmjpbfciclkoaa
