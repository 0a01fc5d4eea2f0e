/- What FnBoxes and FnCoefs ask of plain lists. Nothing of the program is named here. -/
import Derived.Test.YtfmjpbfciclkoaaPureF
namespace Go.Proofs.Ytfmjpbfciclkoaa
set_option linter.unusedVariables false
theorem int1_at (xs : List Int) (i : Nat) (h : i < xs.length) : (int1 xs).getD i 0 = sumUpto xs (i + 1) := by unfold int1; rw [tab_at _ _ _ h]; rfl
theorem boxL_at (xs : List Int) (r i : Nat) (h : i < xs.length) : (boxL xs r).getD i 0 = sumUpto xs (i + 1) - sumUpto xs (i + 1 - r) := by unfold boxL; rw [tab_at _ _ _ h]; rfl
theorem boxes_facts {xs : List Int} {r : Nat} (hn : xs.length ≤ 60) (hx : Within xs 5000) (hr1 : 1 ≤ r) (hr2 : r ≤ 20) :
    (boxB xs r = true ∧ boxV xs r = boxL xs r) ∧ (cvB xs (List.replicate r 1) = true ∧ cvV xs (List.replicate r 1) = boxL xs r) ∧ (intB xs 1 = true ∧ intV xs 1 = int1 xs) ∧
    (∀ i, i < xs.length → r ≤ i → (boxL xs r).getD i 0 = (int1 xs).getD i 0 - (int1 xs).getD (i - r) 0) ∧ (∀ i, i < xs.length → i < r → (boxL xs r).getD i 0 = (int1 xs).getD i 0) ∧
    ∀ i, -300000 ≤ (int1 xs).getD i 0 ∧ (int1 xs).getD i 0 ≤ 300000 := by
  have bx := fun i => hx.at_ (by omega) i
  have sx := seq_of (by omega) (by omega) bx
  have hq : ratB (r : Int) = true := by simp [ratB]; omega
  have bi : ∀ i, -300000 ≤ (int1 xs).getD i 0 ∧ (int1 xs).getD i 0 ≤ 300000 := fun i => by
    by_cases hi : i < xs.length
    · rw [int1_at _ _ hi]; have := sumUpto_bound bx (i + 1); omega
    · rw [getD_out _ _ (by rw [int1_length]; omega)]; omega
  have si : isSeq (int1 xs) = true := seq_of (by rw [int1_length]; omega) (by omega) bi
  have e1 : ∀ i, i < xs.length → r ≤ i → (boxL xs r).getD i 0 = (int1 xs).getD i 0 - (int1 xs).getD (i - r) 0 := fun i hi hr => by
    rw [boxL_at _ _ _ hi, int1_at _ _ hi, int1_at _ _ (by omega), show i - r + 1 = i + 1 - r from by omega]
  have e2 : ∀ i, i < xs.length → i < r → (boxL xs r).getD i 0 = (int1 xs).getD i 0 := fun i hi hr => by
    rw [boxL_at _ _ _ hi, int1_at _ _ hi, show i + 1 - r = 0 from by omega]; simp [sumUpto]
  have bb : ∀ i, -600000 ≤ (boxL xs r).getD i 0 ∧ (boxL xs r).getD i 0 ≤ 600000 := fun i => by
    by_cases hi : i < xs.length
    · by_cases h : r ≤ i
      · rw [e1 i hi h]; have := bi i; have := bi (i - r); omega
      · rw [e2 i hi (by omega)]; have := bi i; omega
    · rw [getD_out _ _ (by unfold boxL; rw [tab_length]; omega)]; omega
  have sb : isSeq (boxL xs r) = true := seq_of (by unfold boxL; rw [tab_length]; omega) (by omega) bb
  have b1 : boxB xs r = true := by rw [boxB_mk sx hq, Int.toNat_natCast]; exact sb
  have hc : coAll (onesL r) = true := coAll_of (M := 1) (by simp [onesL]; omega) (by omega) (fun i => by
    unfold onesL
    simp only [List.getD, List.getElem?_replicate]
    split <;> simp)
  have c1 : cvB xs (onesL r) = true := by rw [cvB_mk sx hc, ← box_cv]; exact sb
  have ho : ordB 1 = true := by decide
  have hi1 : intg xs (1 : Int).toNat = some (int1 xs) := by
    show intg xs 1 = _
    exact intg_next rfl si
  have i1 := intB_yes sx ho hi1
  exact ⟨⟨b1, by unfold boxV; rw [b1, Int.toNat_natCast]; rfl⟩, ⟨c1, by unfold cvV; rw [show (List.replicate r 1 : List Int) = onesL r from rfl, c1, ← box_cv]; rfl⟩, ⟨i1, by unfold intV; rw [i1, hi1]; rfl⟩, e1, e2, bi⟩
/-- FnCoefs: the coefficients of the orders 0 to 7, as they are. -/
theorem coefs_k {k : Nat} (h1 : 1 ≤ k) (h2 : k ≤ 6) : (coefs (k : Int)).length = k + 1 ∧ (coefs (k : Int)).getD 0 0 = 1 ∧ sumOf (coefs (k : Int)) = 0 ∧
    (∀ i, i ≤ k → (coefs (k : Int)).getD i 0 = (if k % 2 = 1 then -1 else 1) * (coefs (k : Int)).getD (k - i) 0) ∧
    (∀ i, 1 ≤ i → i < k → (coefs (k : Int)).getD i 0 = (coefs ((k - 1 : Nat) : Int)).getD i 0 - (coefs ((k - 1 : Nat) : Int)).getD (i - 1) 0) ∧
    (∀ i, -64 ≤ (coefs (k : Int)).getD i 0 ∧ (coefs (k : Int)).getD i 0 ≤ 64) ∧ (∀ i, -64 ≤ (coefs ((k - 1 : Nat) : Int)).getD i 0 ∧ (coefs ((k - 1 : Nat) : Int)).getD i 0 ≤ 64) := by
  have hb : ∀ j : Nat, j ≤ 6 → ∀ i, -64 ≤ (coefs (j : Int)).getD i 0 ∧ (coefs (j : Int)).getD i 0 ≤ 64 := fun j hj i => by
    have ho : ordB (j : Int) = true := by simp [ordB]; omega
    rw [coefs_yes ho, Int.toNat_natCast]
    have := diffs_le (M := 1) (by omega) (oneL_bd j) j hj i
    omega
  have hcase : k = 1 ∨ k = 2 ∨ k = 3 ∨ k = 4 ∨ k = 5 ∨ k = 6 := by omega
  refine ⟨?_, ?_, ?_, ?_, ?_, hb k h2, hb (k - 1) (by omega)⟩
  · rcases hcase with rfl | rfl | rfl | rfl | rfl | rfl <;> rfl
  · rcases hcase with rfl | rfl | rfl | rfl | rfl | rfl <;> rfl
  · rcases hcase with rfl | rfl | rfl | rfl | rfl | rfl <;> rfl
  · rcases hcase with rfl | rfl | rfl | rfl | rfl | rfl <;> decide
  · have hd : ∀ i, i < k → 1 ≤ i → (coefs (k : Int)).getD i 0 = (coefs ((k - 1 : Nat) : Int)).getD i 0 - (coefs ((k - 1 : Nat) : Int)).getD (i - 1) 0 := by
      rcases hcase with rfl | rfl | rfl | rfl | rfl | rfl <;> decide
    exact fun i a b => hd i b a
theorem coefs_len0 : (coefs 0).length = 1 := rfl
theorem coefs_len7 : (coefs 7).length = 0 := rfl
theorem coefs_lenk {k : Nat} (h2 : k ≤ 6) : (coefs (k : Int)).length = k + 1 := by
  have ho : ordB (k : Int) = true := by simp [ordB]; omega
  rw [coefs_yes ho, diffs_length, oneL_length, Int.toNat_natCast]
end Go.Proofs.Ytfmjpbfciclkoaa
