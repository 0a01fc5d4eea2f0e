/- What the laws of sequences ask of plain lists. Nothing of the program is named here. -/
import Derived.Test.YtmgjbldnohkodaaPureP2
import Derived.Test.YtmgjbldnohkodaaGen
namespace Go.Proofs.Ytmgjbldnohkodaa
set_option linter.unusedVariables false

theorem seq_of {ys : List Int} {M : Int} (hl : ys.length ≤ 1000) (hM : M ≤ 1099511627776) (h : ∀ i, -M ≤ ys.getD i 0 ∧ ys.getD i 0 ≤ M) : isSeq ys = true :=
  isSeq_mk hl (fun y hy => by obtain ⟨i, hi, rfl⟩ := List.getElem_of_mem hy; have := h i; rw [getD_at ys i hi] at this; omega)
theorem mixV_yes {xs ys : List Int} {k : Int} (h : mixB xs ys k = true) : mixV xs ys k = mixL xs ys k := by unfold mixV; exact seqOr_yes h
theorem scaleV_yes {xs : List Int} {k : Int} (h : scaleB xs k = true) : scaleV xs k = scaleL xs k := by unfold scaleV; exact seqOr_yes h
theorem Within.take {ys : List Int} {s : Int} (h : Within ys s) (n : Nat) : Within (ys.take n) s := fun y hy => h y (List.mem_of_mem_take hy)
theorem mixL_bd {xs ys : List Int} {k A B : Int} (hA : ∀ i, -A ≤ xs.getD i 0 ∧ xs.getD i 0 ≤ A) (hB : ∀ i, -B ≤ ys.getD i 0 ∧ ys.getD i 0 ≤ B) (hk : k = 1 ∨ k = -1) (i : Nat) : -(A + B) ≤ (mixL xs ys k).getD i 0 ∧ (mixL xs ys k).getD i 0 ≤ A + B := by
  by_cases hi : i < xs.length
  · rw [mixL_at _ _ _ _ hi]
    have := hA i; have := hB i
    rcases hk with rfl | rfl <;> omega
  · rw [getD_out _ _ (by rw [mixL_length]; omega)]
    have := hA 0; have := hB 0; omega
theorem scaleL_at (xs : List Int) (k : Int) (i : Nat) (h : i < xs.length) : (scaleL xs k).getD i 0 = xs.getD i 0 * k := by
  unfold scaleL; rw [tab_at _ _ _ h]; rfl
theorem scale_all {xs : List Int} {k A K : Int} (hl : xs.length ≤ 1000) (hA : ∀ i, -A ≤ xs.getD i 0 ∧ xs.getD i 0 ≤ A) (hk : -K ≤ k ∧ k ≤ K) (hK : K ≤ 1099511627776) (hA2 : A ≤ 1099511627776) (hAK : A * K ≤ 1099511627776) :
    scaleB xs k = true ∧ ∀ i, -(A * K) ≤ (scaleL xs k).getD i 0 ∧ (scaleL xs k).getD i 0 ≤ A * K := by
  have hbd : ∀ i, -(A * K) ≤ (scaleL xs k).getD i 0 ∧ (scaleL xs k).getD i 0 ≤ A * K := fun i => by
    by_cases hi : i < xs.length
    · rw [scaleL_at _ _ _ hi]; exact mul_abs (hA i) hk
    · rw [getD_out _ _ (by rw [scaleL_length]; omega)]; have := mul_abs (hA 0) hk; omega
  refine ⟨?_, hbd⟩
  have h1 : isSeq xs = true := seq_of hl hA2 hA
  have h2 : sampleB k = true := sampleB_mk (by omega) (by omega)
  have h3 : isSeq (scaleL xs k) = true := seq_of (by rw [scaleL_length]; exact hl) hAK hbd
  simp [scaleB, h1, h2, h3]
theorem sum_mix (xs ys : List Int) (hl : xs.length = ys.length) : sumUpto (mixL xs ys 1) xs.length = sumUpto xs xs.length + sumUpto ys ys.length := by
  have : ∀ n, n ≤ xs.length → sumUpto (mixL xs ys 1) n = sumUpto xs n + sumUpto ys n := by
    intro n
    induction n with
    | zero => intro _; rfl
    | succ n ih => intro h; rw [sumUpto_succ, sumUpto_succ, sumUpto_succ, ih (by omega), mixL_at _ _ _ _ (by omega), Int.one_mul]; omega
  rw [this _ (Nat.le_refl _), ← hl]
theorem sum_scale (xs : List Int) (k : Int) : sumUpto (scaleL xs k) xs.length = k * sumUpto xs xs.length := by
  have : ∀ n, n ≤ xs.length → sumUpto (scaleL xs k) n = k * sumUpto xs n := by
    intro n
    induction n with
    | zero => intro _; simp [sumUpto]
    | succ n ih => intro h; rw [sumUpto_succ, sumUpto_succ, ih (by omega), scaleL_at _ _ _ (by omega), Int.mul_add, Int.mul_comm k (xs.getD n 0)]
  exact this _ (Nat.le_refl _)
/-- FnAdded. -/
theorem added_facts {xs ys : List Int} {k : Int} (hl : xs.length = ys.length) (hn : xs.length ≤ 30) (hx : Within xs 100000) (hy : Within ys 100000) (hk0 : -128 ≤ k) (hk1 : k ≤ 127) :
    (mixB xs ys 1 = true ∧ mixV xs ys 1 = mixL xs ys 1) ∧ (mixB (mixL xs ys 1) ys (-1) = true ∧ mixV (mixL xs ys 1) ys (-1) = xs) ∧
    (scaleB xs k = true ∧ scaleV xs k = scaleL xs k) ∧ (scaleB ys k = true ∧ scaleV ys k = scaleL ys k) ∧ (scaleB (mixL xs ys 1) k = true ∧ scaleV (mixL xs ys 1) k = scaleL (mixL xs ys 1) k) ∧
    (mixB (scaleL xs k) (scaleL ys k) 1 = true ∧ mixV (scaleL xs k) (scaleL ys k) 1 = scaleL (mixL xs ys 1) k) ∧
    sumOf (mixL xs ys 1) = sumOf xs + sumOf ys ∧ sumOf (scaleL xs k) = k * sumOf xs ∧ (-3000000 ≤ sumOf xs ∧ sumOf xs ≤ 3000000) ∧ (-3000000 ≤ sumOf ys ∧ sumOf ys ≤ 3000000) := by
  have bx := fun i => hx.at_ (by omega) i
  have by' := fun i => hy.at_ (by omega) i
  have sx := seq_of (by omega) (by omega) bx
  have sy := seq_of (by omega) (by omega) by'
  have bm := fun i => mixL_bd (k := 1) bx by' (.inl rfl) i
  have sm := seq_of (by rw [mixL_length]; omega) (by omega) bm
  have m1 : mixB xs ys 1 = true := by rw [mixB_mk sx sy hl]; exact sm
  have e1 : mixL (mixL xs ys 1) ys (-1) = xs := by
    refine list_ext (by rw [mixL_length, mixL_length]) (fun i hi => ?_)
    rw [mixL_length, mixL_length] at hi
    rw [mixL_at _ _ _ _ (by rw [mixL_length]; exact hi), mixL_at _ _ _ _ hi]
    omega
  have m2 : mixB (mixL xs ys 1) ys (-1) = true := by rw [mixB_mk sm sy (by rw [mixL_length]; exact hl), e1]; exact sx
  have c1 := scale_all (K := 128) (by omega) bx ⟨hk0, by omega⟩ (by omega) (by omega) (by omega)
  have c2 := scale_all (K := 128) (by omega) by' ⟨hk0, by omega⟩ (by omega) (by omega) (by omega)
  have c3 := scale_all (K := 128) (by rw [mixL_length]; omega) bm ⟨hk0, by omega⟩ (by omega) (by omega) (by omega)
  have e3 : mixL (scaleL xs k) (scaleL ys k) 1 = scaleL (mixL xs ys 1) k := by
    refine list_ext (by rw [mixL_length, scaleL_length, scaleL_length, mixL_length]) (fun i hi => ?_)
    rw [mixL_length, scaleL_length] at hi
    rw [mixL_at _ _ _ _ (by rw [scaleL_length]; exact hi), scaleL_at _ _ _ hi, scaleL_at _ _ _ (by omega), scaleL_at _ _ _ (by rw [mixL_length]; exact hi), mixL_at _ _ _ _ hi, Int.one_mul, Int.one_mul, Int.add_mul]
  have s1 := seq_of (by rw [scaleL_length]; omega) (by omega) c1.2
  have s2 := seq_of (by rw [scaleL_length]; omega) (by omega) c2.2
  have s3 := seq_of (by rw [scaleL_length, mixL_length]; omega) (by omega) c3.2
  have m3 : mixB (scaleL xs k) (scaleL ys k) 1 = true := by rw [mixB_mk s1 s2 (by rw [scaleL_length, scaleL_length]; exact hl), e3]; exact s3
  have v1 := sumUpto_bound bx xs.length
  have v2 := sumUpto_bound by' ys.length
  refine ⟨⟨m1, mixV_yes m1⟩, ⟨m2, (mixV_yes m2).trans e1⟩, ⟨c1.1, scaleV_yes c1.1⟩, ⟨c2.1, scaleV_yes c2.1⟩, ⟨c3.1, scaleV_yes c3.1⟩, ⟨m3, (mixV_yes m3).trans e3⟩, ?_, ?_, ?_, ?_⟩
  · rw [sumOf_yes sm, sumOf_yes sx, sumOf_yes sy, mixL_length]; exact sum_mix xs ys hl
  · rw [sumOf_yes s1, sumOf_yes sx, scaleL_length]; exact sum_scale xs k
  · rw [sumOf_yes sx]; omega
  · rw [sumOf_yes sy]; omega

/-- FnSums. -/
theorem sums_facts {xs : List Int} {k : Nat} (hn : xs.length ≤ 40) (hx : Within xs 5101) (hk : k ≤ 4) :
    (diffB xs k = true ∧ diffV xs k = diffs xs k) ∧ (intB (diffs xs k) k = true ∧ intV (diffs xs k) k = xs) ∧ (cvB xs (coefs k) = true ∧ cvV xs (coefs k) = diffs xs k) ∧
    (intB xs k = true → diffB (intV xs k) k = true ∧ diffV (intV xs k) k = xs) := by
  have bx := fun i => hx.at_ (by omega) i
  have sx := seq_of (by omega) (by omega) bx
  have sd : ∀ j, j ≤ k → isSeq (diffs xs j) = true := fun j hj => seq_of (by rw [diffs_length]; omega) (by omega) (fun i => diffs_le (by omega) bx j (by omega) i)
  have ho : ordB (k : Int) = true := by simp [ordB]; omega
  have d1 : diffB xs k = true := by rw [diffB_mk sx ho, Int.toNat_natCast]; exact sd k (Nat.le_refl _)
  have i1 : intg (diffs xs k) (k : Int).toNat = some xs := by
    rw [Int.toNat_natCast]
    have := intg_diffs sd k (Nat.le_refl _)
    rw [Nat.sub_self] at this
    exact this
  have i2 := intB_yes (sd k (Nat.le_refl _)) ho i1
  have hc : coAll (coefs (k : Int)) = true := by
    refine coAll_yes (n := k + 1) ?_ (by omega) (fun i hi => ?_)
    · rw [coefs_yes ho, diffs_length, oneL_length, Int.toNat_natCast]
    · rw [coefs_yes ho, Int.toNat_natCast]
      have := diffs_le (M := 1) (by omega) (oneL_bd k) k (by omega) i
      generalize (diffs (oneL k) k).getD i 0 = z at this
      simp [coB]; omega
  have c1 : cvB xs (coefs k) = true := by rw [cvB_mk sx hc, cv_coefs xs (by omega)]; exact sd k (Nat.le_refl _)
  refine ⟨⟨d1, by unfold diffV; rw [d1, Int.toNat_natCast]; rfl⟩, ⟨i2, by unfold intV; rw [i2, i1]; rfl⟩, ⟨c1, by unfold cvV; rw [c1, cv_coefs xs (by omega)]; rfl⟩, fun h => ?_⟩
  simp only [intB, Bool.and_eq_true, Option.isSome_iff_exists] at h
  obtain ⟨_, _, ys, hy⟩ := h
  have hy' := hy
  rw [Int.toNat_natCast] at hy'
  have hs := intg_seq hy' sx
  have hd := diffs_intg k hy'
  have hv : intV xs k = ys := by unfold intV; rw [intB_yes sx ho hy, hy]; rfl
  have d2 : diffB ys k = true := by rw [diffB_mk hs.1 ho, Int.toNat_natCast, hd]; exact sx
  rw [hv]
  exact ⟨d2, by unfold diffV; rw [d2, Int.toNat_natCast, hd]; rfl⟩
theorem intV_length {xs : List Int} {k : Int} (h : intB xs k = true) : (intV xs k).length = xs.length := by
  have h' := h
  simp only [intB, Bool.and_eq_true, Option.isSome_iff_exists] at h'
  obtain ⟨h1, _, ys, hy⟩ := h'
  unfold intV
  rw [h, hy]
  exact (intg_seq hy h1).2

/-- Convolutions that stay small. -/
theorem cvL_bd {xs hs : List Int} {A B : Int} {L : Nat} (h1 : ∀ i, -A ≤ hs.getD i 0 ∧ hs.getD i 0 ≤ A) (h2 : ∀ i, -B ≤ xs.getD i 0 ∧ xs.getD i 0 ≤ B) (hL : hs.length ≤ L) (i : Nat) : -(A * B * L) ≤ (cvL xs hs).getD i 0 ∧ (cvL xs hs).getD i 0 ≤ A * B * L := by
  have hA : 0 ≤ A := by have := h1 0; omega
  have hB : 0 ≤ B := by have := h2 0; omega
  have hm : A * B * (hs.length : Int) ≤ A * B * (L : Int) := Int.mul_le_mul_of_nonneg_left (by omega) (Int.mul_nonneg hA hB)
  by_cases hi : i < xs.length
  · unfold cvL
    rw [tab_at _ _ _ hi]
    have := cvF_bd h1 h2 i
    omega
  · rw [getD_out _ _ (by rw [cvL_length]; omega)]
    have h0 : 0 ≤ A * B * (L : Int) := Int.mul_nonneg (Int.mul_nonneg hA hB) (by omega)
    omega
theorem coAll_of {hs : List Int} {M : Int} (hl : hs.length ≤ 100) (hM : M ≤ 1000000) (h : ∀ i, -M ≤ hs.getD i 0 ∧ hs.getD i 0 ≤ M) : coAll hs = true :=
  coAll_yes rfl hl (fun i _ => by have := h i; generalize hs.getD i 0 = z at this; simp [coB]; omega)
theorem cv_all {xs hs : List Int} {A B : Int} {L : Nat} (hl : xs.length ≤ 1000) (hB : B ≤ 1099511627776) (hA : A ≤ 1000000) (hL : hs.length ≤ L) (hL1 : L ≤ 100) (hm : A * B * L ≤ 1099511627776)
    (h1 : ∀ i, -A ≤ hs.getD i 0 ∧ hs.getD i 0 ≤ A) (h2 : ∀ i, -B ≤ xs.getD i 0 ∧ xs.getD i 0 ≤ B) :
    (cvB xs hs = true ∧ cvV xs hs = cvL xs hs) ∧ ∀ i, -(A * B * L) ≤ (cvL xs hs).getD i 0 ∧ (cvL xs hs).getD i 0 ≤ A * B * L := by
  have hbd := fun i => cvL_bd h1 h2 hL i
  have hs' : isSeq (cvL xs hs) = true := seq_of (by rw [cvL_length]; exact hl) hm hbd
  have hc : cvB xs hs = true := by rw [cvB_mk (seq_of hl hB h2) (coAll_of (by omega) hA h1)]; exact hs'
  exact ⟨⟨hc, by unfold cvV; exact seqOr_yes hc⟩, hbd⟩
/-- FnConvolved: the first part, and the second one where neither list is empty. -/
theorem conv_facts {xs ys hs : List Int} (hl : xs.length = ys.length) (hn : xs.length ≤ 25) (hx : Within xs 1000) (hy : Within ys 1000) (hh : Within hs 20) (hhl : hs.length ≤ 5) :
    (mixB xs ys 1 = true ∧ mixV xs ys 1 = mixL xs ys 1) ∧ (cvB xs hs = true ∧ cvV xs hs = cvL xs hs) ∧ (cvB ys hs = true ∧ cvV ys hs = cvL ys hs) ∧
    (cvB (mixL xs ys 1) hs = true ∧ cvV (mixL xs ys 1) hs = cvL (mixL xs ys 1) hs) ∧ (mixB (cvL xs hs) (cvL ys hs) 1 = true ∧ mixV (cvL xs hs) (cvL ys hs) 1 = cvL (mixL xs ys 1) hs) := by
  have bx := fun i => hx.at_ (by omega) i
  have by' := fun i => hy.at_ (by omega) i
  have bh := fun i => hh.at_ (by omega) i
  have sx := seq_of (by omega) (by omega) bx
  have sy := seq_of (by omega) (by omega) by'
  have bm := fun i => mixL_bd (k := 1) bx by' (.inl rfl) i
  have sm := seq_of (by rw [mixL_length]; omega) (by omega) bm
  have m1 : mixB xs ys 1 = true := by rw [mixB_mk sx sy hl]; exact sm
  have c1 := cv_all (L := 5) (by omega) (by omega) (by omega) hhl (by omega) (by omega) bh bx
  have c2 := cv_all (L := 5) (by omega) (by omega) (by omega) hhl (by omega) (by omega) bh by'
  have c3 := cv_all (L := 5) (by rw [mixL_length]; omega) (by omega) (by omega) hhl (by omega) (by omega) bh bm
  have s1 := seq_of (by rw [cvL_length]; omega) (by omega) c1.2
  have s2 := seq_of (by rw [cvL_length]; omega) (by omega) c2.2
  have s3 := seq_of (by rw [cvL_length, mixL_length]; omega) (by omega) c3.2
  have m2 : mixB (cvL xs hs) (cvL ys hs) 1 = true := by rw [mixB_mk s1 s2 (by rw [cvL_length, cvL_length]; exact hl), ← cv_mix hl]; exact s3
  exact ⟨⟨m1, mixV_yes m1⟩, c1.1, c2.1, c3.1, ⟨m2, (mixV_yes m2).trans (cv_mix hl).symm⟩⟩
theorem long_bd {gs hs : List Int} (hg : Within gs 20) (i : Nat) : -20 ≤ (longL gs hs).getD i 0 ∧ (longL gs hs).getD i 0 ≤ 20 := by
  have h : (longL gs hs).getD i 0 = gs.getD i 0 := fnOf_long gs hs i
  rw [h]; exact hg.at_ (by omega) i
theorem twice_facts {xs gs hs : List Int} (hn : xs.length ≤ 25) (hx : Within xs 1000) (hg : Within gs 20) (hgl : gs.length ≤ 5) (hh : Within hs 20) (hhl : hs.length ≤ 5) (hh0 : 0 < hs.length) :
    (cvB (longL gs hs) hs = true ∧ cvV (longL gs hs) hs = cvL (longL gs hs) hs) ∧ (cvB (cvL xs hs) gs = true ∧ cvV (cvL xs hs) gs = cvL (cvL xs hs) gs) ∧
    (cvB xs (cvL (longL gs hs) hs) = true ∧ cvV xs (cvL (longL gs hs) hs) = cvL (cvL xs hs) gs) := by
  have bx := fun i => hx.at_ (by omega) i
  have bg := fun i => hg.at_ (by omega) i
  have bh := fun i => hh.at_ (by omega) i
  have bl := fun i => long_bd (hs := hs) hg i
  have ll := longL_length gs hs
  have c1 := cv_all (L := 5) (by omega) (by omega) (by omega) hhl (by omega) (by omega) bh bx
  have c2 := cv_all (L := 5) (by omega) (by omega) (by omega) hhl (by omega) (by omega) bh bl
  have c3 := cv_all (L := 5) (by rw [cvL_length]; omega) (by omega) (by omega) hgl (by omega) (by omega) bg c1.2
  have c4 := cv_all (L := 10) (by omega) (by omega) (by omega) (show (cvL (longL gs hs) hs).length ≤ 10 by rw [cvL_length]; omega) (by omega) (by omega) c2.2 bx
  exact ⟨c2.1, c3.1, ⟨c4.1.1, c4.1.2.trans (cv_twice hh0).symm⟩⟩
/-- FnNoble. -/
theorem stuff_bd {xs : List Int} {M : Int} {r : Nat} (hM : 0 ≤ M) (h : ∀ i, -M ≤ xs.getD i 0 ∧ xs.getD i 0 ≤ M) (i : Nat) : -M ≤ (stuffL xs r).getD i 0 ∧ (stuffL xs r).getD i 0 ≤ M := by
  by_cases hi : i < r * xs.length
  · unfold stuffL
    rw [tab_at _ _ _ hi]
    unfold stuffF
    split
    · exact h _
    · omega
  · rw [getD_out _ _ (by unfold stuffL; rw [tab_length]; omega)]; omega
theorem stuffL_length (xs : List Int) (r : Nat) : (stuffL xs r).length = r * xs.length := tab_length _ _
theorem decL_length (xs : List Int) (r : Nat) : (decL xs r 0).length = (xs.length + r - 1) / r := by unfold decL; rw [tab_length]; rfl
theorem decL_bd {xs : List Int} {M : Int} {r : Nat} (h : ∀ i, -M ≤ xs.getD i 0 ∧ xs.getD i 0 ≤ M) (i : Nat) : -M ≤ (decL xs r 0).getD i 0 ∧ (decL xs r 0).getD i 0 ≤ M := by
  by_cases hi : i < decN xs.length r 0
  · unfold decL; rw [tab_at _ _ _ hi]; exact h _
  · rw [getD_out _ _ (by unfold decL; rw [tab_length]; omega)]; have := h 0; omega
theorem noble_facts {xs hs : List Int} {r : Nat} (hn : xs.length ≤ 60) (hx : Within xs 1000) (hh : Within hs 30) (hhl : hs.length ≤ 4) (hr1 : 1 ≤ r) (hr2 : r ≤ 6) :
    (stuffB hs r = true ∧ stuffV hs r = stuffL hs r) ∧ (cvB xs (stuffL hs r) = true ∧ cvV xs (stuffL hs r) = cvL xs (stuffL hs r)) ∧ (decB (cvL xs (stuffL hs r)) r 0 = true ∧ decV (cvL xs (stuffL hs r)) r 0 = cvL (decL xs r 0) hs) ∧
    (decB xs r 0 = true ∧ decV xs r 0 = decL xs r 0) ∧ (cvB (decL xs r 0) hs = true ∧ cvV (decL xs r 0) hs = cvL (decL xs r 0) hs) ∧ (stuffB xs r = true ∧ stuffV xs r = stuffL xs r) ∧
    (decB (stuffL xs r) r 0 = true ∧ decV (stuffL xs r) r 0 = xs) := by
  have bx := fun i => hx.at_ (by omega) i
  have bh := fun i => hh.at_ (by omega) i
  have sx := seq_of (by omega) (by omega) bx
  have hq : ratB (r : Int) = true := by simp [ratB]; omega
  have b1 := fun i => stuff_bd (r := r) (by omega) bh i
  have b2 := fun i => stuff_bd (r := r) (by omega) bx i
  have hl1 : r * hs.length ≤ 24 := by have := Nat.mul_le_mul hr2 hhl; omega
  have hl2 : r * xs.length ≤ 360 := by have := Nat.mul_le_mul hr2 hn; omega
  have c1 := cv_all (L := 24) (by omega) (by omega) (by omega) (show (stuffL hs r).length ≤ 24 by rw [stuffL_length]; exact hl1) (by omega) (by omega) b1 bx
  have sc := seq_of (by rw [cvL_length]; omega) (by omega) c1.2
  have hdl : (decL xs r 0).length ≤ 60 := by unfold decL; rw [tab_length]; have := decN_le (n := xs.length) (p := 0) hr1; omega
  have c2 := cv_all (L := 4) (by omega) (by omega) (by omega) hhl (by omega) (by omega) bh (fun i => decL_bd (r := r) bx i)
  have s1 : stuffB hs r = true := by rw [stuffB_mk (seq_of (by omega) (by omega) bh) hq, Int.toNat_natCast]; exact seq_of (by rw [stuffL_length]; omega) (by omega) b1
  have s2 : stuffB xs r = true := by rw [stuffB_mk sx hq, Int.toNat_natCast]; exact seq_of (by rw [stuffL_length]; omega) (by omega) b2
  have d1 := decB_yes sc hq (show (0 : Int) ≤ 0 by omega) (by omega)
  have d2 := decB_yes sx hq (show (0 : Int) ≤ 0 by omega) (by omega)
  have d3 := decB_yes (seq_of (by rw [stuffL_length]; omega) (by omega) b2) hq (show (0 : Int) ≤ 0 by omega) (by omega)
  refine ⟨⟨s1, by unfold stuffV; rw [s1, Int.toNat_natCast]; rfl⟩, c1.1, ⟨d1, ?_⟩, ⟨d2, by unfold decV; rw [d2, Int.toNat_natCast]; rfl⟩, c2.1, ⟨s2, by unfold stuffV; rw [s2, Int.toNat_natCast]; rfl⟩, ⟨d3, ?_⟩⟩
  · unfold decV; rw [d1, Int.toNat_natCast]; exact noble hr1
  · unfold decV; rw [d3, Int.toNat_natCast]; exact dec_stuff hr1
end Go.Proofs.Ytmgjbldnohkodaa
