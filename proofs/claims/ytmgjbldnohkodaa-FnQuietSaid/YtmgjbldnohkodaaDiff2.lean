/- The contracts of DifferencesOf and DifferenceCoefs, of the program and of the reference. -/
import Derived.Test.YtmgjbldnohkodaaDiff
namespace Go.Proofs.Ytmgjbldnohkodaa
open Go.RowKit




set_option maxHeartbeats 1600000 in
theorem coefs_s (k : Int) (w : World) (_hk : Wf k) :
    Calls Try.prog 81 #[.int .i64 k] w (RetOwn w (coefs k)) := by
  cases hy : ordB k
  · have hr := Lib.hid (coefs_no hy)
    unfold ordB at hy
    go_enter Try.func81, Try.ntmps81
    go_wp2_with fail
    refine (in_s _ _ _ _).mono ?_
    rw [hy]
    rintro e w' ⟨rfl, rfl⟩
    go_wp2_with fail
    go_ret
    exact ⟨none, 0, 0, rfl, by rw [hr.out]; exact Own.nil, Below.refl _ _⟩
  · have hk := ordB_true hy
    obtain ⟨kn, rfl⟩ := Int.eq_ofNat_of_zero_le hk.1
    have HR := Lib.hid (coefs_yes hy)
    rw [Int.toNat_natCast] at HR
    have hk6 : kn ≤ 6 := by omega
    obtain ⟨i0, hi, hz0, hz1, hz2⟩ := info_parts int_info
    unfold ordB at hy
    clear _hk hk
    go_enter Try.func81, Try.ntmps81
    go_wp2_with fail
    refine (in_s _ _ _ _).mono ?_
    rw [hy]
    rintro e w' ⟨rfl, rfl⟩
    clear hy
    go_wp2_with (at_make; refine wpList_make_full _ rfl _ _ 25 rfl w.heap.size 3 i0 (.int .i64 0) 1 Try.underlying25 hi hz0 hz1 .i64 .i64 ((kn : Int) + 1) ((kn : Int) + 1) (kn + 1) rfl rfl (by omega) (by omega) ?_ ?_ ?_ ?_)
    · rw [hz2]; omega
    · unfold maxLen; omega
    · exact Nat.le_refl _
    intro w1 hown hg1
    have hb1 : Below w.heap.size w w1 := (Below.refl _ _).grown hg1 (Nat.le_refl _) (by simp)
    have oz : Own w1 w.heap.size w1.heap.size (some ⟨w.heap.size, 0, none⟩) (kn + 1) (kn + 1) (List.replicate (kn + 1) 0) := by
      refine Own.of ?_
      rw [← made_zero (kn + 1)]
      exact hown
    have hcz := oz.cellsAt 0 (by omega)
    have hfz := oz.free 0
    have o0 := (oz.set 0 1).1
    have hb0 := hb1.setCell (p := ⟨w.heap.size, 0, none⟩) (Nat.le_refl _) (.int .i64 1)
    have hlt1 : w.heap.size < w1.heap.size := (hown.lt w.heap.size rfl).2
    have hsw : (w1.setCell ⟨w.heap.size, 0, none⟩ (.int .i64 1)).heap.size = w1.heap.size := by simp [World.setCell]
    rw [show (List.replicate (kn + 1) (0 : Int)).set 0 1 = oneL kn from rfl] at o0
    clear hown hg1 hi hz0 hz1 hz2 oz hb1
    go_wp2_with fail
    generalize w1.setCell ⟨w.heap.size, 0, none⟩ (.int .i64 1) = w2 at o0 hb0 hsw ⊢
    clear hcz hfz
    have HB : Hid (∀ i, -1099511627776 ≤ (oneL kn).getD i 0 ∧ (oneL kn).getD i 0 ≤ 1099511627776) := fun i => by have := oneL_bd kn i; omega
    have o1 : Own w2 w.heap.size w1.heap.size (some ⟨w.heap.size, 0, none⟩) (kn + 1) (kn + 1) (diffs (oneL kn) 0) := o0
    have hs2 : w1.heap.size ≤ w2.heap.size := Nat.le_of_eq hsw.symm
    clear hsw o0
    go_loopw [4, 5] (fun i _ wr => ∃ j : Nat, j ≤ kn ∧ i = .int .i64 j ∧ Own wr w.heap.size w1.heap.size (some ⟨w.heap.size, 0, none⟩) (kn + 1) (kn + 1) (diffs (oneL kn) j) ∧ Below w.heap.size w wr ∧ w1.heap.size ≤ wr.heap.size) (fun i _ _ => kn - (intOf i).toNat)
    case atStart => exact ⟨0, Nat.zero_le _, rfl, o1, hb0, hs2⟩
    case round =>
      clear o1 hb0 hs2
      obtain ⟨j, hj, rfl, hown, hbel, hsz1⟩ := hrel
      by_cases hlt : j < kn
      · have hyl : Hid ((diffs (oneL kn) j).length = kn + 1) := by show (diffs (oneL kn) j).length = kn + 1; rw [diffs_length, oneL_length]
        have HYB : Hid (∀ i, -(64 * 1099511627776) ≤ (diffs (oneL kn) j).getD i 0 ∧ (diffs (oneL kn) j).getD i 0 ≤ 64 * 1099511627776) := diffs_le (by omega) HB.out j (by omega)
        have hnx : Hid (diffs (oneL kn) (j + 1) = diff1 (diffs (oneL kn) j)) := rfl
        generalize diffs (oneL kn) j = ys at hown hyl HYB hnx
        obtain ⟨wo, rfl⟩ : ∃ wo : World, wo = wr := ⟨_, rfl⟩
        have o2 : Own wo w.heap.size w1.heap.size (some ⟨w.heap.size, 0, none⟩) (kn + 1) (kn + 1) (dStage ys kn) := by rw [dStage_start ys kn (by have := hyl.out; omega)]; exact hown
        clear hown
        go_wp2_with fail
        go_loopw [5] (fun i wr => ∃ m : Nat, m < kn + 1 ∧ i = .int .i64 m ∧ Own wr w.heap.size w1.heap.size (some ⟨w.heap.size, 0, none⟩) (kn + 1) (kn + 1) (dStage ys m) ∧ Below w.heap.size w wr ∧ w1.heap.size ≤ wr.heap.size) (fun i _ => (intOf i).toNat)
        case atStart => exact ⟨kn, by omega, rfl, o2, hbel, hsz1⟩
        case round =>
          clear o2 hbel hsz1
          obtain ⟨m, hm, rfl, hown, hbel, hsz1⟩ := hrel
          by_cases hm0 : 0 < m
          · have hcx := hown.cellsAt m hm
            have hcy := hown.cellsAt (m - 1) (by omega)
            rw [dStage_here ys m (by rw [hyl.out]; exact hm)] at hcx
            rw [dStage_before ys m (by rw [hyl.out]; exact hm)] at hcy
            have hfy := hown.free m
            have bx := HYB.out m
            have by_ := HYB.out (m - 1)
            have hset := (hown.set m (ys.getD m 0 - ys.getD (m - 1) 0)).1
            rw [dStage_set ys m hm0 (by rw [hyl.out]; exact hm)] at hset
            have hbs := hbel.setCell (p := ⟨w.heap.size, m, none⟩) (Nat.le_refl _) (.int .i64 (ys.getD m 0 - ys.getD (m - 1) 0))
            generalize ys.getD m 0 = x at hcx bx hset hbs
            generalize ys.getD (m - 1) 0 = y at hcy by_ hset hbs
            clear hown hbel
            have hm1 : (m : Int) < (kn : Int) + 1 := by omega
            have e1 : IntKind.i64.wrap ((m : Int) - 1) = (m : Int) - 1 := IntWalk.i64_in _ (by omega)
            have e2 : IntKind.i64.wrap (x - y) = x - y := IntWalk.i64_in _ (by omega)
            have e3 : ((m : Int) - 1).toNat = m - 1 := by omega
            have e4 : (0 : Int) ≤ (m : Int) - 1 := by omega
            have e5 : (m : Int) - 1 < (kn : Int) + 1 := by omega
            go_wp2_with fail
            go_region
            go_wp2_with fail
            go_roundw
            case rel => exact ⟨m - 1, by omega, by go_num, hset.drew, hbs.drew, by simpa [World.setCell] using hsz1⟩
            case measure => simp [intOf]; omega
          · have h3 : Hid (dStage ys m = diff1 ys) := by show dStage ys m = _; rw [show m = 0 from by omega]; exact dStage_end ys
            rw [h3.out, ← hnx.out] at hown
            go_wp2_with fail
            go_roundw
            case rel => exact ⟨j + 1, by omega, by go_num, hown, hbel, hsz1⟩
            case measure => simp [intOf]; omega
      · have : j = kn := by omega
        subst this
        replace hown := hown.wide (Nat.le_refl _) hsz1
        rw [← HR.out] at hown
        go_wp2_with fail
        go_ret
        exact ⟨_, _, _, rfl, hown, hbel⟩

end Go.Proofs.Ytmgjbldnohkodaa
