/- The contracts of DifferencesOf and DifferenceCoefs, of the program and of the reference. -/
import Derived.Test.YtfmjpbfciclkoaaDiff
namespace Go.Proofs.Ytfmjpbfciclkoaa
open Go.RowKit

set_option maxHeartbeats 800000 in
theorem diff_i (ao : Option Addr) (n c : Nat) (xs : List Int) (k : Int) (w : World) (ha : Sl w w.heap.size ao n c xs) (_hk : Wf k) :
    Calls Try.prog 33 #[.slice ao n c, .int .i64 k] w (RetOwnB w (diffV xs k) (diffB xs k)) := by
  cases hx : isSeq xs
  · have hr := Lib.hid (diffB_no (xs := xs) (k := k) (.inl hx))
    go_enter Try.func33, Try.ntmps33
    go_wp2_with (go_at_call 37; refine (isSeq_i _ _ _ xs _ ha).mono ?_; rw [hx]; rintro e w' ⟨rfl, rfl⟩)
    go_ret2
    exact ret_none hr.out
  · cases hy : ordB k
    · have hr := Lib.hid (diffB_no (xs := xs) (k := k) (.inr hy))
      go_enter Try.func33, Try.ntmps33
      go_wp2_with (first | (go_at_call 37; refine (isSeq_i _ _ _ xs _ ha).mono ?_; rw [hx]; rintro e w' ⟨rfl, rfl⟩) | (go_at_call 44; refine (order_i _ _).mono ?_; rw [hy]; rintro e w' ⟨rfl, rfl⟩))
      go_ret2
      exact ret_none hr.out
    · have hk := ordB_true hy
      obtain ⟨kn, rfl⟩ := Int.eq_ofNat_of_zero_le hk.1
      have HR := Lib.hid (diffB_mk hx hy)
      rw [Int.toNat_natCast] at HR
      have hl1 := isSeq_len hx
      have hla := ha.len
      have HX := Lib.hid hx
      clear _hk
      go_enter Try.func33, Try.ntmps33
      go_wp2_with fail
      refine (isSeq_i _ _ _ xs _ ha).mono ?_
      rw [hx]
      rintro e w' ⟨rfl, rfl⟩
      go_wp2_with fail
      refine (order_i _ _).mono ?_
      rw [hy]
      rintro e w' ⟨rfl, rfl⟩
      have hn : n ≤ 1000 := by omega
      clear hx hy hla
      go_wp2_with fail
      refine (differences_i _ _ _ xs kn _ ha (by omega) (fun i => isSeq_at HX.out i)).mono ?_
      rintro e w1 ⟨a1, c1, rfl, o1, b1⟩
      cases hs : isSeq (diffs xs kn)
      · have HB := Lib.hid (HR.out.trans hs)
        go_wp2_with fail
        refine (asSeq_f _ _ _ _ _ (o1.sl (by omega)) hs).mono ?_
        rintro e w' ⟨rfl, rfl⟩
        go_wp2_with fail
        go_ret2
        exact ret_none' HB.out b1
      · have HB := Lib.hid (HR.out.trans hs)
        go_wp2_with fail
        refine (asSeq_t _ _ _ _ _ (o1.sl (by omega)) hs).mono ?_
        rintro e w' ⟨rfl, rfl⟩
        go_wp2_with fail
        go_ret2
        exact ret_list HB.out o1 b1


set_option maxHeartbeats 1600000 in
theorem coefs_i (k : Int) (w : World) (_hk : Wf k) :
    Calls Try.prog 23 #[.int .i64 k] w (RetOwn w (coefs k)) := by
  cases hy : ordB k
  · have hr := Lib.hid (coefs_no hy)
    go_enter Try.func23, Try.ntmps23
    go_wp2_with fail
    refine (order_i _ _).mono ?_
    rw [hy]
    rintro e w' ⟨rfl, rfl⟩
    go_wp2_with fail
    go_ret
    exact ⟨none, 0, 0, rfl, by rw [hr.out]; exact Own.nil, Below.refl _ _⟩
  · have hk := ordB_true hy
    obtain ⟨kn, rfl⟩ := Int.eq_ofNat_of_zero_le hk.1
    have HR := Lib.hid (coefs_yes hy)
    rw [Int.toNat_natCast] at HR
    have hk6 : kn ≤ 6 := by omega
    obtain ⟨i0, hi, hz0, hz1, hz2⟩ := info_parts int_info
    clear _hk hk
    go_enter Try.func23, Try.ntmps23
    go_wp2_with fail
    refine (order_i _ _).mono ?_
    rw [hy]
    rintro e w' ⟨rfl, rfl⟩
    clear hy
    go_wp2_with (at_make; refine wpList_make_full _ rfl _ _ 22 rfl w.heap.size 3 i0 (.int .i64 0) 1 Try.underlying22 hi hz0 hz1 .i64 .i64 ((kn : Int) + 1) ((kn : Int) + 1) (kn + 1) rfl rfl (by omega) (by omega) ?_ ?_ ?_ ?_)
    · rw [hz2]; omega
    · unfold maxLen; omega
    · exact Nat.le_refl _
    intro w1 hown hg1
    have hb1 : Below w.heap.size w w1 := (Below.refl _ _).grown hg1 (Nat.le_refl _) (by simp)
    have oz : Own w1 w.heap.size w1.heap.size (some ⟨w.heap.size, 0, none⟩) (kn + 1) (kn + 1) (List.replicate (kn + 1) 0) := by
      refine Own.of ?_
      rw [← made_zero (kn + 1)]
      exact hown
    have hcz := oz.cellsAt 0 (by omega)
    have hfz := oz.free 0
    have o0 := (oz.set 0 1).1
    have hb0 := hb1.setCell (p := ⟨w.heap.size, 0, none⟩) (Nat.le_refl _) (.int .i64 1)
    have hlt1 : w.heap.size < w1.heap.size := (hown.lt w.heap.size rfl).2
    have hsw : (w1.setCell ⟨w.heap.size, 0, none⟩ (.int .i64 1)).heap.size = w1.heap.size := by simp [World.setCell]
    rw [show (List.replicate (kn + 1) (0 : Int)).set 0 1 = oneL kn from rfl] at o0
    clear hown hg1 hi hz0 hz1 hz2 oz hb1
    go_wp2_with fail
    have o0' := o0.wide (Nat.le_refl _) (Nat.le_of_eq hsw.symm)
    refine (differences_i _ _ _ (oneL kn) kn _ (o0'.sl (by omega)) hk6 (fun i => by have := oneL_bd kn i; omega)).mono ?_
    rintro e w2 ⟨a2, c2, rfl, o2, b2⟩
    have b3 := hb0.trans (b2.mono hb0.size)
    rw [← HR.out] at o2
    clear o0 o0' hcz hfz hb0
    go_wp2_with fail
    go_ret
    exact ⟨a2, _, c2, rfl, o2.wide (by have := b2.size; rw [hsw]; omega) (Nat.le_refl _), b3⟩


end Go.Proofs.Ytfmjpbfciclkoaa
