/- The walk of the law FnAdded: it returns true and leaves what was there as it was. -/
import Derived.Test.YtfmjpbfciclkoaaPureF
import Derived.Test.YtfmjpbfciclkoaaLawP
import Derived.Test.YtfmjpbfciclkoaaSeqOps2
import Derived.Test.YtfmjpbfciclkoaaCut
namespace Go.Proofs.Ytfmjpbfciclkoaa
open Go.RowKit
set_option linter.unusedVariables false
set_option maxRecDepth 100000 in
set_option maxHeartbeats 4000000 in
theorem fnAdded_walk (a0 : Option Addr) (n0 c0 : Nat) (z0 : List Int) (w0 : World) (h : IsRow .u8 w0 a0 n0 c0 z0) :
    Calls Try.prog 6 #[.slice a0 n0 c0] w0 fun e w' => e = .returned (.bool true) ∧ Below w0.heap.size w0 w' := by
  have hle := h.le
  by_cases hn : n0 ≤ 1048576
  rotate_left
  · go_enter Try.func6, Try.ntmps6
    go_wp2_with fail
    go_ret
    exact ⟨rfl, Below.refl _ _⟩
  have s_code := h.bsl hn
  clear h hle
  have bb := Below.refl w0.heap.size w0
  go_enter Try.func6, Try.ntmps6
  go_wp2_with fail
  refine (mkSeq_any _ _ _ 30 100000 _ (s_code.more (Nat.le_refl _)) (by omega) (by omega) (by omega)).mono ?_
  rintro e w1 ⟨a_x, n_x, c_x, x_x, rfl, o_x, l_x, i_x, j_x, b⟩
  have S1 := Lib.hid b.size
  replace s_code := s_code.keep (b.mono (Nat.le_refl _))
  replace bb := bb.trans (b.mono (Nat.le_refl _))
  clear b
  have hn_x : n_x ≤ 1048576 := by omega
  go_wp2_with fail
  refine (fresh_any _ _ _ 3 _ (s_code.more (S1.out)) (by omega)).mono ?_
  rintro e w2 ⟨a_f, n_f, c_f, rfl, s_f, b⟩
  have S2 := Lib.hid b.size
  replace o_x := o_x.keep b (Nat.le_refl _)
  replace s_code := s_code.keep (b.mono (S1.out))
  replace bb := bb.trans (b.mono (S1.out))
  clear b
  go_wp2_with fail
  refine (mkSeq_any _ _ _ 30 100000 _ (s_f.more (Nat.le_refl _)) (by omega) (by omega) (by omega)).mono ?_
  rintro e w3 ⟨a_y, n_y, c_y, x_y, rfl, o_y, l_y, i_y, j_y, b⟩
  have S3 := Lib.hid b.size
  replace o_x := o_x.keep b (S2.out)
  replace s_code := s_code.keep (b.mono (Nat.le_trans S1.out S2.out))
  replace s_f := s_f.keep (b.mono (Nat.le_refl _))
  replace bb := bb.trans (b.mono (Nat.le_trans S1.out S2.out))
  clear b
  have hn_y : n_y ≤ 1048576 := by omega
  clear s_f
  have lx := o_x.len
  have ly := o_y.len
  have qx := ((o_x.sl hn_x).more (Nat.le_trans S2.out S3.out))
  have qy := ((o_y.sl hn_y).more (Nat.le_refl _))
  have hcx := qx.2.1
  have hcy := qy.2.1
  clear o_x
  clear o_y
  by_cases hxy : n_y < n_x
  · have hmx : n_y ≤ n_x := by omega
    have hmy : n_y ≤ n_y := by omega
    have s_px := qx.upto hmx
    have hrx := fun W => run_upto W a_x n_x c_x (n_y : Int) (by omega) (by omega)
    rw [Int.toNat_natCast] at hrx
    have s_py := qy.upto hmy
    have hry := fun W => run_upto W a_y n_y c_y (n_y : Int) (by omega) (by omega)
    rw [Int.toNat_natCast] at hry
    have LX : Hid ((x_x.take n_y).length = n_y) := by show _ = _; rw [List.length_take]; omega
    have LY : Hid ((x_y.take n_y).length = n_y) := by show _ = _; rw [List.length_take]; omega
    have wx := i_x.take n_y
    have wy := i_y.take n_y
    obtain ⟨X, hX⟩ : ∃ X, Hid (x_x.take n_y = X) := ⟨_, rfl⟩
    obtain ⟨Y, hY⟩ : ∃ Y, Hid (x_y.take n_y = Y) := ⟨_, rfl⟩
    rw [hX.out] at LX wx s_px
    rw [hY.out] at LY wy s_py
    clear qx qy lx ly
    go_wp2_with fail
    refine (at_any _ _ _ _ 1 _ s_code (by omega)).mono ?_
    rintro e w' ⟨a, a0, a1, rfl, rfl⟩
    obtain ⟨k, hk⟩ : ∃ k, a - 128 = k := ⟨_, rfl⟩
    have hk0 : -128 ≤ k ∧ k ≤ 127 := by omega
    have hwk : Wf k := by constructor <;> omega
    obtain ⟨⟨f1, f2⟩, ⟨f3, f4⟩, ⟨f5, f6⟩, ⟨f7, f8⟩, ⟨f9, f10⟩, ⟨f11, f12⟩, f13, f14, f15, f16⟩ := added_facts (xs := X) (ys := Y) (k := k) (by rw [LX.out, LY.out]) (by rw [LX.out]; omega) wx wy hk0.1 hk0.2
    obtain ⟨u, hu⟩ : ∃ u, Hid (sumOf X = u) := ⟨_, rfl⟩
    obtain ⟨v, hv⟩ : ∃ v, Hid (sumOf Y = v) := ⟨_, rfl⟩
    rw [hu.out] at f13 f14 f15
    rw [hv.out] at f13 f16
    have hku := mul_abs (a := k) (b := u) (A := 128) (B := 3000000) (by omega) (by omega)
    have L1 := Lib.hid (mixL_length X Y 1)
    have L2 := Lib.hid (scaleL_length X k)
    have L3 := Lib.hid (scaleL_length Y k)
    have L4 := Lib.hid (scaleL_length (mixL X Y 1) k)
    have F1 := Lib.hid f1
    have F2 := Lib.hid f2
    have F3 := Lib.hid f3
    have F4 := Lib.hid f4
    have F5 := Lib.hid f5
    have F6 := Lib.hid f6
    have F7 := Lib.hid f7
    have F8 := Lib.hid f8
    have F9 := Lib.hid f9
    have F10 := Lib.hid f10
    have F11 := Lib.hid f11
    have F12 := Lib.hid f12
    have F13 := Lib.hid f13
    have F14 := Lib.hid f14
    clear f1 f2 f3 f4 f5 f6 f7 f8 f9 f10 f11 f12 f13 f14
    go_wp2_with fail
    refine (add_i _ _ _ _ _ _ X Y _ (s_px.more (Nat.le_refl _)) (s_py.more (Nat.le_refl _))).mono ?_
    rw [F1.out, F2.out]
    rintro e w4 ⟨a_s, n_s, c_s, rfl, o_s, b⟩
    have S4 := Lib.hid b.size
    replace s_code := s_code.keep (b.mono (Nat.le_trans S1.out (Nat.le_trans S2.out S3.out)))
    replace s_px := s_px.keep (b.mono (Nat.le_refl _))
    replace s_py := s_py.keep (b.mono (Nat.le_refl _))
    replace bb := bb.trans (b.mono (Nat.le_trans S1.out (Nat.le_trans S2.out S3.out)))
    clear b
    have hn_s : n_s ≤ 1048576 := by rw [← o_s.len, L1.out, LX.out]; omega
    obtain rfl : n_y = n_s := by rw [← o_s.len, L1.out, LX.out]
    go_wp2_with fail
    refine (sub_i _ _ _ _ _ _ (mixL X Y 1) Y _ ((o_s.sl hn_s).more (Nat.le_refl _)) (s_py.more (S4.out))).mono ?_
    rw [F3.out, F4.out]
    rintro e w5 ⟨a_d, n_d, c_d, rfl, o_d, b⟩
    have S5 := Lib.hid b.size
    replace o_s := o_s.keep b (Nat.le_refl _)
    replace s_code := s_code.keep (b.mono (Nat.le_trans S1.out (Nat.le_trans S2.out (Nat.le_trans S3.out S4.out))))
    replace s_px := s_px.keep (b.mono (S4.out))
    replace s_py := s_py.keep (b.mono (S4.out))
    replace bb := bb.trans (b.mono (Nat.le_trans S1.out (Nat.le_trans S2.out (Nat.le_trans S3.out S4.out))))
    clear b
    have hn_d : n_d ≤ 1048576 := by rw [← o_d.len, LX.out]; omega
    obtain rfl : n_y = n_d := by rw [← o_d.len, LX.out]
    go_wp2_with fail
    refine (scale_i _ _ _ X _ _ (s_px.more (Nat.le_trans S4.out S5.out)) hwk).mono ?_
    rw [F5.out, F6.out]
    rintro e w6 ⟨a_a, n_a, c_a, rfl, o_a, b⟩
    have S6 := Lib.hid b.size
    replace o_s := o_s.keep b (S5.out)
    replace o_d := o_d.keep b (Nat.le_refl _)
    replace s_code := s_code.keep (b.mono (Nat.le_trans S1.out (Nat.le_trans S2.out (Nat.le_trans S3.out (Nat.le_trans S4.out S5.out)))))
    replace s_px := s_px.keep (b.mono (Nat.le_trans S4.out S5.out))
    replace s_py := s_py.keep (b.mono (Nat.le_trans S4.out S5.out))
    replace bb := bb.trans (b.mono (Nat.le_trans S1.out (Nat.le_trans S2.out (Nat.le_trans S3.out (Nat.le_trans S4.out S5.out)))))
    clear b
    have hn_a : n_a ≤ 1048576 := by rw [← o_a.len, L2.out, LX.out]; omega
    obtain rfl : n_y = n_a := by rw [← o_a.len, L2.out, LX.out]
    go_wp2_with fail
    refine (scale_i _ _ _ Y _ _ (s_py.more (Nat.le_trans S4.out (Nat.le_trans S5.out S6.out))) hwk).mono ?_
    rw [F7.out, F8.out]
    rintro e w7 ⟨a_b, n_b, c_b, rfl, o_b, b⟩
    have S7 := Lib.hid b.size
    replace o_s := o_s.keep b (Nat.le_trans S5.out S6.out)
    replace o_d := o_d.keep b (S6.out)
    replace o_a := o_a.keep b (Nat.le_refl _)
    replace s_code := s_code.keep (b.mono (Nat.le_trans S1.out (Nat.le_trans S2.out (Nat.le_trans S3.out (Nat.le_trans S4.out (Nat.le_trans S5.out S6.out))))))
    replace s_px := s_px.keep (b.mono (Nat.le_trans S4.out (Nat.le_trans S5.out S6.out)))
    replace s_py := s_py.keep (b.mono (Nat.le_trans S4.out (Nat.le_trans S5.out S6.out)))
    replace bb := bb.trans (b.mono (Nat.le_trans S1.out (Nat.le_trans S2.out (Nat.le_trans S3.out (Nat.le_trans S4.out (Nat.le_trans S5.out S6.out))))))
    clear b
    have hn_b : n_b ≤ 1048576 := by rw [← o_b.len, L3.out, LY.out]; omega
    obtain rfl : n_y = n_b := by rw [← o_b.len, L3.out, LY.out]
    go_wp2_with fail
    refine (scale_i _ _ _ (mixL X Y 1) _ _ ((o_s.sl hn_s).more (Nat.le_trans S5.out (Nat.le_trans S6.out S7.out))) hwk).mono ?_
    rw [F9.out, F10.out]
    rintro e w8 ⟨a_c, n_c, c_c, rfl, o_c, b⟩
    have S8 := Lib.hid b.size
    replace o_s := o_s.keep b (Nat.le_trans S5.out (Nat.le_trans S6.out S7.out))
    replace o_d := o_d.keep b (Nat.le_trans S6.out S7.out)
    replace o_a := o_a.keep b (S7.out)
    replace o_b := o_b.keep b (Nat.le_refl _)
    replace s_code := s_code.keep (b.mono (Nat.le_trans S1.out (Nat.le_trans S2.out (Nat.le_trans S3.out (Nat.le_trans S4.out (Nat.le_trans S5.out (Nat.le_trans S6.out S7.out)))))))
    replace s_px := s_px.keep (b.mono (Nat.le_trans S4.out (Nat.le_trans S5.out (Nat.le_trans S6.out S7.out))))
    replace s_py := s_py.keep (b.mono (Nat.le_trans S4.out (Nat.le_trans S5.out (Nat.le_trans S6.out S7.out))))
    replace bb := bb.trans (b.mono (Nat.le_trans S1.out (Nat.le_trans S2.out (Nat.le_trans S3.out (Nat.le_trans S4.out (Nat.le_trans S5.out (Nat.le_trans S6.out S7.out)))))))
    clear b
    have hn_c : n_c ≤ 1048576 := by rw [← o_c.len, L4.out, L1.out, LX.out]; omega
    obtain rfl : n_y = n_c := by rw [← o_c.len, L4.out, L1.out, LX.out]
    go_wp2_with fail
    refine (add_i _ _ _ _ _ _ (scaleL X k) (scaleL Y k) _ ((o_a.sl hn_a).more (Nat.le_trans S7.out S8.out)) ((o_b.sl hn_b).more (S8.out))).mono ?_
    rw [F11.out, F12.out]
    rintro e w9 ⟨a_e, n_e, c_e, rfl, o_e, b⟩
    have S9 := Lib.hid b.size
    replace o_s := o_s.keep b (Nat.le_trans S5.out (Nat.le_trans S6.out (Nat.le_trans S7.out S8.out)))
    replace o_d := o_d.keep b (Nat.le_trans S6.out (Nat.le_trans S7.out S8.out))
    replace o_a := o_a.keep b (Nat.le_trans S7.out S8.out)
    replace o_b := o_b.keep b (S8.out)
    replace o_c := o_c.keep b (Nat.le_refl _)
    replace s_code := s_code.keep (b.mono (Nat.le_trans S1.out (Nat.le_trans S2.out (Nat.le_trans S3.out (Nat.le_trans S4.out (Nat.le_trans S5.out (Nat.le_trans S6.out (Nat.le_trans S7.out S8.out))))))))
    replace s_px := s_px.keep (b.mono (Nat.le_trans S4.out (Nat.le_trans S5.out (Nat.le_trans S6.out (Nat.le_trans S7.out S8.out)))))
    replace s_py := s_py.keep (b.mono (Nat.le_trans S4.out (Nat.le_trans S5.out (Nat.le_trans S6.out (Nat.le_trans S7.out S8.out)))))
    replace bb := bb.trans (b.mono (Nat.le_trans S1.out (Nat.le_trans S2.out (Nat.le_trans S3.out (Nat.le_trans S4.out (Nat.le_trans S5.out (Nat.le_trans S6.out (Nat.le_trans S7.out S8.out))))))))
    clear b
    have hn_e : n_e ≤ 1048576 := by rw [← o_e.len, L4.out, L1.out, LX.out]; omega
    obtain rfl : n_y = n_e := by rw [← o_e.len, L4.out, L1.out, LX.out]
    go_wp2_with fail
    refine (ints_true _ _ _ _ _ _ _ ((o_d.sl hn_d).more (Nat.le_trans S6.out (Nat.le_trans S7.out (Nat.le_trans S8.out S9.out)))) (s_px.more (Nat.le_trans S4.out (Nat.le_trans S5.out (Nat.le_trans S6.out (Nat.le_trans S7.out (Nat.le_trans S8.out S9.out))))))).mono ?_
    rintro e w10 ⟨rfl, b⟩
    have S10 := Lib.hid b.size
    replace o_s := o_s.keep b (Nat.le_trans S5.out (Nat.le_trans S6.out (Nat.le_trans S7.out (Nat.le_trans S8.out S9.out))))
    replace o_d := o_d.keep b (Nat.le_trans S6.out (Nat.le_trans S7.out (Nat.le_trans S8.out S9.out)))
    replace o_a := o_a.keep b (Nat.le_trans S7.out (Nat.le_trans S8.out S9.out))
    replace o_b := o_b.keep b (Nat.le_trans S8.out S9.out)
    replace o_c := o_c.keep b (S9.out)
    replace o_e := o_e.keep b (Nat.le_refl _)
    replace s_code := s_code.keep (b.mono (Nat.le_trans S1.out (Nat.le_trans S2.out (Nat.le_trans S3.out (Nat.le_trans S4.out (Nat.le_trans S5.out (Nat.le_trans S6.out (Nat.le_trans S7.out (Nat.le_trans S8.out S9.out)))))))))
    replace s_px := s_px.keep (b.mono (Nat.le_trans S4.out (Nat.le_trans S5.out (Nat.le_trans S6.out (Nat.le_trans S7.out (Nat.le_trans S8.out S9.out))))))
    replace s_py := s_py.keep (b.mono (Nat.le_trans S4.out (Nat.le_trans S5.out (Nat.le_trans S6.out (Nat.le_trans S7.out (Nat.le_trans S8.out S9.out))))))
    replace bb := bb.trans (b.mono (Nat.le_trans S1.out (Nat.le_trans S2.out (Nat.le_trans S3.out (Nat.le_trans S4.out (Nat.le_trans S5.out (Nat.le_trans S6.out (Nat.le_trans S7.out (Nat.le_trans S8.out S9.out)))))))))
    clear b
    go_wp2_with fail
    refine (ints_true _ _ _ _ _ _ _ ((o_c.sl hn_c).more (Nat.le_trans S9.out S10.out)) ((o_e.sl hn_e).more (S10.out))).mono ?_
    rintro e w11 ⟨rfl, b⟩
    have S11 := Lib.hid b.size
    replace o_s := o_s.keep b (Nat.le_trans S5.out (Nat.le_trans S6.out (Nat.le_trans S7.out (Nat.le_trans S8.out (Nat.le_trans S9.out S10.out)))))
    replace o_d := o_d.keep b (Nat.le_trans S6.out (Nat.le_trans S7.out (Nat.le_trans S8.out (Nat.le_trans S9.out S10.out))))
    replace o_a := o_a.keep b (Nat.le_trans S7.out (Nat.le_trans S8.out (Nat.le_trans S9.out S10.out)))
    replace o_b := o_b.keep b (Nat.le_trans S8.out (Nat.le_trans S9.out S10.out))
    replace o_c := o_c.keep b (Nat.le_trans S9.out S10.out)
    replace o_e := o_e.keep b (S10.out)
    replace s_code := s_code.keep (b.mono (Nat.le_trans S1.out (Nat.le_trans S2.out (Nat.le_trans S3.out (Nat.le_trans S4.out (Nat.le_trans S5.out (Nat.le_trans S6.out (Nat.le_trans S7.out (Nat.le_trans S8.out (Nat.le_trans S9.out S10.out))))))))))
    replace s_px := s_px.keep (b.mono (Nat.le_trans S4.out (Nat.le_trans S5.out (Nat.le_trans S6.out (Nat.le_trans S7.out (Nat.le_trans S8.out (Nat.le_trans S9.out S10.out)))))))
    replace s_py := s_py.keep (b.mono (Nat.le_trans S4.out (Nat.le_trans S5.out (Nat.le_trans S6.out (Nat.le_trans S7.out (Nat.le_trans S8.out (Nat.le_trans S9.out S10.out)))))))
    replace bb := bb.trans (b.mono (Nat.le_trans S1.out (Nat.le_trans S2.out (Nat.le_trans S3.out (Nat.le_trans S4.out (Nat.le_trans S5.out (Nat.le_trans S6.out (Nat.le_trans S7.out (Nat.le_trans S8.out (Nat.le_trans S9.out S10.out))))))))))
    clear b
    go_wp2_with fail
    refine (sumOf_i _ _ _ (mixL X Y 1) _ ((o_s.sl hn_s).more (Nat.le_trans S5.out (Nat.le_trans S6.out (Nat.le_trans S7.out (Nat.le_trans S8.out (Nat.le_trans S9.out (Nat.le_trans S10.out S11.out)))))))).mono ?_
    rw [F13.out]
    rintro e w' ⟨rfl, rfl⟩
    go_wp2_with fail
    refine (sumOf_i _ _ _ (X) _ (s_px.more (Nat.le_trans S4.out (Nat.le_trans S5.out (Nat.le_trans S6.out (Nat.le_trans S7.out (Nat.le_trans S8.out (Nat.le_trans S9.out (Nat.le_trans S10.out S11.out))))))))).mono ?_
    rw [hu.out]
    rintro e w' ⟨rfl, rfl⟩
    go_wp2_with fail
    refine (sumOf_i _ _ _ (Y) _ (s_py.more (Nat.le_trans S4.out (Nat.le_trans S5.out (Nat.le_trans S6.out (Nat.le_trans S7.out (Nat.le_trans S8.out (Nat.le_trans S9.out (Nat.le_trans S10.out S11.out))))))))).mono ?_
    rw [hv.out]
    rintro e w' ⟨rfl, rfl⟩
    go_wp2_with fail
    refine (sumOf_i _ _ _ (scaleL X k) _ ((o_a.sl hn_a).more (Nat.le_trans S7.out (Nat.le_trans S8.out (Nat.le_trans S9.out (Nat.le_trans S10.out S11.out)))))).mono ?_
    rw [F14.out]
    rintro e w' ⟨rfl, rfl⟩
    go_wp2_with fail
    refine (sumOf_i _ _ _ (X) _ (s_px.more (Nat.le_trans S4.out (Nat.le_trans S5.out (Nat.le_trans S6.out (Nat.le_trans S7.out (Nat.le_trans S8.out (Nat.le_trans S9.out (Nat.le_trans S10.out S11.out))))))))).mono ?_
    rw [hu.out]
    rintro e w' ⟨rfl, rfl⟩
    go_wp2_with fail
    go_ret
    exact ⟨rfl, bb⟩
  · have hmx : n_x ≤ n_x := by omega
    have hmy : n_x ≤ n_y := by omega
    have s_px := qx.upto hmx
    have hrx := fun W => run_upto W a_x n_x c_x (n_x : Int) (by omega) (by omega)
    rw [Int.toNat_natCast] at hrx
    have s_py := qy.upto hmy
    have hry := fun W => run_upto W a_y n_y c_y (n_x : Int) (by omega) (by omega)
    rw [Int.toNat_natCast] at hry
    have LX : Hid ((x_x.take n_x).length = n_x) := by show _ = _; rw [List.length_take]; omega
    have LY : Hid ((x_y.take n_x).length = n_x) := by show _ = _; rw [List.length_take]; omega
    have wx := i_x.take n_x
    have wy := i_y.take n_x
    obtain ⟨X, hX⟩ : ∃ X, Hid (x_x.take n_x = X) := ⟨_, rfl⟩
    obtain ⟨Y, hY⟩ : ∃ Y, Hid (x_y.take n_x = Y) := ⟨_, rfl⟩
    rw [hX.out] at LX wx s_px
    rw [hY.out] at LY wy s_py
    clear qx qy lx ly
    go_wp2_with fail
    refine (at_any _ _ _ _ 1 _ s_code (by omega)).mono ?_
    rintro e w' ⟨a, a0, a1, rfl, rfl⟩
    obtain ⟨k, hk⟩ : ∃ k, a - 128 = k := ⟨_, rfl⟩
    have hk0 : -128 ≤ k ∧ k ≤ 127 := by omega
    have hwk : Wf k := by constructor <;> omega
    obtain ⟨⟨f1, f2⟩, ⟨f3, f4⟩, ⟨f5, f6⟩, ⟨f7, f8⟩, ⟨f9, f10⟩, ⟨f11, f12⟩, f13, f14, f15, f16⟩ := added_facts (xs := X) (ys := Y) (k := k) (by rw [LX.out, LY.out]) (by rw [LX.out]; omega) wx wy hk0.1 hk0.2
    obtain ⟨u, hu⟩ : ∃ u, Hid (sumOf X = u) := ⟨_, rfl⟩
    obtain ⟨v, hv⟩ : ∃ v, Hid (sumOf Y = v) := ⟨_, rfl⟩
    rw [hu.out] at f13 f14 f15
    rw [hv.out] at f13 f16
    have hku := mul_abs (a := k) (b := u) (A := 128) (B := 3000000) (by omega) (by omega)
    have L1 := Lib.hid (mixL_length X Y 1)
    have L2 := Lib.hid (scaleL_length X k)
    have L3 := Lib.hid (scaleL_length Y k)
    have L4 := Lib.hid (scaleL_length (mixL X Y 1) k)
    have F1 := Lib.hid f1
    have F2 := Lib.hid f2
    have F3 := Lib.hid f3
    have F4 := Lib.hid f4
    have F5 := Lib.hid f5
    have F6 := Lib.hid f6
    have F7 := Lib.hid f7
    have F8 := Lib.hid f8
    have F9 := Lib.hid f9
    have F10 := Lib.hid f10
    have F11 := Lib.hid f11
    have F12 := Lib.hid f12
    have F13 := Lib.hid f13
    have F14 := Lib.hid f14
    clear f1 f2 f3 f4 f5 f6 f7 f8 f9 f10 f11 f12 f13 f14
    go_wp2_with fail
    refine (add_i _ _ _ _ _ _ X Y _ (s_px.more (Nat.le_refl _)) (s_py.more (Nat.le_refl _))).mono ?_
    rw [F1.out, F2.out]
    rintro e w4 ⟨a_s, n_s, c_s, rfl, o_s, b⟩
    have S4 := Lib.hid b.size
    replace s_code := s_code.keep (b.mono (Nat.le_trans S1.out (Nat.le_trans S2.out S3.out)))
    replace s_px := s_px.keep (b.mono (Nat.le_refl _))
    replace s_py := s_py.keep (b.mono (Nat.le_refl _))
    replace bb := bb.trans (b.mono (Nat.le_trans S1.out (Nat.le_trans S2.out S3.out)))
    clear b
    have hn_s : n_s ≤ 1048576 := by rw [← o_s.len, L1.out, LX.out]; omega
    obtain rfl : n_x = n_s := by rw [← o_s.len, L1.out, LX.out]
    go_wp2_with fail
    refine (sub_i _ _ _ _ _ _ (mixL X Y 1) Y _ ((o_s.sl hn_s).more (Nat.le_refl _)) (s_py.more (S4.out))).mono ?_
    rw [F3.out, F4.out]
    rintro e w5 ⟨a_d, n_d, c_d, rfl, o_d, b⟩
    have S5 := Lib.hid b.size
    replace o_s := o_s.keep b (Nat.le_refl _)
    replace s_code := s_code.keep (b.mono (Nat.le_trans S1.out (Nat.le_trans S2.out (Nat.le_trans S3.out S4.out))))
    replace s_px := s_px.keep (b.mono (S4.out))
    replace s_py := s_py.keep (b.mono (S4.out))
    replace bb := bb.trans (b.mono (Nat.le_trans S1.out (Nat.le_trans S2.out (Nat.le_trans S3.out S4.out))))
    clear b
    have hn_d : n_d ≤ 1048576 := by rw [← o_d.len, LX.out]; omega
    obtain rfl : n_x = n_d := by rw [← o_d.len, LX.out]
    go_wp2_with fail
    refine (scale_i _ _ _ X _ _ (s_px.more (Nat.le_trans S4.out S5.out)) hwk).mono ?_
    rw [F5.out, F6.out]
    rintro e w6 ⟨a_a, n_a, c_a, rfl, o_a, b⟩
    have S6 := Lib.hid b.size
    replace o_s := o_s.keep b (S5.out)
    replace o_d := o_d.keep b (Nat.le_refl _)
    replace s_code := s_code.keep (b.mono (Nat.le_trans S1.out (Nat.le_trans S2.out (Nat.le_trans S3.out (Nat.le_trans S4.out S5.out)))))
    replace s_px := s_px.keep (b.mono (Nat.le_trans S4.out S5.out))
    replace s_py := s_py.keep (b.mono (Nat.le_trans S4.out S5.out))
    replace bb := bb.trans (b.mono (Nat.le_trans S1.out (Nat.le_trans S2.out (Nat.le_trans S3.out (Nat.le_trans S4.out S5.out)))))
    clear b
    have hn_a : n_a ≤ 1048576 := by rw [← o_a.len, L2.out, LX.out]; omega
    obtain rfl : n_x = n_a := by rw [← o_a.len, L2.out, LX.out]
    go_wp2_with fail
    refine (scale_i _ _ _ Y _ _ (s_py.more (Nat.le_trans S4.out (Nat.le_trans S5.out S6.out))) hwk).mono ?_
    rw [F7.out, F8.out]
    rintro e w7 ⟨a_b, n_b, c_b, rfl, o_b, b⟩
    have S7 := Lib.hid b.size
    replace o_s := o_s.keep b (Nat.le_trans S5.out S6.out)
    replace o_d := o_d.keep b (S6.out)
    replace o_a := o_a.keep b (Nat.le_refl _)
    replace s_code := s_code.keep (b.mono (Nat.le_trans S1.out (Nat.le_trans S2.out (Nat.le_trans S3.out (Nat.le_trans S4.out (Nat.le_trans S5.out S6.out))))))
    replace s_px := s_px.keep (b.mono (Nat.le_trans S4.out (Nat.le_trans S5.out S6.out)))
    replace s_py := s_py.keep (b.mono (Nat.le_trans S4.out (Nat.le_trans S5.out S6.out)))
    replace bb := bb.trans (b.mono (Nat.le_trans S1.out (Nat.le_trans S2.out (Nat.le_trans S3.out (Nat.le_trans S4.out (Nat.le_trans S5.out S6.out))))))
    clear b
    have hn_b : n_b ≤ 1048576 := by rw [← o_b.len, L3.out, LY.out]; omega
    obtain rfl : n_x = n_b := by rw [← o_b.len, L3.out, LY.out]
    go_wp2_with fail
    refine (scale_i _ _ _ (mixL X Y 1) _ _ ((o_s.sl hn_s).more (Nat.le_trans S5.out (Nat.le_trans S6.out S7.out))) hwk).mono ?_
    rw [F9.out, F10.out]
    rintro e w8 ⟨a_c, n_c, c_c, rfl, o_c, b⟩
    have S8 := Lib.hid b.size
    replace o_s := o_s.keep b (Nat.le_trans S5.out (Nat.le_trans S6.out S7.out))
    replace o_d := o_d.keep b (Nat.le_trans S6.out S7.out)
    replace o_a := o_a.keep b (S7.out)
    replace o_b := o_b.keep b (Nat.le_refl _)
    replace s_code := s_code.keep (b.mono (Nat.le_trans S1.out (Nat.le_trans S2.out (Nat.le_trans S3.out (Nat.le_trans S4.out (Nat.le_trans S5.out (Nat.le_trans S6.out S7.out)))))))
    replace s_px := s_px.keep (b.mono (Nat.le_trans S4.out (Nat.le_trans S5.out (Nat.le_trans S6.out S7.out))))
    replace s_py := s_py.keep (b.mono (Nat.le_trans S4.out (Nat.le_trans S5.out (Nat.le_trans S6.out S7.out))))
    replace bb := bb.trans (b.mono (Nat.le_trans S1.out (Nat.le_trans S2.out (Nat.le_trans S3.out (Nat.le_trans S4.out (Nat.le_trans S5.out (Nat.le_trans S6.out S7.out)))))))
    clear b
    have hn_c : n_c ≤ 1048576 := by rw [← o_c.len, L4.out, L1.out, LX.out]; omega
    obtain rfl : n_x = n_c := by rw [← o_c.len, L4.out, L1.out, LX.out]
    go_wp2_with fail
    refine (add_i _ _ _ _ _ _ (scaleL X k) (scaleL Y k) _ ((o_a.sl hn_a).more (Nat.le_trans S7.out S8.out)) ((o_b.sl hn_b).more (S8.out))).mono ?_
    rw [F11.out, F12.out]
    rintro e w9 ⟨a_e, n_e, c_e, rfl, o_e, b⟩
    have S9 := Lib.hid b.size
    replace o_s := o_s.keep b (Nat.le_trans S5.out (Nat.le_trans S6.out (Nat.le_trans S7.out S8.out)))
    replace o_d := o_d.keep b (Nat.le_trans S6.out (Nat.le_trans S7.out S8.out))
    replace o_a := o_a.keep b (Nat.le_trans S7.out S8.out)
    replace o_b := o_b.keep b (S8.out)
    replace o_c := o_c.keep b (Nat.le_refl _)
    replace s_code := s_code.keep (b.mono (Nat.le_trans S1.out (Nat.le_trans S2.out (Nat.le_trans S3.out (Nat.le_trans S4.out (Nat.le_trans S5.out (Nat.le_trans S6.out (Nat.le_trans S7.out S8.out))))))))
    replace s_px := s_px.keep (b.mono (Nat.le_trans S4.out (Nat.le_trans S5.out (Nat.le_trans S6.out (Nat.le_trans S7.out S8.out)))))
    replace s_py := s_py.keep (b.mono (Nat.le_trans S4.out (Nat.le_trans S5.out (Nat.le_trans S6.out (Nat.le_trans S7.out S8.out)))))
    replace bb := bb.trans (b.mono (Nat.le_trans S1.out (Nat.le_trans S2.out (Nat.le_trans S3.out (Nat.le_trans S4.out (Nat.le_trans S5.out (Nat.le_trans S6.out (Nat.le_trans S7.out S8.out))))))))
    clear b
    have hn_e : n_e ≤ 1048576 := by rw [← o_e.len, L4.out, L1.out, LX.out]; omega
    obtain rfl : n_x = n_e := by rw [← o_e.len, L4.out, L1.out, LX.out]
    go_wp2_with fail
    refine (ints_true _ _ _ _ _ _ _ ((o_d.sl hn_d).more (Nat.le_trans S6.out (Nat.le_trans S7.out (Nat.le_trans S8.out S9.out)))) (s_px.more (Nat.le_trans S4.out (Nat.le_trans S5.out (Nat.le_trans S6.out (Nat.le_trans S7.out (Nat.le_trans S8.out S9.out))))))).mono ?_
    rintro e w10 ⟨rfl, b⟩
    have S10 := Lib.hid b.size
    replace o_s := o_s.keep b (Nat.le_trans S5.out (Nat.le_trans S6.out (Nat.le_trans S7.out (Nat.le_trans S8.out S9.out))))
    replace o_d := o_d.keep b (Nat.le_trans S6.out (Nat.le_trans S7.out (Nat.le_trans S8.out S9.out)))
    replace o_a := o_a.keep b (Nat.le_trans S7.out (Nat.le_trans S8.out S9.out))
    replace o_b := o_b.keep b (Nat.le_trans S8.out S9.out)
    replace o_c := o_c.keep b (S9.out)
    replace o_e := o_e.keep b (Nat.le_refl _)
    replace s_code := s_code.keep (b.mono (Nat.le_trans S1.out (Nat.le_trans S2.out (Nat.le_trans S3.out (Nat.le_trans S4.out (Nat.le_trans S5.out (Nat.le_trans S6.out (Nat.le_trans S7.out (Nat.le_trans S8.out S9.out)))))))))
    replace s_px := s_px.keep (b.mono (Nat.le_trans S4.out (Nat.le_trans S5.out (Nat.le_trans S6.out (Nat.le_trans S7.out (Nat.le_trans S8.out S9.out))))))
    replace s_py := s_py.keep (b.mono (Nat.le_trans S4.out (Nat.le_trans S5.out (Nat.le_trans S6.out (Nat.le_trans S7.out (Nat.le_trans S8.out S9.out))))))
    replace bb := bb.trans (b.mono (Nat.le_trans S1.out (Nat.le_trans S2.out (Nat.le_trans S3.out (Nat.le_trans S4.out (Nat.le_trans S5.out (Nat.le_trans S6.out (Nat.le_trans S7.out (Nat.le_trans S8.out S9.out)))))))))
    clear b
    go_wp2_with fail
    refine (ints_true _ _ _ _ _ _ _ ((o_c.sl hn_c).more (Nat.le_trans S9.out S10.out)) ((o_e.sl hn_e).more (S10.out))).mono ?_
    rintro e w11 ⟨rfl, b⟩
    have S11 := Lib.hid b.size
    replace o_s := o_s.keep b (Nat.le_trans S5.out (Nat.le_trans S6.out (Nat.le_trans S7.out (Nat.le_trans S8.out (Nat.le_trans S9.out S10.out)))))
    replace o_d := o_d.keep b (Nat.le_trans S6.out (Nat.le_trans S7.out (Nat.le_trans S8.out (Nat.le_trans S9.out S10.out))))
    replace o_a := o_a.keep b (Nat.le_trans S7.out (Nat.le_trans S8.out (Nat.le_trans S9.out S10.out)))
    replace o_b := o_b.keep b (Nat.le_trans S8.out (Nat.le_trans S9.out S10.out))
    replace o_c := o_c.keep b (Nat.le_trans S9.out S10.out)
    replace o_e := o_e.keep b (S10.out)
    replace s_code := s_code.keep (b.mono (Nat.le_trans S1.out (Nat.le_trans S2.out (Nat.le_trans S3.out (Nat.le_trans S4.out (Nat.le_trans S5.out (Nat.le_trans S6.out (Nat.le_trans S7.out (Nat.le_trans S8.out (Nat.le_trans S9.out S10.out))))))))))
    replace s_px := s_px.keep (b.mono (Nat.le_trans S4.out (Nat.le_trans S5.out (Nat.le_trans S6.out (Nat.le_trans S7.out (Nat.le_trans S8.out (Nat.le_trans S9.out S10.out)))))))
    replace s_py := s_py.keep (b.mono (Nat.le_trans S4.out (Nat.le_trans S5.out (Nat.le_trans S6.out (Nat.le_trans S7.out (Nat.le_trans S8.out (Nat.le_trans S9.out S10.out)))))))
    replace bb := bb.trans (b.mono (Nat.le_trans S1.out (Nat.le_trans S2.out (Nat.le_trans S3.out (Nat.le_trans S4.out (Nat.le_trans S5.out (Nat.le_trans S6.out (Nat.le_trans S7.out (Nat.le_trans S8.out (Nat.le_trans S9.out S10.out))))))))))
    clear b
    go_wp2_with fail
    refine (sumOf_i _ _ _ (mixL X Y 1) _ ((o_s.sl hn_s).more (Nat.le_trans S5.out (Nat.le_trans S6.out (Nat.le_trans S7.out (Nat.le_trans S8.out (Nat.le_trans S9.out (Nat.le_trans S10.out S11.out)))))))).mono ?_
    rw [F13.out]
    rintro e w' ⟨rfl, rfl⟩
    go_wp2_with fail
    refine (sumOf_i _ _ _ (X) _ (s_px.more (Nat.le_trans S4.out (Nat.le_trans S5.out (Nat.le_trans S6.out (Nat.le_trans S7.out (Nat.le_trans S8.out (Nat.le_trans S9.out (Nat.le_trans S10.out S11.out))))))))).mono ?_
    rw [hu.out]
    rintro e w' ⟨rfl, rfl⟩
    go_wp2_with fail
    refine (sumOf_i _ _ _ (Y) _ (s_py.more (Nat.le_trans S4.out (Nat.le_trans S5.out (Nat.le_trans S6.out (Nat.le_trans S7.out (Nat.le_trans S8.out (Nat.le_trans S9.out (Nat.le_trans S10.out S11.out))))))))).mono ?_
    rw [hv.out]
    rintro e w' ⟨rfl, rfl⟩
    go_wp2_with fail
    refine (sumOf_i _ _ _ (scaleL X k) _ ((o_a.sl hn_a).more (Nat.le_trans S7.out (Nat.le_trans S8.out (Nat.le_trans S9.out (Nat.le_trans S10.out S11.out)))))).mono ?_
    rw [F14.out]
    rintro e w' ⟨rfl, rfl⟩
    go_wp2_with fail
    refine (sumOf_i _ _ _ (X) _ (s_px.more (Nat.le_trans S4.out (Nat.le_trans S5.out (Nat.le_trans S6.out (Nat.le_trans S7.out (Nat.le_trans S8.out (Nat.le_trans S9.out (Nat.le_trans S10.out S11.out))))))))).mono ?_
    rw [hu.out]
    rintro e w' ⟨rfl, rfl⟩
    go_wp2_with fail
    go_ret
    exact ⟨rfl, bb⟩
end Go.Proofs.Ytfmjpbfciclkoaa
