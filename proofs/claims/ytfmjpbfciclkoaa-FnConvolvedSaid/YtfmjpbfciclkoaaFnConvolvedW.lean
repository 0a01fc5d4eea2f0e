/- The walk of the law FnConvolved: it returns true and leaves what was there as it was. -/
import Derived.Test.YtfmjpbfciclkoaaPureF
import Derived.Test.YtfmjpbfciclkoaaLawP
import Derived.Test.YtfmjpbfciclkoaaSeqOps2
import Derived.Test.YtfmjpbfciclkoaaConv
import Derived.Test.YtfmjpbfciclkoaaCut
import Derived.Test.YtfmjpbfciclkoaaAppZ
namespace Go.Proofs.Ytfmjpbfciclkoaa
open Go.RowKit
set_option linter.unusedVariables false
set_option maxRecDepth 100000 in
set_option maxHeartbeats 4000000 in
theorem fnConvolved_walk (a0 : Option Addr) (n0 c0 : Nat) (z0 : List Int) (w0 : World) (h : IsRow .u8 w0 a0 n0 c0 z0) :
    Calls Try.prog 4 #[.slice a0 n0 c0] w0 fun e w' => e = .returned (.bool true) ∧ Below w0.heap.size w0 w' := by
  have hle := h.le
  by_cases hn : n0 ≤ 1048576
  rotate_left
  · go_enter Try.func4, Try.ntmps4
    go_wp2_with fail
    go_ret
    exact ⟨rfl, Below.refl _ _⟩
  have s_code := h.bsl hn
  clear h hle
  have bb := Below.refl w0.heap.size w0
  go_enter Try.func4, Try.ntmps4
  go_wp2_with fail
  refine (mkSeq_any _ _ _ 25 1000 _ (s_code.more (Nat.le_refl _)) (by omega) (by omega) (by omega)).mono ?_
  rintro e w1 ⟨a_x, n_x, c_x, x_x, rfl, o_x, l_x, i_x, j_x, b⟩
  have S1 := Lib.hid b.size
  replace s_code := s_code.keep (b.mono (Nat.le_refl _))
  replace bb := bb.trans (b.mono (Nat.le_refl _))
  clear b
  have hn_x : n_x ≤ 1048576 := by omega
  go_wp2_with fail
  refine (fresh_any _ _ _ 3 _ (s_code.more (S1.out)) (by omega)).mono ?_
  rintro e w2 ⟨a_f, n_f, c_f, rfl, s_f, b⟩
  have S2 := Lib.hid b.size
  replace o_x := o_x.keep b (Nat.le_refl _)
  replace s_code := s_code.keep (b.mono (S1.out))
  replace bb := bb.trans (b.mono (S1.out))
  clear b
  go_wp2_with fail
  refine (mkSeq_any _ _ _ 25 1000 _ (s_f.more (Nat.le_refl _)) (by omega) (by omega) (by omega)).mono ?_
  rintro e w3 ⟨a_y, n_y, c_y, x_y, rfl, o_y, l_y, i_y, j_y, b⟩
  have S3 := Lib.hid b.size
  replace o_x := o_x.keep b (S2.out)
  replace s_code := s_code.keep (b.mono (Nat.le_trans S1.out S2.out))
  replace s_f := s_f.keep (b.mono (Nat.le_refl _))
  replace bb := bb.trans (b.mono (Nat.le_trans S1.out S2.out))
  clear b
  have hn_y : n_y ≤ 1048576 := by omega
  clear s_f
  have lx := o_x.len
  have ly := o_y.len
  have qx := ((o_x.sl hn_x).more (Nat.le_trans S2.out S3.out))
  have qy := ((o_y.sl hn_y).more (Nat.le_refl _))
  have hcx := qx.2.1
  have hcy := qy.2.1
  clear o_x
  clear o_y
  by_cases hxy : n_y < n_x
  · have hmx : n_y ≤ n_x := by omega
    have hmy : n_y ≤ n_y := by omega
    have s_px := qx.upto hmx
    have hrx := fun W => run_upto W a_x n_x c_x (n_y : Int) (by omega) (by omega)
    rw [Int.toNat_natCast] at hrx
    have s_py := qy.upto hmy
    have hry := fun W => run_upto W a_y n_y c_y (n_y : Int) (by omega) (by omega)
    rw [Int.toNat_natCast] at hry
    have LX : Hid ((x_x.take n_y).length = n_y) := by show _ = _; rw [List.length_take]; omega
    have LY : Hid ((x_y.take n_y).length = n_y) := by show _ = _; rw [List.length_take]; omega
    have wx := i_x.take n_y
    have wy := i_y.take n_y
    obtain ⟨X, hX⟩ : ∃ X, Hid (x_x.take n_y = X) := ⟨_, rfl⟩
    obtain ⟨Y, hY⟩ : ∃ Y, Hid (x_y.take n_y = Y) := ⟨_, rfl⟩
    rw [hX.out] at LX wx s_px
    rw [hY.out] at LY wy s_py
    clear qx qy lx ly
    go_wp2_with fail
    refine (fresh_any _ _ _ 5 _ (s_code.more (Nat.le_trans S1.out (Nat.le_trans S2.out S3.out))) (by omega)).mono ?_
    rintro e w4 ⟨a_p, n_p, c_p, rfl, s_p, b⟩
    have S4 := Lib.hid b.size
    replace s_code := s_code.keep (b.mono (Nat.le_trans S1.out (Nat.le_trans S2.out S3.out)))
    replace s_px := s_px.keep (b.mono (Nat.le_refl _))
    replace s_py := s_py.keep (b.mono (Nat.le_refl _))
    replace bb := bb.trans (b.mono (Nat.le_trans S1.out (Nat.le_trans S2.out S3.out)))
    clear b
    go_wp2_with fail
    refine (mkSeq_any _ _ _ 5 20 _ (s_p.more (Nat.le_refl _)) (by omega) (by omega) (by omega)).mono ?_
    rintro e w5 ⟨a_g, n_g, c_g, x_g, rfl, o_g, l_g, i_g, j_g, b⟩
    have S5 := Lib.hid b.size
    replace s_code := s_code.keep (b.mono (Nat.le_trans S1.out (Nat.le_trans S2.out (Nat.le_trans S3.out S4.out))))
    replace s_px := s_px.keep (b.mono (S4.out))
    replace s_py := s_py.keep (b.mono (S4.out))
    replace s_p := s_p.keep (b.mono (Nat.le_refl _))
    replace bb := bb.trans (b.mono (Nat.le_trans S1.out (Nat.le_trans S2.out (Nat.le_trans S3.out S4.out))))
    clear b
    have hn_g : n_g ≤ 1048576 := by omega
    clear s_p
    go_wp2_with fail
    refine (fresh_any _ _ _ 7 _ (s_code.more (Nat.le_trans S1.out (Nat.le_trans S2.out (Nat.le_trans S3.out (Nat.le_trans S4.out S5.out))))) (by omega)).mono ?_
    rintro e w6 ⟨a_q, n_q, c_q, rfl, s_q, b⟩
    have S6 := Lib.hid b.size
    replace o_g := o_g.keep b (Nat.le_refl _)
    replace s_code := s_code.keep (b.mono (Nat.le_trans S1.out (Nat.le_trans S2.out (Nat.le_trans S3.out (Nat.le_trans S4.out S5.out)))))
    replace s_px := s_px.keep (b.mono (Nat.le_trans S4.out S5.out))
    replace s_py := s_py.keep (b.mono (Nat.le_trans S4.out S5.out))
    replace bb := bb.trans (b.mono (Nat.le_trans S1.out (Nat.le_trans S2.out (Nat.le_trans S3.out (Nat.le_trans S4.out S5.out)))))
    clear b
    go_wp2_with fail
    refine (mkSeq_any _ _ _ 5 20 _ (s_q.more (Nat.le_refl _)) (by omega) (by omega) (by omega)).mono ?_
    rintro e w7 ⟨a_h, n_h, c_h, x_h, rfl, o_h, l_h, i_h, j_h, b⟩
    have S7 := Lib.hid b.size
    replace o_g := o_g.keep b (S6.out)
    replace s_code := s_code.keep (b.mono (Nat.le_trans S1.out (Nat.le_trans S2.out (Nat.le_trans S3.out (Nat.le_trans S4.out (Nat.le_trans S5.out S6.out))))))
    replace s_px := s_px.keep (b.mono (Nat.le_trans S4.out (Nat.le_trans S5.out S6.out)))
    replace s_py := s_py.keep (b.mono (Nat.le_trans S4.out (Nat.le_trans S5.out S6.out)))
    replace s_q := s_q.keep (b.mono (Nat.le_refl _))
    replace bb := bb.trans (b.mono (Nat.le_trans S1.out (Nat.le_trans S2.out (Nat.le_trans S3.out (Nat.le_trans S4.out (Nat.le_trans S5.out S6.out))))))
    clear b
    have hn_h : n_h ≤ 1048576 := by omega
    clear s_q
    have lg := o_g.len
    have lh := o_h.len
    obtain ⟨⟨f1, f2⟩, ⟨f3, f4⟩, ⟨f5, f6⟩, ⟨f7, f8⟩, ⟨f9, f10⟩⟩ := conv_facts (xs := X) (ys := Y) (hs := x_h) (by rw [LX.out, LY.out]) (by rw [LX.out]; omega) wx wy i_h (by omega)
    have TW := Lib.hid (fun h0 => twice_facts (xs := X) (gs := x_g) (hs := x_h) (by rw [LX.out]; omega) wx i_g (by omega) i_h (by omega) h0)
    have LG := Lib.hid lg
    have LH := Lib.hid lh
    have L1 := Lib.hid (mixL_length X Y 1)
    have L2 := Lib.hid (cvL_length X x_h)
    have L3 := Lib.hid (cvL_length Y x_h)
    have L4 := Lib.hid (cvL_length (mixL X Y 1) x_h)
    have F1 := Lib.hid f1
    have F2 := Lib.hid f2
    have F3 := Lib.hid f3
    have F4 := Lib.hid f4
    have F5 := Lib.hid f5
    have F6 := Lib.hid f6
    have F7 := Lib.hid f7
    have F8 := Lib.hid f8
    have F9 := Lib.hid f9
    have F10 := Lib.hid f10
    clear lg lh f1 f2 f3 f4 f5 f6 f7 f8 f9 f10
    go_wp2_with fail
    refine (add_i _ _ _ _ _ _ X Y _ (s_px.more (Nat.le_trans S4.out (Nat.le_trans S5.out (Nat.le_trans S6.out S7.out)))) (s_py.more (Nat.le_trans S4.out (Nat.le_trans S5.out (Nat.le_trans S6.out S7.out))))).mono ?_
    rw [F1.out, F2.out]
    rintro e w8 ⟨a_s, n_s, c_s, rfl, o_s, b⟩
    have S8 := Lib.hid b.size
    replace o_g := o_g.keep b (Nat.le_trans S6.out S7.out)
    replace o_h := o_h.keep b (Nat.le_refl _)
    replace s_code := s_code.keep (b.mono (Nat.le_trans S1.out (Nat.le_trans S2.out (Nat.le_trans S3.out (Nat.le_trans S4.out (Nat.le_trans S5.out (Nat.le_trans S6.out S7.out)))))))
    replace s_px := s_px.keep (b.mono (Nat.le_trans S4.out (Nat.le_trans S5.out (Nat.le_trans S6.out S7.out))))
    replace s_py := s_py.keep (b.mono (Nat.le_trans S4.out (Nat.le_trans S5.out (Nat.le_trans S6.out S7.out))))
    replace bb := bb.trans (b.mono (Nat.le_trans S1.out (Nat.le_trans S2.out (Nat.le_trans S3.out (Nat.le_trans S4.out (Nat.le_trans S5.out (Nat.le_trans S6.out S7.out)))))))
    clear b
    have hn_s : n_s ≤ 1048576 := by rw [← o_s.len, L1.out, LX.out]; omega
    obtain rfl : n_y = n_s := by rw [← o_s.len, L1.out, LX.out]
    go_wp2_with fail
    refine (conv_i _ _ _ _ _ _ X x_h _ (s_px.more (Nat.le_trans S4.out (Nat.le_trans S5.out (Nat.le_trans S6.out (Nat.le_trans S7.out S8.out))))) ((o_h.sl hn_h).more (S8.out))).mono ?_
    rw [F3.out, F4.out]
    rintro e w9 ⟨a_a, n_a, c_a, rfl, o_a, b⟩
    have S9 := Lib.hid b.size
    replace o_g := o_g.keep b (Nat.le_trans S6.out (Nat.le_trans S7.out S8.out))
    replace o_h := o_h.keep b (S8.out)
    replace o_s := o_s.keep b (Nat.le_refl _)
    replace s_code := s_code.keep (b.mono (Nat.le_trans S1.out (Nat.le_trans S2.out (Nat.le_trans S3.out (Nat.le_trans S4.out (Nat.le_trans S5.out (Nat.le_trans S6.out (Nat.le_trans S7.out S8.out))))))))
    replace s_px := s_px.keep (b.mono (Nat.le_trans S4.out (Nat.le_trans S5.out (Nat.le_trans S6.out (Nat.le_trans S7.out S8.out)))))
    replace s_py := s_py.keep (b.mono (Nat.le_trans S4.out (Nat.le_trans S5.out (Nat.le_trans S6.out (Nat.le_trans S7.out S8.out)))))
    replace bb := bb.trans (b.mono (Nat.le_trans S1.out (Nat.le_trans S2.out (Nat.le_trans S3.out (Nat.le_trans S4.out (Nat.le_trans S5.out (Nat.le_trans S6.out (Nat.le_trans S7.out S8.out))))))))
    clear b
    have hn_a : n_a ≤ 1048576 := by rw [← o_a.len, L2.out, LX.out]; omega
    obtain rfl : n_y = n_a := by rw [← o_a.len, L2.out, LX.out]
    go_wp2_with fail
    refine (conv_i _ _ _ _ _ _ Y x_h _ (s_py.more (Nat.le_trans S4.out (Nat.le_trans S5.out (Nat.le_trans S6.out (Nat.le_trans S7.out (Nat.le_trans S8.out S9.out)))))) ((o_h.sl hn_h).more (Nat.le_trans S8.out S9.out))).mono ?_
    rw [F5.out, F6.out]
    rintro e w10 ⟨a_b, n_b, c_b, rfl, o_b, b⟩
    have S10 := Lib.hid b.size
    replace o_g := o_g.keep b (Nat.le_trans S6.out (Nat.le_trans S7.out (Nat.le_trans S8.out S9.out)))
    replace o_h := o_h.keep b (Nat.le_trans S8.out S9.out)
    replace o_s := o_s.keep b (S9.out)
    replace o_a := o_a.keep b (Nat.le_refl _)
    replace s_code := s_code.keep (b.mono (Nat.le_trans S1.out (Nat.le_trans S2.out (Nat.le_trans S3.out (Nat.le_trans S4.out (Nat.le_trans S5.out (Nat.le_trans S6.out (Nat.le_trans S7.out (Nat.le_trans S8.out S9.out)))))))))
    replace s_px := s_px.keep (b.mono (Nat.le_trans S4.out (Nat.le_trans S5.out (Nat.le_trans S6.out (Nat.le_trans S7.out (Nat.le_trans S8.out S9.out))))))
    replace s_py := s_py.keep (b.mono (Nat.le_trans S4.out (Nat.le_trans S5.out (Nat.le_trans S6.out (Nat.le_trans S7.out (Nat.le_trans S8.out S9.out))))))
    replace bb := bb.trans (b.mono (Nat.le_trans S1.out (Nat.le_trans S2.out (Nat.le_trans S3.out (Nat.le_trans S4.out (Nat.le_trans S5.out (Nat.le_trans S6.out (Nat.le_trans S7.out (Nat.le_trans S8.out S9.out)))))))))
    clear b
    have hn_b : n_b ≤ 1048576 := by rw [← o_b.len, L3.out, LY.out]; omega
    obtain rfl : n_y = n_b := by rw [← o_b.len, L3.out, LY.out]
    go_wp2_with fail
    refine (conv_i _ _ _ _ _ _ (mixL X Y 1) x_h _ ((o_s.sl hn_s).more (Nat.le_trans S9.out S10.out)) ((o_h.sl hn_h).more (Nat.le_trans S8.out (Nat.le_trans S9.out S10.out)))).mono ?_
    rw [F7.out, F8.out]
    rintro e w11 ⟨a_c, n_c, c_c, rfl, o_c, b⟩
    have S11 := Lib.hid b.size
    replace o_g := o_g.keep b (Nat.le_trans S6.out (Nat.le_trans S7.out (Nat.le_trans S8.out (Nat.le_trans S9.out S10.out))))
    replace o_h := o_h.keep b (Nat.le_trans S8.out (Nat.le_trans S9.out S10.out))
    replace o_s := o_s.keep b (Nat.le_trans S9.out S10.out)
    replace o_a := o_a.keep b (S10.out)
    replace o_b := o_b.keep b (Nat.le_refl _)
    replace s_code := s_code.keep (b.mono (Nat.le_trans S1.out (Nat.le_trans S2.out (Nat.le_trans S3.out (Nat.le_trans S4.out (Nat.le_trans S5.out (Nat.le_trans S6.out (Nat.le_trans S7.out (Nat.le_trans S8.out (Nat.le_trans S9.out S10.out))))))))))
    replace s_px := s_px.keep (b.mono (Nat.le_trans S4.out (Nat.le_trans S5.out (Nat.le_trans S6.out (Nat.le_trans S7.out (Nat.le_trans S8.out (Nat.le_trans S9.out S10.out)))))))
    replace s_py := s_py.keep (b.mono (Nat.le_trans S4.out (Nat.le_trans S5.out (Nat.le_trans S6.out (Nat.le_trans S7.out (Nat.le_trans S8.out (Nat.le_trans S9.out S10.out)))))))
    replace bb := bb.trans (b.mono (Nat.le_trans S1.out (Nat.le_trans S2.out (Nat.le_trans S3.out (Nat.le_trans S4.out (Nat.le_trans S5.out (Nat.le_trans S6.out (Nat.le_trans S7.out (Nat.le_trans S8.out (Nat.le_trans S9.out S10.out))))))))))
    clear b
    have hn_c : n_c ≤ 1048576 := by rw [← o_c.len, L4.out, L1.out, LX.out]; omega
    obtain rfl : n_y = n_c := by rw [← o_c.len, L4.out, L1.out, LX.out]
    go_wp2_with fail
    refine (add_i _ _ _ _ _ _ (cvL X x_h) (cvL Y x_h) _ ((o_a.sl hn_a).more (Nat.le_trans S10.out S11.out)) ((o_b.sl hn_b).more (S11.out))).mono ?_
    rw [F9.out, F10.out]
    rintro e w12 ⟨a_d, n_d, c_d, rfl, o_d, b⟩
    have S12 := Lib.hid b.size
    replace o_g := o_g.keep b (Nat.le_trans S6.out (Nat.le_trans S7.out (Nat.le_trans S8.out (Nat.le_trans S9.out (Nat.le_trans S10.out S11.out)))))
    replace o_h := o_h.keep b (Nat.le_trans S8.out (Nat.le_trans S9.out (Nat.le_trans S10.out S11.out)))
    replace o_s := o_s.keep b (Nat.le_trans S9.out (Nat.le_trans S10.out S11.out))
    replace o_a := o_a.keep b (Nat.le_trans S10.out S11.out)
    replace o_b := o_b.keep b (S11.out)
    replace o_c := o_c.keep b (Nat.le_refl _)
    replace s_code := s_code.keep (b.mono (Nat.le_trans S1.out (Nat.le_trans S2.out (Nat.le_trans S3.out (Nat.le_trans S4.out (Nat.le_trans S5.out (Nat.le_trans S6.out (Nat.le_trans S7.out (Nat.le_trans S8.out (Nat.le_trans S9.out (Nat.le_trans S10.out S11.out)))))))))))
    replace s_px := s_px.keep (b.mono (Nat.le_trans S4.out (Nat.le_trans S5.out (Nat.le_trans S6.out (Nat.le_trans S7.out (Nat.le_trans S8.out (Nat.le_trans S9.out (Nat.le_trans S10.out S11.out))))))))
    replace s_py := s_py.keep (b.mono (Nat.le_trans S4.out (Nat.le_trans S5.out (Nat.le_trans S6.out (Nat.le_trans S7.out (Nat.le_trans S8.out (Nat.le_trans S9.out (Nat.le_trans S10.out S11.out))))))))
    replace bb := bb.trans (b.mono (Nat.le_trans S1.out (Nat.le_trans S2.out (Nat.le_trans S3.out (Nat.le_trans S4.out (Nat.le_trans S5.out (Nat.le_trans S6.out (Nat.le_trans S7.out (Nat.le_trans S8.out (Nat.le_trans S9.out (Nat.le_trans S10.out S11.out)))))))))))
    clear b
    have hn_d : n_d ≤ 1048576 := by rw [← o_d.len, L4.out, L1.out, LX.out]; omega
    obtain rfl : n_y = n_d := by rw [← o_d.len, L4.out, L1.out, LX.out]
    go_wp2_with fail
    refine (ints_true _ _ _ _ _ _ _ ((o_c.sl hn_c).more (S12.out)) ((o_d.sl hn_d).more (Nat.le_refl _))).mono ?_
    rintro e w13 ⟨rfl, b⟩
    have S13 := Lib.hid b.size
    replace o_g := o_g.keep b (Nat.le_trans S6.out (Nat.le_trans S7.out (Nat.le_trans S8.out (Nat.le_trans S9.out (Nat.le_trans S10.out (Nat.le_trans S11.out S12.out))))))
    replace o_h := o_h.keep b (Nat.le_trans S8.out (Nat.le_trans S9.out (Nat.le_trans S10.out (Nat.le_trans S11.out S12.out))))
    replace o_s := o_s.keep b (Nat.le_trans S9.out (Nat.le_trans S10.out (Nat.le_trans S11.out S12.out)))
    replace o_a := o_a.keep b (Nat.le_trans S10.out (Nat.le_trans S11.out S12.out))
    replace o_b := o_b.keep b (Nat.le_trans S11.out S12.out)
    replace o_c := o_c.keep b (S12.out)
    replace o_d := o_d.keep b (Nat.le_refl _)
    replace s_code := s_code.keep (b.mono (Nat.le_trans S1.out (Nat.le_trans S2.out (Nat.le_trans S3.out (Nat.le_trans S4.out (Nat.le_trans S5.out (Nat.le_trans S6.out (Nat.le_trans S7.out (Nat.le_trans S8.out (Nat.le_trans S9.out (Nat.le_trans S10.out (Nat.le_trans S11.out S12.out))))))))))))
    replace s_px := s_px.keep (b.mono (Nat.le_trans S4.out (Nat.le_trans S5.out (Nat.le_trans S6.out (Nat.le_trans S7.out (Nat.le_trans S8.out (Nat.le_trans S9.out (Nat.le_trans S10.out (Nat.le_trans S11.out S12.out)))))))))
    replace s_py := s_py.keep (b.mono (Nat.le_trans S4.out (Nat.le_trans S5.out (Nat.le_trans S6.out (Nat.le_trans S7.out (Nat.le_trans S8.out (Nat.le_trans S9.out (Nat.le_trans S10.out (Nat.le_trans S11.out S12.out)))))))))
    replace bb := bb.trans (b.mono (Nat.le_trans S1.out (Nat.le_trans S2.out (Nat.le_trans S3.out (Nat.le_trans S4.out (Nat.le_trans S5.out (Nat.le_trans S6.out (Nat.le_trans S7.out (Nat.le_trans S8.out (Nat.le_trans S9.out (Nat.le_trans S10.out (Nat.le_trans S11.out S12.out))))))))))))
    clear b
    clear o_s
    clear o_b
    clear o_c
    clear o_d
    by_cases hg0 : n_g = 0
    · have e0 : ((n_g : Int) == 0) = true := by rw [beq_iff_eq]; omega
      go_wp2_with fail
      go_ret
      exact ⟨rfl, bb⟩
    have e0 : ((n_g : Int) == 0) = false := by rw [beq_eq_false_iff_ne]; omega
    by_cases hh0 : n_h = 0
    · have e1 : ((n_h : Int) == 0) = true := by rw [beq_iff_eq]; omega
      go_wp2_with fail
      go_ret
      exact ⟨rfl, bb⟩
    have e1 : ((n_h : Int) == 0) = false := by rw [beq_eq_false_iff_ne]; omega
    obtain ⟨⟨t1, t2⟩, ⟨t3, t4⟩, ⟨t5, t6⟩⟩ := TW.out (by rw [LH.out]; omega)
    have T1 := Lib.hid t1
    have T2 := Lib.hid t2
    have T3 := Lib.hid t3
    have T4 := Lib.hid t4
    have T5 := Lib.hid t5
    have T6 := Lib.hid t6
    have LL := Lib.hid (longL_length x_g x_h)
    have LO : Hid (x_g ++ List.replicate (n_h - 1) 0 = longL x_g x_h) := by show _ = _; unfold longL; rw [LH.out]
    clear t1 t2 t3 t4 t5 t6 TW
    have hnm : (n_h : Int) - 1 = ((n_h - 1 : Nat) : Int) := by omega
    have oe := Own.empty w13 w13.heap.size (Nat.le_refl _)
    have sg := Sl.next ((o_g.sl hn_g).more (Nat.le_trans S6.out (Nat.le_trans S7.out (Nat.le_trans S8.out (Nat.le_trans S9.out (Nat.le_trans S10.out (Nat.le_trans S11.out (Nat.le_trans S12.out S13.out)))))))) (box_below w13 (.cells #[] 3))
    go_wp2_with (at_builtin; refine wpList_many rfl _ _ rfl rfl oe a_g n_g c_g _ x_g rfl sg (by omega) (by simp) (Nat.le_refl _) ?_)
    intro a_lg c_lg w14 o_lg g2
    have b : Below w13.heap.size w13 w14 := (box_below w13 (.cells #[] 3)).trans ⟨g2.os, g2.tape, g2.output, g2.size, fun k hk => g2.block k (by simp; omega) (by simp; omega)⟩
    clear oe sg g2
    have S14 := Lib.hid b.size
    replace o_g := o_g.keep b (Nat.le_trans S6.out (Nat.le_trans S7.out (Nat.le_trans S8.out (Nat.le_trans S9.out (Nat.le_trans S10.out (Nat.le_trans S11.out (Nat.le_trans S12.out S13.out)))))))
    replace o_h := o_h.keep b (Nat.le_trans S8.out (Nat.le_trans S9.out (Nat.le_trans S10.out (Nat.le_trans S11.out (Nat.le_trans S12.out S13.out)))))
    replace o_a := o_a.keep b (Nat.le_trans S10.out (Nat.le_trans S11.out (Nat.le_trans S12.out S13.out)))
    replace s_code := s_code.keep (b.mono (Nat.le_trans S1.out (Nat.le_trans S2.out (Nat.le_trans S3.out (Nat.le_trans S4.out (Nat.le_trans S5.out (Nat.le_trans S6.out (Nat.le_trans S7.out (Nat.le_trans S8.out (Nat.le_trans S9.out (Nat.le_trans S10.out (Nat.le_trans S11.out (Nat.le_trans S12.out S13.out)))))))))))))
    replace s_px := s_px.keep (b.mono (Nat.le_trans S4.out (Nat.le_trans S5.out (Nat.le_trans S6.out (Nat.le_trans S7.out (Nat.le_trans S8.out (Nat.le_trans S9.out (Nat.le_trans S10.out (Nat.le_trans S11.out (Nat.le_trans S12.out S13.out))))))))))
    replace s_py := s_py.keep (b.mono (Nat.le_trans S4.out (Nat.le_trans S5.out (Nat.le_trans S6.out (Nat.le_trans S7.out (Nat.le_trans S8.out (Nat.le_trans S9.out (Nat.le_trans S10.out (Nat.le_trans S11.out (Nat.le_trans S12.out S13.out))))))))))
    replace bb := bb.trans (b.mono (Nat.le_trans S1.out (Nat.le_trans S2.out (Nat.le_trans S3.out (Nat.le_trans S4.out (Nat.le_trans S5.out (Nat.le_trans S6.out (Nat.le_trans S7.out (Nat.le_trans S8.out (Nat.le_trans S9.out (Nat.le_trans S10.out (Nat.le_trans S11.out (Nat.le_trans S12.out S13.out)))))))))))))
    clear b
    obtain ⟨GG, rfl⟩ : ∃ GG, a_lg = some ⟨GG, 0, none⟩ := by
      rcases o_lg.form with ⟨_, h, _⟩ | ⟨GG, h, _⟩
      · omega
      · exact ⟨GG, h⟩
    go_wp2_with (at_builtin; refine wpList_zeros rfl _ _ rfl rfl o_lg (n_h - 1) rfl (by omega) (S14.out) ?_)
    intro g_lo c_lo w15 o_lo g3
    have bq := g3.below o_lg (S14.out)
    clear o_lg
    have S15 : Hid (w14.heap.size ≤ w15.heap.size) := g3.by_.size
    replace o_g := o_g.keep bq (Nat.le_trans S6.out (Nat.le_trans S7.out (Nat.le_trans S8.out (Nat.le_trans S9.out (Nat.le_trans S10.out (Nat.le_trans S11.out (Nat.le_trans S12.out S13.out)))))))
    replace o_h := o_h.keep bq (Nat.le_trans S8.out (Nat.le_trans S9.out (Nat.le_trans S10.out (Nat.le_trans S11.out (Nat.le_trans S12.out S13.out)))))
    replace o_a := o_a.keep bq (Nat.le_trans S10.out (Nat.le_trans S11.out (Nat.le_trans S12.out S13.out)))
    replace s_code := s_code.keep (bq.mono (Nat.le_trans S1.out (Nat.le_trans S2.out (Nat.le_trans S3.out (Nat.le_trans S4.out (Nat.le_trans S5.out (Nat.le_trans S6.out (Nat.le_trans S7.out (Nat.le_trans S8.out (Nat.le_trans S9.out (Nat.le_trans S10.out (Nat.le_trans S11.out (Nat.le_trans S12.out S13.out)))))))))))))
    replace s_px := s_px.keep (bq.mono (Nat.le_trans S4.out (Nat.le_trans S5.out (Nat.le_trans S6.out (Nat.le_trans S7.out (Nat.le_trans S8.out (Nat.le_trans S9.out (Nat.le_trans S10.out (Nat.le_trans S11.out (Nat.le_trans S12.out S13.out))))))))))
    replace s_py := s_py.keep (bq.mono (Nat.le_trans S4.out (Nat.le_trans S5.out (Nat.le_trans S6.out (Nat.le_trans S7.out (Nat.le_trans S8.out (Nat.le_trans S9.out (Nat.le_trans S10.out (Nat.le_trans S11.out (Nat.le_trans S12.out S13.out))))))))))
    replace bb := bb.trans (bq.mono (Nat.le_trans S1.out (Nat.le_trans S2.out (Nat.le_trans S3.out (Nat.le_trans S4.out (Nat.le_trans S5.out (Nat.le_trans S6.out (Nat.le_trans S7.out (Nat.le_trans S8.out (Nat.le_trans S9.out (Nat.le_trans S10.out (Nat.le_trans S11.out (Nat.le_trans S12.out S13.out)))))))))))))
    clear bq g3
    rw [LO.out] at o_lo
    have hn_lo : n_g + (n_h - 1) ≤ 1048576 := by omega
    go_wp2_with fail
    refine (conv_i _ _ _ _ _ _ (longL x_g x_h) x_h _ ((o_lo.sl hn_lo).more (Nat.le_refl _)) ((o_h.sl hn_h).more (Nat.le_trans S8.out (Nat.le_trans S9.out (Nat.le_trans S10.out (Nat.le_trans S11.out (Nat.le_trans S12.out (Nat.le_trans S13.out (Nat.le_trans S14.out S15.out))))))))).mono ?_
    rw [T1.out, T2.out]
    rintro e w16 ⟨a_bo, n_bo, c_bo, rfl, o_bo, b⟩
    have S16 := Lib.hid b.size
    replace o_g := o_g.keep b (Nat.le_trans S6.out (Nat.le_trans S7.out (Nat.le_trans S8.out (Nat.le_trans S9.out (Nat.le_trans S10.out (Nat.le_trans S11.out (Nat.le_trans S12.out (Nat.le_trans S13.out (Nat.le_trans S14.out S15.out)))))))))
    replace o_h := o_h.keep b (Nat.le_trans S8.out (Nat.le_trans S9.out (Nat.le_trans S10.out (Nat.le_trans S11.out (Nat.le_trans S12.out (Nat.le_trans S13.out (Nat.le_trans S14.out S15.out)))))))
    replace o_a := o_a.keep b (Nat.le_trans S10.out (Nat.le_trans S11.out (Nat.le_trans S12.out (Nat.le_trans S13.out (Nat.le_trans S14.out S15.out)))))
    replace o_lo := o_lo.keep b (Nat.le_refl _)
    replace s_code := s_code.keep (b.mono (Nat.le_trans S1.out (Nat.le_trans S2.out (Nat.le_trans S3.out (Nat.le_trans S4.out (Nat.le_trans S5.out (Nat.le_trans S6.out (Nat.le_trans S7.out (Nat.le_trans S8.out (Nat.le_trans S9.out (Nat.le_trans S10.out (Nat.le_trans S11.out (Nat.le_trans S12.out (Nat.le_trans S13.out (Nat.le_trans S14.out S15.out)))))))))))))))
    replace s_px := s_px.keep (b.mono (Nat.le_trans S4.out (Nat.le_trans S5.out (Nat.le_trans S6.out (Nat.le_trans S7.out (Nat.le_trans S8.out (Nat.le_trans S9.out (Nat.le_trans S10.out (Nat.le_trans S11.out (Nat.le_trans S12.out (Nat.le_trans S13.out (Nat.le_trans S14.out S15.out))))))))))))
    replace s_py := s_py.keep (b.mono (Nat.le_trans S4.out (Nat.le_trans S5.out (Nat.le_trans S6.out (Nat.le_trans S7.out (Nat.le_trans S8.out (Nat.le_trans S9.out (Nat.le_trans S10.out (Nat.le_trans S11.out (Nat.le_trans S12.out (Nat.le_trans S13.out (Nat.le_trans S14.out S15.out))))))))))))
    replace bb := bb.trans (b.mono (Nat.le_trans S1.out (Nat.le_trans S2.out (Nat.le_trans S3.out (Nat.le_trans S4.out (Nat.le_trans S5.out (Nat.le_trans S6.out (Nat.le_trans S7.out (Nat.le_trans S8.out (Nat.le_trans S9.out (Nat.le_trans S10.out (Nat.le_trans S11.out (Nat.le_trans S12.out (Nat.le_trans S13.out (Nat.le_trans S14.out S15.out)))))))))))))))
    clear b
    have hn_bo : n_bo ≤ 1048576 := by rw [← o_bo.len, cvL_length, LL.out, LG.out, LH.out]; omega
    go_wp2_with fail
    refine (conv_i _ _ _ _ _ _ (cvL X x_h) x_g _ ((o_a.sl hn_a).more (Nat.le_trans S10.out (Nat.le_trans S11.out (Nat.le_trans S12.out (Nat.le_trans S13.out (Nat.le_trans S14.out (Nat.le_trans S15.out S16.out))))))) ((o_g.sl hn_g).more (Nat.le_trans S6.out (Nat.le_trans S7.out (Nat.le_trans S8.out (Nat.le_trans S9.out (Nat.le_trans S10.out (Nat.le_trans S11.out (Nat.le_trans S12.out (Nat.le_trans S13.out (Nat.le_trans S14.out (Nat.le_trans S15.out S16.out)))))))))))).mono ?_
    rw [T3.out, T4.out]
    rintro e w17 ⟨a_e, n_e, c_e, rfl, o_e, b⟩
    have S17 := Lib.hid b.size
    replace o_g := o_g.keep b (Nat.le_trans S6.out (Nat.le_trans S7.out (Nat.le_trans S8.out (Nat.le_trans S9.out (Nat.le_trans S10.out (Nat.le_trans S11.out (Nat.le_trans S12.out (Nat.le_trans S13.out (Nat.le_trans S14.out (Nat.le_trans S15.out S16.out))))))))))
    replace o_h := o_h.keep b (Nat.le_trans S8.out (Nat.le_trans S9.out (Nat.le_trans S10.out (Nat.le_trans S11.out (Nat.le_trans S12.out (Nat.le_trans S13.out (Nat.le_trans S14.out (Nat.le_trans S15.out S16.out))))))))
    replace o_a := o_a.keep b (Nat.le_trans S10.out (Nat.le_trans S11.out (Nat.le_trans S12.out (Nat.le_trans S13.out (Nat.le_trans S14.out (Nat.le_trans S15.out S16.out))))))
    replace o_lo := o_lo.keep b (S16.out)
    replace o_bo := o_bo.keep b (Nat.le_refl _)
    replace s_code := s_code.keep (b.mono (Nat.le_trans S1.out (Nat.le_trans S2.out (Nat.le_trans S3.out (Nat.le_trans S4.out (Nat.le_trans S5.out (Nat.le_trans S6.out (Nat.le_trans S7.out (Nat.le_trans S8.out (Nat.le_trans S9.out (Nat.le_trans S10.out (Nat.le_trans S11.out (Nat.le_trans S12.out (Nat.le_trans S13.out (Nat.le_trans S14.out (Nat.le_trans S15.out S16.out))))))))))))))))
    replace s_px := s_px.keep (b.mono (Nat.le_trans S4.out (Nat.le_trans S5.out (Nat.le_trans S6.out (Nat.le_trans S7.out (Nat.le_trans S8.out (Nat.le_trans S9.out (Nat.le_trans S10.out (Nat.le_trans S11.out (Nat.le_trans S12.out (Nat.le_trans S13.out (Nat.le_trans S14.out (Nat.le_trans S15.out S16.out)))))))))))))
    replace s_py := s_py.keep (b.mono (Nat.le_trans S4.out (Nat.le_trans S5.out (Nat.le_trans S6.out (Nat.le_trans S7.out (Nat.le_trans S8.out (Nat.le_trans S9.out (Nat.le_trans S10.out (Nat.le_trans S11.out (Nat.le_trans S12.out (Nat.le_trans S13.out (Nat.le_trans S14.out (Nat.le_trans S15.out S16.out)))))))))))))
    replace bb := bb.trans (b.mono (Nat.le_trans S1.out (Nat.le_trans S2.out (Nat.le_trans S3.out (Nat.le_trans S4.out (Nat.le_trans S5.out (Nat.le_trans S6.out (Nat.le_trans S7.out (Nat.le_trans S8.out (Nat.le_trans S9.out (Nat.le_trans S10.out (Nat.le_trans S11.out (Nat.le_trans S12.out (Nat.le_trans S13.out (Nat.le_trans S14.out (Nat.le_trans S15.out S16.out))))))))))))))))
    clear b
    have hn_e : n_e ≤ 1048576 := by rw [← o_e.len, cvL_length, L2.out, LX.out]; omega
    obtain rfl : n_y = n_e := by rw [← o_e.len, cvL_length, L2.out, LX.out]
    go_wp2_with fail
    refine (conv_i _ _ _ _ _ _ X (cvL (longL x_g x_h) x_h) _ (s_px.more (Nat.le_trans S4.out (Nat.le_trans S5.out (Nat.le_trans S6.out (Nat.le_trans S7.out (Nat.le_trans S8.out (Nat.le_trans S9.out (Nat.le_trans S10.out (Nat.le_trans S11.out (Nat.le_trans S12.out (Nat.le_trans S13.out (Nat.le_trans S14.out (Nat.le_trans S15.out (Nat.le_trans S16.out S17.out)))))))))))))) ((o_bo.sl hn_bo).more (S17.out))).mono ?_
    rw [T5.out, T6.out]
    rintro e w18 ⟨a_f, n_f, c_f, rfl, o_f, b⟩
    have S18 := Lib.hid b.size
    replace o_g := o_g.keep b (Nat.le_trans S6.out (Nat.le_trans S7.out (Nat.le_trans S8.out (Nat.le_trans S9.out (Nat.le_trans S10.out (Nat.le_trans S11.out (Nat.le_trans S12.out (Nat.le_trans S13.out (Nat.le_trans S14.out (Nat.le_trans S15.out (Nat.le_trans S16.out S17.out)))))))))))
    replace o_h := o_h.keep b (Nat.le_trans S8.out (Nat.le_trans S9.out (Nat.le_trans S10.out (Nat.le_trans S11.out (Nat.le_trans S12.out (Nat.le_trans S13.out (Nat.le_trans S14.out (Nat.le_trans S15.out (Nat.le_trans S16.out S17.out)))))))))
    replace o_a := o_a.keep b (Nat.le_trans S10.out (Nat.le_trans S11.out (Nat.le_trans S12.out (Nat.le_trans S13.out (Nat.le_trans S14.out (Nat.le_trans S15.out (Nat.le_trans S16.out S17.out)))))))
    replace o_lo := o_lo.keep b (Nat.le_trans S16.out S17.out)
    replace o_bo := o_bo.keep b (S17.out)
    replace o_e := o_e.keep b (Nat.le_refl _)
    replace s_code := s_code.keep (b.mono (Nat.le_trans S1.out (Nat.le_trans S2.out (Nat.le_trans S3.out (Nat.le_trans S4.out (Nat.le_trans S5.out (Nat.le_trans S6.out (Nat.le_trans S7.out (Nat.le_trans S8.out (Nat.le_trans S9.out (Nat.le_trans S10.out (Nat.le_trans S11.out (Nat.le_trans S12.out (Nat.le_trans S13.out (Nat.le_trans S14.out (Nat.le_trans S15.out (Nat.le_trans S16.out S17.out)))))))))))))))))
    replace s_px := s_px.keep (b.mono (Nat.le_trans S4.out (Nat.le_trans S5.out (Nat.le_trans S6.out (Nat.le_trans S7.out (Nat.le_trans S8.out (Nat.le_trans S9.out (Nat.le_trans S10.out (Nat.le_trans S11.out (Nat.le_trans S12.out (Nat.le_trans S13.out (Nat.le_trans S14.out (Nat.le_trans S15.out (Nat.le_trans S16.out S17.out))))))))))))))
    replace s_py := s_py.keep (b.mono (Nat.le_trans S4.out (Nat.le_trans S5.out (Nat.le_trans S6.out (Nat.le_trans S7.out (Nat.le_trans S8.out (Nat.le_trans S9.out (Nat.le_trans S10.out (Nat.le_trans S11.out (Nat.le_trans S12.out (Nat.le_trans S13.out (Nat.le_trans S14.out (Nat.le_trans S15.out (Nat.le_trans S16.out S17.out))))))))))))))
    replace bb := bb.trans (b.mono (Nat.le_trans S1.out (Nat.le_trans S2.out (Nat.le_trans S3.out (Nat.le_trans S4.out (Nat.le_trans S5.out (Nat.le_trans S6.out (Nat.le_trans S7.out (Nat.le_trans S8.out (Nat.le_trans S9.out (Nat.le_trans S10.out (Nat.le_trans S11.out (Nat.le_trans S12.out (Nat.le_trans S13.out (Nat.le_trans S14.out (Nat.le_trans S15.out (Nat.le_trans S16.out S17.out)))))))))))))))))
    clear b
    have hn_f : n_f ≤ 1048576 := by rw [← o_f.len, cvL_length, L2.out, LX.out]; omega
    obtain rfl : n_y = n_f := by rw [← o_f.len, cvL_length, L2.out, LX.out]
    go_wp2_with fail
    refine (ints_true _ _ _ _ _ _ _ ((o_e.sl hn_e).more (S18.out)) ((o_f.sl hn_f).more (Nat.le_refl _))).mono ?_
    rintro e w19 ⟨rfl, b⟩
    have S19 := Lib.hid b.size
    replace o_g := o_g.keep b (Nat.le_trans S6.out (Nat.le_trans S7.out (Nat.le_trans S8.out (Nat.le_trans S9.out (Nat.le_trans S10.out (Nat.le_trans S11.out (Nat.le_trans S12.out (Nat.le_trans S13.out (Nat.le_trans S14.out (Nat.le_trans S15.out (Nat.le_trans S16.out (Nat.le_trans S17.out S18.out))))))))))))
    replace o_h := o_h.keep b (Nat.le_trans S8.out (Nat.le_trans S9.out (Nat.le_trans S10.out (Nat.le_trans S11.out (Nat.le_trans S12.out (Nat.le_trans S13.out (Nat.le_trans S14.out (Nat.le_trans S15.out (Nat.le_trans S16.out (Nat.le_trans S17.out S18.out))))))))))
    replace o_a := o_a.keep b (Nat.le_trans S10.out (Nat.le_trans S11.out (Nat.le_trans S12.out (Nat.le_trans S13.out (Nat.le_trans S14.out (Nat.le_trans S15.out (Nat.le_trans S16.out (Nat.le_trans S17.out S18.out))))))))
    replace o_lo := o_lo.keep b (Nat.le_trans S16.out (Nat.le_trans S17.out S18.out))
    replace o_bo := o_bo.keep b (Nat.le_trans S17.out S18.out)
    replace o_e := o_e.keep b (S18.out)
    replace o_f := o_f.keep b (Nat.le_refl _)
    replace s_code := s_code.keep (b.mono (Nat.le_trans S1.out (Nat.le_trans S2.out (Nat.le_trans S3.out (Nat.le_trans S4.out (Nat.le_trans S5.out (Nat.le_trans S6.out (Nat.le_trans S7.out (Nat.le_trans S8.out (Nat.le_trans S9.out (Nat.le_trans S10.out (Nat.le_trans S11.out (Nat.le_trans S12.out (Nat.le_trans S13.out (Nat.le_trans S14.out (Nat.le_trans S15.out (Nat.le_trans S16.out (Nat.le_trans S17.out S18.out))))))))))))))))))
    replace s_px := s_px.keep (b.mono (Nat.le_trans S4.out (Nat.le_trans S5.out (Nat.le_trans S6.out (Nat.le_trans S7.out (Nat.le_trans S8.out (Nat.le_trans S9.out (Nat.le_trans S10.out (Nat.le_trans S11.out (Nat.le_trans S12.out (Nat.le_trans S13.out (Nat.le_trans S14.out (Nat.le_trans S15.out (Nat.le_trans S16.out (Nat.le_trans S17.out S18.out)))))))))))))))
    replace s_py := s_py.keep (b.mono (Nat.le_trans S4.out (Nat.le_trans S5.out (Nat.le_trans S6.out (Nat.le_trans S7.out (Nat.le_trans S8.out (Nat.le_trans S9.out (Nat.le_trans S10.out (Nat.le_trans S11.out (Nat.le_trans S12.out (Nat.le_trans S13.out (Nat.le_trans S14.out (Nat.le_trans S15.out (Nat.le_trans S16.out (Nat.le_trans S17.out S18.out)))))))))))))))
    replace bb := bb.trans (b.mono (Nat.le_trans S1.out (Nat.le_trans S2.out (Nat.le_trans S3.out (Nat.le_trans S4.out (Nat.le_trans S5.out (Nat.le_trans S6.out (Nat.le_trans S7.out (Nat.le_trans S8.out (Nat.le_trans S9.out (Nat.le_trans S10.out (Nat.le_trans S11.out (Nat.le_trans S12.out (Nat.le_trans S13.out (Nat.le_trans S14.out (Nat.le_trans S15.out (Nat.le_trans S16.out (Nat.le_trans S17.out S18.out))))))))))))))))))
    clear b
    go_wp2_with fail
    go_ret
    exact ⟨rfl, bb⟩
  · have hmx : n_x ≤ n_x := by omega
    have hmy : n_x ≤ n_y := by omega
    have s_px := qx.upto hmx
    have hrx := fun W => run_upto W a_x n_x c_x (n_x : Int) (by omega) (by omega)
    rw [Int.toNat_natCast] at hrx
    have s_py := qy.upto hmy
    have hry := fun W => run_upto W a_y n_y c_y (n_x : Int) (by omega) (by omega)
    rw [Int.toNat_natCast] at hry
    have LX : Hid ((x_x.take n_x).length = n_x) := by show _ = _; rw [List.length_take]; omega
    have LY : Hid ((x_y.take n_x).length = n_x) := by show _ = _; rw [List.length_take]; omega
    have wx := i_x.take n_x
    have wy := i_y.take n_x
    obtain ⟨X, hX⟩ : ∃ X, Hid (x_x.take n_x = X) := ⟨_, rfl⟩
    obtain ⟨Y, hY⟩ : ∃ Y, Hid (x_y.take n_x = Y) := ⟨_, rfl⟩
    rw [hX.out] at LX wx s_px
    rw [hY.out] at LY wy s_py
    clear qx qy lx ly
    go_wp2_with fail
    refine (fresh_any _ _ _ 5 _ (s_code.more (Nat.le_trans S1.out (Nat.le_trans S2.out S3.out))) (by omega)).mono ?_
    rintro e w4 ⟨a_p, n_p, c_p, rfl, s_p, b⟩
    have S4 := Lib.hid b.size
    replace s_code := s_code.keep (b.mono (Nat.le_trans S1.out (Nat.le_trans S2.out S3.out)))
    replace s_px := s_px.keep (b.mono (Nat.le_refl _))
    replace s_py := s_py.keep (b.mono (Nat.le_refl _))
    replace bb := bb.trans (b.mono (Nat.le_trans S1.out (Nat.le_trans S2.out S3.out)))
    clear b
    go_wp2_with fail
    refine (mkSeq_any _ _ _ 5 20 _ (s_p.more (Nat.le_refl _)) (by omega) (by omega) (by omega)).mono ?_
    rintro e w5 ⟨a_g, n_g, c_g, x_g, rfl, o_g, l_g, i_g, j_g, b⟩
    have S5 := Lib.hid b.size
    replace s_code := s_code.keep (b.mono (Nat.le_trans S1.out (Nat.le_trans S2.out (Nat.le_trans S3.out S4.out))))
    replace s_px := s_px.keep (b.mono (S4.out))
    replace s_py := s_py.keep (b.mono (S4.out))
    replace s_p := s_p.keep (b.mono (Nat.le_refl _))
    replace bb := bb.trans (b.mono (Nat.le_trans S1.out (Nat.le_trans S2.out (Nat.le_trans S3.out S4.out))))
    clear b
    have hn_g : n_g ≤ 1048576 := by omega
    clear s_p
    go_wp2_with fail
    refine (fresh_any _ _ _ 7 _ (s_code.more (Nat.le_trans S1.out (Nat.le_trans S2.out (Nat.le_trans S3.out (Nat.le_trans S4.out S5.out))))) (by omega)).mono ?_
    rintro e w6 ⟨a_q, n_q, c_q, rfl, s_q, b⟩
    have S6 := Lib.hid b.size
    replace o_g := o_g.keep b (Nat.le_refl _)
    replace s_code := s_code.keep (b.mono (Nat.le_trans S1.out (Nat.le_trans S2.out (Nat.le_trans S3.out (Nat.le_trans S4.out S5.out)))))
    replace s_px := s_px.keep (b.mono (Nat.le_trans S4.out S5.out))
    replace s_py := s_py.keep (b.mono (Nat.le_trans S4.out S5.out))
    replace bb := bb.trans (b.mono (Nat.le_trans S1.out (Nat.le_trans S2.out (Nat.le_trans S3.out (Nat.le_trans S4.out S5.out)))))
    clear b
    go_wp2_with fail
    refine (mkSeq_any _ _ _ 5 20 _ (s_q.more (Nat.le_refl _)) (by omega) (by omega) (by omega)).mono ?_
    rintro e w7 ⟨a_h, n_h, c_h, x_h, rfl, o_h, l_h, i_h, j_h, b⟩
    have S7 := Lib.hid b.size
    replace o_g := o_g.keep b (S6.out)
    replace s_code := s_code.keep (b.mono (Nat.le_trans S1.out (Nat.le_trans S2.out (Nat.le_trans S3.out (Nat.le_trans S4.out (Nat.le_trans S5.out S6.out))))))
    replace s_px := s_px.keep (b.mono (Nat.le_trans S4.out (Nat.le_trans S5.out S6.out)))
    replace s_py := s_py.keep (b.mono (Nat.le_trans S4.out (Nat.le_trans S5.out S6.out)))
    replace s_q := s_q.keep (b.mono (Nat.le_refl _))
    replace bb := bb.trans (b.mono (Nat.le_trans S1.out (Nat.le_trans S2.out (Nat.le_trans S3.out (Nat.le_trans S4.out (Nat.le_trans S5.out S6.out))))))
    clear b
    have hn_h : n_h ≤ 1048576 := by omega
    clear s_q
    have lg := o_g.len
    have lh := o_h.len
    obtain ⟨⟨f1, f2⟩, ⟨f3, f4⟩, ⟨f5, f6⟩, ⟨f7, f8⟩, ⟨f9, f10⟩⟩ := conv_facts (xs := X) (ys := Y) (hs := x_h) (by rw [LX.out, LY.out]) (by rw [LX.out]; omega) wx wy i_h (by omega)
    have TW := Lib.hid (fun h0 => twice_facts (xs := X) (gs := x_g) (hs := x_h) (by rw [LX.out]; omega) wx i_g (by omega) i_h (by omega) h0)
    have LG := Lib.hid lg
    have LH := Lib.hid lh
    have L1 := Lib.hid (mixL_length X Y 1)
    have L2 := Lib.hid (cvL_length X x_h)
    have L3 := Lib.hid (cvL_length Y x_h)
    have L4 := Lib.hid (cvL_length (mixL X Y 1) x_h)
    have F1 := Lib.hid f1
    have F2 := Lib.hid f2
    have F3 := Lib.hid f3
    have F4 := Lib.hid f4
    have F5 := Lib.hid f5
    have F6 := Lib.hid f6
    have F7 := Lib.hid f7
    have F8 := Lib.hid f8
    have F9 := Lib.hid f9
    have F10 := Lib.hid f10
    clear lg lh f1 f2 f3 f4 f5 f6 f7 f8 f9 f10
    go_wp2_with fail
    refine (add_i _ _ _ _ _ _ X Y _ (s_px.more (Nat.le_trans S4.out (Nat.le_trans S5.out (Nat.le_trans S6.out S7.out)))) (s_py.more (Nat.le_trans S4.out (Nat.le_trans S5.out (Nat.le_trans S6.out S7.out))))).mono ?_
    rw [F1.out, F2.out]
    rintro e w8 ⟨a_s, n_s, c_s, rfl, o_s, b⟩
    have S8 := Lib.hid b.size
    replace o_g := o_g.keep b (Nat.le_trans S6.out S7.out)
    replace o_h := o_h.keep b (Nat.le_refl _)
    replace s_code := s_code.keep (b.mono (Nat.le_trans S1.out (Nat.le_trans S2.out (Nat.le_trans S3.out (Nat.le_trans S4.out (Nat.le_trans S5.out (Nat.le_trans S6.out S7.out)))))))
    replace s_px := s_px.keep (b.mono (Nat.le_trans S4.out (Nat.le_trans S5.out (Nat.le_trans S6.out S7.out))))
    replace s_py := s_py.keep (b.mono (Nat.le_trans S4.out (Nat.le_trans S5.out (Nat.le_trans S6.out S7.out))))
    replace bb := bb.trans (b.mono (Nat.le_trans S1.out (Nat.le_trans S2.out (Nat.le_trans S3.out (Nat.le_trans S4.out (Nat.le_trans S5.out (Nat.le_trans S6.out S7.out)))))))
    clear b
    have hn_s : n_s ≤ 1048576 := by rw [← o_s.len, L1.out, LX.out]; omega
    obtain rfl : n_x = n_s := by rw [← o_s.len, L1.out, LX.out]
    go_wp2_with fail
    refine (conv_i _ _ _ _ _ _ X x_h _ (s_px.more (Nat.le_trans S4.out (Nat.le_trans S5.out (Nat.le_trans S6.out (Nat.le_trans S7.out S8.out))))) ((o_h.sl hn_h).more (S8.out))).mono ?_
    rw [F3.out, F4.out]
    rintro e w9 ⟨a_a, n_a, c_a, rfl, o_a, b⟩
    have S9 := Lib.hid b.size
    replace o_g := o_g.keep b (Nat.le_trans S6.out (Nat.le_trans S7.out S8.out))
    replace o_h := o_h.keep b (S8.out)
    replace o_s := o_s.keep b (Nat.le_refl _)
    replace s_code := s_code.keep (b.mono (Nat.le_trans S1.out (Nat.le_trans S2.out (Nat.le_trans S3.out (Nat.le_trans S4.out (Nat.le_trans S5.out (Nat.le_trans S6.out (Nat.le_trans S7.out S8.out))))))))
    replace s_px := s_px.keep (b.mono (Nat.le_trans S4.out (Nat.le_trans S5.out (Nat.le_trans S6.out (Nat.le_trans S7.out S8.out)))))
    replace s_py := s_py.keep (b.mono (Nat.le_trans S4.out (Nat.le_trans S5.out (Nat.le_trans S6.out (Nat.le_trans S7.out S8.out)))))
    replace bb := bb.trans (b.mono (Nat.le_trans S1.out (Nat.le_trans S2.out (Nat.le_trans S3.out (Nat.le_trans S4.out (Nat.le_trans S5.out (Nat.le_trans S6.out (Nat.le_trans S7.out S8.out))))))))
    clear b
    have hn_a : n_a ≤ 1048576 := by rw [← o_a.len, L2.out, LX.out]; omega
    obtain rfl : n_x = n_a := by rw [← o_a.len, L2.out, LX.out]
    go_wp2_with fail
    refine (conv_i _ _ _ _ _ _ Y x_h _ (s_py.more (Nat.le_trans S4.out (Nat.le_trans S5.out (Nat.le_trans S6.out (Nat.le_trans S7.out (Nat.le_trans S8.out S9.out)))))) ((o_h.sl hn_h).more (Nat.le_trans S8.out S9.out))).mono ?_
    rw [F5.out, F6.out]
    rintro e w10 ⟨a_b, n_b, c_b, rfl, o_b, b⟩
    have S10 := Lib.hid b.size
    replace o_g := o_g.keep b (Nat.le_trans S6.out (Nat.le_trans S7.out (Nat.le_trans S8.out S9.out)))
    replace o_h := o_h.keep b (Nat.le_trans S8.out S9.out)
    replace o_s := o_s.keep b (S9.out)
    replace o_a := o_a.keep b (Nat.le_refl _)
    replace s_code := s_code.keep (b.mono (Nat.le_trans S1.out (Nat.le_trans S2.out (Nat.le_trans S3.out (Nat.le_trans S4.out (Nat.le_trans S5.out (Nat.le_trans S6.out (Nat.le_trans S7.out (Nat.le_trans S8.out S9.out)))))))))
    replace s_px := s_px.keep (b.mono (Nat.le_trans S4.out (Nat.le_trans S5.out (Nat.le_trans S6.out (Nat.le_trans S7.out (Nat.le_trans S8.out S9.out))))))
    replace s_py := s_py.keep (b.mono (Nat.le_trans S4.out (Nat.le_trans S5.out (Nat.le_trans S6.out (Nat.le_trans S7.out (Nat.le_trans S8.out S9.out))))))
    replace bb := bb.trans (b.mono (Nat.le_trans S1.out (Nat.le_trans S2.out (Nat.le_trans S3.out (Nat.le_trans S4.out (Nat.le_trans S5.out (Nat.le_trans S6.out (Nat.le_trans S7.out (Nat.le_trans S8.out S9.out)))))))))
    clear b
    have hn_b : n_b ≤ 1048576 := by rw [← o_b.len, L3.out, LY.out]; omega
    obtain rfl : n_x = n_b := by rw [← o_b.len, L3.out, LY.out]
    go_wp2_with fail
    refine (conv_i _ _ _ _ _ _ (mixL X Y 1) x_h _ ((o_s.sl hn_s).more (Nat.le_trans S9.out S10.out)) ((o_h.sl hn_h).more (Nat.le_trans S8.out (Nat.le_trans S9.out S10.out)))).mono ?_
    rw [F7.out, F8.out]
    rintro e w11 ⟨a_c, n_c, c_c, rfl, o_c, b⟩
    have S11 := Lib.hid b.size
    replace o_g := o_g.keep b (Nat.le_trans S6.out (Nat.le_trans S7.out (Nat.le_trans S8.out (Nat.le_trans S9.out S10.out))))
    replace o_h := o_h.keep b (Nat.le_trans S8.out (Nat.le_trans S9.out S10.out))
    replace o_s := o_s.keep b (Nat.le_trans S9.out S10.out)
    replace o_a := o_a.keep b (S10.out)
    replace o_b := o_b.keep b (Nat.le_refl _)
    replace s_code := s_code.keep (b.mono (Nat.le_trans S1.out (Nat.le_trans S2.out (Nat.le_trans S3.out (Nat.le_trans S4.out (Nat.le_trans S5.out (Nat.le_trans S6.out (Nat.le_trans S7.out (Nat.le_trans S8.out (Nat.le_trans S9.out S10.out))))))))))
    replace s_px := s_px.keep (b.mono (Nat.le_trans S4.out (Nat.le_trans S5.out (Nat.le_trans S6.out (Nat.le_trans S7.out (Nat.le_trans S8.out (Nat.le_trans S9.out S10.out)))))))
    replace s_py := s_py.keep (b.mono (Nat.le_trans S4.out (Nat.le_trans S5.out (Nat.le_trans S6.out (Nat.le_trans S7.out (Nat.le_trans S8.out (Nat.le_trans S9.out S10.out)))))))
    replace bb := bb.trans (b.mono (Nat.le_trans S1.out (Nat.le_trans S2.out (Nat.le_trans S3.out (Nat.le_trans S4.out (Nat.le_trans S5.out (Nat.le_trans S6.out (Nat.le_trans S7.out (Nat.le_trans S8.out (Nat.le_trans S9.out S10.out))))))))))
    clear b
    have hn_c : n_c ≤ 1048576 := by rw [← o_c.len, L4.out, L1.out, LX.out]; omega
    obtain rfl : n_x = n_c := by rw [← o_c.len, L4.out, L1.out, LX.out]
    go_wp2_with fail
    refine (add_i _ _ _ _ _ _ (cvL X x_h) (cvL Y x_h) _ ((o_a.sl hn_a).more (Nat.le_trans S10.out S11.out)) ((o_b.sl hn_b).more (S11.out))).mono ?_
    rw [F9.out, F10.out]
    rintro e w12 ⟨a_d, n_d, c_d, rfl, o_d, b⟩
    have S12 := Lib.hid b.size
    replace o_g := o_g.keep b (Nat.le_trans S6.out (Nat.le_trans S7.out (Nat.le_trans S8.out (Nat.le_trans S9.out (Nat.le_trans S10.out S11.out)))))
    replace o_h := o_h.keep b (Nat.le_trans S8.out (Nat.le_trans S9.out (Nat.le_trans S10.out S11.out)))
    replace o_s := o_s.keep b (Nat.le_trans S9.out (Nat.le_trans S10.out S11.out))
    replace o_a := o_a.keep b (Nat.le_trans S10.out S11.out)
    replace o_b := o_b.keep b (S11.out)
    replace o_c := o_c.keep b (Nat.le_refl _)
    replace s_code := s_code.keep (b.mono (Nat.le_trans S1.out (Nat.le_trans S2.out (Nat.le_trans S3.out (Nat.le_trans S4.out (Nat.le_trans S5.out (Nat.le_trans S6.out (Nat.le_trans S7.out (Nat.le_trans S8.out (Nat.le_trans S9.out (Nat.le_trans S10.out S11.out)))))))))))
    replace s_px := s_px.keep (b.mono (Nat.le_trans S4.out (Nat.le_trans S5.out (Nat.le_trans S6.out (Nat.le_trans S7.out (Nat.le_trans S8.out (Nat.le_trans S9.out (Nat.le_trans S10.out S11.out))))))))
    replace s_py := s_py.keep (b.mono (Nat.le_trans S4.out (Nat.le_trans S5.out (Nat.le_trans S6.out (Nat.le_trans S7.out (Nat.le_trans S8.out (Nat.le_trans S9.out (Nat.le_trans S10.out S11.out))))))))
    replace bb := bb.trans (b.mono (Nat.le_trans S1.out (Nat.le_trans S2.out (Nat.le_trans S3.out (Nat.le_trans S4.out (Nat.le_trans S5.out (Nat.le_trans S6.out (Nat.le_trans S7.out (Nat.le_trans S8.out (Nat.le_trans S9.out (Nat.le_trans S10.out S11.out)))))))))))
    clear b
    have hn_d : n_d ≤ 1048576 := by rw [← o_d.len, L4.out, L1.out, LX.out]; omega
    obtain rfl : n_x = n_d := by rw [← o_d.len, L4.out, L1.out, LX.out]
    go_wp2_with fail
    refine (ints_true _ _ _ _ _ _ _ ((o_c.sl hn_c).more (S12.out)) ((o_d.sl hn_d).more (Nat.le_refl _))).mono ?_
    rintro e w13 ⟨rfl, b⟩
    have S13 := Lib.hid b.size
    replace o_g := o_g.keep b (Nat.le_trans S6.out (Nat.le_trans S7.out (Nat.le_trans S8.out (Nat.le_trans S9.out (Nat.le_trans S10.out (Nat.le_trans S11.out S12.out))))))
    replace o_h := o_h.keep b (Nat.le_trans S8.out (Nat.le_trans S9.out (Nat.le_trans S10.out (Nat.le_trans S11.out S12.out))))
    replace o_s := o_s.keep b (Nat.le_trans S9.out (Nat.le_trans S10.out (Nat.le_trans S11.out S12.out)))
    replace o_a := o_a.keep b (Nat.le_trans S10.out (Nat.le_trans S11.out S12.out))
    replace o_b := o_b.keep b (Nat.le_trans S11.out S12.out)
    replace o_c := o_c.keep b (S12.out)
    replace o_d := o_d.keep b (Nat.le_refl _)
    replace s_code := s_code.keep (b.mono (Nat.le_trans S1.out (Nat.le_trans S2.out (Nat.le_trans S3.out (Nat.le_trans S4.out (Nat.le_trans S5.out (Nat.le_trans S6.out (Nat.le_trans S7.out (Nat.le_trans S8.out (Nat.le_trans S9.out (Nat.le_trans S10.out (Nat.le_trans S11.out S12.out))))))))))))
    replace s_px := s_px.keep (b.mono (Nat.le_trans S4.out (Nat.le_trans S5.out (Nat.le_trans S6.out (Nat.le_trans S7.out (Nat.le_trans S8.out (Nat.le_trans S9.out (Nat.le_trans S10.out (Nat.le_trans S11.out S12.out)))))))))
    replace s_py := s_py.keep (b.mono (Nat.le_trans S4.out (Nat.le_trans S5.out (Nat.le_trans S6.out (Nat.le_trans S7.out (Nat.le_trans S8.out (Nat.le_trans S9.out (Nat.le_trans S10.out (Nat.le_trans S11.out S12.out)))))))))
    replace bb := bb.trans (b.mono (Nat.le_trans S1.out (Nat.le_trans S2.out (Nat.le_trans S3.out (Nat.le_trans S4.out (Nat.le_trans S5.out (Nat.le_trans S6.out (Nat.le_trans S7.out (Nat.le_trans S8.out (Nat.le_trans S9.out (Nat.le_trans S10.out (Nat.le_trans S11.out S12.out))))))))))))
    clear b
    clear o_s
    clear o_b
    clear o_c
    clear o_d
    by_cases hg0 : n_g = 0
    · have e0 : ((n_g : Int) == 0) = true := by rw [beq_iff_eq]; omega
      go_wp2_with fail
      go_ret
      exact ⟨rfl, bb⟩
    have e0 : ((n_g : Int) == 0) = false := by rw [beq_eq_false_iff_ne]; omega
    by_cases hh0 : n_h = 0
    · have e1 : ((n_h : Int) == 0) = true := by rw [beq_iff_eq]; omega
      go_wp2_with fail
      go_ret
      exact ⟨rfl, bb⟩
    have e1 : ((n_h : Int) == 0) = false := by rw [beq_eq_false_iff_ne]; omega
    obtain ⟨⟨t1, t2⟩, ⟨t3, t4⟩, ⟨t5, t6⟩⟩ := TW.out (by rw [LH.out]; omega)
    have T1 := Lib.hid t1
    have T2 := Lib.hid t2
    have T3 := Lib.hid t3
    have T4 := Lib.hid t4
    have T5 := Lib.hid t5
    have T6 := Lib.hid t6
    have LL := Lib.hid (longL_length x_g x_h)
    have LO : Hid (x_g ++ List.replicate (n_h - 1) 0 = longL x_g x_h) := by show _ = _; unfold longL; rw [LH.out]
    clear t1 t2 t3 t4 t5 t6 TW
    have hnm : (n_h : Int) - 1 = ((n_h - 1 : Nat) : Int) := by omega
    have oe := Own.empty w13 w13.heap.size (Nat.le_refl _)
    have sg := Sl.next ((o_g.sl hn_g).more (Nat.le_trans S6.out (Nat.le_trans S7.out (Nat.le_trans S8.out (Nat.le_trans S9.out (Nat.le_trans S10.out (Nat.le_trans S11.out (Nat.le_trans S12.out S13.out)))))))) (box_below w13 (.cells #[] 3))
    go_wp2_with (at_builtin; refine wpList_many rfl _ _ rfl rfl oe a_g n_g c_g _ x_g rfl sg (by omega) (by simp) (Nat.le_refl _) ?_)
    intro a_lg c_lg w14 o_lg g2
    have b : Below w13.heap.size w13 w14 := (box_below w13 (.cells #[] 3)).trans ⟨g2.os, g2.tape, g2.output, g2.size, fun k hk => g2.block k (by simp; omega) (by simp; omega)⟩
    clear oe sg g2
    have S14 := Lib.hid b.size
    replace o_g := o_g.keep b (Nat.le_trans S6.out (Nat.le_trans S7.out (Nat.le_trans S8.out (Nat.le_trans S9.out (Nat.le_trans S10.out (Nat.le_trans S11.out (Nat.le_trans S12.out S13.out)))))))
    replace o_h := o_h.keep b (Nat.le_trans S8.out (Nat.le_trans S9.out (Nat.le_trans S10.out (Nat.le_trans S11.out (Nat.le_trans S12.out S13.out)))))
    replace o_a := o_a.keep b (Nat.le_trans S10.out (Nat.le_trans S11.out (Nat.le_trans S12.out S13.out)))
    replace s_code := s_code.keep (b.mono (Nat.le_trans S1.out (Nat.le_trans S2.out (Nat.le_trans S3.out (Nat.le_trans S4.out (Nat.le_trans S5.out (Nat.le_trans S6.out (Nat.le_trans S7.out (Nat.le_trans S8.out (Nat.le_trans S9.out (Nat.le_trans S10.out (Nat.le_trans S11.out (Nat.le_trans S12.out S13.out)))))))))))))
    replace s_px := s_px.keep (b.mono (Nat.le_trans S4.out (Nat.le_trans S5.out (Nat.le_trans S6.out (Nat.le_trans S7.out (Nat.le_trans S8.out (Nat.le_trans S9.out (Nat.le_trans S10.out (Nat.le_trans S11.out (Nat.le_trans S12.out S13.out))))))))))
    replace s_py := s_py.keep (b.mono (Nat.le_trans S4.out (Nat.le_trans S5.out (Nat.le_trans S6.out (Nat.le_trans S7.out (Nat.le_trans S8.out (Nat.le_trans S9.out (Nat.le_trans S10.out (Nat.le_trans S11.out (Nat.le_trans S12.out S13.out))))))))))
    replace bb := bb.trans (b.mono (Nat.le_trans S1.out (Nat.le_trans S2.out (Nat.le_trans S3.out (Nat.le_trans S4.out (Nat.le_trans S5.out (Nat.le_trans S6.out (Nat.le_trans S7.out (Nat.le_trans S8.out (Nat.le_trans S9.out (Nat.le_trans S10.out (Nat.le_trans S11.out (Nat.le_trans S12.out S13.out)))))))))))))
    clear b
    obtain ⟨GG, rfl⟩ : ∃ GG, a_lg = some ⟨GG, 0, none⟩ := by
      rcases o_lg.form with ⟨_, h, _⟩ | ⟨GG, h, _⟩
      · omega
      · exact ⟨GG, h⟩
    go_wp2_with (at_builtin; refine wpList_zeros rfl _ _ rfl rfl o_lg (n_h - 1) rfl (by omega) (S14.out) ?_)
    intro g_lo c_lo w15 o_lo g3
    have bq := g3.below o_lg (S14.out)
    clear o_lg
    have S15 : Hid (w14.heap.size ≤ w15.heap.size) := g3.by_.size
    replace o_g := o_g.keep bq (Nat.le_trans S6.out (Nat.le_trans S7.out (Nat.le_trans S8.out (Nat.le_trans S9.out (Nat.le_trans S10.out (Nat.le_trans S11.out (Nat.le_trans S12.out S13.out)))))))
    replace o_h := o_h.keep bq (Nat.le_trans S8.out (Nat.le_trans S9.out (Nat.le_trans S10.out (Nat.le_trans S11.out (Nat.le_trans S12.out S13.out)))))
    replace o_a := o_a.keep bq (Nat.le_trans S10.out (Nat.le_trans S11.out (Nat.le_trans S12.out S13.out)))
    replace s_code := s_code.keep (bq.mono (Nat.le_trans S1.out (Nat.le_trans S2.out (Nat.le_trans S3.out (Nat.le_trans S4.out (Nat.le_trans S5.out (Nat.le_trans S6.out (Nat.le_trans S7.out (Nat.le_trans S8.out (Nat.le_trans S9.out (Nat.le_trans S10.out (Nat.le_trans S11.out (Nat.le_trans S12.out S13.out)))))))))))))
    replace s_px := s_px.keep (bq.mono (Nat.le_trans S4.out (Nat.le_trans S5.out (Nat.le_trans S6.out (Nat.le_trans S7.out (Nat.le_trans S8.out (Nat.le_trans S9.out (Nat.le_trans S10.out (Nat.le_trans S11.out (Nat.le_trans S12.out S13.out))))))))))
    replace s_py := s_py.keep (bq.mono (Nat.le_trans S4.out (Nat.le_trans S5.out (Nat.le_trans S6.out (Nat.le_trans S7.out (Nat.le_trans S8.out (Nat.le_trans S9.out (Nat.le_trans S10.out (Nat.le_trans S11.out (Nat.le_trans S12.out S13.out))))))))))
    replace bb := bb.trans (bq.mono (Nat.le_trans S1.out (Nat.le_trans S2.out (Nat.le_trans S3.out (Nat.le_trans S4.out (Nat.le_trans S5.out (Nat.le_trans S6.out (Nat.le_trans S7.out (Nat.le_trans S8.out (Nat.le_trans S9.out (Nat.le_trans S10.out (Nat.le_trans S11.out (Nat.le_trans S12.out S13.out)))))))))))))
    clear bq g3
    rw [LO.out] at o_lo
    have hn_lo : n_g + (n_h - 1) ≤ 1048576 := by omega
    go_wp2_with fail
    refine (conv_i _ _ _ _ _ _ (longL x_g x_h) x_h _ ((o_lo.sl hn_lo).more (Nat.le_refl _)) ((o_h.sl hn_h).more (Nat.le_trans S8.out (Nat.le_trans S9.out (Nat.le_trans S10.out (Nat.le_trans S11.out (Nat.le_trans S12.out (Nat.le_trans S13.out (Nat.le_trans S14.out S15.out))))))))).mono ?_
    rw [T1.out, T2.out]
    rintro e w16 ⟨a_bo, n_bo, c_bo, rfl, o_bo, b⟩
    have S16 := Lib.hid b.size
    replace o_g := o_g.keep b (Nat.le_trans S6.out (Nat.le_trans S7.out (Nat.le_trans S8.out (Nat.le_trans S9.out (Nat.le_trans S10.out (Nat.le_trans S11.out (Nat.le_trans S12.out (Nat.le_trans S13.out (Nat.le_trans S14.out S15.out)))))))))
    replace o_h := o_h.keep b (Nat.le_trans S8.out (Nat.le_trans S9.out (Nat.le_trans S10.out (Nat.le_trans S11.out (Nat.le_trans S12.out (Nat.le_trans S13.out (Nat.le_trans S14.out S15.out)))))))
    replace o_a := o_a.keep b (Nat.le_trans S10.out (Nat.le_trans S11.out (Nat.le_trans S12.out (Nat.le_trans S13.out (Nat.le_trans S14.out S15.out)))))
    replace o_lo := o_lo.keep b (Nat.le_refl _)
    replace s_code := s_code.keep (b.mono (Nat.le_trans S1.out (Nat.le_trans S2.out (Nat.le_trans S3.out (Nat.le_trans S4.out (Nat.le_trans S5.out (Nat.le_trans S6.out (Nat.le_trans S7.out (Nat.le_trans S8.out (Nat.le_trans S9.out (Nat.le_trans S10.out (Nat.le_trans S11.out (Nat.le_trans S12.out (Nat.le_trans S13.out (Nat.le_trans S14.out S15.out)))))))))))))))
    replace s_px := s_px.keep (b.mono (Nat.le_trans S4.out (Nat.le_trans S5.out (Nat.le_trans S6.out (Nat.le_trans S7.out (Nat.le_trans S8.out (Nat.le_trans S9.out (Nat.le_trans S10.out (Nat.le_trans S11.out (Nat.le_trans S12.out (Nat.le_trans S13.out (Nat.le_trans S14.out S15.out))))))))))))
    replace s_py := s_py.keep (b.mono (Nat.le_trans S4.out (Nat.le_trans S5.out (Nat.le_trans S6.out (Nat.le_trans S7.out (Nat.le_trans S8.out (Nat.le_trans S9.out (Nat.le_trans S10.out (Nat.le_trans S11.out (Nat.le_trans S12.out (Nat.le_trans S13.out (Nat.le_trans S14.out S15.out))))))))))))
    replace bb := bb.trans (b.mono (Nat.le_trans S1.out (Nat.le_trans S2.out (Nat.le_trans S3.out (Nat.le_trans S4.out (Nat.le_trans S5.out (Nat.le_trans S6.out (Nat.le_trans S7.out (Nat.le_trans S8.out (Nat.le_trans S9.out (Nat.le_trans S10.out (Nat.le_trans S11.out (Nat.le_trans S12.out (Nat.le_trans S13.out (Nat.le_trans S14.out S15.out)))))))))))))))
    clear b
    have hn_bo : n_bo ≤ 1048576 := by rw [← o_bo.len, cvL_length, LL.out, LG.out, LH.out]; omega
    go_wp2_with fail
    refine (conv_i _ _ _ _ _ _ (cvL X x_h) x_g _ ((o_a.sl hn_a).more (Nat.le_trans S10.out (Nat.le_trans S11.out (Nat.le_trans S12.out (Nat.le_trans S13.out (Nat.le_trans S14.out (Nat.le_trans S15.out S16.out))))))) ((o_g.sl hn_g).more (Nat.le_trans S6.out (Nat.le_trans S7.out (Nat.le_trans S8.out (Nat.le_trans S9.out (Nat.le_trans S10.out (Nat.le_trans S11.out (Nat.le_trans S12.out (Nat.le_trans S13.out (Nat.le_trans S14.out (Nat.le_trans S15.out S16.out)))))))))))).mono ?_
    rw [T3.out, T4.out]
    rintro e w17 ⟨a_e, n_e, c_e, rfl, o_e, b⟩
    have S17 := Lib.hid b.size
    replace o_g := o_g.keep b (Nat.le_trans S6.out (Nat.le_trans S7.out (Nat.le_trans S8.out (Nat.le_trans S9.out (Nat.le_trans S10.out (Nat.le_trans S11.out (Nat.le_trans S12.out (Nat.le_trans S13.out (Nat.le_trans S14.out (Nat.le_trans S15.out S16.out))))))))))
    replace o_h := o_h.keep b (Nat.le_trans S8.out (Nat.le_trans S9.out (Nat.le_trans S10.out (Nat.le_trans S11.out (Nat.le_trans S12.out (Nat.le_trans S13.out (Nat.le_trans S14.out (Nat.le_trans S15.out S16.out))))))))
    replace o_a := o_a.keep b (Nat.le_trans S10.out (Nat.le_trans S11.out (Nat.le_trans S12.out (Nat.le_trans S13.out (Nat.le_trans S14.out (Nat.le_trans S15.out S16.out))))))
    replace o_lo := o_lo.keep b (S16.out)
    replace o_bo := o_bo.keep b (Nat.le_refl _)
    replace s_code := s_code.keep (b.mono (Nat.le_trans S1.out (Nat.le_trans S2.out (Nat.le_trans S3.out (Nat.le_trans S4.out (Nat.le_trans S5.out (Nat.le_trans S6.out (Nat.le_trans S7.out (Nat.le_trans S8.out (Nat.le_trans S9.out (Nat.le_trans S10.out (Nat.le_trans S11.out (Nat.le_trans S12.out (Nat.le_trans S13.out (Nat.le_trans S14.out (Nat.le_trans S15.out S16.out))))))))))))))))
    replace s_px := s_px.keep (b.mono (Nat.le_trans S4.out (Nat.le_trans S5.out (Nat.le_trans S6.out (Nat.le_trans S7.out (Nat.le_trans S8.out (Nat.le_trans S9.out (Nat.le_trans S10.out (Nat.le_trans S11.out (Nat.le_trans S12.out (Nat.le_trans S13.out (Nat.le_trans S14.out (Nat.le_trans S15.out S16.out)))))))))))))
    replace s_py := s_py.keep (b.mono (Nat.le_trans S4.out (Nat.le_trans S5.out (Nat.le_trans S6.out (Nat.le_trans S7.out (Nat.le_trans S8.out (Nat.le_trans S9.out (Nat.le_trans S10.out (Nat.le_trans S11.out (Nat.le_trans S12.out (Nat.le_trans S13.out (Nat.le_trans S14.out (Nat.le_trans S15.out S16.out)))))))))))))
    replace bb := bb.trans (b.mono (Nat.le_trans S1.out (Nat.le_trans S2.out (Nat.le_trans S3.out (Nat.le_trans S4.out (Nat.le_trans S5.out (Nat.le_trans S6.out (Nat.le_trans S7.out (Nat.le_trans S8.out (Nat.le_trans S9.out (Nat.le_trans S10.out (Nat.le_trans S11.out (Nat.le_trans S12.out (Nat.le_trans S13.out (Nat.le_trans S14.out (Nat.le_trans S15.out S16.out))))))))))))))))
    clear b
    have hn_e : n_e ≤ 1048576 := by rw [← o_e.len, cvL_length, L2.out, LX.out]; omega
    obtain rfl : n_x = n_e := by rw [← o_e.len, cvL_length, L2.out, LX.out]
    go_wp2_with fail
    refine (conv_i _ _ _ _ _ _ X (cvL (longL x_g x_h) x_h) _ (s_px.more (Nat.le_trans S4.out (Nat.le_trans S5.out (Nat.le_trans S6.out (Nat.le_trans S7.out (Nat.le_trans S8.out (Nat.le_trans S9.out (Nat.le_trans S10.out (Nat.le_trans S11.out (Nat.le_trans S12.out (Nat.le_trans S13.out (Nat.le_trans S14.out (Nat.le_trans S15.out (Nat.le_trans S16.out S17.out)))))))))))))) ((o_bo.sl hn_bo).more (S17.out))).mono ?_
    rw [T5.out, T6.out]
    rintro e w18 ⟨a_f, n_f, c_f, rfl, o_f, b⟩
    have S18 := Lib.hid b.size
    replace o_g := o_g.keep b (Nat.le_trans S6.out (Nat.le_trans S7.out (Nat.le_trans S8.out (Nat.le_trans S9.out (Nat.le_trans S10.out (Nat.le_trans S11.out (Nat.le_trans S12.out (Nat.le_trans S13.out (Nat.le_trans S14.out (Nat.le_trans S15.out (Nat.le_trans S16.out S17.out)))))))))))
    replace o_h := o_h.keep b (Nat.le_trans S8.out (Nat.le_trans S9.out (Nat.le_trans S10.out (Nat.le_trans S11.out (Nat.le_trans S12.out (Nat.le_trans S13.out (Nat.le_trans S14.out (Nat.le_trans S15.out (Nat.le_trans S16.out S17.out)))))))))
    replace o_a := o_a.keep b (Nat.le_trans S10.out (Nat.le_trans S11.out (Nat.le_trans S12.out (Nat.le_trans S13.out (Nat.le_trans S14.out (Nat.le_trans S15.out (Nat.le_trans S16.out S17.out)))))))
    replace o_lo := o_lo.keep b (Nat.le_trans S16.out S17.out)
    replace o_bo := o_bo.keep b (S17.out)
    replace o_e := o_e.keep b (Nat.le_refl _)
    replace s_code := s_code.keep (b.mono (Nat.le_trans S1.out (Nat.le_trans S2.out (Nat.le_trans S3.out (Nat.le_trans S4.out (Nat.le_trans S5.out (Nat.le_trans S6.out (Nat.le_trans S7.out (Nat.le_trans S8.out (Nat.le_trans S9.out (Nat.le_trans S10.out (Nat.le_trans S11.out (Nat.le_trans S12.out (Nat.le_trans S13.out (Nat.le_trans S14.out (Nat.le_trans S15.out (Nat.le_trans S16.out S17.out)))))))))))))))))
    replace s_px := s_px.keep (b.mono (Nat.le_trans S4.out (Nat.le_trans S5.out (Nat.le_trans S6.out (Nat.le_trans S7.out (Nat.le_trans S8.out (Nat.le_trans S9.out (Nat.le_trans S10.out (Nat.le_trans S11.out (Nat.le_trans S12.out (Nat.le_trans S13.out (Nat.le_trans S14.out (Nat.le_trans S15.out (Nat.le_trans S16.out S17.out))))))))))))))
    replace s_py := s_py.keep (b.mono (Nat.le_trans S4.out (Nat.le_trans S5.out (Nat.le_trans S6.out (Nat.le_trans S7.out (Nat.le_trans S8.out (Nat.le_trans S9.out (Nat.le_trans S10.out (Nat.le_trans S11.out (Nat.le_trans S12.out (Nat.le_trans S13.out (Nat.le_trans S14.out (Nat.le_trans S15.out (Nat.le_trans S16.out S17.out))))))))))))))
    replace bb := bb.trans (b.mono (Nat.le_trans S1.out (Nat.le_trans S2.out (Nat.le_trans S3.out (Nat.le_trans S4.out (Nat.le_trans S5.out (Nat.le_trans S6.out (Nat.le_trans S7.out (Nat.le_trans S8.out (Nat.le_trans S9.out (Nat.le_trans S10.out (Nat.le_trans S11.out (Nat.le_trans S12.out (Nat.le_trans S13.out (Nat.le_trans S14.out (Nat.le_trans S15.out (Nat.le_trans S16.out S17.out)))))))))))))))))
    clear b
    have hn_f : n_f ≤ 1048576 := by rw [← o_f.len, cvL_length, L2.out, LX.out]; omega
    obtain rfl : n_x = n_f := by rw [← o_f.len, cvL_length, L2.out, LX.out]
    go_wp2_with fail
    refine (ints_true _ _ _ _ _ _ _ ((o_e.sl hn_e).more (S18.out)) ((o_f.sl hn_f).more (Nat.le_refl _))).mono ?_
    rintro e w19 ⟨rfl, b⟩
    have S19 := Lib.hid b.size
    replace o_g := o_g.keep b (Nat.le_trans S6.out (Nat.le_trans S7.out (Nat.le_trans S8.out (Nat.le_trans S9.out (Nat.le_trans S10.out (Nat.le_trans S11.out (Nat.le_trans S12.out (Nat.le_trans S13.out (Nat.le_trans S14.out (Nat.le_trans S15.out (Nat.le_trans S16.out (Nat.le_trans S17.out S18.out))))))))))))
    replace o_h := o_h.keep b (Nat.le_trans S8.out (Nat.le_trans S9.out (Nat.le_trans S10.out (Nat.le_trans S11.out (Nat.le_trans S12.out (Nat.le_trans S13.out (Nat.le_trans S14.out (Nat.le_trans S15.out (Nat.le_trans S16.out (Nat.le_trans S17.out S18.out))))))))))
    replace o_a := o_a.keep b (Nat.le_trans S10.out (Nat.le_trans S11.out (Nat.le_trans S12.out (Nat.le_trans S13.out (Nat.le_trans S14.out (Nat.le_trans S15.out (Nat.le_trans S16.out (Nat.le_trans S17.out S18.out))))))))
    replace o_lo := o_lo.keep b (Nat.le_trans S16.out (Nat.le_trans S17.out S18.out))
    replace o_bo := o_bo.keep b (Nat.le_trans S17.out S18.out)
    replace o_e := o_e.keep b (S18.out)
    replace o_f := o_f.keep b (Nat.le_refl _)
    replace s_code := s_code.keep (b.mono (Nat.le_trans S1.out (Nat.le_trans S2.out (Nat.le_trans S3.out (Nat.le_trans S4.out (Nat.le_trans S5.out (Nat.le_trans S6.out (Nat.le_trans S7.out (Nat.le_trans S8.out (Nat.le_trans S9.out (Nat.le_trans S10.out (Nat.le_trans S11.out (Nat.le_trans S12.out (Nat.le_trans S13.out (Nat.le_trans S14.out (Nat.le_trans S15.out (Nat.le_trans S16.out (Nat.le_trans S17.out S18.out))))))))))))))))))
    replace s_px := s_px.keep (b.mono (Nat.le_trans S4.out (Nat.le_trans S5.out (Nat.le_trans S6.out (Nat.le_trans S7.out (Nat.le_trans S8.out (Nat.le_trans S9.out (Nat.le_trans S10.out (Nat.le_trans S11.out (Nat.le_trans S12.out (Nat.le_trans S13.out (Nat.le_trans S14.out (Nat.le_trans S15.out (Nat.le_trans S16.out (Nat.le_trans S17.out S18.out)))))))))))))))
    replace s_py := s_py.keep (b.mono (Nat.le_trans S4.out (Nat.le_trans S5.out (Nat.le_trans S6.out (Nat.le_trans S7.out (Nat.le_trans S8.out (Nat.le_trans S9.out (Nat.le_trans S10.out (Nat.le_trans S11.out (Nat.le_trans S12.out (Nat.le_trans S13.out (Nat.le_trans S14.out (Nat.le_trans S15.out (Nat.le_trans S16.out (Nat.le_trans S17.out S18.out)))))))))))))))
    replace bb := bb.trans (b.mono (Nat.le_trans S1.out (Nat.le_trans S2.out (Nat.le_trans S3.out (Nat.le_trans S4.out (Nat.le_trans S5.out (Nat.le_trans S6.out (Nat.le_trans S7.out (Nat.le_trans S8.out (Nat.le_trans S9.out (Nat.le_trans S10.out (Nat.le_trans S11.out (Nat.le_trans S12.out (Nat.le_trans S13.out (Nat.le_trans S14.out (Nat.le_trans S15.out (Nat.le_trans S16.out (Nat.le_trans S17.out S18.out))))))))))))))))))
    clear b
    go_wp2_with fail
    go_ret
    exact ⟨rfl, bb⟩
end Go.Proofs.Ytfmjpbfciclkoaa
