/- The walk of the law FnNoble: it returns true and leaves what was there as it was. -/
import Derived.Test.YtfmjpbfciclkoaaPureF
import Derived.Test.YtfmjpbfciclkoaaLawP
import Derived.Test.YtfmjpbfciclkoaaBox
import Derived.Test.YtfmjpbfciclkoaaConv
namespace Go.Proofs.Ytfmjpbfciclkoaa
open Go.RowKit
set_option linter.unusedVariables false
set_option maxRecDepth 100000 in
set_option maxHeartbeats 4000000 in
theorem fnNoble_walk (a0 : Option Addr) (n0 c0 : Nat) (z0 : List Int) (w0 : World) (h : IsRow .u8 w0 a0 n0 c0 z0) :
    Calls Try.prog 7 #[.slice a0 n0 c0] w0 fun e w' => e = .returned (.bool true) ∧ Below w0.heap.size w0 w' := by
  have hle := h.le
  by_cases hn : n0 ≤ 1048576
  rotate_left
  · go_enter Try.func7, Try.ntmps7
    go_wp2_with fail
    go_ret
    exact ⟨rfl, Below.refl _ _⟩
  have s_code := h.bsl hn
  clear h hle
  have bb := Below.refl w0.heap.size w0
  go_enter Try.func7, Try.ntmps7
  go_wp2_with fail
  refine (mkSeq_any _ _ _ 60 1000 _ (s_code.more (Nat.le_refl _)) (by omega) (by omega) (by omega)).mono ?_
  rintro e w1 ⟨a_x, n_x, c_x, x_x, rfl, o_x, l_x, i_x, j_x, b⟩
  have S1 := Lib.hid b.size
  replace s_code := s_code.keep (b.mono (Nat.le_refl _))
  replace bb := bb.trans (b.mono (Nat.le_refl _))
  clear b
  have hn_x : n_x ≤ 1048576 := by omega
  go_wp2_with fail
  refine (fresh_any _ _ _ 3 _ (s_code.more (S1.out)) (by omega)).mono ?_
  rintro e w2 ⟨a_f, n_f, c_f, rfl, s_f, b⟩
  have S2 := Lib.hid b.size
  replace o_x := o_x.keep b (Nat.le_refl _)
  replace s_code := s_code.keep (b.mono (S1.out))
  replace bb := bb.trans (b.mono (S1.out))
  clear b
  go_wp2_with fail
  refine (mkSeq_any _ _ _ 4 30 _ (s_f.more (Nat.le_refl _)) (by omega) (by omega) (by omega)).mono ?_
  rintro e w3 ⟨a_h, n_h, c_h, x_h, rfl, o_h, l_h, i_h, j_h, b⟩
  have S3 := Lib.hid b.size
  replace o_x := o_x.keep b (S2.out)
  replace s_code := s_code.keep (b.mono (Nat.le_trans S1.out S2.out))
  replace s_f := s_f.keep (b.mono (Nat.le_refl _))
  replace bb := bb.trans (b.mono (Nat.le_trans S1.out S2.out))
  clear b
  have hn_h : n_h ≤ 1048576 := by omega
  clear s_f
  go_wp2_with fail
  refine (at_any _ _ _ _ 1 _ s_code (by omega)).mono ?_
  rintro e w' ⟨a, a0, a1, rfl, rfl⟩
  obtain ⟨r1, hr⟩ := Int.eq_ofNat_of_zero_le (Int.emod_nonneg a (show (6 : Int) ≠ 0 by omega))
  have hr6 : r1 < 6 := by have := Int.emod_lt_of_pos a (show (0 : Int) < 6 by omega); omega
  have hrr : 1 + (r1 : Int) = ((r1 + 1 : Nat) : Int) := by omega
  obtain ⟨r, hrn⟩ : ∃ r, r1 + 1 = r := ⟨_, rfl⟩
  rw [hrn] at hrr
  have h1r : 1 ≤ r := by omega
  have h6r : r ≤ 6 := by omega
  clear hrn hr6
  have lx := o_x.len
  have lh := o_h.len
  obtain ⟨⟨f1, f2⟩, ⟨f3, f4⟩, ⟨f5, f6⟩, ⟨f7, f8⟩, ⟨f9, f10⟩, ⟨f11, f12⟩, ⟨f13, f14⟩⟩ := noble_facts (xs := x_x) (hs := x_h) (r := r) (by omega) i_x i_h (by omega) h1r h6r
  have hl1 : r * n_h ≤ 24 := by have := Nat.mul_le_mul h6r l_h; omega
  have hl2 : r * n_x ≤ 360 := by have := Nat.mul_le_mul h6r l_x; omega
  have hdl : (n_x + r - 1) / r ≤ 60 := by have := decN_le (n := n_x) (r := r) (p := 0) h1r; unfold decN at this; rw [Nat.sub_zero] at this; omega
  have M1 := Lib.hid (stuffL_length x_h r)
  have M2 := Lib.hid (stuffL_length x_x r)
  have M3 := Lib.hid (decL_length x_x r)
  have M4 := Lib.hid (cvL_length x_x (stuffL x_h r))
  have M5 := Lib.hid (cvL_length (decL x_x r 0) x_h)
  rw [lx] at M2 M3 M4
  rw [lh] at M1
  have HLX := Lib.hid lx
  have HLH := Lib.hid lh
  have F1 := Lib.hid f1
  have F2 := Lib.hid f2
  have F3 := Lib.hid f3
  have F4 := Lib.hid f4
  have F5 := Lib.hid f5
  have F6 := Lib.hid f6
  have F7 := Lib.hid f7
  have F8 := Lib.hid f8
  have F9 := Lib.hid f9
  have F10 := Lib.hid f10
  have F11 := Lib.hid f11
  have F12 := Lib.hid f12
  have F13 := Lib.hid f13
  have F14 := Lib.hid f14
  clear lx lh f1 f2 f3 f4 f5 f6 f7 f8 f9 f10 f11 f12 f13 f14
  have hpx : 0 ≤ (r : Int) * (n_x : Int) ∧ (r : Int) * (n_x : Int) ≤ 360 := by rw [← Int.natCast_mul]; omega
  go_wp2_with fail
  refine (stuff_i _ _ _ x_h (r : Int) _ ((o_h.sl hn_h).more (Nat.le_refl _)) (by constructor <;> omega)).mono ?_
  rw [F1.out, F2.out]
  rintro e w4 ⟨a_w, n_w, c_w, rfl, o_w, b⟩
  have S4 := Lib.hid b.size
  replace o_x := o_x.keep b (Nat.le_trans S2.out S3.out)
  replace o_h := o_h.keep b (Nat.le_refl _)
  replace s_code := s_code.keep (b.mono (Nat.le_trans S1.out (Nat.le_trans S2.out S3.out)))
  replace bb := bb.trans (b.mono (Nat.le_trans S1.out (Nat.le_trans S2.out S3.out)))
  clear b
  have hn_w : n_w ≤ 1048576 := by rw [← o_w.len, M1.out]; omega
  go_wp2_with fail
  refine (conv_i _ _ _ _ _ _ x_x (stuffL x_h r) _ ((o_x.sl hn_x).more (Nat.le_trans S2.out (Nat.le_trans S3.out S4.out))) ((o_w.sl hn_w).more (Nat.le_refl _))).mono ?_
  rw [F3.out, F4.out]
  rintro e w5 ⟨a_a, n_a, c_a, rfl, o_a, b⟩
  have S5 := Lib.hid b.size
  replace o_x := o_x.keep b (Nat.le_trans S2.out (Nat.le_trans S3.out S4.out))
  replace o_h := o_h.keep b (S4.out)
  replace o_w := o_w.keep b (Nat.le_refl _)
  replace s_code := s_code.keep (b.mono (Nat.le_trans S1.out (Nat.le_trans S2.out (Nat.le_trans S3.out S4.out))))
  replace bb := bb.trans (b.mono (Nat.le_trans S1.out (Nat.le_trans S2.out (Nat.le_trans S3.out S4.out))))
  clear b
  have hn_a : n_a ≤ 1048576 := by rw [← o_a.len, M4.out]; omega
  clear o_w
  go_wp2_with fail
  refine (decimate_i _ _ _ (cvL x_x (stuffL x_h r)) (r : Int) 0 _ ((o_a.sl hn_a).more (Nat.le_refl _)) (by constructor <;> omega) ⟨by omega, by omega⟩).mono ?_
  rw [F5.out, F6.out]
  rintro e w6 ⟨a_b, n_b, c_b, rfl, o_b, b⟩
  have S6 := Lib.hid b.size
  replace o_x := o_x.keep b (Nat.le_trans S2.out (Nat.le_trans S3.out (Nat.le_trans S4.out S5.out)))
  replace o_h := o_h.keep b (Nat.le_trans S4.out S5.out)
  replace o_a := o_a.keep b (Nat.le_refl _)
  replace s_code := s_code.keep (b.mono (Nat.le_trans S1.out (Nat.le_trans S2.out (Nat.le_trans S3.out (Nat.le_trans S4.out S5.out)))))
  replace bb := bb.trans (b.mono (Nat.le_trans S1.out (Nat.le_trans S2.out (Nat.le_trans S3.out (Nat.le_trans S4.out S5.out)))))
  clear b
  have hn_b : n_b ≤ 1048576 := by rw [← o_b.len, M5.out, M3.out]; omega
  clear o_a
  go_wp2_with fail
  refine (decimate_i _ _ _ x_x (r : Int) 0 _ ((o_x.sl hn_x).more (Nat.le_trans S2.out (Nat.le_trans S3.out (Nat.le_trans S4.out (Nat.le_trans S5.out S6.out))))) (by constructor <;> omega) ⟨by omega, by omega⟩).mono ?_
  rw [F7.out, F8.out]
  rintro e w7 ⟨a_c, n_c, c_c, rfl, o_c, b⟩
  have S7 := Lib.hid b.size
  replace o_x := o_x.keep b (Nat.le_trans S2.out (Nat.le_trans S3.out (Nat.le_trans S4.out (Nat.le_trans S5.out S6.out))))
  replace o_h := o_h.keep b (Nat.le_trans S4.out (Nat.le_trans S5.out S6.out))
  replace o_b := o_b.keep b (Nat.le_refl _)
  replace s_code := s_code.keep (b.mono (Nat.le_trans S1.out (Nat.le_trans S2.out (Nat.le_trans S3.out (Nat.le_trans S4.out (Nat.le_trans S5.out S6.out))))))
  replace bb := bb.trans (b.mono (Nat.le_trans S1.out (Nat.le_trans S2.out (Nat.le_trans S3.out (Nat.le_trans S4.out (Nat.le_trans S5.out S6.out))))))
  clear b
  have hn_c : n_c ≤ 1048576 := by rw [← o_c.len, M3.out]; omega
  go_wp2_with fail
  refine (conv_i _ _ _ _ _ _ (decL x_x r 0) x_h _ ((o_c.sl hn_c).more (Nat.le_refl _)) ((o_h.sl hn_h).more (Nat.le_trans S4.out (Nat.le_trans S5.out (Nat.le_trans S6.out S7.out))))).mono ?_
  rw [F9.out, F10.out]
  rintro e w8 ⟨a_d, n_d, c_d, rfl, o_d, b⟩
  have S8 := Lib.hid b.size
  replace o_x := o_x.keep b (Nat.le_trans S2.out (Nat.le_trans S3.out (Nat.le_trans S4.out (Nat.le_trans S5.out (Nat.le_trans S6.out S7.out)))))
  replace o_h := o_h.keep b (Nat.le_trans S4.out (Nat.le_trans S5.out (Nat.le_trans S6.out S7.out)))
  replace o_b := o_b.keep b (S7.out)
  replace o_c := o_c.keep b (Nat.le_refl _)
  replace s_code := s_code.keep (b.mono (Nat.le_trans S1.out (Nat.le_trans S2.out (Nat.le_trans S3.out (Nat.le_trans S4.out (Nat.le_trans S5.out (Nat.le_trans S6.out S7.out)))))))
  replace bb := bb.trans (b.mono (Nat.le_trans S1.out (Nat.le_trans S2.out (Nat.le_trans S3.out (Nat.le_trans S4.out (Nat.le_trans S5.out (Nat.le_trans S6.out S7.out)))))))
  clear b
  have hn_d : n_d ≤ 1048576 := by rw [← o_d.len, M5.out, M3.out]; omega
  go_wp2_with fail
  refine (stuff_i _ _ _ x_x (r : Int) _ ((o_x.sl hn_x).more (Nat.le_trans S2.out (Nat.le_trans S3.out (Nat.le_trans S4.out (Nat.le_trans S5.out (Nat.le_trans S6.out (Nat.le_trans S7.out S8.out))))))) (by constructor <;> omega)).mono ?_
  rw [F11.out, F12.out]
  rintro e w9 ⟨a_s, n_s, c_s, rfl, o_s, b⟩
  have S9 := Lib.hid b.size
  replace o_x := o_x.keep b (Nat.le_trans S2.out (Nat.le_trans S3.out (Nat.le_trans S4.out (Nat.le_trans S5.out (Nat.le_trans S6.out (Nat.le_trans S7.out S8.out))))))
  replace o_h := o_h.keep b (Nat.le_trans S4.out (Nat.le_trans S5.out (Nat.le_trans S6.out (Nat.le_trans S7.out S8.out))))
  replace o_b := o_b.keep b (Nat.le_trans S7.out S8.out)
  replace o_c := o_c.keep b (S8.out)
  replace o_d := o_d.keep b (Nat.le_refl _)
  replace s_code := s_code.keep (b.mono (Nat.le_trans S1.out (Nat.le_trans S2.out (Nat.le_trans S3.out (Nat.le_trans S4.out (Nat.le_trans S5.out (Nat.le_trans S6.out (Nat.le_trans S7.out S8.out))))))))
  replace bb := bb.trans (b.mono (Nat.le_trans S1.out (Nat.le_trans S2.out (Nat.le_trans S3.out (Nat.le_trans S4.out (Nat.le_trans S5.out (Nat.le_trans S6.out (Nat.le_trans S7.out S8.out))))))))
  clear b
  have hn_s : n_s ≤ 1048576 := by rw [← o_s.len, M2.out]; omega
  go_wp2_with fail
  refine (decimate_i _ _ _ (stuffL x_x r) (r : Int) 0 _ ((o_s.sl hn_s).more (Nat.le_refl _)) (by constructor <;> omega) ⟨by omega, by omega⟩).mono ?_
  rw [F13.out, F14.out]
  rintro e w10 ⟨a_t, n_t, c_t, rfl, o_t, b⟩
  have S10 := Lib.hid b.size
  replace o_x := o_x.keep b (Nat.le_trans S2.out (Nat.le_trans S3.out (Nat.le_trans S4.out (Nat.le_trans S5.out (Nat.le_trans S6.out (Nat.le_trans S7.out (Nat.le_trans S8.out S9.out)))))))
  replace o_h := o_h.keep b (Nat.le_trans S4.out (Nat.le_trans S5.out (Nat.le_trans S6.out (Nat.le_trans S7.out (Nat.le_trans S8.out S9.out)))))
  replace o_b := o_b.keep b (Nat.le_trans S7.out (Nat.le_trans S8.out S9.out))
  replace o_c := o_c.keep b (Nat.le_trans S8.out S9.out)
  replace o_d := o_d.keep b (S9.out)
  replace o_s := o_s.keep b (Nat.le_refl _)
  replace s_code := s_code.keep (b.mono (Nat.le_trans S1.out (Nat.le_trans S2.out (Nat.le_trans S3.out (Nat.le_trans S4.out (Nat.le_trans S5.out (Nat.le_trans S6.out (Nat.le_trans S7.out (Nat.le_trans S8.out S9.out)))))))))
  replace bb := bb.trans (b.mono (Nat.le_trans S1.out (Nat.le_trans S2.out (Nat.le_trans S3.out (Nat.le_trans S4.out (Nat.le_trans S5.out (Nat.le_trans S6.out (Nat.le_trans S7.out (Nat.le_trans S8.out S9.out)))))))))
  clear b
  have hn_t : n_t ≤ 1048576 := by rw [← o_t.len, HLX.out]; omega
  obtain rfl : n_x = n_t := by rw [← o_t.len, HLX.out]
  obtain rfl : n_b = n_d := by rw [← o_b.len, ← o_d.len]
  have es : Hid (n_s = r * n_x) := by show _ = _; rw [← o_s.len, M2.out]
  have ec : Hid (n_c = (n_x + r - 1) / r) := by show _ = _; rw [← o_c.len, M3.out]
  go_wp2_with fail
  refine (ints_true _ _ _ _ _ _ _ ((o_b.sl hn_b).more (Nat.le_trans S7.out (Nat.le_trans S8.out (Nat.le_trans S9.out S10.out)))) ((o_d.sl hn_d).more (Nat.le_trans S9.out S10.out))).mono ?_
  rintro e w11 ⟨rfl, b⟩
  have S11 := Lib.hid b.size
  replace o_x := o_x.keep b (Nat.le_trans S2.out (Nat.le_trans S3.out (Nat.le_trans S4.out (Nat.le_trans S5.out (Nat.le_trans S6.out (Nat.le_trans S7.out (Nat.le_trans S8.out (Nat.le_trans S9.out S10.out))))))))
  replace o_h := o_h.keep b (Nat.le_trans S4.out (Nat.le_trans S5.out (Nat.le_trans S6.out (Nat.le_trans S7.out (Nat.le_trans S8.out (Nat.le_trans S9.out S10.out))))))
  replace o_b := o_b.keep b (Nat.le_trans S7.out (Nat.le_trans S8.out (Nat.le_trans S9.out S10.out)))
  replace o_c := o_c.keep b (Nat.le_trans S8.out (Nat.le_trans S9.out S10.out))
  replace o_d := o_d.keep b (Nat.le_trans S9.out S10.out)
  replace o_s := o_s.keep b (S10.out)
  replace o_t := o_t.keep b (Nat.le_refl _)
  replace s_code := s_code.keep (b.mono (Nat.le_trans S1.out (Nat.le_trans S2.out (Nat.le_trans S3.out (Nat.le_trans S4.out (Nat.le_trans S5.out (Nat.le_trans S6.out (Nat.le_trans S7.out (Nat.le_trans S8.out (Nat.le_trans S9.out S10.out))))))))))
  replace bb := bb.trans (b.mono (Nat.le_trans S1.out (Nat.le_trans S2.out (Nat.le_trans S3.out (Nat.le_trans S4.out (Nat.le_trans S5.out (Nat.le_trans S6.out (Nat.le_trans S7.out (Nat.le_trans S8.out (Nat.le_trans S9.out S10.out))))))))))
  clear b
  go_wp2_with fail
  refine (ints_true _ _ _ _ _ _ _ ((o_t.sl hn_t).more (S11.out)) ((o_x.sl hn_x).more (Nat.le_trans S2.out (Nat.le_trans S3.out (Nat.le_trans S4.out (Nat.le_trans S5.out (Nat.le_trans S6.out (Nat.le_trans S7.out (Nat.le_trans S8.out (Nat.le_trans S9.out (Nat.le_trans S10.out S11.out))))))))))).mono ?_
  rintro e w12 ⟨rfl, b⟩
  have S12 := Lib.hid b.size
  replace o_x := o_x.keep b (Nat.le_trans S2.out (Nat.le_trans S3.out (Nat.le_trans S4.out (Nat.le_trans S5.out (Nat.le_trans S6.out (Nat.le_trans S7.out (Nat.le_trans S8.out (Nat.le_trans S9.out (Nat.le_trans S10.out S11.out)))))))))
  replace o_h := o_h.keep b (Nat.le_trans S4.out (Nat.le_trans S5.out (Nat.le_trans S6.out (Nat.le_trans S7.out (Nat.le_trans S8.out (Nat.le_trans S9.out (Nat.le_trans S10.out S11.out)))))))
  replace o_b := o_b.keep b (Nat.le_trans S7.out (Nat.le_trans S8.out (Nat.le_trans S9.out (Nat.le_trans S10.out S11.out))))
  replace o_c := o_c.keep b (Nat.le_trans S8.out (Nat.le_trans S9.out (Nat.le_trans S10.out S11.out)))
  replace o_d := o_d.keep b (Nat.le_trans S9.out (Nat.le_trans S10.out S11.out))
  replace o_s := o_s.keep b (Nat.le_trans S10.out S11.out)
  replace o_t := o_t.keep b (S11.out)
  replace s_code := s_code.keep (b.mono (Nat.le_trans S1.out (Nat.le_trans S2.out (Nat.le_trans S3.out (Nat.le_trans S4.out (Nat.le_trans S5.out (Nat.le_trans S6.out (Nat.le_trans S7.out (Nat.le_trans S8.out (Nat.le_trans S9.out (Nat.le_trans S10.out S11.out)))))))))))
  replace bb := bb.trans (b.mono (Nat.le_trans S1.out (Nat.le_trans S2.out (Nat.le_trans S3.out (Nat.le_trans S4.out (Nat.le_trans S5.out (Nat.le_trans S6.out (Nat.le_trans S7.out (Nat.le_trans S8.out (Nat.le_trans S9.out (Nat.le_trans S10.out S11.out)))))))))))
  clear b
  have q1 : ((n_s : Int) == (r : Int) * (n_x : Int)) = true := by rw [beq_iff_eq, es.out, Int.natCast_mul]
  have q2 : ((n_c : Int) == ((n_x : Int) + (r : Int) - 1) / (r : Int)) = true := by rw [beq_iff_eq, ec.out, Int.natCast_ediv]; congr 1; omega
  have q0 : 0 ≤ ((n_x : Int) + (r : Int) - 1) / (r : Int) ∧ ((n_x : Int) + (r : Int) - 1) / (r : Int) ≤ 1000 := by constructor; exact Int.ediv_nonneg (by omega) (by omega); exact Int.le_trans (Int.ediv_le_self _ (by omega)) (by omega)
  go_wp2_with fail
  go_ret
  exact ⟨rfl, bb⟩
end Go.Proofs.Ytfmjpbfciclkoaa
