/- The walk of the law FnSums: it returns true and leaves what was there as it was. -/
import Derived.Test.YtfmjpbfciclkoaaPureF
import Derived.Test.YtfmjpbfciclkoaaLawP
import Derived.Test.YtfmjpbfciclkoaaInt
import Derived.Test.YtfmjpbfciclkoaaDiff2
import Derived.Test.YtfmjpbfciclkoaaConv
namespace Go.Proofs.Ytfmjpbfciclkoaa
open Go.RowKit
set_option linter.unusedVariables false
set_option maxRecDepth 100000 in
set_option maxHeartbeats 4000000 in
theorem fnSums_walk (a0 : Option Addr) (n0 c0 : Nat) (z0 : List Int) (w0 : World) (h : IsRow .u8 w0 a0 n0 c0 z0) :
    Calls Try.prog 10 #[.slice a0 n0 c0] w0 fun e w' => e = .returned (.bool true) ∧ Below w0.heap.size w0 w' := by
  have hle := h.le
  by_cases hn : n0 ≤ 1048576
  rotate_left
  · go_enter Try.func10, Try.ntmps10
    go_wp2_with fail
    go_ret
    exact ⟨rfl, Below.refl _ _⟩
  have s_code := h.bsl hn
  clear h hle
  have bb := Below.refl w0.heap.size w0
  go_enter Try.func10, Try.ntmps10
  go_wp2_with fail
  refine (at_any _ _ _ _ 1 _ s_code (by omega)).mono ?_
  rintro e w' ⟨a, ha0, ha1, rfl, rfl⟩
  go_wp2_with fail
  refine (mkSeq_any _ _ _ 40 (1 + a * 20) _ (s_code.more (Nat.le_refl _)) (by omega) (by omega) (by omega)).mono ?_
  rintro e w1 ⟨a_x, n_x, c_x, x_x, rfl, o_x, l_x, i_x, j_x, b⟩
  have S1 := Lib.hid b.size
  replace s_code := s_code.keep (b.mono (Nat.le_refl _))
  replace bb := bb.trans (b.mono (Nat.le_refl _))
  clear b
  have hn_x : n_x ≤ 1048576 := by omega
  go_wp2_with fail
  refine (at_any _ _ _ _ 2 _ s_code (by omega)).mono ?_
  rintro e w' ⟨k0, k00, k01, rfl, rfl⟩
  obtain ⟨k, hk⟩ := Int.eq_ofNat_of_zero_le (Int.emod_nonneg k0 (show (5 : Int) ≠ 0 by omega))
  have hk4 : k ≤ 4 := by have := Int.emod_lt_of_pos k0 (show (0 : Int) < 5 by omega); omega
  have lx := o_x.len
  obtain ⟨⟨f1, f2⟩, ⟨f3, f4⟩, ⟨f5, f6⟩, f7⟩ := sums_facts (k := k) (by omega) (i_x.mono (show 1 + a * 20 ≤ 5101 by omega)) hk4
  have hdl := diffs_length x_x k
  have hil := Lib.hid (fun h => intV_length (xs := x_x) (k := (k : Int)) h)
  have F1 := Lib.hid f1
  have F2 := Lib.hid f2
  have F3 := Lib.hid f3
  have F4 := Lib.hid f4
  have F5 := Lib.hid f5
  have F6 := Lib.hid f6
  have F7 := Lib.hid f7
  have HK := Lib.hid hk
  rw [lx] at hdl hil
  have HDL := Lib.hid hdl
  have HLX := Lib.hid lx
  clear f1 f2 f3 f4 f5 f6 f7 hdl lx
  obtain ⟨D, hD⟩ : ∃ D, Hid (diffs x_x k = D) := ⟨_, rfl⟩
  rw [hD.out] at F2 F3 F4 F6 HDL
  cases hB0 : intB x_x (k : Int)
  · have hB := Lib.hid hB0
    clear hB0
    go_wp2_with fail
    refine (diff_i _ _ _ x_x (k : Int) _ ((o_x.sl hn_x).more (Nat.le_refl _)) (by constructor <;> omega)).mono ?_
    rw [F1.out, F2.out]
    rintro e w2 ⟨a_d, n_d, c_d, rfl, o_d, b⟩
    have S2 := Lib.hid b.size
    replace o_x := o_x.keep b (Nat.le_refl _)
    replace s_code := s_code.keep (b.mono (S1.out))
    replace bb := bb.trans (b.mono (S1.out))
    clear b
    have hn_d : n_d ≤ 1048576 := by rw [← o_d.len, HDL.out]; omega
    obtain rfl : n_x = n_d := by rw [← o_d.len, HDL.out]
    go_wp2_with fail
    refine (int_i _ _ _ x_x (k : Int) _ ((o_x.sl hn_x).more (S2.out)) (by constructor <;> omega)).mono ?_
    rw [hB.out]
    rintro e w3 ⟨a_s, n_s, c_s, rfl, o_s, b⟩
    have S3 := Lib.hid b.size
    replace o_x := o_x.keep b (S2.out)
    replace o_d := o_d.keep b (Nat.le_refl _)
    replace s_code := s_code.keep (b.mono (Nat.le_trans S1.out S2.out))
    replace bb := bb.trans (b.mono (Nat.le_trans S1.out S2.out))
    clear b
    have hn_s : n_s ≤ 1048576 := by rw [← o_s.len]; exact intV_len _ _
    go_wp2_with fail
    refine (int_s _ _ _ x_x (k : Int) _ ((o_x.sl hn_x).more (Nat.le_trans S2.out S3.out)) (by constructor <;> omega)).mono ?_
    rw [hB.out]
    rintro e w4 ⟨a_t, n_t, c_t, rfl, o_t, b⟩
    have S4 := Lib.hid b.size
    replace o_x := o_x.keep b (Nat.le_trans S2.out S3.out)
    replace o_d := o_d.keep b (S3.out)
    replace o_s := o_s.keep b (Nat.le_refl _)
    replace s_code := s_code.keep (b.mono (Nat.le_trans S1.out (Nat.le_trans S2.out S3.out)))
    replace bb := bb.trans (b.mono (Nat.le_trans S1.out (Nat.le_trans S2.out S3.out)))
    clear b
    have hn_t : n_t ≤ 1048576 := by rw [← o_t.len]; exact intV_len _ _
    clear o_t
    go_wp2_with fail
    refine (int_i _ _ _ D (k : Int) _ ((o_d.sl hn_d).more (Nat.le_trans S3.out S4.out)) (by constructor <;> omega)).mono ?_
    rw [F3.out, F4.out]
    rintro e w5 ⟨a_a, n_a, c_a, rfl, o_a, b⟩
    have S5 := Lib.hid b.size
    replace o_x := o_x.keep b (Nat.le_trans S2.out (Nat.le_trans S3.out S4.out))
    replace o_d := o_d.keep b (Nat.le_trans S3.out S4.out)
    replace o_s := o_s.keep b (S4.out)
    replace s_code := s_code.keep (b.mono (Nat.le_trans S1.out (Nat.le_trans S2.out (Nat.le_trans S3.out S4.out))))
    replace bb := bb.trans (b.mono (Nat.le_trans S1.out (Nat.le_trans S2.out (Nat.le_trans S3.out S4.out))))
    clear b
    have hn_a : n_a ≤ 1048576 := by rw [← o_a.len, HLX.out]; omega
    obtain rfl : n_x = n_a := by rw [← o_a.len, HLX.out]
    go_wp2_with fail
    refine (coefs_i (k : Int) _ (by constructor <;> omega)).mono ?_
    rintro e w6 ⟨a_co, n_co, c_co, rfl, o_co, b⟩
    have S6 := Lib.hid b.size
    replace o_x := o_x.keep b (Nat.le_trans S2.out (Nat.le_trans S3.out (Nat.le_trans S4.out S5.out)))
    replace o_d := o_d.keep b (Nat.le_trans S3.out (Nat.le_trans S4.out S5.out))
    replace o_s := o_s.keep b (Nat.le_trans S4.out S5.out)
    replace o_a := o_a.keep b (Nat.le_refl _)
    replace s_code := s_code.keep (b.mono (Nat.le_trans S1.out (Nat.le_trans S2.out (Nat.le_trans S3.out (Nat.le_trans S4.out S5.out)))))
    replace bb := bb.trans (b.mono (Nat.le_trans S1.out (Nat.le_trans S2.out (Nat.le_trans S3.out (Nat.le_trans S4.out S5.out)))))
    clear b
    have hn_co : n_co ≤ 1048576 := by rw [← o_co.len]; exact coefs_len _
    go_wp2_with fail
    refine (conv_i _ _ _ _ _ _ x_x (coefs (k : Int)) _ ((o_x.sl hn_x).more (Nat.le_trans S2.out (Nat.le_trans S3.out (Nat.le_trans S4.out (Nat.le_trans S5.out S6.out))))) ((o_co.sl hn_co).more (Nat.le_refl _))).mono ?_
    rw [F5.out, F6.out]
    rintro e w7 ⟨a_h, n_h, c_h, rfl, o_h, b⟩
    have S7 := Lib.hid b.size
    replace o_x := o_x.keep b (Nat.le_trans S2.out (Nat.le_trans S3.out (Nat.le_trans S4.out (Nat.le_trans S5.out S6.out))))
    replace o_d := o_d.keep b (Nat.le_trans S3.out (Nat.le_trans S4.out (Nat.le_trans S5.out S6.out)))
    replace o_s := o_s.keep b (Nat.le_trans S4.out (Nat.le_trans S5.out S6.out))
    replace o_a := o_a.keep b (S6.out)
    replace o_co := o_co.keep b (Nat.le_refl _)
    replace s_code := s_code.keep (b.mono (Nat.le_trans S1.out (Nat.le_trans S2.out (Nat.le_trans S3.out (Nat.le_trans S4.out (Nat.le_trans S5.out S6.out))))))
    replace bb := bb.trans (b.mono (Nat.le_trans S1.out (Nat.le_trans S2.out (Nat.le_trans S3.out (Nat.le_trans S4.out (Nat.le_trans S5.out S6.out))))))
    clear b
    have hn_h : n_h ≤ 1048576 := by rw [← o_h.len, HDL.out]; omega
    clear o_co
    obtain rfl : n_x = n_h := by rw [← o_h.len, HDL.out]
    go_wp2_with fail
    refine (ints_true _ _ _ _ _ _ _ ((o_a.sl hn_a).more (Nat.le_trans S6.out S7.out)) ((o_x.sl hn_x).more (Nat.le_trans S2.out (Nat.le_trans S3.out (Nat.le_trans S4.out (Nat.le_trans S5.out (Nat.le_trans S6.out S7.out))))))).mono ?_
    rintro e w8 ⟨rfl, b⟩
    have S8 := Lib.hid b.size
    replace o_x := o_x.keep b (Nat.le_trans S2.out (Nat.le_trans S3.out (Nat.le_trans S4.out (Nat.le_trans S5.out (Nat.le_trans S6.out S7.out)))))
    replace o_d := o_d.keep b (Nat.le_trans S3.out (Nat.le_trans S4.out (Nat.le_trans S5.out (Nat.le_trans S6.out S7.out))))
    replace o_s := o_s.keep b (Nat.le_trans S4.out (Nat.le_trans S5.out (Nat.le_trans S6.out S7.out)))
    replace o_a := o_a.keep b (Nat.le_trans S6.out S7.out)
    replace o_h := o_h.keep b (Nat.le_refl _)
    replace s_code := s_code.keep (b.mono (Nat.le_trans S1.out (Nat.le_trans S2.out (Nat.le_trans S3.out (Nat.le_trans S4.out (Nat.le_trans S5.out (Nat.le_trans S6.out S7.out)))))))
    replace bb := bb.trans (b.mono (Nat.le_trans S1.out (Nat.le_trans S2.out (Nat.le_trans S3.out (Nat.le_trans S4.out (Nat.le_trans S5.out (Nat.le_trans S6.out S7.out)))))))
    clear b
    go_wp2_with fail
    refine (ints_true _ _ _ _ _ _ _ ((o_h.sl hn_h).more (S8.out)) ((o_d.sl hn_d).more (Nat.le_trans S3.out (Nat.le_trans S4.out (Nat.le_trans S5.out (Nat.le_trans S6.out (Nat.le_trans S7.out S8.out))))))).mono ?_
    rintro e w9 ⟨rfl, b⟩
    have S9 := Lib.hid b.size
    replace o_x := o_x.keep b (Nat.le_trans S2.out (Nat.le_trans S3.out (Nat.le_trans S4.out (Nat.le_trans S5.out (Nat.le_trans S6.out (Nat.le_trans S7.out S8.out))))))
    replace o_d := o_d.keep b (Nat.le_trans S3.out (Nat.le_trans S4.out (Nat.le_trans S5.out (Nat.le_trans S6.out (Nat.le_trans S7.out S8.out)))))
    replace o_s := o_s.keep b (Nat.le_trans S4.out (Nat.le_trans S5.out (Nat.le_trans S6.out (Nat.le_trans S7.out S8.out))))
    replace o_a := o_a.keep b (Nat.le_trans S6.out (Nat.le_trans S7.out S8.out))
    replace o_h := o_h.keep b (S8.out)
    replace s_code := s_code.keep (b.mono (Nat.le_trans S1.out (Nat.le_trans S2.out (Nat.le_trans S3.out (Nat.le_trans S4.out (Nat.le_trans S5.out (Nat.le_trans S6.out (Nat.le_trans S7.out S8.out))))))))
    replace bb := bb.trans (b.mono (Nat.le_trans S1.out (Nat.le_trans S2.out (Nat.le_trans S3.out (Nat.le_trans S4.out (Nat.le_trans S5.out (Nat.le_trans S6.out (Nat.le_trans S7.out S8.out))))))))
    clear b
    go_wp2_with fail
    go_ret
    exact ⟨rfl, bb⟩
  · have hB := Lib.hid hB0
    clear hB0
    go_wp2_with fail
    refine (diff_i _ _ _ x_x (k : Int) _ ((o_x.sl hn_x).more (Nat.le_refl _)) (by constructor <;> omega)).mono ?_
    rw [F1.out, F2.out]
    rintro e w2 ⟨a_d, n_d, c_d, rfl, o_d, b⟩
    have S2 := Lib.hid b.size
    replace o_x := o_x.keep b (Nat.le_refl _)
    replace s_code := s_code.keep (b.mono (S1.out))
    replace bb := bb.trans (b.mono (S1.out))
    clear b
    have hn_d : n_d ≤ 1048576 := by rw [← o_d.len, HDL.out]; omega
    obtain rfl : n_x = n_d := by rw [← o_d.len, HDL.out]
    go_wp2_with fail
    refine (int_i _ _ _ x_x (k : Int) _ ((o_x.sl hn_x).more (S2.out)) (by constructor <;> omega)).mono ?_
    rw [hB.out]
    rintro e w3 ⟨a_s, n_s, c_s, rfl, o_s, b⟩
    have S3 := Lib.hid b.size
    replace o_x := o_x.keep b (S2.out)
    replace o_d := o_d.keep b (Nat.le_refl _)
    replace s_code := s_code.keep (b.mono (Nat.le_trans S1.out S2.out))
    replace bb := bb.trans (b.mono (Nat.le_trans S1.out S2.out))
    clear b
    have hn_s : n_s ≤ 1048576 := by rw [← o_s.len]; exact intV_len _ _
    go_wp2_with fail
    refine (int_s _ _ _ x_x (k : Int) _ ((o_x.sl hn_x).more (Nat.le_trans S2.out S3.out)) (by constructor <;> omega)).mono ?_
    rw [hB.out]
    rintro e w4 ⟨a_t, n_t, c_t, rfl, o_t, b⟩
    have S4 := Lib.hid b.size
    replace o_x := o_x.keep b (Nat.le_trans S2.out S3.out)
    replace o_d := o_d.keep b (S3.out)
    replace o_s := o_s.keep b (Nat.le_refl _)
    replace s_code := s_code.keep (b.mono (Nat.le_trans S1.out (Nat.le_trans S2.out S3.out)))
    replace bb := bb.trans (b.mono (Nat.le_trans S1.out (Nat.le_trans S2.out S3.out)))
    clear b
    have hn_t : n_t ≤ 1048576 := by rw [← o_t.len]; exact intV_len _ _
    clear o_t
    go_wp2_with fail
    refine (int_i _ _ _ D (k : Int) _ ((o_d.sl hn_d).more (Nat.le_trans S3.out S4.out)) (by constructor <;> omega)).mono ?_
    rw [F3.out, F4.out]
    rintro e w5 ⟨a_a, n_a, c_a, rfl, o_a, b⟩
    have S5 := Lib.hid b.size
    replace o_x := o_x.keep b (Nat.le_trans S2.out (Nat.le_trans S3.out S4.out))
    replace o_d := o_d.keep b (Nat.le_trans S3.out S4.out)
    replace o_s := o_s.keep b (S4.out)
    replace s_code := s_code.keep (b.mono (Nat.le_trans S1.out (Nat.le_trans S2.out (Nat.le_trans S3.out S4.out))))
    replace bb := bb.trans (b.mono (Nat.le_trans S1.out (Nat.le_trans S2.out (Nat.le_trans S3.out S4.out))))
    clear b
    have hn_a : n_a ≤ 1048576 := by rw [← o_a.len, HLX.out]; omega
    obtain rfl : n_x = n_a := by rw [← o_a.len, HLX.out]
    go_wp2_with fail
    refine (coefs_i (k : Int) _ (by constructor <;> omega)).mono ?_
    rintro e w6 ⟨a_co, n_co, c_co, rfl, o_co, b⟩
    have S6 := Lib.hid b.size
    replace o_x := o_x.keep b (Nat.le_trans S2.out (Nat.le_trans S3.out (Nat.le_trans S4.out S5.out)))
    replace o_d := o_d.keep b (Nat.le_trans S3.out (Nat.le_trans S4.out S5.out))
    replace o_s := o_s.keep b (Nat.le_trans S4.out S5.out)
    replace o_a := o_a.keep b (Nat.le_refl _)
    replace s_code := s_code.keep (b.mono (Nat.le_trans S1.out (Nat.le_trans S2.out (Nat.le_trans S3.out (Nat.le_trans S4.out S5.out)))))
    replace bb := bb.trans (b.mono (Nat.le_trans S1.out (Nat.le_trans S2.out (Nat.le_trans S3.out (Nat.le_trans S4.out S5.out)))))
    clear b
    have hn_co : n_co ≤ 1048576 := by rw [← o_co.len]; exact coefs_len _
    go_wp2_with fail
    refine (conv_i _ _ _ _ _ _ x_x (coefs (k : Int)) _ ((o_x.sl hn_x).more (Nat.le_trans S2.out (Nat.le_trans S3.out (Nat.le_trans S4.out (Nat.le_trans S5.out S6.out))))) ((o_co.sl hn_co).more (Nat.le_refl _))).mono ?_
    rw [F5.out, F6.out]
    rintro e w7 ⟨a_h, n_h, c_h, rfl, o_h, b⟩
    have S7 := Lib.hid b.size
    replace o_x := o_x.keep b (Nat.le_trans S2.out (Nat.le_trans S3.out (Nat.le_trans S4.out (Nat.le_trans S5.out S6.out))))
    replace o_d := o_d.keep b (Nat.le_trans S3.out (Nat.le_trans S4.out (Nat.le_trans S5.out S6.out)))
    replace o_s := o_s.keep b (Nat.le_trans S4.out (Nat.le_trans S5.out S6.out))
    replace o_a := o_a.keep b (S6.out)
    replace o_co := o_co.keep b (Nat.le_refl _)
    replace s_code := s_code.keep (b.mono (Nat.le_trans S1.out (Nat.le_trans S2.out (Nat.le_trans S3.out (Nat.le_trans S4.out (Nat.le_trans S5.out S6.out))))))
    replace bb := bb.trans (b.mono (Nat.le_trans S1.out (Nat.le_trans S2.out (Nat.le_trans S3.out (Nat.le_trans S4.out (Nat.le_trans S5.out S6.out))))))
    clear b
    have hn_h : n_h ≤ 1048576 := by rw [← o_h.len, HDL.out]; omega
    clear o_co
    obtain rfl : n_x = n_h := by rw [← o_h.len, HDL.out]
    go_wp2_with fail
    refine (ints_true _ _ _ _ _ _ _ ((o_a.sl hn_a).more (Nat.le_trans S6.out S7.out)) ((o_x.sl hn_x).more (Nat.le_trans S2.out (Nat.le_trans S3.out (Nat.le_trans S4.out (Nat.le_trans S5.out (Nat.le_trans S6.out S7.out))))))).mono ?_
    rintro e w8 ⟨rfl, b⟩
    have S8 := Lib.hid b.size
    replace o_x := o_x.keep b (Nat.le_trans S2.out (Nat.le_trans S3.out (Nat.le_trans S4.out (Nat.le_trans S5.out (Nat.le_trans S6.out S7.out)))))
    replace o_d := o_d.keep b (Nat.le_trans S3.out (Nat.le_trans S4.out (Nat.le_trans S5.out (Nat.le_trans S6.out S7.out))))
    replace o_s := o_s.keep b (Nat.le_trans S4.out (Nat.le_trans S5.out (Nat.le_trans S6.out S7.out)))
    replace o_a := o_a.keep b (Nat.le_trans S6.out S7.out)
    replace o_h := o_h.keep b (Nat.le_refl _)
    replace s_code := s_code.keep (b.mono (Nat.le_trans S1.out (Nat.le_trans S2.out (Nat.le_trans S3.out (Nat.le_trans S4.out (Nat.le_trans S5.out (Nat.le_trans S6.out S7.out)))))))
    replace bb := bb.trans (b.mono (Nat.le_trans S1.out (Nat.le_trans S2.out (Nat.le_trans S3.out (Nat.le_trans S4.out (Nat.le_trans S5.out (Nat.le_trans S6.out S7.out)))))))
    clear b
    go_wp2_with fail
    refine (ints_true _ _ _ _ _ _ _ ((o_h.sl hn_h).more (S8.out)) ((o_d.sl hn_d).more (Nat.le_trans S3.out (Nat.le_trans S4.out (Nat.le_trans S5.out (Nat.le_trans S6.out (Nat.le_trans S7.out S8.out))))))).mono ?_
    rintro e w9 ⟨rfl, b⟩
    have S9 := Lib.hid b.size
    replace o_x := o_x.keep b (Nat.le_trans S2.out (Nat.le_trans S3.out (Nat.le_trans S4.out (Nat.le_trans S5.out (Nat.le_trans S6.out (Nat.le_trans S7.out S8.out))))))
    replace o_d := o_d.keep b (Nat.le_trans S3.out (Nat.le_trans S4.out (Nat.le_trans S5.out (Nat.le_trans S6.out (Nat.le_trans S7.out S8.out)))))
    replace o_s := o_s.keep b (Nat.le_trans S4.out (Nat.le_trans S5.out (Nat.le_trans S6.out (Nat.le_trans S7.out S8.out))))
    replace o_a := o_a.keep b (Nat.le_trans S6.out (Nat.le_trans S7.out S8.out))
    replace o_h := o_h.keep b (S8.out)
    replace s_code := s_code.keep (b.mono (Nat.le_trans S1.out (Nat.le_trans S2.out (Nat.le_trans S3.out (Nat.le_trans S4.out (Nat.le_trans S5.out (Nat.le_trans S6.out (Nat.le_trans S7.out S8.out))))))))
    replace bb := bb.trans (b.mono (Nat.le_trans S1.out (Nat.le_trans S2.out (Nat.le_trans S3.out (Nat.le_trans S4.out (Nat.le_trans S5.out (Nat.le_trans S6.out (Nat.le_trans S7.out S8.out))))))))
    clear b
    have f7 := F7.out hB.out
    have G1 := Lib.hid f7.1
    have G2 := Lib.hid f7.2
    clear f7
    go_wp2_with fail
    refine (diff_i _ _ _ (intV x_x (k : Int)) (k : Int) _ ((o_s.sl hn_s).more (Nat.le_trans S4.out (Nat.le_trans S5.out (Nat.le_trans S6.out (Nat.le_trans S7.out (Nat.le_trans S8.out S9.out)))))) (by constructor <;> omega)).mono ?_
    rw [G1.out, G2.out]
    rintro e w10 ⟨a_b, n_b, c_b, rfl, o_b, b⟩
    have S10 := Lib.hid b.size
    replace o_x := o_x.keep b (Nat.le_trans S2.out (Nat.le_trans S3.out (Nat.le_trans S4.out (Nat.le_trans S5.out (Nat.le_trans S6.out (Nat.le_trans S7.out (Nat.le_trans S8.out S9.out)))))))
    replace o_d := o_d.keep b (Nat.le_trans S3.out (Nat.le_trans S4.out (Nat.le_trans S5.out (Nat.le_trans S6.out (Nat.le_trans S7.out (Nat.le_trans S8.out S9.out))))))
    replace o_s := o_s.keep b (Nat.le_trans S4.out (Nat.le_trans S5.out (Nat.le_trans S6.out (Nat.le_trans S7.out (Nat.le_trans S8.out S9.out)))))
    replace o_a := o_a.keep b (Nat.le_trans S6.out (Nat.le_trans S7.out (Nat.le_trans S8.out S9.out)))
    replace o_h := o_h.keep b (Nat.le_trans S8.out S9.out)
    replace s_code := s_code.keep (b.mono (Nat.le_trans S1.out (Nat.le_trans S2.out (Nat.le_trans S3.out (Nat.le_trans S4.out (Nat.le_trans S5.out (Nat.le_trans S6.out (Nat.le_trans S7.out (Nat.le_trans S8.out S9.out)))))))))
    replace bb := bb.trans (b.mono (Nat.le_trans S1.out (Nat.le_trans S2.out (Nat.le_trans S3.out (Nat.le_trans S4.out (Nat.le_trans S5.out (Nat.le_trans S6.out (Nat.le_trans S7.out (Nat.le_trans S8.out S9.out)))))))))
    clear b
    have hn_b : n_b ≤ 1048576 := by rw [← o_b.len, HLX.out]; omega
    obtain rfl : n_x = n_b := by rw [← o_b.len, HLX.out]
    go_wp2_with fail
    refine (ints_true _ _ _ _ _ _ _ ((o_b.sl hn_b).more (Nat.le_refl _)) ((o_x.sl hn_x).more (Nat.le_trans S2.out (Nat.le_trans S3.out (Nat.le_trans S4.out (Nat.le_trans S5.out (Nat.le_trans S6.out (Nat.le_trans S7.out (Nat.le_trans S8.out (Nat.le_trans S9.out S10.out)))))))))).mono ?_
    rintro e w11 ⟨rfl, b⟩
    have S11 := Lib.hid b.size
    replace o_x := o_x.keep b (Nat.le_trans S2.out (Nat.le_trans S3.out (Nat.le_trans S4.out (Nat.le_trans S5.out (Nat.le_trans S6.out (Nat.le_trans S7.out (Nat.le_trans S8.out (Nat.le_trans S9.out S10.out))))))))
    replace o_d := o_d.keep b (Nat.le_trans S3.out (Nat.le_trans S4.out (Nat.le_trans S5.out (Nat.le_trans S6.out (Nat.le_trans S7.out (Nat.le_trans S8.out (Nat.le_trans S9.out S10.out)))))))
    replace o_s := o_s.keep b (Nat.le_trans S4.out (Nat.le_trans S5.out (Nat.le_trans S6.out (Nat.le_trans S7.out (Nat.le_trans S8.out (Nat.le_trans S9.out S10.out))))))
    replace o_a := o_a.keep b (Nat.le_trans S6.out (Nat.le_trans S7.out (Nat.le_trans S8.out (Nat.le_trans S9.out S10.out))))
    replace o_h := o_h.keep b (Nat.le_trans S8.out (Nat.le_trans S9.out S10.out))
    replace o_b := o_b.keep b (Nat.le_refl _)
    replace s_code := s_code.keep (b.mono (Nat.le_trans S1.out (Nat.le_trans S2.out (Nat.le_trans S3.out (Nat.le_trans S4.out (Nat.le_trans S5.out (Nat.le_trans S6.out (Nat.le_trans S7.out (Nat.le_trans S8.out (Nat.le_trans S9.out S10.out))))))))))
    replace bb := bb.trans (b.mono (Nat.le_trans S1.out (Nat.le_trans S2.out (Nat.le_trans S3.out (Nat.le_trans S4.out (Nat.le_trans S5.out (Nat.le_trans S6.out (Nat.le_trans S7.out (Nat.le_trans S8.out (Nat.le_trans S9.out S10.out))))))))))
    clear b
    go_wp2_with fail
    go_ret
    exact ⟨rfl, bb⟩
end Go.Proofs.Ytfmjpbfciclkoaa
