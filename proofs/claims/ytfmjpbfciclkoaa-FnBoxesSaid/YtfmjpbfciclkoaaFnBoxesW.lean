/- The walk of the law FnBoxes: it returns true and leaves what was there as it was. -/
import Derived.Test.YtfmjpbfciclkoaaPureG
import Derived.Test.YtfmjpbfciclkoaaLawP
import Derived.Test.YtfmjpbfciclkoaaBox
import Derived.Test.YtfmjpbfciclkoaaConv
import Derived.Test.YtfmjpbfciclkoaaInt
namespace Go.Proofs.Ytfmjpbfciclkoaa
open Go.RowKit
set_option linter.unusedVariables false
set_option maxRecDepth 100000 in
set_option maxHeartbeats 4000000 in
theorem fnBoxes_walk (a0 : Option Addr) (n0 c0 : Nat) (z0 : List Int) (w0 : World) (h : IsRow .u8 w0 a0 n0 c0 z0) :
    Calls Try.prog 9 #[.slice a0 n0 c0] w0 fun e w' => e = .returned (.bool true) ∧ Below w0.heap.size w0 w' := by
  have hle := h.le
  by_cases hn : n0 ≤ 1048576
  rotate_left
  · go_enter Try.func9, Try.ntmps9
    go_wp2_with fail
    go_ret
    exact ⟨rfl, Below.refl _ _⟩
  have s_code := h.bsl hn
  clear h hle
  have bb := Below.refl w0.heap.size w0
  go_enter Try.func9, Try.ntmps9
  go_wp2_with fail
  refine (mkSeq_any _ _ _ 60 5000 _ (s_code.more (Nat.le_refl _)) (by omega) (by omega) (by omega)).mono ?_
  rintro e w1 ⟨a_x, n_x, c_x, x_x, rfl, o_x, l_x, i_x, j_x, b⟩
  have S1 := Lib.hid b.size
  replace s_code := s_code.keep (b.mono (Nat.le_refl _))
  replace bb := bb.trans (b.mono (Nat.le_refl _))
  clear b
  have hn_x : n_x ≤ 1048576 := by omega
  go_wp2_with fail
  refine (at_any _ _ _ _ 1 _ s_code (by omega)).mono ?_
  rintro e w' ⟨a, a0, a1, rfl, rfl⟩
  obtain ⟨r1, hr⟩ := Int.eq_ofNat_of_zero_le (Int.emod_nonneg a (show (20 : Int) ≠ 0 by omega))
  have hr6 : r1 < 20 := by have := Int.emod_lt_of_pos a (show (0 : Int) < 20 by omega); omega
  have hrr : 1 + (r1 : Int) = ((r1 + 1 : Nat) : Int) := by omega
  obtain ⟨r, hrn⟩ : ∃ r, r1 + 1 = r := ⟨_, rfl⟩
  rw [hrn] at hrr
  have h1r : 1 ≤ r := by omega
  have h6r : r ≤ 20 := by omega
  clear hrn hr6
  have lx := o_x.len
  obtain ⟨⟨f1, f2⟩, ⟨f3, f4⟩, ⟨f5, f6⟩, f7, f8, f9⟩ := boxes_facts (xs := x_x) (r := r) (by omega) i_x h1r h6r
  have M1 := Lib.hid (int1_length x_x)
  have M2 : Hid ((boxL x_x r).length = x_x.length) := tab_length _ _
  rw [lx] at M1 M2 f7 f8
  have HLX := Lib.hid lx
  have F1 := Lib.hid f1
  have F2 := Lib.hid f2
  have F3 := Lib.hid f3
  have F4 := Lib.hid f4
  have F5 := Lib.hid f5
  have F6 := Lib.hid f6
  have F7 := Lib.hid f7
  have F8 := Lib.hid f8
  have F9 := Lib.hid f9
  clear lx f1 f2 f3 f4 f5 f6 f7 f8 f9
  go_wp2_with fail
  refine (boxSums_i _ _ _ x_x (r : Int) _ ((o_x.sl hn_x).more (Nat.le_refl _)) (by constructor <;> omega)).mono ?_
  rw [F1.out, F2.out]
  rintro e w2 ⟨a_b, n_b, c_b, rfl, o_b, b⟩
  have S2 := Lib.hid b.size
  replace o_x := o_x.keep b (Nat.le_refl _)
  replace s_code := s_code.keep (b.mono (S1.out))
  replace bb := bb.trans (b.mono (S1.out))
  clear b
  have hn_b : n_b ≤ 1048576 := by rw [← o_b.len, M2.out]; omega
  obtain rfl : n_x = n_b := by rw [← o_b.len, M2.out]
  go_wp2_with fail
  refine (constant_any 1 r _ (by omega)).mono ?_
  rintro e w3 ⟨a_k, c_k, rfl, o_k, b⟩
  have S3 := Lib.hid b.size
  replace o_x := o_x.keep b (S2.out)
  replace o_b := o_b.keep b (Nat.le_refl _)
  replace s_code := s_code.keep (b.mono (Nat.le_trans S1.out S2.out))
  replace bb := bb.trans (b.mono (Nat.le_trans S1.out S2.out))
  clear b
  have hn_k : r ≤ 1048576 := by omega
  go_wp2_with fail
  refine (conv_i _ _ _ _ _ _ x_x (List.replicate r 1) _ ((o_x.sl hn_x).more (Nat.le_trans S2.out S3.out)) ((o_k.sl hn_k).more (Nat.le_refl _))).mono ?_
  rw [F3.out, F4.out]
  rintro e w4 ⟨a_c, n_c, c_c, rfl, o_c, b⟩
  have S4 := Lib.hid b.size
  replace o_x := o_x.keep b (Nat.le_trans S2.out S3.out)
  replace o_b := o_b.keep b (S3.out)
  replace o_k := o_k.keep b (Nat.le_refl _)
  replace s_code := s_code.keep (b.mono (Nat.le_trans S1.out (Nat.le_trans S2.out S3.out)))
  replace bb := bb.trans (b.mono (Nat.le_trans S1.out (Nat.le_trans S2.out S3.out)))
  clear b
  have hn_c : n_c ≤ 1048576 := by rw [← o_c.len, M2.out]; omega
  clear o_k
  obtain rfl : n_x = n_c := by rw [← o_c.len, M2.out]
  go_wp2_with fail
  refine (int_i _ _ _ x_x 1 _ ((o_x.sl hn_x).more (Nat.le_trans S2.out (Nat.le_trans S3.out S4.out))) (by constructor <;> omega)).mono ?_
  rw [F5.out, F6.out]
  rintro e w5 ⟨a_s, n_s, c_s, rfl, o_s, b⟩
  have S5 := Lib.hid b.size
  replace o_x := o_x.keep b (Nat.le_trans S2.out (Nat.le_trans S3.out S4.out))
  replace o_b := o_b.keep b (Nat.le_trans S3.out S4.out)
  replace o_c := o_c.keep b (Nat.le_refl _)
  replace s_code := s_code.keep (b.mono (Nat.le_trans S1.out (Nat.le_trans S2.out (Nat.le_trans S3.out S4.out))))
  replace bb := bb.trans (b.mono (Nat.le_trans S1.out (Nat.le_trans S2.out (Nat.le_trans S3.out S4.out))))
  clear b
  have hn_s : n_s ≤ 1048576 := by rw [← o_s.len, M1.out]; omega
  obtain rfl : n_x = n_s := by rw [← o_s.len, M1.out]
  go_wp2_with fail
  refine (ints_true _ _ _ _ _ _ _ ((o_b.sl hn_b).more (Nat.le_trans S3.out (Nat.le_trans S4.out S5.out))) ((o_c.sl hn_c).more (S5.out))).mono ?_
  rintro e w6 ⟨rfl, b⟩
  have S6 := Lib.hid b.size
  replace o_x := o_x.keep b (Nat.le_trans S2.out (Nat.le_trans S3.out (Nat.le_trans S4.out S5.out)))
  replace o_b := o_b.keep b (Nat.le_trans S3.out (Nat.le_trans S4.out S5.out))
  replace o_c := o_c.keep b (S5.out)
  replace o_s := o_s.keep b (Nat.le_refl _)
  replace s_code := s_code.keep (b.mono (Nat.le_trans S1.out (Nat.le_trans S2.out (Nat.le_trans S3.out (Nat.le_trans S4.out S5.out)))))
  replace bb := bb.trans (b.mono (Nat.le_trans S1.out (Nat.le_trans S2.out (Nat.le_trans S3.out (Nat.le_trans S4.out S5.out)))))
  clear b
  have sb := ((o_b.sl hn_b).more (Nat.le_trans S3.out (Nat.le_trans S4.out (Nat.le_trans S5.out S6.out))))
  have ss := ((o_s.sl hn_s).more (S6.out))
  clear o_x
  clear o_b
  clear o_c
  clear o_s
  go_wp2_with fail
  go_loopw [11, 12, 72] (fun _ _ i wr => ∃ j : Nat, j ≤ n_x ∧ i = .int .i64 j ∧ Below w6.heap.size w6 wr) (fun _ _ i _ => n_x - (intOf i).toNat)
  case atStart => exact ⟨0, Nat.zero_le _, rfl, Below.refl _ _⟩
  case round =>
    obtain ⟨j, hj, rfl, hbel⟩ := hrel
    by_cases hlt : j < n_x
    · obtain ⟨b1, off1, rfl, hb1, hc1⟩ := sb.at_ (by omega)
      obtain ⟨b2, off2, rfl, hb2, hc2⟩ := ss.at_ (by omega)
      have hcx := (hbel.cell (p := ⟨b1, off1 + j, none⟩) hb1).trans (hc1 j hlt)
      have hcy := (hbel.cell (p := ⟨b2, off2 + j, none⟩) hb2).trans (hc2 j hlt)
      have hyb := F9.out j
      have e1 : (0 : Int) ≤ (j : Int) := by omega
      have e2 : (j : Int) < (n_x : Int) := by omega
      by_cases hrj : r ≤ j
      · have hcz := (hbel.cell (p := ⟨b2, off2 + (j - r), none⟩) hb2).trans (hc2 (j - r) (by omega))
        have hzb := F9.out (j - r)
        have hE := Lib.hid (F7.out j hlt hrj)
        clear hc1 hc2
        generalize (boxL x_x r).getD j 0 = x at hcx hE
        generalize (int1 x_x).getD j 0 = y at hcy hE hyb
        generalize (int1 x_x).getD (j - r) 0 = z at hcz hE hzb
        have e3 : ((j : Int) - (r : Int)).toNat = j - r := by omega
        have e4 : (r : Int) ≤ (j : Int) := by omega
        have e5 : (x != y - z) = false := by rw [hE.out]; simp
        have e6 : IntKind.i64.wrap (y - z) = y - z := IntWalk.i64_in _ (by omega)
        go_wp2_with fail
        go_quiet (fail)
        go_wp2_with fail
        go_roundw
        case rel => exact ⟨j + 1, by omega, by go_num, below_drewN hbel _⟩
        case measure => simp [intOf]; omega
      · have hE := Lib.hid (F8.out j hlt (by omega))
        clear hc1 hc2
        generalize (boxL x_x r).getD j 0 = x at hcx hE
        generalize (int1 x_x).getD j 0 = y at hcy hE hyb
        have e4 : ¬ (r : Int) ≤ (j : Int) := by omega
        have e5 : (x != y) = false := by rw [hE.out]; simp
        have e6 : IntKind.i64.wrap (y - 0) = y := by rw [Int.sub_zero]; exact IntWalk.i64_in _ (by omega)
        go_wp2_with fail
        go_quiet (fail)
        go_wp2_with fail
        go_roundw
        case rel => exact ⟨j + 1, by omega, by go_num, below_drewN hbel _⟩
        case measure => simp [intOf]; omega
    · have : j = n_x := by omega
      go_wp2_with fail
      go_ret
      exact ⟨rfl, bb.trans (hbel.mono (Nat.le_trans S1.out (Nat.le_trans S2.out (Nat.le_trans S3.out (Nat.le_trans S4.out (Nat.le_trans S5.out S6.out))))))⟩
end Go.Proofs.Ytfmjpbfciclkoaa
