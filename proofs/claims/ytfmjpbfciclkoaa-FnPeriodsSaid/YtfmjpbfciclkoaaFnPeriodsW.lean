/- The walk of the law FnPeriods: it returns true and leaves what was there as it was. -/
import Derived.Test.YtfmjpbfciclkoaaPureP3
import Derived.Test.YtfmjpbfciclkoaaLawP
namespace Go.Proofs.Ytfmjpbfciclkoaa
open Go.RowKit
set_option linter.unusedVariables false
set_option maxRecDepth 100000 in
set_option maxHeartbeats 4000000 in
theorem fnPeriods_walk (a0 : Option Addr) (n0 c0 : Nat) (z0 : List Int) (w0 : World) (h : IsRow .u8 w0 a0 n0 c0 z0) :
    Calls Try.prog 8 #[.slice a0 n0 c0] w0 fun e w' => e = .returned (.bool true) ∧ Below w0.heap.size w0 w' := by
  have hle := h.le
  by_cases hn : n0 ≤ 1048576
  rotate_left
  · go_enter Try.func8, Try.ntmps8
    go_wp2_with fail
    go_ret
    exact ⟨rfl, Below.refl _ _⟩
  have s_code := h.bsl hn
  clear h hle
  have bb := Below.refl w0.heap.size w0
  go_enter Try.func8, Try.ntmps8
  go_wp2_with fail
  refine (mkSeq_any _ _ _ 12 2 _ (s_code.more (Nat.le_refl _)) (by omega) (by omega) (by omega)).mono ?_
  rintro e w1 ⟨a_x, n_x, c_x, x_x, rfl, o_x, l_x, i_x, j_x, b⟩
  have S1 := Lib.hid b.size
  replace s_code := s_code.keep (b.mono (Nat.le_refl _))
  replace bb := bb.trans (b.mono (Nat.le_refl _))
  clear b
  have hn_x : n_x ≤ 1048576 := by omega
  go_wp2_with fail
  refine (at_any _ _ _ _ 1 _ s_code (by omega)).mono ?_
  rintro e w' ⟨a, a0, a1, rfl, rfl⟩
  obtain ⟨r1, hr⟩ := Int.eq_ofNat_of_zero_le (Int.emod_nonneg a (show (4 : Int) ≠ 0 by omega))
  have hr6 : r1 < 4 := by have := Int.emod_lt_of_pos a (show (0 : Int) < 4 by omega); omega
  have hrr : 2 + (r1 : Int) = ((r1 + 2 : Nat) : Int) := by omega
  obtain ⟨k, hrn⟩ : ∃ k, r1 + 2 = k := ⟨_, rfl⟩
  rw [hrn] at hrr
  have h2k : 2 ≤ k := by omega
  have h5k : k ≤ 5 := by omega
  clear hrn hr6
  have lx := o_x.len
  obtain ⟨⟨f1, f2⟩, f3, f4, f5, f6, f7, f8⟩ := periods_facts (xs := x_x) (k := k) (by omega) i_x h2k h5k
  have f9 := repL_length x_x k
  obtain ⟨Y, hY⟩ : ∃ Y, Hid (repL x_x k = Y) := ⟨_, rfl⟩
  obtain ⟨u, hu⟩ : ∃ u, Hid (sumOf x_x = u) := ⟨_, rfl⟩
  rw [hY.out] at f2 f3 f6 f7 f9
  simp only [hY.out] at f8
  rw [hu.out] at f3 f4
  rw [lx] at f5 f6 f7 f9
  have hku := mul_abs (a := (k : Int)) (b := u) (A := 5) (B := 24) (by omega) (by omega)
  have hl60 : n_x * k ≤ 60 := by have := Nat.mul_le_mul l_x h5k; omega
  have F1 := Lib.hid f1
  have F2 := Lib.hid f2
  have F3 := Lib.hid f3
  have F5 := Lib.hid f5
  have F6 := Lib.hid f6
  have F7 := Lib.hid f7
  have F8 := Lib.hid f8
  have F9 := Lib.hid f9
  clear f1 f2 f3 f5 f6 f7 f8 f9 lx
  go_wp2_with fail
  refine (repeat_i _ _ _ x_x (k : Int) _ ((o_x.sl hn_x).more (Nat.le_refl _)) (by constructor <;> omega)).mono ?_
  rw [F1.out, F2.out]
  rintro e w2 ⟨a_y, n_y, c_y, rfl, o_y, b⟩
  have S2 := Lib.hid b.size
  replace o_x := o_x.keep b (Nat.le_refl _)
  replace s_code := s_code.keep (b.mono (S1.out))
  replace bb := bb.trans (b.mono (S1.out))
  clear b
  have hn_y : n_y ≤ 1048576 := by rw [← o_y.len, F9.out]; omega
  have hpx : 0 ≤ (k : Int) * (n_x : Int) ∧ (k : Int) * (n_x : Int) ≤ 60 := by rw [← Int.natCast_mul, Nat.mul_comm]; omega
  have ey : Hid (n_y = n_x * k) := by show _ = _; rw [← o_y.len, F9.out]
  have e0 : ((n_y : Int) != (k : Int) * (n_x : Int)) = false := by rw [bne_eq_false_iff_eq, ey.out, Int.natCast_mul]; exact Int.mul_comm _ _
  have hy60 : n_y ≤ 60 := by rw [ey.out]; exact hl60
  by_cases hx0 : n_x = 0
  · have X0 := Lib.hid hx0; have z0 : n_x ≤ 0 := by omega
    have z1 : ((n_x : Int) == 0) = true := by rw [beq_iff_eq]; omega
    have F6' := Lib.hid (F6.out hx0)
    clear hx0
    go_wp2_with fail
    refine (period_i _ _ _ Y _ ((o_y.sl hn_y).more (Nat.le_refl _))).mono ?_
    rw [F6'.out]
    rintro e w3 ⟨rfl, b⟩
    have S3 := Lib.hid b.size
    replace o_x := o_x.keep b (S2.out)
    replace o_y := o_y.keep b (Nat.le_refl _)
    replace s_code := s_code.keep (b.mono (Nat.le_trans S1.out S2.out))
    replace bb := bb.trans (b.mono (Nat.le_trans S1.out S2.out))
    clear b
    have o5 : Own (w3.alloc (.cells #[.int .i64 5] 3)) w3.heap.size (w3.alloc (.cells #[.int .i64 5] 3)).heap.size (some ⟨w3.heap.size, 0, none⟩) 1 1 [5] :=
      Own.of ⟨by simp [Ints], .inr ⟨w3.heap.size, 1, #[.int .i64 5], rfl, Nat.le_refl _, heap_alloc_new w3 _, Nat.le_refl _, by unfold maxLen; omega, rfl, rfl⟩⟩
    have s5 := o5.sl (by omega)
    clear o5
    go_wp2_with fail
    refine (period_i _ _ _ [5] _ s5).mono ?_
    rw [period_five]
    rintro e w9 ⟨rfl, b⟩
    have b9 := box_then b
    go_wp2_with fail
    go_ret
    exact ⟨rfl, bb.trans (b9.mono (Nat.le_trans S1.out (Nat.le_trans S2.out S3.out)))⟩
  · have z0 : 1 ≤ n_x := by omega
    have z1 : ((n_x : Int) == 0) = false := by rw [beq_eq_false_iff_ne]; omega
    obtain ⟨p1, p2, p3, p4⟩ := F7.out z0
    clear hx0
    go_wp2_with fail
    refine (period_i _ _ _ Y _ ((o_y.sl hn_y).more (Nat.le_refl _))).mono ?_
    obtain ⟨p, hp⟩ : ∃ p, Hid (period Y = p) := ⟨_, rfl⟩
    rw [hp.out] at p1 p2 p3 p4 ⊢
    have P3 := Lib.hid p3
    have P4 := Lib.hid p4
    clear p3 p4
    rintro e w3 ⟨rfl, b⟩
    have S3 := Lib.hid b.size
    replace o_x := o_x.keep b (S2.out)
    replace o_y := o_y.keep b (Nat.le_refl _)
    replace s_code := s_code.keep (b.mono (Nat.le_trans S1.out S2.out))
    replace bb := bb.trans (b.mono (Nat.le_trans S1.out S2.out))
    clear b
    have q1 : ¬ ((p : Int) < 1) := by omega
    have q2 : ¬ ((n_x : Int) < (p : Int)) := by omega
    have q3 : ((n_x : Int) % (p : Int) != 0) = false := by rw [bne_eq_false_iff_eq, ← Int.natCast_emod, P3.out]; rfl
    have q5 : ((p : Int) == 0) = false := by rw [beq_eq_false_iff_ne]; omega
    have q4 : (0 : Int) < (p : Int) := by omega
    have sx := ((o_x.sl hn_x).more (Nat.le_trans S2.out S3.out))
    have sy := ((o_y.sl hn_y).more (S3.out))
    clear o_x
    clear o_y
    have hpy : p ≤ n_y := by rw [ey.out]; exact Nat.le_trans p2 (Nat.le_mul_of_pos_right _ (by omega))
    go_wp2_with fail
    go_loopw [8] (fun i wr => ∃ j : Nat, p ≤ j ∧ j ≤ n_y ∧ i = .int .i64 j ∧ Below w3.heap.size w3 wr) (fun i _ => n_y - (intOf i).toNat)
    case atStart => exact ⟨p, Nat.le_refl _, hpy, rfl, Below.refl _ _⟩
    case round =>
      obtain ⟨j, h1j, hj, rfl, hbel⟩ := hrel
      by_cases hlt : j < n_y
      · obtain ⟨b1, off1, e, hb1, hc1⟩ := sy.at_ (by omega)
        cases e
        have hcx := (hbel.cell (p := ⟨b1, off1 + j, none⟩) hb1).trans (hc1 j hlt)
        have hcy := (hbel.cell (p := ⟨b1, off1 + (j - p), none⟩) hb1).trans (hc1 (j - p) (by omega))
        have hE := Lib.hid (P4.out j h1j (by rw [← ey.out]; exact hlt))
        clear hc1
        have e1 : (0 : Int) ≤ (j : Int) := by omega
        have e2 : (j : Int) < (n_y : Int) := by omega
        have e3 : ((j : Int) - (p : Int)).toNat = j - p := by omega
        generalize Y.getD j 0 = x at hcx hE
        generalize Y.getD (j - p) 0 = y at hcy hE
        have e5 : (x != y) = false := by rw [hE.out]; simp
        go_wp2_with fail
        go_quiet (fail)
        go_wp2_with fail
        go_roundw
        case rel => exact ⟨j + 1, by omega, by omega, by go_num, below_drewN hbel _⟩
        case measure => simp [intOf]; omega
      · have : n_y ≤ j := by omega
        have sx9 := (sx.keep hbel).more hbel.size
        have hpx2 : period x_x ≤ n_x := F5.out
        obtain ⟨q, hq⟩ : ∃ q, Hid (period x_x = q) := ⟨_, rfl⟩
        rw [hq.out] at hpx2
        have bb2 := bb.trans (hbel.mono (Nat.le_trans S1.out (Nat.le_trans S2.out S3.out)))
        have hs2 := hbel.size
        go_wp2_with fail
        refine (period_i _ _ _ x_x _ sx9).mono ?_
        rw [hq.out]
        rintro e w9 ⟨rfl, b⟩
        have sx10 := (sx9.keep b).more b.size
        have sy10 := ((sy.keep (hbel.trans (b.mono hs2))).more (Nat.le_trans hs2 b.size))
        have bb3 := bb2.trans (b.mono bb2.size)
        clear b hbel bb2 sx9 sx sy
        have m1 : (q : Int) ≤ (n_x : Int) := by omega
        have m2 : (p : Int) ≤ (n_x : Int) := by omega
        have e9 : ((k : Int) * u == (k : Int) * u) = true := by rw [beq_iff_eq]
        go_wp2_with fail
        all_goals
          refine (sumOf_i _ _ _ Y _ sy10).mono ?_
          rw [F3.out]
          rintro e w' ⟨rfl, rfl⟩
          go_wp2_with fail
          refine (sumOf_i _ _ _ x_x _ sx10).mono ?_
          rw [hu.out]
          rintro e w' ⟨rfl, rfl⟩
          go_wp2_with fail
          go_ret
          exact ⟨rfl, bb3⟩
end Go.Proofs.Ytfmjpbfciclkoaa
