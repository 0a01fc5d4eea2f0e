/- The walk of the law FnCoefs: it returns true and leaves what was there as it was. -/
import Derived.Test.YtfmjpbfciclkoaaPureG
import Derived.Test.YtfmjpbfciclkoaaLawP
import Derived.Test.YtfmjpbfciclkoaaDiff2
namespace Go.Proofs.Ytfmjpbfciclkoaa
open Go.RowKit
set_option linter.unusedVariables false
set_option maxRecDepth 100000 in
set_option maxHeartbeats 4000000 in
theorem fnCoefs_walk (a0 : Option Addr) (n0 c0 : Nat) (z0 : List Int) (w0 : World) (h : IsRow .u8 w0 a0 n0 c0 z0) :
    Calls Try.prog 5 #[.slice a0 n0 c0] w0 fun e w' => e = .returned (.bool true) ∧ Below w0.heap.size w0 w' := by
  have hle := h.le
  by_cases hn : n0 ≤ 1048576
  rotate_left
  · go_enter Try.func5, Try.ntmps5
    go_wp2_with fail
    go_ret
    exact ⟨rfl, Below.refl _ _⟩
  have s_code := h.bsl hn
  clear h hle
  have bb := Below.refl w0.heap.size w0
  go_enter Try.func5, Try.ntmps5
  go_wp2_with fail
  refine (at_any _ _ _ _ 1 _ s_code (by omega)).mono ?_
  rintro e w' ⟨a, a0, a1, rfl, rfl⟩
  obtain ⟨r1, hr⟩ := Int.eq_ofNat_of_zero_le (Int.emod_nonneg a (show (6 : Int) ≠ 0 by omega))
  have hr6 : r1 < 6 := by have := Int.emod_lt_of_pos a (show (0 : Int) < 6 by omega); omega
  have hrr : 1 + (r1 : Int) = ((r1 + 1 : Nat) : Int) := by omega
  obtain ⟨k, hrn⟩ : ∃ k, r1 + 1 = k := ⟨_, rfl⟩
  rw [hrn] at hrr
  have h1k : 1 ≤ k := by omega
  have h6k : k ≤ 6 := by omega
  clear hrn hr6
  obtain ⟨f1, f2, f3, f4, f5, f6, f7⟩ := coefs_k h1k h6k
  have f8 := coefs_lenk (k := k - 1) (by omega)
  obtain ⟨H, hH⟩ : ∃ H, Hid (coefs (k : Int) = H) := ⟨_, rfl⟩
  obtain ⟨G, hG⟩ : ∃ G, Hid (coefs ((k - 1 : Nat) : Int) = G) := ⟨_, rfl⟩
  rw [hH.out] at f1 f2 f3
  simp only [hH.out, hG.out] at f4 f5 f6 f7 f8
  have F1 := Lib.hid f1
  have F2 := Lib.hid f2
  have F3 := Lib.hid f3
  have F4 := Lib.hid f4
  have F5 := Lib.hid f5
  have F6 := Lib.hid f6
  have F7 := Lib.hid f7
  have F8 := Lib.hid f8
  clear f1 f2 f3 f4 f5 f6 f7 f8
  go_wp2_with fail
  refine (coefs_i (k : Int) _ (by constructor <;> omega)).mono ?_
  rw [hH.out]
  rintro e w1 ⟨a_h, n_h, c_h, rfl, o_h, b⟩
  have S1 := Lib.hid b.size
  replace s_code := s_code.keep (b.mono (Nat.le_refl _))
  replace bb := bb.trans (b.mono (Nat.le_refl _))
  clear b
  have hn_h : n_h ≤ 1048576 := by rw [← o_h.len, F1.out]; omega
  have n1 : n_h ≤ k + 1 := by rw [← o_h.len, F1.out]; omega
  have n2 : k + 1 ≤ n_h := by rw [← o_h.len, F1.out]; omega
  have e0 : ((n_h : Int) != (k : Int) + 1) = false := by rw [bne_eq_false_iff_eq]; omega
  have sh := ((o_h.sl hn_h).more (Nat.le_refl _))
  obtain ⟨b1, off1, rfl, hb1, hc1⟩ := sh.at_ (by omega)
  have hcz := hc1 0 (by omega)
  rw [F2.out, Nat.add_zero] at hcz
  clear hc1
  go_wp2_with fail
  refine (sumOf_i _ _ _ H _ sh).mono ?_
  rw [F3.out]
  rintro e w' ⟨rfl, rfl⟩
  clear hcz e0 sh
  go_wp2_with fail
  refine (coefs_i 0 _ (by constructor <;> omega)).mono ?_
  rintro e w2 ⟨a_z, n_z, c_z, rfl, o_z, b⟩
  have S2 := Lib.hid b.size
  replace o_h := o_h.keep b (Nat.le_refl _)
  replace s_code := s_code.keep (b.mono (S1.out))
  replace bb := bb.trans (b.mono (S1.out))
  clear b
  have hn_z : n_z ≤ 1048576 := by rw [← o_z.len, coefs_len0]; omega
  obtain rfl : 1 = n_z := by rw [← o_z.len, coefs_len0]
  clear o_z
  go_wp2_with fail
  refine (coefs_i 7 _ (by constructor <;> omega)).mono ?_
  rintro e w3 ⟨a_y, n_y, c_y, rfl, o_y, b⟩
  have S3 := Lib.hid b.size
  replace o_h := o_h.keep b (S2.out)
  replace s_code := s_code.keep (b.mono (Nat.le_trans S1.out S2.out))
  replace bb := bb.trans (b.mono (Nat.le_trans S1.out S2.out))
  clear b
  have hn_y : n_y ≤ 1048576 := by rw [← o_y.len, coefs_len7]; omega
  obtain rfl : 0 = n_y := by rw [← o_y.len, coefs_len7]
  clear o_y
  have sh := ((o_h.sl hn_h).more (Nat.le_trans S2.out S3.out))
  have hkm : (k : Int) - 1 = ((k - 1 : Nat) : Int) := by omega
  clear o_h
  by_cases hp : k % 2 = 1
  · have P := Lib.hid hp; clear hp
    have q0 : ((k : Int) % 2 == 1) = true := by rw [beq_iff_eq]; have := P.out; omega
    go_wp2_with fail
    go_loopw [6, 49] (fun _ i wr => ∃ j : Nat, j ≤ n_h ∧ i = .int .i64 j ∧ Below w3.heap.size w3 wr) (fun _ i _ => n_h - (intOf i).toNat)
    case atStart => exact ⟨0, Nat.zero_le _, rfl, Below.refl _ _⟩
    case round =>
      obtain ⟨j, hj, rfl, hbel⟩ := hrel
      by_cases hlt : j < n_h
      · obtain ⟨b1, off1, e, hb1, hc1⟩ := sh.at_ (by omega)
        cases e
        have hcx := (hbel.cell (p := ⟨b1, off1 + j, none⟩) hb1).trans (hc1 j hlt)
        have hcy := (hbel.cell (p := ⟨b1, off1 + (k - j), none⟩) hb1).trans (hc1 (k - j) (by omega))
        have hyb := F6.out (k - j)
        have hE := Lib.hid (F4.out j (by omega))
        simp only [P.out, if_true] at hE
        clear hc1
        have e1 : (0 : Int) ≤ (j : Int) := by omega
        have e2 : (j : Int) < (n_h : Int) := by omega
        have e3 : ((k : Int) - (j : Int)).toNat = k - j := by omega
        generalize H.getD j 0 = x at hcx hE
        generalize H.getD (k - j) 0 = y at hcy hE hyb
        have e5 : (x != -y) = false := by rw [hE.out]; simp
        have e6 : IntKind.i64.wrap (-1 * y) = -y := by rw [show -1 * y = -y by omega]; exact IntWalk.i64_in _ (by omega)
        have e7 : IntKind.i64.wrap (-y) = -y := IntWalk.i64_in _ (by omega)
        go_wp2_with fail
        go_quiet (fail)
        go_wp2_with fail
        go_roundw
        case rel => exact ⟨j + 1, by omega, by go_num, below_drewN hbel _⟩
        case measure => simp [intOf]; omega
      · obtain rfl : n_h = j := by omega
        go_wp2_with fail
        refine (coefs_i ((k - 1 : Nat) : Int) _ (by constructor <;> omega)).mono ?_
        rw [hG.out]
        rintro e w9 ⟨a_g, n_g, c_g, rfl, o_g, b⟩
        have hs9 : Hid (w3.heap.size ≤ w9.heap.size) := Nat.le_trans hbel.size b.size
        have bel9 := hbel.trans (b.mono hbel.size)
        have sh9 := sh.keep bel9
        have m1 : n_g ≤ k := by rw [← o_g.len, F8.out]; omega
        have m2 : k ≤ n_g := by rw [← o_g.len, F8.out]; omega
        have sg9 := o_g.sl (by omega)
        have bb9 := bb.trans (bel9.mono (Nat.le_trans S1.out (Nat.le_trans S2.out S3.out)))
        clear b o_g hbel sh bel9 hkm
        go_wp2_with fail
        go_loopw [8] (fun i wr => ∃ j : Nat, 1 ≤ j ∧ j ≤ k ∧ i = .int .i64 j ∧ Below w9.heap.size w9 wr) (fun i _ => k - (intOf i).toNat)
        case atStart => exact ⟨1, Nat.le_refl _, h1k, rfl, Below.refl _ _⟩
        case round =>
          obtain ⟨j, h1j, hj, rfl, hbel⟩ := hrel
          by_cases hlt : j < k
          · obtain ⟨b1, off1, e, hb1, hc1⟩ := sh9.at_ (by omega)
            cases e
            obtain ⟨b2, off2, e, hb2, hc2⟩ := sg9.at_ (by omega)
            cases e
            have hb1' : b1 < w9.heap.size := Nat.lt_of_lt_of_le hb1 hs9.out
            have hcx := (hbel.cell (p := ⟨b1, off1 + j, none⟩) hb1').trans (hc1 j (by omega))
            have hcy := (hbel.cell (p := ⟨b2, off2 + j, none⟩) hb2).trans (hc2 j (by omega))
            have hcz := (hbel.cell (p := ⟨b2, off2 + (j - 1), none⟩) hb2).trans (hc2 (j - 1) (by omega))
            have hyb := F7.out j
            have hzb := F7.out (j - 1)
            have hE := Lib.hid (F5.out j h1j hlt)
            clear hc1 hc2
            have e1 : (0 : Int) ≤ (j : Int) := by omega
            have e2 : (j : Int) < (k : Int) := by omega
            have e3 : ((j : Int) - 1).toNat = j - 1 := by omega
            generalize H.getD j 0 = x at hcx hE
            generalize G.getD j 0 = y at hcy hE hyb
            generalize G.getD (j - 1) 0 = z at hcz hE hzb
            have e5 : (x != y - z) = false := by rw [hE.out]; simp
            have e6 : IntKind.i64.wrap (y - z) = y - z := IntWalk.i64_in _ (by omega)
            go_wp2_with fail
            go_quiet (fail)
            go_wp2_with fail
            go_roundw
            case rel => exact ⟨j + 1, by omega, by omega, by go_num, below_drewN hbel _⟩
            case measure => simp [intOf]; omega
          · have : j = k := by omega
            go_wp2_with fail
            go_ret
            exact ⟨rfl, bb9.trans (hbel.mono (Nat.le_trans (Nat.le_trans S1.out (Nat.le_trans S2.out S3.out)) hs9.out))⟩
  · have P := Lib.hid hp; clear hp
    have q0 : ((k : Int) % 2 == 1) = false := by rw [beq_eq_false_iff_ne]; have := P.out; omega
    go_wp2_with fail
    go_loopw [6, 49] (fun _ i wr => ∃ j : Nat, j ≤ n_h ∧ i = .int .i64 j ∧ Below w3.heap.size w3 wr) (fun _ i _ => n_h - (intOf i).toNat)
    case atStart => exact ⟨0, Nat.zero_le _, rfl, Below.refl _ _⟩
    case round =>
      obtain ⟨j, hj, rfl, hbel⟩ := hrel
      by_cases hlt : j < n_h
      · obtain ⟨b1, off1, e, hb1, hc1⟩ := sh.at_ (by omega)
        cases e
        have hcx := (hbel.cell (p := ⟨b1, off1 + j, none⟩) hb1).trans (hc1 j hlt)
        have hcy := (hbel.cell (p := ⟨b1, off1 + (k - j), none⟩) hb1).trans (hc1 (k - j) (by omega))
        have hyb := F6.out (k - j)
        have hE := Lib.hid (F4.out j (by omega))
        simp only [P.out, if_false] at hE
        clear hc1
        have e1 : (0 : Int) ≤ (j : Int) := by omega
        have e2 : (j : Int) < (n_h : Int) := by omega
        have e3 : ((k : Int) - (j : Int)).toNat = k - j := by omega
        generalize H.getD j 0 = x at hcx hE
        generalize H.getD (k - j) 0 = y at hcy hE hyb
        have e5 : (x != y) = false := by rw [hE.out]; simp
        have e6 : IntKind.i64.wrap (1 * y) = y := by rw [Int.one_mul]; exact IntWalk.i64_in _ (by omega)
        go_wp2_with fail
        go_quiet (fail)
        go_wp2_with fail
        go_roundw
        case rel => exact ⟨j + 1, by omega, by go_num, below_drewN hbel _⟩
        case measure => simp [intOf]; omega
      · obtain rfl : n_h = j := by omega
        go_wp2_with fail
        refine (coefs_i ((k - 1 : Nat) : Int) _ (by constructor <;> omega)).mono ?_
        rw [hG.out]
        rintro e w9 ⟨a_g, n_g, c_g, rfl, o_g, b⟩
        have hs9 : Hid (w3.heap.size ≤ w9.heap.size) := Nat.le_trans hbel.size b.size
        have bel9 := hbel.trans (b.mono hbel.size)
        have sh9 := sh.keep bel9
        have m1 : n_g ≤ k := by rw [← o_g.len, F8.out]; omega
        have m2 : k ≤ n_g := by rw [← o_g.len, F8.out]; omega
        have sg9 := o_g.sl (by omega)
        have bb9 := bb.trans (bel9.mono (Nat.le_trans S1.out (Nat.le_trans S2.out S3.out)))
        clear b o_g hbel sh bel9 hkm
        go_wp2_with fail
        go_loopw [8] (fun i wr => ∃ j : Nat, 1 ≤ j ∧ j ≤ k ∧ i = .int .i64 j ∧ Below w9.heap.size w9 wr) (fun i _ => k - (intOf i).toNat)
        case atStart => exact ⟨1, Nat.le_refl _, h1k, rfl, Below.refl _ _⟩
        case round =>
          obtain ⟨j, h1j, hj, rfl, hbel⟩ := hrel
          by_cases hlt : j < k
          · obtain ⟨b1, off1, e, hb1, hc1⟩ := sh9.at_ (by omega)
            cases e
            obtain ⟨b2, off2, e, hb2, hc2⟩ := sg9.at_ (by omega)
            cases e
            have hb1' : b1 < w9.heap.size := Nat.lt_of_lt_of_le hb1 hs9.out
            have hcx := (hbel.cell (p := ⟨b1, off1 + j, none⟩) hb1').trans (hc1 j (by omega))
            have hcy := (hbel.cell (p := ⟨b2, off2 + j, none⟩) hb2).trans (hc2 j (by omega))
            have hcz := (hbel.cell (p := ⟨b2, off2 + (j - 1), none⟩) hb2).trans (hc2 (j - 1) (by omega))
            have hyb := F7.out j
            have hzb := F7.out (j - 1)
            have hE := Lib.hid (F5.out j h1j hlt)
            clear hc1 hc2
            have e1 : (0 : Int) ≤ (j : Int) := by omega
            have e2 : (j : Int) < (k : Int) := by omega
            have e3 : ((j : Int) - 1).toNat = j - 1 := by omega
            generalize H.getD j 0 = x at hcx hE
            generalize G.getD j 0 = y at hcy hE hyb
            generalize G.getD (j - 1) 0 = z at hcz hE hzb
            have e5 : (x != y - z) = false := by rw [hE.out]; simp
            have e6 : IntKind.i64.wrap (y - z) = y - z := IntWalk.i64_in _ (by omega)
            go_wp2_with fail
            go_quiet (fail)
            go_wp2_with fail
            go_roundw
            case rel => exact ⟨j + 1, by omega, by omega, by go_num, below_drewN hbel _⟩
            case measure => simp [intOf]; omega
          · have : j = k := by omega
            go_wp2_with fail
            go_ret
            exact ⟨rfl, bb9.trans (hbel.mono (Nat.le_trans (Nat.le_trans S1.out (Nat.le_trans S2.out S3.out)) hs9.out))⟩
end Go.Proofs.Ytfmjpbfciclkoaa
