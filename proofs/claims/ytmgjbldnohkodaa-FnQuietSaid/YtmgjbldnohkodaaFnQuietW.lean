/- The walk of the law FnQuiet: it returns true and leaves what was there as it was. -/
import Derived.Test.YtmgjbldnohkodaaPureN2
import Derived.Test.YtmgjbldnohkodaaLawQ
import Derived.Test.YtmgjbldnohkodaaMod5
import Derived.Test.YtmgjbldnohkodaaMod4
import Derived.Test.YtmgjbldnohkodaaQuiet
namespace Go.Proofs.Ytmgjbldnohkodaa
open Go.RowKit
set_option linter.unusedVariables false
set_option maxRecDepth 100000 in
set_option maxHeartbeats 4000000 in
theorem fnQuiet_walk (a0 : Option Addr) (n0 c0 : Nat) (z0 : List Int) (w0 : World) (h : IsRow .u8 w0 a0 n0 c0 z0) :
    Calls Try.prog 3 #[.slice a0 n0 c0] w0 fun e w' => e = .returned (.bool true) ∧ Below w0.heap.size w0 w' := by
  have hle := h.le
  by_cases hn : n0 ≤ 1048576
  rotate_left
  · go_enter Try.func3, Try.ntmps3
    go_wp2_with fail
    go_ret
    exact ⟨rfl, Below.refl _ _⟩
  have s_code := h.bsl hn
  clear h hle
  have bb := Below.refl w0.heap.size w0
  go_enter Try.func3, Try.ntmps3
  go_wp2_with fail
  refine (mkM_any _ _ _ _ (s_code.more (Nat.le_refl _))).mono ?_
  rintro e w1 ⟨l, s, a_m, n_m, c_m, cs, hl2, hl6, hs, hm, hc, rfl, o_m, b⟩
  have S1 := Lib.hid b.size
  replace s_code := s_code.keep (b.mono (Nat.le_refl _))
  replace bb := bb.trans (b.mono (Nat.le_refl _))
  clear b
  have hn_m : n_m ≤ 1048576 := by rw [← o_m.len]; have := (isMod_true hm).2.2.1; omega
  have hsb := smallS_bd hs
  have hN6 : n_m ≤ 6 := by rw [← o_m.len]; exact (isMod_true hm).2.2.1
  have hN1 : 1 ≤ n_m := by rw [← o_m.len]; exact (isMod_true hm).2.1
  have HM := Lib.hid hm
  have HC := Lib.hid hc
  clear hs hm hc
  have b := box_below w1 (.cells #[.int .i64 l, .int .i64 s, .slice a_m n_m c_m] 27)
  have c_M_0 : (w1.alloc (.cells #[.int .i64 l, .int .i64 s, .slice a_m n_m c_m] 27)).cell? ⟨w1.heap.size, 0, none⟩ = some (.int .i64 l) := by simp [go_sem]
  have c_M_1 : (w1.alloc (.cells #[.int .i64 l, .int .i64 s, .slice a_m n_m c_m] 27)).cell? ⟨w1.heap.size, 1, none⟩ = some (.int .i64 s) := by simp [go_sem]
  have c_M_2 : (w1.alloc (.cells #[.int .i64 l, .int .i64 s, .slice a_m n_m c_m] 27)).cell? ⟨w1.heap.size, 2, none⟩ = some (.slice a_m n_m c_m) := by simp [go_sem]
  go_wp2_with fail
  have z_M : w1.heap.size < (w1.alloc (.cells #[.int .i64 l, .int .i64 s, .slice a_m n_m c_m] 27)).heap.size := by simp
  generalize hgw : (w1.alloc (.cells #[.int .i64 l, .int .i64 s, .slice a_m n_m c_m] 27)) = w2 at c_M_0 c_M_1 c_M_2 z_M b ⊢
  clear hgw 
  have S2 := Lib.hid b.size
  replace o_m := o_m.keep b (Nat.le_refl _)
  replace s_code := s_code.keep (b.mono (S1.out))
  replace bb := bb.trans (b.mono (S1.out))
  clear b
  go_wp2_with fail
  have S3 : Hid (w2.heap.size ≤ w2.drew.heap.size) := Nat.le_refl _
  replace o_m := o_m.drew
  replace c_M_0 : w2.drew.cell? ⟨w1.heap.size, 0, none⟩ = some (.int .i64 l) := c_M_0
  replace c_M_1 : w2.drew.cell? ⟨w1.heap.size, 1, none⟩ = some (.int .i64 s) := c_M_1
  replace c_M_2 : w2.drew.cell? ⟨w1.heap.size, 2, none⟩ = some (.slice a_m n_m c_m) := c_M_2
  replace bb := bb.drew
  replace s_code := s_code.drew
  go_region_held3 (fun w' => w'.cell? ⟨w1.heap.size, 0, none⟩ = some (.int .i64 l) ∧ w'.cell? ⟨w1.heap.size, 1, none⟩ = some (.int .i64 s) ∧ w'.cell? ⟨w1.heap.size, 2, none⟩ = some (.slice a_m n_m c_m)) (go_keep) (first | (go_at_call 15; refine (fresh_any _ _ _ 3 _ (s_code.more (Nat.le_trans S1.out (Nat.le_trans S2.out S3.out))) (by omega)).mono ?_; rintro e w4 ⟨a_f, n_f, c_f, rfl, s_f, b⟩; have S4 := Lib.hid b.size; replace o_m := o_m.keep b (Nat.le_trans S2.out S3.out); replace c_M_0 := (b.cell (p := ⟨w1.heap.size, 0, none⟩) (Nat.lt_of_lt_of_le z_M (S3.out))).trans c_M_0; replace c_M_1 := (b.cell (p := ⟨w1.heap.size, 1, none⟩) (Nat.lt_of_lt_of_le z_M (S3.out))).trans c_M_1; replace c_M_2 := (b.cell (p := ⟨w1.heap.size, 2, none⟩) (Nat.lt_of_lt_of_le z_M (S3.out))).trans c_M_2; replace s_code := s_code.keep (b.mono (Nat.le_trans S1.out (Nat.le_trans S2.out S3.out))); replace bb := bb.trans (b.mono (Nat.le_trans S1.out (Nat.le_trans S2.out S3.out))); clear b) | (go_at_call 14; refine (mkMem_any l s _ _ _ _ _ _ _ (s_f.more (Nat.le_refl _)) (by omega) (by omega)).mono ?_; rintro e w5 ⟨a_k, c_k, x_k, rfl, o_k, w_k, b⟩; have S5 := Lib.hid b.size; replace o_m := o_m.keep b (Nat.le_trans S2.out (Nat.le_trans S3.out S4.out)); replace c_M_0 := (b.cell (p := ⟨w1.heap.size, 0, none⟩) (Nat.lt_of_lt_of_le z_M (Nat.le_trans S3.out S4.out))).trans c_M_0; replace c_M_1 := (b.cell (p := ⟨w1.heap.size, 1, none⟩) (Nat.lt_of_lt_of_le z_M (Nat.le_trans S3.out S4.out))).trans c_M_1; replace c_M_2 := (b.cell (p := ⟨w1.heap.size, 2, none⟩) (Nat.lt_of_lt_of_le z_M (Nat.le_trans S3.out S4.out))).trans c_M_2; replace s_code := s_code.keep (b.mono (Nat.le_trans S1.out (Nat.le_trans S2.out (Nat.le_trans S3.out S4.out)))); replace s_f := s_f.keep (b.mono (Nat.le_refl _)); replace bb := bb.trans (b.mono (Nat.le_trans S1.out (Nat.le_trans S2.out (Nat.le_trans S3.out S4.out)))); clear b))
  have hn_k : n_m ≤ 1048576 := by omega
  clear s_f
  have e1 : IntKind.i64.wrap (2 * s) = 2 * s := IntWalk.i64_in _ (by omega)
  have e2 : IntKind.i64.wrap (2 * s + 1) = 2 * s + 1 := IntWalk.i64_in _ (by omega)
  have e3 : ¬ (2 * s + 1 = 0) := by omega
  have e4 : ¬ (2 * s + 1 = -1) := by omega
  go_wp2_with fail
  have S6 : Hid (w5.heap.size ≤ w5.drew.heap.size) := Nat.le_refl _
  replace o_m := o_m.drew
  replace c_M_0 : w5.drew.cell? ⟨w1.heap.size, 0, none⟩ = some (.int .i64 l) := c_M_0
  replace c_M_1 : w5.drew.cell? ⟨w1.heap.size, 1, none⟩ = some (.int .i64 s) := c_M_1
  replace c_M_2 : w5.drew.cell? ⟨w1.heap.size, 2, none⟩ = some (.slice a_m n_m c_m) := c_M_2
  replace o_k := o_k.drew
  replace bb := bb.drew
  replace s_code := s_code.drew
  go_region_held3 (fun w' => w'.cell? ⟨w1.heap.size, 1, none⟩ = some (.int .i64 s)) (go_keep) (first | (go_at_call 16; refine (at_any _ _ _ _ 1 _ s_code (by omega)).mono ?_; rintro e w' ⟨a, a0, a1, rfl, rfl⟩; have hm0 : 0 ≤ a.tmod (2 * s + 1) := Int.tmod_nonneg _ a0; have hm1 : a.tmod (2 * s + 1) < 2 * s + 1 := Int.tmod_lt_of_pos a (by omega); have e5 : IntKind.i64.wrap (a.tmod (2 * s + 1) - s) = a.tmod (2 * s + 1) - s := IntWalk.i64_in _ (by omega)))
  generalize hv : a.tmod (2 * s + 1) - s = v
  have hv0 : -s ≤ v ∧ v ≤ s := by omega
  have hwv : Wf v := by constructor <;> omega
  clear e1 e2 e3 e4
  go_wp2_with fail
  refine (at_any _ _ _ _ 2 _ s_code (by omega)).mono ?_
  rintro e w' ⟨a2, a20, a21, rfl, rfl⟩
  obtain ⟨n, hn⟩ := Int.eq_ofNat_of_zero_le (Int.emod_nonneg a2 (show (120 : Int) ≠ 0 by omega))
  have hn120 : n ≤ 119 := by have := Int.emod_lt_of_pos a2 (show (0 : Int) < 120 by omega); omega
  clear s_code
  have hwn : Wf (n : Int) := by constructor <;> omega
  go_wp2_with fail
  refine (quiet_i l s _ _ _ _ _ _ cs x_k v (n : Int) _ ((o_m.sl hn_m).more (Nat.le_trans S2.out (Nat.le_trans S3.out (Nat.le_trans S4.out (Nat.le_trans S5.out S6.out))))) ((o_k.sl hn_k).more (S6.out)) hwv hwn).mono ?_
  rintro e w7 ⟨qi, qp, qb, rfl, hQ, b⟩
  have S7 := Lib.hid b.size
  replace o_m := o_m.keep b (Nat.le_trans S2.out (Nat.le_trans S3.out (Nat.le_trans S4.out (Nat.le_trans S5.out S6.out))))
  replace c_M_0 := (b.cell (p := ⟨w1.heap.size, 0, none⟩) (Nat.lt_of_lt_of_le z_M (Nat.le_trans S3.out (Nat.le_trans S4.out (Nat.le_trans S5.out S6.out))))).trans c_M_0
  replace c_M_1 := (b.cell (p := ⟨w1.heap.size, 1, none⟩) (Nat.lt_of_lt_of_le z_M (Nat.le_trans S3.out (Nat.le_trans S4.out (Nat.le_trans S5.out S6.out))))).trans c_M_1
  replace c_M_2 := (b.cell (p := ⟨w1.heap.size, 2, none⟩) (Nat.lt_of_lt_of_le z_M (Nat.le_trans S3.out (Nat.le_trans S4.out (Nat.le_trans S5.out S6.out))))).trans c_M_2
  replace o_k := o_k.keep b (S6.out)
  replace bb := bb.trans (b.mono (Nat.le_trans S1.out (Nat.le_trans S2.out (Nat.le_trans S3.out (Nat.le_trans S4.out (Nat.le_trans S5.out S6.out))))))
  clear b
  go_wp2_with fail
  refine (quiet_s l s _ _ _ _ _ _ cs x_k v (n : Int) _ ((o_m.sl hn_m).more (Nat.le_trans S2.out (Nat.le_trans S3.out (Nat.le_trans S4.out (Nat.le_trans S5.out (Nat.le_trans S6.out S7.out)))))) ((o_k.sl hn_k).more (Nat.le_trans S6.out S7.out)) hwv hwn).mono ?_
  rintro e w8 ⟨qi2, qp2, qb2, rfl, hQ2, b⟩
  have S8 := Lib.hid b.size
  replace o_m := o_m.keep b (Nat.le_trans S2.out (Nat.le_trans S3.out (Nat.le_trans S4.out (Nat.le_trans S5.out (Nat.le_trans S6.out S7.out)))))
  replace c_M_0 := (b.cell (p := ⟨w1.heap.size, 0, none⟩) (Nat.lt_of_lt_of_le z_M (Nat.le_trans S3.out (Nat.le_trans S4.out (Nat.le_trans S5.out (Nat.le_trans S6.out S7.out)))))).trans c_M_0
  replace c_M_1 := (b.cell (p := ⟨w1.heap.size, 1, none⟩) (Nat.lt_of_lt_of_le z_M (Nat.le_trans S3.out (Nat.le_trans S4.out (Nat.le_trans S5.out (Nat.le_trans S6.out S7.out)))))).trans c_M_1
  replace c_M_2 := (b.cell (p := ⟨w1.heap.size, 2, none⟩) (Nat.lt_of_lt_of_le z_M (Nat.le_trans S3.out (Nat.le_trans S4.out (Nat.le_trans S5.out (Nat.le_trans S6.out S7.out)))))).trans c_M_2
  replace o_k := o_k.keep b (Nat.le_trans S6.out S7.out)
  replace bb := bb.trans (b.mono (Nat.le_trans S1.out (Nat.le_trans S2.out (Nat.le_trans S3.out (Nat.le_trans S4.out (Nat.le_trans S5.out (Nat.le_trans S6.out S7.out)))))))
  clear b
  obtain ⟨rfl, rfl, rfl⟩ := QuietIs.unique hQ hQ2
  have HQ := Lib.hid hQ
  clear hQ hQ2
  cases qb
  · go_wp2_with fail
    go_ret
    exact ⟨rfl, bb⟩
  rcases HQ.out with ⟨hc, _⟩ | ⟨_, hq0, j, p, rfl, rfl, hF⟩
  · cases hc
  clear HQ
  rw [Int.toNat_natCast] at hF
  obtain ⟨f1, f2, f3, f4, f5, f6, f7, f8⟩ := quiet_facts hq0 hF
  clear hq0 hF
  obtain ⟨r, hr⟩ : ∃ r, Hid (j + p = r) := ⟨_, rfl⟩
  rw [hr.out] at f7 f8
  have hrn : r ≤ n := by have := hr.out; omega
  have hjr : j ≤ r := by have := hr.out; omega
  obtain ⟨Y1, hY1⟩ : ∃ Y1, Hid (runY l s cs x_k (List.replicate n v) = Y1) := ⟨_, rfl⟩
  obtain ⟨E1, hE1⟩ : ∃ E1, Hid (runE l s cs x_k (List.replicate n v) = E1) := ⟨_, rfl⟩
  obtain ⟨Z1, hZ1⟩ : ∃ Z1, Hid (runM l s cs x_k (List.replicate n v) = Z1) := ⟨_, rfl⟩
  obtain ⟨B1, hB1⟩ : ∃ B1, Hid (runB l s cs x_k (List.replicate n v) = B1) := ⟨_, rfl⟩
  have RL1 := Lib.hid (run_lens l s cs x_k (List.replicate n v))
  rw [hY1.out, hE1.out, hZ1.out] at RL1
  obtain ⟨Y2, hY2⟩ : ∃ Y2, Hid (runY l s cs x_k (List.replicate j v) = Y2) := ⟨_, rfl⟩
  obtain ⟨E2, hE2⟩ : ∃ E2, Hid (runE l s cs x_k (List.replicate j v) = E2) := ⟨_, rfl⟩
  obtain ⟨Z2, hZ2⟩ : ∃ Z2, Hid (runM l s cs x_k (List.replicate j v) = Z2) := ⟨_, rfl⟩
  obtain ⟨B2, hB2⟩ : ∃ B2, Hid (runB l s cs x_k (List.replicate j v) = B2) := ⟨_, rfl⟩
  have RL2 := Lib.hid (run_lens l s cs x_k (List.replicate j v))
  rw [hY2.out, hE2.out, hZ2.out] at RL2
  obtain ⟨Y3, hY3⟩ : ∃ Y3, Hid (runY l s cs x_k (List.replicate r v) = Y3) := ⟨_, rfl⟩
  obtain ⟨E3, hE3⟩ : ∃ E3, Hid (runE l s cs x_k (List.replicate r v) = E3) := ⟨_, rfl⟩
  obtain ⟨Z3, hZ3⟩ : ∃ Z3, Hid (runM l s cs x_k (List.replicate r v) = Z3) := ⟨_, rfl⟩
  obtain ⟨B3, hB3⟩ : ∃ B3, Hid (runB l s cs x_k (List.replicate r v) = B3) := ⟨_, rfl⟩
  have RL3 := Lib.hid (run_lens l s cs x_k (List.replicate r v))
  rw [hY3.out, hE3.out, hZ3.out] at RL3
  rw [hB1.out] at f3
  rw [hY1.out] at f4 f5
  rw [hB2.out] at f6
  rw [hB3.out] at f7
  rw [hZ2.out, hZ3.out] at f8
  obtain rfl : B1 = true := f3
  obtain rfl : B2 = true := f6
  obtain rfl : B3 = true := f7
  have F4 := Lib.hid f4
  have F5 := Lib.hid f5
  have F8 := Lib.hid f8
  clear f4 f5 f8
  go_wp2_with fail
  have S9 : Hid (w8.heap.size ≤ w8.drew.heap.size) := Nat.le_refl _
  replace o_m := o_m.drew
  replace c_M_0 : w8.drew.cell? ⟨w1.heap.size, 0, none⟩ = some (.int .i64 l) := c_M_0
  replace c_M_1 : w8.drew.cell? ⟨w1.heap.size, 1, none⟩ = some (.int .i64 s) := c_M_1
  replace c_M_2 : w8.drew.cell? ⟨w1.heap.size, 2, none⟩ = some (.slice a_m n_m c_m) := c_M_2
  replace o_k := o_k.drew
  replace bb := bb.drew
  go_region_held3 (fun w' => w'.cell? ⟨w1.heap.size, 0, none⟩ = some (.int .i64 l) ∧ w'.cell? ⟨w1.heap.size, 1, none⟩ = some (.int .i64 s) ∧ w'.cell? ⟨w1.heap.size, 2, none⟩ = some (.slice a_m n_m c_m)) (go_keep) (first | (go_at_call 20; refine (constant_any v n _ (by omega)).mono ?_; rintro e w10 ⟨a_t1, c_t1, rfl, o_t1, b⟩; have S10 := Lib.hid b.size; replace o_m := o_m.keep b (Nat.le_trans S2.out (Nat.le_trans S3.out (Nat.le_trans S4.out (Nat.le_trans S5.out (Nat.le_trans S6.out (Nat.le_trans S7.out (Nat.le_trans S8.out S9.out))))))); replace c_M_0 := (b.cell (p := ⟨w1.heap.size, 0, none⟩) (Nat.lt_of_lt_of_le z_M (Nat.le_trans S3.out (Nat.le_trans S4.out (Nat.le_trans S5.out (Nat.le_trans S6.out (Nat.le_trans S7.out (Nat.le_trans S8.out S9.out)))))))).trans c_M_0; replace c_M_1 := (b.cell (p := ⟨w1.heap.size, 1, none⟩) (Nat.lt_of_lt_of_le z_M (Nat.le_trans S3.out (Nat.le_trans S4.out (Nat.le_trans S5.out (Nat.le_trans S6.out (Nat.le_trans S7.out (Nat.le_trans S8.out S9.out)))))))).trans c_M_1; replace c_M_2 := (b.cell (p := ⟨w1.heap.size, 2, none⟩) (Nat.lt_of_lt_of_le z_M (Nat.le_trans S3.out (Nat.le_trans S4.out (Nat.le_trans S5.out (Nat.le_trans S6.out (Nat.le_trans S7.out (Nat.le_trans S8.out S9.out)))))))).trans c_M_2; replace o_k := o_k.keep b (Nat.le_trans S6.out (Nat.le_trans S7.out (Nat.le_trans S8.out S9.out))); replace bb := bb.trans (b.mono (Nat.le_trans S1.out (Nat.le_trans S2.out (Nat.le_trans S3.out (Nat.le_trans S4.out (Nat.le_trans S5.out (Nat.le_trans S6.out (Nat.le_trans S7.out (Nat.le_trans S8.out S9.out))))))))); clear b; have hn_t1 : n ≤ 1048576 := by omega) | (go_at_call 19; refine (run_i l s _ _ _ _ _ _ _ _ _ cs x_k (List.replicate n v) _ ((o_m.sl hn_m).more (Nat.le_trans S2.out (Nat.le_trans S3.out (Nat.le_trans S4.out (Nat.le_trans S5.out (Nat.le_trans S6.out (Nat.le_trans S7.out (Nat.le_trans S8.out (Nat.le_trans S9.out S10.out))))))))) ((o_k.sl hn_k).more (Nat.le_trans S6.out (Nat.le_trans S7.out (Nat.le_trans S8.out (Nat.le_trans S9.out S10.out))))) ((o_t1.sl hn_t1).more (Nat.le_refl _))).mono ?_; rw [hY1.out, hE1.out, hZ1.out, hB1.out]; rintro e w11 ⟨a_y1, n_y1, c_y1, a_e1, n_e1, c_e1, a_z1, n_z1, c_z1, rfl, o_y1, o_e1, o_z1, f1, f2, f3, b⟩; have S11 := Lib.hid b.size; replace o_m := o_m.keep b (Nat.le_trans S2.out (Nat.le_trans S3.out (Nat.le_trans S4.out (Nat.le_trans S5.out (Nat.le_trans S6.out (Nat.le_trans S7.out (Nat.le_trans S8.out (Nat.le_trans S9.out S10.out)))))))); replace c_M_0 := (b.cell (p := ⟨w1.heap.size, 0, none⟩) (Nat.lt_of_lt_of_le z_M (Nat.le_trans S3.out (Nat.le_trans S4.out (Nat.le_trans S5.out (Nat.le_trans S6.out (Nat.le_trans S7.out (Nat.le_trans S8.out (Nat.le_trans S9.out S10.out))))))))).trans c_M_0; replace c_M_1 := (b.cell (p := ⟨w1.heap.size, 1, none⟩) (Nat.lt_of_lt_of_le z_M (Nat.le_trans S3.out (Nat.le_trans S4.out (Nat.le_trans S5.out (Nat.le_trans S6.out (Nat.le_trans S7.out (Nat.le_trans S8.out (Nat.le_trans S9.out S10.out))))))))).trans c_M_1; replace c_M_2 := (b.cell (p := ⟨w1.heap.size, 2, none⟩) (Nat.lt_of_lt_of_le z_M (Nat.le_trans S3.out (Nat.le_trans S4.out (Nat.le_trans S5.out (Nat.le_trans S6.out (Nat.le_trans S7.out (Nat.le_trans S8.out (Nat.le_trans S9.out S10.out))))))))).trans c_M_2; replace o_k := o_k.keep b (Nat.le_trans S6.out (Nat.le_trans S7.out (Nat.le_trans S8.out (Nat.le_trans S9.out S10.out)))); replace o_t1 := o_t1.keep b (Nat.le_refl _); replace bb := bb.trans (b.mono (Nat.le_trans S1.out (Nat.le_trans S2.out (Nat.le_trans S3.out (Nat.le_trans S4.out (Nat.le_trans S5.out (Nat.le_trans S6.out (Nat.le_trans S7.out (Nat.le_trans S8.out (Nat.le_trans S9.out S10.out)))))))))); clear b; clear f1 f2 f3 o_e1 o_z1; have hn_y1 : n_y1 ≤ 1048576 := (by rw [← o_y1.len]; exact RL1.out.1)))
  clear o_t1
  have hq : n_y1 = n := by rw [← o_y1.len]; exact F4.out
  obtain rfl : n = n_y1 := hq.symm
  have sy := (o_y1.sl hn_y1).more (Nat.le_refl _)
  clear o_y1
  have g1 : ¬ ((j : Int) < 0) := by omega
  have g2 : ¬ ((p : Int) < 1) := by omega
  have g3 : ¬ ((n : Int) < (j : Int) + (p : Int)) := by omega
  have g4 : IntKind.i64.wrap ((j : Int) + (p : Int)) = (j : Int) + (p : Int) := IntWalk.i64_in _ (by omega)
  go_wp2_with fail
  clear g1 g2 g3 g4
  go_loopw [17] (fun kk wr => ∃ k : Nat, j ≤ k ∧ k ≤ n ∧ kk = .int .i64 k ∧ Below w11.heap.size w11 wr) (fun kk _ => n - (intOf kk).toNat)
  case atStart => exact ⟨j, Nat.le_refl _, by omega, rfl, Below.refl _ _⟩
  case round =>
    obtain ⟨k, hjk, hkn, rfl, hbel⟩ := hrel
    have e1 : (0 : Int) ≤ (k : Int) := by omega
    have e2 : (0 : Int) ≤ (k : Int) + (p : Int) := by omega
    have e3 : IntKind.i64.wrap ((k : Int) + (p : Int)) = (k : Int) + (p : Int) := IntWalk.i64_in _ (by omega)
    by_cases hlt : k + p < n
    · obtain ⟨b1, off1, rfl, hb1, hc1⟩ := sy.at_ (by omega)
      have hcx := (hbel.cell (p := ⟨b1, off1 + k, none⟩) hb1).trans (hc1 k (by omega))
      have hcy := (hbel.cell (p := ⟨b1, off1 + (k + p), none⟩) hb1).trans (hc1 (k + p) hlt)
      have hE := Lib.hid (F5.out k hjk hlt)
      clear hc1
      have e4 : (k : Int) + (p : Int) < (n : Int) := by omega
      have e5 : (k : Int) < (n : Int) := by omega
      have e6 : ((k : Int) + (p : Int)).toNat = k + p := by omega
      generalize Y1.getD k 0 = x at hcx hE
      generalize Y1.getD (k + p) 0 = y at hcy hE
      have e7 : (x != y) = false := by rw [hE.out]; simp
      go_wp2_with fail
      go_quiet (fail)
      go_wp2_with fail
      go_roundw
      case rel => exact ⟨k + 1, by omega, by omega, by go_num, below_drewN hbel _⟩
      case measure => simp [intOf]; omega
    · have e4 : ¬ (k : Int) + (p : Int) < (n : Int) := by omega
      have b := hbel
      clear hbel
      have S12 := Lib.hid b.size
      replace o_m := o_m.keep b (Nat.le_trans S2.out (Nat.le_trans S3.out (Nat.le_trans S4.out (Nat.le_trans S5.out (Nat.le_trans S6.out (Nat.le_trans S7.out (Nat.le_trans S8.out (Nat.le_trans S9.out (Nat.le_trans S10.out S11.out)))))))))
      replace c_M_0 := (b.cell (p := ⟨w1.heap.size, 0, none⟩) (Nat.lt_of_lt_of_le z_M (Nat.le_trans S3.out (Nat.le_trans S4.out (Nat.le_trans S5.out (Nat.le_trans S6.out (Nat.le_trans S7.out (Nat.le_trans S8.out (Nat.le_trans S9.out (Nat.le_trans S10.out S11.out)))))))))).trans c_M_0
      replace c_M_1 := (b.cell (p := ⟨w1.heap.size, 1, none⟩) (Nat.lt_of_lt_of_le z_M (Nat.le_trans S3.out (Nat.le_trans S4.out (Nat.le_trans S5.out (Nat.le_trans S6.out (Nat.le_trans S7.out (Nat.le_trans S8.out (Nat.le_trans S9.out (Nat.le_trans S10.out S11.out)))))))))).trans c_M_1
      replace c_M_2 := (b.cell (p := ⟨w1.heap.size, 2, none⟩) (Nat.lt_of_lt_of_le z_M (Nat.le_trans S3.out (Nat.le_trans S4.out (Nat.le_trans S5.out (Nat.le_trans S6.out (Nat.le_trans S7.out (Nat.le_trans S8.out (Nat.le_trans S9.out (Nat.le_trans S10.out S11.out)))))))))).trans c_M_2
      replace o_k := o_k.keep b (Nat.le_trans S6.out (Nat.le_trans S7.out (Nat.le_trans S8.out (Nat.le_trans S9.out (Nat.le_trans S10.out S11.out)))))
      replace bb := bb.trans (b.mono (Nat.le_trans S1.out (Nat.le_trans S2.out (Nat.le_trans S3.out (Nat.le_trans S4.out (Nat.le_trans S5.out (Nat.le_trans S6.out (Nat.le_trans S7.out (Nat.le_trans S8.out (Nat.le_trans S9.out (Nat.le_trans S10.out S11.out)))))))))))
      clear b
      go_wp2_with fail
      clear e1 e2 e3 e4
      go_wp2_with fail
      have S13 : Hid (wr.heap.size ≤ wr.drew.heap.size) := Nat.le_refl _
      replace o_m := o_m.drew
      replace c_M_0 : wr.drew.cell? ⟨w1.heap.size, 0, none⟩ = some (.int .i64 l) := c_M_0
      replace c_M_1 : wr.drew.cell? ⟨w1.heap.size, 1, none⟩ = some (.int .i64 s) := c_M_1
      replace c_M_2 : wr.drew.cell? ⟨w1.heap.size, 2, none⟩ = some (.slice a_m n_m c_m) := c_M_2
      replace o_k := o_k.drew
      replace bb := bb.drew
      go_region_held3 (fun w' => w'.cell? ⟨w1.heap.size, 0, none⟩ = some (.int .i64 l) ∧ w'.cell? ⟨w1.heap.size, 1, none⟩ = some (.int .i64 s) ∧ w'.cell? ⟨w1.heap.size, 2, none⟩ = some (.slice a_m n_m c_m)) (go_keep) (first | (go_at_call 20; refine (constant_any v j _ (by omega)).mono ?_; rintro e w14 ⟨a_t2, c_t2, rfl, o_t2, b⟩; have S14 := Lib.hid b.size; replace o_m := o_m.keep b (Nat.le_trans S2.out (Nat.le_trans S3.out (Nat.le_trans S4.out (Nat.le_trans S5.out (Nat.le_trans S6.out (Nat.le_trans S7.out (Nat.le_trans S8.out (Nat.le_trans S9.out (Nat.le_trans S10.out (Nat.le_trans S11.out (Nat.le_trans S12.out S13.out))))))))))); replace c_M_0 := (b.cell (p := ⟨w1.heap.size, 0, none⟩) (Nat.lt_of_lt_of_le z_M (Nat.le_trans S3.out (Nat.le_trans S4.out (Nat.le_trans S5.out (Nat.le_trans S6.out (Nat.le_trans S7.out (Nat.le_trans S8.out (Nat.le_trans S9.out (Nat.le_trans S10.out (Nat.le_trans S11.out (Nat.le_trans S12.out S13.out)))))))))))).trans c_M_0; replace c_M_1 := (b.cell (p := ⟨w1.heap.size, 1, none⟩) (Nat.lt_of_lt_of_le z_M (Nat.le_trans S3.out (Nat.le_trans S4.out (Nat.le_trans S5.out (Nat.le_trans S6.out (Nat.le_trans S7.out (Nat.le_trans S8.out (Nat.le_trans S9.out (Nat.le_trans S10.out (Nat.le_trans S11.out (Nat.le_trans S12.out S13.out)))))))))))).trans c_M_1; replace c_M_2 := (b.cell (p := ⟨w1.heap.size, 2, none⟩) (Nat.lt_of_lt_of_le z_M (Nat.le_trans S3.out (Nat.le_trans S4.out (Nat.le_trans S5.out (Nat.le_trans S6.out (Nat.le_trans S7.out (Nat.le_trans S8.out (Nat.le_trans S9.out (Nat.le_trans S10.out (Nat.le_trans S11.out (Nat.le_trans S12.out S13.out)))))))))))).trans c_M_2; replace o_k := o_k.keep b (Nat.le_trans S6.out (Nat.le_trans S7.out (Nat.le_trans S8.out (Nat.le_trans S9.out (Nat.le_trans S10.out (Nat.le_trans S11.out (Nat.le_trans S12.out S13.out))))))); replace bb := bb.trans (b.mono (Nat.le_trans S1.out (Nat.le_trans S2.out (Nat.le_trans S3.out (Nat.le_trans S4.out (Nat.le_trans S5.out (Nat.le_trans S6.out (Nat.le_trans S7.out (Nat.le_trans S8.out (Nat.le_trans S9.out (Nat.le_trans S10.out (Nat.le_trans S11.out (Nat.le_trans S12.out S13.out))))))))))))); clear b; have hn_t2 : j ≤ 1048576 := by omega) | (go_at_call 21; refine (run_s l s _ _ _ _ _ _ _ _ _ cs x_k (List.replicate j v) _ ((o_m.sl hn_m).more (Nat.le_trans S2.out (Nat.le_trans S3.out (Nat.le_trans S4.out (Nat.le_trans S5.out (Nat.le_trans S6.out (Nat.le_trans S7.out (Nat.le_trans S8.out (Nat.le_trans S9.out (Nat.le_trans S10.out (Nat.le_trans S11.out (Nat.le_trans S12.out (Nat.le_trans S13.out S14.out))))))))))))) ((o_k.sl hn_k).more (Nat.le_trans S6.out (Nat.le_trans S7.out (Nat.le_trans S8.out (Nat.le_trans S9.out (Nat.le_trans S10.out (Nat.le_trans S11.out (Nat.le_trans S12.out (Nat.le_trans S13.out S14.out))))))))) ((o_t2.sl hn_t2).more (Nat.le_refl _))).mono ?_; rw [hY2.out, hE2.out, hZ2.out, hB2.out]; rintro e w15 ⟨a_y2, n_y2, c_y2, a_e2, n_e2, c_e2, a_z2, n_z2, c_z2, rfl, o_y2, o_e2, o_z2, f1, f2, f3, b⟩; have S15 := Lib.hid b.size; replace o_m := o_m.keep b (Nat.le_trans S2.out (Nat.le_trans S3.out (Nat.le_trans S4.out (Nat.le_trans S5.out (Nat.le_trans S6.out (Nat.le_trans S7.out (Nat.le_trans S8.out (Nat.le_trans S9.out (Nat.le_trans S10.out (Nat.le_trans S11.out (Nat.le_trans S12.out (Nat.le_trans S13.out S14.out)))))))))))); replace c_M_0 := (b.cell (p := ⟨w1.heap.size, 0, none⟩) (Nat.lt_of_lt_of_le z_M (Nat.le_trans S3.out (Nat.le_trans S4.out (Nat.le_trans S5.out (Nat.le_trans S6.out (Nat.le_trans S7.out (Nat.le_trans S8.out (Nat.le_trans S9.out (Nat.le_trans S10.out (Nat.le_trans S11.out (Nat.le_trans S12.out (Nat.le_trans S13.out S14.out))))))))))))).trans c_M_0; replace c_M_1 := (b.cell (p := ⟨w1.heap.size, 1, none⟩) (Nat.lt_of_lt_of_le z_M (Nat.le_trans S3.out (Nat.le_trans S4.out (Nat.le_trans S5.out (Nat.le_trans S6.out (Nat.le_trans S7.out (Nat.le_trans S8.out (Nat.le_trans S9.out (Nat.le_trans S10.out (Nat.le_trans S11.out (Nat.le_trans S12.out (Nat.le_trans S13.out S14.out))))))))))))).trans c_M_1; replace c_M_2 := (b.cell (p := ⟨w1.heap.size, 2, none⟩) (Nat.lt_of_lt_of_le z_M (Nat.le_trans S3.out (Nat.le_trans S4.out (Nat.le_trans S5.out (Nat.le_trans S6.out (Nat.le_trans S7.out (Nat.le_trans S8.out (Nat.le_trans S9.out (Nat.le_trans S10.out (Nat.le_trans S11.out (Nat.le_trans S12.out (Nat.le_trans S13.out S14.out))))))))))))).trans c_M_2; replace o_k := o_k.keep b (Nat.le_trans S6.out (Nat.le_trans S7.out (Nat.le_trans S8.out (Nat.le_trans S9.out (Nat.le_trans S10.out (Nat.le_trans S11.out (Nat.le_trans S12.out (Nat.le_trans S13.out S14.out)))))))); replace o_t2 := o_t2.keep b (Nat.le_refl _); replace bb := bb.trans (b.mono (Nat.le_trans S1.out (Nat.le_trans S2.out (Nat.le_trans S3.out (Nat.le_trans S4.out (Nat.le_trans S5.out (Nat.le_trans S6.out (Nat.le_trans S7.out (Nat.le_trans S8.out (Nat.le_trans S9.out (Nat.le_trans S10.out (Nat.le_trans S11.out (Nat.le_trans S12.out (Nat.le_trans S13.out S14.out)))))))))))))); clear b; clear f1 f2 f3 o_y2 o_e2; have hn_z2 : n_z2 ≤ 1048576 := (by rw [← o_z2.len]; exact RL2.out.2.2)))
      clear o_t2
      have g4 : IntKind.i64.wrap ((j : Int) + (p : Int)) = (r : Int) := by rw [IntWalk.i64_in _ (by omega)]; have := hr.out; omega
      go_wp2_with fail
      have S16 : Hid (w15.heap.size ≤ w15.drew.heap.size) := Nat.le_refl _
      replace o_m := o_m.drew
      replace c_M_0 : w15.drew.cell? ⟨w1.heap.size, 0, none⟩ = some (.int .i64 l) := c_M_0
      replace c_M_1 : w15.drew.cell? ⟨w1.heap.size, 1, none⟩ = some (.int .i64 s) := c_M_1
      replace c_M_2 : w15.drew.cell? ⟨w1.heap.size, 2, none⟩ = some (.slice a_m n_m c_m) := c_M_2
      replace o_k := o_k.drew
      replace o_z2 := o_z2.drew
      replace bb := bb.drew
      go_region_held3 (fun w' => w'.cell? ⟨w1.heap.size, 0, none⟩ = some (.int .i64 l) ∧ w'.cell? ⟨w1.heap.size, 1, none⟩ = some (.int .i64 s) ∧ w'.cell? ⟨w1.heap.size, 2, none⟩ = some (.slice a_m n_m c_m)) (go_keep) (first | (go_at_call 20; refine (constant_any v r _ (by omega)).mono ?_; rintro e w17 ⟨a_t3, c_t3, rfl, o_t3, b⟩; have S17 := Lib.hid b.size; replace o_m := o_m.keep b (Nat.le_trans S2.out (Nat.le_trans S3.out (Nat.le_trans S4.out (Nat.le_trans S5.out (Nat.le_trans S6.out (Nat.le_trans S7.out (Nat.le_trans S8.out (Nat.le_trans S9.out (Nat.le_trans S10.out (Nat.le_trans S11.out (Nat.le_trans S12.out (Nat.le_trans S13.out (Nat.le_trans S14.out (Nat.le_trans S15.out S16.out)))))))))))))); replace c_M_0 := (b.cell (p := ⟨w1.heap.size, 0, none⟩) (Nat.lt_of_lt_of_le z_M (Nat.le_trans S3.out (Nat.le_trans S4.out (Nat.le_trans S5.out (Nat.le_trans S6.out (Nat.le_trans S7.out (Nat.le_trans S8.out (Nat.le_trans S9.out (Nat.le_trans S10.out (Nat.le_trans S11.out (Nat.le_trans S12.out (Nat.le_trans S13.out (Nat.le_trans S14.out (Nat.le_trans S15.out S16.out))))))))))))))).trans c_M_0; replace c_M_1 := (b.cell (p := ⟨w1.heap.size, 1, none⟩) (Nat.lt_of_lt_of_le z_M (Nat.le_trans S3.out (Nat.le_trans S4.out (Nat.le_trans S5.out (Nat.le_trans S6.out (Nat.le_trans S7.out (Nat.le_trans S8.out (Nat.le_trans S9.out (Nat.le_trans S10.out (Nat.le_trans S11.out (Nat.le_trans S12.out (Nat.le_trans S13.out (Nat.le_trans S14.out (Nat.le_trans S15.out S16.out))))))))))))))).trans c_M_1; replace c_M_2 := (b.cell (p := ⟨w1.heap.size, 2, none⟩) (Nat.lt_of_lt_of_le z_M (Nat.le_trans S3.out (Nat.le_trans S4.out (Nat.le_trans S5.out (Nat.le_trans S6.out (Nat.le_trans S7.out (Nat.le_trans S8.out (Nat.le_trans S9.out (Nat.le_trans S10.out (Nat.le_trans S11.out (Nat.le_trans S12.out (Nat.le_trans S13.out (Nat.le_trans S14.out (Nat.le_trans S15.out S16.out))))))))))))))).trans c_M_2; replace o_k := o_k.keep b (Nat.le_trans S6.out (Nat.le_trans S7.out (Nat.le_trans S8.out (Nat.le_trans S9.out (Nat.le_trans S10.out (Nat.le_trans S11.out (Nat.le_trans S12.out (Nat.le_trans S13.out (Nat.le_trans S14.out (Nat.le_trans S15.out S16.out)))))))))); replace o_z2 := o_z2.keep b (S16.out); replace bb := bb.trans (b.mono (Nat.le_trans S1.out (Nat.le_trans S2.out (Nat.le_trans S3.out (Nat.le_trans S4.out (Nat.le_trans S5.out (Nat.le_trans S6.out (Nat.le_trans S7.out (Nat.le_trans S8.out (Nat.le_trans S9.out (Nat.le_trans S10.out (Nat.le_trans S11.out (Nat.le_trans S12.out (Nat.le_trans S13.out (Nat.le_trans S14.out (Nat.le_trans S15.out S16.out)))))))))))))))); clear b; have hn_t3 : r ≤ 1048576 := by omega) | (go_at_call 21; refine (run_s l s _ _ _ _ _ _ _ _ _ cs x_k (List.replicate r v) _ ((o_m.sl hn_m).more (Nat.le_trans S2.out (Nat.le_trans S3.out (Nat.le_trans S4.out (Nat.le_trans S5.out (Nat.le_trans S6.out (Nat.le_trans S7.out (Nat.le_trans S8.out (Nat.le_trans S9.out (Nat.le_trans S10.out (Nat.le_trans S11.out (Nat.le_trans S12.out (Nat.le_trans S13.out (Nat.le_trans S14.out (Nat.le_trans S15.out (Nat.le_trans S16.out S17.out)))))))))))))))) ((o_k.sl hn_k).more (Nat.le_trans S6.out (Nat.le_trans S7.out (Nat.le_trans S8.out (Nat.le_trans S9.out (Nat.le_trans S10.out (Nat.le_trans S11.out (Nat.le_trans S12.out (Nat.le_trans S13.out (Nat.le_trans S14.out (Nat.le_trans S15.out (Nat.le_trans S16.out S17.out)))))))))))) ((o_t3.sl hn_t3).more (Nat.le_refl _))).mono ?_; rw [hY3.out, hE3.out, hZ3.out, hB3.out]; rintro e w18 ⟨a_y3, n_y3, c_y3, a_e3, n_e3, c_e3, a_z3, n_z3, c_z3, rfl, o_y3, o_e3, o_z3, f1, f2, f3, b⟩; have S18 := Lib.hid b.size; replace o_m := o_m.keep b (Nat.le_trans S2.out (Nat.le_trans S3.out (Nat.le_trans S4.out (Nat.le_trans S5.out (Nat.le_trans S6.out (Nat.le_trans S7.out (Nat.le_trans S8.out (Nat.le_trans S9.out (Nat.le_trans S10.out (Nat.le_trans S11.out (Nat.le_trans S12.out (Nat.le_trans S13.out (Nat.le_trans S14.out (Nat.le_trans S15.out (Nat.le_trans S16.out S17.out))))))))))))))); replace c_M_0 := (b.cell (p := ⟨w1.heap.size, 0, none⟩) (Nat.lt_of_lt_of_le z_M (Nat.le_trans S3.out (Nat.le_trans S4.out (Nat.le_trans S5.out (Nat.le_trans S6.out (Nat.le_trans S7.out (Nat.le_trans S8.out (Nat.le_trans S9.out (Nat.le_trans S10.out (Nat.le_trans S11.out (Nat.le_trans S12.out (Nat.le_trans S13.out (Nat.le_trans S14.out (Nat.le_trans S15.out (Nat.le_trans S16.out S17.out)))))))))))))))).trans c_M_0; replace c_M_1 := (b.cell (p := ⟨w1.heap.size, 1, none⟩) (Nat.lt_of_lt_of_le z_M (Nat.le_trans S3.out (Nat.le_trans S4.out (Nat.le_trans S5.out (Nat.le_trans S6.out (Nat.le_trans S7.out (Nat.le_trans S8.out (Nat.le_trans S9.out (Nat.le_trans S10.out (Nat.le_trans S11.out (Nat.le_trans S12.out (Nat.le_trans S13.out (Nat.le_trans S14.out (Nat.le_trans S15.out (Nat.le_trans S16.out S17.out)))))))))))))))).trans c_M_1; replace c_M_2 := (b.cell (p := ⟨w1.heap.size, 2, none⟩) (Nat.lt_of_lt_of_le z_M (Nat.le_trans S3.out (Nat.le_trans S4.out (Nat.le_trans S5.out (Nat.le_trans S6.out (Nat.le_trans S7.out (Nat.le_trans S8.out (Nat.le_trans S9.out (Nat.le_trans S10.out (Nat.le_trans S11.out (Nat.le_trans S12.out (Nat.le_trans S13.out (Nat.le_trans S14.out (Nat.le_trans S15.out (Nat.le_trans S16.out S17.out)))))))))))))))).trans c_M_2; replace o_k := o_k.keep b (Nat.le_trans S6.out (Nat.le_trans S7.out (Nat.le_trans S8.out (Nat.le_trans S9.out (Nat.le_trans S10.out (Nat.le_trans S11.out (Nat.le_trans S12.out (Nat.le_trans S13.out (Nat.le_trans S14.out (Nat.le_trans S15.out (Nat.le_trans S16.out S17.out))))))))))); replace o_z2 := o_z2.keep b (Nat.le_trans S16.out S17.out); replace o_t3 := o_t3.keep b (Nat.le_refl _); replace bb := bb.trans (b.mono (Nat.le_trans S1.out (Nat.le_trans S2.out (Nat.le_trans S3.out (Nat.le_trans S4.out (Nat.le_trans S5.out (Nat.le_trans S6.out (Nat.le_trans S7.out (Nat.le_trans S8.out (Nat.le_trans S9.out (Nat.le_trans S10.out (Nat.le_trans S11.out (Nat.le_trans S12.out (Nat.le_trans S13.out (Nat.le_trans S14.out (Nat.le_trans S15.out (Nat.le_trans S16.out S17.out))))))))))))))))); clear b; clear f1 f2 f3 o_y3 o_e3; have hn_z3 : n_z3 ≤ 1048576 := (by rw [← o_z3.len]; exact RL3.out.2.2)))
      clear o_t3
      rw [← F8.out] at o_z3
      have hq : n_z2 = n_z3 := by rw [← o_z2.len, ← o_z3.len]
      subst hq
      go_wp2_with fail
      refine (ints_true _ _ _ _ _ _ _ ((o_z2.sl hn_z2).more (Nat.le_trans S16.out (Nat.le_trans S17.out S18.out))) ((o_z3.sl hn_z3).more (Nat.le_refl _))).mono ?_
      rintro e w19 ⟨rfl, b⟩
      have S19 := Lib.hid b.size
      replace o_m := o_m.keep b (Nat.le_trans S2.out (Nat.le_trans S3.out (Nat.le_trans S4.out (Nat.le_trans S5.out (Nat.le_trans S6.out (Nat.le_trans S7.out (Nat.le_trans S8.out (Nat.le_trans S9.out (Nat.le_trans S10.out (Nat.le_trans S11.out (Nat.le_trans S12.out (Nat.le_trans S13.out (Nat.le_trans S14.out (Nat.le_trans S15.out (Nat.le_trans S16.out (Nat.le_trans S17.out S18.out))))))))))))))))
      replace c_M_0 := (b.cell (p := ⟨w1.heap.size, 0, none⟩) (Nat.lt_of_lt_of_le z_M (Nat.le_trans S3.out (Nat.le_trans S4.out (Nat.le_trans S5.out (Nat.le_trans S6.out (Nat.le_trans S7.out (Nat.le_trans S8.out (Nat.le_trans S9.out (Nat.le_trans S10.out (Nat.le_trans S11.out (Nat.le_trans S12.out (Nat.le_trans S13.out (Nat.le_trans S14.out (Nat.le_trans S15.out (Nat.le_trans S16.out (Nat.le_trans S17.out S18.out))))))))))))))))).trans c_M_0
      replace c_M_1 := (b.cell (p := ⟨w1.heap.size, 1, none⟩) (Nat.lt_of_lt_of_le z_M (Nat.le_trans S3.out (Nat.le_trans S4.out (Nat.le_trans S5.out (Nat.le_trans S6.out (Nat.le_trans S7.out (Nat.le_trans S8.out (Nat.le_trans S9.out (Nat.le_trans S10.out (Nat.le_trans S11.out (Nat.le_trans S12.out (Nat.le_trans S13.out (Nat.le_trans S14.out (Nat.le_trans S15.out (Nat.le_trans S16.out (Nat.le_trans S17.out S18.out))))))))))))))))).trans c_M_1
      replace c_M_2 := (b.cell (p := ⟨w1.heap.size, 2, none⟩) (Nat.lt_of_lt_of_le z_M (Nat.le_trans S3.out (Nat.le_trans S4.out (Nat.le_trans S5.out (Nat.le_trans S6.out (Nat.le_trans S7.out (Nat.le_trans S8.out (Nat.le_trans S9.out (Nat.le_trans S10.out (Nat.le_trans S11.out (Nat.le_trans S12.out (Nat.le_trans S13.out (Nat.le_trans S14.out (Nat.le_trans S15.out (Nat.le_trans S16.out (Nat.le_trans S17.out S18.out))))))))))))))))).trans c_M_2
      replace o_k := o_k.keep b (Nat.le_trans S6.out (Nat.le_trans S7.out (Nat.le_trans S8.out (Nat.le_trans S9.out (Nat.le_trans S10.out (Nat.le_trans S11.out (Nat.le_trans S12.out (Nat.le_trans S13.out (Nat.le_trans S14.out (Nat.le_trans S15.out (Nat.le_trans S16.out (Nat.le_trans S17.out S18.out))))))))))))
      replace o_z2 := o_z2.keep b (Nat.le_trans S16.out (Nat.le_trans S17.out S18.out))
      replace o_z3 := o_z3.keep b (Nat.le_refl _)
      replace bb := bb.trans (b.mono (Nat.le_trans S1.out (Nat.le_trans S2.out (Nat.le_trans S3.out (Nat.le_trans S4.out (Nat.le_trans S5.out (Nat.le_trans S6.out (Nat.le_trans S7.out (Nat.le_trans S8.out (Nat.le_trans S9.out (Nat.le_trans S10.out (Nat.le_trans S11.out (Nat.le_trans S12.out (Nat.le_trans S13.out (Nat.le_trans S14.out (Nat.le_trans S15.out (Nat.le_trans S16.out (Nat.le_trans S17.out S18.out))))))))))))))))))
      clear b
      go_wp2_with fail
      go_ret
      exact ⟨rfl, bb⟩
end Go.Proofs.Ytmgjbldnohkodaa
