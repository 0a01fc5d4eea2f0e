/- The walk of the law FnExactQuietFrom: it returns true and leaves what was there as it was. -/
import Derived.Test.YtmgjbldnohkodaaQuiet
import Derived.Test.YtmgjbldnohkodaaLawM
namespace Go.Proofs.Ytmgjbldnohkodaa
open Go.RowKit
set_option linter.unusedVariables false
set_option maxRecDepth 100000 in
set_option maxHeartbeats 4000000 in
theorem fnExactQuietFrom_core (l0 s0 : Int) (a0 : Option Addr) (n0 c0 : Nat) (x0 : List Int) (a1 : Option Addr) (n1 c1 : Nat) (x1 : List Int) (a2 : Int) (a3 : Int) (w0 : World) (h0 : Wf l0 ∧ Wf s0) (s_a0 : Sl w0 w0.heap.size a0 n0 c0 x0) (s_a1 : Sl w0 w0.heap.size a1 n1 c1 x1) (h2 : Wf a2) (h3 : Wf a3) :
    Calls Try.prog 8 #[.agg #[.int .i64 l0, .int .i64 s0, .slice a0 n0 c0], .slice a1 n1 c1, .int .i64 a2, .int .i64 a3] w0 fun e w' => e = .returned (.bool true) ∧ Below w0.heap.size w0 w' := by
    have hn1 : n1 ≤ 1048576 := s_a1.2.2.1
    have hn0 : n0 ≤ 1048576 := s_a0.2.2.1
    have bb := Below.refl w0.heap.size w0
    go_enter Try.func8, Try.ntmps8
    go_wp2_with fail
    have c_p0_0 : (w0.alloc (.cells #[.int .i64 l0, .int .i64 s0, .slice a0 n0 c0] 58)).cell? ⟨w0.heap.size, 0, none⟩ = some (.int .i64 l0) := by simp [go_sem]
    have c_p0_1 : (w0.alloc (.cells #[.int .i64 l0, .int .i64 s0, .slice a0 n0 c0] 58)).cell? ⟨w0.heap.size, 1, none⟩ = some (.int .i64 s0) := by simp [go_sem]
    have c_p0_2 : (w0.alloc (.cells #[.int .i64 l0, .int .i64 s0, .slice a0 n0 c0] 58)).cell? ⟨w0.heap.size, 2, none⟩ = some (.slice a0 n0 c0) := by simp [go_sem]
    have z_p0 : w0.heap.size < (w0.alloc (.cells #[.int .i64 l0, .int .i64 s0, .slice a0 n0 c0] 58)).heap.size := by simp
    have b := box_below w0 (.cells #[.int .i64 l0, .int .i64 s0, .slice a0 n0 c0] 58)
    generalize hgw : (w0.alloc (.cells #[.int .i64 l0, .int .i64 s0, .slice a0 n0 c0] 58)) = w1 at c_p0_0 c_p0_1 c_p0_2 z_p0 b ⊢
    clear hgw
    have S1 := Lib.hid b.size
    replace s_a1 := s_a1.keep (b.mono (Nat.le_refl _))
    replace s_a0 := s_a0.keep (b.mono (Nat.le_refl _))
    replace bb := bb.trans (b.mono (Nat.le_refl _))
    clear b
    go_wp2_with fail
    refine (szM_any _ _ _ _ _ _ (by omega)).mono ?_
    rintro e w2 ⟨rfl, b⟩
    have S2 := Lib.hid b.size
    replace s_a1 := s_a1.keep (b.mono (S1.out))
    replace s_a0 := s_a0.keep (b.mono (S1.out))
    replace c_p0_0 := (b.cell (p := ⟨w0.heap.size, 0, none⟩) (Nat.lt_of_lt_of_le z_p0 (Nat.le_refl _))).trans c_p0_0
    replace c_p0_1 := (b.cell (p := ⟨w0.heap.size, 1, none⟩) (Nat.lt_of_lt_of_le z_p0 (Nat.le_refl _))).trans c_p0_1
    replace c_p0_2 := (b.cell (p := ⟨w0.heap.size, 2, none⟩) (Nat.lt_of_lt_of_le z_p0 (Nat.le_refl _))).trans c_p0_2
    replace bb := bb.trans (b.mono (S1.out))
    clear b
    go_wp2_with fail
    refine (toM_any _ _ _ _ _ x0 _ (s_a0.more (Nat.le_trans S1.out S2.out))).mono ?_
    rintro e w3 ⟨a_t0, c_t0, rfl, o_t0, b⟩
    have S3 := Lib.hid b.size
    replace s_a1 := s_a1.keep (b.mono (Nat.le_trans S1.out S2.out))
    replace s_a0 := s_a0.keep (b.mono (Nat.le_trans S1.out S2.out))
    replace c_p0_0 := (b.cell (p := ⟨w0.heap.size, 0, none⟩) (Nat.lt_of_lt_of_le z_p0 (S2.out))).trans c_p0_0
    replace c_p0_1 := (b.cell (p := ⟨w0.heap.size, 1, none⟩) (Nat.lt_of_lt_of_le z_p0 (S2.out))).trans c_p0_1
    replace c_p0_2 := (b.cell (p := ⟨w0.heap.size, 2, none⟩) (Nat.lt_of_lt_of_le z_p0 (S2.out))).trans c_p0_2
    replace bb := bb.trans (b.mono (Nat.le_trans S1.out S2.out))
    clear b
    have hn_t0 : n0 ≤ 1048576 := hn0
    go_wp2_with fail
    refine (toIntS_any _ _ _ x1 _ (s_a1.more (Nat.le_trans S1.out (Nat.le_trans S2.out S3.out)))).mono ?_
    rintro e w4 ⟨a_t1, c_t1, rfl, o_t1, b⟩
    have S4 := Lib.hid b.size
    replace s_a1 := s_a1.keep (b.mono (Nat.le_trans S1.out (Nat.le_trans S2.out S3.out)))
    replace s_a0 := s_a0.keep (b.mono (Nat.le_trans S1.out (Nat.le_trans S2.out S3.out)))
    replace c_p0_0 := (b.cell (p := ⟨w0.heap.size, 0, none⟩) (Nat.lt_of_lt_of_le z_p0 (Nat.le_trans S2.out S3.out))).trans c_p0_0
    replace c_p0_1 := (b.cell (p := ⟨w0.heap.size, 1, none⟩) (Nat.lt_of_lt_of_le z_p0 (Nat.le_trans S2.out S3.out))).trans c_p0_1
    replace c_p0_2 := (b.cell (p := ⟨w0.heap.size, 2, none⟩) (Nat.lt_of_lt_of_le z_p0 (Nat.le_trans S2.out S3.out))).trans c_p0_2
    replace o_t0 := o_t0.keep b (Nat.le_refl _)
    replace bb := bb.trans (b.mono (Nat.le_trans S1.out (Nat.le_trans S2.out S3.out)))
    clear b
    have hn_t1 : n1 ≤ 1048576 := hn1
    go_wp2_with fail
    refine (quiet_s _ _ _ _ _ _ _ _ x0 x1 _ _ _ ((o_t0.sl hn_t0).more (S4.out)) ((o_t1.sl hn_t1).more (Nat.le_refl _)) h2 h3).mono ?_
    rintro e w5 ⟨qi, qp, qb, rfl, hQ, b⟩
    have S5 := Lib.hid b.size
    replace s_a1 := s_a1.keep (b.mono (Nat.le_trans S1.out (Nat.le_trans S2.out (Nat.le_trans S3.out S4.out))))
    replace s_a0 := s_a0.keep (b.mono (Nat.le_trans S1.out (Nat.le_trans S2.out (Nat.le_trans S3.out S4.out))))
    replace c_p0_0 := (b.cell (p := ⟨w0.heap.size, 0, none⟩) (Nat.lt_of_lt_of_le z_p0 (Nat.le_trans S2.out (Nat.le_trans S3.out S4.out)))).trans c_p0_0
    replace c_p0_1 := (b.cell (p := ⟨w0.heap.size, 1, none⟩) (Nat.lt_of_lt_of_le z_p0 (Nat.le_trans S2.out (Nat.le_trans S3.out S4.out)))).trans c_p0_1
    replace c_p0_2 := (b.cell (p := ⟨w0.heap.size, 2, none⟩) (Nat.lt_of_lt_of_le z_p0 (Nat.le_trans S2.out (Nat.le_trans S3.out S4.out)))).trans c_p0_2
    replace o_t0 := o_t0.keep b (S4.out)
    replace o_t1 := o_t1.keep b (Nat.le_refl _)
    replace bb := bb.trans (b.mono (Nat.le_trans S1.out (Nat.le_trans S2.out (Nat.le_trans S3.out S4.out))))
    clear b
    clear o_t1
    clear o_t0
    go_wp2_with fail
    refine (toM_any _ _ _ _ _ x0 _ (s_a0.more (Nat.le_trans S1.out (Nat.le_trans S2.out (Nat.le_trans S3.out (Nat.le_trans S4.out S5.out)))))).mono ?_
    rintro e w6 ⟨a_y0, c_y0, rfl, o_y0, b⟩
    have S6 := Lib.hid b.size
    replace s_a1 := s_a1.keep (b.mono (Nat.le_trans S1.out (Nat.le_trans S2.out (Nat.le_trans S3.out (Nat.le_trans S4.out S5.out)))))
    replace s_a0 := s_a0.keep (b.mono (Nat.le_trans S1.out (Nat.le_trans S2.out (Nat.le_trans S3.out (Nat.le_trans S4.out S5.out)))))
    replace c_p0_0 := (b.cell (p := ⟨w0.heap.size, 0, none⟩) (Nat.lt_of_lt_of_le z_p0 (Nat.le_trans S2.out (Nat.le_trans S3.out (Nat.le_trans S4.out S5.out))))).trans c_p0_0
    replace c_p0_1 := (b.cell (p := ⟨w0.heap.size, 1, none⟩) (Nat.lt_of_lt_of_le z_p0 (Nat.le_trans S2.out (Nat.le_trans S3.out (Nat.le_trans S4.out S5.out))))).trans c_p0_1
    replace c_p0_2 := (b.cell (p := ⟨w0.heap.size, 2, none⟩) (Nat.lt_of_lt_of_le z_p0 (Nat.le_trans S2.out (Nat.le_trans S3.out (Nat.le_trans S4.out S5.out))))).trans c_p0_2
    replace bb := bb.trans (b.mono (Nat.le_trans S1.out (Nat.le_trans S2.out (Nat.le_trans S3.out (Nat.le_trans S4.out S5.out)))))
    clear b
    have hn_y0 : n0 ≤ 1048576 := hn0
    go_wp2_with fail
    have c_b0_0 : (w6.alloc (.cells #[.int .i64 l0, .int .i64 s0, .slice a_y0 n0 c_y0] 27)).cell? ⟨w6.heap.size, 0, none⟩ = some (.int .i64 l0) := by simp [go_sem]
    have c_b0_1 : (w6.alloc (.cells #[.int .i64 l0, .int .i64 s0, .slice a_y0 n0 c_y0] 27)).cell? ⟨w6.heap.size, 1, none⟩ = some (.int .i64 s0) := by simp [go_sem]
    have c_b0_2 : (w6.alloc (.cells #[.int .i64 l0, .int .i64 s0, .slice a_y0 n0 c_y0] 27)).cell? ⟨w6.heap.size, 2, none⟩ = some (.slice a_y0 n0 c_y0) := by simp [go_sem]
    have z_b0 : w6.heap.size < (w6.alloc (.cells #[.int .i64 l0, .int .i64 s0, .slice a_y0 n0 c_y0] 27)).heap.size := by simp
    have b := box_below w6 (.cells #[.int .i64 l0, .int .i64 s0, .slice a_y0 n0 c_y0] 27)
    generalize hgw : (w6.alloc (.cells #[.int .i64 l0, .int .i64 s0, .slice a_y0 n0 c_y0] 27)) = w7 at c_b0_0 c_b0_1 c_b0_2 z_b0 b ⊢
    clear hgw
    have S7 := Lib.hid b.size
    replace s_a1 := s_a1.keep (b.mono (Nat.le_trans S1.out (Nat.le_trans S2.out (Nat.le_trans S3.out (Nat.le_trans S4.out (Nat.le_trans S5.out S6.out))))))
    replace s_a0 := s_a0.keep (b.mono (Nat.le_trans S1.out (Nat.le_trans S2.out (Nat.le_trans S3.out (Nat.le_trans S4.out (Nat.le_trans S5.out S6.out))))))
    replace c_p0_0 := (b.cell (p := ⟨w0.heap.size, 0, none⟩) (Nat.lt_of_lt_of_le z_p0 (Nat.le_trans S2.out (Nat.le_trans S3.out (Nat.le_trans S4.out (Nat.le_trans S5.out S6.out)))))).trans c_p0_0
    replace c_p0_1 := (b.cell (p := ⟨w0.heap.size, 1, none⟩) (Nat.lt_of_lt_of_le z_p0 (Nat.le_trans S2.out (Nat.le_trans S3.out (Nat.le_trans S4.out (Nat.le_trans S5.out S6.out)))))).trans c_p0_1
    replace c_p0_2 := (b.cell (p := ⟨w0.heap.size, 2, none⟩) (Nat.lt_of_lt_of_le z_p0 (Nat.le_trans S2.out (Nat.le_trans S3.out (Nat.le_trans S4.out (Nat.le_trans S5.out S6.out)))))).trans c_p0_2
    replace o_y0 := o_y0.keep b (Nat.le_refl _)
    replace bb := bb.trans (b.mono (Nat.le_trans S1.out (Nat.le_trans S2.out (Nat.le_trans S3.out (Nat.le_trans S4.out (Nat.le_trans S5.out S6.out))))))
    clear b
    go_wp2_with fail
    refine (toIntS_any _ _ _ x1 _ (s_a1.more (Nat.le_trans S1.out (Nat.le_trans S2.out (Nat.le_trans S3.out (Nat.le_trans S4.out (Nat.le_trans S5.out (Nat.le_trans S6.out S7.out)))))))).mono ?_
    rintro e w8 ⟨a_y1, c_y1, rfl, o_y1, b⟩
    have S8 := Lib.hid b.size
    replace s_a1 := s_a1.keep (b.mono (Nat.le_trans S1.out (Nat.le_trans S2.out (Nat.le_trans S3.out (Nat.le_trans S4.out (Nat.le_trans S5.out (Nat.le_trans S6.out S7.out)))))))
    replace s_a0 := s_a0.keep (b.mono (Nat.le_trans S1.out (Nat.le_trans S2.out (Nat.le_trans S3.out (Nat.le_trans S4.out (Nat.le_trans S5.out (Nat.le_trans S6.out S7.out)))))))
    replace c_p0_0 := (b.cell (p := ⟨w0.heap.size, 0, none⟩) (Nat.lt_of_lt_of_le z_p0 (Nat.le_trans S2.out (Nat.le_trans S3.out (Nat.le_trans S4.out (Nat.le_trans S5.out (Nat.le_trans S6.out S7.out))))))).trans c_p0_0
    replace c_p0_1 := (b.cell (p := ⟨w0.heap.size, 1, none⟩) (Nat.lt_of_lt_of_le z_p0 (Nat.le_trans S2.out (Nat.le_trans S3.out (Nat.le_trans S4.out (Nat.le_trans S5.out (Nat.le_trans S6.out S7.out))))))).trans c_p0_1
    replace c_p0_2 := (b.cell (p := ⟨w0.heap.size, 2, none⟩) (Nat.lt_of_lt_of_le z_p0 (Nat.le_trans S2.out (Nat.le_trans S3.out (Nat.le_trans S4.out (Nat.le_trans S5.out (Nat.le_trans S6.out S7.out))))))).trans c_p0_2
    replace o_y0 := o_y0.keep b (S7.out)
    replace c_b0_0 := (b.cell (p := ⟨w6.heap.size, 0, none⟩) (Nat.lt_of_lt_of_le z_b0 (Nat.le_refl _))).trans c_b0_0
    replace c_b0_1 := (b.cell (p := ⟨w6.heap.size, 1, none⟩) (Nat.lt_of_lt_of_le z_b0 (Nat.le_refl _))).trans c_b0_1
    replace c_b0_2 := (b.cell (p := ⟨w6.heap.size, 2, none⟩) (Nat.lt_of_lt_of_le z_b0 (Nat.le_refl _))).trans c_b0_2
    replace bb := bb.trans (b.mono (Nat.le_trans S1.out (Nat.le_trans S2.out (Nat.le_trans S3.out (Nat.le_trans S4.out (Nat.le_trans S5.out (Nat.le_trans S6.out S7.out)))))))
    clear b
    have hn_y1 : n1 ≤ 1048576 := hn1
    go_wp2_with fail
    refine (quiet_i _ _ _ _ _ _ _ _ x0 x1 _ _ _ ((o_y0.sl hn_y0).more (Nat.le_trans S7.out S8.out)) ((o_y1.sl hn_y1).more (Nat.le_refl _)) h2 h3).mono ?_
    rintro e w9 ⟨qi2, qp2, qb2, rfl, hQ2, b⟩
    obtain ⟨rfl, rfl, rfl⟩ := QuietIs.unique hQ hQ2
    clear hQ hQ2
    have S9 := Lib.hid b.size
    replace s_a1 := s_a1.keep (b.mono (Nat.le_trans S1.out (Nat.le_trans S2.out (Nat.le_trans S3.out (Nat.le_trans S4.out (Nat.le_trans S5.out (Nat.le_trans S6.out (Nat.le_trans S7.out S8.out))))))))
    replace s_a0 := s_a0.keep (b.mono (Nat.le_trans S1.out (Nat.le_trans S2.out (Nat.le_trans S3.out (Nat.le_trans S4.out (Nat.le_trans S5.out (Nat.le_trans S6.out (Nat.le_trans S7.out S8.out))))))))
    replace c_p0_0 := (b.cell (p := ⟨w0.heap.size, 0, none⟩) (Nat.lt_of_lt_of_le z_p0 (Nat.le_trans S2.out (Nat.le_trans S3.out (Nat.le_trans S4.out (Nat.le_trans S5.out (Nat.le_trans S6.out (Nat.le_trans S7.out S8.out)))))))).trans c_p0_0
    replace c_p0_1 := (b.cell (p := ⟨w0.heap.size, 1, none⟩) (Nat.lt_of_lt_of_le z_p0 (Nat.le_trans S2.out (Nat.le_trans S3.out (Nat.le_trans S4.out (Nat.le_trans S5.out (Nat.le_trans S6.out (Nat.le_trans S7.out S8.out)))))))).trans c_p0_1
    replace c_p0_2 := (b.cell (p := ⟨w0.heap.size, 2, none⟩) (Nat.lt_of_lt_of_le z_p0 (Nat.le_trans S2.out (Nat.le_trans S3.out (Nat.le_trans S4.out (Nat.le_trans S5.out (Nat.le_trans S6.out (Nat.le_trans S7.out S8.out)))))))).trans c_p0_2
    replace o_y0 := o_y0.keep b (Nat.le_trans S7.out S8.out)
    replace c_b0_0 := (b.cell (p := ⟨w6.heap.size, 0, none⟩) (Nat.lt_of_lt_of_le z_b0 (S8.out))).trans c_b0_0
    replace c_b0_1 := (b.cell (p := ⟨w6.heap.size, 1, none⟩) (Nat.lt_of_lt_of_le z_b0 (S8.out))).trans c_b0_1
    replace c_b0_2 := (b.cell (p := ⟨w6.heap.size, 2, none⟩) (Nat.lt_of_lt_of_le z_b0 (S8.out))).trans c_b0_2
    replace o_y1 := o_y1.keep b (Nat.le_refl _)
    replace bb := bb.trans (b.mono (Nat.le_trans S1.out (Nat.le_trans S2.out (Nat.le_trans S3.out (Nat.le_trans S4.out (Nat.le_trans S5.out (Nat.le_trans S6.out (Nat.le_trans S7.out S8.out))))))))
    clear b
    go_wp2_with fail
    have S10 : Hid (w9.heap.size ≤ w9.drew.heap.size) := Nat.le_refl _
    replace s_a1 := s_a1.drew
    replace s_a0 := s_a0.drew
    replace c_p0_0 : w9.drew.cell? ⟨w0.heap.size, 0, none⟩ = some (.int .i64 l0) := c_p0_0
    replace c_p0_1 : w9.drew.cell? ⟨w0.heap.size, 1, none⟩ = some (.int .i64 s0) := c_p0_1
    replace c_p0_2 : w9.drew.cell? ⟨w0.heap.size, 2, none⟩ = some (.slice a0 n0 c0) := c_p0_2
    replace o_y0 := o_y0.drew
    replace c_b0_0 : w9.drew.cell? ⟨w6.heap.size, 0, none⟩ = some (.int .i64 l0) := c_b0_0
    replace c_b0_1 : w9.drew.cell? ⟨w6.heap.size, 1, none⟩ = some (.int .i64 s0) := c_b0_1
    replace c_b0_2 : w9.drew.cell? ⟨w6.heap.size, 2, none⟩ = some (.slice a_y0 n0 c_y0) := c_b0_2
    replace o_y1 := o_y1.drew
    replace bb := bb.drew
    go_region_held3 (fun w' => w'.cell? ⟨w6.heap.size, 0, none⟩ = some (.int .i64 l0) ∧ w'.cell? ⟨w6.heap.size, 1, none⟩ = some (.int .i64 s0) ∧ w'.cell? ⟨w6.heap.size, 2, none⟩ = some (.slice a_y0 n0 c_y0) ∧ w'.cell? ⟨w0.heap.size, 0, none⟩ = some (.int .i64 l0) ∧ w'.cell? ⟨w0.heap.size, 1, none⟩ = some (.int .i64 s0) ∧ w'.cell? ⟨w0.heap.size, 2, none⟩ = some (.slice a0 n0 c0)) (go_keep) (first | (go_at_call 40; refine (toM_any _ _ _ _ _ x0 _ (s_a0.more (Nat.le_trans S1.out (Nat.le_trans S2.out (Nat.le_trans S3.out (Nat.le_trans S4.out (Nat.le_trans S5.out (Nat.le_trans S6.out (Nat.le_trans S7.out (Nat.le_trans S8.out (Nat.le_trans S9.out S10.out))))))))))).mono ?_; rintro e w11 ⟨a_u0, c_u0, rfl, o_u0, b⟩; have S11 := Lib.hid b.size; replace s_a1 := s_a1.keep (b.mono (Nat.le_trans S1.out (Nat.le_trans S2.out (Nat.le_trans S3.out (Nat.le_trans S4.out (Nat.le_trans S5.out (Nat.le_trans S6.out (Nat.le_trans S7.out (Nat.le_trans S8.out (Nat.le_trans S9.out S10.out)))))))))); replace s_a0 := s_a0.keep (b.mono (Nat.le_trans S1.out (Nat.le_trans S2.out (Nat.le_trans S3.out (Nat.le_trans S4.out (Nat.le_trans S5.out (Nat.le_trans S6.out (Nat.le_trans S7.out (Nat.le_trans S8.out (Nat.le_trans S9.out S10.out)))))))))); replace c_p0_0 := (b.cell (p := ⟨w0.heap.size, 0, none⟩) (Nat.lt_of_lt_of_le z_p0 (Nat.le_trans S2.out (Nat.le_trans S3.out (Nat.le_trans S4.out (Nat.le_trans S5.out (Nat.le_trans S6.out (Nat.le_trans S7.out (Nat.le_trans S8.out (Nat.le_trans S9.out S10.out)))))))))).trans c_p0_0; replace c_p0_1 := (b.cell (p := ⟨w0.heap.size, 1, none⟩) (Nat.lt_of_lt_of_le z_p0 (Nat.le_trans S2.out (Nat.le_trans S3.out (Nat.le_trans S4.out (Nat.le_trans S5.out (Nat.le_trans S6.out (Nat.le_trans S7.out (Nat.le_trans S8.out (Nat.le_trans S9.out S10.out)))))))))).trans c_p0_1; replace c_p0_2 := (b.cell (p := ⟨w0.heap.size, 2, none⟩) (Nat.lt_of_lt_of_le z_p0 (Nat.le_trans S2.out (Nat.le_trans S3.out (Nat.le_trans S4.out (Nat.le_trans S5.out (Nat.le_trans S6.out (Nat.le_trans S7.out (Nat.le_trans S8.out (Nat.le_trans S9.out S10.out)))))))))).trans c_p0_2; replace o_y0 := o_y0.keep b (Nat.le_trans S7.out (Nat.le_trans S8.out (Nat.le_trans S9.out S10.out))); replace c_b0_0 := (b.cell (p := ⟨w6.heap.size, 0, none⟩) (Nat.lt_of_lt_of_le z_b0 (Nat.le_trans S8.out (Nat.le_trans S9.out S10.out)))).trans c_b0_0; replace c_b0_1 := (b.cell (p := ⟨w6.heap.size, 1, none⟩) (Nat.lt_of_lt_of_le z_b0 (Nat.le_trans S8.out (Nat.le_trans S9.out S10.out)))).trans c_b0_1; replace c_b0_2 := (b.cell (p := ⟨w6.heap.size, 2, none⟩) (Nat.lt_of_lt_of_le z_b0 (Nat.le_trans S8.out (Nat.le_trans S9.out S10.out)))).trans c_b0_2; replace o_y1 := o_y1.keep b (Nat.le_trans S9.out S10.out); replace bb := bb.trans (b.mono (Nat.le_trans S1.out (Nat.le_trans S2.out (Nat.le_trans S3.out (Nat.le_trans S4.out (Nat.le_trans S5.out (Nat.le_trans S6.out (Nat.le_trans S7.out (Nat.le_trans S8.out (Nat.le_trans S9.out S10.out)))))))))); clear b; have hn_u0 : n0 ≤ 1048576 := hn0) | (go_at_call 42; refine (eqM_true _ _ _ _ _ _ _ x0 _ ((o_y0.sl hn_y0).more (Nat.le_trans S7.out (Nat.le_trans S8.out (Nat.le_trans S9.out (Nat.le_trans S10.out S11.out))))) ((o_u0.sl hn_u0).more (Nat.le_refl _))).mono ?_; rintro e w12 ⟨rfl, b⟩; have S12 := Lib.hid b.size; replace s_a1 := s_a1.keep (b.mono (Nat.le_trans S1.out (Nat.le_trans S2.out (Nat.le_trans S3.out (Nat.le_trans S4.out (Nat.le_trans S5.out (Nat.le_trans S6.out (Nat.le_trans S7.out (Nat.le_trans S8.out (Nat.le_trans S9.out (Nat.le_trans S10.out S11.out))))))))))); replace s_a0 := s_a0.keep (b.mono (Nat.le_trans S1.out (Nat.le_trans S2.out (Nat.le_trans S3.out (Nat.le_trans S4.out (Nat.le_trans S5.out (Nat.le_trans S6.out (Nat.le_trans S7.out (Nat.le_trans S8.out (Nat.le_trans S9.out (Nat.le_trans S10.out S11.out))))))))))); replace c_p0_0 := (b.cell (p := ⟨w0.heap.size, 0, none⟩) (Nat.lt_of_lt_of_le z_p0 (Nat.le_trans S2.out (Nat.le_trans S3.out (Nat.le_trans S4.out (Nat.le_trans S5.out (Nat.le_trans S6.out (Nat.le_trans S7.out (Nat.le_trans S8.out (Nat.le_trans S9.out (Nat.le_trans S10.out S11.out))))))))))).trans c_p0_0; replace c_p0_1 := (b.cell (p := ⟨w0.heap.size, 1, none⟩) (Nat.lt_of_lt_of_le z_p0 (Nat.le_trans S2.out (Nat.le_trans S3.out (Nat.le_trans S4.out (Nat.le_trans S5.out (Nat.le_trans S6.out (Nat.le_trans S7.out (Nat.le_trans S8.out (Nat.le_trans S9.out (Nat.le_trans S10.out S11.out))))))))))).trans c_p0_1; replace c_p0_2 := (b.cell (p := ⟨w0.heap.size, 2, none⟩) (Nat.lt_of_lt_of_le z_p0 (Nat.le_trans S2.out (Nat.le_trans S3.out (Nat.le_trans S4.out (Nat.le_trans S5.out (Nat.le_trans S6.out (Nat.le_trans S7.out (Nat.le_trans S8.out (Nat.le_trans S9.out (Nat.le_trans S10.out S11.out))))))))))).trans c_p0_2; replace o_y0 := o_y0.keep b (Nat.le_trans S7.out (Nat.le_trans S8.out (Nat.le_trans S9.out (Nat.le_trans S10.out S11.out)))); replace c_b0_0 := (b.cell (p := ⟨w6.heap.size, 0, none⟩) (Nat.lt_of_lt_of_le z_b0 (Nat.le_trans S8.out (Nat.le_trans S9.out (Nat.le_trans S10.out S11.out))))).trans c_b0_0; replace c_b0_1 := (b.cell (p := ⟨w6.heap.size, 1, none⟩) (Nat.lt_of_lt_of_le z_b0 (Nat.le_trans S8.out (Nat.le_trans S9.out (Nat.le_trans S10.out S11.out))))).trans c_b0_1; replace c_b0_2 := (b.cell (p := ⟨w6.heap.size, 2, none⟩) (Nat.lt_of_lt_of_le z_b0 (Nat.le_trans S8.out (Nat.le_trans S9.out (Nat.le_trans S10.out S11.out))))).trans c_b0_2; replace o_y1 := o_y1.keep b (Nat.le_trans S9.out (Nat.le_trans S10.out S11.out)); replace o_u0 := o_u0.keep b (Nat.le_refl _); replace bb := bb.trans (b.mono (Nat.le_trans S1.out (Nat.le_trans S2.out (Nat.le_trans S3.out (Nat.le_trans S4.out (Nat.le_trans S5.out (Nat.le_trans S6.out (Nat.le_trans S7.out (Nat.le_trans S8.out (Nat.le_trans S9.out (Nat.le_trans S10.out S11.out))))))))))); clear b))
    clear o_u0
    go_wp2_with fail
    refine (toIntS_any _ _ _ x1 _ (s_a1.more (Nat.le_trans S1.out (Nat.le_trans S2.out (Nat.le_trans S3.out (Nat.le_trans S4.out (Nat.le_trans S5.out (Nat.le_trans S6.out (Nat.le_trans S7.out (Nat.le_trans S8.out (Nat.le_trans S9.out (Nat.le_trans S10.out (Nat.le_trans S11.out S12.out))))))))))))).mono ?_
    rintro e w13 ⟨a_u1, c_u1, rfl, o_u1, b⟩
    have S13 := Lib.hid b.size
    replace s_a1 := s_a1.keep (b.mono (Nat.le_trans S1.out (Nat.le_trans S2.out (Nat.le_trans S3.out (Nat.le_trans S4.out (Nat.le_trans S5.out (Nat.le_trans S6.out (Nat.le_trans S7.out (Nat.le_trans S8.out (Nat.le_trans S9.out (Nat.le_trans S10.out (Nat.le_trans S11.out S12.out))))))))))))
    replace s_a0 := s_a0.keep (b.mono (Nat.le_trans S1.out (Nat.le_trans S2.out (Nat.le_trans S3.out (Nat.le_trans S4.out (Nat.le_trans S5.out (Nat.le_trans S6.out (Nat.le_trans S7.out (Nat.le_trans S8.out (Nat.le_trans S9.out (Nat.le_trans S10.out (Nat.le_trans S11.out S12.out))))))))))))
    replace c_p0_0 := (b.cell (p := ⟨w0.heap.size, 0, none⟩) (Nat.lt_of_lt_of_le z_p0 (Nat.le_trans S2.out (Nat.le_trans S3.out (Nat.le_trans S4.out (Nat.le_trans S5.out (Nat.le_trans S6.out (Nat.le_trans S7.out (Nat.le_trans S8.out (Nat.le_trans S9.out (Nat.le_trans S10.out (Nat.le_trans S11.out S12.out)))))))))))).trans c_p0_0
    replace c_p0_1 := (b.cell (p := ⟨w0.heap.size, 1, none⟩) (Nat.lt_of_lt_of_le z_p0 (Nat.le_trans S2.out (Nat.le_trans S3.out (Nat.le_trans S4.out (Nat.le_trans S5.out (Nat.le_trans S6.out (Nat.le_trans S7.out (Nat.le_trans S8.out (Nat.le_trans S9.out (Nat.le_trans S10.out (Nat.le_trans S11.out S12.out)))))))))))).trans c_p0_1
    replace c_p0_2 := (b.cell (p := ⟨w0.heap.size, 2, none⟩) (Nat.lt_of_lt_of_le z_p0 (Nat.le_trans S2.out (Nat.le_trans S3.out (Nat.le_trans S4.out (Nat.le_trans S5.out (Nat.le_trans S6.out (Nat.le_trans S7.out (Nat.le_trans S8.out (Nat.le_trans S9.out (Nat.le_trans S10.out (Nat.le_trans S11.out S12.out)))))))))))).trans c_p0_2
    replace o_y0 := o_y0.keep b (Nat.le_trans S7.out (Nat.le_trans S8.out (Nat.le_trans S9.out (Nat.le_trans S10.out (Nat.le_trans S11.out S12.out)))))
    replace c_b0_0 := (b.cell (p := ⟨w6.heap.size, 0, none⟩) (Nat.lt_of_lt_of_le z_b0 (Nat.le_trans S8.out (Nat.le_trans S9.out (Nat.le_trans S10.out (Nat.le_trans S11.out S12.out)))))).trans c_b0_0
    replace c_b0_1 := (b.cell (p := ⟨w6.heap.size, 1, none⟩) (Nat.lt_of_lt_of_le z_b0 (Nat.le_trans S8.out (Nat.le_trans S9.out (Nat.le_trans S10.out (Nat.le_trans S11.out S12.out)))))).trans c_b0_1
    replace c_b0_2 := (b.cell (p := ⟨w6.heap.size, 2, none⟩) (Nat.lt_of_lt_of_le z_b0 (Nat.le_trans S8.out (Nat.le_trans S9.out (Nat.le_trans S10.out (Nat.le_trans S11.out S12.out)))))).trans c_b0_2
    replace o_y1 := o_y1.keep b (Nat.le_trans S9.out (Nat.le_trans S10.out (Nat.le_trans S11.out S12.out)))
    replace bb := bb.trans (b.mono (Nat.le_trans S1.out (Nat.le_trans S2.out (Nat.le_trans S3.out (Nat.le_trans S4.out (Nat.le_trans S5.out (Nat.le_trans S6.out (Nat.le_trans S7.out (Nat.le_trans S8.out (Nat.le_trans S9.out (Nat.le_trans S10.out (Nat.le_trans S11.out S12.out))))))))))))
    clear b
    have hn_u1 : n1 ≤ 1048576 := hn1
    go_wp2_with fail
    refine (eqIntS_true _ _ _ _ _ _ _ ((o_y1.sl hn_y1).more (Nat.le_trans S9.out (Nat.le_trans S10.out (Nat.le_trans S11.out (Nat.le_trans S12.out S13.out))))) ((o_u1.sl hn_u1).more (Nat.le_refl _))).mono ?_
    rintro e w14 ⟨rfl, b⟩
    have S14 := Lib.hid b.size
    replace s_a1 := s_a1.keep (b.mono (Nat.le_trans S1.out (Nat.le_trans S2.out (Nat.le_trans S3.out (Nat.le_trans S4.out (Nat.le_trans S5.out (Nat.le_trans S6.out (Nat.le_trans S7.out (Nat.le_trans S8.out (Nat.le_trans S9.out (Nat.le_trans S10.out (Nat.le_trans S11.out (Nat.le_trans S12.out S13.out)))))))))))))
    replace s_a0 := s_a0.keep (b.mono (Nat.le_trans S1.out (Nat.le_trans S2.out (Nat.le_trans S3.out (Nat.le_trans S4.out (Nat.le_trans S5.out (Nat.le_trans S6.out (Nat.le_trans S7.out (Nat.le_trans S8.out (Nat.le_trans S9.out (Nat.le_trans S10.out (Nat.le_trans S11.out (Nat.le_trans S12.out S13.out)))))))))))))
    replace c_p0_0 := (b.cell (p := ⟨w0.heap.size, 0, none⟩) (Nat.lt_of_lt_of_le z_p0 (Nat.le_trans S2.out (Nat.le_trans S3.out (Nat.le_trans S4.out (Nat.le_trans S5.out (Nat.le_trans S6.out (Nat.le_trans S7.out (Nat.le_trans S8.out (Nat.le_trans S9.out (Nat.le_trans S10.out (Nat.le_trans S11.out (Nat.le_trans S12.out S13.out))))))))))))).trans c_p0_0
    replace c_p0_1 := (b.cell (p := ⟨w0.heap.size, 1, none⟩) (Nat.lt_of_lt_of_le z_p0 (Nat.le_trans S2.out (Nat.le_trans S3.out (Nat.le_trans S4.out (Nat.le_trans S5.out (Nat.le_trans S6.out (Nat.le_trans S7.out (Nat.le_trans S8.out (Nat.le_trans S9.out (Nat.le_trans S10.out (Nat.le_trans S11.out (Nat.le_trans S12.out S13.out))))))))))))).trans c_p0_1
    replace c_p0_2 := (b.cell (p := ⟨w0.heap.size, 2, none⟩) (Nat.lt_of_lt_of_le z_p0 (Nat.le_trans S2.out (Nat.le_trans S3.out (Nat.le_trans S4.out (Nat.le_trans S5.out (Nat.le_trans S6.out (Nat.le_trans S7.out (Nat.le_trans S8.out (Nat.le_trans S9.out (Nat.le_trans S10.out (Nat.le_trans S11.out (Nat.le_trans S12.out S13.out))))))))))))).trans c_p0_2
    replace o_y0 := o_y0.keep b (Nat.le_trans S7.out (Nat.le_trans S8.out (Nat.le_trans S9.out (Nat.le_trans S10.out (Nat.le_trans S11.out (Nat.le_trans S12.out S13.out))))))
    replace c_b0_0 := (b.cell (p := ⟨w6.heap.size, 0, none⟩) (Nat.lt_of_lt_of_le z_b0 (Nat.le_trans S8.out (Nat.le_trans S9.out (Nat.le_trans S10.out (Nat.le_trans S11.out (Nat.le_trans S12.out S13.out))))))).trans c_b0_0
    replace c_b0_1 := (b.cell (p := ⟨w6.heap.size, 1, none⟩) (Nat.lt_of_lt_of_le z_b0 (Nat.le_trans S8.out (Nat.le_trans S9.out (Nat.le_trans S10.out (Nat.le_trans S11.out (Nat.le_trans S12.out S13.out))))))).trans c_b0_1
    replace c_b0_2 := (b.cell (p := ⟨w6.heap.size, 2, none⟩) (Nat.lt_of_lt_of_le z_b0 (Nat.le_trans S8.out (Nat.le_trans S9.out (Nat.le_trans S10.out (Nat.le_trans S11.out (Nat.le_trans S12.out S13.out))))))).trans c_b0_2
    replace o_y1 := o_y1.keep b (Nat.le_trans S9.out (Nat.le_trans S10.out (Nat.le_trans S11.out (Nat.le_trans S12.out S13.out))))
    replace o_u1 := o_u1.keep b (Nat.le_refl _)
    replace bb := bb.trans (b.mono (Nat.le_trans S1.out (Nat.le_trans S2.out (Nat.le_trans S3.out (Nat.le_trans S4.out (Nat.le_trans S5.out (Nat.le_trans S6.out (Nat.le_trans S7.out (Nat.le_trans S8.out (Nat.le_trans S9.out (Nat.le_trans S10.out (Nat.le_trans S11.out (Nat.le_trans S12.out S13.out)))))))))))))
    clear b
    clear o_u1
    go_wp2_with fail
    go_ret
    exact ⟨rfl, bb⟩

set_option maxRecDepth 100000 in
set_option maxHeartbeats 400000 in
theorem fnExactQuietFrom_walk (l0 s0 : Int) (a0 : Option Addr) (n0 c0 : Nat) (x0 : List Int) (a1 : Option Addr) (n1 c1 : Nat) (x1 : List Int) (a2 : Int) (a3 : Int) (w : World) (h0 : (Wf l0 ∧ Wf s0) ∧ IsRow .i64 w a0 n0 c0 x0) (h1 : IsRow .i64 w a1 n1 c1 x1) (h2 : Wf a2) (h3 : Wf a3) :
    Calls Try.prog 8 #[.agg #[.int .i64 l0, .int .i64 s0, .slice a0 n0 c0], .slice a1 n1 c1, .int .i64 a2, .int .i64 a3] w fun e w' => e = .returned (.bool true) ∧ Below w.heap.size w w' := by
  have hle1 := h1.le
  have hle0 := h0.2.le
  by_cases hn1 : n1 ≤ 1048576
  rotate_left
  · go_enter Try.func8, Try.ntmps8
    go_wp2_with fail
    go_ret
    exact ⟨rfl, box_below _ _⟩
  by_cases hn0 : n0 ≤ 1048576
  rotate_left
  · go_enter Try.func8, Try.ntmps8
    go_wp2_with fail
    refine (szM_over _ _ _ _ _ _ (by omega)).mono ?_
    rintro e w1 ⟨rfl, b⟩
    go_wp2_with fail
    go_ret
    exact ⟨rfl, box_then b⟩
  exact fnExactQuietFrom_core _ _ _ _ _ _ _ _ _ _ _ _ w h0.1 (h0.2.sl hn0) (h1.sl hn1) h2 h3
end Go.Proofs.Ytmgjbldnohkodaa
