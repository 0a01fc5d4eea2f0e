/- The walk of the law FnExactStepModulator: it returns true and leaves what was there as it was. -/
import Derived.Test.YtfcojfccajofpaaMod3
import Derived.Test.YtfcojfccajofpaaLawM
namespace Go.Proofs.Ytfcojfccajofpaa
open Go.RowKit
set_option linter.unusedVariables false
set_option maxRecDepth 100000 in
set_option maxHeartbeats 4000000 in
theorem fnExactStepModulator_core (l0 s0 : Int) (a0 : Option Addr) (n0 c0 : Nat) (x0 : List Int) (a1 : Option Addr) (n1 c1 : Nat) (x1 : List Int) (a2 : Int) (w0 : World) (h0 : Wf l0 ∧ Wf s0) (s_a0 : Sl w0 w0.heap.size a0 n0 c0 x0) (s_a1 : Sl w0 w0.heap.size a1 n1 c1 x1) (h2 : Wf a2) :
    Calls Try.prog 10 #[.agg #[.int .i64 l0, .int .i64 s0, .slice a0 n0 c0], .slice a1 n1 c1, .int .i64 a2] w0 fun e w' => e = .returned (.bool true) ∧ Below w0.heap.size w0 w' := by
    have hn1 : n1 ≤ 1048576 := s_a1.2.2.1
    have hn0 : n0 ≤ 1048576 := s_a0.2.2.1
    have bb := Below.refl w0.heap.size w0
    go_enter Try.func10, Try.ntmps10
    go_wp2_with fail
    have c_p0_0 : (w0.alloc (.cells #[.int .i64 l0, .int .i64 s0, .slice a0 n0 c0] 26)).cell? ⟨w0.heap.size, 0, none⟩ = some (.int .i64 l0) := by simp [go_sem]
    have c_p0_1 : (w0.alloc (.cells #[.int .i64 l0, .int .i64 s0, .slice a0 n0 c0] 26)).cell? ⟨w0.heap.size, 1, none⟩ = some (.int .i64 s0) := by simp [go_sem]
    have c_p0_2 : (w0.alloc (.cells #[.int .i64 l0, .int .i64 s0, .slice a0 n0 c0] 26)).cell? ⟨w0.heap.size, 2, none⟩ = some (.slice a0 n0 c0) := by simp [go_sem]
    have z_p0 : w0.heap.size < (w0.alloc (.cells #[.int .i64 l0, .int .i64 s0, .slice a0 n0 c0] 26)).heap.size := by simp
    have b := box_below w0 (.cells #[.int .i64 l0, .int .i64 s0, .slice a0 n0 c0] 26)
    generalize hgw : (w0.alloc (.cells #[.int .i64 l0, .int .i64 s0, .slice a0 n0 c0] 26)) = w1 at c_p0_0 c_p0_1 c_p0_2 z_p0 b ⊢
    clear hgw
    have S1 := Lib.hid b.size
    replace s_a1 := s_a1.keep (b.mono (Nat.le_refl _))
    replace s_a0 := s_a0.keep (b.mono (Nat.le_refl _))
    replace bb := bb.trans (b.mono (Nat.le_refl _))
    clear b
    go_wp2_with fail
    refine (szM_any _ _ _ _ _ _ (by omega)).mono ?_
    rintro e w2 ⟨rfl, b⟩
    have S2 := Lib.hid b.size
    replace s_a1 := s_a1.keep (b.mono (S1.out))
    replace s_a0 := s_a0.keep (b.mono (S1.out))
    replace c_p0_0 := (b.cell (p := ⟨w0.heap.size, 0, none⟩) (Nat.lt_of_lt_of_le z_p0 (Nat.le_refl _))).trans c_p0_0
    replace c_p0_1 := (b.cell (p := ⟨w0.heap.size, 1, none⟩) (Nat.lt_of_lt_of_le z_p0 (Nat.le_refl _))).trans c_p0_1
    replace c_p0_2 := (b.cell (p := ⟨w0.heap.size, 2, none⟩) (Nat.lt_of_lt_of_le z_p0 (Nat.le_refl _))).trans c_p0_2
    replace bb := bb.trans (b.mono (S1.out))
    clear b
    go_wp2_with fail
    refine (toM_any _ _ _ _ _ x0 _ (s_a0.more (Nat.le_trans S1.out S2.out))).mono ?_
    rintro e w3 ⟨a_t0, c_t0, rfl, o_t0, b⟩
    have S3 := Lib.hid b.size
    replace s_a1 := s_a1.keep (b.mono (Nat.le_trans S1.out S2.out))
    replace s_a0 := s_a0.keep (b.mono (Nat.le_trans S1.out S2.out))
    replace c_p0_0 := (b.cell (p := ⟨w0.heap.size, 0, none⟩) (Nat.lt_of_lt_of_le z_p0 (S2.out))).trans c_p0_0
    replace c_p0_1 := (b.cell (p := ⟨w0.heap.size, 1, none⟩) (Nat.lt_of_lt_of_le z_p0 (S2.out))).trans c_p0_1
    replace c_p0_2 := (b.cell (p := ⟨w0.heap.size, 2, none⟩) (Nat.lt_of_lt_of_le z_p0 (S2.out))).trans c_p0_2
    replace bb := bb.trans (b.mono (Nat.le_trans S1.out S2.out))
    clear b
    have hn_t0 : n0 ≤ 1048576 := hn0
    go_wp2_with fail
    refine (toIntS_any _ _ _ x1 _ (s_a1.more (Nat.le_trans S1.out (Nat.le_trans S2.out S3.out)))).mono ?_
    rintro e w4 ⟨a_t1, c_t1, rfl, o_t1, b⟩
    have S4 := Lib.hid b.size
    replace s_a1 := s_a1.keep (b.mono (Nat.le_trans S1.out (Nat.le_trans S2.out S3.out)))
    replace s_a0 := s_a0.keep (b.mono (Nat.le_trans S1.out (Nat.le_trans S2.out S3.out)))
    replace c_p0_0 := (b.cell (p := ⟨w0.heap.size, 0, none⟩) (Nat.lt_of_lt_of_le z_p0 (Nat.le_trans S2.out S3.out))).trans c_p0_0
    replace c_p0_1 := (b.cell (p := ⟨w0.heap.size, 1, none⟩) (Nat.lt_of_lt_of_le z_p0 (Nat.le_trans S2.out S3.out))).trans c_p0_1
    replace c_p0_2 := (b.cell (p := ⟨w0.heap.size, 2, none⟩) (Nat.lt_of_lt_of_le z_p0 (Nat.le_trans S2.out S3.out))).trans c_p0_2
    replace o_t0 := o_t0.keep b (Nat.le_refl _)
    replace bb := bb.trans (b.mono (Nat.le_trans S1.out (Nat.le_trans S2.out S3.out)))
    clear b
    have hn_t1 : n1 ≤ 1048576 := hn1
    go_wp2_with fail
    refine (step_s _ _ _ _ _ _ _ _ x0 x1 _ _ ((o_t0.sl hn_t0).more (S4.out)) ((o_t1.sl hn_t1).more (Nat.le_refl _))).mono ?_
    rintro e w5 ⟨a_r, n_r, c_r, rfl, o_r, b⟩
    have S5 := Lib.hid b.size
    replace s_a1 := s_a1.keep (b.mono (Nat.le_trans S1.out (Nat.le_trans S2.out (Nat.le_trans S3.out S4.out))))
    replace s_a0 := s_a0.keep (b.mono (Nat.le_trans S1.out (Nat.le_trans S2.out (Nat.le_trans S3.out S4.out))))
    replace c_p0_0 := (b.cell (p := ⟨w0.heap.size, 0, none⟩) (Nat.lt_of_lt_of_le z_p0 (Nat.le_trans S2.out (Nat.le_trans S3.out S4.out)))).trans c_p0_0
    replace c_p0_1 := (b.cell (p := ⟨w0.heap.size, 1, none⟩) (Nat.lt_of_lt_of_le z_p0 (Nat.le_trans S2.out (Nat.le_trans S3.out S4.out)))).trans c_p0_1
    replace c_p0_2 := (b.cell (p := ⟨w0.heap.size, 2, none⟩) (Nat.lt_of_lt_of_le z_p0 (Nat.le_trans S2.out (Nat.le_trans S3.out S4.out)))).trans c_p0_2
    replace o_t0 := o_t0.keep b (S4.out)
    replace o_t1 := o_t1.keep b (Nat.le_refl _)
    replace bb := bb.trans (b.mono (Nat.le_trans S1.out (Nat.le_trans S2.out (Nat.le_trans S3.out S4.out))))
    clear b
    have hn_r : n_r ≤ 1048576 := by rw [← o_r.len]; exact stepM_len _ _ _ _ _
    clear o_t1
    clear o_t0
    go_wp2_with fail
    refine (toM_any _ _ _ _ _ x0 _ (s_a0.more (Nat.le_trans S1.out (Nat.le_trans S2.out (Nat.le_trans S3.out (Nat.le_trans S4.out S5.out)))))).mono ?_
    rintro e w6 ⟨a_y0, c_y0, rfl, o_y0, b⟩
    have S6 := Lib.hid b.size
    replace s_a1 := s_a1.keep (b.mono (Nat.le_trans S1.out (Nat.le_trans S2.out (Nat.le_trans S3.out (Nat.le_trans S4.out S5.out)))))
    replace s_a0 := s_a0.keep (b.mono (Nat.le_trans S1.out (Nat.le_trans S2.out (Nat.le_trans S3.out (Nat.le_trans S4.out S5.out)))))
    replace c_p0_0 := (b.cell (p := ⟨w0.heap.size, 0, none⟩) (Nat.lt_of_lt_of_le z_p0 (Nat.le_trans S2.out (Nat.le_trans S3.out (Nat.le_trans S4.out S5.out))))).trans c_p0_0
    replace c_p0_1 := (b.cell (p := ⟨w0.heap.size, 1, none⟩) (Nat.lt_of_lt_of_le z_p0 (Nat.le_trans S2.out (Nat.le_trans S3.out (Nat.le_trans S4.out S5.out))))).trans c_p0_1
    replace c_p0_2 := (b.cell (p := ⟨w0.heap.size, 2, none⟩) (Nat.lt_of_lt_of_le z_p0 (Nat.le_trans S2.out (Nat.le_trans S3.out (Nat.le_trans S4.out S5.out))))).trans c_p0_2
    replace o_r := o_r.keep b (Nat.le_refl _)
    replace bb := bb.trans (b.mono (Nat.le_trans S1.out (Nat.le_trans S2.out (Nat.le_trans S3.out (Nat.le_trans S4.out S5.out)))))
    clear b
    have hn_y0 : n0 ≤ 1048576 := hn0
    go_wp2_with fail
    have c_b0_0 : (w6.alloc (.cells #[.int .i64 l0, .int .i64 s0, .slice a_y0 n0 c_y0] 31)).cell? ⟨w6.heap.size, 0, none⟩ = some (.int .i64 l0) := by simp [go_sem]
    have c_b0_1 : (w6.alloc (.cells #[.int .i64 l0, .int .i64 s0, .slice a_y0 n0 c_y0] 31)).cell? ⟨w6.heap.size, 1, none⟩ = some (.int .i64 s0) := by simp [go_sem]
    have c_b0_2 : (w6.alloc (.cells #[.int .i64 l0, .int .i64 s0, .slice a_y0 n0 c_y0] 31)).cell? ⟨w6.heap.size, 2, none⟩ = some (.slice a_y0 n0 c_y0) := by simp [go_sem]
    have z_b0 : w6.heap.size < (w6.alloc (.cells #[.int .i64 l0, .int .i64 s0, .slice a_y0 n0 c_y0] 31)).heap.size := by simp
    have b := box_below w6 (.cells #[.int .i64 l0, .int .i64 s0, .slice a_y0 n0 c_y0] 31)
    generalize hgw : (w6.alloc (.cells #[.int .i64 l0, .int .i64 s0, .slice a_y0 n0 c_y0] 31)) = w7 at c_b0_0 c_b0_1 c_b0_2 z_b0 b ⊢
    clear hgw
    have S7 := Lib.hid b.size
    replace s_a1 := s_a1.keep (b.mono (Nat.le_trans S1.out (Nat.le_trans S2.out (Nat.le_trans S3.out (Nat.le_trans S4.out (Nat.le_trans S5.out S6.out))))))
    replace s_a0 := s_a0.keep (b.mono (Nat.le_trans S1.out (Nat.le_trans S2.out (Nat.le_trans S3.out (Nat.le_trans S4.out (Nat.le_trans S5.out S6.out))))))
    replace c_p0_0 := (b.cell (p := ⟨w0.heap.size, 0, none⟩) (Nat.lt_of_lt_of_le z_p0 (Nat.le_trans S2.out (Nat.le_trans S3.out (Nat.le_trans S4.out (Nat.le_trans S5.out S6.out)))))).trans c_p0_0
    replace c_p0_1 := (b.cell (p := ⟨w0.heap.size, 1, none⟩) (Nat.lt_of_lt_of_le z_p0 (Nat.le_trans S2.out (Nat.le_trans S3.out (Nat.le_trans S4.out (Nat.le_trans S5.out S6.out)))))).trans c_p0_1
    replace c_p0_2 := (b.cell (p := ⟨w0.heap.size, 2, none⟩) (Nat.lt_of_lt_of_le z_p0 (Nat.le_trans S2.out (Nat.le_trans S3.out (Nat.le_trans S4.out (Nat.le_trans S5.out S6.out)))))).trans c_p0_2
    replace o_r := o_r.keep b (S6.out)
    replace o_y0 := o_y0.keep b (Nat.le_refl _)
    replace bb := bb.trans (b.mono (Nat.le_trans S1.out (Nat.le_trans S2.out (Nat.le_trans S3.out (Nat.le_trans S4.out (Nat.le_trans S5.out S6.out))))))
    clear b
    go_wp2_with fail
    refine (toIntS_any _ _ _ x1 _ (s_a1.more (Nat.le_trans S1.out (Nat.le_trans S2.out (Nat.le_trans S3.out (Nat.le_trans S4.out (Nat.le_trans S5.out (Nat.le_trans S6.out S7.out)))))))).mono ?_
    rintro e w8 ⟨a_y1, c_y1, rfl, o_y1, b⟩
    have S8 := Lib.hid b.size
    replace s_a1 := s_a1.keep (b.mono (Nat.le_trans S1.out (Nat.le_trans S2.out (Nat.le_trans S3.out (Nat.le_trans S4.out (Nat.le_trans S5.out (Nat.le_trans S6.out S7.out)))))))
    replace s_a0 := s_a0.keep (b.mono (Nat.le_trans S1.out (Nat.le_trans S2.out (Nat.le_trans S3.out (Nat.le_trans S4.out (Nat.le_trans S5.out (Nat.le_trans S6.out S7.out)))))))
    replace c_p0_0 := (b.cell (p := ⟨w0.heap.size, 0, none⟩) (Nat.lt_of_lt_of_le z_p0 (Nat.le_trans S2.out (Nat.le_trans S3.out (Nat.le_trans S4.out (Nat.le_trans S5.out (Nat.le_trans S6.out S7.out))))))).trans c_p0_0
    replace c_p0_1 := (b.cell (p := ⟨w0.heap.size, 1, none⟩) (Nat.lt_of_lt_of_le z_p0 (Nat.le_trans S2.out (Nat.le_trans S3.out (Nat.le_trans S4.out (Nat.le_trans S5.out (Nat.le_trans S6.out S7.out))))))).trans c_p0_1
    replace c_p0_2 := (b.cell (p := ⟨w0.heap.size, 2, none⟩) (Nat.lt_of_lt_of_le z_p0 (Nat.le_trans S2.out (Nat.le_trans S3.out (Nat.le_trans S4.out (Nat.le_trans S5.out (Nat.le_trans S6.out S7.out))))))).trans c_p0_2
    replace o_r := o_r.keep b (Nat.le_trans S6.out S7.out)
    replace o_y0 := o_y0.keep b (S7.out)
    replace c_b0_0 := (b.cell (p := ⟨w6.heap.size, 0, none⟩) (Nat.lt_of_lt_of_le z_b0 (Nat.le_refl _))).trans c_b0_0
    replace c_b0_1 := (b.cell (p := ⟨w6.heap.size, 1, none⟩) (Nat.lt_of_lt_of_le z_b0 (Nat.le_refl _))).trans c_b0_1
    replace c_b0_2 := (b.cell (p := ⟨w6.heap.size, 2, none⟩) (Nat.lt_of_lt_of_le z_b0 (Nat.le_refl _))).trans c_b0_2
    replace bb := bb.trans (b.mono (Nat.le_trans S1.out (Nat.le_trans S2.out (Nat.le_trans S3.out (Nat.le_trans S4.out (Nat.le_trans S5.out (Nat.le_trans S6.out S7.out)))))))
    clear b
    have hn_y1 : n1 ≤ 1048576 := hn1
    go_wp2_with fail
    refine (step_i _ _ _ _ _ _ _ _ x0 x1 _ _ ((o_y0.sl hn_y0).more (Nat.le_trans S7.out S8.out)) ((o_y1.sl hn_y1).more (Nat.le_refl _))).mono ?_
    rintro e w9 ⟨a_g, n_g, c_g, rfl, o_g, b⟩
    have S9 := Lib.hid b.size
    replace s_a1 := s_a1.keep (b.mono (Nat.le_trans S1.out (Nat.le_trans S2.out (Nat.le_trans S3.out (Nat.le_trans S4.out (Nat.le_trans S5.out (Nat.le_trans S6.out (Nat.le_trans S7.out S8.out))))))))
    replace s_a0 := s_a0.keep (b.mono (Nat.le_trans S1.out (Nat.le_trans S2.out (Nat.le_trans S3.out (Nat.le_trans S4.out (Nat.le_trans S5.out (Nat.le_trans S6.out (Nat.le_trans S7.out S8.out))))))))
    replace c_p0_0 := (b.cell (p := ⟨w0.heap.size, 0, none⟩) (Nat.lt_of_lt_of_le z_p0 (Nat.le_trans S2.out (Nat.le_trans S3.out (Nat.le_trans S4.out (Nat.le_trans S5.out (Nat.le_trans S6.out (Nat.le_trans S7.out S8.out)))))))).trans c_p0_0
    replace c_p0_1 := (b.cell (p := ⟨w0.heap.size, 1, none⟩) (Nat.lt_of_lt_of_le z_p0 (Nat.le_trans S2.out (Nat.le_trans S3.out (Nat.le_trans S4.out (Nat.le_trans S5.out (Nat.le_trans S6.out (Nat.le_trans S7.out S8.out)))))))).trans c_p0_1
    replace c_p0_2 := (b.cell (p := ⟨w0.heap.size, 2, none⟩) (Nat.lt_of_lt_of_le z_p0 (Nat.le_trans S2.out (Nat.le_trans S3.out (Nat.le_trans S4.out (Nat.le_trans S5.out (Nat.le_trans S6.out (Nat.le_trans S7.out S8.out)))))))).trans c_p0_2
    replace o_r := o_r.keep b (Nat.le_trans S6.out (Nat.le_trans S7.out S8.out))
    replace o_y0 := o_y0.keep b (Nat.le_trans S7.out S8.out)
    replace c_b0_0 := (b.cell (p := ⟨w6.heap.size, 0, none⟩) (Nat.lt_of_lt_of_le z_b0 (S8.out))).trans c_b0_0
    replace c_b0_1 := (b.cell (p := ⟨w6.heap.size, 1, none⟩) (Nat.lt_of_lt_of_le z_b0 (S8.out))).trans c_b0_1
    replace c_b0_2 := (b.cell (p := ⟨w6.heap.size, 2, none⟩) (Nat.lt_of_lt_of_le z_b0 (S8.out))).trans c_b0_2
    replace o_y1 := o_y1.keep b (Nat.le_refl _)
    replace bb := bb.trans (b.mono (Nat.le_trans S1.out (Nat.le_trans S2.out (Nat.le_trans S3.out (Nat.le_trans S4.out (Nat.le_trans S5.out (Nat.le_trans S6.out (Nat.le_trans S7.out S8.out))))))))
    clear b
    have hn_g : n_g ≤ 1048576 := by rw [← o_g.len]; exact stepM_len _ _ _ _ _
    obtain rfl : n_g = n_r := by rw [← o_g.len, ← o_r.len]
    go_wp2_with fail
    refine (eqIntS_true _ _ _ _ _ _ _ ((o_g.sl hn_g).more (Nat.le_refl _)) ((o_r.sl hn_r).more (Nat.le_trans S6.out (Nat.le_trans S7.out (Nat.le_trans S8.out S9.out))))).mono ?_
    rintro e w10 ⟨rfl, b⟩
    have S10 := Lib.hid b.size
    replace s_a1 := s_a1.keep (b.mono (Nat.le_trans S1.out (Nat.le_trans S2.out (Nat.le_trans S3.out (Nat.le_trans S4.out (Nat.le_trans S5.out (Nat.le_trans S6.out (Nat.le_trans S7.out (Nat.le_trans S8.out S9.out)))))))))
    replace s_a0 := s_a0.keep (b.mono (Nat.le_trans S1.out (Nat.le_trans S2.out (Nat.le_trans S3.out (Nat.le_trans S4.out (Nat.le_trans S5.out (Nat.le_trans S6.out (Nat.le_trans S7.out (Nat.le_trans S8.out S9.out)))))))))
    replace c_p0_0 := (b.cell (p := ⟨w0.heap.size, 0, none⟩) (Nat.lt_of_lt_of_le z_p0 (Nat.le_trans S2.out (Nat.le_trans S3.out (Nat.le_trans S4.out (Nat.le_trans S5.out (Nat.le_trans S6.out (Nat.le_trans S7.out (Nat.le_trans S8.out S9.out))))))))).trans c_p0_0
    replace c_p0_1 := (b.cell (p := ⟨w0.heap.size, 1, none⟩) (Nat.lt_of_lt_of_le z_p0 (Nat.le_trans S2.out (Nat.le_trans S3.out (Nat.le_trans S4.out (Nat.le_trans S5.out (Nat.le_trans S6.out (Nat.le_trans S7.out (Nat.le_trans S8.out S9.out))))))))).trans c_p0_1
    replace c_p0_2 := (b.cell (p := ⟨w0.heap.size, 2, none⟩) (Nat.lt_of_lt_of_le z_p0 (Nat.le_trans S2.out (Nat.le_trans S3.out (Nat.le_trans S4.out (Nat.le_trans S5.out (Nat.le_trans S6.out (Nat.le_trans S7.out (Nat.le_trans S8.out S9.out))))))))).trans c_p0_2
    replace o_r := o_r.keep b (Nat.le_trans S6.out (Nat.le_trans S7.out (Nat.le_trans S8.out S9.out)))
    replace o_y0 := o_y0.keep b (Nat.le_trans S7.out (Nat.le_trans S8.out S9.out))
    replace c_b0_0 := (b.cell (p := ⟨w6.heap.size, 0, none⟩) (Nat.lt_of_lt_of_le z_b0 (Nat.le_trans S8.out S9.out))).trans c_b0_0
    replace c_b0_1 := (b.cell (p := ⟨w6.heap.size, 1, none⟩) (Nat.lt_of_lt_of_le z_b0 (Nat.le_trans S8.out S9.out))).trans c_b0_1
    replace c_b0_2 := (b.cell (p := ⟨w6.heap.size, 2, none⟩) (Nat.lt_of_lt_of_le z_b0 (Nat.le_trans S8.out S9.out))).trans c_b0_2
    replace o_y1 := o_y1.keep b (S9.out)
    replace o_g := o_g.keep b (Nat.le_refl _)
    replace bb := bb.trans (b.mono (Nat.le_trans S1.out (Nat.le_trans S2.out (Nat.le_trans S3.out (Nat.le_trans S4.out (Nat.le_trans S5.out (Nat.le_trans S6.out (Nat.le_trans S7.out (Nat.le_trans S8.out S9.out)))))))))
    clear b
    go_wp2_with fail
    have S11 : Hid (w10.heap.size ≤ w10.drew.heap.size) := Nat.le_refl _
    replace s_a1 := s_a1.drew
    replace s_a0 := s_a0.drew
    replace c_p0_0 : w10.drew.cell? ⟨w0.heap.size, 0, none⟩ = some (.int .i64 l0) := c_p0_0
    replace c_p0_1 : w10.drew.cell? ⟨w0.heap.size, 1, none⟩ = some (.int .i64 s0) := c_p0_1
    replace c_p0_2 : w10.drew.cell? ⟨w0.heap.size, 2, none⟩ = some (.slice a0 n0 c0) := c_p0_2
    replace o_r := o_r.drew
    replace o_y0 := o_y0.drew
    replace c_b0_0 : w10.drew.cell? ⟨w6.heap.size, 0, none⟩ = some (.int .i64 l0) := c_b0_0
    replace c_b0_1 : w10.drew.cell? ⟨w6.heap.size, 1, none⟩ = some (.int .i64 s0) := c_b0_1
    replace c_b0_2 : w10.drew.cell? ⟨w6.heap.size, 2, none⟩ = some (.slice a_y0 n0 c_y0) := c_b0_2
    replace o_y1 := o_y1.drew
    replace o_g := o_g.drew
    replace bb := bb.drew
    go_region_held3 (fun w' => w'.cell? ⟨w6.heap.size, 0, none⟩ = some (.int .i64 l0) ∧ w'.cell? ⟨w6.heap.size, 1, none⟩ = some (.int .i64 s0) ∧ w'.cell? ⟨w6.heap.size, 2, none⟩ = some (.slice a_y0 n0 c_y0) ∧ w'.cell? ⟨w0.heap.size, 0, none⟩ = some (.int .i64 l0) ∧ w'.cell? ⟨w0.heap.size, 1, none⟩ = some (.int .i64 s0) ∧ w'.cell? ⟨w0.heap.size, 2, none⟩ = some (.slice a0 n0 c0)) (go_keep) (first | (go_at_call 15; refine (toM_any _ _ _ _ _ x0 _ (s_a0.more (Nat.le_trans S1.out (Nat.le_trans S2.out (Nat.le_trans S3.out (Nat.le_trans S4.out (Nat.le_trans S5.out (Nat.le_trans S6.out (Nat.le_trans S7.out (Nat.le_trans S8.out (Nat.le_trans S9.out (Nat.le_trans S10.out S11.out)))))))))))).mono ?_; rintro e w12 ⟨a_u0, c_u0, rfl, o_u0, b⟩; have S12 := Lib.hid b.size; replace s_a1 := s_a1.keep (b.mono (Nat.le_trans S1.out (Nat.le_trans S2.out (Nat.le_trans S3.out (Nat.le_trans S4.out (Nat.le_trans S5.out (Nat.le_trans S6.out (Nat.le_trans S7.out (Nat.le_trans S8.out (Nat.le_trans S9.out (Nat.le_trans S10.out S11.out))))))))))); replace s_a0 := s_a0.keep (b.mono (Nat.le_trans S1.out (Nat.le_trans S2.out (Nat.le_trans S3.out (Nat.le_trans S4.out (Nat.le_trans S5.out (Nat.le_trans S6.out (Nat.le_trans S7.out (Nat.le_trans S8.out (Nat.le_trans S9.out (Nat.le_trans S10.out S11.out))))))))))); replace c_p0_0 := (b.cell (p := ⟨w0.heap.size, 0, none⟩) (Nat.lt_of_lt_of_le z_p0 (Nat.le_trans S2.out (Nat.le_trans S3.out (Nat.le_trans S4.out (Nat.le_trans S5.out (Nat.le_trans S6.out (Nat.le_trans S7.out (Nat.le_trans S8.out (Nat.le_trans S9.out (Nat.le_trans S10.out S11.out))))))))))).trans c_p0_0; replace c_p0_1 := (b.cell (p := ⟨w0.heap.size, 1, none⟩) (Nat.lt_of_lt_of_le z_p0 (Nat.le_trans S2.out (Nat.le_trans S3.out (Nat.le_trans S4.out (Nat.le_trans S5.out (Nat.le_trans S6.out (Nat.le_trans S7.out (Nat.le_trans S8.out (Nat.le_trans S9.out (Nat.le_trans S10.out S11.out))))))))))).trans c_p0_1; replace c_p0_2 := (b.cell (p := ⟨w0.heap.size, 2, none⟩) (Nat.lt_of_lt_of_le z_p0 (Nat.le_trans S2.out (Nat.le_trans S3.out (Nat.le_trans S4.out (Nat.le_trans S5.out (Nat.le_trans S6.out (Nat.le_trans S7.out (Nat.le_trans S8.out (Nat.le_trans S9.out (Nat.le_trans S10.out S11.out))))))))))).trans c_p0_2; replace o_r := o_r.keep b (Nat.le_trans S6.out (Nat.le_trans S7.out (Nat.le_trans S8.out (Nat.le_trans S9.out (Nat.le_trans S10.out S11.out))))); replace o_y0 := o_y0.keep b (Nat.le_trans S7.out (Nat.le_trans S8.out (Nat.le_trans S9.out (Nat.le_trans S10.out S11.out)))); replace c_b0_0 := (b.cell (p := ⟨w6.heap.size, 0, none⟩) (Nat.lt_of_lt_of_le z_b0 (Nat.le_trans S8.out (Nat.le_trans S9.out (Nat.le_trans S10.out S11.out))))).trans c_b0_0; replace c_b0_1 := (b.cell (p := ⟨w6.heap.size, 1, none⟩) (Nat.lt_of_lt_of_le z_b0 (Nat.le_trans S8.out (Nat.le_trans S9.out (Nat.le_trans S10.out S11.out))))).trans c_b0_1; replace c_b0_2 := (b.cell (p := ⟨w6.heap.size, 2, none⟩) (Nat.lt_of_lt_of_le z_b0 (Nat.le_trans S8.out (Nat.le_trans S9.out (Nat.le_trans S10.out S11.out))))).trans c_b0_2; replace o_y1 := o_y1.keep b (Nat.le_trans S9.out (Nat.le_trans S10.out S11.out)); replace o_g := o_g.keep b (Nat.le_trans S10.out S11.out); replace bb := bb.trans (b.mono (Nat.le_trans S1.out (Nat.le_trans S2.out (Nat.le_trans S3.out (Nat.le_trans S4.out (Nat.le_trans S5.out (Nat.le_trans S6.out (Nat.le_trans S7.out (Nat.le_trans S8.out (Nat.le_trans S9.out (Nat.le_trans S10.out S11.out))))))))))); clear b; have hn_u0 : n0 ≤ 1048576 := hn0) | (go_at_call 17; refine (eqM_true _ _ _ _ _ _ _ x0 _ ((o_y0.sl hn_y0).more (Nat.le_trans S7.out (Nat.le_trans S8.out (Nat.le_trans S9.out (Nat.le_trans S10.out (Nat.le_trans S11.out S12.out)))))) ((o_u0.sl hn_u0).more (Nat.le_refl _))).mono ?_; rintro e w13 ⟨rfl, b⟩; have S13 := Lib.hid b.size; replace s_a1 := s_a1.keep (b.mono (Nat.le_trans S1.out (Nat.le_trans S2.out (Nat.le_trans S3.out (Nat.le_trans S4.out (Nat.le_trans S5.out (Nat.le_trans S6.out (Nat.le_trans S7.out (Nat.le_trans S8.out (Nat.le_trans S9.out (Nat.le_trans S10.out (Nat.le_trans S11.out S12.out)))))))))))); replace s_a0 := s_a0.keep (b.mono (Nat.le_trans S1.out (Nat.le_trans S2.out (Nat.le_trans S3.out (Nat.le_trans S4.out (Nat.le_trans S5.out (Nat.le_trans S6.out (Nat.le_trans S7.out (Nat.le_trans S8.out (Nat.le_trans S9.out (Nat.le_trans S10.out (Nat.le_trans S11.out S12.out)))))))))))); replace c_p0_0 := (b.cell (p := ⟨w0.heap.size, 0, none⟩) (Nat.lt_of_lt_of_le z_p0 (Nat.le_trans S2.out (Nat.le_trans S3.out (Nat.le_trans S4.out (Nat.le_trans S5.out (Nat.le_trans S6.out (Nat.le_trans S7.out (Nat.le_trans S8.out (Nat.le_trans S9.out (Nat.le_trans S10.out (Nat.le_trans S11.out S12.out)))))))))))).trans c_p0_0; replace c_p0_1 := (b.cell (p := ⟨w0.heap.size, 1, none⟩) (Nat.lt_of_lt_of_le z_p0 (Nat.le_trans S2.out (Nat.le_trans S3.out (Nat.le_trans S4.out (Nat.le_trans S5.out (Nat.le_trans S6.out (Nat.le_trans S7.out (Nat.le_trans S8.out (Nat.le_trans S9.out (Nat.le_trans S10.out (Nat.le_trans S11.out S12.out)))))))))))).trans c_p0_1; replace c_p0_2 := (b.cell (p := ⟨w0.heap.size, 2, none⟩) (Nat.lt_of_lt_of_le z_p0 (Nat.le_trans S2.out (Nat.le_trans S3.out (Nat.le_trans S4.out (Nat.le_trans S5.out (Nat.le_trans S6.out (Nat.le_trans S7.out (Nat.le_trans S8.out (Nat.le_trans S9.out (Nat.le_trans S10.out (Nat.le_trans S11.out S12.out)))))))))))).trans c_p0_2; replace o_r := o_r.keep b (Nat.le_trans S6.out (Nat.le_trans S7.out (Nat.le_trans S8.out (Nat.le_trans S9.out (Nat.le_trans S10.out (Nat.le_trans S11.out S12.out)))))); replace o_y0 := o_y0.keep b (Nat.le_trans S7.out (Nat.le_trans S8.out (Nat.le_trans S9.out (Nat.le_trans S10.out (Nat.le_trans S11.out S12.out))))); replace c_b0_0 := (b.cell (p := ⟨w6.heap.size, 0, none⟩) (Nat.lt_of_lt_of_le z_b0 (Nat.le_trans S8.out (Nat.le_trans S9.out (Nat.le_trans S10.out (Nat.le_trans S11.out S12.out)))))).trans c_b0_0; replace c_b0_1 := (b.cell (p := ⟨w6.heap.size, 1, none⟩) (Nat.lt_of_lt_of_le z_b0 (Nat.le_trans S8.out (Nat.le_trans S9.out (Nat.le_trans S10.out (Nat.le_trans S11.out S12.out)))))).trans c_b0_1; replace c_b0_2 := (b.cell (p := ⟨w6.heap.size, 2, none⟩) (Nat.lt_of_lt_of_le z_b0 (Nat.le_trans S8.out (Nat.le_trans S9.out (Nat.le_trans S10.out (Nat.le_trans S11.out S12.out)))))).trans c_b0_2; replace o_y1 := o_y1.keep b (Nat.le_trans S9.out (Nat.le_trans S10.out (Nat.le_trans S11.out S12.out))); replace o_g := o_g.keep b (Nat.le_trans S10.out (Nat.le_trans S11.out S12.out)); replace o_u0 := o_u0.keep b (Nat.le_refl _); replace bb := bb.trans (b.mono (Nat.le_trans S1.out (Nat.le_trans S2.out (Nat.le_trans S3.out (Nat.le_trans S4.out (Nat.le_trans S5.out (Nat.le_trans S6.out (Nat.le_trans S7.out (Nat.le_trans S8.out (Nat.le_trans S9.out (Nat.le_trans S10.out (Nat.le_trans S11.out S12.out)))))))))))); clear b))
    clear o_u0
    go_wp2_with fail
    refine (toIntS_any _ _ _ x1 _ (s_a1.more (Nat.le_trans S1.out (Nat.le_trans S2.out (Nat.le_trans S3.out (Nat.le_trans S4.out (Nat.le_trans S5.out (Nat.le_trans S6.out (Nat.le_trans S7.out (Nat.le_trans S8.out (Nat.le_trans S9.out (Nat.le_trans S10.out (Nat.le_trans S11.out (Nat.le_trans S12.out S13.out)))))))))))))).mono ?_
    rintro e w14 ⟨a_u1, c_u1, rfl, o_u1, b⟩
    have S14 := Lib.hid b.size
    replace s_a1 := s_a1.keep (b.mono (Nat.le_trans S1.out (Nat.le_trans S2.out (Nat.le_trans S3.out (Nat.le_trans S4.out (Nat.le_trans S5.out (Nat.le_trans S6.out (Nat.le_trans S7.out (Nat.le_trans S8.out (Nat.le_trans S9.out (Nat.le_trans S10.out (Nat.le_trans S11.out (Nat.le_trans S12.out S13.out)))))))))))))
    replace s_a0 := s_a0.keep (b.mono (Nat.le_trans S1.out (Nat.le_trans S2.out (Nat.le_trans S3.out (Nat.le_trans S4.out (Nat.le_trans S5.out (Nat.le_trans S6.out (Nat.le_trans S7.out (Nat.le_trans S8.out (Nat.le_trans S9.out (Nat.le_trans S10.out (Nat.le_trans S11.out (Nat.le_trans S12.out S13.out)))))))))))))
    replace c_p0_0 := (b.cell (p := ⟨w0.heap.size, 0, none⟩) (Nat.lt_of_lt_of_le z_p0 (Nat.le_trans S2.out (Nat.le_trans S3.out (Nat.le_trans S4.out (Nat.le_trans S5.out (Nat.le_trans S6.out (Nat.le_trans S7.out (Nat.le_trans S8.out (Nat.le_trans S9.out (Nat.le_trans S10.out (Nat.le_trans S11.out (Nat.le_trans S12.out S13.out))))))))))))).trans c_p0_0
    replace c_p0_1 := (b.cell (p := ⟨w0.heap.size, 1, none⟩) (Nat.lt_of_lt_of_le z_p0 (Nat.le_trans S2.out (Nat.le_trans S3.out (Nat.le_trans S4.out (Nat.le_trans S5.out (Nat.le_trans S6.out (Nat.le_trans S7.out (Nat.le_trans S8.out (Nat.le_trans S9.out (Nat.le_trans S10.out (Nat.le_trans S11.out (Nat.le_trans S12.out S13.out))))))))))))).trans c_p0_1
    replace c_p0_2 := (b.cell (p := ⟨w0.heap.size, 2, none⟩) (Nat.lt_of_lt_of_le z_p0 (Nat.le_trans S2.out (Nat.le_trans S3.out (Nat.le_trans S4.out (Nat.le_trans S5.out (Nat.le_trans S6.out (Nat.le_trans S7.out (Nat.le_trans S8.out (Nat.le_trans S9.out (Nat.le_trans S10.out (Nat.le_trans S11.out (Nat.le_trans S12.out S13.out))))))))))))).trans c_p0_2
    replace o_r := o_r.keep b (Nat.le_trans S6.out (Nat.le_trans S7.out (Nat.le_trans S8.out (Nat.le_trans S9.out (Nat.le_trans S10.out (Nat.le_trans S11.out (Nat.le_trans S12.out S13.out)))))))
    replace o_y0 := o_y0.keep b (Nat.le_trans S7.out (Nat.le_trans S8.out (Nat.le_trans S9.out (Nat.le_trans S10.out (Nat.le_trans S11.out (Nat.le_trans S12.out S13.out))))))
    replace c_b0_0 := (b.cell (p := ⟨w6.heap.size, 0, none⟩) (Nat.lt_of_lt_of_le z_b0 (Nat.le_trans S8.out (Nat.le_trans S9.out (Nat.le_trans S10.out (Nat.le_trans S11.out (Nat.le_trans S12.out S13.out))))))).trans c_b0_0
    replace c_b0_1 := (b.cell (p := ⟨w6.heap.size, 1, none⟩) (Nat.lt_of_lt_of_le z_b0 (Nat.le_trans S8.out (Nat.le_trans S9.out (Nat.le_trans S10.out (Nat.le_trans S11.out (Nat.le_trans S12.out S13.out))))))).trans c_b0_1
    replace c_b0_2 := (b.cell (p := ⟨w6.heap.size, 2, none⟩) (Nat.lt_of_lt_of_le z_b0 (Nat.le_trans S8.out (Nat.le_trans S9.out (Nat.le_trans S10.out (Nat.le_trans S11.out (Nat.le_trans S12.out S13.out))))))).trans c_b0_2
    replace o_y1 := o_y1.keep b (Nat.le_trans S9.out (Nat.le_trans S10.out (Nat.le_trans S11.out (Nat.le_trans S12.out S13.out))))
    replace o_g := o_g.keep b (Nat.le_trans S10.out (Nat.le_trans S11.out (Nat.le_trans S12.out S13.out)))
    replace bb := bb.trans (b.mono (Nat.le_trans S1.out (Nat.le_trans S2.out (Nat.le_trans S3.out (Nat.le_trans S4.out (Nat.le_trans S5.out (Nat.le_trans S6.out (Nat.le_trans S7.out (Nat.le_trans S8.out (Nat.le_trans S9.out (Nat.le_trans S10.out (Nat.le_trans S11.out (Nat.le_trans S12.out S13.out)))))))))))))
    clear b
    have hn_u1 : n1 ≤ 1048576 := hn1
    go_wp2_with fail
    refine (eqIntS_true _ _ _ _ _ _ _ ((o_y1.sl hn_y1).more (Nat.le_trans S9.out (Nat.le_trans S10.out (Nat.le_trans S11.out (Nat.le_trans S12.out (Nat.le_trans S13.out S14.out)))))) ((o_u1.sl hn_u1).more (Nat.le_refl _))).mono ?_
    rintro e w15 ⟨rfl, b⟩
    have S15 := Lib.hid b.size
    replace s_a1 := s_a1.keep (b.mono (Nat.le_trans S1.out (Nat.le_trans S2.out (Nat.le_trans S3.out (Nat.le_trans S4.out (Nat.le_trans S5.out (Nat.le_trans S6.out (Nat.le_trans S7.out (Nat.le_trans S8.out (Nat.le_trans S9.out (Nat.le_trans S10.out (Nat.le_trans S11.out (Nat.le_trans S12.out (Nat.le_trans S13.out S14.out))))))))))))))
    replace s_a0 := s_a0.keep (b.mono (Nat.le_trans S1.out (Nat.le_trans S2.out (Nat.le_trans S3.out (Nat.le_trans S4.out (Nat.le_trans S5.out (Nat.le_trans S6.out (Nat.le_trans S7.out (Nat.le_trans S8.out (Nat.le_trans S9.out (Nat.le_trans S10.out (Nat.le_trans S11.out (Nat.le_trans S12.out (Nat.le_trans S13.out S14.out))))))))))))))
    replace c_p0_0 := (b.cell (p := ⟨w0.heap.size, 0, none⟩) (Nat.lt_of_lt_of_le z_p0 (Nat.le_trans S2.out (Nat.le_trans S3.out (Nat.le_trans S4.out (Nat.le_trans S5.out (Nat.le_trans S6.out (Nat.le_trans S7.out (Nat.le_trans S8.out (Nat.le_trans S9.out (Nat.le_trans S10.out (Nat.le_trans S11.out (Nat.le_trans S12.out (Nat.le_trans S13.out S14.out)))))))))))))).trans c_p0_0
    replace c_p0_1 := (b.cell (p := ⟨w0.heap.size, 1, none⟩) (Nat.lt_of_lt_of_le z_p0 (Nat.le_trans S2.out (Nat.le_trans S3.out (Nat.le_trans S4.out (Nat.le_trans S5.out (Nat.le_trans S6.out (Nat.le_trans S7.out (Nat.le_trans S8.out (Nat.le_trans S9.out (Nat.le_trans S10.out (Nat.le_trans S11.out (Nat.le_trans S12.out (Nat.le_trans S13.out S14.out)))))))))))))).trans c_p0_1
    replace c_p0_2 := (b.cell (p := ⟨w0.heap.size, 2, none⟩) (Nat.lt_of_lt_of_le z_p0 (Nat.le_trans S2.out (Nat.le_trans S3.out (Nat.le_trans S4.out (Nat.le_trans S5.out (Nat.le_trans S6.out (Nat.le_trans S7.out (Nat.le_trans S8.out (Nat.le_trans S9.out (Nat.le_trans S10.out (Nat.le_trans S11.out (Nat.le_trans S12.out (Nat.le_trans S13.out S14.out)))))))))))))).trans c_p0_2
    replace o_r := o_r.keep b (Nat.le_trans S6.out (Nat.le_trans S7.out (Nat.le_trans S8.out (Nat.le_trans S9.out (Nat.le_trans S10.out (Nat.le_trans S11.out (Nat.le_trans S12.out (Nat.le_trans S13.out S14.out))))))))
    replace o_y0 := o_y0.keep b (Nat.le_trans S7.out (Nat.le_trans S8.out (Nat.le_trans S9.out (Nat.le_trans S10.out (Nat.le_trans S11.out (Nat.le_trans S12.out (Nat.le_trans S13.out S14.out)))))))
    replace c_b0_0 := (b.cell (p := ⟨w6.heap.size, 0, none⟩) (Nat.lt_of_lt_of_le z_b0 (Nat.le_trans S8.out (Nat.le_trans S9.out (Nat.le_trans S10.out (Nat.le_trans S11.out (Nat.le_trans S12.out (Nat.le_trans S13.out S14.out)))))))).trans c_b0_0
    replace c_b0_1 := (b.cell (p := ⟨w6.heap.size, 1, none⟩) (Nat.lt_of_lt_of_le z_b0 (Nat.le_trans S8.out (Nat.le_trans S9.out (Nat.le_trans S10.out (Nat.le_trans S11.out (Nat.le_trans S12.out (Nat.le_trans S13.out S14.out)))))))).trans c_b0_1
    replace c_b0_2 := (b.cell (p := ⟨w6.heap.size, 2, none⟩) (Nat.lt_of_lt_of_le z_b0 (Nat.le_trans S8.out (Nat.le_trans S9.out (Nat.le_trans S10.out (Nat.le_trans S11.out (Nat.le_trans S12.out (Nat.le_trans S13.out S14.out)))))))).trans c_b0_2
    replace o_y1 := o_y1.keep b (Nat.le_trans S9.out (Nat.le_trans S10.out (Nat.le_trans S11.out (Nat.le_trans S12.out (Nat.le_trans S13.out S14.out)))))
    replace o_g := o_g.keep b (Nat.le_trans S10.out (Nat.le_trans S11.out (Nat.le_trans S12.out (Nat.le_trans S13.out S14.out))))
    replace o_u1 := o_u1.keep b (Nat.le_refl _)
    replace bb := bb.trans (b.mono (Nat.le_trans S1.out (Nat.le_trans S2.out (Nat.le_trans S3.out (Nat.le_trans S4.out (Nat.le_trans S5.out (Nat.le_trans S6.out (Nat.le_trans S7.out (Nat.le_trans S8.out (Nat.le_trans S9.out (Nat.le_trans S10.out (Nat.le_trans S11.out (Nat.le_trans S12.out (Nat.le_trans S13.out S14.out))))))))))))))
    clear b
    clear o_u1
    go_wp2_with fail
    refine (markM_any _ _ _ _ _ _ _ _ (1) _ o_y0 hn_y0 (by omega) (Nat.le_trans S6.out (Nat.le_trans S7.out (Nat.le_trans S8.out (Nat.le_trans S9.out (Nat.le_trans S10.out (Nat.le_trans S11.out (Nat.le_trans S12.out (Nat.le_trans S13.out (Nat.le_trans S14.out S15.out)))))))))).mono ?_
    clear o_y0
    rintro e w16 ⟨rfl, o_y0, m⟩
    have S16 := Lib.hid m.low.size
    replace s_a1 := m.sl s_a1 (Nat.le_trans S1.out (Nat.le_trans S2.out (Nat.le_trans S3.out (Nat.le_trans S4.out S5.out))))
    replace s_a0 := m.sl s_a0 (Nat.le_trans S1.out (Nat.le_trans S2.out (Nat.le_trans S3.out (Nat.le_trans S4.out S5.out))))
    replace c_p0_0 := (m.cellAt ⟨w0.heap.size, 0, none⟩ (.inl (Nat.lt_of_lt_of_le z_p0 (Nat.le_trans S2.out (Nat.le_trans S3.out (Nat.le_trans S4.out S5.out)))))).trans c_p0_0
    replace c_p0_1 := (m.cellAt ⟨w0.heap.size, 1, none⟩ (.inl (Nat.lt_of_lt_of_le z_p0 (Nat.le_trans S2.out (Nat.le_trans S3.out (Nat.le_trans S4.out S5.out)))))).trans c_p0_1
    replace c_p0_2 := (m.cellAt ⟨w0.heap.size, 2, none⟩ (.inl (Nat.lt_of_lt_of_le z_p0 (Nat.le_trans S2.out (Nat.le_trans S3.out (Nat.le_trans S4.out S5.out)))))).trans c_p0_2
    replace o_r := m.ownLow o_r (Nat.le_refl _)
    replace c_b0_0 := (m.cellAt ⟨w6.heap.size, 0, none⟩ (.inr ⟨(Nat.le_refl _), Nat.lt_of_lt_of_le z_b0 (Nat.le_trans S8.out (Nat.le_trans S9.out (Nat.le_trans S10.out (Nat.le_trans S11.out (Nat.le_trans S12.out (Nat.le_trans S13.out (Nat.le_trans S14.out S15.out)))))))⟩)).trans c_b0_0
    replace c_b0_1 := (m.cellAt ⟨w6.heap.size, 1, none⟩ (.inr ⟨(Nat.le_refl _), Nat.lt_of_lt_of_le z_b0 (Nat.le_trans S8.out (Nat.le_trans S9.out (Nat.le_trans S10.out (Nat.le_trans S11.out (Nat.le_trans S12.out (Nat.le_trans S13.out (Nat.le_trans S14.out S15.out)))))))⟩)).trans c_b0_1
    replace c_b0_2 := (m.cellAt ⟨w6.heap.size, 2, none⟩ (.inr ⟨(Nat.le_refl _), Nat.lt_of_lt_of_le z_b0 (Nat.le_trans S8.out (Nat.le_trans S9.out (Nat.le_trans S10.out (Nat.le_trans S11.out (Nat.le_trans S12.out (Nat.le_trans S13.out (Nat.le_trans S14.out S15.out)))))))⟩)).trans c_b0_2
    replace o_y1 := m.ownHigh o_y1 (S7.out)
    replace o_g := m.ownHigh o_g (Nat.le_trans S7.out S8.out)
    replace bb := bb.trans (m.low.mono (Nat.le_trans S1.out (Nat.le_trans S2.out (Nat.le_trans S3.out (Nat.le_trans S4.out S5.out)))))
    clear m
    go_wp2_with fail
    refine (mark_any _ _ _ _ _ _ (1 + (n0 : Int)) _ o_y1 hn_y1 (by omega)).mono ?_
    clear o_y1
    rintro e w17 ⟨rfl, o_y1, m⟩
    have S17 := Lib.hid m.low.size
    replace s_a1 := m.sl s_a1 (Nat.le_trans S1.out (Nat.le_trans S2.out (Nat.le_trans S3.out (Nat.le_trans S4.out (Nat.le_trans S5.out (Nat.le_trans S6.out S7.out))))))
    replace s_a0 := m.sl s_a0 (Nat.le_trans S1.out (Nat.le_trans S2.out (Nat.le_trans S3.out (Nat.le_trans S4.out (Nat.le_trans S5.out (Nat.le_trans S6.out S7.out))))))
    replace c_p0_0 := (m.cellAt ⟨w0.heap.size, 0, none⟩ (.inl (Nat.lt_of_lt_of_le z_p0 (Nat.le_trans S2.out (Nat.le_trans S3.out (Nat.le_trans S4.out (Nat.le_trans S5.out (Nat.le_trans S6.out S7.out)))))))).trans c_p0_0
    replace c_p0_1 := (m.cellAt ⟨w0.heap.size, 1, none⟩ (.inl (Nat.lt_of_lt_of_le z_p0 (Nat.le_trans S2.out (Nat.le_trans S3.out (Nat.le_trans S4.out (Nat.le_trans S5.out (Nat.le_trans S6.out S7.out)))))))).trans c_p0_1
    replace c_p0_2 := (m.cellAt ⟨w0.heap.size, 2, none⟩ (.inl (Nat.lt_of_lt_of_le z_p0 (Nat.le_trans S2.out (Nat.le_trans S3.out (Nat.le_trans S4.out (Nat.le_trans S5.out (Nat.le_trans S6.out S7.out)))))))).trans c_p0_2
    replace o_r := m.ownLow o_r (Nat.le_trans S6.out S7.out)
    replace o_y0 := m.ownLow o_y0 (S7.out)
    replace c_b0_0 := (m.cellAt ⟨w6.heap.size, 0, none⟩ (.inl (Nat.lt_of_lt_of_le z_b0 (Nat.le_refl _)))).trans c_b0_0
    replace c_b0_1 := (m.cellAt ⟨w6.heap.size, 1, none⟩ (.inl (Nat.lt_of_lt_of_le z_b0 (Nat.le_refl _)))).trans c_b0_1
    replace c_b0_2 := (m.cellAt ⟨w6.heap.size, 2, none⟩ (.inl (Nat.lt_of_lt_of_le z_b0 (Nat.le_refl _)))).trans c_b0_2
    replace o_g := m.ownHigh o_g (Nat.le_refl _)
    replace bb := bb.trans (m.low.mono (Nat.le_trans S1.out (Nat.le_trans S2.out (Nat.le_trans S3.out (Nat.le_trans S4.out (Nat.le_trans S5.out (Nat.le_trans S6.out S7.out)))))))
    clear m
    go_wp2_with fail
    refine (eqIntS_true _ _ _ _ _ _ _ ((o_g.sl hn_g).more (Nat.le_trans S10.out (Nat.le_trans S11.out (Nat.le_trans S12.out (Nat.le_trans S13.out (Nat.le_trans S14.out (Nat.le_trans S15.out (Nat.le_trans S16.out S17.out)))))))) ((o_r.sl hn_r).more (Nat.le_trans S6.out (Nat.le_trans S7.out (Nat.le_trans S8.out (Nat.le_trans S9.out (Nat.le_trans S10.out (Nat.le_trans S11.out (Nat.le_trans S12.out (Nat.le_trans S13.out (Nat.le_trans S14.out (Nat.le_trans S15.out (Nat.le_trans S16.out S17.out))))))))))))).mono ?_
    rintro e w18 ⟨rfl, b⟩
    have S18 := Lib.hid b.size
    replace s_a1 := s_a1.keep (b.mono (Nat.le_trans S1.out (Nat.le_trans S2.out (Nat.le_trans S3.out (Nat.le_trans S4.out (Nat.le_trans S5.out (Nat.le_trans S6.out (Nat.le_trans S7.out (Nat.le_trans S8.out (Nat.le_trans S9.out (Nat.le_trans S10.out (Nat.le_trans S11.out (Nat.le_trans S12.out (Nat.le_trans S13.out (Nat.le_trans S14.out (Nat.le_trans S15.out (Nat.le_trans S16.out S17.out)))))))))))))))))
    replace s_a0 := s_a0.keep (b.mono (Nat.le_trans S1.out (Nat.le_trans S2.out (Nat.le_trans S3.out (Nat.le_trans S4.out (Nat.le_trans S5.out (Nat.le_trans S6.out (Nat.le_trans S7.out (Nat.le_trans S8.out (Nat.le_trans S9.out (Nat.le_trans S10.out (Nat.le_trans S11.out (Nat.le_trans S12.out (Nat.le_trans S13.out (Nat.le_trans S14.out (Nat.le_trans S15.out (Nat.le_trans S16.out S17.out)))))))))))))))))
    replace c_p0_0 := (b.cell (p := ⟨w0.heap.size, 0, none⟩) (Nat.lt_of_lt_of_le z_p0 (Nat.le_trans S2.out (Nat.le_trans S3.out (Nat.le_trans S4.out (Nat.le_trans S5.out (Nat.le_trans S6.out (Nat.le_trans S7.out (Nat.le_trans S8.out (Nat.le_trans S9.out (Nat.le_trans S10.out (Nat.le_trans S11.out (Nat.le_trans S12.out (Nat.le_trans S13.out (Nat.le_trans S14.out (Nat.le_trans S15.out (Nat.le_trans S16.out S17.out))))))))))))))))).trans c_p0_0
    replace c_p0_1 := (b.cell (p := ⟨w0.heap.size, 1, none⟩) (Nat.lt_of_lt_of_le z_p0 (Nat.le_trans S2.out (Nat.le_trans S3.out (Nat.le_trans S4.out (Nat.le_trans S5.out (Nat.le_trans S6.out (Nat.le_trans S7.out (Nat.le_trans S8.out (Nat.le_trans S9.out (Nat.le_trans S10.out (Nat.le_trans S11.out (Nat.le_trans S12.out (Nat.le_trans S13.out (Nat.le_trans S14.out (Nat.le_trans S15.out (Nat.le_trans S16.out S17.out))))))))))))))))).trans c_p0_1
    replace c_p0_2 := (b.cell (p := ⟨w0.heap.size, 2, none⟩) (Nat.lt_of_lt_of_le z_p0 (Nat.le_trans S2.out (Nat.le_trans S3.out (Nat.le_trans S4.out (Nat.le_trans S5.out (Nat.le_trans S6.out (Nat.le_trans S7.out (Nat.le_trans S8.out (Nat.le_trans S9.out (Nat.le_trans S10.out (Nat.le_trans S11.out (Nat.le_trans S12.out (Nat.le_trans S13.out (Nat.le_trans S14.out (Nat.le_trans S15.out (Nat.le_trans S16.out S17.out))))))))))))))))).trans c_p0_2
    replace o_r := o_r.keep b (Nat.le_trans S6.out (Nat.le_trans S7.out (Nat.le_trans S8.out (Nat.le_trans S9.out (Nat.le_trans S10.out (Nat.le_trans S11.out (Nat.le_trans S12.out (Nat.le_trans S13.out (Nat.le_trans S14.out (Nat.le_trans S15.out (Nat.le_trans S16.out S17.out)))))))))))
    replace o_y0 := o_y0.keep b (Nat.le_trans S7.out (Nat.le_trans S8.out (Nat.le_trans S9.out (Nat.le_trans S10.out (Nat.le_trans S11.out (Nat.le_trans S12.out (Nat.le_trans S13.out (Nat.le_trans S14.out (Nat.le_trans S15.out (Nat.le_trans S16.out S17.out))))))))))
    replace c_b0_0 := (b.cell (p := ⟨w6.heap.size, 0, none⟩) (Nat.lt_of_lt_of_le z_b0 (Nat.le_trans S8.out (Nat.le_trans S9.out (Nat.le_trans S10.out (Nat.le_trans S11.out (Nat.le_trans S12.out (Nat.le_trans S13.out (Nat.le_trans S14.out (Nat.le_trans S15.out (Nat.le_trans S16.out S17.out))))))))))).trans c_b0_0
    replace c_b0_1 := (b.cell (p := ⟨w6.heap.size, 1, none⟩) (Nat.lt_of_lt_of_le z_b0 (Nat.le_trans S8.out (Nat.le_trans S9.out (Nat.le_trans S10.out (Nat.le_trans S11.out (Nat.le_trans S12.out (Nat.le_trans S13.out (Nat.le_trans S14.out (Nat.le_trans S15.out (Nat.le_trans S16.out S17.out))))))))))).trans c_b0_1
    replace c_b0_2 := (b.cell (p := ⟨w6.heap.size, 2, none⟩) (Nat.lt_of_lt_of_le z_b0 (Nat.le_trans S8.out (Nat.le_trans S9.out (Nat.le_trans S10.out (Nat.le_trans S11.out (Nat.le_trans S12.out (Nat.le_trans S13.out (Nat.le_trans S14.out (Nat.le_trans S15.out (Nat.le_trans S16.out S17.out))))))))))).trans c_b0_2
    replace o_y1 := o_y1.keep b (Nat.le_trans S9.out (Nat.le_trans S10.out (Nat.le_trans S11.out (Nat.le_trans S12.out (Nat.le_trans S13.out (Nat.le_trans S14.out (Nat.le_trans S15.out (Nat.le_trans S16.out S17.out))))))))
    replace o_g := o_g.keep b (Nat.le_trans S10.out (Nat.le_trans S11.out (Nat.le_trans S12.out (Nat.le_trans S13.out (Nat.le_trans S14.out (Nat.le_trans S15.out (Nat.le_trans S16.out S17.out)))))))
    replace bb := bb.trans (b.mono (Nat.le_trans S1.out (Nat.le_trans S2.out (Nat.le_trans S3.out (Nat.le_trans S4.out (Nat.le_trans S5.out (Nat.le_trans S6.out (Nat.le_trans S7.out (Nat.le_trans S8.out (Nat.le_trans S9.out (Nat.le_trans S10.out (Nat.le_trans S11.out (Nat.le_trans S12.out (Nat.le_trans S13.out (Nat.le_trans S14.out (Nat.le_trans S15.out (Nat.le_trans S16.out S17.out)))))))))))))))))
    clear b
    clear o_y0
    clear c_b0_0 c_b0_1 c_b0_2
    clear o_y1
    go_wp2_with fail
    refine (mark_any _ _ _ _ _ _ (1) _ o_g hn_g (by omega)).mono ?_
    clear o_g
    rintro e w19 ⟨rfl, o_g, m⟩
    have S19 := Lib.hid m.low.size
    replace s_a1 := m.sl s_a1 (Nat.le_trans S1.out (Nat.le_trans S2.out (Nat.le_trans S3.out (Nat.le_trans S4.out (Nat.le_trans S5.out (Nat.le_trans S6.out (Nat.le_trans S7.out S8.out)))))))
    replace s_a0 := m.sl s_a0 (Nat.le_trans S1.out (Nat.le_trans S2.out (Nat.le_trans S3.out (Nat.le_trans S4.out (Nat.le_trans S5.out (Nat.le_trans S6.out (Nat.le_trans S7.out S8.out)))))))
    replace c_p0_0 := (m.cellAt ⟨w0.heap.size, 0, none⟩ (.inl (Nat.lt_of_lt_of_le z_p0 (Nat.le_trans S2.out (Nat.le_trans S3.out (Nat.le_trans S4.out (Nat.le_trans S5.out (Nat.le_trans S6.out (Nat.le_trans S7.out S8.out))))))))).trans c_p0_0
    replace c_p0_1 := (m.cellAt ⟨w0.heap.size, 1, none⟩ (.inl (Nat.lt_of_lt_of_le z_p0 (Nat.le_trans S2.out (Nat.le_trans S3.out (Nat.le_trans S4.out (Nat.le_trans S5.out (Nat.le_trans S6.out (Nat.le_trans S7.out S8.out))))))))).trans c_p0_1
    replace c_p0_2 := (m.cellAt ⟨w0.heap.size, 2, none⟩ (.inl (Nat.lt_of_lt_of_le z_p0 (Nat.le_trans S2.out (Nat.le_trans S3.out (Nat.le_trans S4.out (Nat.le_trans S5.out (Nat.le_trans S6.out (Nat.le_trans S7.out S8.out))))))))).trans c_p0_2
    replace o_r := m.ownLow o_r (Nat.le_trans S6.out (Nat.le_trans S7.out S8.out))
    replace bb := bb.trans (m.low.mono (Nat.le_trans S1.out (Nat.le_trans S2.out (Nat.le_trans S3.out (Nat.le_trans S4.out (Nat.le_trans S5.out (Nat.le_trans S6.out (Nat.le_trans S7.out S8.out))))))))
    clear m
    go_wp2_with fail
    refine (held_any _ _ _ (1) _ ((o_g.sl hn_g).more (Nat.le_trans S10.out (Nat.le_trans S11.out (Nat.le_trans S12.out (Nat.le_trans S13.out (Nat.le_trans S14.out (Nat.le_trans S15.out (Nat.le_trans S16.out (Nat.le_trans S17.out (Nat.le_trans S18.out S19.out)))))))))) (by omega)).mono ?_
    rintro e w' ⟨rfl, rfl⟩
    go_wp2_with fail
    refine (toM_any _ _ _ _ _ x0 _ (s_a0.more (Nat.le_trans S1.out (Nat.le_trans S2.out (Nat.le_trans S3.out (Nat.le_trans S4.out (Nat.le_trans S5.out (Nat.le_trans S6.out (Nat.le_trans S7.out (Nat.le_trans S8.out (Nat.le_trans S9.out (Nat.le_trans S10.out (Nat.le_trans S11.out (Nat.le_trans S12.out (Nat.le_trans S13.out (Nat.le_trans S14.out (Nat.le_trans S15.out (Nat.le_trans S16.out (Nat.le_trans S17.out (Nat.le_trans S18.out S19.out)))))))))))))))))))).mono ?_
    rintro e w20 ⟨a_v0, c_v0, rfl, o_v0, b⟩
    have S20 := Lib.hid b.size
    replace s_a1 := s_a1.keep (b.mono (Nat.le_trans S1.out (Nat.le_trans S2.out (Nat.le_trans S3.out (Nat.le_trans S4.out (Nat.le_trans S5.out (Nat.le_trans S6.out (Nat.le_trans S7.out (Nat.le_trans S8.out (Nat.le_trans S9.out (Nat.le_trans S10.out (Nat.le_trans S11.out (Nat.le_trans S12.out (Nat.le_trans S13.out (Nat.le_trans S14.out (Nat.le_trans S15.out (Nat.le_trans S16.out (Nat.le_trans S17.out (Nat.le_trans S18.out S19.out)))))))))))))))))))
    replace s_a0 := s_a0.keep (b.mono (Nat.le_trans S1.out (Nat.le_trans S2.out (Nat.le_trans S3.out (Nat.le_trans S4.out (Nat.le_trans S5.out (Nat.le_trans S6.out (Nat.le_trans S7.out (Nat.le_trans S8.out (Nat.le_trans S9.out (Nat.le_trans S10.out (Nat.le_trans S11.out (Nat.le_trans S12.out (Nat.le_trans S13.out (Nat.le_trans S14.out (Nat.le_trans S15.out (Nat.le_trans S16.out (Nat.le_trans S17.out (Nat.le_trans S18.out S19.out)))))))))))))))))))
    replace c_p0_0 := (b.cell (p := ⟨w0.heap.size, 0, none⟩) (Nat.lt_of_lt_of_le z_p0 (Nat.le_trans S2.out (Nat.le_trans S3.out (Nat.le_trans S4.out (Nat.le_trans S5.out (Nat.le_trans S6.out (Nat.le_trans S7.out (Nat.le_trans S8.out (Nat.le_trans S9.out (Nat.le_trans S10.out (Nat.le_trans S11.out (Nat.le_trans S12.out (Nat.le_trans S13.out (Nat.le_trans S14.out (Nat.le_trans S15.out (Nat.le_trans S16.out (Nat.le_trans S17.out (Nat.le_trans S18.out S19.out))))))))))))))))))).trans c_p0_0
    replace c_p0_1 := (b.cell (p := ⟨w0.heap.size, 1, none⟩) (Nat.lt_of_lt_of_le z_p0 (Nat.le_trans S2.out (Nat.le_trans S3.out (Nat.le_trans S4.out (Nat.le_trans S5.out (Nat.le_trans S6.out (Nat.le_trans S7.out (Nat.le_trans S8.out (Nat.le_trans S9.out (Nat.le_trans S10.out (Nat.le_trans S11.out (Nat.le_trans S12.out (Nat.le_trans S13.out (Nat.le_trans S14.out (Nat.le_trans S15.out (Nat.le_trans S16.out (Nat.le_trans S17.out (Nat.le_trans S18.out S19.out))))))))))))))))))).trans c_p0_1
    replace c_p0_2 := (b.cell (p := ⟨w0.heap.size, 2, none⟩) (Nat.lt_of_lt_of_le z_p0 (Nat.le_trans S2.out (Nat.le_trans S3.out (Nat.le_trans S4.out (Nat.le_trans S5.out (Nat.le_trans S6.out (Nat.le_trans S7.out (Nat.le_trans S8.out (Nat.le_trans S9.out (Nat.le_trans S10.out (Nat.le_trans S11.out (Nat.le_trans S12.out (Nat.le_trans S13.out (Nat.le_trans S14.out (Nat.le_trans S15.out (Nat.le_trans S16.out (Nat.le_trans S17.out (Nat.le_trans S18.out S19.out))))))))))))))))))).trans c_p0_2
    replace o_r := o_r.keep b (Nat.le_trans S6.out (Nat.le_trans S7.out (Nat.le_trans S8.out (Nat.le_trans S9.out (Nat.le_trans S10.out (Nat.le_trans S11.out (Nat.le_trans S12.out (Nat.le_trans S13.out (Nat.le_trans S14.out (Nat.le_trans S15.out (Nat.le_trans S16.out (Nat.le_trans S17.out (Nat.le_trans S18.out S19.out)))))))))))))
    replace o_g := o_g.keep b (Nat.le_trans S10.out (Nat.le_trans S11.out (Nat.le_trans S12.out (Nat.le_trans S13.out (Nat.le_trans S14.out (Nat.le_trans S15.out (Nat.le_trans S16.out (Nat.le_trans S17.out (Nat.le_trans S18.out S19.out)))))))))
    replace bb := bb.trans (b.mono (Nat.le_trans S1.out (Nat.le_trans S2.out (Nat.le_trans S3.out (Nat.le_trans S4.out (Nat.le_trans S5.out (Nat.le_trans S6.out (Nat.le_trans S7.out (Nat.le_trans S8.out (Nat.le_trans S9.out (Nat.le_trans S10.out (Nat.le_trans S11.out (Nat.le_trans S12.out (Nat.le_trans S13.out (Nat.le_trans S14.out (Nat.le_trans S15.out (Nat.le_trans S16.out (Nat.le_trans S17.out (Nat.le_trans S18.out S19.out)))))))))))))))))))
    clear b
    have hn_v0 : n0 ≤ 1048576 := hn0
    go_wp2_with fail
    refine (toIntS_any _ _ _ x1 _ (s_a1.more (Nat.le_trans S1.out (Nat.le_trans S2.out (Nat.le_trans S3.out (Nat.le_trans S4.out (Nat.le_trans S5.out (Nat.le_trans S6.out (Nat.le_trans S7.out (Nat.le_trans S8.out (Nat.le_trans S9.out (Nat.le_trans S10.out (Nat.le_trans S11.out (Nat.le_trans S12.out (Nat.le_trans S13.out (Nat.le_trans S14.out (Nat.le_trans S15.out (Nat.le_trans S16.out (Nat.le_trans S17.out (Nat.le_trans S18.out (Nat.le_trans S19.out S20.out))))))))))))))))))))).mono ?_
    rintro e w21 ⟨a_v1, c_v1, rfl, o_v1, b⟩
    have S21 := Lib.hid b.size
    replace s_a1 := s_a1.keep (b.mono (Nat.le_trans S1.out (Nat.le_trans S2.out (Nat.le_trans S3.out (Nat.le_trans S4.out (Nat.le_trans S5.out (Nat.le_trans S6.out (Nat.le_trans S7.out (Nat.le_trans S8.out (Nat.le_trans S9.out (Nat.le_trans S10.out (Nat.le_trans S11.out (Nat.le_trans S12.out (Nat.le_trans S13.out (Nat.le_trans S14.out (Nat.le_trans S15.out (Nat.le_trans S16.out (Nat.le_trans S17.out (Nat.le_trans S18.out (Nat.le_trans S19.out S20.out))))))))))))))))))))
    replace s_a0 := s_a0.keep (b.mono (Nat.le_trans S1.out (Nat.le_trans S2.out (Nat.le_trans S3.out (Nat.le_trans S4.out (Nat.le_trans S5.out (Nat.le_trans S6.out (Nat.le_trans S7.out (Nat.le_trans S8.out (Nat.le_trans S9.out (Nat.le_trans S10.out (Nat.le_trans S11.out (Nat.le_trans S12.out (Nat.le_trans S13.out (Nat.le_trans S14.out (Nat.le_trans S15.out (Nat.le_trans S16.out (Nat.le_trans S17.out (Nat.le_trans S18.out (Nat.le_trans S19.out S20.out))))))))))))))))))))
    replace c_p0_0 := (b.cell (p := ⟨w0.heap.size, 0, none⟩) (Nat.lt_of_lt_of_le z_p0 (Nat.le_trans S2.out (Nat.le_trans S3.out (Nat.le_trans S4.out (Nat.le_trans S5.out (Nat.le_trans S6.out (Nat.le_trans S7.out (Nat.le_trans S8.out (Nat.le_trans S9.out (Nat.le_trans S10.out (Nat.le_trans S11.out (Nat.le_trans S12.out (Nat.le_trans S13.out (Nat.le_trans S14.out (Nat.le_trans S15.out (Nat.le_trans S16.out (Nat.le_trans S17.out (Nat.le_trans S18.out (Nat.le_trans S19.out S20.out)))))))))))))))))))).trans c_p0_0
    replace c_p0_1 := (b.cell (p := ⟨w0.heap.size, 1, none⟩) (Nat.lt_of_lt_of_le z_p0 (Nat.le_trans S2.out (Nat.le_trans S3.out (Nat.le_trans S4.out (Nat.le_trans S5.out (Nat.le_trans S6.out (Nat.le_trans S7.out (Nat.le_trans S8.out (Nat.le_trans S9.out (Nat.le_trans S10.out (Nat.le_trans S11.out (Nat.le_trans S12.out (Nat.le_trans S13.out (Nat.le_trans S14.out (Nat.le_trans S15.out (Nat.le_trans S16.out (Nat.le_trans S17.out (Nat.le_trans S18.out (Nat.le_trans S19.out S20.out)))))))))))))))))))).trans c_p0_1
    replace c_p0_2 := (b.cell (p := ⟨w0.heap.size, 2, none⟩) (Nat.lt_of_lt_of_le z_p0 (Nat.le_trans S2.out (Nat.le_trans S3.out (Nat.le_trans S4.out (Nat.le_trans S5.out (Nat.le_trans S6.out (Nat.le_trans S7.out (Nat.le_trans S8.out (Nat.le_trans S9.out (Nat.le_trans S10.out (Nat.le_trans S11.out (Nat.le_trans S12.out (Nat.le_trans S13.out (Nat.le_trans S14.out (Nat.le_trans S15.out (Nat.le_trans S16.out (Nat.le_trans S17.out (Nat.le_trans S18.out (Nat.le_trans S19.out S20.out)))))))))))))))))))).trans c_p0_2
    replace o_r := o_r.keep b (Nat.le_trans S6.out (Nat.le_trans S7.out (Nat.le_trans S8.out (Nat.le_trans S9.out (Nat.le_trans S10.out (Nat.le_trans S11.out (Nat.le_trans S12.out (Nat.le_trans S13.out (Nat.le_trans S14.out (Nat.le_trans S15.out (Nat.le_trans S16.out (Nat.le_trans S17.out (Nat.le_trans S18.out (Nat.le_trans S19.out S20.out))))))))))))))
    replace o_g := o_g.keep b (Nat.le_trans S10.out (Nat.le_trans S11.out (Nat.le_trans S12.out (Nat.le_trans S13.out (Nat.le_trans S14.out (Nat.le_trans S15.out (Nat.le_trans S16.out (Nat.le_trans S17.out (Nat.le_trans S18.out (Nat.le_trans S19.out S20.out))))))))))
    replace o_v0 := o_v0.keep b (Nat.le_refl _)
    replace bb := bb.trans (b.mono (Nat.le_trans S1.out (Nat.le_trans S2.out (Nat.le_trans S3.out (Nat.le_trans S4.out (Nat.le_trans S5.out (Nat.le_trans S6.out (Nat.le_trans S7.out (Nat.le_trans S8.out (Nat.le_trans S9.out (Nat.le_trans S10.out (Nat.le_trans S11.out (Nat.le_trans S12.out (Nat.le_trans S13.out (Nat.le_trans S14.out (Nat.le_trans S15.out (Nat.le_trans S16.out (Nat.le_trans S17.out (Nat.le_trans S18.out (Nat.le_trans S19.out S20.out))))))))))))))))))))
    clear b
    have hn_v1 : n1 ≤ 1048576 := hn1
    go_wp2_with fail
    refine (step_i _ _ _ _ _ _ _ _ x0 x1 _ _ ((o_v0.sl hn_v0).more (S21.out)) ((o_v1.sl hn_v1).more (Nat.le_refl _))).mono ?_
    rintro e w22 ⟨a_h, n_h, c_h, rfl, o_h, b⟩
    have S22 := Lib.hid b.size
    replace s_a1 := s_a1.keep (b.mono (Nat.le_trans S1.out (Nat.le_trans S2.out (Nat.le_trans S3.out (Nat.le_trans S4.out (Nat.le_trans S5.out (Nat.le_trans S6.out (Nat.le_trans S7.out (Nat.le_trans S8.out (Nat.le_trans S9.out (Nat.le_trans S10.out (Nat.le_trans S11.out (Nat.le_trans S12.out (Nat.le_trans S13.out (Nat.le_trans S14.out (Nat.le_trans S15.out (Nat.le_trans S16.out (Nat.le_trans S17.out (Nat.le_trans S18.out (Nat.le_trans S19.out (Nat.le_trans S20.out S21.out)))))))))))))))))))))
    replace s_a0 := s_a0.keep (b.mono (Nat.le_trans S1.out (Nat.le_trans S2.out (Nat.le_trans S3.out (Nat.le_trans S4.out (Nat.le_trans S5.out (Nat.le_trans S6.out (Nat.le_trans S7.out (Nat.le_trans S8.out (Nat.le_trans S9.out (Nat.le_trans S10.out (Nat.le_trans S11.out (Nat.le_trans S12.out (Nat.le_trans S13.out (Nat.le_trans S14.out (Nat.le_trans S15.out (Nat.le_trans S16.out (Nat.le_trans S17.out (Nat.le_trans S18.out (Nat.le_trans S19.out (Nat.le_trans S20.out S21.out)))))))))))))))))))))
    replace c_p0_0 := (b.cell (p := ⟨w0.heap.size, 0, none⟩) (Nat.lt_of_lt_of_le z_p0 (Nat.le_trans S2.out (Nat.le_trans S3.out (Nat.le_trans S4.out (Nat.le_trans S5.out (Nat.le_trans S6.out (Nat.le_trans S7.out (Nat.le_trans S8.out (Nat.le_trans S9.out (Nat.le_trans S10.out (Nat.le_trans S11.out (Nat.le_trans S12.out (Nat.le_trans S13.out (Nat.le_trans S14.out (Nat.le_trans S15.out (Nat.le_trans S16.out (Nat.le_trans S17.out (Nat.le_trans S18.out (Nat.le_trans S19.out (Nat.le_trans S20.out S21.out))))))))))))))))))))).trans c_p0_0
    replace c_p0_1 := (b.cell (p := ⟨w0.heap.size, 1, none⟩) (Nat.lt_of_lt_of_le z_p0 (Nat.le_trans S2.out (Nat.le_trans S3.out (Nat.le_trans S4.out (Nat.le_trans S5.out (Nat.le_trans S6.out (Nat.le_trans S7.out (Nat.le_trans S8.out (Nat.le_trans S9.out (Nat.le_trans S10.out (Nat.le_trans S11.out (Nat.le_trans S12.out (Nat.le_trans S13.out (Nat.le_trans S14.out (Nat.le_trans S15.out (Nat.le_trans S16.out (Nat.le_trans S17.out (Nat.le_trans S18.out (Nat.le_trans S19.out (Nat.le_trans S20.out S21.out))))))))))))))))))))).trans c_p0_1
    replace c_p0_2 := (b.cell (p := ⟨w0.heap.size, 2, none⟩) (Nat.lt_of_lt_of_le z_p0 (Nat.le_trans S2.out (Nat.le_trans S3.out (Nat.le_trans S4.out (Nat.le_trans S5.out (Nat.le_trans S6.out (Nat.le_trans S7.out (Nat.le_trans S8.out (Nat.le_trans S9.out (Nat.le_trans S10.out (Nat.le_trans S11.out (Nat.le_trans S12.out (Nat.le_trans S13.out (Nat.le_trans S14.out (Nat.le_trans S15.out (Nat.le_trans S16.out (Nat.le_trans S17.out (Nat.le_trans S18.out (Nat.le_trans S19.out (Nat.le_trans S20.out S21.out))))))))))))))))))))).trans c_p0_2
    replace o_r := o_r.keep b (Nat.le_trans S6.out (Nat.le_trans S7.out (Nat.le_trans S8.out (Nat.le_trans S9.out (Nat.le_trans S10.out (Nat.le_trans S11.out (Nat.le_trans S12.out (Nat.le_trans S13.out (Nat.le_trans S14.out (Nat.le_trans S15.out (Nat.le_trans S16.out (Nat.le_trans S17.out (Nat.le_trans S18.out (Nat.le_trans S19.out (Nat.le_trans S20.out S21.out)))))))))))))))
    replace o_g := o_g.keep b (Nat.le_trans S10.out (Nat.le_trans S11.out (Nat.le_trans S12.out (Nat.le_trans S13.out (Nat.le_trans S14.out (Nat.le_trans S15.out (Nat.le_trans S16.out (Nat.le_trans S17.out (Nat.le_trans S18.out (Nat.le_trans S19.out (Nat.le_trans S20.out S21.out)))))))))))
    replace o_v0 := o_v0.keep b (S21.out)
    replace o_v1 := o_v1.keep b (Nat.le_refl _)
    replace bb := bb.trans (b.mono (Nat.le_trans S1.out (Nat.le_trans S2.out (Nat.le_trans S3.out (Nat.le_trans S4.out (Nat.le_trans S5.out (Nat.le_trans S6.out (Nat.le_trans S7.out (Nat.le_trans S8.out (Nat.le_trans S9.out (Nat.le_trans S10.out (Nat.le_trans S11.out (Nat.le_trans S12.out (Nat.le_trans S13.out (Nat.le_trans S14.out (Nat.le_trans S15.out (Nat.le_trans S16.out (Nat.le_trans S17.out (Nat.le_trans S18.out (Nat.le_trans S19.out (Nat.le_trans S20.out S21.out)))))))))))))))))))))
    clear b
    have hn_h : n_h ≤ 1048576 := by rw [← o_h.len]; exact stepM_len _ _ _ _ _
    clear o_v1
    clear o_v0
    clear s_a1
    clear s_a0
    obtain rfl : n_g = n_h := by rw [← o_r.len, ← o_h.len]
    go_wp2_with fail
    refine (eqIntS_true _ _ _ _ _ _ _ ((o_h.sl hn_h).more (Nat.le_refl _)) ((o_r.sl hn_r).more (Nat.le_trans S6.out (Nat.le_trans S7.out (Nat.le_trans S8.out (Nat.le_trans S9.out (Nat.le_trans S10.out (Nat.le_trans S11.out (Nat.le_trans S12.out (Nat.le_trans S13.out (Nat.le_trans S14.out (Nat.le_trans S15.out (Nat.le_trans S16.out (Nat.le_trans S17.out (Nat.le_trans S18.out (Nat.le_trans S19.out (Nat.le_trans S20.out (Nat.le_trans S21.out S22.out)))))))))))))))))).mono ?_
    rintro e w23 ⟨rfl, b⟩
    have S23 := Lib.hid b.size
    replace c_p0_0 := (b.cell (p := ⟨w0.heap.size, 0, none⟩) (Nat.lt_of_lt_of_le z_p0 (Nat.le_trans S2.out (Nat.le_trans S3.out (Nat.le_trans S4.out (Nat.le_trans S5.out (Nat.le_trans S6.out (Nat.le_trans S7.out (Nat.le_trans S8.out (Nat.le_trans S9.out (Nat.le_trans S10.out (Nat.le_trans S11.out (Nat.le_trans S12.out (Nat.le_trans S13.out (Nat.le_trans S14.out (Nat.le_trans S15.out (Nat.le_trans S16.out (Nat.le_trans S17.out (Nat.le_trans S18.out (Nat.le_trans S19.out (Nat.le_trans S20.out (Nat.le_trans S21.out S22.out)))))))))))))))))))))).trans c_p0_0
    replace c_p0_1 := (b.cell (p := ⟨w0.heap.size, 1, none⟩) (Nat.lt_of_lt_of_le z_p0 (Nat.le_trans S2.out (Nat.le_trans S3.out (Nat.le_trans S4.out (Nat.le_trans S5.out (Nat.le_trans S6.out (Nat.le_trans S7.out (Nat.le_trans S8.out (Nat.le_trans S9.out (Nat.le_trans S10.out (Nat.le_trans S11.out (Nat.le_trans S12.out (Nat.le_trans S13.out (Nat.le_trans S14.out (Nat.le_trans S15.out (Nat.le_trans S16.out (Nat.le_trans S17.out (Nat.le_trans S18.out (Nat.le_trans S19.out (Nat.le_trans S20.out (Nat.le_trans S21.out S22.out)))))))))))))))))))))).trans c_p0_1
    replace c_p0_2 := (b.cell (p := ⟨w0.heap.size, 2, none⟩) (Nat.lt_of_lt_of_le z_p0 (Nat.le_trans S2.out (Nat.le_trans S3.out (Nat.le_trans S4.out (Nat.le_trans S5.out (Nat.le_trans S6.out (Nat.le_trans S7.out (Nat.le_trans S8.out (Nat.le_trans S9.out (Nat.le_trans S10.out (Nat.le_trans S11.out (Nat.le_trans S12.out (Nat.le_trans S13.out (Nat.le_trans S14.out (Nat.le_trans S15.out (Nat.le_trans S16.out (Nat.le_trans S17.out (Nat.le_trans S18.out (Nat.le_trans S19.out (Nat.le_trans S20.out (Nat.le_trans S21.out S22.out)))))))))))))))))))))).trans c_p0_2
    replace o_r := o_r.keep b (Nat.le_trans S6.out (Nat.le_trans S7.out (Nat.le_trans S8.out (Nat.le_trans S9.out (Nat.le_trans S10.out (Nat.le_trans S11.out (Nat.le_trans S12.out (Nat.le_trans S13.out (Nat.le_trans S14.out (Nat.le_trans S15.out (Nat.le_trans S16.out (Nat.le_trans S17.out (Nat.le_trans S18.out (Nat.le_trans S19.out (Nat.le_trans S20.out (Nat.le_trans S21.out S22.out))))))))))))))))
    replace o_g := o_g.keep b (Nat.le_trans S10.out (Nat.le_trans S11.out (Nat.le_trans S12.out (Nat.le_trans S13.out (Nat.le_trans S14.out (Nat.le_trans S15.out (Nat.le_trans S16.out (Nat.le_trans S17.out (Nat.le_trans S18.out (Nat.le_trans S19.out (Nat.le_trans S20.out (Nat.le_trans S21.out S22.out))))))))))))
    replace o_h := o_h.keep b (Nat.le_refl _)
    replace bb := bb.trans (b.mono (Nat.le_trans S1.out (Nat.le_trans S2.out (Nat.le_trans S3.out (Nat.le_trans S4.out (Nat.le_trans S5.out (Nat.le_trans S6.out (Nat.le_trans S7.out (Nat.le_trans S8.out (Nat.le_trans S9.out (Nat.le_trans S10.out (Nat.le_trans S11.out (Nat.le_trans S12.out (Nat.le_trans S13.out (Nat.le_trans S14.out (Nat.le_trans S15.out (Nat.le_trans S16.out (Nat.le_trans S17.out (Nat.le_trans S18.out (Nat.le_trans S19.out (Nat.le_trans S20.out (Nat.le_trans S21.out S22.out))))))))))))))))))))))
    clear b
    clear o_h
    clear o_r
    go_wp2_with fail
    refine (held_any _ _ _ (1) _ ((o_g.sl hn_g).more (Nat.le_trans S10.out (Nat.le_trans S11.out (Nat.le_trans S12.out (Nat.le_trans S13.out (Nat.le_trans S14.out (Nat.le_trans S15.out (Nat.le_trans S16.out (Nat.le_trans S17.out (Nat.le_trans S18.out (Nat.le_trans S19.out (Nat.le_trans S20.out (Nat.le_trans S21.out (Nat.le_trans S22.out S23.out)))))))))))))) (by omega)).mono ?_
    rintro e w' ⟨rfl, rfl⟩
    go_wp2_with fail
    go_ret
    exact ⟨rfl, bb⟩

set_option maxHeartbeats 400000 in
theorem fnExactStepModulator_walk (l0 s0 : Int) (a0 : Option Addr) (n0 c0 : Nat) (x0 : List Int) (a1 : Option Addr) (n1 c1 : Nat) (x1 : List Int) (a2 : Int) (w : World) (h0 : (Wf l0 ∧ Wf s0) ∧ IsRow .i64 w a0 n0 c0 x0) (h1 : IsRow .i64 w a1 n1 c1 x1) (h2 : Wf a2) :
    Calls Try.prog 10 #[.agg #[.int .i64 l0, .int .i64 s0, .slice a0 n0 c0], .slice a1 n1 c1, .int .i64 a2] w fun e w' => e = .returned (.bool true) ∧ Below w.heap.size w w' := by
  have hle1 := h1.le
  have hle0 := h0.2.le
  by_cases hn1 : n1 ≤ 1048576
  rotate_left
  · go_enter Try.func10, Try.ntmps10
    go_wp2_with fail
    go_ret
    exact ⟨rfl, box_below _ _⟩
  by_cases hn0 : n0 ≤ 1048576
  rotate_left
  · go_enter Try.func10, Try.ntmps10
    go_wp2_with fail
    refine (szM_over _ _ _ _ _ _ (by omega)).mono ?_
    rintro e w1 ⟨rfl, b⟩
    go_wp2_with fail
    go_ret
    exact ⟨rfl, box_then b⟩
  exact fnExactStepModulator_core _ _ _ _ _ _ _ _ _ _ _ w h0.1 (h0.2.sl hn0) (h1.sl hn1) h2
end Go.Proofs.Ytfcojfccajofpaa
