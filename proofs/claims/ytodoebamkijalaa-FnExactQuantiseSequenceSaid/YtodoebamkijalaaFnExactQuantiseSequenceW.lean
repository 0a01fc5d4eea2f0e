/- The walk of the law FnExactQuantiseSequence: it returns true and leaves what was there as it was. -/
import Derived.Test.YtodoebamkijalaaQSeq
import Derived.Test.YtodoebamkijalaaAux
namespace Go.Proofs.Ytodoebamkijalaa
open Go.RowKit
set_option linter.unusedVariables false
set_option maxRecDepth 100000 in
set_option maxHeartbeats 4000000 in
theorem fnExactQuantiseSequence_core (l0 s0 : Int) (a1 : Option Addr) (n1 c1 : Nat) (x1 : List Int) (w0 : World) (h0 : Wf l0 ∧ Wf s0) (s_a1 : Sl w0 w0.heap.size a1 n1 c1 x1) :
    Calls Try.prog 11 #[.agg #[.int .i64 l0, .int .i64 s0], .slice a1 n1 c1] w0 fun e w' => e = .returned (.bool true) ∧ Below w0.heap.size w0 w' := by
    have hn1 : n1 ≤ 1048576 := s_a1.2.2.1
    have bb := Below.refl w0.heap.size w0
    go_enter Try.func11, Try.ntmps11
    go_wp2_with fail
    have c_p0_0 : (w0.alloc (.cells #[.int .i64 l0, .int .i64 s0] 48)).cell? ⟨w0.heap.size, 0, none⟩ = some (.int .i64 l0) := by simp [go_sem]
    have c_p0_1 : (w0.alloc (.cells #[.int .i64 l0, .int .i64 s0] 48)).cell? ⟨w0.heap.size, 1, none⟩ = some (.int .i64 s0) := by simp [go_sem]
    have z_p0 : w0.heap.size < (w0.alloc (.cells #[.int .i64 l0, .int .i64 s0] 48)).heap.size := by simp
    have b := box_below w0 (.cells #[.int .i64 l0, .int .i64 s0] 48)
    generalize hgw : (w0.alloc (.cells #[.int .i64 l0, .int .i64 s0] 48)) = w1 at c_p0_0 c_p0_1 z_p0 b ⊢
    clear hgw
    have S1 := Lib.hid b.size
    replace s_a1 := s_a1.keep (b.mono (Nat.le_refl _))
    replace bb := bb.trans (b.mono (Nat.le_refl _))
    clear b
    go_wp2_with fail
    refine (toQ_any _ _ _).mono ?_
    rintro e w2 ⟨rfl, b⟩
    have S2 := Lib.hid b.size
    replace s_a1 := s_a1.keep (b.mono (S1.out))
    replace c_p0_0 := (b.cell (p := ⟨w0.heap.size, 0, none⟩) (Nat.lt_of_lt_of_le z_p0 (Nat.le_refl _))).trans c_p0_0
    replace c_p0_1 := (b.cell (p := ⟨w0.heap.size, 1, none⟩) (Nat.lt_of_lt_of_le z_p0 (Nat.le_refl _))).trans c_p0_1
    replace bb := bb.trans (b.mono (S1.out))
    clear b
    go_wp2_with fail
    refine (toIntS_any _ _ _ x1 _ (s_a1.more (Nat.le_trans S1.out S2.out))).mono ?_
    rintro e w3 ⟨a_t1, c_t1, rfl, o_t1, b⟩
    have S3 := Lib.hid b.size
    replace s_a1 := s_a1.keep (b.mono (Nat.le_trans S1.out S2.out))
    replace c_p0_0 := (b.cell (p := ⟨w0.heap.size, 0, none⟩) (Nat.lt_of_lt_of_le z_p0 (S2.out))).trans c_p0_0
    replace c_p0_1 := (b.cell (p := ⟨w0.heap.size, 1, none⟩) (Nat.lt_of_lt_of_le z_p0 (S2.out))).trans c_p0_1
    replace bb := bb.trans (b.mono (Nat.le_trans S1.out S2.out))
    clear b
    have hn_t1 : n1 ≤ 1048576 := hn1
    go_wp2_with fail
    refine (qseq_s _ _ _ _ _ x1 _ ((o_t1.sl hn_t1).more (Nat.le_refl _))).mono ?_
    rintro e w4 ⟨a_r0, n_r0, c_r0, a_r1, n_r1, c_r1, rfl, o_r0, o_r1, f_r0_r1, b⟩
    have S4 := Lib.hid b.size
    replace s_a1 := s_a1.keep (b.mono (Nat.le_trans S1.out (Nat.le_trans S2.out S3.out)))
    replace c_p0_0 := (b.cell (p := ⟨w0.heap.size, 0, none⟩) (Nat.lt_of_lt_of_le z_p0 (Nat.le_trans S2.out S3.out))).trans c_p0_0
    replace c_p0_1 := (b.cell (p := ⟨w0.heap.size, 1, none⟩) (Nat.lt_of_lt_of_le z_p0 (Nat.le_trans S2.out S3.out))).trans c_p0_1
    replace o_t1 := o_t1.keep b (Nat.le_refl _)
    replace bb := bb.trans (b.mono (Nat.le_trans S1.out (Nat.le_trans S2.out S3.out)))
    clear b
    have hn_r0 : n_r0 ≤ 1048576 := by rw [← o_r0.len]; exact qsV_len _ _ _
    have hn_r1 : n_r1 ≤ 1048576 := by rw [← o_r1.len]; exact esV_len _ _ _
    obtain ⟨q_r0, pb_r0, pi_r0, pc_r0⟩ := o_r0.pin (S4.out)
    obtain ⟨q_r1, pb_r1, pi_r1, pc_r1⟩ := o_r1.pin (S4.out)
    have ap_r0_r1 := Lib.hid (pin_apart o_r0 o_r1 f_r0_r1)
    have ap_r1_r0 := Lib.hid (pin_apart o_r1 o_r0 f_r0_r1.symm)
    clear o_r0
    have o_r0 := q_r0
    clear q_r0 pi_r0
    clear o_r1
    have o_r1 := q_r1
    clear q_r1 pi_r1
    clear f_r0_r1
    clear o_t1
    go_wp2_with fail
    refine (toIntS_any _ _ _ x1 _ (s_a1.more (Nat.le_trans S1.out (Nat.le_trans S2.out (Nat.le_trans S3.out S4.out))))).mono ?_
    rintro e w5 ⟨a_y1, c_y1, rfl, o_y1, b⟩
    have S5 := Lib.hid b.size
    replace s_a1 := s_a1.keep (b.mono (Nat.le_trans S1.out (Nat.le_trans S2.out (Nat.le_trans S3.out S4.out))))
    replace c_p0_0 := (b.cell (p := ⟨w0.heap.size, 0, none⟩) (Nat.lt_of_lt_of_le z_p0 (Nat.le_trans S2.out (Nat.le_trans S3.out S4.out)))).trans c_p0_0
    replace c_p0_1 := (b.cell (p := ⟨w0.heap.size, 1, none⟩) (Nat.lt_of_lt_of_le z_p0 (Nat.le_trans S2.out (Nat.le_trans S3.out S4.out)))).trans c_p0_1
    replace o_r0 := o_r0.keep b (Nat.le_trans pc_r0 (Nat.le_refl _))
    replace o_r1 := o_r1.keep b (Nat.le_trans pc_r1 (Nat.le_refl _))
    replace bb := bb.trans (b.mono (Nat.le_trans S1.out (Nat.le_trans S2.out (Nat.le_trans S3.out S4.out))))
    clear b
    have hn_y1 : n1 ≤ 1048576 := hn1
    go_wp2_with fail
    refine (toQ_any _ _ _).mono ?_
    rintro e w6 ⟨rfl, b⟩
    have S6 := Lib.hid b.size
    replace s_a1 := s_a1.keep (b.mono (Nat.le_trans S1.out (Nat.le_trans S2.out (Nat.le_trans S3.out (Nat.le_trans S4.out S5.out)))))
    replace c_p0_0 := (b.cell (p := ⟨w0.heap.size, 0, none⟩) (Nat.lt_of_lt_of_le z_p0 (Nat.le_trans S2.out (Nat.le_trans S3.out (Nat.le_trans S4.out S5.out))))).trans c_p0_0
    replace c_p0_1 := (b.cell (p := ⟨w0.heap.size, 1, none⟩) (Nat.lt_of_lt_of_le z_p0 (Nat.le_trans S2.out (Nat.le_trans S3.out (Nat.le_trans S4.out S5.out))))).trans c_p0_1
    replace o_r0 := o_r0.keep b (Nat.le_trans pc_r0 (S5.out))
    replace o_r1 := o_r1.keep b (Nat.le_trans pc_r1 (S5.out))
    replace o_y1 := o_y1.keep b (Nat.le_refl _)
    replace bb := bb.trans (b.mono (Nat.le_trans S1.out (Nat.le_trans S2.out (Nat.le_trans S3.out (Nat.le_trans S4.out S5.out)))))
    clear b
    go_wp2_with fail
    refine (qseq_i _ _ _ _ _ x1 _ ((o_y1.sl hn_y1).more (S6.out))).mono ?_
    rintro e w7 ⟨a_g0, n_g0, c_g0, a_g1, n_g1, c_g1, rfl, o_g0, o_g1, f_g0_g1, b⟩
    have S7 := Lib.hid b.size
    replace s_a1 := s_a1.keep (b.mono (Nat.le_trans S1.out (Nat.le_trans S2.out (Nat.le_trans S3.out (Nat.le_trans S4.out (Nat.le_trans S5.out S6.out))))))
    replace c_p0_0 := (b.cell (p := ⟨w0.heap.size, 0, none⟩) (Nat.lt_of_lt_of_le z_p0 (Nat.le_trans S2.out (Nat.le_trans S3.out (Nat.le_trans S4.out (Nat.le_trans S5.out S6.out)))))).trans c_p0_0
    replace c_p0_1 := (b.cell (p := ⟨w0.heap.size, 1, none⟩) (Nat.lt_of_lt_of_le z_p0 (Nat.le_trans S2.out (Nat.le_trans S3.out (Nat.le_trans S4.out (Nat.le_trans S5.out S6.out)))))).trans c_p0_1
    replace o_r0 := o_r0.keep b (Nat.le_trans pc_r0 (Nat.le_trans S5.out S6.out))
    replace o_r1 := o_r1.keep b (Nat.le_trans pc_r1 (Nat.le_trans S5.out S6.out))
    replace o_y1 := o_y1.keep b (S6.out)
    replace bb := bb.trans (b.mono (Nat.le_trans S1.out (Nat.le_trans S2.out (Nat.le_trans S3.out (Nat.le_trans S4.out (Nat.le_trans S5.out S6.out))))))
    clear b
    have hn_g0 : n_g0 ≤ 1048576 := by rw [← o_g0.len]; exact qsV_len _ _ _
    have hn_g1 : n_g1 ≤ 1048576 := by rw [← o_g1.len]; exact esV_len _ _ _
    obtain ⟨q_g0, pb_g0, pi_g0, pc_g0⟩ := o_g0.pin (S7.out)
    obtain ⟨q_g1, pb_g1, pi_g1, pc_g1⟩ := o_g1.pin (S7.out)
    have ap_g0_g1 := Lib.hid (pin_apart o_g0 o_g1 f_g0_g1)
    have ap_g1_g0 := Lib.hid (pin_apart o_g1 o_g0 f_g0_g1.symm)
    clear o_g0
    have o_g0 := q_g0
    clear q_g0 pi_g0
    clear o_g1
    have o_g1 := q_g1
    clear q_g1 pi_g1
    clear f_g0_g1
    obtain rfl : n_g0 = n_r0 := by rw [← o_g0.len, ← o_r0.len]
    obtain rfl : n_g1 = n_r1 := by rw [← o_g1.len, ← o_r1.len]
    go_wp2_with fail
    refine (eqIntS_true _ _ _ _ _ _ _ ((o_g0.sl hn_g0).more (Nat.le_trans pc_g0 (Nat.le_refl _))) ((o_r0.sl hn_r0).more (Nat.le_trans pc_r0 (Nat.le_trans S5.out (Nat.le_trans S6.out S7.out))))).mono ?_
    rintro e w8 ⟨rfl, b⟩
    have S8 := Lib.hid b.size
    replace s_a1 := s_a1.keep (b.mono (Nat.le_trans S1.out (Nat.le_trans S2.out (Nat.le_trans S3.out (Nat.le_trans S4.out (Nat.le_trans S5.out (Nat.le_trans S6.out S7.out)))))))
    replace c_p0_0 := (b.cell (p := ⟨w0.heap.size, 0, none⟩) (Nat.lt_of_lt_of_le z_p0 (Nat.le_trans S2.out (Nat.le_trans S3.out (Nat.le_trans S4.out (Nat.le_trans S5.out (Nat.le_trans S6.out S7.out))))))).trans c_p0_0
    replace c_p0_1 := (b.cell (p := ⟨w0.heap.size, 1, none⟩) (Nat.lt_of_lt_of_le z_p0 (Nat.le_trans S2.out (Nat.le_trans S3.out (Nat.le_trans S4.out (Nat.le_trans S5.out (Nat.le_trans S6.out S7.out))))))).trans c_p0_1
    replace o_r0 := o_r0.keep b (Nat.le_trans pc_r0 (Nat.le_trans S5.out (Nat.le_trans S6.out S7.out)))
    replace o_r1 := o_r1.keep b (Nat.le_trans pc_r1 (Nat.le_trans S5.out (Nat.le_trans S6.out S7.out)))
    replace o_y1 := o_y1.keep b (Nat.le_trans S6.out S7.out)
    replace o_g0 := o_g0.keep b (Nat.le_trans pc_g0 (Nat.le_refl _))
    replace o_g1 := o_g1.keep b (Nat.le_trans pc_g1 (Nat.le_refl _))
    replace bb := bb.trans (b.mono (Nat.le_trans S1.out (Nat.le_trans S2.out (Nat.le_trans S3.out (Nat.le_trans S4.out (Nat.le_trans S5.out (Nat.le_trans S6.out S7.out)))))))
    clear b
    go_wp2_with fail
    refine (eqIntS_true _ _ _ _ _ _ _ ((o_g1.sl hn_g1).more (Nat.le_trans pc_g1 (S8.out))) ((o_r1.sl hn_r1).more (Nat.le_trans pc_r1 (Nat.le_trans S5.out (Nat.le_trans S6.out (Nat.le_trans S7.out S8.out)))))).mono ?_
    rintro e w9 ⟨rfl, b⟩
    have S9 := Lib.hid b.size
    replace s_a1 := s_a1.keep (b.mono (Nat.le_trans S1.out (Nat.le_trans S2.out (Nat.le_trans S3.out (Nat.le_trans S4.out (Nat.le_trans S5.out (Nat.le_trans S6.out (Nat.le_trans S7.out S8.out))))))))
    replace c_p0_0 := (b.cell (p := ⟨w0.heap.size, 0, none⟩) (Nat.lt_of_lt_of_le z_p0 (Nat.le_trans S2.out (Nat.le_trans S3.out (Nat.le_trans S4.out (Nat.le_trans S5.out (Nat.le_trans S6.out (Nat.le_trans S7.out S8.out)))))))).trans c_p0_0
    replace c_p0_1 := (b.cell (p := ⟨w0.heap.size, 1, none⟩) (Nat.lt_of_lt_of_le z_p0 (Nat.le_trans S2.out (Nat.le_trans S3.out (Nat.le_trans S4.out (Nat.le_trans S5.out (Nat.le_trans S6.out (Nat.le_trans S7.out S8.out)))))))).trans c_p0_1
    replace o_r0 := o_r0.keep b (Nat.le_trans pc_r0 (Nat.le_trans S5.out (Nat.le_trans S6.out (Nat.le_trans S7.out S8.out))))
    replace o_r1 := o_r1.keep b (Nat.le_trans pc_r1 (Nat.le_trans S5.out (Nat.le_trans S6.out (Nat.le_trans S7.out S8.out))))
    replace o_y1 := o_y1.keep b (Nat.le_trans S6.out (Nat.le_trans S7.out S8.out))
    replace o_g0 := o_g0.keep b (Nat.le_trans pc_g0 (S8.out))
    replace o_g1 := o_g1.keep b (Nat.le_trans pc_g1 (S8.out))
    replace bb := bb.trans (b.mono (Nat.le_trans S1.out (Nat.le_trans S2.out (Nat.le_trans S3.out (Nat.le_trans S4.out (Nat.le_trans S5.out (Nat.le_trans S6.out (Nat.le_trans S7.out S8.out))))))))
    clear b
    go_wp2_with fail
    refine (toIntS_any _ _ _ x1 _ (s_a1.more (Nat.le_trans S1.out (Nat.le_trans S2.out (Nat.le_trans S3.out (Nat.le_trans S4.out (Nat.le_trans S5.out (Nat.le_trans S6.out (Nat.le_trans S7.out (Nat.le_trans S8.out S9.out)))))))))).mono ?_
    rintro e w10 ⟨a_u1, c_u1, rfl, o_u1, b⟩
    have S10 := Lib.hid b.size
    replace s_a1 := s_a1.keep (b.mono (Nat.le_trans S1.out (Nat.le_trans S2.out (Nat.le_trans S3.out (Nat.le_trans S4.out (Nat.le_trans S5.out (Nat.le_trans S6.out (Nat.le_trans S7.out (Nat.le_trans S8.out S9.out)))))))))
    replace c_p0_0 := (b.cell (p := ⟨w0.heap.size, 0, none⟩) (Nat.lt_of_lt_of_le z_p0 (Nat.le_trans S2.out (Nat.le_trans S3.out (Nat.le_trans S4.out (Nat.le_trans S5.out (Nat.le_trans S6.out (Nat.le_trans S7.out (Nat.le_trans S8.out S9.out))))))))).trans c_p0_0
    replace c_p0_1 := (b.cell (p := ⟨w0.heap.size, 1, none⟩) (Nat.lt_of_lt_of_le z_p0 (Nat.le_trans S2.out (Nat.le_trans S3.out (Nat.le_trans S4.out (Nat.le_trans S5.out (Nat.le_trans S6.out (Nat.le_trans S7.out (Nat.le_trans S8.out S9.out))))))))).trans c_p0_1
    replace o_r0 := o_r0.keep b (Nat.le_trans pc_r0 (Nat.le_trans S5.out (Nat.le_trans S6.out (Nat.le_trans S7.out (Nat.le_trans S8.out S9.out)))))
    replace o_r1 := o_r1.keep b (Nat.le_trans pc_r1 (Nat.le_trans S5.out (Nat.le_trans S6.out (Nat.le_trans S7.out (Nat.le_trans S8.out S9.out)))))
    replace o_y1 := o_y1.keep b (Nat.le_trans S6.out (Nat.le_trans S7.out (Nat.le_trans S8.out S9.out)))
    replace o_g0 := o_g0.keep b (Nat.le_trans pc_g0 (Nat.le_trans S8.out S9.out))
    replace o_g1 := o_g1.keep b (Nat.le_trans pc_g1 (Nat.le_trans S8.out S9.out))
    replace bb := bb.trans (b.mono (Nat.le_trans S1.out (Nat.le_trans S2.out (Nat.le_trans S3.out (Nat.le_trans S4.out (Nat.le_trans S5.out (Nat.le_trans S6.out (Nat.le_trans S7.out (Nat.le_trans S8.out S9.out)))))))))
    clear b
    have hn_u1 : n1 ≤ 1048576 := hn1
    go_wp2_with fail
    refine (eqIntS_true _ _ _ _ _ _ _ ((o_y1.sl hn_y1).more (Nat.le_trans S6.out (Nat.le_trans S7.out (Nat.le_trans S8.out (Nat.le_trans S9.out S10.out))))) ((o_u1.sl hn_u1).more (Nat.le_refl _))).mono ?_
    rintro e w11 ⟨rfl, b⟩
    have S11 := Lib.hid b.size
    replace s_a1 := s_a1.keep (b.mono (Nat.le_trans S1.out (Nat.le_trans S2.out (Nat.le_trans S3.out (Nat.le_trans S4.out (Nat.le_trans S5.out (Nat.le_trans S6.out (Nat.le_trans S7.out (Nat.le_trans S8.out (Nat.le_trans S9.out S10.out))))))))))
    replace c_p0_0 := (b.cell (p := ⟨w0.heap.size, 0, none⟩) (Nat.lt_of_lt_of_le z_p0 (Nat.le_trans S2.out (Nat.le_trans S3.out (Nat.le_trans S4.out (Nat.le_trans S5.out (Nat.le_trans S6.out (Nat.le_trans S7.out (Nat.le_trans S8.out (Nat.le_trans S9.out S10.out)))))))))).trans c_p0_0
    replace c_p0_1 := (b.cell (p := ⟨w0.heap.size, 1, none⟩) (Nat.lt_of_lt_of_le z_p0 (Nat.le_trans S2.out (Nat.le_trans S3.out (Nat.le_trans S4.out (Nat.le_trans S5.out (Nat.le_trans S6.out (Nat.le_trans S7.out (Nat.le_trans S8.out (Nat.le_trans S9.out S10.out)))))))))).trans c_p0_1
    replace o_r0 := o_r0.keep b (Nat.le_trans pc_r0 (Nat.le_trans S5.out (Nat.le_trans S6.out (Nat.le_trans S7.out (Nat.le_trans S8.out (Nat.le_trans S9.out S10.out))))))
    replace o_r1 := o_r1.keep b (Nat.le_trans pc_r1 (Nat.le_trans S5.out (Nat.le_trans S6.out (Nat.le_trans S7.out (Nat.le_trans S8.out (Nat.le_trans S9.out S10.out))))))
    replace o_y1 := o_y1.keep b (Nat.le_trans S6.out (Nat.le_trans S7.out (Nat.le_trans S8.out (Nat.le_trans S9.out S10.out))))
    replace o_g0 := o_g0.keep b (Nat.le_trans pc_g0 (Nat.le_trans S8.out (Nat.le_trans S9.out S10.out)))
    replace o_g1 := o_g1.keep b (Nat.le_trans pc_g1 (Nat.le_trans S8.out (Nat.le_trans S9.out S10.out)))
    replace o_u1 := o_u1.keep b (Nat.le_refl _)
    replace bb := bb.trans (b.mono (Nat.le_trans S1.out (Nat.le_trans S2.out (Nat.le_trans S3.out (Nat.le_trans S4.out (Nat.le_trans S5.out (Nat.le_trans S6.out (Nat.le_trans S7.out (Nat.le_trans S8.out (Nat.le_trans S9.out S10.out))))))))))
    clear b
    clear o_u1
    go_wp2_with fail
    refine (mark_any _ _ _ _ _ _ (1) _ o_y1 hn_y1 (by omega)).mono ?_
    clear o_y1
    rintro e w12 ⟨rfl, o_y1, m⟩
    have S12 := Lib.hid m.low.size
    replace s_a1 := m.sl s_a1 (Nat.le_trans S1.out (Nat.le_trans S2.out (Nat.le_trans S3.out S4.out)))
    replace c_p0_0 := (m.cellAt ⟨w0.heap.size, 0, none⟩ (.inl (Nat.lt_of_lt_of_le z_p0 (Nat.le_trans S2.out (Nat.le_trans S3.out S4.out))))).trans c_p0_0
    replace c_p0_1 := (m.cellAt ⟨w0.heap.size, 1, none⟩ (.inl (Nat.lt_of_lt_of_le z_p0 (Nat.le_trans S2.out (Nat.le_trans S3.out S4.out))))).trans c_p0_1
    replace o_r0 := m.ownLow o_r0 (Nat.le_trans pc_r0 (Nat.le_refl _))
    replace o_r1 := m.ownLow o_r1 (Nat.le_trans pc_r1 (Nat.le_refl _))
    replace o_g0 := m.ownHigh o_g0 (Nat.le_trans (S6.out) pb_g0)
    replace o_g1 := m.ownHigh o_g1 (Nat.le_trans (S6.out) pb_g1)
    replace bb := bb.trans (m.low.mono (Nat.le_trans S1.out (Nat.le_trans S2.out (Nat.le_trans S3.out S4.out))))
    clear m
    go_wp2_with fail
    refine (eqIntS_true _ _ _ _ _ _ _ ((o_g0.sl hn_g0).more (Nat.le_trans pc_g0 (Nat.le_trans S8.out (Nat.le_trans S9.out (Nat.le_trans S10.out (Nat.le_trans S11.out S12.out)))))) ((o_r0.sl hn_r0).more (Nat.le_trans pc_r0 (Nat.le_trans S5.out (Nat.le_trans S6.out (Nat.le_trans S7.out (Nat.le_trans S8.out (Nat.le_trans S9.out (Nat.le_trans S10.out (Nat.le_trans S11.out S12.out)))))))))).mono ?_
    rintro e w13 ⟨rfl, b⟩
    have S13 := Lib.hid b.size
    replace s_a1 := s_a1.keep (b.mono (Nat.le_trans S1.out (Nat.le_trans S2.out (Nat.le_trans S3.out (Nat.le_trans S4.out (Nat.le_trans S5.out (Nat.le_trans S6.out (Nat.le_trans S7.out (Nat.le_trans S8.out (Nat.le_trans S9.out (Nat.le_trans S10.out (Nat.le_trans S11.out S12.out))))))))))))
    replace c_p0_0 := (b.cell (p := ⟨w0.heap.size, 0, none⟩) (Nat.lt_of_lt_of_le z_p0 (Nat.le_trans S2.out (Nat.le_trans S3.out (Nat.le_trans S4.out (Nat.le_trans S5.out (Nat.le_trans S6.out (Nat.le_trans S7.out (Nat.le_trans S8.out (Nat.le_trans S9.out (Nat.le_trans S10.out (Nat.le_trans S11.out S12.out)))))))))))).trans c_p0_0
    replace c_p0_1 := (b.cell (p := ⟨w0.heap.size, 1, none⟩) (Nat.lt_of_lt_of_le z_p0 (Nat.le_trans S2.out (Nat.le_trans S3.out (Nat.le_trans S4.out (Nat.le_trans S5.out (Nat.le_trans S6.out (Nat.le_trans S7.out (Nat.le_trans S8.out (Nat.le_trans S9.out (Nat.le_trans S10.out (Nat.le_trans S11.out S12.out)))))))))))).trans c_p0_1
    replace o_r0 := o_r0.keep b (Nat.le_trans pc_r0 (Nat.le_trans S5.out (Nat.le_trans S6.out (Nat.le_trans S7.out (Nat.le_trans S8.out (Nat.le_trans S9.out (Nat.le_trans S10.out (Nat.le_trans S11.out S12.out))))))))
    replace o_r1 := o_r1.keep b (Nat.le_trans pc_r1 (Nat.le_trans S5.out (Nat.le_trans S6.out (Nat.le_trans S7.out (Nat.le_trans S8.out (Nat.le_trans S9.out (Nat.le_trans S10.out (Nat.le_trans S11.out S12.out))))))))
    replace o_y1 := o_y1.keep b (Nat.le_trans S6.out (Nat.le_trans S7.out (Nat.le_trans S8.out (Nat.le_trans S9.out (Nat.le_trans S10.out (Nat.le_trans S11.out S12.out))))))
    replace o_g0 := o_g0.keep b (Nat.le_trans pc_g0 (Nat.le_trans S8.out (Nat.le_trans S9.out (Nat.le_trans S10.out (Nat.le_trans S11.out S12.out)))))
    replace o_g1 := o_g1.keep b (Nat.le_trans pc_g1 (Nat.le_trans S8.out (Nat.le_trans S9.out (Nat.le_trans S10.out (Nat.le_trans S11.out S12.out)))))
    replace bb := bb.trans (b.mono (Nat.le_trans S1.out (Nat.le_trans S2.out (Nat.le_trans S3.out (Nat.le_trans S4.out (Nat.le_trans S5.out (Nat.le_trans S6.out (Nat.le_trans S7.out (Nat.le_trans S8.out (Nat.le_trans S9.out (Nat.le_trans S10.out (Nat.le_trans S11.out S12.out))))))))))))
    clear b
    go_wp2_with fail
    refine (eqIntS_true _ _ _ _ _ _ _ ((o_g1.sl hn_g1).more (Nat.le_trans pc_g1 (Nat.le_trans S8.out (Nat.le_trans S9.out (Nat.le_trans S10.out (Nat.le_trans S11.out (Nat.le_trans S12.out S13.out))))))) ((o_r1.sl hn_r1).more (Nat.le_trans pc_r1 (Nat.le_trans S5.out (Nat.le_trans S6.out (Nat.le_trans S7.out (Nat.le_trans S8.out (Nat.le_trans S9.out (Nat.le_trans S10.out (Nat.le_trans S11.out (Nat.le_trans S12.out S13.out))))))))))).mono ?_
    rintro e w14 ⟨rfl, b⟩
    have S14 := Lib.hid b.size
    replace s_a1 := s_a1.keep (b.mono (Nat.le_trans S1.out (Nat.le_trans S2.out (Nat.le_trans S3.out (Nat.le_trans S4.out (Nat.le_trans S5.out (Nat.le_trans S6.out (Nat.le_trans S7.out (Nat.le_trans S8.out (Nat.le_trans S9.out (Nat.le_trans S10.out (Nat.le_trans S11.out (Nat.le_trans S12.out S13.out)))))))))))))
    replace c_p0_0 := (b.cell (p := ⟨w0.heap.size, 0, none⟩) (Nat.lt_of_lt_of_le z_p0 (Nat.le_trans S2.out (Nat.le_trans S3.out (Nat.le_trans S4.out (Nat.le_trans S5.out (Nat.le_trans S6.out (Nat.le_trans S7.out (Nat.le_trans S8.out (Nat.le_trans S9.out (Nat.le_trans S10.out (Nat.le_trans S11.out (Nat.le_trans S12.out S13.out))))))))))))).trans c_p0_0
    replace c_p0_1 := (b.cell (p := ⟨w0.heap.size, 1, none⟩) (Nat.lt_of_lt_of_le z_p0 (Nat.le_trans S2.out (Nat.le_trans S3.out (Nat.le_trans S4.out (Nat.le_trans S5.out (Nat.le_trans S6.out (Nat.le_trans S7.out (Nat.le_trans S8.out (Nat.le_trans S9.out (Nat.le_trans S10.out (Nat.le_trans S11.out (Nat.le_trans S12.out S13.out))))))))))))).trans c_p0_1
    replace o_r0 := o_r0.keep b (Nat.le_trans pc_r0 (Nat.le_trans S5.out (Nat.le_trans S6.out (Nat.le_trans S7.out (Nat.le_trans S8.out (Nat.le_trans S9.out (Nat.le_trans S10.out (Nat.le_trans S11.out (Nat.le_trans S12.out S13.out)))))))))
    replace o_r1 := o_r1.keep b (Nat.le_trans pc_r1 (Nat.le_trans S5.out (Nat.le_trans S6.out (Nat.le_trans S7.out (Nat.le_trans S8.out (Nat.le_trans S9.out (Nat.le_trans S10.out (Nat.le_trans S11.out (Nat.le_trans S12.out S13.out)))))))))
    replace o_y1 := o_y1.keep b (Nat.le_trans S6.out (Nat.le_trans S7.out (Nat.le_trans S8.out (Nat.le_trans S9.out (Nat.le_trans S10.out (Nat.le_trans S11.out (Nat.le_trans S12.out S13.out)))))))
    replace o_g0 := o_g0.keep b (Nat.le_trans pc_g0 (Nat.le_trans S8.out (Nat.le_trans S9.out (Nat.le_trans S10.out (Nat.le_trans S11.out (Nat.le_trans S12.out S13.out))))))
    replace o_g1 := o_g1.keep b (Nat.le_trans pc_g1 (Nat.le_trans S8.out (Nat.le_trans S9.out (Nat.le_trans S10.out (Nat.le_trans S11.out (Nat.le_trans S12.out S13.out))))))
    replace bb := bb.trans (b.mono (Nat.le_trans S1.out (Nat.le_trans S2.out (Nat.le_trans S3.out (Nat.le_trans S4.out (Nat.le_trans S5.out (Nat.le_trans S6.out (Nat.le_trans S7.out (Nat.le_trans S8.out (Nat.le_trans S9.out (Nat.le_trans S10.out (Nat.le_trans S11.out (Nat.le_trans S12.out S13.out)))))))))))))
    clear b
    clear o_y1
    go_wp2_with fail
    refine (mark_any _ _ _ _ _ _ (1) _ o_g0 hn_g0 (by omega)).mono ?_
    clear o_g0
    rintro e w15 ⟨rfl, o_g0, m⟩
    have S15 := Lib.hid m.low.size
    replace s_a1 := m.sl s_a1 (Nat.le_trans (Nat.le_trans S1.out (Nat.le_trans S2.out (Nat.le_trans S3.out (Nat.le_trans S4.out (Nat.le_trans S5.out S6.out))))) pb_g0)
    replace c_p0_0 := (m.cellAt ⟨w0.heap.size, 0, none⟩ (.inl (Nat.lt_of_lt_of_le z_p0 (Nat.le_trans (Nat.le_trans S2.out (Nat.le_trans S3.out (Nat.le_trans S4.out (Nat.le_trans S5.out S6.out)))) pb_g0)))).trans c_p0_0
    replace c_p0_1 := (m.cellAt ⟨w0.heap.size, 1, none⟩ (.inl (Nat.lt_of_lt_of_le z_p0 (Nat.le_trans (Nat.le_trans S2.out (Nat.le_trans S3.out (Nat.le_trans S4.out (Nat.le_trans S5.out S6.out)))) pb_g0)))).trans c_p0_1
    replace o_r0 := m.ownLow o_r0 (Nat.le_trans (Nat.le_trans pc_r0 (Nat.le_trans S5.out S6.out)) pb_g0)
    replace o_r1 := m.ownLow o_r1 (Nat.le_trans (Nat.le_trans pc_r1 (Nat.le_trans S5.out S6.out)) pb_g0)
    replace o_g1 := m.ownApart o_g1 ap_g0_g1.out
    replace bb := bb.trans (m.low.mono (Nat.le_trans (Nat.le_trans S1.out (Nat.le_trans S2.out (Nat.le_trans S3.out (Nat.le_trans S4.out (Nat.le_trans S5.out S6.out))))) pb_g0))
    clear m
    go_wp2_with fail
    refine (mark_any _ _ _ _ _ _ (1 + (n_g0 : Int)) _ o_g1 hn_g1 (by omega)).mono ?_
    clear o_g1
    rintro e w16 ⟨rfl, o_g1, m⟩
    have S16 := Lib.hid m.low.size
    replace s_a1 := m.sl s_a1 (Nat.le_trans (Nat.le_trans S1.out (Nat.le_trans S2.out (Nat.le_trans S3.out (Nat.le_trans S4.out (Nat.le_trans S5.out S6.out))))) pb_g1)
    replace c_p0_0 := (m.cellAt ⟨w0.heap.size, 0, none⟩ (.inl (Nat.lt_of_lt_of_le z_p0 (Nat.le_trans (Nat.le_trans S2.out (Nat.le_trans S3.out (Nat.le_trans S4.out (Nat.le_trans S5.out S6.out)))) pb_g1)))).trans c_p0_0
    replace c_p0_1 := (m.cellAt ⟨w0.heap.size, 1, none⟩ (.inl (Nat.lt_of_lt_of_le z_p0 (Nat.le_trans (Nat.le_trans S2.out (Nat.le_trans S3.out (Nat.le_trans S4.out (Nat.le_trans S5.out S6.out)))) pb_g1)))).trans c_p0_1
    replace o_r0 := m.ownLow o_r0 (Nat.le_trans (Nat.le_trans pc_r0 (Nat.le_trans S5.out S6.out)) pb_g1)
    replace o_r1 := m.ownLow o_r1 (Nat.le_trans (Nat.le_trans pc_r1 (Nat.le_trans S5.out S6.out)) pb_g1)
    replace o_g0 := m.ownApart o_g0 ap_g1_g0.out
    replace bb := bb.trans (m.low.mono (Nat.le_trans (Nat.le_trans S1.out (Nat.le_trans S2.out (Nat.le_trans S3.out (Nat.le_trans S4.out (Nat.le_trans S5.out S6.out))))) pb_g1))
    clear m
    go_wp2_with fail
    refine (held_any _ _ _ (1) _ ((o_g0.sl hn_g0).more (Nat.le_trans pc_g0 (Nat.le_trans S8.out (Nat.le_trans S9.out (Nat.le_trans S10.out (Nat.le_trans S11.out (Nat.le_trans S12.out (Nat.le_trans S13.out (Nat.le_trans S14.out (Nat.le_trans S15.out S16.out)))))))))) (by omega)).mono ?_
    rintro e w' ⟨rfl, rfl⟩
    go_wp2_with fail
    refine (held_any _ _ _ (1 + (n_g0 : Int)) _ ((o_g1.sl hn_g1).more (Nat.le_trans pc_g1 (Nat.le_trans S8.out (Nat.le_trans S9.out (Nat.le_trans S10.out (Nat.le_trans S11.out (Nat.le_trans S12.out (Nat.le_trans S13.out (Nat.le_trans S14.out (Nat.le_trans S15.out S16.out)))))))))) (by omega)).mono ?_
    rintro e w' ⟨rfl, rfl⟩
    go_wp2_with fail
    refine (toQ_any _ _ _).mono ?_
    rintro e w17 ⟨rfl, b⟩
    have S17 := Lib.hid b.size
    replace s_a1 := s_a1.keep (b.mono (Nat.le_trans S1.out (Nat.le_trans S2.out (Nat.le_trans S3.out (Nat.le_trans S4.out (Nat.le_trans S5.out (Nat.le_trans S6.out (Nat.le_trans S7.out (Nat.le_trans S8.out (Nat.le_trans S9.out (Nat.le_trans S10.out (Nat.le_trans S11.out (Nat.le_trans S12.out (Nat.le_trans S13.out (Nat.le_trans S14.out (Nat.le_trans S15.out S16.out))))))))))))))))
    replace c_p0_0 := (b.cell (p := ⟨w0.heap.size, 0, none⟩) (Nat.lt_of_lt_of_le z_p0 (Nat.le_trans S2.out (Nat.le_trans S3.out (Nat.le_trans S4.out (Nat.le_trans S5.out (Nat.le_trans S6.out (Nat.le_trans S7.out (Nat.le_trans S8.out (Nat.le_trans S9.out (Nat.le_trans S10.out (Nat.le_trans S11.out (Nat.le_trans S12.out (Nat.le_trans S13.out (Nat.le_trans S14.out (Nat.le_trans S15.out S16.out)))))))))))))))).trans c_p0_0
    replace c_p0_1 := (b.cell (p := ⟨w0.heap.size, 1, none⟩) (Nat.lt_of_lt_of_le z_p0 (Nat.le_trans S2.out (Nat.le_trans S3.out (Nat.le_trans S4.out (Nat.le_trans S5.out (Nat.le_trans S6.out (Nat.le_trans S7.out (Nat.le_trans S8.out (Nat.le_trans S9.out (Nat.le_trans S10.out (Nat.le_trans S11.out (Nat.le_trans S12.out (Nat.le_trans S13.out (Nat.le_trans S14.out (Nat.le_trans S15.out S16.out)))))))))))))))).trans c_p0_1
    replace o_r0 := o_r0.keep b (Nat.le_trans pc_r0 (Nat.le_trans S5.out (Nat.le_trans S6.out (Nat.le_trans S7.out (Nat.le_trans S8.out (Nat.le_trans S9.out (Nat.le_trans S10.out (Nat.le_trans S11.out (Nat.le_trans S12.out (Nat.le_trans S13.out (Nat.le_trans S14.out (Nat.le_trans S15.out S16.out))))))))))))
    replace o_r1 := o_r1.keep b (Nat.le_trans pc_r1 (Nat.le_trans S5.out (Nat.le_trans S6.out (Nat.le_trans S7.out (Nat.le_trans S8.out (Nat.le_trans S9.out (Nat.le_trans S10.out (Nat.le_trans S11.out (Nat.le_trans S12.out (Nat.le_trans S13.out (Nat.le_trans S14.out (Nat.le_trans S15.out S16.out))))))))))))
    replace o_g0 := o_g0.keep b (Nat.le_trans pc_g0 (Nat.le_trans S8.out (Nat.le_trans S9.out (Nat.le_trans S10.out (Nat.le_trans S11.out (Nat.le_trans S12.out (Nat.le_trans S13.out (Nat.le_trans S14.out (Nat.le_trans S15.out S16.out)))))))))
    replace o_g1 := o_g1.keep b (Nat.le_trans pc_g1 (Nat.le_trans S8.out (Nat.le_trans S9.out (Nat.le_trans S10.out (Nat.le_trans S11.out (Nat.le_trans S12.out (Nat.le_trans S13.out (Nat.le_trans S14.out (Nat.le_trans S15.out S16.out)))))))))
    replace bb := bb.trans (b.mono (Nat.le_trans S1.out (Nat.le_trans S2.out (Nat.le_trans S3.out (Nat.le_trans S4.out (Nat.le_trans S5.out (Nat.le_trans S6.out (Nat.le_trans S7.out (Nat.le_trans S8.out (Nat.le_trans S9.out (Nat.le_trans S10.out (Nat.le_trans S11.out (Nat.le_trans S12.out (Nat.le_trans S13.out (Nat.le_trans S14.out (Nat.le_trans S15.out S16.out))))))))))))))))
    clear b
    go_wp2_with fail
    refine (toIntS_any _ _ _ x1 _ (s_a1.more (Nat.le_trans S1.out (Nat.le_trans S2.out (Nat.le_trans S3.out (Nat.le_trans S4.out (Nat.le_trans S5.out (Nat.le_trans S6.out (Nat.le_trans S7.out (Nat.le_trans S8.out (Nat.le_trans S9.out (Nat.le_trans S10.out (Nat.le_trans S11.out (Nat.le_trans S12.out (Nat.le_trans S13.out (Nat.le_trans S14.out (Nat.le_trans S15.out (Nat.le_trans S16.out S17.out)))))))))))))))))).mono ?_
    rintro e w18 ⟨a_v1, c_v1, rfl, o_v1, b⟩
    have S18 := Lib.hid b.size
    replace s_a1 := s_a1.keep (b.mono (Nat.le_trans S1.out (Nat.le_trans S2.out (Nat.le_trans S3.out (Nat.le_trans S4.out (Nat.le_trans S5.out (Nat.le_trans S6.out (Nat.le_trans S7.out (Nat.le_trans S8.out (Nat.le_trans S9.out (Nat.le_trans S10.out (Nat.le_trans S11.out (Nat.le_trans S12.out (Nat.le_trans S13.out (Nat.le_trans S14.out (Nat.le_trans S15.out (Nat.le_trans S16.out S17.out)))))))))))))))))
    replace c_p0_0 := (b.cell (p := ⟨w0.heap.size, 0, none⟩) (Nat.lt_of_lt_of_le z_p0 (Nat.le_trans S2.out (Nat.le_trans S3.out (Nat.le_trans S4.out (Nat.le_trans S5.out (Nat.le_trans S6.out (Nat.le_trans S7.out (Nat.le_trans S8.out (Nat.le_trans S9.out (Nat.le_trans S10.out (Nat.le_trans S11.out (Nat.le_trans S12.out (Nat.le_trans S13.out (Nat.le_trans S14.out (Nat.le_trans S15.out (Nat.le_trans S16.out S17.out))))))))))))))))).trans c_p0_0
    replace c_p0_1 := (b.cell (p := ⟨w0.heap.size, 1, none⟩) (Nat.lt_of_lt_of_le z_p0 (Nat.le_trans S2.out (Nat.le_trans S3.out (Nat.le_trans S4.out (Nat.le_trans S5.out (Nat.le_trans S6.out (Nat.le_trans S7.out (Nat.le_trans S8.out (Nat.le_trans S9.out (Nat.le_trans S10.out (Nat.le_trans S11.out (Nat.le_trans S12.out (Nat.le_trans S13.out (Nat.le_trans S14.out (Nat.le_trans S15.out (Nat.le_trans S16.out S17.out))))))))))))))))).trans c_p0_1
    replace o_r0 := o_r0.keep b (Nat.le_trans pc_r0 (Nat.le_trans S5.out (Nat.le_trans S6.out (Nat.le_trans S7.out (Nat.le_trans S8.out (Nat.le_trans S9.out (Nat.le_trans S10.out (Nat.le_trans S11.out (Nat.le_trans S12.out (Nat.le_trans S13.out (Nat.le_trans S14.out (Nat.le_trans S15.out (Nat.le_trans S16.out S17.out)))))))))))))
    replace o_r1 := o_r1.keep b (Nat.le_trans pc_r1 (Nat.le_trans S5.out (Nat.le_trans S6.out (Nat.le_trans S7.out (Nat.le_trans S8.out (Nat.le_trans S9.out (Nat.le_trans S10.out (Nat.le_trans S11.out (Nat.le_trans S12.out (Nat.le_trans S13.out (Nat.le_trans S14.out (Nat.le_trans S15.out (Nat.le_trans S16.out S17.out)))))))))))))
    replace o_g0 := o_g0.keep b (Nat.le_trans pc_g0 (Nat.le_trans S8.out (Nat.le_trans S9.out (Nat.le_trans S10.out (Nat.le_trans S11.out (Nat.le_trans S12.out (Nat.le_trans S13.out (Nat.le_trans S14.out (Nat.le_trans S15.out (Nat.le_trans S16.out S17.out))))))))))
    replace o_g1 := o_g1.keep b (Nat.le_trans pc_g1 (Nat.le_trans S8.out (Nat.le_trans S9.out (Nat.le_trans S10.out (Nat.le_trans S11.out (Nat.le_trans S12.out (Nat.le_trans S13.out (Nat.le_trans S14.out (Nat.le_trans S15.out (Nat.le_trans S16.out S17.out))))))))))
    replace bb := bb.trans (b.mono (Nat.le_trans S1.out (Nat.le_trans S2.out (Nat.le_trans S3.out (Nat.le_trans S4.out (Nat.le_trans S5.out (Nat.le_trans S6.out (Nat.le_trans S7.out (Nat.le_trans S8.out (Nat.le_trans S9.out (Nat.le_trans S10.out (Nat.le_trans S11.out (Nat.le_trans S12.out (Nat.le_trans S13.out (Nat.le_trans S14.out (Nat.le_trans S15.out (Nat.le_trans S16.out S17.out)))))))))))))))))
    clear b
    have hn_v1 : n1 ≤ 1048576 := hn1
    go_wp2_with fail
    refine (qseq_i _ _ _ _ _ x1 _ ((o_v1.sl hn_v1).more (Nat.le_refl _))).mono ?_
    rintro e w19 ⟨a_h0, n_h0, c_h0, a_h1, n_h1, c_h1, rfl, o_h0, o_h1, f_h0_h1, b⟩
    have S19 := Lib.hid b.size
    replace s_a1 := s_a1.keep (b.mono (Nat.le_trans S1.out (Nat.le_trans S2.out (Nat.le_trans S3.out (Nat.le_trans S4.out (Nat.le_trans S5.out (Nat.le_trans S6.out (Nat.le_trans S7.out (Nat.le_trans S8.out (Nat.le_trans S9.out (Nat.le_trans S10.out (Nat.le_trans S11.out (Nat.le_trans S12.out (Nat.le_trans S13.out (Nat.le_trans S14.out (Nat.le_trans S15.out (Nat.le_trans S16.out (Nat.le_trans S17.out S18.out))))))))))))))))))
    replace c_p0_0 := (b.cell (p := ⟨w0.heap.size, 0, none⟩) (Nat.lt_of_lt_of_le z_p0 (Nat.le_trans S2.out (Nat.le_trans S3.out (Nat.le_trans S4.out (Nat.le_trans S5.out (Nat.le_trans S6.out (Nat.le_trans S7.out (Nat.le_trans S8.out (Nat.le_trans S9.out (Nat.le_trans S10.out (Nat.le_trans S11.out (Nat.le_trans S12.out (Nat.le_trans S13.out (Nat.le_trans S14.out (Nat.le_trans S15.out (Nat.le_trans S16.out (Nat.le_trans S17.out S18.out)))))))))))))))))).trans c_p0_0
    replace c_p0_1 := (b.cell (p := ⟨w0.heap.size, 1, none⟩) (Nat.lt_of_lt_of_le z_p0 (Nat.le_trans S2.out (Nat.le_trans S3.out (Nat.le_trans S4.out (Nat.le_trans S5.out (Nat.le_trans S6.out (Nat.le_trans S7.out (Nat.le_trans S8.out (Nat.le_trans S9.out (Nat.le_trans S10.out (Nat.le_trans S11.out (Nat.le_trans S12.out (Nat.le_trans S13.out (Nat.le_trans S14.out (Nat.le_trans S15.out (Nat.le_trans S16.out (Nat.le_trans S17.out S18.out)))))))))))))))))).trans c_p0_1
    replace o_r0 := o_r0.keep b (Nat.le_trans pc_r0 (Nat.le_trans S5.out (Nat.le_trans S6.out (Nat.le_trans S7.out (Nat.le_trans S8.out (Nat.le_trans S9.out (Nat.le_trans S10.out (Nat.le_trans S11.out (Nat.le_trans S12.out (Nat.le_trans S13.out (Nat.le_trans S14.out (Nat.le_trans S15.out (Nat.le_trans S16.out (Nat.le_trans S17.out S18.out))))))))))))))
    replace o_r1 := o_r1.keep b (Nat.le_trans pc_r1 (Nat.le_trans S5.out (Nat.le_trans S6.out (Nat.le_trans S7.out (Nat.le_trans S8.out (Nat.le_trans S9.out (Nat.le_trans S10.out (Nat.le_trans S11.out (Nat.le_trans S12.out (Nat.le_trans S13.out (Nat.le_trans S14.out (Nat.le_trans S15.out (Nat.le_trans S16.out (Nat.le_trans S17.out S18.out))))))))))))))
    replace o_g0 := o_g0.keep b (Nat.le_trans pc_g0 (Nat.le_trans S8.out (Nat.le_trans S9.out (Nat.le_trans S10.out (Nat.le_trans S11.out (Nat.le_trans S12.out (Nat.le_trans S13.out (Nat.le_trans S14.out (Nat.le_trans S15.out (Nat.le_trans S16.out (Nat.le_trans S17.out S18.out)))))))))))
    replace o_g1 := o_g1.keep b (Nat.le_trans pc_g1 (Nat.le_trans S8.out (Nat.le_trans S9.out (Nat.le_trans S10.out (Nat.le_trans S11.out (Nat.le_trans S12.out (Nat.le_trans S13.out (Nat.le_trans S14.out (Nat.le_trans S15.out (Nat.le_trans S16.out (Nat.le_trans S17.out S18.out)))))))))))
    replace o_v1 := o_v1.keep b (Nat.le_refl _)
    replace bb := bb.trans (b.mono (Nat.le_trans S1.out (Nat.le_trans S2.out (Nat.le_trans S3.out (Nat.le_trans S4.out (Nat.le_trans S5.out (Nat.le_trans S6.out (Nat.le_trans S7.out (Nat.le_trans S8.out (Nat.le_trans S9.out (Nat.le_trans S10.out (Nat.le_trans S11.out (Nat.le_trans S12.out (Nat.le_trans S13.out (Nat.le_trans S14.out (Nat.le_trans S15.out (Nat.le_trans S16.out (Nat.le_trans S17.out S18.out))))))))))))))))))
    clear b
    have hn_h0 : n_h0 ≤ 1048576 := by rw [← o_h0.len]; exact qsV_len _ _ _
    have hn_h1 : n_h1 ≤ 1048576 := by rw [← o_h1.len]; exact esV_len _ _ _
    obtain ⟨q_h0, pb_h0, pi_h0, pc_h0⟩ := o_h0.pin (S19.out)
    obtain ⟨q_h1, pb_h1, pi_h1, pc_h1⟩ := o_h1.pin (S19.out)
    have ap_h0_h1 := Lib.hid (pin_apart o_h0 o_h1 f_h0_h1)
    have ap_h1_h0 := Lib.hid (pin_apart o_h1 o_h0 f_h0_h1.symm)
    clear o_h0
    have o_h0 := q_h0
    clear q_h0 pi_h0
    clear o_h1
    have o_h1 := q_h1
    clear q_h1 pi_h1
    clear f_h0_h1
    clear o_v1
    clear s_a1
    obtain rfl : n_g0 = n_h0 := by rw [← o_r0.len, ← o_h0.len]
    obtain rfl : n_g1 = n_h1 := by rw [← o_r1.len, ← o_h1.len]
    go_wp2_with fail
    refine (eqIntS_true _ _ _ _ _ _ _ ((o_h0.sl hn_h0).more (Nat.le_trans pc_h0 (Nat.le_refl _))) ((o_r0.sl hn_r0).more (Nat.le_trans pc_r0 (Nat.le_trans S5.out (Nat.le_trans S6.out (Nat.le_trans S7.out (Nat.le_trans S8.out (Nat.le_trans S9.out (Nat.le_trans S10.out (Nat.le_trans S11.out (Nat.le_trans S12.out (Nat.le_trans S13.out (Nat.le_trans S14.out (Nat.le_trans S15.out (Nat.le_trans S16.out (Nat.le_trans S17.out (Nat.le_trans S18.out S19.out))))))))))))))))).mono ?_
    rintro e w20 ⟨rfl, b⟩
    have S20 := Lib.hid b.size
    replace c_p0_0 := (b.cell (p := ⟨w0.heap.size, 0, none⟩) (Nat.lt_of_lt_of_le z_p0 (Nat.le_trans S2.out (Nat.le_trans S3.out (Nat.le_trans S4.out (Nat.le_trans S5.out (Nat.le_trans S6.out (Nat.le_trans S7.out (Nat.le_trans S8.out (Nat.le_trans S9.out (Nat.le_trans S10.out (Nat.le_trans S11.out (Nat.le_trans S12.out (Nat.le_trans S13.out (Nat.le_trans S14.out (Nat.le_trans S15.out (Nat.le_trans S16.out (Nat.le_trans S17.out (Nat.le_trans S18.out S19.out))))))))))))))))))).trans c_p0_0
    replace c_p0_1 := (b.cell (p := ⟨w0.heap.size, 1, none⟩) (Nat.lt_of_lt_of_le z_p0 (Nat.le_trans S2.out (Nat.le_trans S3.out (Nat.le_trans S4.out (Nat.le_trans S5.out (Nat.le_trans S6.out (Nat.le_trans S7.out (Nat.le_trans S8.out (Nat.le_trans S9.out (Nat.le_trans S10.out (Nat.le_trans S11.out (Nat.le_trans S12.out (Nat.le_trans S13.out (Nat.le_trans S14.out (Nat.le_trans S15.out (Nat.le_trans S16.out (Nat.le_trans S17.out (Nat.le_trans S18.out S19.out))))))))))))))))))).trans c_p0_1
    replace o_r0 := o_r0.keep b (Nat.le_trans pc_r0 (Nat.le_trans S5.out (Nat.le_trans S6.out (Nat.le_trans S7.out (Nat.le_trans S8.out (Nat.le_trans S9.out (Nat.le_trans S10.out (Nat.le_trans S11.out (Nat.le_trans S12.out (Nat.le_trans S13.out (Nat.le_trans S14.out (Nat.le_trans S15.out (Nat.le_trans S16.out (Nat.le_trans S17.out (Nat.le_trans S18.out S19.out)))))))))))))))
    replace o_r1 := o_r1.keep b (Nat.le_trans pc_r1 (Nat.le_trans S5.out (Nat.le_trans S6.out (Nat.le_trans S7.out (Nat.le_trans S8.out (Nat.le_trans S9.out (Nat.le_trans S10.out (Nat.le_trans S11.out (Nat.le_trans S12.out (Nat.le_trans S13.out (Nat.le_trans S14.out (Nat.le_trans S15.out (Nat.le_trans S16.out (Nat.le_trans S17.out (Nat.le_trans S18.out S19.out)))))))))))))))
    replace o_g0 := o_g0.keep b (Nat.le_trans pc_g0 (Nat.le_trans S8.out (Nat.le_trans S9.out (Nat.le_trans S10.out (Nat.le_trans S11.out (Nat.le_trans S12.out (Nat.le_trans S13.out (Nat.le_trans S14.out (Nat.le_trans S15.out (Nat.le_trans S16.out (Nat.le_trans S17.out (Nat.le_trans S18.out S19.out))))))))))))
    replace o_g1 := o_g1.keep b (Nat.le_trans pc_g1 (Nat.le_trans S8.out (Nat.le_trans S9.out (Nat.le_trans S10.out (Nat.le_trans S11.out (Nat.le_trans S12.out (Nat.le_trans S13.out (Nat.le_trans S14.out (Nat.le_trans S15.out (Nat.le_trans S16.out (Nat.le_trans S17.out (Nat.le_trans S18.out S19.out))))))))))))
    replace o_h0 := o_h0.keep b (Nat.le_trans pc_h0 (Nat.le_refl _))
    replace o_h1 := o_h1.keep b (Nat.le_trans pc_h1 (Nat.le_refl _))
    replace bb := bb.trans (b.mono (Nat.le_trans S1.out (Nat.le_trans S2.out (Nat.le_trans S3.out (Nat.le_trans S4.out (Nat.le_trans S5.out (Nat.le_trans S6.out (Nat.le_trans S7.out (Nat.le_trans S8.out (Nat.le_trans S9.out (Nat.le_trans S10.out (Nat.le_trans S11.out (Nat.le_trans S12.out (Nat.le_trans S13.out (Nat.le_trans S14.out (Nat.le_trans S15.out (Nat.le_trans S16.out (Nat.le_trans S17.out (Nat.le_trans S18.out S19.out)))))))))))))))))))
    clear b
    go_wp2_with fail
    refine (eqIntS_true _ _ _ _ _ _ _ ((o_h1.sl hn_h1).more (Nat.le_trans pc_h1 (S20.out))) ((o_r1.sl hn_r1).more (Nat.le_trans pc_r1 (Nat.le_trans S5.out (Nat.le_trans S6.out (Nat.le_trans S7.out (Nat.le_trans S8.out (Nat.le_trans S9.out (Nat.le_trans S10.out (Nat.le_trans S11.out (Nat.le_trans S12.out (Nat.le_trans S13.out (Nat.le_trans S14.out (Nat.le_trans S15.out (Nat.le_trans S16.out (Nat.le_trans S17.out (Nat.le_trans S18.out (Nat.le_trans S19.out S20.out)))))))))))))))))).mono ?_
    rintro e w21 ⟨rfl, b⟩
    have S21 := Lib.hid b.size
    replace c_p0_0 := (b.cell (p := ⟨w0.heap.size, 0, none⟩) (Nat.lt_of_lt_of_le z_p0 (Nat.le_trans S2.out (Nat.le_trans S3.out (Nat.le_trans S4.out (Nat.le_trans S5.out (Nat.le_trans S6.out (Nat.le_trans S7.out (Nat.le_trans S8.out (Nat.le_trans S9.out (Nat.le_trans S10.out (Nat.le_trans S11.out (Nat.le_trans S12.out (Nat.le_trans S13.out (Nat.le_trans S14.out (Nat.le_trans S15.out (Nat.le_trans S16.out (Nat.le_trans S17.out (Nat.le_trans S18.out (Nat.le_trans S19.out S20.out)))))))))))))))))))).trans c_p0_0
    replace c_p0_1 := (b.cell (p := ⟨w0.heap.size, 1, none⟩) (Nat.lt_of_lt_of_le z_p0 (Nat.le_trans S2.out (Nat.le_trans S3.out (Nat.le_trans S4.out (Nat.le_trans S5.out (Nat.le_trans S6.out (Nat.le_trans S7.out (Nat.le_trans S8.out (Nat.le_trans S9.out (Nat.le_trans S10.out (Nat.le_trans S11.out (Nat.le_trans S12.out (Nat.le_trans S13.out (Nat.le_trans S14.out (Nat.le_trans S15.out (Nat.le_trans S16.out (Nat.le_trans S17.out (Nat.le_trans S18.out (Nat.le_trans S19.out S20.out)))))))))))))))))))).trans c_p0_1
    replace o_r0 := o_r0.keep b (Nat.le_trans pc_r0 (Nat.le_trans S5.out (Nat.le_trans S6.out (Nat.le_trans S7.out (Nat.le_trans S8.out (Nat.le_trans S9.out (Nat.le_trans S10.out (Nat.le_trans S11.out (Nat.le_trans S12.out (Nat.le_trans S13.out (Nat.le_trans S14.out (Nat.le_trans S15.out (Nat.le_trans S16.out (Nat.le_trans S17.out (Nat.le_trans S18.out (Nat.le_trans S19.out S20.out))))))))))))))))
    replace o_r1 := o_r1.keep b (Nat.le_trans pc_r1 (Nat.le_trans S5.out (Nat.le_trans S6.out (Nat.le_trans S7.out (Nat.le_trans S8.out (Nat.le_trans S9.out (Nat.le_trans S10.out (Nat.le_trans S11.out (Nat.le_trans S12.out (Nat.le_trans S13.out (Nat.le_trans S14.out (Nat.le_trans S15.out (Nat.le_trans S16.out (Nat.le_trans S17.out (Nat.le_trans S18.out (Nat.le_trans S19.out S20.out))))))))))))))))
    replace o_g0 := o_g0.keep b (Nat.le_trans pc_g0 (Nat.le_trans S8.out (Nat.le_trans S9.out (Nat.le_trans S10.out (Nat.le_trans S11.out (Nat.le_trans S12.out (Nat.le_trans S13.out (Nat.le_trans S14.out (Nat.le_trans S15.out (Nat.le_trans S16.out (Nat.le_trans S17.out (Nat.le_trans S18.out (Nat.le_trans S19.out S20.out)))))))))))))
    replace o_g1 := o_g1.keep b (Nat.le_trans pc_g1 (Nat.le_trans S8.out (Nat.le_trans S9.out (Nat.le_trans S10.out (Nat.le_trans S11.out (Nat.le_trans S12.out (Nat.le_trans S13.out (Nat.le_trans S14.out (Nat.le_trans S15.out (Nat.le_trans S16.out (Nat.le_trans S17.out (Nat.le_trans S18.out (Nat.le_trans S19.out S20.out)))))))))))))
    replace o_h0 := o_h0.keep b (Nat.le_trans pc_h0 (S20.out))
    replace o_h1 := o_h1.keep b (Nat.le_trans pc_h1 (S20.out))
    replace bb := bb.trans (b.mono (Nat.le_trans S1.out (Nat.le_trans S2.out (Nat.le_trans S3.out (Nat.le_trans S4.out (Nat.le_trans S5.out (Nat.le_trans S6.out (Nat.le_trans S7.out (Nat.le_trans S8.out (Nat.le_trans S9.out (Nat.le_trans S10.out (Nat.le_trans S11.out (Nat.le_trans S12.out (Nat.le_trans S13.out (Nat.le_trans S14.out (Nat.le_trans S15.out (Nat.le_trans S16.out (Nat.le_trans S17.out (Nat.le_trans S18.out (Nat.le_trans S19.out S20.out))))))))))))))))))))
    clear b
    clear o_h0
    clear o_h1
    clear o_r0
    clear o_r1
    go_wp2_with fail
    refine (held_any _ _ _ (1) _ ((o_g0.sl hn_g0).more (Nat.le_trans pc_g0 (Nat.le_trans S8.out (Nat.le_trans S9.out (Nat.le_trans S10.out (Nat.le_trans S11.out (Nat.le_trans S12.out (Nat.le_trans S13.out (Nat.le_trans S14.out (Nat.le_trans S15.out (Nat.le_trans S16.out (Nat.le_trans S17.out (Nat.le_trans S18.out (Nat.le_trans S19.out (Nat.le_trans S20.out S21.out))))))))))))))) (by omega)).mono ?_
    rintro e w' ⟨rfl, rfl⟩
    go_wp2_with fail
    refine (held_any _ _ _ (1 + (n_g0 : Int)) _ ((o_g1.sl hn_g1).more (Nat.le_trans pc_g1 (Nat.le_trans S8.out (Nat.le_trans S9.out (Nat.le_trans S10.out (Nat.le_trans S11.out (Nat.le_trans S12.out (Nat.le_trans S13.out (Nat.le_trans S14.out (Nat.le_trans S15.out (Nat.le_trans S16.out (Nat.le_trans S17.out (Nat.le_trans S18.out (Nat.le_trans S19.out (Nat.le_trans S20.out S21.out))))))))))))))) (by omega)).mono ?_
    rintro e w' ⟨rfl, rfl⟩
    go_wp2_with fail
    go_ret
    exact ⟨rfl, bb⟩

set_option maxHeartbeats 400000 in
theorem fnExactQuantiseSequence_walk (l0 s0 : Int) (a1 : Option Addr) (n1 c1 : Nat) (x1 : List Int) (w : World) (h0 : Wf l0 ∧ Wf s0) (h1 : IsRow .i64 w a1 n1 c1 x1) :
    Calls Try.prog 11 #[.agg #[.int .i64 l0, .int .i64 s0], .slice a1 n1 c1] w fun e w' => e = .returned (.bool true) ∧ Below w.heap.size w w' := by
  have hle1 := h1.le
  by_cases hn1 : n1 ≤ 1048576
  rotate_left
  · go_enter Try.func11, Try.ntmps11
    go_wp2_with fail
    go_ret
    exact ⟨rfl, box_below _ _⟩
  exact fnExactQuantiseSequence_core _ _ _ _ _ _ w h0 (h1.sl hn1)
end Go.Proofs.Ytodoebamkijalaa
