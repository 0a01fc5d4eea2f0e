/- The walk of the law FnExactBitsOf: it returns true and leaves what was there as it was. -/
import Derived.Test.YtodoebamkijalaaQSeq
import Derived.Test.YtodoebamkijalaaAux
namespace Go.Proofs.Ytodoebamkijalaa
open Go.RowKit
set_option linter.unusedVariables false
set_option maxRecDepth 100000 in
set_option maxHeartbeats 4000000 in
theorem fnExactBitsOf_core (l0 s0 : Int) (a1 : Option Addr) (n1 c1 : Nat) (x1 : List Int) (w0 : World) (h0 : Wf l0 ∧ Wf s0) (s_a1 : Sl w0 w0.heap.size a1 n1 c1 x1) :
    Calls Try.prog 10 #[.agg #[.int .i64 l0, .int .i64 s0], .slice a1 n1 c1] w0 fun e w' => e = .returned (.bool true) ∧ Below w0.heap.size w0 w' := by
    have hn1 : n1 ≤ 1048576 := s_a1.2.2.1
    have bb := Below.refl w0.heap.size w0
    go_enter Try.func10, Try.ntmps10
    go_wp2_with fail
    have c_p0_0 : (w0.alloc (.cells #[.int .i64 l0, .int .i64 s0] 48)).cell? ⟨w0.heap.size, 0, none⟩ = some (.int .i64 l0) := by simp [go_sem]
    have c_p0_1 : (w0.alloc (.cells #[.int .i64 l0, .int .i64 s0] 48)).cell? ⟨w0.heap.size, 1, none⟩ = some (.int .i64 s0) := by simp [go_sem]
    have z_p0 : w0.heap.size < (w0.alloc (.cells #[.int .i64 l0, .int .i64 s0] 48)).heap.size := by simp
    have b := box_below w0 (.cells #[.int .i64 l0, .int .i64 s0] 48)
    generalize hgw : (w0.alloc (.cells #[.int .i64 l0, .int .i64 s0] 48)) = w1 at c_p0_0 c_p0_1 z_p0 b ⊢
    clear hgw
    have S1 := Lib.hid b.size
    replace s_a1 := s_a1.keep (b.mono (Nat.le_refl _))
    replace bb := bb.trans (b.mono (Nat.le_refl _))
    clear b
    go_wp2_with fail
    refine (toQ_any _ _ _).mono ?_
    rintro e w2 ⟨rfl, b⟩
    have S2 := Lib.hid b.size
    replace s_a1 := s_a1.keep (b.mono (S1.out))
    replace c_p0_0 := (b.cell (p := ⟨w0.heap.size, 0, none⟩) (Nat.lt_of_lt_of_le z_p0 (Nat.le_refl _))).trans c_p0_0
    replace c_p0_1 := (b.cell (p := ⟨w0.heap.size, 1, none⟩) (Nat.lt_of_lt_of_le z_p0 (Nat.le_refl _))).trans c_p0_1
    replace bb := bb.trans (b.mono (S1.out))
    clear b
    go_wp2_with fail
    refine (toIntS_any _ _ _ x1 _ (s_a1.more (Nat.le_trans S1.out S2.out))).mono ?_
    rintro e w3 ⟨a_t1, c_t1, rfl, o_t1, b⟩
    have S3 := Lib.hid b.size
    replace s_a1 := s_a1.keep (b.mono (Nat.le_trans S1.out S2.out))
    replace c_p0_0 := (b.cell (p := ⟨w0.heap.size, 0, none⟩) (Nat.lt_of_lt_of_le z_p0 (S2.out))).trans c_p0_0
    replace c_p0_1 := (b.cell (p := ⟨w0.heap.size, 1, none⟩) (Nat.lt_of_lt_of_le z_p0 (S2.out))).trans c_p0_1
    replace bb := bb.trans (b.mono (Nat.le_trans S1.out S2.out))
    clear b
    have hn_t1 : n1 ≤ 1048576 := hn1
    go_wp2_with fail
    refine (bits_s _ _ _ _ _ x1 _ ((o_t1.sl hn_t1).more (Nat.le_refl _))).mono ?_
    rintro e w4 ⟨a_r, n_r, c_r, rfl, o_r, b⟩
    have S4 := Lib.hid b.size
    replace s_a1 := s_a1.keep (b.mono (Nat.le_trans S1.out (Nat.le_trans S2.out S3.out)))
    replace c_p0_0 := (b.cell (p := ⟨w0.heap.size, 0, none⟩) (Nat.lt_of_lt_of_le z_p0 (Nat.le_trans S2.out S3.out))).trans c_p0_0
    replace c_p0_1 := (b.cell (p := ⟨w0.heap.size, 1, none⟩) (Nat.lt_of_lt_of_le z_p0 (Nat.le_trans S2.out S3.out))).trans c_p0_1
    replace o_t1 := o_t1.keep b (Nat.le_refl _)
    replace bb := bb.trans (b.mono (Nat.le_trans S1.out (Nat.le_trans S2.out S3.out)))
    clear b
    have hn_r : n_r ≤ 1048576 := by rw [← o_r.len]; exact btV_len _ _ _
    clear o_t1
    go_wp2_with fail
    refine (toIntS_any _ _ _ x1 _ (s_a1.more (Nat.le_trans S1.out (Nat.le_trans S2.out (Nat.le_trans S3.out S4.out))))).mono ?_
    rintro e w5 ⟨a_y1, c_y1, rfl, o_y1, b⟩
    have S5 := Lib.hid b.size
    replace s_a1 := s_a1.keep (b.mono (Nat.le_trans S1.out (Nat.le_trans S2.out (Nat.le_trans S3.out S4.out))))
    replace c_p0_0 := (b.cell (p := ⟨w0.heap.size, 0, none⟩) (Nat.lt_of_lt_of_le z_p0 (Nat.le_trans S2.out (Nat.le_trans S3.out S4.out)))).trans c_p0_0
    replace c_p0_1 := (b.cell (p := ⟨w0.heap.size, 1, none⟩) (Nat.lt_of_lt_of_le z_p0 (Nat.le_trans S2.out (Nat.le_trans S3.out S4.out)))).trans c_p0_1
    replace o_r := o_r.keep b (Nat.le_refl _)
    replace bb := bb.trans (b.mono (Nat.le_trans S1.out (Nat.le_trans S2.out (Nat.le_trans S3.out S4.out))))
    clear b
    have hn_y1 : n1 ≤ 1048576 := hn1
    go_wp2_with fail
    refine (toQ_any _ _ _).mono ?_
    rintro e w6 ⟨rfl, b⟩
    have S6 := Lib.hid b.size
    replace s_a1 := s_a1.keep (b.mono (Nat.le_trans S1.out (Nat.le_trans S2.out (Nat.le_trans S3.out (Nat.le_trans S4.out S5.out)))))
    replace c_p0_0 := (b.cell (p := ⟨w0.heap.size, 0, none⟩) (Nat.lt_of_lt_of_le z_p0 (Nat.le_trans S2.out (Nat.le_trans S3.out (Nat.le_trans S4.out S5.out))))).trans c_p0_0
    replace c_p0_1 := (b.cell (p := ⟨w0.heap.size, 1, none⟩) (Nat.lt_of_lt_of_le z_p0 (Nat.le_trans S2.out (Nat.le_trans S3.out (Nat.le_trans S4.out S5.out))))).trans c_p0_1
    replace o_r := o_r.keep b (S5.out)
    replace o_y1 := o_y1.keep b (Nat.le_refl _)
    replace bb := bb.trans (b.mono (Nat.le_trans S1.out (Nat.le_trans S2.out (Nat.le_trans S3.out (Nat.le_trans S4.out S5.out)))))
    clear b
    go_wp2_with fail
    refine (bits_i _ _ _ _ _ x1 _ ((o_y1.sl hn_y1).more (S6.out))).mono ?_
    rintro e w7 ⟨a_g, n_g, c_g, rfl, o_g, b⟩
    have S7 := Lib.hid b.size
    replace s_a1 := s_a1.keep (b.mono (Nat.le_trans S1.out (Nat.le_trans S2.out (Nat.le_trans S3.out (Nat.le_trans S4.out (Nat.le_trans S5.out S6.out))))))
    replace c_p0_0 := (b.cell (p := ⟨w0.heap.size, 0, none⟩) (Nat.lt_of_lt_of_le z_p0 (Nat.le_trans S2.out (Nat.le_trans S3.out (Nat.le_trans S4.out (Nat.le_trans S5.out S6.out)))))).trans c_p0_0
    replace c_p0_1 := (b.cell (p := ⟨w0.heap.size, 1, none⟩) (Nat.lt_of_lt_of_le z_p0 (Nat.le_trans S2.out (Nat.le_trans S3.out (Nat.le_trans S4.out (Nat.le_trans S5.out S6.out)))))).trans c_p0_1
    replace o_r := o_r.keep b (Nat.le_trans S5.out S6.out)
    replace o_y1 := o_y1.keep b (S6.out)
    replace bb := bb.trans (b.mono (Nat.le_trans S1.out (Nat.le_trans S2.out (Nat.le_trans S3.out (Nat.le_trans S4.out (Nat.le_trans S5.out S6.out))))))
    clear b
    have hn_g : n_g ≤ 1048576 := by rw [← o_g.len]; exact btV_len _ _ _
    obtain rfl : n_g = n_r := by rw [← o_g.len, ← o_r.len]
    go_wp2_with fail
    refine (eqIntS_true _ _ _ _ _ _ _ ((o_g.sl hn_g).more (Nat.le_refl _)) ((o_r.sl hn_r).more (Nat.le_trans S5.out (Nat.le_trans S6.out S7.out)))).mono ?_
    rintro e w8 ⟨rfl, b⟩
    have S8 := Lib.hid b.size
    replace s_a1 := s_a1.keep (b.mono (Nat.le_trans S1.out (Nat.le_trans S2.out (Nat.le_trans S3.out (Nat.le_trans S4.out (Nat.le_trans S5.out (Nat.le_trans S6.out S7.out)))))))
    replace c_p0_0 := (b.cell (p := ⟨w0.heap.size, 0, none⟩) (Nat.lt_of_lt_of_le z_p0 (Nat.le_trans S2.out (Nat.le_trans S3.out (Nat.le_trans S4.out (Nat.le_trans S5.out (Nat.le_trans S6.out S7.out))))))).trans c_p0_0
    replace c_p0_1 := (b.cell (p := ⟨w0.heap.size, 1, none⟩) (Nat.lt_of_lt_of_le z_p0 (Nat.le_trans S2.out (Nat.le_trans S3.out (Nat.le_trans S4.out (Nat.le_trans S5.out (Nat.le_trans S6.out S7.out))))))).trans c_p0_1
    replace o_r := o_r.keep b (Nat.le_trans S5.out (Nat.le_trans S6.out S7.out))
    replace o_y1 := o_y1.keep b (Nat.le_trans S6.out S7.out)
    replace o_g := o_g.keep b (Nat.le_refl _)
    replace bb := bb.trans (b.mono (Nat.le_trans S1.out (Nat.le_trans S2.out (Nat.le_trans S3.out (Nat.le_trans S4.out (Nat.le_trans S5.out (Nat.le_trans S6.out S7.out)))))))
    clear b
    go_wp2_with fail
    refine (toIntS_any _ _ _ x1 _ (s_a1.more (Nat.le_trans S1.out (Nat.le_trans S2.out (Nat.le_trans S3.out (Nat.le_trans S4.out (Nat.le_trans S5.out (Nat.le_trans S6.out (Nat.le_trans S7.out S8.out))))))))).mono ?_
    rintro e w9 ⟨a_u1, c_u1, rfl, o_u1, b⟩
    have S9 := Lib.hid b.size
    replace s_a1 := s_a1.keep (b.mono (Nat.le_trans S1.out (Nat.le_trans S2.out (Nat.le_trans S3.out (Nat.le_trans S4.out (Nat.le_trans S5.out (Nat.le_trans S6.out (Nat.le_trans S7.out S8.out))))))))
    replace c_p0_0 := (b.cell (p := ⟨w0.heap.size, 0, none⟩) (Nat.lt_of_lt_of_le z_p0 (Nat.le_trans S2.out (Nat.le_trans S3.out (Nat.le_trans S4.out (Nat.le_trans S5.out (Nat.le_trans S6.out (Nat.le_trans S7.out S8.out)))))))).trans c_p0_0
    replace c_p0_1 := (b.cell (p := ⟨w0.heap.size, 1, none⟩) (Nat.lt_of_lt_of_le z_p0 (Nat.le_trans S2.out (Nat.le_trans S3.out (Nat.le_trans S4.out (Nat.le_trans S5.out (Nat.le_trans S6.out (Nat.le_trans S7.out S8.out)))))))).trans c_p0_1
    replace o_r := o_r.keep b (Nat.le_trans S5.out (Nat.le_trans S6.out (Nat.le_trans S7.out S8.out)))
    replace o_y1 := o_y1.keep b (Nat.le_trans S6.out (Nat.le_trans S7.out S8.out))
    replace o_g := o_g.keep b (S8.out)
    replace bb := bb.trans (b.mono (Nat.le_trans S1.out (Nat.le_trans S2.out (Nat.le_trans S3.out (Nat.le_trans S4.out (Nat.le_trans S5.out (Nat.le_trans S6.out (Nat.le_trans S7.out S8.out))))))))
    clear b
    have hn_u1 : n1 ≤ 1048576 := hn1
    go_wp2_with fail
    refine (eqIntS_true _ _ _ _ _ _ _ ((o_y1.sl hn_y1).more (Nat.le_trans S6.out (Nat.le_trans S7.out (Nat.le_trans S8.out S9.out)))) ((o_u1.sl hn_u1).more (Nat.le_refl _))).mono ?_
    rintro e w10 ⟨rfl, b⟩
    have S10 := Lib.hid b.size
    replace s_a1 := s_a1.keep (b.mono (Nat.le_trans S1.out (Nat.le_trans S2.out (Nat.le_trans S3.out (Nat.le_trans S4.out (Nat.le_trans S5.out (Nat.le_trans S6.out (Nat.le_trans S7.out (Nat.le_trans S8.out S9.out)))))))))
    replace c_p0_0 := (b.cell (p := ⟨w0.heap.size, 0, none⟩) (Nat.lt_of_lt_of_le z_p0 (Nat.le_trans S2.out (Nat.le_trans S3.out (Nat.le_trans S4.out (Nat.le_trans S5.out (Nat.le_trans S6.out (Nat.le_trans S7.out (Nat.le_trans S8.out S9.out))))))))).trans c_p0_0
    replace c_p0_1 := (b.cell (p := ⟨w0.heap.size, 1, none⟩) (Nat.lt_of_lt_of_le z_p0 (Nat.le_trans S2.out (Nat.le_trans S3.out (Nat.le_trans S4.out (Nat.le_trans S5.out (Nat.le_trans S6.out (Nat.le_trans S7.out (Nat.le_trans S8.out S9.out))))))))).trans c_p0_1
    replace o_r := o_r.keep b (Nat.le_trans S5.out (Nat.le_trans S6.out (Nat.le_trans S7.out (Nat.le_trans S8.out S9.out))))
    replace o_y1 := o_y1.keep b (Nat.le_trans S6.out (Nat.le_trans S7.out (Nat.le_trans S8.out S9.out)))
    replace o_g := o_g.keep b (Nat.le_trans S8.out S9.out)
    replace o_u1 := o_u1.keep b (Nat.le_refl _)
    replace bb := bb.trans (b.mono (Nat.le_trans S1.out (Nat.le_trans S2.out (Nat.le_trans S3.out (Nat.le_trans S4.out (Nat.le_trans S5.out (Nat.le_trans S6.out (Nat.le_trans S7.out (Nat.le_trans S8.out S9.out)))))))))
    clear b
    clear o_u1
    go_wp2_with fail
    refine (mark_any _ _ _ _ _ _ (1) _ o_y1 hn_y1 (by omega)).mono ?_
    clear o_y1
    rintro e w11 ⟨rfl, o_y1, m⟩
    have S11 := Lib.hid m.low.size
    replace s_a1 := m.sl s_a1 (Nat.le_trans S1.out (Nat.le_trans S2.out (Nat.le_trans S3.out S4.out)))
    replace c_p0_0 := (m.cellAt ⟨w0.heap.size, 0, none⟩ (.inl (Nat.lt_of_lt_of_le z_p0 (Nat.le_trans S2.out (Nat.le_trans S3.out S4.out))))).trans c_p0_0
    replace c_p0_1 := (m.cellAt ⟨w0.heap.size, 1, none⟩ (.inl (Nat.lt_of_lt_of_le z_p0 (Nat.le_trans S2.out (Nat.le_trans S3.out S4.out))))).trans c_p0_1
    replace o_r := m.ownLow o_r (Nat.le_refl _)
    replace o_g := m.ownHigh o_g (S6.out)
    replace bb := bb.trans (m.low.mono (Nat.le_trans S1.out (Nat.le_trans S2.out (Nat.le_trans S3.out S4.out))))
    clear m
    go_wp2_with fail
    refine (eqIntS_true _ _ _ _ _ _ _ ((o_g.sl hn_g).more (Nat.le_trans S8.out (Nat.le_trans S9.out (Nat.le_trans S10.out S11.out)))) ((o_r.sl hn_r).more (Nat.le_trans S5.out (Nat.le_trans S6.out (Nat.le_trans S7.out (Nat.le_trans S8.out (Nat.le_trans S9.out (Nat.le_trans S10.out S11.out)))))))).mono ?_
    rintro e w12 ⟨rfl, b⟩
    have S12 := Lib.hid b.size
    replace s_a1 := s_a1.keep (b.mono (Nat.le_trans S1.out (Nat.le_trans S2.out (Nat.le_trans S3.out (Nat.le_trans S4.out (Nat.le_trans S5.out (Nat.le_trans S6.out (Nat.le_trans S7.out (Nat.le_trans S8.out (Nat.le_trans S9.out (Nat.le_trans S10.out S11.out)))))))))))
    replace c_p0_0 := (b.cell (p := ⟨w0.heap.size, 0, none⟩) (Nat.lt_of_lt_of_le z_p0 (Nat.le_trans S2.out (Nat.le_trans S3.out (Nat.le_trans S4.out (Nat.le_trans S5.out (Nat.le_trans S6.out (Nat.le_trans S7.out (Nat.le_trans S8.out (Nat.le_trans S9.out (Nat.le_trans S10.out S11.out))))))))))).trans c_p0_0
    replace c_p0_1 := (b.cell (p := ⟨w0.heap.size, 1, none⟩) (Nat.lt_of_lt_of_le z_p0 (Nat.le_trans S2.out (Nat.le_trans S3.out (Nat.le_trans S4.out (Nat.le_trans S5.out (Nat.le_trans S6.out (Nat.le_trans S7.out (Nat.le_trans S8.out (Nat.le_trans S9.out (Nat.le_trans S10.out S11.out))))))))))).trans c_p0_1
    replace o_r := o_r.keep b (Nat.le_trans S5.out (Nat.le_trans S6.out (Nat.le_trans S7.out (Nat.le_trans S8.out (Nat.le_trans S9.out (Nat.le_trans S10.out S11.out))))))
    replace o_y1 := o_y1.keep b (Nat.le_trans S6.out (Nat.le_trans S7.out (Nat.le_trans S8.out (Nat.le_trans S9.out (Nat.le_trans S10.out S11.out)))))
    replace o_g := o_g.keep b (Nat.le_trans S8.out (Nat.le_trans S9.out (Nat.le_trans S10.out S11.out)))
    replace bb := bb.trans (b.mono (Nat.le_trans S1.out (Nat.le_trans S2.out (Nat.le_trans S3.out (Nat.le_trans S4.out (Nat.le_trans S5.out (Nat.le_trans S6.out (Nat.le_trans S7.out (Nat.le_trans S8.out (Nat.le_trans S9.out (Nat.le_trans S10.out S11.out)))))))))))
    clear b
    clear o_y1
    go_wp2_with fail
    refine (mark_any _ _ _ _ _ _ (1) _ o_g hn_g (by omega)).mono ?_
    clear o_g
    rintro e w13 ⟨rfl, o_g, m⟩
    have S13 := Lib.hid m.low.size
    replace s_a1 := m.sl s_a1 (Nat.le_trans S1.out (Nat.le_trans S2.out (Nat.le_trans S3.out (Nat.le_trans S4.out (Nat.le_trans S5.out S6.out)))))
    replace c_p0_0 := (m.cellAt ⟨w0.heap.size, 0, none⟩ (.inl (Nat.lt_of_lt_of_le z_p0 (Nat.le_trans S2.out (Nat.le_trans S3.out (Nat.le_trans S4.out (Nat.le_trans S5.out S6.out))))))).trans c_p0_0
    replace c_p0_1 := (m.cellAt ⟨w0.heap.size, 1, none⟩ (.inl (Nat.lt_of_lt_of_le z_p0 (Nat.le_trans S2.out (Nat.le_trans S3.out (Nat.le_trans S4.out (Nat.le_trans S5.out S6.out))))))).trans c_p0_1
    replace o_r := m.ownLow o_r (Nat.le_trans S5.out S6.out)
    replace bb := bb.trans (m.low.mono (Nat.le_trans S1.out (Nat.le_trans S2.out (Nat.le_trans S3.out (Nat.le_trans S4.out (Nat.le_trans S5.out S6.out))))))
    clear m
    go_wp2_with fail
    refine (held_any _ _ _ (1) _ ((o_g.sl hn_g).more (Nat.le_trans S8.out (Nat.le_trans S9.out (Nat.le_trans S10.out (Nat.le_trans S11.out (Nat.le_trans S12.out S13.out)))))) (by omega)).mono ?_
    rintro e w' ⟨rfl, rfl⟩
    go_wp2_with fail
    refine (toQ_any _ _ _).mono ?_
    rintro e w14 ⟨rfl, b⟩
    have S14 := Lib.hid b.size
    replace s_a1 := s_a1.keep (b.mono (Nat.le_trans S1.out (Nat.le_trans S2.out (Nat.le_trans S3.out (Nat.le_trans S4.out (Nat.le_trans S5.out (Nat.le_trans S6.out (Nat.le_trans S7.out (Nat.le_trans S8.out (Nat.le_trans S9.out (Nat.le_trans S10.out (Nat.le_trans S11.out (Nat.le_trans S12.out S13.out)))))))))))))
    replace c_p0_0 := (b.cell (p := ⟨w0.heap.size, 0, none⟩) (Nat.lt_of_lt_of_le z_p0 (Nat.le_trans S2.out (Nat.le_trans S3.out (Nat.le_trans S4.out (Nat.le_trans S5.out (Nat.le_trans S6.out (Nat.le_trans S7.out (Nat.le_trans S8.out (Nat.le_trans S9.out (Nat.le_trans S10.out (Nat.le_trans S11.out (Nat.le_trans S12.out S13.out))))))))))))).trans c_p0_0
    replace c_p0_1 := (b.cell (p := ⟨w0.heap.size, 1, none⟩) (Nat.lt_of_lt_of_le z_p0 (Nat.le_trans S2.out (Nat.le_trans S3.out (Nat.le_trans S4.out (Nat.le_trans S5.out (Nat.le_trans S6.out (Nat.le_trans S7.out (Nat.le_trans S8.out (Nat.le_trans S9.out (Nat.le_trans S10.out (Nat.le_trans S11.out (Nat.le_trans S12.out S13.out))))))))))))).trans c_p0_1
    replace o_r := o_r.keep b (Nat.le_trans S5.out (Nat.le_trans S6.out (Nat.le_trans S7.out (Nat.le_trans S8.out (Nat.le_trans S9.out (Nat.le_trans S10.out (Nat.le_trans S11.out (Nat.le_trans S12.out S13.out))))))))
    replace o_g := o_g.keep b (Nat.le_trans S8.out (Nat.le_trans S9.out (Nat.le_trans S10.out (Nat.le_trans S11.out (Nat.le_trans S12.out S13.out)))))
    replace bb := bb.trans (b.mono (Nat.le_trans S1.out (Nat.le_trans S2.out (Nat.le_trans S3.out (Nat.le_trans S4.out (Nat.le_trans S5.out (Nat.le_trans S6.out (Nat.le_trans S7.out (Nat.le_trans S8.out (Nat.le_trans S9.out (Nat.le_trans S10.out (Nat.le_trans S11.out (Nat.le_trans S12.out S13.out)))))))))))))
    clear b
    go_wp2_with fail
    refine (toIntS_any _ _ _ x1 _ (s_a1.more (Nat.le_trans S1.out (Nat.le_trans S2.out (Nat.le_trans S3.out (Nat.le_trans S4.out (Nat.le_trans S5.out (Nat.le_trans S6.out (Nat.le_trans S7.out (Nat.le_trans S8.out (Nat.le_trans S9.out (Nat.le_trans S10.out (Nat.le_trans S11.out (Nat.le_trans S12.out (Nat.le_trans S13.out S14.out))))))))))))))).mono ?_
    rintro e w15 ⟨a_v1, c_v1, rfl, o_v1, b⟩
    have S15 := Lib.hid b.size
    replace s_a1 := s_a1.keep (b.mono (Nat.le_trans S1.out (Nat.le_trans S2.out (Nat.le_trans S3.out (Nat.le_trans S4.out (Nat.le_trans S5.out (Nat.le_trans S6.out (Nat.le_trans S7.out (Nat.le_trans S8.out (Nat.le_trans S9.out (Nat.le_trans S10.out (Nat.le_trans S11.out (Nat.le_trans S12.out (Nat.le_trans S13.out S14.out))))))))))))))
    replace c_p0_0 := (b.cell (p := ⟨w0.heap.size, 0, none⟩) (Nat.lt_of_lt_of_le z_p0 (Nat.le_trans S2.out (Nat.le_trans S3.out (Nat.le_trans S4.out (Nat.le_trans S5.out (Nat.le_trans S6.out (Nat.le_trans S7.out (Nat.le_trans S8.out (Nat.le_trans S9.out (Nat.le_trans S10.out (Nat.le_trans S11.out (Nat.le_trans S12.out (Nat.le_trans S13.out S14.out)))))))))))))).trans c_p0_0
    replace c_p0_1 := (b.cell (p := ⟨w0.heap.size, 1, none⟩) (Nat.lt_of_lt_of_le z_p0 (Nat.le_trans S2.out (Nat.le_trans S3.out (Nat.le_trans S4.out (Nat.le_trans S5.out (Nat.le_trans S6.out (Nat.le_trans S7.out (Nat.le_trans S8.out (Nat.le_trans S9.out (Nat.le_trans S10.out (Nat.le_trans S11.out (Nat.le_trans S12.out (Nat.le_trans S13.out S14.out)))))))))))))).trans c_p0_1
    replace o_r := o_r.keep b (Nat.le_trans S5.out (Nat.le_trans S6.out (Nat.le_trans S7.out (Nat.le_trans S8.out (Nat.le_trans S9.out (Nat.le_trans S10.out (Nat.le_trans S11.out (Nat.le_trans S12.out (Nat.le_trans S13.out S14.out)))))))))
    replace o_g := o_g.keep b (Nat.le_trans S8.out (Nat.le_trans S9.out (Nat.le_trans S10.out (Nat.le_trans S11.out (Nat.le_trans S12.out (Nat.le_trans S13.out S14.out))))))
    replace bb := bb.trans (b.mono (Nat.le_trans S1.out (Nat.le_trans S2.out (Nat.le_trans S3.out (Nat.le_trans S4.out (Nat.le_trans S5.out (Nat.le_trans S6.out (Nat.le_trans S7.out (Nat.le_trans S8.out (Nat.le_trans S9.out (Nat.le_trans S10.out (Nat.le_trans S11.out (Nat.le_trans S12.out (Nat.le_trans S13.out S14.out))))))))))))))
    clear b
    have hn_v1 : n1 ≤ 1048576 := hn1
    go_wp2_with fail
    refine (bits_i _ _ _ _ _ x1 _ ((o_v1.sl hn_v1).more (Nat.le_refl _))).mono ?_
    rintro e w16 ⟨a_h, n_h, c_h, rfl, o_h, b⟩
    have S16 := Lib.hid b.size
    replace s_a1 := s_a1.keep (b.mono (Nat.le_trans S1.out (Nat.le_trans S2.out (Nat.le_trans S3.out (Nat.le_trans S4.out (Nat.le_trans S5.out (Nat.le_trans S6.out (Nat.le_trans S7.out (Nat.le_trans S8.out (Nat.le_trans S9.out (Nat.le_trans S10.out (Nat.le_trans S11.out (Nat.le_trans S12.out (Nat.le_trans S13.out (Nat.le_trans S14.out S15.out)))))))))))))))
    replace c_p0_0 := (b.cell (p := ⟨w0.heap.size, 0, none⟩) (Nat.lt_of_lt_of_le z_p0 (Nat.le_trans S2.out (Nat.le_trans S3.out (Nat.le_trans S4.out (Nat.le_trans S5.out (Nat.le_trans S6.out (Nat.le_trans S7.out (Nat.le_trans S8.out (Nat.le_trans S9.out (Nat.le_trans S10.out (Nat.le_trans S11.out (Nat.le_trans S12.out (Nat.le_trans S13.out (Nat.le_trans S14.out S15.out))))))))))))))).trans c_p0_0
    replace c_p0_1 := (b.cell (p := ⟨w0.heap.size, 1, none⟩) (Nat.lt_of_lt_of_le z_p0 (Nat.le_trans S2.out (Nat.le_trans S3.out (Nat.le_trans S4.out (Nat.le_trans S5.out (Nat.le_trans S6.out (Nat.le_trans S7.out (Nat.le_trans S8.out (Nat.le_trans S9.out (Nat.le_trans S10.out (Nat.le_trans S11.out (Nat.le_trans S12.out (Nat.le_trans S13.out (Nat.le_trans S14.out S15.out))))))))))))))).trans c_p0_1
    replace o_r := o_r.keep b (Nat.le_trans S5.out (Nat.le_trans S6.out (Nat.le_trans S7.out (Nat.le_trans S8.out (Nat.le_trans S9.out (Nat.le_trans S10.out (Nat.le_trans S11.out (Nat.le_trans S12.out (Nat.le_trans S13.out (Nat.le_trans S14.out S15.out))))))))))
    replace o_g := o_g.keep b (Nat.le_trans S8.out (Nat.le_trans S9.out (Nat.le_trans S10.out (Nat.le_trans S11.out (Nat.le_trans S12.out (Nat.le_trans S13.out (Nat.le_trans S14.out S15.out)))))))
    replace o_v1 := o_v1.keep b (Nat.le_refl _)
    replace bb := bb.trans (b.mono (Nat.le_trans S1.out (Nat.le_trans S2.out (Nat.le_trans S3.out (Nat.le_trans S4.out (Nat.le_trans S5.out (Nat.le_trans S6.out (Nat.le_trans S7.out (Nat.le_trans S8.out (Nat.le_trans S9.out (Nat.le_trans S10.out (Nat.le_trans S11.out (Nat.le_trans S12.out (Nat.le_trans S13.out (Nat.le_trans S14.out S15.out)))))))))))))))
    clear b
    have hn_h : n_h ≤ 1048576 := by rw [← o_h.len]; exact btV_len _ _ _
    clear o_v1
    clear s_a1
    obtain rfl : n_h = n_g := by rw [← o_h.len, ← o_r.len]
    go_wp2_with fail
    refine (eqIntS_true _ _ _ _ _ _ _ ((o_h.sl hn_h).more (Nat.le_refl _)) ((o_r.sl hn_r).more (Nat.le_trans S5.out (Nat.le_trans S6.out (Nat.le_trans S7.out (Nat.le_trans S8.out (Nat.le_trans S9.out (Nat.le_trans S10.out (Nat.le_trans S11.out (Nat.le_trans S12.out (Nat.le_trans S13.out (Nat.le_trans S14.out (Nat.le_trans S15.out S16.out))))))))))))).mono ?_
    rintro e w17 ⟨rfl, b⟩
    have S17 := Lib.hid b.size
    replace c_p0_0 := (b.cell (p := ⟨w0.heap.size, 0, none⟩) (Nat.lt_of_lt_of_le z_p0 (Nat.le_trans S2.out (Nat.le_trans S3.out (Nat.le_trans S4.out (Nat.le_trans S5.out (Nat.le_trans S6.out (Nat.le_trans S7.out (Nat.le_trans S8.out (Nat.le_trans S9.out (Nat.le_trans S10.out (Nat.le_trans S11.out (Nat.le_trans S12.out (Nat.le_trans S13.out (Nat.le_trans S14.out (Nat.le_trans S15.out S16.out)))))))))))))))).trans c_p0_0
    replace c_p0_1 := (b.cell (p := ⟨w0.heap.size, 1, none⟩) (Nat.lt_of_lt_of_le z_p0 (Nat.le_trans S2.out (Nat.le_trans S3.out (Nat.le_trans S4.out (Nat.le_trans S5.out (Nat.le_trans S6.out (Nat.le_trans S7.out (Nat.le_trans S8.out (Nat.le_trans S9.out (Nat.le_trans S10.out (Nat.le_trans S11.out (Nat.le_trans S12.out (Nat.le_trans S13.out (Nat.le_trans S14.out (Nat.le_trans S15.out S16.out)))))))))))))))).trans c_p0_1
    replace o_r := o_r.keep b (Nat.le_trans S5.out (Nat.le_trans S6.out (Nat.le_trans S7.out (Nat.le_trans S8.out (Nat.le_trans S9.out (Nat.le_trans S10.out (Nat.le_trans S11.out (Nat.le_trans S12.out (Nat.le_trans S13.out (Nat.le_trans S14.out (Nat.le_trans S15.out S16.out)))))))))))
    replace o_g := o_g.keep b (Nat.le_trans S8.out (Nat.le_trans S9.out (Nat.le_trans S10.out (Nat.le_trans S11.out (Nat.le_trans S12.out (Nat.le_trans S13.out (Nat.le_trans S14.out (Nat.le_trans S15.out S16.out))))))))
    replace o_h := o_h.keep b (Nat.le_refl _)
    replace bb := bb.trans (b.mono (Nat.le_trans S1.out (Nat.le_trans S2.out (Nat.le_trans S3.out (Nat.le_trans S4.out (Nat.le_trans S5.out (Nat.le_trans S6.out (Nat.le_trans S7.out (Nat.le_trans S8.out (Nat.le_trans S9.out (Nat.le_trans S10.out (Nat.le_trans S11.out (Nat.le_trans S12.out (Nat.le_trans S13.out (Nat.le_trans S14.out (Nat.le_trans S15.out S16.out))))))))))))))))
    clear b
    clear o_h
    clear o_r
    go_wp2_with fail
    refine (held_any _ _ _ (1) _ ((o_g.sl hn_g).more (Nat.le_trans S8.out (Nat.le_trans S9.out (Nat.le_trans S10.out (Nat.le_trans S11.out (Nat.le_trans S12.out (Nat.le_trans S13.out (Nat.le_trans S14.out (Nat.le_trans S15.out (Nat.le_trans S16.out S17.out)))))))))) (by omega)).mono ?_
    rintro e w' ⟨rfl, rfl⟩
    go_wp2_with fail
    go_ret
    exact ⟨rfl, bb⟩

set_option maxHeartbeats 400000 in
theorem fnExactBitsOf_walk (l0 s0 : Int) (a1 : Option Addr) (n1 c1 : Nat) (x1 : List Int) (w : World) (h0 : Wf l0 ∧ Wf s0) (h1 : IsRow .i64 w a1 n1 c1 x1) :
    Calls Try.prog 10 #[.agg #[.int .i64 l0, .int .i64 s0], .slice a1 n1 c1] w fun e w' => e = .returned (.bool true) ∧ Below w.heap.size w w' := by
  have hle1 := h1.le
  by_cases hn1 : n1 ≤ 1048576
  rotate_left
  · go_enter Try.func10, Try.ntmps10
    go_wp2_with fail
    go_ret
    exact ⟨rfl, box_below _ _⟩
  exact fnExactBitsOf_core _ _ _ _ _ _ w h0 (h1.sl hn1)
end Go.Proofs.Ytodoebamkijalaa
