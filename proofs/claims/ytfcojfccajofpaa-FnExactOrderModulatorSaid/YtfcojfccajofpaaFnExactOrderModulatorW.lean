/- The walk of the law FnExactOrderModulator: it returns true and leaves what was there as it was. -/
import Derived.Test.YtfcojfccajofpaaMod8
import Derived.Test.YtfcojfccajofpaaLawM
import Derived.Test.YtfcojfccajofpaaLawM2
namespace Go.Proofs.Ytfcojfccajofpaa
open Go.RowKit
set_option linter.unusedVariables false
set_option maxRecDepth 100000 in
set_option maxHeartbeats 4000000 in
theorem fnExactOrderModulator_walk (l0 s0 : Int) (a1 : Int) (w0 : World) (h0 : Wf l0 ∧ Wf s0) (h1 : Wf a1) :
    Calls Try.prog 8 #[.agg #[.int .i64 l0, .int .i64 s0], .int .i64 a1] w0 fun e w' => e = .returned (.bool true) ∧ Below w0.heap.size w0 w' := by
  have bb := Below.refl w0.heap.size w0
  go_enter Try.func8, Try.ntmps8
  go_wp2_with fail
  have c_p_0 : (w0.alloc (.cells #[.int .i64 l0, .int .i64 s0] 23)).cell? ⟨w0.heap.size, 0, none⟩ = some (.int .i64 l0) := by simp [go_sem]
  have c_p_1 : (w0.alloc (.cells #[.int .i64 l0, .int .i64 s0] 23)).cell? ⟨w0.heap.size, 1, none⟩ = some (.int .i64 s0) := by simp [go_sem]
  have z_p : w0.heap.size < (w0.alloc (.cells #[.int .i64 l0, .int .i64 s0] 23)).heap.size := by simp
  have b := box_below w0 (.cells #[.int .i64 l0, .int .i64 s0] 23)
  generalize hgw : (w0.alloc (.cells #[.int .i64 l0, .int .i64 s0] 23)) = w1 at c_p_0 c_p_1 z_p b ⊢
  clear hgw
  have S1 := Lib.hid b.size
  replace bb := bb.trans (b.mono (Nat.le_refl _))
  clear b
  go_wp2_with fail
  refine (toQ_any _ _ _).mono ?_
  rintro e w2 ⟨rfl, b⟩
  have S2 := Lib.hid b.size
  replace c_p_0 := (b.cell (p := ⟨w0.heap.size, 0, none⟩) (Nat.lt_of_lt_of_le z_p (Nat.le_refl _))).trans c_p_0
  replace c_p_1 := (b.cell (p := ⟨w0.heap.size, 1, none⟩) (Nat.lt_of_lt_of_le z_p (Nat.le_refl _))).trans c_p_1
  replace bb := bb.trans (b.mono (S1.out))
  clear b
  go_wp2_with fail
  refine (order_mod_s l0 s0 a1 _ h1).mono ?_
  rintro e w3 ⟨a_r, n_r, c_r, rfl, o_r, b⟩
  have S3 := Lib.hid b.size
  replace c_p_0 := (b.cell (p := ⟨w0.heap.size, 0, none⟩) (Nat.lt_of_lt_of_le z_p (S2.out))).trans c_p_0
  replace c_p_1 := (b.cell (p := ⟨w0.heap.size, 1, none⟩) (Nat.lt_of_lt_of_le z_p (S2.out))).trans c_p_1
  replace bb := bb.trans (b.mono (Nat.le_trans S1.out S2.out))
  clear b
  have hn_r : n_r ≤ 1048576 := by rw [← o_r.len]; exact omC_len _ _ _
  have b := box_below w3 (.cells #[.int .i64 (omL l0 s0 a1), .int .i64 (omS l0 s0 a1), .slice a_r n_r c_r] 31)
  have d_p_0 := (b.cell (p := ⟨w0.heap.size, 0, none⟩) (Nat.lt_of_lt_of_le z_p (Nat.le_trans S2.out S3.out))).trans c_p_0
  have d_p_1 := (b.cell (p := ⟨w0.heap.size, 1, none⟩) (Nat.lt_of_lt_of_le z_p (Nat.le_trans S2.out S3.out))).trans c_p_1
  have c_R_0 : (w3.alloc (.cells #[.int .i64 (omL l0 s0 a1), .int .i64 (omS l0 s0 a1), .slice a_r n_r c_r] 31)).cell? ⟨w3.heap.size, 0, none⟩ = some (.int .i64 (omL l0 s0 a1)) := by simp [go_sem]
  have c_R_1 : (w3.alloc (.cells #[.int .i64 (omL l0 s0 a1), .int .i64 (omS l0 s0 a1), .slice a_r n_r c_r] 31)).cell? ⟨w3.heap.size, 1, none⟩ = some (.int .i64 (omS l0 s0 a1)) := by simp [go_sem]
  have c_R_2 : (w3.alloc (.cells #[.int .i64 (omL l0 s0 a1), .int .i64 (omS l0 s0 a1), .slice a_r n_r c_r] 31)).cell? ⟨w3.heap.size, 2, none⟩ = some (.slice a_r n_r c_r) := by simp [go_sem]
  go_wp2_with fail
  have z_R : w3.heap.size < (w3.alloc (.cells #[.int .i64 (omL l0 s0 a1), .int .i64 (omS l0 s0 a1), .slice a_r n_r c_r] 31)).heap.size := by simp
  generalize hgw : (w3.alloc (.cells #[.int .i64 (omL l0 s0 a1), .int .i64 (omS l0 s0 a1), .slice a_r n_r c_r] 31)) = w4 at c_R_0 c_R_1 c_R_2 d_p_0 d_p_1 z_R b ⊢
  clear hgw d_p_0 d_p_1
  have S4 := Lib.hid b.size
  replace c_p_0 := (b.cell (p := ⟨w0.heap.size, 0, none⟩) (Nat.lt_of_lt_of_le z_p (Nat.le_trans S2.out S3.out))).trans c_p_0
  replace c_p_1 := (b.cell (p := ⟨w0.heap.size, 1, none⟩) (Nat.lt_of_lt_of_le z_p (Nat.le_trans S2.out S3.out))).trans c_p_1
  replace o_r := o_r.keep b (Nat.le_refl _)
  replace bb := bb.trans (b.mono (Nat.le_trans S1.out (Nat.le_trans S2.out S3.out)))
  clear b
  go_wp2_with fail
  refine (toQ_any _ _ _).mono ?_
  rintro e w5 ⟨rfl, b⟩
  have S5 := Lib.hid b.size
  replace c_p_0 := (b.cell (p := ⟨w0.heap.size, 0, none⟩) (Nat.lt_of_lt_of_le z_p (Nat.le_trans S2.out (Nat.le_trans S3.out S4.out)))).trans c_p_0
  replace c_p_1 := (b.cell (p := ⟨w0.heap.size, 1, none⟩) (Nat.lt_of_lt_of_le z_p (Nat.le_trans S2.out (Nat.le_trans S3.out S4.out)))).trans c_p_1
  replace o_r := o_r.keep b (S4.out)
  replace c_R_0 := (b.cell (p := ⟨w3.heap.size, 0, none⟩) (Nat.lt_of_lt_of_le z_R (Nat.le_refl _))).trans c_R_0
  replace c_R_1 := (b.cell (p := ⟨w3.heap.size, 1, none⟩) (Nat.lt_of_lt_of_le z_R (Nat.le_refl _))).trans c_R_1
  replace c_R_2 := (b.cell (p := ⟨w3.heap.size, 2, none⟩) (Nat.lt_of_lt_of_le z_R (Nat.le_refl _))).trans c_R_2
  replace bb := bb.trans (b.mono (Nat.le_trans S1.out (Nat.le_trans S2.out (Nat.le_trans S3.out S4.out))))
  clear b
  go_wp2_with fail
  refine (order_mod_i l0 s0 a1 _ h1).mono ?_
  rintro e w6 ⟨a_g, n_g, c_g, rfl, o_g, b⟩
  have S6 := Lib.hid b.size
  replace c_p_0 := (b.cell (p := ⟨w0.heap.size, 0, none⟩) (Nat.lt_of_lt_of_le z_p (Nat.le_trans S2.out (Nat.le_trans S3.out (Nat.le_trans S4.out S5.out))))).trans c_p_0
  replace c_p_1 := (b.cell (p := ⟨w0.heap.size, 1, none⟩) (Nat.lt_of_lt_of_le z_p (Nat.le_trans S2.out (Nat.le_trans S3.out (Nat.le_trans S4.out S5.out))))).trans c_p_1
  replace o_r := o_r.keep b (Nat.le_trans S4.out S5.out)
  replace c_R_0 := (b.cell (p := ⟨w3.heap.size, 0, none⟩) (Nat.lt_of_lt_of_le z_R (S5.out))).trans c_R_0
  replace c_R_1 := (b.cell (p := ⟨w3.heap.size, 1, none⟩) (Nat.lt_of_lt_of_le z_R (S5.out))).trans c_R_1
  replace c_R_2 := (b.cell (p := ⟨w3.heap.size, 2, none⟩) (Nat.lt_of_lt_of_le z_R (S5.out))).trans c_R_2
  replace bb := bb.trans (b.mono (Nat.le_trans S1.out (Nat.le_trans S2.out (Nat.le_trans S3.out (Nat.le_trans S4.out S5.out)))))
  clear b
  have hn_g : n_g ≤ 1048576 := by rw [← o_g.len]; exact omC_len _ _ _
  obtain rfl : n_g = n_r := by rw [← o_g.len, ← o_r.len]
  have b := box_below w6 (.cells #[.int .i64 (omL l0 s0 a1), .int .i64 (omS l0 s0 a1), .slice a_g n_g c_g] 31)
  have d_p_0 := (b.cell (p := ⟨w0.heap.size, 0, none⟩) (Nat.lt_of_lt_of_le z_p (Nat.le_trans S2.out (Nat.le_trans S3.out (Nat.le_trans S4.out (Nat.le_trans S5.out S6.out)))))).trans c_p_0
  have d_p_1 := (b.cell (p := ⟨w0.heap.size, 1, none⟩) (Nat.lt_of_lt_of_le z_p (Nat.le_trans S2.out (Nat.le_trans S3.out (Nat.le_trans S4.out (Nat.le_trans S5.out S6.out)))))).trans c_p_1
  have d_R_0 := (b.cell (p := ⟨w3.heap.size, 0, none⟩) (Nat.lt_of_lt_of_le z_R (Nat.le_trans S5.out S6.out))).trans c_R_0
  have d_R_1 := (b.cell (p := ⟨w3.heap.size, 1, none⟩) (Nat.lt_of_lt_of_le z_R (Nat.le_trans S5.out S6.out))).trans c_R_1
  have d_R_2 := (b.cell (p := ⟨w3.heap.size, 2, none⟩) (Nat.lt_of_lt_of_le z_R (Nat.le_trans S5.out S6.out))).trans c_R_2
  have c_G_0 : (w6.alloc (.cells #[.int .i64 (omL l0 s0 a1), .int .i64 (omS l0 s0 a1), .slice a_g n_g c_g] 31)).cell? ⟨w6.heap.size, 0, none⟩ = some (.int .i64 (omL l0 s0 a1)) := by simp [go_sem]
  have c_G_1 : (w6.alloc (.cells #[.int .i64 (omL l0 s0 a1), .int .i64 (omS l0 s0 a1), .slice a_g n_g c_g] 31)).cell? ⟨w6.heap.size, 1, none⟩ = some (.int .i64 (omS l0 s0 a1)) := by simp [go_sem]
  have c_G_2 : (w6.alloc (.cells #[.int .i64 (omL l0 s0 a1), .int .i64 (omS l0 s0 a1), .slice a_g n_g c_g] 31)).cell? ⟨w6.heap.size, 2, none⟩ = some (.slice a_g n_g c_g) := by simp [go_sem]
  go_wp2_with fail
  have z_G : w6.heap.size < (w6.alloc (.cells #[.int .i64 (omL l0 s0 a1), .int .i64 (omS l0 s0 a1), .slice a_g n_g c_g] 31)).heap.size := by simp
  generalize hgw : (w6.alloc (.cells #[.int .i64 (omL l0 s0 a1), .int .i64 (omS l0 s0 a1), .slice a_g n_g c_g] 31)) = w7 at c_G_0 c_G_1 c_G_2 d_p_0 d_p_1 d_R_0 d_R_1 d_R_2 z_G b ⊢
  clear hgw d_p_0 d_p_1 d_R_0 d_R_1 d_R_2
  have S7 := Lib.hid b.size
  replace c_p_0 := (b.cell (p := ⟨w0.heap.size, 0, none⟩) (Nat.lt_of_lt_of_le z_p (Nat.le_trans S2.out (Nat.le_trans S3.out (Nat.le_trans S4.out (Nat.le_trans S5.out S6.out)))))).trans c_p_0
  replace c_p_1 := (b.cell (p := ⟨w0.heap.size, 1, none⟩) (Nat.lt_of_lt_of_le z_p (Nat.le_trans S2.out (Nat.le_trans S3.out (Nat.le_trans S4.out (Nat.le_trans S5.out S6.out)))))).trans c_p_1
  replace o_r := o_r.keep b (Nat.le_trans S4.out (Nat.le_trans S5.out S6.out))
  replace c_R_0 := (b.cell (p := ⟨w3.heap.size, 0, none⟩) (Nat.lt_of_lt_of_le z_R (Nat.le_trans S5.out S6.out))).trans c_R_0
  replace c_R_1 := (b.cell (p := ⟨w3.heap.size, 1, none⟩) (Nat.lt_of_lt_of_le z_R (Nat.le_trans S5.out S6.out))).trans c_R_1
  replace c_R_2 := (b.cell (p := ⟨w3.heap.size, 2, none⟩) (Nat.lt_of_lt_of_le z_R (Nat.le_trans S5.out S6.out))).trans c_R_2
  replace o_g := o_g.keep b (Nat.le_refl _)
  replace bb := bb.trans (b.mono (Nat.le_trans S1.out (Nat.le_trans S2.out (Nat.le_trans S3.out (Nat.le_trans S4.out (Nat.le_trans S5.out S6.out))))))
  clear b
  go_wp2_with fail
  refine (eqM_true _ _ _ _ _ _ _ (omC l0 s0 a1) _ ((o_g.sl hn_g).more (S7.out)) ((o_r.sl hn_r).more (Nat.le_trans S4.out (Nat.le_trans S5.out (Nat.le_trans S6.out S7.out))))).mono ?_
  rintro e w8 ⟨rfl, b⟩
  have S8 := Lib.hid b.size
  replace c_p_0 := (b.cell (p := ⟨w0.heap.size, 0, none⟩) (Nat.lt_of_lt_of_le z_p (Nat.le_trans S2.out (Nat.le_trans S3.out (Nat.le_trans S4.out (Nat.le_trans S5.out (Nat.le_trans S6.out S7.out))))))).trans c_p_0
  replace c_p_1 := (b.cell (p := ⟨w0.heap.size, 1, none⟩) (Nat.lt_of_lt_of_le z_p (Nat.le_trans S2.out (Nat.le_trans S3.out (Nat.le_trans S4.out (Nat.le_trans S5.out (Nat.le_trans S6.out S7.out))))))).trans c_p_1
  replace o_r := o_r.keep b (Nat.le_trans S4.out (Nat.le_trans S5.out (Nat.le_trans S6.out S7.out)))
  replace c_R_0 := (b.cell (p := ⟨w3.heap.size, 0, none⟩) (Nat.lt_of_lt_of_le z_R (Nat.le_trans S5.out (Nat.le_trans S6.out S7.out)))).trans c_R_0
  replace c_R_1 := (b.cell (p := ⟨w3.heap.size, 1, none⟩) (Nat.lt_of_lt_of_le z_R (Nat.le_trans S5.out (Nat.le_trans S6.out S7.out)))).trans c_R_1
  replace c_R_2 := (b.cell (p := ⟨w3.heap.size, 2, none⟩) (Nat.lt_of_lt_of_le z_R (Nat.le_trans S5.out (Nat.le_trans S6.out S7.out)))).trans c_R_2
  replace o_g := o_g.keep b (S7.out)
  replace c_G_0 := (b.cell (p := ⟨w6.heap.size, 0, none⟩) (Nat.lt_of_lt_of_le z_G (Nat.le_refl _))).trans c_G_0
  replace c_G_1 := (b.cell (p := ⟨w6.heap.size, 1, none⟩) (Nat.lt_of_lt_of_le z_G (Nat.le_refl _))).trans c_G_1
  replace c_G_2 := (b.cell (p := ⟨w6.heap.size, 2, none⟩) (Nat.lt_of_lt_of_le z_G (Nat.le_refl _))).trans c_G_2
  replace bb := bb.trans (b.mono (Nat.le_trans S1.out (Nat.le_trans S2.out (Nat.le_trans S3.out (Nat.le_trans S4.out (Nat.le_trans S5.out (Nat.le_trans S6.out S7.out)))))))
  clear b
  go_wp2_with fail
  refine (markM_any _ _ _ _ _ _ _ _ 1 _ o_g hn_g (by omega) (Nat.le_trans S6.out (Nat.le_trans S7.out S8.out))).mono ?_
  clear o_g
  rintro e w9 ⟨rfl, o_g, m⟩
  have S9 := Lib.hid m.low.size
  replace c_p_0 := (m.cellAt ⟨w0.heap.size, 0, none⟩ (.inl (Nat.lt_of_lt_of_le z_p (Nat.le_trans S2.out (Nat.le_trans S3.out (Nat.le_trans S4.out S5.out)))))).trans c_p_0
  replace c_p_1 := (m.cellAt ⟨w0.heap.size, 1, none⟩ (.inl (Nat.lt_of_lt_of_le z_p (Nat.le_trans S2.out (Nat.le_trans S3.out (Nat.le_trans S4.out S5.out)))))).trans c_p_1
  replace o_r := m.ownLow o_r (Nat.le_trans S4.out S5.out)
  replace c_R_0 := (m.cellAt ⟨w3.heap.size, 0, none⟩ (.inl (Nat.lt_of_lt_of_le z_R (S5.out)))).trans c_R_0
  replace c_R_1 := (m.cellAt ⟨w3.heap.size, 1, none⟩ (.inl (Nat.lt_of_lt_of_le z_R (S5.out)))).trans c_R_1
  replace c_R_2 := (m.cellAt ⟨w3.heap.size, 2, none⟩ (.inl (Nat.lt_of_lt_of_le z_R (S5.out)))).trans c_R_2
  replace c_G_0 := (m.cellAt ⟨w6.heap.size, 0, none⟩ (.inr ⟨(Nat.le_refl _), Nat.lt_of_lt_of_le z_G (S8.out)⟩)).trans c_G_0
  replace c_G_1 := (m.cellAt ⟨w6.heap.size, 1, none⟩ (.inr ⟨(Nat.le_refl _), Nat.lt_of_lt_of_le z_G (S8.out)⟩)).trans c_G_1
  replace c_G_2 := (m.cellAt ⟨w6.heap.size, 2, none⟩ (.inr ⟨(Nat.le_refl _), Nat.lt_of_lt_of_le z_G (S8.out)⟩)).trans c_G_2
  replace bb := bb.trans (m.low.mono (Nat.le_trans S1.out (Nat.le_trans S2.out (Nat.le_trans S3.out (Nat.le_trans S4.out S5.out)))))
  clear m
  go_wp2_with fail
  refine (heldM_any _ _ _ _ _ 1 _ ((o_g.sl hn_g).more (Nat.le_trans S7.out (Nat.le_trans S8.out S9.out))) (by omega)).mono ?_
  rintro e w10 ⟨rfl, b⟩
  have S10 := Lib.hid b.size
  replace c_p_0 := (b.cell (p := ⟨w0.heap.size, 0, none⟩) (Nat.lt_of_lt_of_le z_p (Nat.le_trans S2.out (Nat.le_trans S3.out (Nat.le_trans S4.out (Nat.le_trans S5.out (Nat.le_trans S6.out (Nat.le_trans S7.out (Nat.le_trans S8.out S9.out))))))))).trans c_p_0
  replace c_p_1 := (b.cell (p := ⟨w0.heap.size, 1, none⟩) (Nat.lt_of_lt_of_le z_p (Nat.le_trans S2.out (Nat.le_trans S3.out (Nat.le_trans S4.out (Nat.le_trans S5.out (Nat.le_trans S6.out (Nat.le_trans S7.out (Nat.le_trans S8.out S9.out))))))))).trans c_p_1
  replace o_r := o_r.keep b (Nat.le_trans S4.out (Nat.le_trans S5.out (Nat.le_trans S6.out (Nat.le_trans S7.out (Nat.le_trans S8.out S9.out)))))
  replace c_R_0 := (b.cell (p := ⟨w3.heap.size, 0, none⟩) (Nat.lt_of_lt_of_le z_R (Nat.le_trans S5.out (Nat.le_trans S6.out (Nat.le_trans S7.out (Nat.le_trans S8.out S9.out)))))).trans c_R_0
  replace c_R_1 := (b.cell (p := ⟨w3.heap.size, 1, none⟩) (Nat.lt_of_lt_of_le z_R (Nat.le_trans S5.out (Nat.le_trans S6.out (Nat.le_trans S7.out (Nat.le_trans S8.out S9.out)))))).trans c_R_1
  replace c_R_2 := (b.cell (p := ⟨w3.heap.size, 2, none⟩) (Nat.lt_of_lt_of_le z_R (Nat.le_trans S5.out (Nat.le_trans S6.out (Nat.le_trans S7.out (Nat.le_trans S8.out S9.out)))))).trans c_R_2
  replace o_g := o_g.keep b (Nat.le_trans S7.out (Nat.le_trans S8.out S9.out))
  replace c_G_0 := (b.cell (p := ⟨w6.heap.size, 0, none⟩) (Nat.lt_of_lt_of_le z_G (Nat.le_trans S8.out S9.out))).trans c_G_0
  replace c_G_1 := (b.cell (p := ⟨w6.heap.size, 1, none⟩) (Nat.lt_of_lt_of_le z_G (Nat.le_trans S8.out S9.out))).trans c_G_1
  replace c_G_2 := (b.cell (p := ⟨w6.heap.size, 2, none⟩) (Nat.lt_of_lt_of_le z_G (Nat.le_trans S8.out S9.out))).trans c_G_2
  replace bb := bb.trans (b.mono (Nat.le_trans S1.out (Nat.le_trans S2.out (Nat.le_trans S3.out (Nat.le_trans S4.out (Nat.le_trans S5.out (Nat.le_trans S6.out (Nat.le_trans S7.out (Nat.le_trans S8.out S9.out)))))))))
  clear b
  go_wp2_with fail
  refine (toQ_any _ _ _).mono ?_
  rintro e w11 ⟨rfl, b⟩
  have S11 := Lib.hid b.size
  replace c_p_0 := (b.cell (p := ⟨w0.heap.size, 0, none⟩) (Nat.lt_of_lt_of_le z_p (Nat.le_trans S2.out (Nat.le_trans S3.out (Nat.le_trans S4.out (Nat.le_trans S5.out (Nat.le_trans S6.out (Nat.le_trans S7.out (Nat.le_trans S8.out (Nat.le_trans S9.out S10.out)))))))))).trans c_p_0
  replace c_p_1 := (b.cell (p := ⟨w0.heap.size, 1, none⟩) (Nat.lt_of_lt_of_le z_p (Nat.le_trans S2.out (Nat.le_trans S3.out (Nat.le_trans S4.out (Nat.le_trans S5.out (Nat.le_trans S6.out (Nat.le_trans S7.out (Nat.le_trans S8.out (Nat.le_trans S9.out S10.out)))))))))).trans c_p_1
  replace o_r := o_r.keep b (Nat.le_trans S4.out (Nat.le_trans S5.out (Nat.le_trans S6.out (Nat.le_trans S7.out (Nat.le_trans S8.out (Nat.le_trans S9.out S10.out))))))
  replace c_R_0 := (b.cell (p := ⟨w3.heap.size, 0, none⟩) (Nat.lt_of_lt_of_le z_R (Nat.le_trans S5.out (Nat.le_trans S6.out (Nat.le_trans S7.out (Nat.le_trans S8.out (Nat.le_trans S9.out S10.out))))))).trans c_R_0
  replace c_R_1 := (b.cell (p := ⟨w3.heap.size, 1, none⟩) (Nat.lt_of_lt_of_le z_R (Nat.le_trans S5.out (Nat.le_trans S6.out (Nat.le_trans S7.out (Nat.le_trans S8.out (Nat.le_trans S9.out S10.out))))))).trans c_R_1
  replace c_R_2 := (b.cell (p := ⟨w3.heap.size, 2, none⟩) (Nat.lt_of_lt_of_le z_R (Nat.le_trans S5.out (Nat.le_trans S6.out (Nat.le_trans S7.out (Nat.le_trans S8.out (Nat.le_trans S9.out S10.out))))))).trans c_R_2
  replace o_g := o_g.keep b (Nat.le_trans S7.out (Nat.le_trans S8.out (Nat.le_trans S9.out S10.out)))
  replace c_G_0 := (b.cell (p := ⟨w6.heap.size, 0, none⟩) (Nat.lt_of_lt_of_le z_G (Nat.le_trans S8.out (Nat.le_trans S9.out S10.out)))).trans c_G_0
  replace c_G_1 := (b.cell (p := ⟨w6.heap.size, 1, none⟩) (Nat.lt_of_lt_of_le z_G (Nat.le_trans S8.out (Nat.le_trans S9.out S10.out)))).trans c_G_1
  replace c_G_2 := (b.cell (p := ⟨w6.heap.size, 2, none⟩) (Nat.lt_of_lt_of_le z_G (Nat.le_trans S8.out (Nat.le_trans S9.out S10.out)))).trans c_G_2
  replace bb := bb.trans (b.mono (Nat.le_trans S1.out (Nat.le_trans S2.out (Nat.le_trans S3.out (Nat.le_trans S4.out (Nat.le_trans S5.out (Nat.le_trans S6.out (Nat.le_trans S7.out (Nat.le_trans S8.out (Nat.le_trans S9.out S10.out))))))))))
  clear b
  go_wp2_with fail
  refine (order_mod_i l0 s0 a1 _ h1).mono ?_
  rintro e w12 ⟨a_h, n_h, c_h, rfl, o_h, b⟩
  have S12 := Lib.hid b.size
  replace c_p_0 := (b.cell (p := ⟨w0.heap.size, 0, none⟩) (Nat.lt_of_lt_of_le z_p (Nat.le_trans S2.out (Nat.le_trans S3.out (Nat.le_trans S4.out (Nat.le_trans S5.out (Nat.le_trans S6.out (Nat.le_trans S7.out (Nat.le_trans S8.out (Nat.le_trans S9.out (Nat.le_trans S10.out S11.out))))))))))).trans c_p_0
  replace c_p_1 := (b.cell (p := ⟨w0.heap.size, 1, none⟩) (Nat.lt_of_lt_of_le z_p (Nat.le_trans S2.out (Nat.le_trans S3.out (Nat.le_trans S4.out (Nat.le_trans S5.out (Nat.le_trans S6.out (Nat.le_trans S7.out (Nat.le_trans S8.out (Nat.le_trans S9.out (Nat.le_trans S10.out S11.out))))))))))).trans c_p_1
  replace o_r := o_r.keep b (Nat.le_trans S4.out (Nat.le_trans S5.out (Nat.le_trans S6.out (Nat.le_trans S7.out (Nat.le_trans S8.out (Nat.le_trans S9.out (Nat.le_trans S10.out S11.out)))))))
  replace c_R_0 := (b.cell (p := ⟨w3.heap.size, 0, none⟩) (Nat.lt_of_lt_of_le z_R (Nat.le_trans S5.out (Nat.le_trans S6.out (Nat.le_trans S7.out (Nat.le_trans S8.out (Nat.le_trans S9.out (Nat.le_trans S10.out S11.out)))))))).trans c_R_0
  replace c_R_1 := (b.cell (p := ⟨w3.heap.size, 1, none⟩) (Nat.lt_of_lt_of_le z_R (Nat.le_trans S5.out (Nat.le_trans S6.out (Nat.le_trans S7.out (Nat.le_trans S8.out (Nat.le_trans S9.out (Nat.le_trans S10.out S11.out)))))))).trans c_R_1
  replace c_R_2 := (b.cell (p := ⟨w3.heap.size, 2, none⟩) (Nat.lt_of_lt_of_le z_R (Nat.le_trans S5.out (Nat.le_trans S6.out (Nat.le_trans S7.out (Nat.le_trans S8.out (Nat.le_trans S9.out (Nat.le_trans S10.out S11.out)))))))).trans c_R_2
  replace o_g := o_g.keep b (Nat.le_trans S7.out (Nat.le_trans S8.out (Nat.le_trans S9.out (Nat.le_trans S10.out S11.out))))
  replace c_G_0 := (b.cell (p := ⟨w6.heap.size, 0, none⟩) (Nat.lt_of_lt_of_le z_G (Nat.le_trans S8.out (Nat.le_trans S9.out (Nat.le_trans S10.out S11.out))))).trans c_G_0
  replace c_G_1 := (b.cell (p := ⟨w6.heap.size, 1, none⟩) (Nat.lt_of_lt_of_le z_G (Nat.le_trans S8.out (Nat.le_trans S9.out (Nat.le_trans S10.out S11.out))))).trans c_G_1
  replace c_G_2 := (b.cell (p := ⟨w6.heap.size, 2, none⟩) (Nat.lt_of_lt_of_le z_G (Nat.le_trans S8.out (Nat.le_trans S9.out (Nat.le_trans S10.out S11.out))))).trans c_G_2
  replace bb := bb.trans (b.mono (Nat.le_trans S1.out (Nat.le_trans S2.out (Nat.le_trans S3.out (Nat.le_trans S4.out (Nat.le_trans S5.out (Nat.le_trans S6.out (Nat.le_trans S7.out (Nat.le_trans S8.out (Nat.le_trans S9.out (Nat.le_trans S10.out S11.out)))))))))))
  clear b
  have hn_h : n_h ≤ 1048576 := by rw [← o_h.len]; exact omC_len _ _ _
  obtain rfl : n_g = n_h := by rw [← o_r.len, ← o_h.len]
  have b := box_below w12 (.cells #[.int .i64 (omL l0 s0 a1), .int .i64 (omS l0 s0 a1), .slice a_h n_g c_h] 31)
  have d_p_0 := (b.cell (p := ⟨w0.heap.size, 0, none⟩) (Nat.lt_of_lt_of_le z_p (Nat.le_trans S2.out (Nat.le_trans S3.out (Nat.le_trans S4.out (Nat.le_trans S5.out (Nat.le_trans S6.out (Nat.le_trans S7.out (Nat.le_trans S8.out (Nat.le_trans S9.out (Nat.le_trans S10.out (Nat.le_trans S11.out S12.out)))))))))))).trans c_p_0
  have d_p_1 := (b.cell (p := ⟨w0.heap.size, 1, none⟩) (Nat.lt_of_lt_of_le z_p (Nat.le_trans S2.out (Nat.le_trans S3.out (Nat.le_trans S4.out (Nat.le_trans S5.out (Nat.le_trans S6.out (Nat.le_trans S7.out (Nat.le_trans S8.out (Nat.le_trans S9.out (Nat.le_trans S10.out (Nat.le_trans S11.out S12.out)))))))))))).trans c_p_1
  have d_R_0 := (b.cell (p := ⟨w3.heap.size, 0, none⟩) (Nat.lt_of_lt_of_le z_R (Nat.le_trans S5.out (Nat.le_trans S6.out (Nat.le_trans S7.out (Nat.le_trans S8.out (Nat.le_trans S9.out (Nat.le_trans S10.out (Nat.le_trans S11.out S12.out))))))))).trans c_R_0
  have d_R_1 := (b.cell (p := ⟨w3.heap.size, 1, none⟩) (Nat.lt_of_lt_of_le z_R (Nat.le_trans S5.out (Nat.le_trans S6.out (Nat.le_trans S7.out (Nat.le_trans S8.out (Nat.le_trans S9.out (Nat.le_trans S10.out (Nat.le_trans S11.out S12.out))))))))).trans c_R_1
  have d_R_2 := (b.cell (p := ⟨w3.heap.size, 2, none⟩) (Nat.lt_of_lt_of_le z_R (Nat.le_trans S5.out (Nat.le_trans S6.out (Nat.le_trans S7.out (Nat.le_trans S8.out (Nat.le_trans S9.out (Nat.le_trans S10.out (Nat.le_trans S11.out S12.out))))))))).trans c_R_2
  have d_G_0 := (b.cell (p := ⟨w6.heap.size, 0, none⟩) (Nat.lt_of_lt_of_le z_G (Nat.le_trans S8.out (Nat.le_trans S9.out (Nat.le_trans S10.out (Nat.le_trans S11.out S12.out)))))).trans c_G_0
  have d_G_1 := (b.cell (p := ⟨w6.heap.size, 1, none⟩) (Nat.lt_of_lt_of_le z_G (Nat.le_trans S8.out (Nat.le_trans S9.out (Nat.le_trans S10.out (Nat.le_trans S11.out S12.out)))))).trans c_G_1
  have d_G_2 := (b.cell (p := ⟨w6.heap.size, 2, none⟩) (Nat.lt_of_lt_of_le z_G (Nat.le_trans S8.out (Nat.le_trans S9.out (Nat.le_trans S10.out (Nat.le_trans S11.out S12.out)))))).trans c_G_2
  have c_H_0 : (w12.alloc (.cells #[.int .i64 (omL l0 s0 a1), .int .i64 (omS l0 s0 a1), .slice a_h n_g c_h] 31)).cell? ⟨w12.heap.size, 0, none⟩ = some (.int .i64 (omL l0 s0 a1)) := by simp [go_sem]
  have c_H_1 : (w12.alloc (.cells #[.int .i64 (omL l0 s0 a1), .int .i64 (omS l0 s0 a1), .slice a_h n_g c_h] 31)).cell? ⟨w12.heap.size, 1, none⟩ = some (.int .i64 (omS l0 s0 a1)) := by simp [go_sem]
  have c_H_2 : (w12.alloc (.cells #[.int .i64 (omL l0 s0 a1), .int .i64 (omS l0 s0 a1), .slice a_h n_g c_h] 31)).cell? ⟨w12.heap.size, 2, none⟩ = some (.slice a_h n_g c_h) := by simp [go_sem]
  go_wp2_with fail
  have z_H : w12.heap.size < (w12.alloc (.cells #[.int .i64 (omL l0 s0 a1), .int .i64 (omS l0 s0 a1), .slice a_h n_g c_h] 31)).heap.size := by simp
  generalize hgw : (w12.alloc (.cells #[.int .i64 (omL l0 s0 a1), .int .i64 (omS l0 s0 a1), .slice a_h n_g c_h] 31)) = w13 at c_H_0 c_H_1 c_H_2 d_p_0 d_p_1 d_R_0 d_R_1 d_R_2 d_G_0 d_G_1 d_G_2 z_H b ⊢
  clear hgw d_p_0 d_p_1 d_R_0 d_R_1 d_R_2 d_G_0 d_G_1 d_G_2
  have S13 := Lib.hid b.size
  replace c_p_0 := (b.cell (p := ⟨w0.heap.size, 0, none⟩) (Nat.lt_of_lt_of_le z_p (Nat.le_trans S2.out (Nat.le_trans S3.out (Nat.le_trans S4.out (Nat.le_trans S5.out (Nat.le_trans S6.out (Nat.le_trans S7.out (Nat.le_trans S8.out (Nat.le_trans S9.out (Nat.le_trans S10.out (Nat.le_trans S11.out S12.out)))))))))))).trans c_p_0
  replace c_p_1 := (b.cell (p := ⟨w0.heap.size, 1, none⟩) (Nat.lt_of_lt_of_le z_p (Nat.le_trans S2.out (Nat.le_trans S3.out (Nat.le_trans S4.out (Nat.le_trans S5.out (Nat.le_trans S6.out (Nat.le_trans S7.out (Nat.le_trans S8.out (Nat.le_trans S9.out (Nat.le_trans S10.out (Nat.le_trans S11.out S12.out)))))))))))).trans c_p_1
  replace o_r := o_r.keep b (Nat.le_trans S4.out (Nat.le_trans S5.out (Nat.le_trans S6.out (Nat.le_trans S7.out (Nat.le_trans S8.out (Nat.le_trans S9.out (Nat.le_trans S10.out (Nat.le_trans S11.out S12.out))))))))
  replace c_R_0 := (b.cell (p := ⟨w3.heap.size, 0, none⟩) (Nat.lt_of_lt_of_le z_R (Nat.le_trans S5.out (Nat.le_trans S6.out (Nat.le_trans S7.out (Nat.le_trans S8.out (Nat.le_trans S9.out (Nat.le_trans S10.out (Nat.le_trans S11.out S12.out))))))))).trans c_R_0
  replace c_R_1 := (b.cell (p := ⟨w3.heap.size, 1, none⟩) (Nat.lt_of_lt_of_le z_R (Nat.le_trans S5.out (Nat.le_trans S6.out (Nat.le_trans S7.out (Nat.le_trans S8.out (Nat.le_trans S9.out (Nat.le_trans S10.out (Nat.le_trans S11.out S12.out))))))))).trans c_R_1
  replace c_R_2 := (b.cell (p := ⟨w3.heap.size, 2, none⟩) (Nat.lt_of_lt_of_le z_R (Nat.le_trans S5.out (Nat.le_trans S6.out (Nat.le_trans S7.out (Nat.le_trans S8.out (Nat.le_trans S9.out (Nat.le_trans S10.out (Nat.le_trans S11.out S12.out))))))))).trans c_R_2
  replace o_g := o_g.keep b (Nat.le_trans S7.out (Nat.le_trans S8.out (Nat.le_trans S9.out (Nat.le_trans S10.out (Nat.le_trans S11.out S12.out)))))
  replace c_G_0 := (b.cell (p := ⟨w6.heap.size, 0, none⟩) (Nat.lt_of_lt_of_le z_G (Nat.le_trans S8.out (Nat.le_trans S9.out (Nat.le_trans S10.out (Nat.le_trans S11.out S12.out)))))).trans c_G_0
  replace c_G_1 := (b.cell (p := ⟨w6.heap.size, 1, none⟩) (Nat.lt_of_lt_of_le z_G (Nat.le_trans S8.out (Nat.le_trans S9.out (Nat.le_trans S10.out (Nat.le_trans S11.out S12.out)))))).trans c_G_1
  replace c_G_2 := (b.cell (p := ⟨w6.heap.size, 2, none⟩) (Nat.lt_of_lt_of_le z_G (Nat.le_trans S8.out (Nat.le_trans S9.out (Nat.le_trans S10.out (Nat.le_trans S11.out S12.out)))))).trans c_G_2
  replace o_h := o_h.keep b (Nat.le_refl _)
  replace bb := bb.trans (b.mono (Nat.le_trans S1.out (Nat.le_trans S2.out (Nat.le_trans S3.out (Nat.le_trans S4.out (Nat.le_trans S5.out (Nat.le_trans S6.out (Nat.le_trans S7.out (Nat.le_trans S8.out (Nat.le_trans S9.out (Nat.le_trans S10.out (Nat.le_trans S11.out S12.out))))))))))))
  clear b
  go_wp2_with fail
  refine (eqM_true _ _ _ _ _ _ _ (omC l0 s0 a1) _ ((o_h.sl hn_h).more (S13.out)) ((o_r.sl hn_r).more (Nat.le_trans S4.out (Nat.le_trans S5.out (Nat.le_trans S6.out (Nat.le_trans S7.out (Nat.le_trans S8.out (Nat.le_trans S9.out (Nat.le_trans S10.out (Nat.le_trans S11.out (Nat.le_trans S12.out S13.out))))))))))).mono ?_
  rintro e w14 ⟨rfl, b⟩
  have S14 := Lib.hid b.size
  replace c_p_0 := (b.cell (p := ⟨w0.heap.size, 0, none⟩) (Nat.lt_of_lt_of_le z_p (Nat.le_trans S2.out (Nat.le_trans S3.out (Nat.le_trans S4.out (Nat.le_trans S5.out (Nat.le_trans S6.out (Nat.le_trans S7.out (Nat.le_trans S8.out (Nat.le_trans S9.out (Nat.le_trans S10.out (Nat.le_trans S11.out (Nat.le_trans S12.out S13.out))))))))))))).trans c_p_0
  replace c_p_1 := (b.cell (p := ⟨w0.heap.size, 1, none⟩) (Nat.lt_of_lt_of_le z_p (Nat.le_trans S2.out (Nat.le_trans S3.out (Nat.le_trans S4.out (Nat.le_trans S5.out (Nat.le_trans S6.out (Nat.le_trans S7.out (Nat.le_trans S8.out (Nat.le_trans S9.out (Nat.le_trans S10.out (Nat.le_trans S11.out (Nat.le_trans S12.out S13.out))))))))))))).trans c_p_1
  replace o_r := o_r.keep b (Nat.le_trans S4.out (Nat.le_trans S5.out (Nat.le_trans S6.out (Nat.le_trans S7.out (Nat.le_trans S8.out (Nat.le_trans S9.out (Nat.le_trans S10.out (Nat.le_trans S11.out (Nat.le_trans S12.out S13.out)))))))))
  replace c_R_0 := (b.cell (p := ⟨w3.heap.size, 0, none⟩) (Nat.lt_of_lt_of_le z_R (Nat.le_trans S5.out (Nat.le_trans S6.out (Nat.le_trans S7.out (Nat.le_trans S8.out (Nat.le_trans S9.out (Nat.le_trans S10.out (Nat.le_trans S11.out (Nat.le_trans S12.out S13.out)))))))))).trans c_R_0
  replace c_R_1 := (b.cell (p := ⟨w3.heap.size, 1, none⟩) (Nat.lt_of_lt_of_le z_R (Nat.le_trans S5.out (Nat.le_trans S6.out (Nat.le_trans S7.out (Nat.le_trans S8.out (Nat.le_trans S9.out (Nat.le_trans S10.out (Nat.le_trans S11.out (Nat.le_trans S12.out S13.out)))))))))).trans c_R_1
  replace c_R_2 := (b.cell (p := ⟨w3.heap.size, 2, none⟩) (Nat.lt_of_lt_of_le z_R (Nat.le_trans S5.out (Nat.le_trans S6.out (Nat.le_trans S7.out (Nat.le_trans S8.out (Nat.le_trans S9.out (Nat.le_trans S10.out (Nat.le_trans S11.out (Nat.le_trans S12.out S13.out)))))))))).trans c_R_2
  replace o_g := o_g.keep b (Nat.le_trans S7.out (Nat.le_trans S8.out (Nat.le_trans S9.out (Nat.le_trans S10.out (Nat.le_trans S11.out (Nat.le_trans S12.out S13.out))))))
  replace c_G_0 := (b.cell (p := ⟨w6.heap.size, 0, none⟩) (Nat.lt_of_lt_of_le z_G (Nat.le_trans S8.out (Nat.le_trans S9.out (Nat.le_trans S10.out (Nat.le_trans S11.out (Nat.le_trans S12.out S13.out))))))).trans c_G_0
  replace c_G_1 := (b.cell (p := ⟨w6.heap.size, 1, none⟩) (Nat.lt_of_lt_of_le z_G (Nat.le_trans S8.out (Nat.le_trans S9.out (Nat.le_trans S10.out (Nat.le_trans S11.out (Nat.le_trans S12.out S13.out))))))).trans c_G_1
  replace c_G_2 := (b.cell (p := ⟨w6.heap.size, 2, none⟩) (Nat.lt_of_lt_of_le z_G (Nat.le_trans S8.out (Nat.le_trans S9.out (Nat.le_trans S10.out (Nat.le_trans S11.out (Nat.le_trans S12.out S13.out))))))).trans c_G_2
  replace o_h := o_h.keep b (S13.out)
  replace c_H_0 := (b.cell (p := ⟨w12.heap.size, 0, none⟩) (Nat.lt_of_lt_of_le z_H (Nat.le_refl _))).trans c_H_0
  replace c_H_1 := (b.cell (p := ⟨w12.heap.size, 1, none⟩) (Nat.lt_of_lt_of_le z_H (Nat.le_refl _))).trans c_H_1
  replace c_H_2 := (b.cell (p := ⟨w12.heap.size, 2, none⟩) (Nat.lt_of_lt_of_le z_H (Nat.le_refl _))).trans c_H_2
  replace bb := bb.trans (b.mono (Nat.le_trans S1.out (Nat.le_trans S2.out (Nat.le_trans S3.out (Nat.le_trans S4.out (Nat.le_trans S5.out (Nat.le_trans S6.out (Nat.le_trans S7.out (Nat.le_trans S8.out (Nat.le_trans S9.out (Nat.le_trans S10.out (Nat.le_trans S11.out (Nat.le_trans S12.out S13.out)))))))))))))
  clear b
  clear o_h
  clear o_r
  go_wp2_with fail
  refine (heldM_any _ _ _ _ _ 1 _ ((o_g.sl hn_g).more (Nat.le_trans S7.out (Nat.le_trans S8.out (Nat.le_trans S9.out (Nat.le_trans S10.out (Nat.le_trans S11.out (Nat.le_trans S12.out (Nat.le_trans S13.out S14.out)))))))) (by omega)).mono ?_
  rintro e w15 ⟨rfl, b⟩
  have S15 := Lib.hid b.size
  replace c_p_0 := (b.cell (p := ⟨w0.heap.size, 0, none⟩) (Nat.lt_of_lt_of_le z_p (Nat.le_trans S2.out (Nat.le_trans S3.out (Nat.le_trans S4.out (Nat.le_trans S5.out (Nat.le_trans S6.out (Nat.le_trans S7.out (Nat.le_trans S8.out (Nat.le_trans S9.out (Nat.le_trans S10.out (Nat.le_trans S11.out (Nat.le_trans S12.out (Nat.le_trans S13.out S14.out)))))))))))))).trans c_p_0
  replace c_p_1 := (b.cell (p := ⟨w0.heap.size, 1, none⟩) (Nat.lt_of_lt_of_le z_p (Nat.le_trans S2.out (Nat.le_trans S3.out (Nat.le_trans S4.out (Nat.le_trans S5.out (Nat.le_trans S6.out (Nat.le_trans S7.out (Nat.le_trans S8.out (Nat.le_trans S9.out (Nat.le_trans S10.out (Nat.le_trans S11.out (Nat.le_trans S12.out (Nat.le_trans S13.out S14.out)))))))))))))).trans c_p_1
  replace c_R_0 := (b.cell (p := ⟨w3.heap.size, 0, none⟩) (Nat.lt_of_lt_of_le z_R (Nat.le_trans S5.out (Nat.le_trans S6.out (Nat.le_trans S7.out (Nat.le_trans S8.out (Nat.le_trans S9.out (Nat.le_trans S10.out (Nat.le_trans S11.out (Nat.le_trans S12.out (Nat.le_trans S13.out S14.out))))))))))).trans c_R_0
  replace c_R_1 := (b.cell (p := ⟨w3.heap.size, 1, none⟩) (Nat.lt_of_lt_of_le z_R (Nat.le_trans S5.out (Nat.le_trans S6.out (Nat.le_trans S7.out (Nat.le_trans S8.out (Nat.le_trans S9.out (Nat.le_trans S10.out (Nat.le_trans S11.out (Nat.le_trans S12.out (Nat.le_trans S13.out S14.out))))))))))).trans c_R_1
  replace c_R_2 := (b.cell (p := ⟨w3.heap.size, 2, none⟩) (Nat.lt_of_lt_of_le z_R (Nat.le_trans S5.out (Nat.le_trans S6.out (Nat.le_trans S7.out (Nat.le_trans S8.out (Nat.le_trans S9.out (Nat.le_trans S10.out (Nat.le_trans S11.out (Nat.le_trans S12.out (Nat.le_trans S13.out S14.out))))))))))).trans c_R_2
  replace o_g := o_g.keep b (Nat.le_trans S7.out (Nat.le_trans S8.out (Nat.le_trans S9.out (Nat.le_trans S10.out (Nat.le_trans S11.out (Nat.le_trans S12.out (Nat.le_trans S13.out S14.out)))))))
  replace c_G_0 := (b.cell (p := ⟨w6.heap.size, 0, none⟩) (Nat.lt_of_lt_of_le z_G (Nat.le_trans S8.out (Nat.le_trans S9.out (Nat.le_trans S10.out (Nat.le_trans S11.out (Nat.le_trans S12.out (Nat.le_trans S13.out S14.out)))))))).trans c_G_0
  replace c_G_1 := (b.cell (p := ⟨w6.heap.size, 1, none⟩) (Nat.lt_of_lt_of_le z_G (Nat.le_trans S8.out (Nat.le_trans S9.out (Nat.le_trans S10.out (Nat.le_trans S11.out (Nat.le_trans S12.out (Nat.le_trans S13.out S14.out)))))))).trans c_G_1
  replace c_G_2 := (b.cell (p := ⟨w6.heap.size, 2, none⟩) (Nat.lt_of_lt_of_le z_G (Nat.le_trans S8.out (Nat.le_trans S9.out (Nat.le_trans S10.out (Nat.le_trans S11.out (Nat.le_trans S12.out (Nat.le_trans S13.out S14.out)))))))).trans c_G_2
  replace c_H_0 := (b.cell (p := ⟨w12.heap.size, 0, none⟩) (Nat.lt_of_lt_of_le z_H (S14.out))).trans c_H_0
  replace c_H_1 := (b.cell (p := ⟨w12.heap.size, 1, none⟩) (Nat.lt_of_lt_of_le z_H (S14.out))).trans c_H_1
  replace c_H_2 := (b.cell (p := ⟨w12.heap.size, 2, none⟩) (Nat.lt_of_lt_of_le z_H (S14.out))).trans c_H_2
  replace bb := bb.trans (b.mono (Nat.le_trans S1.out (Nat.le_trans S2.out (Nat.le_trans S3.out (Nat.le_trans S4.out (Nat.le_trans S5.out (Nat.le_trans S6.out (Nat.le_trans S7.out (Nat.le_trans S8.out (Nat.le_trans S9.out (Nat.le_trans S10.out (Nat.le_trans S11.out (Nat.le_trans S12.out (Nat.le_trans S13.out S14.out))))))))))))))
  clear b
  go_wp2_with fail
  go_ret
  exact ⟨rfl, bb⟩
end Go.Proofs.Ytfcojfccajofpaa
