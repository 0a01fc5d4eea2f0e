/- The walk of the law FnExactShapeOf: it returns true and leaves what was there as it was. -/
import Derived.Test.YtfcojfccajofpaaMod4
import Derived.Test.YtfcojfccajofpaaLawM
namespace Go.Proofs.Ytfcojfccajofpaa
open Go.RowKit
set_option linter.unusedVariables false
set_option maxRecDepth 100000 in
set_option maxHeartbeats 4000000 in
theorem fnExactShapeOf_core (l0 s0 : Int) (a0 : Option Addr) (n0 c0 : Nat) (x0 : List Int) (w0 : World) (h0 : Wf l0 ∧ Wf s0) (s_a0 : Sl w0 w0.heap.size a0 n0 c0 x0) :
    Calls Try.prog 7 #[.agg #[.int .i64 l0, .int .i64 s0, .slice a0 n0 c0]] w0 fun e w' => e = .returned (.bool true) ∧ Below w0.heap.size w0 w' := by
    have hn0 : n0 ≤ 1048576 := s_a0.2.2.1
    have bb := Below.refl w0.heap.size w0
    go_enter Try.func7, Try.ntmps7
    go_wp2_with fail
    have c_p0_0 : (w0.alloc (.cells #[.int .i64 l0, .int .i64 s0, .slice a0 n0 c0] 26)).cell? ⟨w0.heap.size, 0, none⟩ = some (.int .i64 l0) := by simp [go_sem]
    have c_p0_1 : (w0.alloc (.cells #[.int .i64 l0, .int .i64 s0, .slice a0 n0 c0] 26)).cell? ⟨w0.heap.size, 1, none⟩ = some (.int .i64 s0) := by simp [go_sem]
    have c_p0_2 : (w0.alloc (.cells #[.int .i64 l0, .int .i64 s0, .slice a0 n0 c0] 26)).cell? ⟨w0.heap.size, 2, none⟩ = some (.slice a0 n0 c0) := by simp [go_sem]
    have z_p0 : w0.heap.size < (w0.alloc (.cells #[.int .i64 l0, .int .i64 s0, .slice a0 n0 c0] 26)).heap.size := by simp
    have b := box_below w0 (.cells #[.int .i64 l0, .int .i64 s0, .slice a0 n0 c0] 26)
    generalize hgw : (w0.alloc (.cells #[.int .i64 l0, .int .i64 s0, .slice a0 n0 c0] 26)) = w1 at c_p0_0 c_p0_1 c_p0_2 z_p0 b ⊢
    clear hgw
    have S1 := Lib.hid b.size
    replace s_a0 := s_a0.keep (b.mono (Nat.le_refl _))
    replace bb := bb.trans (b.mono (Nat.le_refl _))
    clear b
    go_wp2_with fail
    refine (szM_any _ _ _ _ _ _ (by omega)).mono ?_
    rintro e w2 ⟨rfl, b⟩
    have S2 := Lib.hid b.size
    replace s_a0 := s_a0.keep (b.mono (S1.out))
    replace c_p0_0 := (b.cell (p := ⟨w0.heap.size, 0, none⟩) (Nat.lt_of_lt_of_le z_p0 (Nat.le_refl _))).trans c_p0_0
    replace c_p0_1 := (b.cell (p := ⟨w0.heap.size, 1, none⟩) (Nat.lt_of_lt_of_le z_p0 (Nat.le_refl _))).trans c_p0_1
    replace c_p0_2 := (b.cell (p := ⟨w0.heap.size, 2, none⟩) (Nat.lt_of_lt_of_le z_p0 (Nat.le_refl _))).trans c_p0_2
    replace bb := bb.trans (b.mono (S1.out))
    clear b
    go_wp2_with fail
    refine (toM_any _ _ _ _ _ x0 _ (s_a0.more (Nat.le_trans S1.out S2.out))).mono ?_
    rintro e w3 ⟨a_t0, c_t0, rfl, o_t0, b⟩
    have S3 := Lib.hid b.size
    replace s_a0 := s_a0.keep (b.mono (Nat.le_trans S1.out S2.out))
    replace c_p0_0 := (b.cell (p := ⟨w0.heap.size, 0, none⟩) (Nat.lt_of_lt_of_le z_p0 (S2.out))).trans c_p0_0
    replace c_p0_1 := (b.cell (p := ⟨w0.heap.size, 1, none⟩) (Nat.lt_of_lt_of_le z_p0 (S2.out))).trans c_p0_1
    replace c_p0_2 := (b.cell (p := ⟨w0.heap.size, 2, none⟩) (Nat.lt_of_lt_of_le z_p0 (S2.out))).trans c_p0_2
    replace bb := bb.trans (b.mono (Nat.le_trans S1.out S2.out))
    clear b
    have hn_t0 : n0 ≤ 1048576 := hn0
    go_wp2_with fail
    refine (shape_s _ _ _ _ _ x0 _ ((o_t0.sl hn_t0).more (Nat.le_refl _))).mono ?_
    rintro e w4 ⟨a_r, n_r, c_r, rfl, o_r, b⟩
    have S4 := Lib.hid b.size
    replace s_a0 := s_a0.keep (b.mono (Nat.le_trans S1.out (Nat.le_trans S2.out S3.out)))
    replace c_p0_0 := (b.cell (p := ⟨w0.heap.size, 0, none⟩) (Nat.lt_of_lt_of_le z_p0 (Nat.le_trans S2.out S3.out))).trans c_p0_0
    replace c_p0_1 := (b.cell (p := ⟨w0.heap.size, 1, none⟩) (Nat.lt_of_lt_of_le z_p0 (Nat.le_trans S2.out S3.out))).trans c_p0_1
    replace c_p0_2 := (b.cell (p := ⟨w0.heap.size, 2, none⟩) (Nat.lt_of_lt_of_le z_p0 (Nat.le_trans S2.out S3.out))).trans c_p0_2
    replace o_t0 := o_t0.keep b (Nat.le_refl _)
    replace bb := bb.trans (b.mono (Nat.le_trans S1.out (Nat.le_trans S2.out S3.out)))
    clear b
    have hn_r : n_r ≤ 1048576 := by rw [← o_r.len]; exact shapeV_len _ _ _
    clear o_t0
    go_wp2_with fail
    refine (toM_any _ _ _ _ _ x0 _ (s_a0.more (Nat.le_trans S1.out (Nat.le_trans S2.out (Nat.le_trans S3.out S4.out))))).mono ?_
    rintro e w5 ⟨a_y0, c_y0, rfl, o_y0, b⟩
    have S5 := Lib.hid b.size
    replace s_a0 := s_a0.keep (b.mono (Nat.le_trans S1.out (Nat.le_trans S2.out (Nat.le_trans S3.out S4.out))))
    replace c_p0_0 := (b.cell (p := ⟨w0.heap.size, 0, none⟩) (Nat.lt_of_lt_of_le z_p0 (Nat.le_trans S2.out (Nat.le_trans S3.out S4.out)))).trans c_p0_0
    replace c_p0_1 := (b.cell (p := ⟨w0.heap.size, 1, none⟩) (Nat.lt_of_lt_of_le z_p0 (Nat.le_trans S2.out (Nat.le_trans S3.out S4.out)))).trans c_p0_1
    replace c_p0_2 := (b.cell (p := ⟨w0.heap.size, 2, none⟩) (Nat.lt_of_lt_of_le z_p0 (Nat.le_trans S2.out (Nat.le_trans S3.out S4.out)))).trans c_p0_2
    replace o_r := o_r.keep b (Nat.le_refl _)
    replace bb := bb.trans (b.mono (Nat.le_trans S1.out (Nat.le_trans S2.out (Nat.le_trans S3.out S4.out))))
    clear b
    have hn_y0 : n0 ≤ 1048576 := hn0
    go_wp2_with fail
    have c_b0_0 : (w5.alloc (.cells #[.int .i64 l0, .int .i64 s0, .slice a_y0 n0 c_y0] 31)).cell? ⟨w5.heap.size, 0, none⟩ = some (.int .i64 l0) := by simp [go_sem]
    have c_b0_1 : (w5.alloc (.cells #[.int .i64 l0, .int .i64 s0, .slice a_y0 n0 c_y0] 31)).cell? ⟨w5.heap.size, 1, none⟩ = some (.int .i64 s0) := by simp [go_sem]
    have c_b0_2 : (w5.alloc (.cells #[.int .i64 l0, .int .i64 s0, .slice a_y0 n0 c_y0] 31)).cell? ⟨w5.heap.size, 2, none⟩ = some (.slice a_y0 n0 c_y0) := by simp [go_sem]
    have z_b0 : w5.heap.size < (w5.alloc (.cells #[.int .i64 l0, .int .i64 s0, .slice a_y0 n0 c_y0] 31)).heap.size := by simp
    have b := box_below w5 (.cells #[.int .i64 l0, .int .i64 s0, .slice a_y0 n0 c_y0] 31)
    generalize hgw : (w5.alloc (.cells #[.int .i64 l0, .int .i64 s0, .slice a_y0 n0 c_y0] 31)) = w6 at c_b0_0 c_b0_1 c_b0_2 z_b0 b ⊢
    clear hgw
    have S6 := Lib.hid b.size
    replace s_a0 := s_a0.keep (b.mono (Nat.le_trans S1.out (Nat.le_trans S2.out (Nat.le_trans S3.out (Nat.le_trans S4.out S5.out)))))
    replace c_p0_0 := (b.cell (p := ⟨w0.heap.size, 0, none⟩) (Nat.lt_of_lt_of_le z_p0 (Nat.le_trans S2.out (Nat.le_trans S3.out (Nat.le_trans S4.out S5.out))))).trans c_p0_0
    replace c_p0_1 := (b.cell (p := ⟨w0.heap.size, 1, none⟩) (Nat.lt_of_lt_of_le z_p0 (Nat.le_trans S2.out (Nat.le_trans S3.out (Nat.le_trans S4.out S5.out))))).trans c_p0_1
    replace c_p0_2 := (b.cell (p := ⟨w0.heap.size, 2, none⟩) (Nat.lt_of_lt_of_le z_p0 (Nat.le_trans S2.out (Nat.le_trans S3.out (Nat.le_trans S4.out S5.out))))).trans c_p0_2
    replace o_r := o_r.keep b (S5.out)
    replace o_y0 := o_y0.keep b (Nat.le_refl _)
    replace bb := bb.trans (b.mono (Nat.le_trans S1.out (Nat.le_trans S2.out (Nat.le_trans S3.out (Nat.le_trans S4.out S5.out)))))
    clear b
    go_wp2_with fail
    refine (shape_i _ _ _ _ _ x0 _ ((o_y0.sl hn_y0).more (S6.out))).mono ?_
    rintro e w7 ⟨a_g, n_g, c_g, rfl, o_g, b⟩
    have S7 := Lib.hid b.size
    replace s_a0 := s_a0.keep (b.mono (Nat.le_trans S1.out (Nat.le_trans S2.out (Nat.le_trans S3.out (Nat.le_trans S4.out (Nat.le_trans S5.out S6.out))))))
    replace c_p0_0 := (b.cell (p := ⟨w0.heap.size, 0, none⟩) (Nat.lt_of_lt_of_le z_p0 (Nat.le_trans S2.out (Nat.le_trans S3.out (Nat.le_trans S4.out (Nat.le_trans S5.out S6.out)))))).trans c_p0_0
    replace c_p0_1 := (b.cell (p := ⟨w0.heap.size, 1, none⟩) (Nat.lt_of_lt_of_le z_p0 (Nat.le_trans S2.out (Nat.le_trans S3.out (Nat.le_trans S4.out (Nat.le_trans S5.out S6.out)))))).trans c_p0_1
    replace c_p0_2 := (b.cell (p := ⟨w0.heap.size, 2, none⟩) (Nat.lt_of_lt_of_le z_p0 (Nat.le_trans S2.out (Nat.le_trans S3.out (Nat.le_trans S4.out (Nat.le_trans S5.out S6.out)))))).trans c_p0_2
    replace o_r := o_r.keep b (Nat.le_trans S5.out S6.out)
    replace o_y0 := o_y0.keep b (S6.out)
    replace c_b0_0 := (b.cell (p := ⟨w5.heap.size, 0, none⟩) (Nat.lt_of_lt_of_le z_b0 (Nat.le_refl _))).trans c_b0_0
    replace c_b0_1 := (b.cell (p := ⟨w5.heap.size, 1, none⟩) (Nat.lt_of_lt_of_le z_b0 (Nat.le_refl _))).trans c_b0_1
    replace c_b0_2 := (b.cell (p := ⟨w5.heap.size, 2, none⟩) (Nat.lt_of_lt_of_le z_b0 (Nat.le_refl _))).trans c_b0_2
    replace bb := bb.trans (b.mono (Nat.le_trans S1.out (Nat.le_trans S2.out (Nat.le_trans S3.out (Nat.le_trans S4.out (Nat.le_trans S5.out S6.out))))))
    clear b
    have hn_g : n_g ≤ 1048576 := by rw [← o_g.len]; exact shapeV_len _ _ _
    obtain rfl : n_g = n_r := by rw [← o_g.len, ← o_r.len]
    go_wp2_with fail
    refine (eqIntS_true _ _ _ _ _ _ _ ((o_g.sl hn_g).more (Nat.le_refl _)) ((o_r.sl hn_r).more (Nat.le_trans S5.out (Nat.le_trans S6.out S7.out)))).mono ?_
    rintro e w8 ⟨rfl, b⟩
    have S8 := Lib.hid b.size
    replace s_a0 := s_a0.keep (b.mono (Nat.le_trans S1.out (Nat.le_trans S2.out (Nat.le_trans S3.out (Nat.le_trans S4.out (Nat.le_trans S5.out (Nat.le_trans S6.out S7.out)))))))
    replace c_p0_0 := (b.cell (p := ⟨w0.heap.size, 0, none⟩) (Nat.lt_of_lt_of_le z_p0 (Nat.le_trans S2.out (Nat.le_trans S3.out (Nat.le_trans S4.out (Nat.le_trans S5.out (Nat.le_trans S6.out S7.out))))))).trans c_p0_0
    replace c_p0_1 := (b.cell (p := ⟨w0.heap.size, 1, none⟩) (Nat.lt_of_lt_of_le z_p0 (Nat.le_trans S2.out (Nat.le_trans S3.out (Nat.le_trans S4.out (Nat.le_trans S5.out (Nat.le_trans S6.out S7.out))))))).trans c_p0_1
    replace c_p0_2 := (b.cell (p := ⟨w0.heap.size, 2, none⟩) (Nat.lt_of_lt_of_le z_p0 (Nat.le_trans S2.out (Nat.le_trans S3.out (Nat.le_trans S4.out (Nat.le_trans S5.out (Nat.le_trans S6.out S7.out))))))).trans c_p0_2
    replace o_r := o_r.keep b (Nat.le_trans S5.out (Nat.le_trans S6.out S7.out))
    replace o_y0 := o_y0.keep b (Nat.le_trans S6.out S7.out)
    replace c_b0_0 := (b.cell (p := ⟨w5.heap.size, 0, none⟩) (Nat.lt_of_lt_of_le z_b0 (S7.out))).trans c_b0_0
    replace c_b0_1 := (b.cell (p := ⟨w5.heap.size, 1, none⟩) (Nat.lt_of_lt_of_le z_b0 (S7.out))).trans c_b0_1
    replace c_b0_2 := (b.cell (p := ⟨w5.heap.size, 2, none⟩) (Nat.lt_of_lt_of_le z_b0 (S7.out))).trans c_b0_2
    replace o_g := o_g.keep b (Nat.le_refl _)
    replace bb := bb.trans (b.mono (Nat.le_trans S1.out (Nat.le_trans S2.out (Nat.le_trans S3.out (Nat.le_trans S4.out (Nat.le_trans S5.out (Nat.le_trans S6.out S7.out)))))))
    clear b
    go_wp2_with fail
    have S9 : Hid (w8.heap.size ≤ w8.drew.heap.size) := Nat.le_refl _
    replace s_a0 := s_a0.drew
    replace c_p0_0 : w8.drew.cell? ⟨w0.heap.size, 0, none⟩ = some (.int .i64 l0) := c_p0_0
    replace c_p0_1 : w8.drew.cell? ⟨w0.heap.size, 1, none⟩ = some (.int .i64 s0) := c_p0_1
    replace c_p0_2 : w8.drew.cell? ⟨w0.heap.size, 2, none⟩ = some (.slice a0 n0 c0) := c_p0_2
    replace o_r := o_r.drew
    replace o_y0 := o_y0.drew
    replace c_b0_0 : w8.drew.cell? ⟨w5.heap.size, 0, none⟩ = some (.int .i64 l0) := c_b0_0
    replace c_b0_1 : w8.drew.cell? ⟨w5.heap.size, 1, none⟩ = some (.int .i64 s0) := c_b0_1
    replace c_b0_2 : w8.drew.cell? ⟨w5.heap.size, 2, none⟩ = some (.slice a_y0 n0 c_y0) := c_b0_2
    replace o_g := o_g.drew
    replace bb := bb.drew
    go_region_held3 (fun w' => w'.cell? ⟨w5.heap.size, 0, none⟩ = some (.int .i64 l0) ∧ w'.cell? ⟨w5.heap.size, 1, none⟩ = some (.int .i64 s0) ∧ w'.cell? ⟨w5.heap.size, 2, none⟩ = some (.slice a_y0 n0 c_y0) ∧ w'.cell? ⟨w0.heap.size, 0, none⟩ = some (.int .i64 l0) ∧ w'.cell? ⟨w0.heap.size, 1, none⟩ = some (.int .i64 s0) ∧ w'.cell? ⟨w0.heap.size, 2, none⟩ = some (.slice a0 n0 c0)) (go_keep) (first | (go_at_call 15; refine (toM_any _ _ _ _ _ x0 _ (s_a0.more (Nat.le_trans S1.out (Nat.le_trans S2.out (Nat.le_trans S3.out (Nat.le_trans S4.out (Nat.le_trans S5.out (Nat.le_trans S6.out (Nat.le_trans S7.out (Nat.le_trans S8.out S9.out)))))))))).mono ?_; rintro e w10 ⟨a_u0, c_u0, rfl, o_u0, b⟩; have S10 := Lib.hid b.size; replace s_a0 := s_a0.keep (b.mono (Nat.le_trans S1.out (Nat.le_trans S2.out (Nat.le_trans S3.out (Nat.le_trans S4.out (Nat.le_trans S5.out (Nat.le_trans S6.out (Nat.le_trans S7.out (Nat.le_trans S8.out S9.out))))))))); replace c_p0_0 := (b.cell (p := ⟨w0.heap.size, 0, none⟩) (Nat.lt_of_lt_of_le z_p0 (Nat.le_trans S2.out (Nat.le_trans S3.out (Nat.le_trans S4.out (Nat.le_trans S5.out (Nat.le_trans S6.out (Nat.le_trans S7.out (Nat.le_trans S8.out S9.out))))))))).trans c_p0_0; replace c_p0_1 := (b.cell (p := ⟨w0.heap.size, 1, none⟩) (Nat.lt_of_lt_of_le z_p0 (Nat.le_trans S2.out (Nat.le_trans S3.out (Nat.le_trans S4.out (Nat.le_trans S5.out (Nat.le_trans S6.out (Nat.le_trans S7.out (Nat.le_trans S8.out S9.out))))))))).trans c_p0_1; replace c_p0_2 := (b.cell (p := ⟨w0.heap.size, 2, none⟩) (Nat.lt_of_lt_of_le z_p0 (Nat.le_trans S2.out (Nat.le_trans S3.out (Nat.le_trans S4.out (Nat.le_trans S5.out (Nat.le_trans S6.out (Nat.le_trans S7.out (Nat.le_trans S8.out S9.out))))))))).trans c_p0_2; replace o_r := o_r.keep b (Nat.le_trans S5.out (Nat.le_trans S6.out (Nat.le_trans S7.out (Nat.le_trans S8.out S9.out)))); replace o_y0 := o_y0.keep b (Nat.le_trans S6.out (Nat.le_trans S7.out (Nat.le_trans S8.out S9.out))); replace c_b0_0 := (b.cell (p := ⟨w5.heap.size, 0, none⟩) (Nat.lt_of_lt_of_le z_b0 (Nat.le_trans S7.out (Nat.le_trans S8.out S9.out)))).trans c_b0_0; replace c_b0_1 := (b.cell (p := ⟨w5.heap.size, 1, none⟩) (Nat.lt_of_lt_of_le z_b0 (Nat.le_trans S7.out (Nat.le_trans S8.out S9.out)))).trans c_b0_1; replace c_b0_2 := (b.cell (p := ⟨w5.heap.size, 2, none⟩) (Nat.lt_of_lt_of_le z_b0 (Nat.le_trans S7.out (Nat.le_trans S8.out S9.out)))).trans c_b0_2; replace o_g := o_g.keep b (Nat.le_trans S8.out S9.out); replace bb := bb.trans (b.mono (Nat.le_trans S1.out (Nat.le_trans S2.out (Nat.le_trans S3.out (Nat.le_trans S4.out (Nat.le_trans S5.out (Nat.le_trans S6.out (Nat.le_trans S7.out (Nat.le_trans S8.out S9.out))))))))); clear b; have hn_u0 : n0 ≤ 1048576 := hn0) | (go_at_call 17; refine (eqM_true _ _ _ _ _ _ _ x0 _ ((o_y0.sl hn_y0).more (Nat.le_trans S6.out (Nat.le_trans S7.out (Nat.le_trans S8.out (Nat.le_trans S9.out S10.out))))) ((o_u0.sl hn_u0).more (Nat.le_refl _))).mono ?_; rintro e w11 ⟨rfl, b⟩; have S11 := Lib.hid b.size; replace s_a0 := s_a0.keep (b.mono (Nat.le_trans S1.out (Nat.le_trans S2.out (Nat.le_trans S3.out (Nat.le_trans S4.out (Nat.le_trans S5.out (Nat.le_trans S6.out (Nat.le_trans S7.out (Nat.le_trans S8.out (Nat.le_trans S9.out S10.out)))))))))); replace c_p0_0 := (b.cell (p := ⟨w0.heap.size, 0, none⟩) (Nat.lt_of_lt_of_le z_p0 (Nat.le_trans S2.out (Nat.le_trans S3.out (Nat.le_trans S4.out (Nat.le_trans S5.out (Nat.le_trans S6.out (Nat.le_trans S7.out (Nat.le_trans S8.out (Nat.le_trans S9.out S10.out)))))))))).trans c_p0_0; replace c_p0_1 := (b.cell (p := ⟨w0.heap.size, 1, none⟩) (Nat.lt_of_lt_of_le z_p0 (Nat.le_trans S2.out (Nat.le_trans S3.out (Nat.le_trans S4.out (Nat.le_trans S5.out (Nat.le_trans S6.out (Nat.le_trans S7.out (Nat.le_trans S8.out (Nat.le_trans S9.out S10.out)))))))))).trans c_p0_1; replace c_p0_2 := (b.cell (p := ⟨w0.heap.size, 2, none⟩) (Nat.lt_of_lt_of_le z_p0 (Nat.le_trans S2.out (Nat.le_trans S3.out (Nat.le_trans S4.out (Nat.le_trans S5.out (Nat.le_trans S6.out (Nat.le_trans S7.out (Nat.le_trans S8.out (Nat.le_trans S9.out S10.out)))))))))).trans c_p0_2; replace o_r := o_r.keep b (Nat.le_trans S5.out (Nat.le_trans S6.out (Nat.le_trans S7.out (Nat.le_trans S8.out (Nat.le_trans S9.out S10.out))))); replace o_y0 := o_y0.keep b (Nat.le_trans S6.out (Nat.le_trans S7.out (Nat.le_trans S8.out (Nat.le_trans S9.out S10.out)))); replace c_b0_0 := (b.cell (p := ⟨w5.heap.size, 0, none⟩) (Nat.lt_of_lt_of_le z_b0 (Nat.le_trans S7.out (Nat.le_trans S8.out (Nat.le_trans S9.out S10.out))))).trans c_b0_0; replace c_b0_1 := (b.cell (p := ⟨w5.heap.size, 1, none⟩) (Nat.lt_of_lt_of_le z_b0 (Nat.le_trans S7.out (Nat.le_trans S8.out (Nat.le_trans S9.out S10.out))))).trans c_b0_1; replace c_b0_2 := (b.cell (p := ⟨w5.heap.size, 2, none⟩) (Nat.lt_of_lt_of_le z_b0 (Nat.le_trans S7.out (Nat.le_trans S8.out (Nat.le_trans S9.out S10.out))))).trans c_b0_2; replace o_g := o_g.keep b (Nat.le_trans S8.out (Nat.le_trans S9.out S10.out)); replace o_u0 := o_u0.keep b (Nat.le_refl _); replace bb := bb.trans (b.mono (Nat.le_trans S1.out (Nat.le_trans S2.out (Nat.le_trans S3.out (Nat.le_trans S4.out (Nat.le_trans S5.out (Nat.le_trans S6.out (Nat.le_trans S7.out (Nat.le_trans S8.out (Nat.le_trans S9.out S10.out)))))))))); clear b))
    clear o_u0
    go_wp2_with fail
    refine (markM_any _ _ _ _ _ _ _ _ (1) _ o_y0 hn_y0 (by omega) (Nat.le_trans S5.out (Nat.le_trans S6.out (Nat.le_trans S7.out (Nat.le_trans S8.out (Nat.le_trans S9.out (Nat.le_trans S10.out S11.out))))))).mono ?_
    clear o_y0
    rintro e w12 ⟨rfl, o_y0, m⟩
    have S12 := Lib.hid m.low.size
    replace s_a0 := m.sl s_a0 (Nat.le_trans S1.out (Nat.le_trans S2.out (Nat.le_trans S3.out S4.out)))
    replace c_p0_0 := (m.cellAt ⟨w0.heap.size, 0, none⟩ (.inl (Nat.lt_of_lt_of_le z_p0 (Nat.le_trans S2.out (Nat.le_trans S3.out S4.out))))).trans c_p0_0
    replace c_p0_1 := (m.cellAt ⟨w0.heap.size, 1, none⟩ (.inl (Nat.lt_of_lt_of_le z_p0 (Nat.le_trans S2.out (Nat.le_trans S3.out S4.out))))).trans c_p0_1
    replace c_p0_2 := (m.cellAt ⟨w0.heap.size, 2, none⟩ (.inl (Nat.lt_of_lt_of_le z_p0 (Nat.le_trans S2.out (Nat.le_trans S3.out S4.out))))).trans c_p0_2
    replace o_r := m.ownLow o_r (Nat.le_refl _)
    replace c_b0_0 := (m.cellAt ⟨w5.heap.size, 0, none⟩ (.inr ⟨(Nat.le_refl _), Nat.lt_of_lt_of_le z_b0 (Nat.le_trans S7.out (Nat.le_trans S8.out (Nat.le_trans S9.out (Nat.le_trans S10.out S11.out))))⟩)).trans c_b0_0
    replace c_b0_1 := (m.cellAt ⟨w5.heap.size, 1, none⟩ (.inr ⟨(Nat.le_refl _), Nat.lt_of_lt_of_le z_b0 (Nat.le_trans S7.out (Nat.le_trans S8.out (Nat.le_trans S9.out (Nat.le_trans S10.out S11.out))))⟩)).trans c_b0_1
    replace c_b0_2 := (m.cellAt ⟨w5.heap.size, 2, none⟩ (.inr ⟨(Nat.le_refl _), Nat.lt_of_lt_of_le z_b0 (Nat.le_trans S7.out (Nat.le_trans S8.out (Nat.le_trans S9.out (Nat.le_trans S10.out S11.out))))⟩)).trans c_b0_2
    replace o_g := m.ownHigh o_g (S6.out)
    replace bb := bb.trans (m.low.mono (Nat.le_trans S1.out (Nat.le_trans S2.out (Nat.le_trans S3.out S4.out))))
    clear m
    go_wp2_with fail
    refine (eqIntS_true _ _ _ _ _ _ _ ((o_g.sl hn_g).more (Nat.le_trans S8.out (Nat.le_trans S9.out (Nat.le_trans S10.out (Nat.le_trans S11.out S12.out))))) ((o_r.sl hn_r).more (Nat.le_trans S5.out (Nat.le_trans S6.out (Nat.le_trans S7.out (Nat.le_trans S8.out (Nat.le_trans S9.out (Nat.le_trans S10.out (Nat.le_trans S11.out S12.out))))))))).mono ?_
    rintro e w13 ⟨rfl, b⟩
    have S13 := Lib.hid b.size
    replace s_a0 := s_a0.keep (b.mono (Nat.le_trans S1.out (Nat.le_trans S2.out (Nat.le_trans S3.out (Nat.le_trans S4.out (Nat.le_trans S5.out (Nat.le_trans S6.out (Nat.le_trans S7.out (Nat.le_trans S8.out (Nat.le_trans S9.out (Nat.le_trans S10.out (Nat.le_trans S11.out S12.out))))))))))))
    replace c_p0_0 := (b.cell (p := ⟨w0.heap.size, 0, none⟩) (Nat.lt_of_lt_of_le z_p0 (Nat.le_trans S2.out (Nat.le_trans S3.out (Nat.le_trans S4.out (Nat.le_trans S5.out (Nat.le_trans S6.out (Nat.le_trans S7.out (Nat.le_trans S8.out (Nat.le_trans S9.out (Nat.le_trans S10.out (Nat.le_trans S11.out S12.out)))))))))))).trans c_p0_0
    replace c_p0_1 := (b.cell (p := ⟨w0.heap.size, 1, none⟩) (Nat.lt_of_lt_of_le z_p0 (Nat.le_trans S2.out (Nat.le_trans S3.out (Nat.le_trans S4.out (Nat.le_trans S5.out (Nat.le_trans S6.out (Nat.le_trans S7.out (Nat.le_trans S8.out (Nat.le_trans S9.out (Nat.le_trans S10.out (Nat.le_trans S11.out S12.out)))))))))))).trans c_p0_1
    replace c_p0_2 := (b.cell (p := ⟨w0.heap.size, 2, none⟩) (Nat.lt_of_lt_of_le z_p0 (Nat.le_trans S2.out (Nat.le_trans S3.out (Nat.le_trans S4.out (Nat.le_trans S5.out (Nat.le_trans S6.out (Nat.le_trans S7.out (Nat.le_trans S8.out (Nat.le_trans S9.out (Nat.le_trans S10.out (Nat.le_trans S11.out S12.out)))))))))))).trans c_p0_2
    replace o_r := o_r.keep b (Nat.le_trans S5.out (Nat.le_trans S6.out (Nat.le_trans S7.out (Nat.le_trans S8.out (Nat.le_trans S9.out (Nat.le_trans S10.out (Nat.le_trans S11.out S12.out)))))))
    replace o_y0 := o_y0.keep b (Nat.le_trans S6.out (Nat.le_trans S7.out (Nat.le_trans S8.out (Nat.le_trans S9.out (Nat.le_trans S10.out (Nat.le_trans S11.out S12.out))))))
    replace c_b0_0 := (b.cell (p := ⟨w5.heap.size, 0, none⟩) (Nat.lt_of_lt_of_le z_b0 (Nat.le_trans S7.out (Nat.le_trans S8.out (Nat.le_trans S9.out (Nat.le_trans S10.out (Nat.le_trans S11.out S12.out))))))).trans c_b0_0
    replace c_b0_1 := (b.cell (p := ⟨w5.heap.size, 1, none⟩) (Nat.lt_of_lt_of_le z_b0 (Nat.le_trans S7.out (Nat.le_trans S8.out (Nat.le_trans S9.out (Nat.le_trans S10.out (Nat.le_trans S11.out S12.out))))))).trans c_b0_1
    replace c_b0_2 := (b.cell (p := ⟨w5.heap.size, 2, none⟩) (Nat.lt_of_lt_of_le z_b0 (Nat.le_trans S7.out (Nat.le_trans S8.out (Nat.le_trans S9.out (Nat.le_trans S10.out (Nat.le_trans S11.out S12.out))))))).trans c_b0_2
    replace o_g := o_g.keep b (Nat.le_trans S8.out (Nat.le_trans S9.out (Nat.le_trans S10.out (Nat.le_trans S11.out S12.out))))
    replace bb := bb.trans (b.mono (Nat.le_trans S1.out (Nat.le_trans S2.out (Nat.le_trans S3.out (Nat.le_trans S4.out (Nat.le_trans S5.out (Nat.le_trans S6.out (Nat.le_trans S7.out (Nat.le_trans S8.out (Nat.le_trans S9.out (Nat.le_trans S10.out (Nat.le_trans S11.out S12.out))))))))))))
    clear b
    clear o_y0
    clear c_b0_0 c_b0_1 c_b0_2
    go_wp2_with fail
    refine (mark_any _ _ _ _ _ _ (1) _ o_g hn_g (by omega)).mono ?_
    clear o_g
    rintro e w14 ⟨rfl, o_g, m⟩
    have S14 := Lib.hid m.low.size
    replace s_a0 := m.sl s_a0 (Nat.le_trans S1.out (Nat.le_trans S2.out (Nat.le_trans S3.out (Nat.le_trans S4.out (Nat.le_trans S5.out S6.out)))))
    replace c_p0_0 := (m.cellAt ⟨w0.heap.size, 0, none⟩ (.inl (Nat.lt_of_lt_of_le z_p0 (Nat.le_trans S2.out (Nat.le_trans S3.out (Nat.le_trans S4.out (Nat.le_trans S5.out S6.out))))))).trans c_p0_0
    replace c_p0_1 := (m.cellAt ⟨w0.heap.size, 1, none⟩ (.inl (Nat.lt_of_lt_of_le z_p0 (Nat.le_trans S2.out (Nat.le_trans S3.out (Nat.le_trans S4.out (Nat.le_trans S5.out S6.out))))))).trans c_p0_1
    replace c_p0_2 := (m.cellAt ⟨w0.heap.size, 2, none⟩ (.inl (Nat.lt_of_lt_of_le z_p0 (Nat.le_trans S2.out (Nat.le_trans S3.out (Nat.le_trans S4.out (Nat.le_trans S5.out S6.out))))))).trans c_p0_2
    replace o_r := m.ownLow o_r (Nat.le_trans S5.out S6.out)
    replace bb := bb.trans (m.low.mono (Nat.le_trans S1.out (Nat.le_trans S2.out (Nat.le_trans S3.out (Nat.le_trans S4.out (Nat.le_trans S5.out S6.out))))))
    clear m
    go_wp2_with fail
    refine (held_any _ _ _ (1) _ ((o_g.sl hn_g).more (Nat.le_trans S8.out (Nat.le_trans S9.out (Nat.le_trans S10.out (Nat.le_trans S11.out (Nat.le_trans S12.out (Nat.le_trans S13.out S14.out))))))) (by omega)).mono ?_
    rintro e w' ⟨rfl, rfl⟩
    go_wp2_with fail
    refine (toM_any _ _ _ _ _ x0 _ (s_a0.more (Nat.le_trans S1.out (Nat.le_trans S2.out (Nat.le_trans S3.out (Nat.le_trans S4.out (Nat.le_trans S5.out (Nat.le_trans S6.out (Nat.le_trans S7.out (Nat.le_trans S8.out (Nat.le_trans S9.out (Nat.le_trans S10.out (Nat.le_trans S11.out (Nat.le_trans S12.out (Nat.le_trans S13.out S14.out))))))))))))))).mono ?_
    rintro e w15 ⟨a_v0, c_v0, rfl, o_v0, b⟩
    have S15 := Lib.hid b.size
    replace s_a0 := s_a0.keep (b.mono (Nat.le_trans S1.out (Nat.le_trans S2.out (Nat.le_trans S3.out (Nat.le_trans S4.out (Nat.le_trans S5.out (Nat.le_trans S6.out (Nat.le_trans S7.out (Nat.le_trans S8.out (Nat.le_trans S9.out (Nat.le_trans S10.out (Nat.le_trans S11.out (Nat.le_trans S12.out (Nat.le_trans S13.out S14.out))))))))))))))
    replace c_p0_0 := (b.cell (p := ⟨w0.heap.size, 0, none⟩) (Nat.lt_of_lt_of_le z_p0 (Nat.le_trans S2.out (Nat.le_trans S3.out (Nat.le_trans S4.out (Nat.le_trans S5.out (Nat.le_trans S6.out (Nat.le_trans S7.out (Nat.le_trans S8.out (Nat.le_trans S9.out (Nat.le_trans S10.out (Nat.le_trans S11.out (Nat.le_trans S12.out (Nat.le_trans S13.out S14.out)))))))))))))).trans c_p0_0
    replace c_p0_1 := (b.cell (p := ⟨w0.heap.size, 1, none⟩) (Nat.lt_of_lt_of_le z_p0 (Nat.le_trans S2.out (Nat.le_trans S3.out (Nat.le_trans S4.out (Nat.le_trans S5.out (Nat.le_trans S6.out (Nat.le_trans S7.out (Nat.le_trans S8.out (Nat.le_trans S9.out (Nat.le_trans S10.out (Nat.le_trans S11.out (Nat.le_trans S12.out (Nat.le_trans S13.out S14.out)))))))))))))).trans c_p0_1
    replace c_p0_2 := (b.cell (p := ⟨w0.heap.size, 2, none⟩) (Nat.lt_of_lt_of_le z_p0 (Nat.le_trans S2.out (Nat.le_trans S3.out (Nat.le_trans S4.out (Nat.le_trans S5.out (Nat.le_trans S6.out (Nat.le_trans S7.out (Nat.le_trans S8.out (Nat.le_trans S9.out (Nat.le_trans S10.out (Nat.le_trans S11.out (Nat.le_trans S12.out (Nat.le_trans S13.out S14.out)))))))))))))).trans c_p0_2
    replace o_r := o_r.keep b (Nat.le_trans S5.out (Nat.le_trans S6.out (Nat.le_trans S7.out (Nat.le_trans S8.out (Nat.le_trans S9.out (Nat.le_trans S10.out (Nat.le_trans S11.out (Nat.le_trans S12.out (Nat.le_trans S13.out S14.out)))))))))
    replace o_g := o_g.keep b (Nat.le_trans S8.out (Nat.le_trans S9.out (Nat.le_trans S10.out (Nat.le_trans S11.out (Nat.le_trans S12.out (Nat.le_trans S13.out S14.out))))))
    replace bb := bb.trans (b.mono (Nat.le_trans S1.out (Nat.le_trans S2.out (Nat.le_trans S3.out (Nat.le_trans S4.out (Nat.le_trans S5.out (Nat.le_trans S6.out (Nat.le_trans S7.out (Nat.le_trans S8.out (Nat.le_trans S9.out (Nat.le_trans S10.out (Nat.le_trans S11.out (Nat.le_trans S12.out (Nat.le_trans S13.out S14.out))))))))))))))
    clear b
    have hn_v0 : n0 ≤ 1048576 := hn0
    go_wp2_with fail
    refine (shape_i _ _ _ _ _ x0 _ ((o_v0.sl hn_v0).more (Nat.le_refl _))).mono ?_
    rintro e w16 ⟨a_h, n_h, c_h, rfl, o_h, b⟩
    have S16 := Lib.hid b.size
    replace s_a0 := s_a0.keep (b.mono (Nat.le_trans S1.out (Nat.le_trans S2.out (Nat.le_trans S3.out (Nat.le_trans S4.out (Nat.le_trans S5.out (Nat.le_trans S6.out (Nat.le_trans S7.out (Nat.le_trans S8.out (Nat.le_trans S9.out (Nat.le_trans S10.out (Nat.le_trans S11.out (Nat.le_trans S12.out (Nat.le_trans S13.out (Nat.le_trans S14.out S15.out)))))))))))))))
    replace c_p0_0 := (b.cell (p := ⟨w0.heap.size, 0, none⟩) (Nat.lt_of_lt_of_le z_p0 (Nat.le_trans S2.out (Nat.le_trans S3.out (Nat.le_trans S4.out (Nat.le_trans S5.out (Nat.le_trans S6.out (Nat.le_trans S7.out (Nat.le_trans S8.out (Nat.le_trans S9.out (Nat.le_trans S10.out (Nat.le_trans S11.out (Nat.le_trans S12.out (Nat.le_trans S13.out (Nat.le_trans S14.out S15.out))))))))))))))).trans c_p0_0
    replace c_p0_1 := (b.cell (p := ⟨w0.heap.size, 1, none⟩) (Nat.lt_of_lt_of_le z_p0 (Nat.le_trans S2.out (Nat.le_trans S3.out (Nat.le_trans S4.out (Nat.le_trans S5.out (Nat.le_trans S6.out (Nat.le_trans S7.out (Nat.le_trans S8.out (Nat.le_trans S9.out (Nat.le_trans S10.out (Nat.le_trans S11.out (Nat.le_trans S12.out (Nat.le_trans S13.out (Nat.le_trans S14.out S15.out))))))))))))))).trans c_p0_1
    replace c_p0_2 := (b.cell (p := ⟨w0.heap.size, 2, none⟩) (Nat.lt_of_lt_of_le z_p0 (Nat.le_trans S2.out (Nat.le_trans S3.out (Nat.le_trans S4.out (Nat.le_trans S5.out (Nat.le_trans S6.out (Nat.le_trans S7.out (Nat.le_trans S8.out (Nat.le_trans S9.out (Nat.le_trans S10.out (Nat.le_trans S11.out (Nat.le_trans S12.out (Nat.le_trans S13.out (Nat.le_trans S14.out S15.out))))))))))))))).trans c_p0_2
    replace o_r := o_r.keep b (Nat.le_trans S5.out (Nat.le_trans S6.out (Nat.le_trans S7.out (Nat.le_trans S8.out (Nat.le_trans S9.out (Nat.le_trans S10.out (Nat.le_trans S11.out (Nat.le_trans S12.out (Nat.le_trans S13.out (Nat.le_trans S14.out S15.out))))))))))
    replace o_g := o_g.keep b (Nat.le_trans S8.out (Nat.le_trans S9.out (Nat.le_trans S10.out (Nat.le_trans S11.out (Nat.le_trans S12.out (Nat.le_trans S13.out (Nat.le_trans S14.out S15.out)))))))
    replace o_v0 := o_v0.keep b (Nat.le_refl _)
    replace bb := bb.trans (b.mono (Nat.le_trans S1.out (Nat.le_trans S2.out (Nat.le_trans S3.out (Nat.le_trans S4.out (Nat.le_trans S5.out (Nat.le_trans S6.out (Nat.le_trans S7.out (Nat.le_trans S8.out (Nat.le_trans S9.out (Nat.le_trans S10.out (Nat.le_trans S11.out (Nat.le_trans S12.out (Nat.le_trans S13.out (Nat.le_trans S14.out S15.out)))))))))))))))
    clear b
    have hn_h : n_h ≤ 1048576 := by rw [← o_h.len]; exact shapeV_len _ _ _
    clear o_v0
    clear s_a0
    obtain rfl : n_g = n_h := by rw [← o_r.len, ← o_h.len]
    go_wp2_with fail
    refine (eqIntS_true _ _ _ _ _ _ _ ((o_h.sl hn_h).more (Nat.le_refl _)) ((o_r.sl hn_r).more (Nat.le_trans S5.out (Nat.le_trans S6.out (Nat.le_trans S7.out (Nat.le_trans S8.out (Nat.le_trans S9.out (Nat.le_trans S10.out (Nat.le_trans S11.out (Nat.le_trans S12.out (Nat.le_trans S13.out (Nat.le_trans S14.out (Nat.le_trans S15.out S16.out))))))))))))).mono ?_
    rintro e w17 ⟨rfl, b⟩
    have S17 := Lib.hid b.size
    replace c_p0_0 := (b.cell (p := ⟨w0.heap.size, 0, none⟩) (Nat.lt_of_lt_of_le z_p0 (Nat.le_trans S2.out (Nat.le_trans S3.out (Nat.le_trans S4.out (Nat.le_trans S5.out (Nat.le_trans S6.out (Nat.le_trans S7.out (Nat.le_trans S8.out (Nat.le_trans S9.out (Nat.le_trans S10.out (Nat.le_trans S11.out (Nat.le_trans S12.out (Nat.le_trans S13.out (Nat.le_trans S14.out (Nat.le_trans S15.out S16.out)))))))))))))))).trans c_p0_0
    replace c_p0_1 := (b.cell (p := ⟨w0.heap.size, 1, none⟩) (Nat.lt_of_lt_of_le z_p0 (Nat.le_trans S2.out (Nat.le_trans S3.out (Nat.le_trans S4.out (Nat.le_trans S5.out (Nat.le_trans S6.out (Nat.le_trans S7.out (Nat.le_trans S8.out (Nat.le_trans S9.out (Nat.le_trans S10.out (Nat.le_trans S11.out (Nat.le_trans S12.out (Nat.le_trans S13.out (Nat.le_trans S14.out (Nat.le_trans S15.out S16.out)))))))))))))))).trans c_p0_1
    replace c_p0_2 := (b.cell (p := ⟨w0.heap.size, 2, none⟩) (Nat.lt_of_lt_of_le z_p0 (Nat.le_trans S2.out (Nat.le_trans S3.out (Nat.le_trans S4.out (Nat.le_trans S5.out (Nat.le_trans S6.out (Nat.le_trans S7.out (Nat.le_trans S8.out (Nat.le_trans S9.out (Nat.le_trans S10.out (Nat.le_trans S11.out (Nat.le_trans S12.out (Nat.le_trans S13.out (Nat.le_trans S14.out (Nat.le_trans S15.out S16.out)))))))))))))))).trans c_p0_2
    replace o_r := o_r.keep b (Nat.le_trans S5.out (Nat.le_trans S6.out (Nat.le_trans S7.out (Nat.le_trans S8.out (Nat.le_trans S9.out (Nat.le_trans S10.out (Nat.le_trans S11.out (Nat.le_trans S12.out (Nat.le_trans S13.out (Nat.le_trans S14.out (Nat.le_trans S15.out S16.out)))))))))))
    replace o_g := o_g.keep b (Nat.le_trans S8.out (Nat.le_trans S9.out (Nat.le_trans S10.out (Nat.le_trans S11.out (Nat.le_trans S12.out (Nat.le_trans S13.out (Nat.le_trans S14.out (Nat.le_trans S15.out S16.out))))))))
    replace o_h := o_h.keep b (Nat.le_refl _)
    replace bb := bb.trans (b.mono (Nat.le_trans S1.out (Nat.le_trans S2.out (Nat.le_trans S3.out (Nat.le_trans S4.out (Nat.le_trans S5.out (Nat.le_trans S6.out (Nat.le_trans S7.out (Nat.le_trans S8.out (Nat.le_trans S9.out (Nat.le_trans S10.out (Nat.le_trans S11.out (Nat.le_trans S12.out (Nat.le_trans S13.out (Nat.le_trans S14.out (Nat.le_trans S15.out S16.out))))))))))))))))
    clear b
    clear o_h
    clear o_r
    go_wp2_with fail
    refine (held_any _ _ _ (1) _ ((o_g.sl hn_g).more (Nat.le_trans S8.out (Nat.le_trans S9.out (Nat.le_trans S10.out (Nat.le_trans S11.out (Nat.le_trans S12.out (Nat.le_trans S13.out (Nat.le_trans S14.out (Nat.le_trans S15.out (Nat.le_trans S16.out S17.out)))))))))) (by omega)).mono ?_
    rintro e w' ⟨rfl, rfl⟩
    go_wp2_with fail
    go_ret
    exact ⟨rfl, bb⟩

set_option maxHeartbeats 400000 in
theorem fnExactShapeOf_walk (l0 s0 : Int) (a0 : Option Addr) (n0 c0 : Nat) (x0 : List Int) (w : World) (h0 : (Wf l0 ∧ Wf s0) ∧ IsRow .i64 w a0 n0 c0 x0) :
    Calls Try.prog 7 #[.agg #[.int .i64 l0, .int .i64 s0, .slice a0 n0 c0]] w fun e w' => e = .returned (.bool true) ∧ Below w.heap.size w w' := by
  have hle0 := h0.2.le
  by_cases hn0 : n0 ≤ 1048576
  rotate_left
  · go_enter Try.func7, Try.ntmps7
    go_wp2_with fail
    refine (szM_over _ _ _ _ _ _ (by omega)).mono ?_
    rintro e w1 ⟨rfl, b⟩
    go_wp2_with fail
    go_ret
    exact ⟨rfl, box_then b⟩
  exact fnExactShapeOf_core _ _ _ _ _ _ w h0.1 (h0.2.sl hn0)
end Go.Proofs.Ytfcojfccajofpaa
