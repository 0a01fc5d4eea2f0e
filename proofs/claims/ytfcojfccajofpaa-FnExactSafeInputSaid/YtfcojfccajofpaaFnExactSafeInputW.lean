/- The walk of the law FnExactSafeInput: it returns true and leaves what was there as it was. -/
import Derived.Test.YtfcojfccajofpaaMod4
import Derived.Test.YtfcojfccajofpaaLawM
namespace Go.Proofs.Ytfcojfccajofpaa
open Go.RowKit
set_option linter.unusedVariables false
set_option maxRecDepth 100000 in
set_option maxHeartbeats 4000000 in
theorem fnExactSafeInput_core (l0 s0 : Int) (a0 : Option Addr) (n0 c0 : Nat) (x0 : List Int) (w0 : World) (h0 : Wf l0 ∧ Wf s0) (s_a0 : Sl w0 w0.heap.size a0 n0 c0 x0) :
    Calls Try.prog 5 #[.agg #[.int .i64 l0, .int .i64 s0, .slice a0 n0 c0]] w0 fun e w' => e = .returned (.bool true) ∧ Below w0.heap.size w0 w' := by
    have hn0 : n0 ≤ 1048576 := s_a0.2.2.1
    have bb := Below.refl w0.heap.size w0
    go_enter Try.func5, Try.ntmps5
    go_wp2_with fail
    have c_p0_0 : (w0.alloc (.cells #[.int .i64 l0, .int .i64 s0, .slice a0 n0 c0] 26)).cell? ⟨w0.heap.size, 0, none⟩ = some (.int .i64 l0) := by simp [go_sem]
    have c_p0_1 : (w0.alloc (.cells #[.int .i64 l0, .int .i64 s0, .slice a0 n0 c0] 26)).cell? ⟨w0.heap.size, 1, none⟩ = some (.int .i64 s0) := by simp [go_sem]
    have c_p0_2 : (w0.alloc (.cells #[.int .i64 l0, .int .i64 s0, .slice a0 n0 c0] 26)).cell? ⟨w0.heap.size, 2, none⟩ = some (.slice a0 n0 c0) := by simp [go_sem]
    have z_p0 : w0.heap.size < (w0.alloc (.cells #[.int .i64 l0, .int .i64 s0, .slice a0 n0 c0] 26)).heap.size := by simp
    have b := box_below w0 (.cells #[.int .i64 l0, .int .i64 s0, .slice a0 n0 c0] 26)
    generalize hgw : (w0.alloc (.cells #[.int .i64 l0, .int .i64 s0, .slice a0 n0 c0] 26)) = w1 at c_p0_0 c_p0_1 c_p0_2 z_p0 b ⊢
    clear hgw
    have S1 := Lib.hid b.size
    replace s_a0 := s_a0.keep (b.mono (Nat.le_refl _))
    replace bb := bb.trans (b.mono (Nat.le_refl _))
    clear b
    go_wp2_with fail
    refine (szM_any _ _ _ _ _ _ (by omega)).mono ?_
    rintro e w2 ⟨rfl, b⟩
    have S2 := Lib.hid b.size
    replace s_a0 := s_a0.keep (b.mono (S1.out))
    replace c_p0_0 := (b.cell (p := ⟨w0.heap.size, 0, none⟩) (Nat.lt_of_lt_of_le z_p0 (Nat.le_refl _))).trans c_p0_0
    replace c_p0_1 := (b.cell (p := ⟨w0.heap.size, 1, none⟩) (Nat.lt_of_lt_of_le z_p0 (Nat.le_refl _))).trans c_p0_1
    replace c_p0_2 := (b.cell (p := ⟨w0.heap.size, 2, none⟩) (Nat.lt_of_lt_of_le z_p0 (Nat.le_refl _))).trans c_p0_2
    replace bb := bb.trans (b.mono (S1.out))
    clear b
    go_wp2_with fail
    refine (toM_any _ _ _ _ _ x0 _ (s_a0.more (Nat.le_trans S1.out S2.out))).mono ?_
    rintro e w3 ⟨a_t0, c_t0, rfl, o_t0, b⟩
    have S3 := Lib.hid b.size
    replace s_a0 := s_a0.keep (b.mono (Nat.le_trans S1.out S2.out))
    replace c_p0_0 := (b.cell (p := ⟨w0.heap.size, 0, none⟩) (Nat.lt_of_lt_of_le z_p0 (S2.out))).trans c_p0_0
    replace c_p0_1 := (b.cell (p := ⟨w0.heap.size, 1, none⟩) (Nat.lt_of_lt_of_le z_p0 (S2.out))).trans c_p0_1
    replace c_p0_2 := (b.cell (p := ⟨w0.heap.size, 2, none⟩) (Nat.lt_of_lt_of_le z_p0 (S2.out))).trans c_p0_2
    replace bb := bb.trans (b.mono (Nat.le_trans S1.out S2.out))
    clear b
    have hn_t0 : n0 ≤ 1048576 := hn0
    go_wp2_with fail
    refine (safe_s _ _ _ _ _ x0 _ ((o_t0.sl hn_t0).more (Nat.le_refl _))).mono ?_
    rintro e w4 ⟨rfl, b⟩
    have S4 := Lib.hid b.size
    replace s_a0 := s_a0.keep (b.mono (Nat.le_trans S1.out (Nat.le_trans S2.out S3.out)))
    replace c_p0_0 := (b.cell (p := ⟨w0.heap.size, 0, none⟩) (Nat.lt_of_lt_of_le z_p0 (Nat.le_trans S2.out S3.out))).trans c_p0_0
    replace c_p0_1 := (b.cell (p := ⟨w0.heap.size, 1, none⟩) (Nat.lt_of_lt_of_le z_p0 (Nat.le_trans S2.out S3.out))).trans c_p0_1
    replace c_p0_2 := (b.cell (p := ⟨w0.heap.size, 2, none⟩) (Nat.lt_of_lt_of_le z_p0 (Nat.le_trans S2.out S3.out))).trans c_p0_2
    replace o_t0 := o_t0.keep b (Nat.le_refl _)
    replace bb := bb.trans (b.mono (Nat.le_trans S1.out (Nat.le_trans S2.out S3.out)))
    clear b
    clear o_t0
    go_wp2_with fail
    refine (toM_any _ _ _ _ _ x0 _ (s_a0.more (Nat.le_trans S1.out (Nat.le_trans S2.out (Nat.le_trans S3.out S4.out))))).mono ?_
    rintro e w5 ⟨a_y0, c_y0, rfl, o_y0, b⟩
    have S5 := Lib.hid b.size
    replace s_a0 := s_a0.keep (b.mono (Nat.le_trans S1.out (Nat.le_trans S2.out (Nat.le_trans S3.out S4.out))))
    replace c_p0_0 := (b.cell (p := ⟨w0.heap.size, 0, none⟩) (Nat.lt_of_lt_of_le z_p0 (Nat.le_trans S2.out (Nat.le_trans S3.out S4.out)))).trans c_p0_0
    replace c_p0_1 := (b.cell (p := ⟨w0.heap.size, 1, none⟩) (Nat.lt_of_lt_of_le z_p0 (Nat.le_trans S2.out (Nat.le_trans S3.out S4.out)))).trans c_p0_1
    replace c_p0_2 := (b.cell (p := ⟨w0.heap.size, 2, none⟩) (Nat.lt_of_lt_of_le z_p0 (Nat.le_trans S2.out (Nat.le_trans S3.out S4.out)))).trans c_p0_2
    replace bb := bb.trans (b.mono (Nat.le_trans S1.out (Nat.le_trans S2.out (Nat.le_trans S3.out S4.out))))
    clear b
    have hn_y0 : n0 ≤ 1048576 := hn0
    go_wp2_with fail
    have c_b0_0 : (w5.alloc (.cells #[.int .i64 l0, .int .i64 s0, .slice a_y0 n0 c_y0] 31)).cell? ⟨w5.heap.size, 0, none⟩ = some (.int .i64 l0) := by simp [go_sem]
    have c_b0_1 : (w5.alloc (.cells #[.int .i64 l0, .int .i64 s0, .slice a_y0 n0 c_y0] 31)).cell? ⟨w5.heap.size, 1, none⟩ = some (.int .i64 s0) := by simp [go_sem]
    have c_b0_2 : (w5.alloc (.cells #[.int .i64 l0, .int .i64 s0, .slice a_y0 n0 c_y0] 31)).cell? ⟨w5.heap.size, 2, none⟩ = some (.slice a_y0 n0 c_y0) := by simp [go_sem]
    have z_b0 : w5.heap.size < (w5.alloc (.cells #[.int .i64 l0, .int .i64 s0, .slice a_y0 n0 c_y0] 31)).heap.size := by simp
    have b := box_below w5 (.cells #[.int .i64 l0, .int .i64 s0, .slice a_y0 n0 c_y0] 31)
    generalize hgw : (w5.alloc (.cells #[.int .i64 l0, .int .i64 s0, .slice a_y0 n0 c_y0] 31)) = w6 at c_b0_0 c_b0_1 c_b0_2 z_b0 b ⊢
    clear hgw
    have S6 := Lib.hid b.size
    replace s_a0 := s_a0.keep (b.mono (Nat.le_trans S1.out (Nat.le_trans S2.out (Nat.le_trans S3.out (Nat.le_trans S4.out S5.out)))))
    replace c_p0_0 := (b.cell (p := ⟨w0.heap.size, 0, none⟩) (Nat.lt_of_lt_of_le z_p0 (Nat.le_trans S2.out (Nat.le_trans S3.out (Nat.le_trans S4.out S5.out))))).trans c_p0_0
    replace c_p0_1 := (b.cell (p := ⟨w0.heap.size, 1, none⟩) (Nat.lt_of_lt_of_le z_p0 (Nat.le_trans S2.out (Nat.le_trans S3.out (Nat.le_trans S4.out S5.out))))).trans c_p0_1
    replace c_p0_2 := (b.cell (p := ⟨w0.heap.size, 2, none⟩) (Nat.lt_of_lt_of_le z_p0 (Nat.le_trans S2.out (Nat.le_trans S3.out (Nat.le_trans S4.out S5.out))))).trans c_p0_2
    replace o_y0 := o_y0.keep b (Nat.le_refl _)
    replace bb := bb.trans (b.mono (Nat.le_trans S1.out (Nat.le_trans S2.out (Nat.le_trans S3.out (Nat.le_trans S4.out S5.out)))))
    clear b
    go_wp2_with fail
    refine (safe_i _ _ _ _ _ x0 _ ((o_y0.sl hn_y0).more (S6.out))).mono ?_
    rintro e w7 ⟨rfl, b⟩
    have S7 := Lib.hid b.size
    replace s_a0 := s_a0.keep (b.mono (Nat.le_trans S1.out (Nat.le_trans S2.out (Nat.le_trans S3.out (Nat.le_trans S4.out (Nat.le_trans S5.out S6.out))))))
    replace c_p0_0 := (b.cell (p := ⟨w0.heap.size, 0, none⟩) (Nat.lt_of_lt_of_le z_p0 (Nat.le_trans S2.out (Nat.le_trans S3.out (Nat.le_trans S4.out (Nat.le_trans S5.out S6.out)))))).trans c_p0_0
    replace c_p0_1 := (b.cell (p := ⟨w0.heap.size, 1, none⟩) (Nat.lt_of_lt_of_le z_p0 (Nat.le_trans S2.out (Nat.le_trans S3.out (Nat.le_trans S4.out (Nat.le_trans S5.out S6.out)))))).trans c_p0_1
    replace c_p0_2 := (b.cell (p := ⟨w0.heap.size, 2, none⟩) (Nat.lt_of_lt_of_le z_p0 (Nat.le_trans S2.out (Nat.le_trans S3.out (Nat.le_trans S4.out (Nat.le_trans S5.out S6.out)))))).trans c_p0_2
    replace o_y0 := o_y0.keep b (S6.out)
    replace c_b0_0 := (b.cell (p := ⟨w5.heap.size, 0, none⟩) (Nat.lt_of_lt_of_le z_b0 (Nat.le_refl _))).trans c_b0_0
    replace c_b0_1 := (b.cell (p := ⟨w5.heap.size, 1, none⟩) (Nat.lt_of_lt_of_le z_b0 (Nat.le_refl _))).trans c_b0_1
    replace c_b0_2 := (b.cell (p := ⟨w5.heap.size, 2, none⟩) (Nat.lt_of_lt_of_le z_b0 (Nat.le_refl _))).trans c_b0_2
    replace bb := bb.trans (b.mono (Nat.le_trans S1.out (Nat.le_trans S2.out (Nat.le_trans S3.out (Nat.le_trans S4.out (Nat.le_trans S5.out S6.out))))))
    clear b
    go_wp2_with fail
    have S8 : Hid (w7.heap.size ≤ w7.drew.heap.size) := Nat.le_refl _
    replace s_a0 := s_a0.drew
    replace c_p0_0 : w7.drew.cell? ⟨w0.heap.size, 0, none⟩ = some (.int .i64 l0) := c_p0_0
    replace c_p0_1 : w7.drew.cell? ⟨w0.heap.size, 1, none⟩ = some (.int .i64 s0) := c_p0_1
    replace c_p0_2 : w7.drew.cell? ⟨w0.heap.size, 2, none⟩ = some (.slice a0 n0 c0) := c_p0_2
    replace o_y0 := o_y0.drew
    replace c_b0_0 : w7.drew.cell? ⟨w5.heap.size, 0, none⟩ = some (.int .i64 l0) := c_b0_0
    replace c_b0_1 : w7.drew.cell? ⟨w5.heap.size, 1, none⟩ = some (.int .i64 s0) := c_b0_1
    replace c_b0_2 : w7.drew.cell? ⟨w5.heap.size, 2, none⟩ = some (.slice a_y0 n0 c_y0) := c_b0_2
    replace bb := bb.drew
    go_region_held3 (fun w' => w'.cell? ⟨w5.heap.size, 0, none⟩ = some (.int .i64 l0) ∧ w'.cell? ⟨w5.heap.size, 1, none⟩ = some (.int .i64 s0) ∧ w'.cell? ⟨w5.heap.size, 2, none⟩ = some (.slice a_y0 n0 c_y0) ∧ w'.cell? ⟨w0.heap.size, 0, none⟩ = some (.int .i64 l0) ∧ w'.cell? ⟨w0.heap.size, 1, none⟩ = some (.int .i64 s0) ∧ w'.cell? ⟨w0.heap.size, 2, none⟩ = some (.slice a0 n0 c0)) (go_keep) (first | (go_at_call 15; refine (toM_any _ _ _ _ _ x0 _ (s_a0.more (Nat.le_trans S1.out (Nat.le_trans S2.out (Nat.le_trans S3.out (Nat.le_trans S4.out (Nat.le_trans S5.out (Nat.le_trans S6.out (Nat.le_trans S7.out S8.out))))))))).mono ?_; rintro e w9 ⟨a_u0, c_u0, rfl, o_u0, b⟩; have S9 := Lib.hid b.size; replace s_a0 := s_a0.keep (b.mono (Nat.le_trans S1.out (Nat.le_trans S2.out (Nat.le_trans S3.out (Nat.le_trans S4.out (Nat.le_trans S5.out (Nat.le_trans S6.out (Nat.le_trans S7.out S8.out)))))))); replace c_p0_0 := (b.cell (p := ⟨w0.heap.size, 0, none⟩) (Nat.lt_of_lt_of_le z_p0 (Nat.le_trans S2.out (Nat.le_trans S3.out (Nat.le_trans S4.out (Nat.le_trans S5.out (Nat.le_trans S6.out (Nat.le_trans S7.out S8.out)))))))).trans c_p0_0; replace c_p0_1 := (b.cell (p := ⟨w0.heap.size, 1, none⟩) (Nat.lt_of_lt_of_le z_p0 (Nat.le_trans S2.out (Nat.le_trans S3.out (Nat.le_trans S4.out (Nat.le_trans S5.out (Nat.le_trans S6.out (Nat.le_trans S7.out S8.out)))))))).trans c_p0_1; replace c_p0_2 := (b.cell (p := ⟨w0.heap.size, 2, none⟩) (Nat.lt_of_lt_of_le z_p0 (Nat.le_trans S2.out (Nat.le_trans S3.out (Nat.le_trans S4.out (Nat.le_trans S5.out (Nat.le_trans S6.out (Nat.le_trans S7.out S8.out)))))))).trans c_p0_2; replace o_y0 := o_y0.keep b (Nat.le_trans S6.out (Nat.le_trans S7.out S8.out)); replace c_b0_0 := (b.cell (p := ⟨w5.heap.size, 0, none⟩) (Nat.lt_of_lt_of_le z_b0 (Nat.le_trans S7.out S8.out))).trans c_b0_0; replace c_b0_1 := (b.cell (p := ⟨w5.heap.size, 1, none⟩) (Nat.lt_of_lt_of_le z_b0 (Nat.le_trans S7.out S8.out))).trans c_b0_1; replace c_b0_2 := (b.cell (p := ⟨w5.heap.size, 2, none⟩) (Nat.lt_of_lt_of_le z_b0 (Nat.le_trans S7.out S8.out))).trans c_b0_2; replace bb := bb.trans (b.mono (Nat.le_trans S1.out (Nat.le_trans S2.out (Nat.le_trans S3.out (Nat.le_trans S4.out (Nat.le_trans S5.out (Nat.le_trans S6.out (Nat.le_trans S7.out S8.out)))))))); clear b; have hn_u0 : n0 ≤ 1048576 := hn0) | (go_at_call 17; refine (eqM_true _ _ _ _ _ _ _ x0 _ ((o_y0.sl hn_y0).more (Nat.le_trans S6.out (Nat.le_trans S7.out (Nat.le_trans S8.out S9.out)))) ((o_u0.sl hn_u0).more (Nat.le_refl _))).mono ?_; rintro e w10 ⟨rfl, b⟩; have S10 := Lib.hid b.size; replace s_a0 := s_a0.keep (b.mono (Nat.le_trans S1.out (Nat.le_trans S2.out (Nat.le_trans S3.out (Nat.le_trans S4.out (Nat.le_trans S5.out (Nat.le_trans S6.out (Nat.le_trans S7.out (Nat.le_trans S8.out S9.out))))))))); replace c_p0_0 := (b.cell (p := ⟨w0.heap.size, 0, none⟩) (Nat.lt_of_lt_of_le z_p0 (Nat.le_trans S2.out (Nat.le_trans S3.out (Nat.le_trans S4.out (Nat.le_trans S5.out (Nat.le_trans S6.out (Nat.le_trans S7.out (Nat.le_trans S8.out S9.out))))))))).trans c_p0_0; replace c_p0_1 := (b.cell (p := ⟨w0.heap.size, 1, none⟩) (Nat.lt_of_lt_of_le z_p0 (Nat.le_trans S2.out (Nat.le_trans S3.out (Nat.le_trans S4.out (Nat.le_trans S5.out (Nat.le_trans S6.out (Nat.le_trans S7.out (Nat.le_trans S8.out S9.out))))))))).trans c_p0_1; replace c_p0_2 := (b.cell (p := ⟨w0.heap.size, 2, none⟩) (Nat.lt_of_lt_of_le z_p0 (Nat.le_trans S2.out (Nat.le_trans S3.out (Nat.le_trans S4.out (Nat.le_trans S5.out (Nat.le_trans S6.out (Nat.le_trans S7.out (Nat.le_trans S8.out S9.out))))))))).trans c_p0_2; replace o_y0 := o_y0.keep b (Nat.le_trans S6.out (Nat.le_trans S7.out (Nat.le_trans S8.out S9.out))); replace c_b0_0 := (b.cell (p := ⟨w5.heap.size, 0, none⟩) (Nat.lt_of_lt_of_le z_b0 (Nat.le_trans S7.out (Nat.le_trans S8.out S9.out)))).trans c_b0_0; replace c_b0_1 := (b.cell (p := ⟨w5.heap.size, 1, none⟩) (Nat.lt_of_lt_of_le z_b0 (Nat.le_trans S7.out (Nat.le_trans S8.out S9.out)))).trans c_b0_1; replace c_b0_2 := (b.cell (p := ⟨w5.heap.size, 2, none⟩) (Nat.lt_of_lt_of_le z_b0 (Nat.le_trans S7.out (Nat.le_trans S8.out S9.out)))).trans c_b0_2; replace o_u0 := o_u0.keep b (Nat.le_refl _); replace bb := bb.trans (b.mono (Nat.le_trans S1.out (Nat.le_trans S2.out (Nat.le_trans S3.out (Nat.le_trans S4.out (Nat.le_trans S5.out (Nat.le_trans S6.out (Nat.le_trans S7.out (Nat.le_trans S8.out S9.out))))))))); clear b))
    clear o_u0
    go_wp2_with fail
    go_ret
    exact ⟨rfl, bb⟩

set_option maxHeartbeats 400000 in
theorem fnExactSafeInput_walk (l0 s0 : Int) (a0 : Option Addr) (n0 c0 : Nat) (x0 : List Int) (w : World) (h0 : (Wf l0 ∧ Wf s0) ∧ IsRow .i64 w a0 n0 c0 x0) :
    Calls Try.prog 5 #[.agg #[.int .i64 l0, .int .i64 s0, .slice a0 n0 c0]] w fun e w' => e = .returned (.bool true) ∧ Below w.heap.size w w' := by
  have hle0 := h0.2.le
  by_cases hn0 : n0 ≤ 1048576
  rotate_left
  · go_enter Try.func5, Try.ntmps5
    go_wp2_with fail
    refine (szM_over _ _ _ _ _ _ (by omega)).mono ?_
    rintro e w1 ⟨rfl, b⟩
    go_wp2_with fail
    go_ret
    exact ⟨rfl, box_then b⟩
  exact fnExactSafeInput_core _ _ _ _ _ _ w h0.1 (h0.2.sl hn0)
end Go.Proofs.Ytfcojfccajofpaa
