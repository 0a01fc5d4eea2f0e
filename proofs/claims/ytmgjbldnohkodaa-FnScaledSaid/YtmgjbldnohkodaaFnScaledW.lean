/- The walk of the law FnScaled: it returns true and leaves what was there as it was. -/
import Derived.Test.YtmgjbldnohkodaaPureN2
import Derived.Test.YtmgjbldnohkodaaLawQ
import Derived.Test.YtmgjbldnohkodaaMod5
import Derived.Test.YtmgjbldnohkodaaMod4
import Derived.Test.YtmgjbldnohkodaaSeqOps2
namespace Go.Proofs.Ytmgjbldnohkodaa
open Go.RowKit
set_option linter.unusedVariables false
set_option maxRecDepth 100000 in
set_option maxHeartbeats 4000000 in
theorem fnScaled_walk (a0 : Option Addr) (n0 c0 : Nat) (z0 : List Int) (w0 : World) (h : IsRow .u8 w0 a0 n0 c0 z0) :
    Calls Try.prog 11 #[.slice a0 n0 c0] w0 fun e w' => e = .returned (.bool true) ∧ Below w0.heap.size w0 w' := by
  have hle := h.le
  by_cases hn : n0 ≤ 1048576
  rotate_left
  · go_enter Try.func11, Try.ntmps11
    go_wp2_with fail
    go_ret
    exact ⟨rfl, Below.refl _ _⟩
  have s_code := h.bsl hn
  clear h hle
  have bb := Below.refl w0.heap.size w0
  go_enter Try.func11, Try.ntmps11
  go_wp2_with fail
  refine (mkM_any _ _ _ _ (s_code.more (Nat.le_refl _))).mono ?_
  rintro e w1 ⟨l, s, a_m, n_m, c_m, cs, hl2, hl6, hs, hm, hc, rfl, o_m, b⟩
  have S1 := Lib.hid b.size
  replace s_code := s_code.keep (b.mono (Nat.le_refl _))
  replace bb := bb.trans (b.mono (Nat.le_refl _))
  clear b
  have hn_m : n_m ≤ 1048576 := by rw [← o_m.len]; have := (isMod_true hm).2.2.1; omega
  have hsb := smallS_bd hs
  have hN6 : n_m ≤ 6 := by rw [← o_m.len]; exact (isMod_true hm).2.2.1
  have hN1 : 1 ≤ n_m := by rw [← o_m.len]; exact (isMod_true hm).2.1
  have HM := Lib.hid hm
  have HC := Lib.hid hc
  clear hs hm hc
  have b := box_below w1 (.cells #[.int .i64 l, .int .i64 s, .slice a_m n_m c_m] 27)
  have c_M_0 : (w1.alloc (.cells #[.int .i64 l, .int .i64 s, .slice a_m n_m c_m] 27)).cell? ⟨w1.heap.size, 0, none⟩ = some (.int .i64 l) := by simp [go_sem]
  have c_M_1 : (w1.alloc (.cells #[.int .i64 l, .int .i64 s, .slice a_m n_m c_m] 27)).cell? ⟨w1.heap.size, 1, none⟩ = some (.int .i64 s) := by simp [go_sem]
  have c_M_2 : (w1.alloc (.cells #[.int .i64 l, .int .i64 s, .slice a_m n_m c_m] 27)).cell? ⟨w1.heap.size, 2, none⟩ = some (.slice a_m n_m c_m) := by simp [go_sem]
  go_wp2_with fail
  have z_M : w1.heap.size < (w1.alloc (.cells #[.int .i64 l, .int .i64 s, .slice a_m n_m c_m] 27)).heap.size := by simp
  generalize hgw : (w1.alloc (.cells #[.int .i64 l, .int .i64 s, .slice a_m n_m c_m] 27)) = w2 at c_M_0 c_M_1 c_M_2 z_M b ⊢
  clear hgw 
  have S2 := Lib.hid b.size
  replace o_m := o_m.keep b (Nat.le_refl _)
  replace s_code := s_code.keep (b.mono (S1.out))
  replace bb := bb.trans (b.mono (S1.out))
  clear b
  go_wp2_with fail
  have S3 : Hid (w2.heap.size ≤ w2.drew.heap.size) := Nat.le_refl _
  replace o_m := o_m.drew
  replace c_M_0 : w2.drew.cell? ⟨w1.heap.size, 0, none⟩ = some (.int .i64 l) := c_M_0
  replace c_M_1 : w2.drew.cell? ⟨w1.heap.size, 1, none⟩ = some (.int .i64 s) := c_M_1
  replace c_M_2 : w2.drew.cell? ⟨w1.heap.size, 2, none⟩ = some (.slice a_m n_m c_m) := c_M_2
  replace bb := bb.drew
  replace s_code := s_code.drew
  go_region_held3 (fun w' => w'.cell? ⟨w1.heap.size, 0, none⟩ = some (.int .i64 l) ∧ w'.cell? ⟨w1.heap.size, 1, none⟩ = some (.int .i64 s) ∧ w'.cell? ⟨w1.heap.size, 2, none⟩ = some (.slice a_m n_m c_m)) (go_keep) (first | (go_at_call 15; refine (fresh_any _ _ _ 3 _ (s_code.more (Nat.le_trans S1.out (Nat.le_trans S2.out S3.out))) (by omega)).mono ?_; rintro e w4 ⟨a_f, n_f, c_f, rfl, s_f, b⟩; have S4 := Lib.hid b.size; replace o_m := o_m.keep b (Nat.le_trans S2.out S3.out); replace c_M_0 := (b.cell (p := ⟨w1.heap.size, 0, none⟩) (Nat.lt_of_lt_of_le z_M (S3.out))).trans c_M_0; replace c_M_1 := (b.cell (p := ⟨w1.heap.size, 1, none⟩) (Nat.lt_of_lt_of_le z_M (S3.out))).trans c_M_1; replace c_M_2 := (b.cell (p := ⟨w1.heap.size, 2, none⟩) (Nat.lt_of_lt_of_le z_M (S3.out))).trans c_M_2; replace s_code := s_code.keep (b.mono (Nat.le_trans S1.out (Nat.le_trans S2.out S3.out))); replace bb := bb.trans (b.mono (Nat.le_trans S1.out (Nat.le_trans S2.out S3.out))); clear b) | (go_at_call 14; refine (mkMem_any l s _ _ _ _ _ _ _ (s_f.more (Nat.le_refl _)) (by omega) (by omega)).mono ?_; rintro e w5 ⟨a_k, c_k, x_k, rfl, o_k, w_k, b⟩; have S5 := Lib.hid b.size; replace o_m := o_m.keep b (Nat.le_trans S2.out (Nat.le_trans S3.out S4.out)); replace c_M_0 := (b.cell (p := ⟨w1.heap.size, 0, none⟩) (Nat.lt_of_lt_of_le z_M (Nat.le_trans S3.out S4.out))).trans c_M_0; replace c_M_1 := (b.cell (p := ⟨w1.heap.size, 1, none⟩) (Nat.lt_of_lt_of_le z_M (Nat.le_trans S3.out S4.out))).trans c_M_1; replace c_M_2 := (b.cell (p := ⟨w1.heap.size, 2, none⟩) (Nat.lt_of_lt_of_le z_M (Nat.le_trans S3.out S4.out))).trans c_M_2; replace s_code := s_code.keep (b.mono (Nat.le_trans S1.out (Nat.le_trans S2.out (Nat.le_trans S3.out S4.out)))); replace s_f := s_f.keep (b.mono (Nat.le_refl _)); replace bb := bb.trans (b.mono (Nat.le_trans S1.out (Nat.le_trans S2.out (Nat.le_trans S3.out S4.out)))); clear b))
  have hn_k : n_m ≤ 1048576 := by omega
  clear s_f
  go_wp2_with fail
  refine (fresh_any _ _ _ 5 _ (s_code.more (Nat.le_trans S1.out (Nat.le_trans S2.out (Nat.le_trans S3.out (Nat.le_trans S4.out S5.out))))) (by omega)).mono ?_
  rintro e w6 ⟨a_f, n_f, c_f, rfl, s_f, b⟩
  have S6 := Lib.hid b.size
  replace o_m := o_m.keep b (Nat.le_trans S2.out (Nat.le_trans S3.out (Nat.le_trans S4.out S5.out)))
  replace c_M_0 := (b.cell (p := ⟨w1.heap.size, 0, none⟩) (Nat.lt_of_lt_of_le z_M (Nat.le_trans S3.out (Nat.le_trans S4.out S5.out)))).trans c_M_0
  replace c_M_1 := (b.cell (p := ⟨w1.heap.size, 1, none⟩) (Nat.lt_of_lt_of_le z_M (Nat.le_trans S3.out (Nat.le_trans S4.out S5.out)))).trans c_M_1
  replace c_M_2 := (b.cell (p := ⟨w1.heap.size, 2, none⟩) (Nat.lt_of_lt_of_le z_M (Nat.le_trans S3.out (Nat.le_trans S4.out S5.out)))).trans c_M_2
  replace o_k := o_k.keep b (Nat.le_refl _)
  replace s_code := s_code.keep (b.mono (Nat.le_trans S1.out (Nat.le_trans S2.out (Nat.le_trans S3.out (Nat.le_trans S4.out S5.out)))))
  replace bb := bb.trans (b.mono (Nat.le_trans S1.out (Nat.le_trans S2.out (Nat.le_trans S3.out (Nat.le_trans S4.out S5.out)))))
  clear b
  go_wp2_with fail
  refine (at_any _ _ _ _ 1 _ s_code (by omega)).mono ?_
  rintro e w' ⟨a, a0, a1, rfl, rfl⟩
  go_wp2_with fail
  refine (mkSeq_any _ _ _ 20 (1 + a) _ (s_f.more (Nat.le_refl _)) (by omega) (by omega) (by omega)).mono ?_
  rintro e w7 ⟨a_x, n_x, c_x, x_x, rfl, o_x, l_x, i_x, j_x, b⟩
  have S7 := Lib.hid b.size
  replace o_m := o_m.keep b (Nat.le_trans S2.out (Nat.le_trans S3.out (Nat.le_trans S4.out (Nat.le_trans S5.out S6.out))))
  replace c_M_0 := (b.cell (p := ⟨w1.heap.size, 0, none⟩) (Nat.lt_of_lt_of_le z_M (Nat.le_trans S3.out (Nat.le_trans S4.out (Nat.le_trans S5.out S6.out))))).trans c_M_0
  replace c_M_1 := (b.cell (p := ⟨w1.heap.size, 1, none⟩) (Nat.lt_of_lt_of_le z_M (Nat.le_trans S3.out (Nat.le_trans S4.out (Nat.le_trans S5.out S6.out))))).trans c_M_1
  replace c_M_2 := (b.cell (p := ⟨w1.heap.size, 2, none⟩) (Nat.lt_of_lt_of_le z_M (Nat.le_trans S3.out (Nat.le_trans S4.out (Nat.le_trans S5.out S6.out))))).trans c_M_2
  replace o_k := o_k.keep b (S6.out)
  replace s_code := s_code.keep (b.mono (Nat.le_trans S1.out (Nat.le_trans S2.out (Nat.le_trans S3.out (Nat.le_trans S4.out (Nat.le_trans S5.out S6.out))))))
  replace s_f := s_f.keep (b.mono (Nat.le_refl _))
  replace bb := bb.trans (b.mono (Nat.le_trans S1.out (Nat.le_trans S2.out (Nat.le_trans S3.out (Nat.le_trans S4.out (Nat.le_trans S5.out S6.out))))))
  clear b
  have hn_x : n_x ≤ 1048576 := by omega
  clear s_f
  go_wp2_with fail
  refine (at_any _ _ _ _ 2 _ s_code (by omega)).mono ?_
  rintro e w' ⟨a2, a20, a21, rfl, rfl⟩
  obtain ⟨r1, hr⟩ := Int.eq_ofNat_of_zero_le (Int.emod_nonneg a2 (show (50 : Int) ≠ 0 by omega))
  have hr6 : r1 < 50 := by have := Int.emod_lt_of_pos a2 (show (0 : Int) < 50 by omega); omega
  obtain ⟨k, hrr⟩ : ∃ k : Int, 1 + (r1 : Int) = k := ⟨_, rfl⟩
  have h1k : 1 ≤ k := by omega
  have h50k : k ≤ 50 := by omega
  clear hr6
  have hwk : Wf k := by constructor <;> omega
  clear s_code
  obtain ⟨⟨f1, f2⟩, ⟨f3, f4⟩, f5⟩ := scaled_facts (l := l) (s := s) (k := k) (cs := cs) (ms := x_k) (xs := x_x) HM.out hsb.2 (by rw [o_k.len, o_m.len]) w_k (i_x.mono (show 1 + a ≤ 256 by omega)) (by have := o_x.len; omega) h1k h50k
  obtain ⟨K, hK⟩ : ∃ K, Hid (s * k = K) := ⟨_, rfl⟩
  have hsk : 1 * 1 ≤ s * k ∧ s * k ≤ 64 * 50 := ⟨Int.mul_le_mul hsb.1 h1k (by omega) (by omega), Int.mul_le_mul hsb.2 h50k (by omega) (by omega)⟩
  obtain ⟨XK, hXK⟩ : ∃ XK, Hid (scaleL x_k k = XK) := ⟨_, rfl⟩
  obtain ⟨XX, hXX⟩ : ∃ XX, Hid (scaleL x_x k = XX) := ⟨_, rfl⟩
  have lK : XK.length = n_m := by rw [← hXK.out, scaleL_length, o_k.len]
  have lX : XX.length = n_x := by rw [← hXX.out, scaleL_length, o_x.len]
  rw [hXK.out] at f2 f5
  rw [hXX.out] at f4 f5
  have F1 := Lib.hid f1
  have F2 := Lib.hid f2
  have F3 := Lib.hid f3
  have F4 := Lib.hid f4
  have F5 := Lib.hid f5
  have LK := Lib.hid lK
  have LX := Lib.hid lX
  clear lK lX f1 f2 f3 f4 f5
  obtain ⟨Y1, hY1⟩ : ∃ Y1, Hid (runY l s cs x_k x_x = Y1) := ⟨_, rfl⟩
  obtain ⟨E1, hE1⟩ : ∃ E1, Hid (runE l s cs x_k x_x = E1) := ⟨_, rfl⟩
  obtain ⟨Z1, hZ1⟩ : ∃ Z1, Hid (runM l s cs x_k x_x = Z1) := ⟨_, rfl⟩
  obtain ⟨B1, hB1⟩ : ∃ B1, Hid (runB l s cs x_k x_x = B1) := ⟨_, rfl⟩
  have RL1 := Lib.hid (run_lens l s cs x_k x_x)
  rw [hY1.out, hE1.out, hZ1.out] at RL1
  obtain ⟨Y2, hY2⟩ : ∃ Y2, Hid (runY l (s * k) cs XK XX = Y2) := ⟨_, rfl⟩
  obtain ⟨E2, hE2⟩ : ∃ E2, Hid (runE l (s * k) cs XK XX = E2) := ⟨_, rfl⟩
  obtain ⟨Z2, hZ2⟩ : ∃ Z2, Hid (runM l (s * k) cs XK XX = Z2) := ⟨_, rfl⟩
  obtain ⟨B2, hB2⟩ : ∃ B2, Hid (runB l (s * k) cs XK XX = B2) := ⟨_, rfl⟩
  have RL2 := Lib.hid (run_lens l (s * k) cs XK XX)
  rw [hY2.out, hE2.out, hZ2.out] at RL2
  rw [hY1.out, hE1.out, hB1.out, hY2.out, hE2.out, hB2.out] at F5
  have b := box_below w7 (.cells #[.int .i64 l, .int .i64 (s * k), .slice a_m n_m c_m] 27)
  have d_M_0 := (b.cell (p := ⟨w1.heap.size, 0, none⟩) (Nat.lt_of_lt_of_le z_M (Nat.le_trans S3.out (Nat.le_trans S4.out (Nat.le_trans S5.out (Nat.le_trans S6.out S7.out)))))).trans c_M_0
  have d_M_1 := (b.cell (p := ⟨w1.heap.size, 1, none⟩) (Nat.lt_of_lt_of_le z_M (Nat.le_trans S3.out (Nat.le_trans S4.out (Nat.le_trans S5.out (Nat.le_trans S6.out S7.out)))))).trans c_M_1
  have d_M_2 := (b.cell (p := ⟨w1.heap.size, 2, none⟩) (Nat.lt_of_lt_of_le z_M (Nat.le_trans S3.out (Nat.le_trans S4.out (Nat.le_trans S5.out (Nat.le_trans S6.out S7.out)))))).trans c_M_2
  have c_G_0 : (w7.alloc (.cells #[.int .i64 l, .int .i64 (s * k), .slice a_m n_m c_m] 27)).cell? ⟨w7.heap.size, 0, none⟩ = some (.int .i64 l) := by simp [go_sem]
  have c_G_1 : (w7.alloc (.cells #[.int .i64 l, .int .i64 (s * k), .slice a_m n_m c_m] 27)).cell? ⟨w7.heap.size, 1, none⟩ = some (.int .i64 (s * k)) := by simp [go_sem]
  have c_G_2 : (w7.alloc (.cells #[.int .i64 l, .int .i64 (s * k), .slice a_m n_m c_m] 27)).cell? ⟨w7.heap.size, 2, none⟩ = some (.slice a_m n_m c_m) := by simp [go_sem]
  go_wp2_with fail
  have z_G : w7.heap.size < (w7.alloc (.cells #[.int .i64 l, .int .i64 (s * k), .slice a_m n_m c_m] 27)).heap.size := by simp
  generalize hgw : (w7.alloc (.cells #[.int .i64 l, .int .i64 (s * k), .slice a_m n_m c_m] 27)) = w8 at c_G_0 c_G_1 c_G_2 d_M_0 d_M_1 d_M_2 z_G b ⊢
  clear hgw d_M_0 d_M_1 d_M_2
  have S8 := Lib.hid b.size
  replace o_m := o_m.keep b (Nat.le_trans S2.out (Nat.le_trans S3.out (Nat.le_trans S4.out (Nat.le_trans S5.out (Nat.le_trans S6.out S7.out)))))
  replace c_M_0 := (b.cell (p := ⟨w1.heap.size, 0, none⟩) (Nat.lt_of_lt_of_le z_M (Nat.le_trans S3.out (Nat.le_trans S4.out (Nat.le_trans S5.out (Nat.le_trans S6.out S7.out)))))).trans c_M_0
  replace c_M_1 := (b.cell (p := ⟨w1.heap.size, 1, none⟩) (Nat.lt_of_lt_of_le z_M (Nat.le_trans S3.out (Nat.le_trans S4.out (Nat.le_trans S5.out (Nat.le_trans S6.out S7.out)))))).trans c_M_1
  replace c_M_2 := (b.cell (p := ⟨w1.heap.size, 2, none⟩) (Nat.lt_of_lt_of_le z_M (Nat.le_trans S3.out (Nat.le_trans S4.out (Nat.le_trans S5.out (Nat.le_trans S6.out S7.out)))))).trans c_M_2
  replace o_k := o_k.keep b (Nat.le_trans S6.out S7.out)
  replace o_x := o_x.keep b (Nat.le_refl _)
  replace bb := bb.trans (b.mono (Nat.le_trans S1.out (Nat.le_trans S2.out (Nat.le_trans S3.out (Nat.le_trans S4.out (Nat.le_trans S5.out (Nat.le_trans S6.out S7.out)))))))
  clear b
  go_wp2_with fail
  refine (run_i l s _ _ _ _ _ _ _ _ _ cs x_k x_x _ ((o_m.sl hn_m).more (Nat.le_trans S2.out (Nat.le_trans S3.out (Nat.le_trans S4.out (Nat.le_trans S5.out (Nat.le_trans S6.out (Nat.le_trans S7.out S8.out))))))) ((o_k.sl hn_k).more (Nat.le_trans S6.out (Nat.le_trans S7.out S8.out))) ((o_x.sl hn_x).more (S8.out))).mono ?_
  rw [hY1.out, hE1.out, hZ1.out, hB1.out]
  rintro e w9 ⟨a_y1, n_y1, c_y1, a_e1, n_e1, c_e1, a_z1, n_z1, c_z1, rfl, o_y1, o_e1, o_z1, f1, f2, f3, b⟩
  have S9 := Lib.hid b.size
  replace o_m := o_m.keep b (Nat.le_trans S2.out (Nat.le_trans S3.out (Nat.le_trans S4.out (Nat.le_trans S5.out (Nat.le_trans S6.out (Nat.le_trans S7.out S8.out))))))
  replace c_M_0 := (b.cell (p := ⟨w1.heap.size, 0, none⟩) (Nat.lt_of_lt_of_le z_M (Nat.le_trans S3.out (Nat.le_trans S4.out (Nat.le_trans S5.out (Nat.le_trans S6.out (Nat.le_trans S7.out S8.out))))))).trans c_M_0
  replace c_M_1 := (b.cell (p := ⟨w1.heap.size, 1, none⟩) (Nat.lt_of_lt_of_le z_M (Nat.le_trans S3.out (Nat.le_trans S4.out (Nat.le_trans S5.out (Nat.le_trans S6.out (Nat.le_trans S7.out S8.out))))))).trans c_M_1
  replace c_M_2 := (b.cell (p := ⟨w1.heap.size, 2, none⟩) (Nat.lt_of_lt_of_le z_M (Nat.le_trans S3.out (Nat.le_trans S4.out (Nat.le_trans S5.out (Nat.le_trans S6.out (Nat.le_trans S7.out S8.out))))))).trans c_M_2
  replace o_k := o_k.keep b (Nat.le_trans S6.out (Nat.le_trans S7.out S8.out))
  replace o_x := o_x.keep b (S8.out)
  replace c_G_0 := (b.cell (p := ⟨w7.heap.size, 0, none⟩) (Nat.lt_of_lt_of_le z_G (Nat.le_refl _))).trans c_G_0
  replace c_G_1 := (b.cell (p := ⟨w7.heap.size, 1, none⟩) (Nat.lt_of_lt_of_le z_G (Nat.le_refl _))).trans c_G_1
  replace c_G_2 := (b.cell (p := ⟨w7.heap.size, 2, none⟩) (Nat.lt_of_lt_of_le z_G (Nat.le_refl _))).trans c_G_2
  replace bb := bb.trans (b.mono (Nat.le_trans S1.out (Nat.le_trans S2.out (Nat.le_trans S3.out (Nat.le_trans S4.out (Nat.le_trans S5.out (Nat.le_trans S6.out (Nat.le_trans S7.out S8.out))))))))
  clear b
  clear f1 f2 f3 o_z1
  have hn_y1 : n_y1 ≤ 1048576 := (by rw [← o_y1.len]; exact RL1.out.1)
  have hn_e1 : n_e1 ≤ 1048576 := (by rw [← o_e1.len]; exact RL1.out.2.1)
  go_wp2_with fail
  refine (scale_i _ _ _ x_k k _ ((o_k.sl hn_k).more (Nat.le_trans S6.out (Nat.le_trans S7.out (Nat.le_trans S8.out S9.out)))) hwk).mono ?_
  rw [F1.out, F2.out]
  rintro e w10 ⟨a_p, n_p, c_p, rfl, o_p, b⟩
  have S10 := Lib.hid b.size
  replace o_m := o_m.keep b (Nat.le_trans S2.out (Nat.le_trans S3.out (Nat.le_trans S4.out (Nat.le_trans S5.out (Nat.le_trans S6.out (Nat.le_trans S7.out (Nat.le_trans S8.out S9.out)))))))
  replace c_M_0 := (b.cell (p := ⟨w1.heap.size, 0, none⟩) (Nat.lt_of_lt_of_le z_M (Nat.le_trans S3.out (Nat.le_trans S4.out (Nat.le_trans S5.out (Nat.le_trans S6.out (Nat.le_trans S7.out (Nat.le_trans S8.out S9.out)))))))).trans c_M_0
  replace c_M_1 := (b.cell (p := ⟨w1.heap.size, 1, none⟩) (Nat.lt_of_lt_of_le z_M (Nat.le_trans S3.out (Nat.le_trans S4.out (Nat.le_trans S5.out (Nat.le_trans S6.out (Nat.le_trans S7.out (Nat.le_trans S8.out S9.out)))))))).trans c_M_1
  replace c_M_2 := (b.cell (p := ⟨w1.heap.size, 2, none⟩) (Nat.lt_of_lt_of_le z_M (Nat.le_trans S3.out (Nat.le_trans S4.out (Nat.le_trans S5.out (Nat.le_trans S6.out (Nat.le_trans S7.out (Nat.le_trans S8.out S9.out)))))))).trans c_M_2
  replace o_k := o_k.keep b (Nat.le_trans S6.out (Nat.le_trans S7.out (Nat.le_trans S8.out S9.out)))
  replace o_x := o_x.keep b (Nat.le_trans S8.out S9.out)
  replace c_G_0 := (b.cell (p := ⟨w7.heap.size, 0, none⟩) (Nat.lt_of_lt_of_le z_G (S9.out))).trans c_G_0
  replace c_G_1 := (b.cell (p := ⟨w7.heap.size, 1, none⟩) (Nat.lt_of_lt_of_le z_G (S9.out))).trans c_G_1
  replace c_G_2 := (b.cell (p := ⟨w7.heap.size, 2, none⟩) (Nat.lt_of_lt_of_le z_G (S9.out))).trans c_G_2
  replace o_y1 := o_y1.keep b (Nat.le_refl _)
  replace o_e1 := o_e1.keep b (Nat.le_refl _)
  replace bb := bb.trans (b.mono (Nat.le_trans S1.out (Nat.le_trans S2.out (Nat.le_trans S3.out (Nat.le_trans S4.out (Nat.le_trans S5.out (Nat.le_trans S6.out (Nat.le_trans S7.out (Nat.le_trans S8.out S9.out)))))))))
  clear b
  have hn_p : n_p ≤ 1048576 := by rw [← o_p.len, LK.out]; omega
  go_wp2_with fail
  refine (scale_i _ _ _ x_x k _ ((o_x.sl hn_x).more (Nat.le_trans S8.out (Nat.le_trans S9.out S10.out))) hwk).mono ?_
  rw [F3.out, F4.out]
  rintro e w11 ⟨a_i, n_i, c_i, rfl, o_i, b⟩
  have S11 := Lib.hid b.size
  replace o_m := o_m.keep b (Nat.le_trans S2.out (Nat.le_trans S3.out (Nat.le_trans S4.out (Nat.le_trans S5.out (Nat.le_trans S6.out (Nat.le_trans S7.out (Nat.le_trans S8.out (Nat.le_trans S9.out S10.out))))))))
  replace c_M_0 := (b.cell (p := ⟨w1.heap.size, 0, none⟩) (Nat.lt_of_lt_of_le z_M (Nat.le_trans S3.out (Nat.le_trans S4.out (Nat.le_trans S5.out (Nat.le_trans S6.out (Nat.le_trans S7.out (Nat.le_trans S8.out (Nat.le_trans S9.out S10.out))))))))).trans c_M_0
  replace c_M_1 := (b.cell (p := ⟨w1.heap.size, 1, none⟩) (Nat.lt_of_lt_of_le z_M (Nat.le_trans S3.out (Nat.le_trans S4.out (Nat.le_trans S5.out (Nat.le_trans S6.out (Nat.le_trans S7.out (Nat.le_trans S8.out (Nat.le_trans S9.out S10.out))))))))).trans c_M_1
  replace c_M_2 := (b.cell (p := ⟨w1.heap.size, 2, none⟩) (Nat.lt_of_lt_of_le z_M (Nat.le_trans S3.out (Nat.le_trans S4.out (Nat.le_trans S5.out (Nat.le_trans S6.out (Nat.le_trans S7.out (Nat.le_trans S8.out (Nat.le_trans S9.out S10.out))))))))).trans c_M_2
  replace o_k := o_k.keep b (Nat.le_trans S6.out (Nat.le_trans S7.out (Nat.le_trans S8.out (Nat.le_trans S9.out S10.out))))
  replace o_x := o_x.keep b (Nat.le_trans S8.out (Nat.le_trans S9.out S10.out))
  replace c_G_0 := (b.cell (p := ⟨w7.heap.size, 0, none⟩) (Nat.lt_of_lt_of_le z_G (Nat.le_trans S9.out S10.out))).trans c_G_0
  replace c_G_1 := (b.cell (p := ⟨w7.heap.size, 1, none⟩) (Nat.lt_of_lt_of_le z_G (Nat.le_trans S9.out S10.out))).trans c_G_1
  replace c_G_2 := (b.cell (p := ⟨w7.heap.size, 2, none⟩) (Nat.lt_of_lt_of_le z_G (Nat.le_trans S9.out S10.out))).trans c_G_2
  replace o_y1 := o_y1.keep b (S10.out)
  replace o_e1 := o_e1.keep b (S10.out)
  replace o_p := o_p.keep b (Nat.le_refl _)
  replace bb := bb.trans (b.mono (Nat.le_trans S1.out (Nat.le_trans S2.out (Nat.le_trans S3.out (Nat.le_trans S4.out (Nat.le_trans S5.out (Nat.le_trans S6.out (Nat.le_trans S7.out (Nat.le_trans S8.out (Nat.le_trans S9.out S10.out))))))))))
  clear b
  have hn_i : n_i ≤ 1048576 := by rw [← o_i.len, LX.out]; omega
  go_wp2_with fail
  refine (run_i l (s * k) _ _ _ _ _ _ _ _ _ cs XK XX _ ((o_m.sl hn_m).more (Nat.le_trans S2.out (Nat.le_trans S3.out (Nat.le_trans S4.out (Nat.le_trans S5.out (Nat.le_trans S6.out (Nat.le_trans S7.out (Nat.le_trans S8.out (Nat.le_trans S9.out (Nat.le_trans S10.out S11.out)))))))))) ((o_p.sl hn_p).more (S11.out)) ((o_i.sl hn_i).more (Nat.le_refl _))).mono ?_
  rw [hY2.out, hE2.out, hZ2.out, hB2.out]
  rintro e w12 ⟨a_y2, n_y2, c_y2, a_e2, n_e2, c_e2, a_z2, n_z2, c_z2, rfl, o_y2, o_e2, o_z2, f1, f2, f3, b⟩
  have S12 := Lib.hid b.size
  replace o_m := o_m.keep b (Nat.le_trans S2.out (Nat.le_trans S3.out (Nat.le_trans S4.out (Nat.le_trans S5.out (Nat.le_trans S6.out (Nat.le_trans S7.out (Nat.le_trans S8.out (Nat.le_trans S9.out (Nat.le_trans S10.out S11.out)))))))))
  replace c_M_0 := (b.cell (p := ⟨w1.heap.size, 0, none⟩) (Nat.lt_of_lt_of_le z_M (Nat.le_trans S3.out (Nat.le_trans S4.out (Nat.le_trans S5.out (Nat.le_trans S6.out (Nat.le_trans S7.out (Nat.le_trans S8.out (Nat.le_trans S9.out (Nat.le_trans S10.out S11.out)))))))))).trans c_M_0
  replace c_M_1 := (b.cell (p := ⟨w1.heap.size, 1, none⟩) (Nat.lt_of_lt_of_le z_M (Nat.le_trans S3.out (Nat.le_trans S4.out (Nat.le_trans S5.out (Nat.le_trans S6.out (Nat.le_trans S7.out (Nat.le_trans S8.out (Nat.le_trans S9.out (Nat.le_trans S10.out S11.out)))))))))).trans c_M_1
  replace c_M_2 := (b.cell (p := ⟨w1.heap.size, 2, none⟩) (Nat.lt_of_lt_of_le z_M (Nat.le_trans S3.out (Nat.le_trans S4.out (Nat.le_trans S5.out (Nat.le_trans S6.out (Nat.le_trans S7.out (Nat.le_trans S8.out (Nat.le_trans S9.out (Nat.le_trans S10.out S11.out)))))))))).trans c_M_2
  replace o_k := o_k.keep b (Nat.le_trans S6.out (Nat.le_trans S7.out (Nat.le_trans S8.out (Nat.le_trans S9.out (Nat.le_trans S10.out S11.out)))))
  replace o_x := o_x.keep b (Nat.le_trans S8.out (Nat.le_trans S9.out (Nat.le_trans S10.out S11.out)))
  replace c_G_0 := (b.cell (p := ⟨w7.heap.size, 0, none⟩) (Nat.lt_of_lt_of_le z_G (Nat.le_trans S9.out (Nat.le_trans S10.out S11.out)))).trans c_G_0
  replace c_G_1 := (b.cell (p := ⟨w7.heap.size, 1, none⟩) (Nat.lt_of_lt_of_le z_G (Nat.le_trans S9.out (Nat.le_trans S10.out S11.out)))).trans c_G_1
  replace c_G_2 := (b.cell (p := ⟨w7.heap.size, 2, none⟩) (Nat.lt_of_lt_of_le z_G (Nat.le_trans S9.out (Nat.le_trans S10.out S11.out)))).trans c_G_2
  replace o_y1 := o_y1.keep b (Nat.le_trans S10.out S11.out)
  replace o_e1 := o_e1.keep b (Nat.le_trans S10.out S11.out)
  replace o_p := o_p.keep b (S11.out)
  replace o_i := o_i.keep b (Nat.le_refl _)
  replace bb := bb.trans (b.mono (Nat.le_trans S1.out (Nat.le_trans S2.out (Nat.le_trans S3.out (Nat.le_trans S4.out (Nat.le_trans S5.out (Nat.le_trans S6.out (Nat.le_trans S7.out (Nat.le_trans S8.out (Nat.le_trans S9.out (Nat.le_trans S10.out S11.out)))))))))))
  clear b
  clear f1 f2 f3 o_z2
  have hn_y2 : n_y2 ≤ 1048576 := (by rw [← o_y2.len]; exact RL2.out.1)
  have hn_e2 : n_e2 ≤ 1048576 := (by rw [← o_e2.len]; exact RL2.out.2.1)
  go_wp2_with fail
  refine (run_s l (s * k) _ _ _ _ _ _ _ _ _ cs XK XX _ ((o_m.sl hn_m).more (Nat.le_trans S2.out (Nat.le_trans S3.out (Nat.le_trans S4.out (Nat.le_trans S5.out (Nat.le_trans S6.out (Nat.le_trans S7.out (Nat.le_trans S8.out (Nat.le_trans S9.out (Nat.le_trans S10.out (Nat.le_trans S11.out S12.out))))))))))) ((o_p.sl hn_p).more (Nat.le_trans S11.out S12.out)) ((o_i.sl hn_i).more (S12.out))).mono ?_
  rw [hY2.out, hE2.out, hZ2.out, hB2.out]
  rintro e w13 ⟨a_y3, n_y3, c_y3, a_e3, n_e3, c_e3, a_z3, n_z3, c_z3, rfl, o_y3, o_e3, o_z3, f1, f2, f3, b⟩
  have S13 := Lib.hid b.size
  replace o_m := o_m.keep b (Nat.le_trans S2.out (Nat.le_trans S3.out (Nat.le_trans S4.out (Nat.le_trans S5.out (Nat.le_trans S6.out (Nat.le_trans S7.out (Nat.le_trans S8.out (Nat.le_trans S9.out (Nat.le_trans S10.out (Nat.le_trans S11.out S12.out))))))))))
  replace c_M_0 := (b.cell (p := ⟨w1.heap.size, 0, none⟩) (Nat.lt_of_lt_of_le z_M (Nat.le_trans S3.out (Nat.le_trans S4.out (Nat.le_trans S5.out (Nat.le_trans S6.out (Nat.le_trans S7.out (Nat.le_trans S8.out (Nat.le_trans S9.out (Nat.le_trans S10.out (Nat.le_trans S11.out S12.out))))))))))).trans c_M_0
  replace c_M_1 := (b.cell (p := ⟨w1.heap.size, 1, none⟩) (Nat.lt_of_lt_of_le z_M (Nat.le_trans S3.out (Nat.le_trans S4.out (Nat.le_trans S5.out (Nat.le_trans S6.out (Nat.le_trans S7.out (Nat.le_trans S8.out (Nat.le_trans S9.out (Nat.le_trans S10.out (Nat.le_trans S11.out S12.out))))))))))).trans c_M_1
  replace c_M_2 := (b.cell (p := ⟨w1.heap.size, 2, none⟩) (Nat.lt_of_lt_of_le z_M (Nat.le_trans S3.out (Nat.le_trans S4.out (Nat.le_trans S5.out (Nat.le_trans S6.out (Nat.le_trans S7.out (Nat.le_trans S8.out (Nat.le_trans S9.out (Nat.le_trans S10.out (Nat.le_trans S11.out S12.out))))))))))).trans c_M_2
  replace o_k := o_k.keep b (Nat.le_trans S6.out (Nat.le_trans S7.out (Nat.le_trans S8.out (Nat.le_trans S9.out (Nat.le_trans S10.out (Nat.le_trans S11.out S12.out))))))
  replace o_x := o_x.keep b (Nat.le_trans S8.out (Nat.le_trans S9.out (Nat.le_trans S10.out (Nat.le_trans S11.out S12.out))))
  replace c_G_0 := (b.cell (p := ⟨w7.heap.size, 0, none⟩) (Nat.lt_of_lt_of_le z_G (Nat.le_trans S9.out (Nat.le_trans S10.out (Nat.le_trans S11.out S12.out))))).trans c_G_0
  replace c_G_1 := (b.cell (p := ⟨w7.heap.size, 1, none⟩) (Nat.lt_of_lt_of_le z_G (Nat.le_trans S9.out (Nat.le_trans S10.out (Nat.le_trans S11.out S12.out))))).trans c_G_1
  replace c_G_2 := (b.cell (p := ⟨w7.heap.size, 2, none⟩) (Nat.lt_of_lt_of_le z_G (Nat.le_trans S9.out (Nat.le_trans S10.out (Nat.le_trans S11.out S12.out))))).trans c_G_2
  replace o_y1 := o_y1.keep b (Nat.le_trans S10.out (Nat.le_trans S11.out S12.out))
  replace o_e1 := o_e1.keep b (Nat.le_trans S10.out (Nat.le_trans S11.out S12.out))
  replace o_p := o_p.keep b (Nat.le_trans S11.out S12.out)
  replace o_i := o_i.keep b (S12.out)
  replace o_y2 := o_y2.keep b (Nat.le_refl _)
  replace o_e2 := o_e2.keep b (Nat.le_refl _)
  replace bb := bb.trans (b.mono (Nat.le_trans S1.out (Nat.le_trans S2.out (Nat.le_trans S3.out (Nat.le_trans S4.out (Nat.le_trans S5.out (Nat.le_trans S6.out (Nat.le_trans S7.out (Nat.le_trans S8.out (Nat.le_trans S9.out (Nat.le_trans S10.out (Nat.le_trans S11.out S12.out))))))))))))
  clear b
  clear f1 f2 f3 o_y3 o_e3 o_z3
  clear o_k
  clear o_p
  clear o_i
  clear o_m
  clear c_M_0 c_M_1 c_M_2
  clear c_G_0 c_G_1 c_G_2
  cases B1
  · cases B2
    · go_wp2_with fail
      go_ret
      exact ⟨rfl, bb⟩
    · go_wp2_with fail
      go_ret
      exact ⟨rfl, bb⟩
  cases B2
  · go_wp2_with fail
    go_ret
    exact ⟨rfl, bb⟩
  obtain ⟨f1, f2, ⟨f3, f4⟩, ⟨f5, f6⟩⟩ := F5.out rfl rfl
  have G1 := Lib.hid f1
  have G2 := Lib.hid f2
  have G3 := Lib.hid f3
  have G4 := Lib.hid f4
  have G5 := Lib.hid f5
  have G6 := Lib.hid f6
  clear F5 f1 f2 f3 f4 f5 f6
  have hq : n_y1 = n_x := by rw [← o_y1.len, ← o_x.len]; exact G1.out
  obtain rfl : n_x = n_y1 := hq.symm
  clear hq
  have hq : n_e1 = n_x := by rw [← o_e1.len, ← o_x.len]; exact G2.out
  obtain rfl : n_x = n_e1 := hq.symm
  clear hq
  go_wp2_with fail
  refine (scale_i _ _ _ Y1 k _ ((o_y1.sl hn_y1).more (Nat.le_trans S10.out (Nat.le_trans S11.out (Nat.le_trans S12.out S13.out)))) hwk).mono ?_
  rw [G3.out, G4.out]
  rintro e w14 ⟨a_vy, n_vy, c_vy, rfl, o_vy, b⟩
  have S14 := Lib.hid b.size
  replace o_x := o_x.keep b (Nat.le_trans S8.out (Nat.le_trans S9.out (Nat.le_trans S10.out (Nat.le_trans S11.out (Nat.le_trans S12.out S13.out)))))
  replace o_y1 := o_y1.keep b (Nat.le_trans S10.out (Nat.le_trans S11.out (Nat.le_trans S12.out S13.out)))
  replace o_e1 := o_e1.keep b (Nat.le_trans S10.out (Nat.le_trans S11.out (Nat.le_trans S12.out S13.out)))
  replace o_y2 := o_y2.keep b (S13.out)
  replace o_e2 := o_e2.keep b (S13.out)
  replace bb := bb.trans (b.mono (Nat.le_trans S1.out (Nat.le_trans S2.out (Nat.le_trans S3.out (Nat.le_trans S4.out (Nat.le_trans S5.out (Nat.le_trans S6.out (Nat.le_trans S7.out (Nat.le_trans S8.out (Nat.le_trans S9.out (Nat.le_trans S10.out (Nat.le_trans S11.out (Nat.le_trans S12.out S13.out)))))))))))))
  clear b
  have hn_vy : n_vy ≤ 1048576 := by rw [← o_vy.len]; exact RL2.out.1
  have hq : n_y2 = n_vy := by rw [← o_y2.len, ← o_vy.len]
  obtain rfl := hq
  go_wp2_with fail
  refine (scale_i _ _ _ E1 k _ ((o_e1.sl hn_e1).more (Nat.le_trans S10.out (Nat.le_trans S11.out (Nat.le_trans S12.out (Nat.le_trans S13.out S14.out))))) hwk).mono ?_
  rw [G5.out, G6.out]
  rintro e w15 ⟨a_ve, n_ve, c_ve, rfl, o_ve, b⟩
  have S15 := Lib.hid b.size
  replace o_x := o_x.keep b (Nat.le_trans S8.out (Nat.le_trans S9.out (Nat.le_trans S10.out (Nat.le_trans S11.out (Nat.le_trans S12.out (Nat.le_trans S13.out S14.out))))))
  replace o_y1 := o_y1.keep b (Nat.le_trans S10.out (Nat.le_trans S11.out (Nat.le_trans S12.out (Nat.le_trans S13.out S14.out))))
  replace o_e1 := o_e1.keep b (Nat.le_trans S10.out (Nat.le_trans S11.out (Nat.le_trans S12.out (Nat.le_trans S13.out S14.out))))
  replace o_y2 := o_y2.keep b (Nat.le_trans S13.out S14.out)
  replace o_e2 := o_e2.keep b (Nat.le_trans S13.out S14.out)
  replace o_vy := o_vy.keep b (Nat.le_refl _)
  replace bb := bb.trans (b.mono (Nat.le_trans S1.out (Nat.le_trans S2.out (Nat.le_trans S3.out (Nat.le_trans S4.out (Nat.le_trans S5.out (Nat.le_trans S6.out (Nat.le_trans S7.out (Nat.le_trans S8.out (Nat.le_trans S9.out (Nat.le_trans S10.out (Nat.le_trans S11.out (Nat.le_trans S12.out (Nat.le_trans S13.out S14.out))))))))))))))
  clear b
  have hn_ve : n_ve ≤ 1048576 := by rw [← o_ve.len]; exact RL2.out.2.1
  have hq : n_e2 = n_ve := by rw [← o_e2.len, ← o_ve.len]
  obtain rfl := hq
  go_wp2_with fail
  refine (ints_true _ _ _ _ _ _ _ ((o_vy.sl hn_vy).more (S15.out)) ((o_y2.sl hn_y2).more (Nat.le_trans S13.out (Nat.le_trans S14.out S15.out)))).mono ?_
  rintro e w16 ⟨rfl, b⟩
  have S16 := Lib.hid b.size
  replace o_x := o_x.keep b (Nat.le_trans S8.out (Nat.le_trans S9.out (Nat.le_trans S10.out (Nat.le_trans S11.out (Nat.le_trans S12.out (Nat.le_trans S13.out (Nat.le_trans S14.out S15.out)))))))
  replace o_y1 := o_y1.keep b (Nat.le_trans S10.out (Nat.le_trans S11.out (Nat.le_trans S12.out (Nat.le_trans S13.out (Nat.le_trans S14.out S15.out)))))
  replace o_e1 := o_e1.keep b (Nat.le_trans S10.out (Nat.le_trans S11.out (Nat.le_trans S12.out (Nat.le_trans S13.out (Nat.le_trans S14.out S15.out)))))
  replace o_y2 := o_y2.keep b (Nat.le_trans S13.out (Nat.le_trans S14.out S15.out))
  replace o_e2 := o_e2.keep b (Nat.le_trans S13.out (Nat.le_trans S14.out S15.out))
  replace o_vy := o_vy.keep b (S15.out)
  replace o_ve := o_ve.keep b (Nat.le_refl _)
  replace bb := bb.trans (b.mono (Nat.le_trans S1.out (Nat.le_trans S2.out (Nat.le_trans S3.out (Nat.le_trans S4.out (Nat.le_trans S5.out (Nat.le_trans S6.out (Nat.le_trans S7.out (Nat.le_trans S8.out (Nat.le_trans S9.out (Nat.le_trans S10.out (Nat.le_trans S11.out (Nat.le_trans S12.out (Nat.le_trans S13.out (Nat.le_trans S14.out S15.out)))))))))))))))
  clear b
  go_wp2_with fail
  refine (ints_true _ _ _ _ _ _ _ ((o_ve.sl hn_ve).more (S16.out)) ((o_e2.sl hn_e2).more (Nat.le_trans S13.out (Nat.le_trans S14.out (Nat.le_trans S15.out S16.out))))).mono ?_
  rintro e w17 ⟨rfl, b⟩
  have S17 := Lib.hid b.size
  replace o_x := o_x.keep b (Nat.le_trans S8.out (Nat.le_trans S9.out (Nat.le_trans S10.out (Nat.le_trans S11.out (Nat.le_trans S12.out (Nat.le_trans S13.out (Nat.le_trans S14.out (Nat.le_trans S15.out S16.out))))))))
  replace o_y1 := o_y1.keep b (Nat.le_trans S10.out (Nat.le_trans S11.out (Nat.le_trans S12.out (Nat.le_trans S13.out (Nat.le_trans S14.out (Nat.le_trans S15.out S16.out))))))
  replace o_e1 := o_e1.keep b (Nat.le_trans S10.out (Nat.le_trans S11.out (Nat.le_trans S12.out (Nat.le_trans S13.out (Nat.le_trans S14.out (Nat.le_trans S15.out S16.out))))))
  replace o_y2 := o_y2.keep b (Nat.le_trans S13.out (Nat.le_trans S14.out (Nat.le_trans S15.out S16.out)))
  replace o_e2 := o_e2.keep b (Nat.le_trans S13.out (Nat.le_trans S14.out (Nat.le_trans S15.out S16.out)))
  replace o_vy := o_vy.keep b (Nat.le_trans S15.out S16.out)
  replace o_ve := o_ve.keep b (S16.out)
  replace bb := bb.trans (b.mono (Nat.le_trans S1.out (Nat.le_trans S2.out (Nat.le_trans S3.out (Nat.le_trans S4.out (Nat.le_trans S5.out (Nat.le_trans S6.out (Nat.le_trans S7.out (Nat.le_trans S8.out (Nat.le_trans S9.out (Nat.le_trans S10.out (Nat.le_trans S11.out (Nat.le_trans S12.out (Nat.le_trans S13.out (Nat.le_trans S14.out (Nat.le_trans S15.out S16.out))))))))))))))))
  clear b
  go_wp2_with fail
  go_ret
  exact ⟨rfl, bb⟩
end Go.Proofs.Ytmgjbldnohkodaa
