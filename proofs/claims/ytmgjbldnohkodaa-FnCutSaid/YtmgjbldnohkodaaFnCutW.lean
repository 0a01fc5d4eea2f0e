/- The walk of the law FnCut: it returns true and leaves what was there as it was. -/
import Derived.Test.YtmgjbldnohkodaaPureN2
import Derived.Test.YtmgjbldnohkodaaLawQ
import Derived.Test.YtmgjbldnohkodaaMod5
import Derived.Test.YtmgjbldnohkodaaMod4
namespace Go.Proofs.Ytmgjbldnohkodaa
open Go.RowKit
set_option linter.unusedVariables false
set_option maxRecDepth 100000 in
set_option maxHeartbeats 4000000 in
theorem fnCut_walk (a0 : Option Addr) (n0 c0 : Nat) (z0 : List Int) (w0 : World) (h : IsRow .u8 w0 a0 n0 c0 z0) :
    Calls Try.prog 9 #[.slice a0 n0 c0] w0 fun e w' => e = .returned (.bool true) ∧ Below w0.heap.size w0 w' := by
  have hle := h.le
  by_cases hn : n0 ≤ 1048576
  rotate_left
  · go_enter Try.func9, Try.ntmps9
    go_wp2_with fail
    go_ret
    exact ⟨rfl, Below.refl _ _⟩
  have s_code := h.bsl hn
  clear h hle
  have bb := Below.refl w0.heap.size w0
  go_enter Try.func9, Try.ntmps9
  go_wp2_with fail
  refine (mkM_any _ _ _ _ (s_code.more (Nat.le_refl _))).mono ?_
  rintro e w1 ⟨l, s, a_m, n_m, c_m, cs, hl2, hl6, hs, hm, hc, rfl, o_m, b⟩
  have S1 := Lib.hid b.size
  replace s_code := s_code.keep (b.mono (Nat.le_refl _))
  replace bb := bb.trans (b.mono (Nat.le_refl _))
  clear b
  have hn_m : n_m ≤ 1048576 := by rw [← o_m.len]; have := (isMod_true hm).2.2.1; omega
  have hsb := smallS_bd hs
  have hN6 : n_m ≤ 6 := by rw [← o_m.len]; exact (isMod_true hm).2.2.1
  have hN1 : 1 ≤ n_m := by rw [← o_m.len]; exact (isMod_true hm).2.1
  have HM := Lib.hid hm
  have HC := Lib.hid hc
  clear hs hm hc
  have b := box_below w1 (.cells #[.int .i64 l, .int .i64 s, .slice a_m n_m c_m] 27)
  have c_M_0 : (w1.alloc (.cells #[.int .i64 l, .int .i64 s, .slice a_m n_m c_m] 27)).cell? ⟨w1.heap.size, 0, none⟩ = some (.int .i64 l) := by simp [go_sem]
  have c_M_1 : (w1.alloc (.cells #[.int .i64 l, .int .i64 s, .slice a_m n_m c_m] 27)).cell? ⟨w1.heap.size, 1, none⟩ = some (.int .i64 s) := by simp [go_sem]
  have c_M_2 : (w1.alloc (.cells #[.int .i64 l, .int .i64 s, .slice a_m n_m c_m] 27)).cell? ⟨w1.heap.size, 2, none⟩ = some (.slice a_m n_m c_m) := by simp [go_sem]
  go_wp2_with fail
  have z_M : w1.heap.size < (w1.alloc (.cells #[.int .i64 l, .int .i64 s, .slice a_m n_m c_m] 27)).heap.size := by simp
  generalize hgw : (w1.alloc (.cells #[.int .i64 l, .int .i64 s, .slice a_m n_m c_m] 27)) = w2 at c_M_0 c_M_1 c_M_2 z_M b ⊢
  clear hgw 
  have S2 := Lib.hid b.size
  replace o_m := o_m.keep b (Nat.le_refl _)
  replace s_code := s_code.keep (b.mono (S1.out))
  replace bb := bb.trans (b.mono (S1.out))
  clear b
  go_wp2_with fail
  have S3 : Hid (w2.heap.size ≤ w2.drew.heap.size) := Nat.le_refl _
  replace o_m := o_m.drew
  replace c_M_0 : w2.drew.cell? ⟨w1.heap.size, 0, none⟩ = some (.int .i64 l) := c_M_0
  replace c_M_1 : w2.drew.cell? ⟨w1.heap.size, 1, none⟩ = some (.int .i64 s) := c_M_1
  replace c_M_2 : w2.drew.cell? ⟨w1.heap.size, 2, none⟩ = some (.slice a_m n_m c_m) := c_M_2
  replace bb := bb.drew
  replace s_code := s_code.drew
  go_region_held3 (fun w' => w'.cell? ⟨w1.heap.size, 0, none⟩ = some (.int .i64 l) ∧ w'.cell? ⟨w1.heap.size, 1, none⟩ = some (.int .i64 s) ∧ w'.cell? ⟨w1.heap.size, 2, none⟩ = some (.slice a_m n_m c_m)) (go_keep) (first | (go_at_call 15; refine (fresh_any _ _ _ 3 _ (s_code.more (Nat.le_trans S1.out (Nat.le_trans S2.out S3.out))) (by omega)).mono ?_; rintro e w4 ⟨a_f, n_f, c_f, rfl, s_f, b⟩; have S4 := Lib.hid b.size; replace o_m := o_m.keep b (Nat.le_trans S2.out S3.out); replace c_M_0 := (b.cell (p := ⟨w1.heap.size, 0, none⟩) (Nat.lt_of_lt_of_le z_M (S3.out))).trans c_M_0; replace c_M_1 := (b.cell (p := ⟨w1.heap.size, 1, none⟩) (Nat.lt_of_lt_of_le z_M (S3.out))).trans c_M_1; replace c_M_2 := (b.cell (p := ⟨w1.heap.size, 2, none⟩) (Nat.lt_of_lt_of_le z_M (S3.out))).trans c_M_2; replace s_code := s_code.keep (b.mono (Nat.le_trans S1.out (Nat.le_trans S2.out S3.out))); replace bb := bb.trans (b.mono (Nat.le_trans S1.out (Nat.le_trans S2.out S3.out))); clear b) | (go_at_call 14; refine (mkMem_any l s _ _ _ _ _ _ _ (s_f.more (Nat.le_refl _)) (by omega) (by omega)).mono ?_; rintro e w5 ⟨a_k, c_k, x_k, rfl, o_k, w_k, b⟩; have S5 := Lib.hid b.size; replace o_m := o_m.keep b (Nat.le_trans S2.out (Nat.le_trans S3.out S4.out)); replace c_M_0 := (b.cell (p := ⟨w1.heap.size, 0, none⟩) (Nat.lt_of_lt_of_le z_M (Nat.le_trans S3.out S4.out))).trans c_M_0; replace c_M_1 := (b.cell (p := ⟨w1.heap.size, 1, none⟩) (Nat.lt_of_lt_of_le z_M (Nat.le_trans S3.out S4.out))).trans c_M_1; replace c_M_2 := (b.cell (p := ⟨w1.heap.size, 2, none⟩) (Nat.lt_of_lt_of_le z_M (Nat.le_trans S3.out S4.out))).trans c_M_2; replace s_code := s_code.keep (b.mono (Nat.le_trans S1.out (Nat.le_trans S2.out (Nat.le_trans S3.out S4.out)))); replace s_f := s_f.keep (b.mono (Nat.le_refl _)); replace bb := bb.trans (b.mono (Nat.le_trans S1.out (Nat.le_trans S2.out (Nat.le_trans S3.out S4.out)))); clear b))
  have hn_k : n_m ≤ 1048576 := by omega
  clear s_f
  go_wp2_with fail
  refine (fresh_any _ _ _ 5 _ (s_code.more (Nat.le_trans S1.out (Nat.le_trans S2.out (Nat.le_trans S3.out (Nat.le_trans S4.out S5.out))))) (by omega)).mono ?_
  rintro e w6 ⟨a_f, n_f, c_f, rfl, s_f, b⟩
  have S6 := Lib.hid b.size
  replace o_m := o_m.keep b (Nat.le_trans S2.out (Nat.le_trans S3.out (Nat.le_trans S4.out S5.out)))
  replace c_M_0 := (b.cell (p := ⟨w1.heap.size, 0, none⟩) (Nat.lt_of_lt_of_le z_M (Nat.le_trans S3.out (Nat.le_trans S4.out S5.out)))).trans c_M_0
  replace c_M_1 := (b.cell (p := ⟨w1.heap.size, 1, none⟩) (Nat.lt_of_lt_of_le z_M (Nat.le_trans S3.out (Nat.le_trans S4.out S5.out)))).trans c_M_1
  replace c_M_2 := (b.cell (p := ⟨w1.heap.size, 2, none⟩) (Nat.lt_of_lt_of_le z_M (Nat.le_trans S3.out (Nat.le_trans S4.out S5.out)))).trans c_M_2
  replace o_k := o_k.keep b (Nat.le_refl _)
  replace s_code := s_code.keep (b.mono (Nat.le_trans S1.out (Nat.le_trans S2.out (Nat.le_trans S3.out (Nat.le_trans S4.out S5.out)))))
  replace bb := bb.trans (b.mono (Nat.le_trans S1.out (Nat.le_trans S2.out (Nat.le_trans S3.out (Nat.le_trans S4.out S5.out)))))
  clear b
  go_wp2_with fail
  refine (at_any _ _ _ _ 1 _ s_code (by omega)).mono ?_
  rintro e w' ⟨a, a0, a1, rfl, rfl⟩
  go_wp2_with fail
  refine (mkSeq_any _ _ _ 15 (1 + a) _ (s_f.more (Nat.le_refl _)) (by omega) (by omega) (by omega)).mono ?_
  rintro e w7 ⟨a_x, n_x, c_x, x_x, rfl, o_x, l_x, i_x, j_x, b⟩
  have S7 := Lib.hid b.size
  replace o_m := o_m.keep b (Nat.le_trans S2.out (Nat.le_trans S3.out (Nat.le_trans S4.out (Nat.le_trans S5.out S6.out))))
  replace c_M_0 := (b.cell (p := ⟨w1.heap.size, 0, none⟩) (Nat.lt_of_lt_of_le z_M (Nat.le_trans S3.out (Nat.le_trans S4.out (Nat.le_trans S5.out S6.out))))).trans c_M_0
  replace c_M_1 := (b.cell (p := ⟨w1.heap.size, 1, none⟩) (Nat.lt_of_lt_of_le z_M (Nat.le_trans S3.out (Nat.le_trans S4.out (Nat.le_trans S5.out S6.out))))).trans c_M_1
  replace c_M_2 := (b.cell (p := ⟨w1.heap.size, 2, none⟩) (Nat.lt_of_lt_of_le z_M (Nat.le_trans S3.out (Nat.le_trans S4.out (Nat.le_trans S5.out S6.out))))).trans c_M_2
  replace o_k := o_k.keep b (S6.out)
  replace s_code := s_code.keep (b.mono (Nat.le_trans S1.out (Nat.le_trans S2.out (Nat.le_trans S3.out (Nat.le_trans S4.out (Nat.le_trans S5.out S6.out))))))
  replace s_f := s_f.keep (b.mono (Nat.le_refl _))
  replace bb := bb.trans (b.mono (Nat.le_trans S1.out (Nat.le_trans S2.out (Nat.le_trans S3.out (Nat.le_trans S4.out (Nat.le_trans S5.out S6.out))))))
  clear b
  have hn_x : n_x ≤ 1048576 := by omega
  clear s_f
  go_wp2_with fail
  refine (fresh_any _ _ _ 7 _ (s_code.more (Nat.le_trans S1.out (Nat.le_trans S2.out (Nat.le_trans S3.out (Nat.le_trans S4.out (Nat.le_trans S5.out (Nat.le_trans S6.out S7.out))))))) (by omega)).mono ?_
  rintro e w8 ⟨a_f, n_f, c_f, rfl, s_f, b⟩
  have S8 := Lib.hid b.size
  replace o_m := o_m.keep b (Nat.le_trans S2.out (Nat.le_trans S3.out (Nat.le_trans S4.out (Nat.le_trans S5.out (Nat.le_trans S6.out S7.out)))))
  replace c_M_0 := (b.cell (p := ⟨w1.heap.size, 0, none⟩) (Nat.lt_of_lt_of_le z_M (Nat.le_trans S3.out (Nat.le_trans S4.out (Nat.le_trans S5.out (Nat.le_trans S6.out S7.out)))))).trans c_M_0
  replace c_M_1 := (b.cell (p := ⟨w1.heap.size, 1, none⟩) (Nat.lt_of_lt_of_le z_M (Nat.le_trans S3.out (Nat.le_trans S4.out (Nat.le_trans S5.out (Nat.le_trans S6.out S7.out)))))).trans c_M_1
  replace c_M_2 := (b.cell (p := ⟨w1.heap.size, 2, none⟩) (Nat.lt_of_lt_of_le z_M (Nat.le_trans S3.out (Nat.le_trans S4.out (Nat.le_trans S5.out (Nat.le_trans S6.out S7.out)))))).trans c_M_2
  replace o_k := o_k.keep b (Nat.le_trans S6.out S7.out)
  replace o_x := o_x.keep b (Nat.le_refl _)
  replace s_code := s_code.keep (b.mono (Nat.le_trans S1.out (Nat.le_trans S2.out (Nat.le_trans S3.out (Nat.le_trans S4.out (Nat.le_trans S5.out (Nat.le_trans S6.out S7.out)))))))
  replace bb := bb.trans (b.mono (Nat.le_trans S1.out (Nat.le_trans S2.out (Nat.le_trans S3.out (Nat.le_trans S4.out (Nat.le_trans S5.out (Nat.le_trans S6.out S7.out)))))))
  clear b
  go_wp2_with fail
  refine (at_any _ _ _ _ 1 _ s_code (by omega)).mono ?_
  rintro e w' ⟨a2, a20, a21, rfl, rfl⟩
  go_wp2_with fail
  refine (mkSeq_any _ _ _ 15 (1 + a2) _ (s_f.more (Nat.le_refl _)) (by omega) (by omega) (by omega)).mono ?_
  rintro e w9 ⟨a_u, n_u, c_u, x_u, rfl, o_u, l_u, i_u, j_u, b⟩
  have S9 := Lib.hid b.size
  replace o_m := o_m.keep b (Nat.le_trans S2.out (Nat.le_trans S3.out (Nat.le_trans S4.out (Nat.le_trans S5.out (Nat.le_trans S6.out (Nat.le_trans S7.out S8.out))))))
  replace c_M_0 := (b.cell (p := ⟨w1.heap.size, 0, none⟩) (Nat.lt_of_lt_of_le z_M (Nat.le_trans S3.out (Nat.le_trans S4.out (Nat.le_trans S5.out (Nat.le_trans S6.out (Nat.le_trans S7.out S8.out))))))).trans c_M_0
  replace c_M_1 := (b.cell (p := ⟨w1.heap.size, 1, none⟩) (Nat.lt_of_lt_of_le z_M (Nat.le_trans S3.out (Nat.le_trans S4.out (Nat.le_trans S5.out (Nat.le_trans S6.out (Nat.le_trans S7.out S8.out))))))).trans c_M_1
  replace c_M_2 := (b.cell (p := ⟨w1.heap.size, 2, none⟩) (Nat.lt_of_lt_of_le z_M (Nat.le_trans S3.out (Nat.le_trans S4.out (Nat.le_trans S5.out (Nat.le_trans S6.out (Nat.le_trans S7.out S8.out))))))).trans c_M_2
  replace o_k := o_k.keep b (Nat.le_trans S6.out (Nat.le_trans S7.out S8.out))
  replace o_x := o_x.keep b (S8.out)
  replace s_code := s_code.keep (b.mono (Nat.le_trans S1.out (Nat.le_trans S2.out (Nat.le_trans S3.out (Nat.le_trans S4.out (Nat.le_trans S5.out (Nat.le_trans S6.out (Nat.le_trans S7.out S8.out))))))))
  replace s_f := s_f.keep (b.mono (Nat.le_refl _))
  replace bb := bb.trans (b.mono (Nat.le_trans S1.out (Nat.le_trans S2.out (Nat.le_trans S3.out (Nat.le_trans S4.out (Nat.le_trans S5.out (Nat.le_trans S6.out (Nat.le_trans S7.out S8.out))))))))
  clear b
  have hn_u : n_u ≤ 1048576 := by omega
  clear s_f
  clear s_code
  have OF := Lib.hid (fun hB => cut_facts (l := l) (s := s) (cs := cs) (ms := x_k) (us := x_x) (vs := x_u) hB)
  obtain ⟨Y1, hY1⟩ : ∃ Y1, Hid (runY l s cs x_k x_x = Y1) := ⟨_, rfl⟩
  obtain ⟨E1, hE1⟩ : ∃ E1, Hid (runE l s cs x_k x_x = E1) := ⟨_, rfl⟩
  obtain ⟨Z1, hZ1⟩ : ∃ Z1, Hid (runM l s cs x_k x_x = Z1) := ⟨_, rfl⟩
  obtain ⟨B1, hB1⟩ : ∃ B1, Hid (runB l s cs x_k x_x = B1) := ⟨_, rfl⟩
  have RL1 := Lib.hid (run_lens l s cs x_k x_x)
  rw [hY1.out, hE1.out, hZ1.out] at RL1
  obtain ⟨Y2, hY2⟩ : ∃ Y2, Hid (runY l s cs Z1 x_u = Y2) := ⟨_, rfl⟩
  obtain ⟨E2, hE2⟩ : ∃ E2, Hid (runE l s cs Z1 x_u = E2) := ⟨_, rfl⟩
  obtain ⟨Z2, hZ2⟩ : ∃ Z2, Hid (runM l s cs Z1 x_u = Z2) := ⟨_, rfl⟩
  obtain ⟨B2, hB2⟩ : ∃ B2, Hid (runB l s cs Z1 x_u = B2) := ⟨_, rfl⟩
  have RL2 := Lib.hid (run_lens l s cs Z1 x_u)
  rw [hY2.out, hE2.out, hZ2.out] at RL2
  obtain ⟨Y3, hY3⟩ : ∃ Y3, Hid (runY l s cs x_k (x_x ++ x_u) = Y3) := ⟨_, rfl⟩
  obtain ⟨E3, hE3⟩ : ∃ E3, Hid (runE l s cs x_k (x_x ++ x_u) = E3) := ⟨_, rfl⟩
  obtain ⟨Z3, hZ3⟩ : ∃ Z3, Hid (runM l s cs x_k (x_x ++ x_u) = Z3) := ⟨_, rfl⟩
  obtain ⟨B3, hB3⟩ : ∃ B3, Hid (runB l s cs x_k (x_x ++ x_u) = B3) := ⟨_, rfl⟩
  have RL3 := Lib.hid (run_lens l s cs x_k (x_x ++ x_u))
  rw [hY3.out, hE3.out, hZ3.out] at RL3
  rw [hY1.out, hE1.out, hZ1.out, hB1.out, hY2.out, hE2.out, hZ2.out, hB2.out, hY3.out, hE3.out, hZ3.out, hB3.out] at OF
  have LF1 := Lib.hid (fun hB => run_len (l := l) (s := s) (cs := cs) (ms := x_k) (xs := x_x) hB)
  rw [hY1.out, hE1.out, hB1.out] at LF1
  have LF2 := Lib.hid (fun hB => run_len (l := l) (s := s) (cs := cs) (ms := Z1) (xs := x_u) hB)
  rw [hY2.out, hE2.out, hB2.out] at LF2
  go_wp2_with fail
  refine (run_i l s _ _ _ _ _ _ _ _ _ cs x_k x_x _ ((o_m.sl hn_m).more (Nat.le_trans S2.out (Nat.le_trans S3.out (Nat.le_trans S4.out (Nat.le_trans S5.out (Nat.le_trans S6.out (Nat.le_trans S7.out (Nat.le_trans S8.out S9.out)))))))) ((o_k.sl hn_k).more (Nat.le_trans S6.out (Nat.le_trans S7.out (Nat.le_trans S8.out S9.out)))) ((o_x.sl hn_x).more (Nat.le_trans S8.out S9.out))).mono ?_
  rw [hY1.out, hE1.out, hZ1.out, hB1.out]
  rintro e w10 ⟨a_y1, n_y1, c_y1, a_e1, n_e1, c_e1, a_z1, n_z1, c_z1, rfl, o_y1, o_e1, o_z1, f1, f2, f3, b⟩
  have S10 := Lib.hid b.size
  replace o_m := o_m.keep b (Nat.le_trans S2.out (Nat.le_trans S3.out (Nat.le_trans S4.out (Nat.le_trans S5.out (Nat.le_trans S6.out (Nat.le_trans S7.out (Nat.le_trans S8.out S9.out)))))))
  replace c_M_0 := (b.cell (p := ⟨w1.heap.size, 0, none⟩) (Nat.lt_of_lt_of_le z_M (Nat.le_trans S3.out (Nat.le_trans S4.out (Nat.le_trans S5.out (Nat.le_trans S6.out (Nat.le_trans S7.out (Nat.le_trans S8.out S9.out)))))))).trans c_M_0
  replace c_M_1 := (b.cell (p := ⟨w1.heap.size, 1, none⟩) (Nat.lt_of_lt_of_le z_M (Nat.le_trans S3.out (Nat.le_trans S4.out (Nat.le_trans S5.out (Nat.le_trans S6.out (Nat.le_trans S7.out (Nat.le_trans S8.out S9.out)))))))).trans c_M_1
  replace c_M_2 := (b.cell (p := ⟨w1.heap.size, 2, none⟩) (Nat.lt_of_lt_of_le z_M (Nat.le_trans S3.out (Nat.le_trans S4.out (Nat.le_trans S5.out (Nat.le_trans S6.out (Nat.le_trans S7.out (Nat.le_trans S8.out S9.out)))))))).trans c_M_2
  replace o_k := o_k.keep b (Nat.le_trans S6.out (Nat.le_trans S7.out (Nat.le_trans S8.out S9.out)))
  replace o_x := o_x.keep b (Nat.le_trans S8.out S9.out)
  replace o_u := o_u.keep b (Nat.le_refl _)
  replace bb := bb.trans (b.mono (Nat.le_trans S1.out (Nat.le_trans S2.out (Nat.le_trans S3.out (Nat.le_trans S4.out (Nat.le_trans S5.out (Nat.le_trans S6.out (Nat.le_trans S7.out (Nat.le_trans S8.out S9.out)))))))))
  clear b
  clear f1 f2 f3
  have hn_y1 : n_y1 ≤ 1048576 := (by rw [← o_y1.len]; exact RL1.out.1)
  have hn_e1 : n_e1 ≤ 1048576 := (by rw [← o_e1.len]; exact RL1.out.2.1)
  have hn_z1 : n_z1 ≤ 1048576 := (by rw [← o_z1.len]; exact RL1.out.2.2)
  go_wp2_with fail
  refine (run_i l s _ _ _ _ _ _ _ _ _ cs Z1 x_u _ ((o_m.sl hn_m).more (Nat.le_trans S2.out (Nat.le_trans S3.out (Nat.le_trans S4.out (Nat.le_trans S5.out (Nat.le_trans S6.out (Nat.le_trans S7.out (Nat.le_trans S8.out (Nat.le_trans S9.out S10.out))))))))) ((o_z1.sl hn_z1).more (Nat.le_refl _)) ((o_u.sl hn_u).more (S10.out))).mono ?_
  rw [hY2.out, hE2.out, hZ2.out, hB2.out]
  rintro e w11 ⟨a_y2, n_y2, c_y2, a_e2, n_e2, c_e2, a_z2, n_z2, c_z2, rfl, o_y2, o_e2, o_z2, f1, f2, f3, b⟩
  have S11 := Lib.hid b.size
  replace o_m := o_m.keep b (Nat.le_trans S2.out (Nat.le_trans S3.out (Nat.le_trans S4.out (Nat.le_trans S5.out (Nat.le_trans S6.out (Nat.le_trans S7.out (Nat.le_trans S8.out (Nat.le_trans S9.out S10.out))))))))
  replace c_M_0 := (b.cell (p := ⟨w1.heap.size, 0, none⟩) (Nat.lt_of_lt_of_le z_M (Nat.le_trans S3.out (Nat.le_trans S4.out (Nat.le_trans S5.out (Nat.le_trans S6.out (Nat.le_trans S7.out (Nat.le_trans S8.out (Nat.le_trans S9.out S10.out))))))))).trans c_M_0
  replace c_M_1 := (b.cell (p := ⟨w1.heap.size, 1, none⟩) (Nat.lt_of_lt_of_le z_M (Nat.le_trans S3.out (Nat.le_trans S4.out (Nat.le_trans S5.out (Nat.le_trans S6.out (Nat.le_trans S7.out (Nat.le_trans S8.out (Nat.le_trans S9.out S10.out))))))))).trans c_M_1
  replace c_M_2 := (b.cell (p := ⟨w1.heap.size, 2, none⟩) (Nat.lt_of_lt_of_le z_M (Nat.le_trans S3.out (Nat.le_trans S4.out (Nat.le_trans S5.out (Nat.le_trans S6.out (Nat.le_trans S7.out (Nat.le_trans S8.out (Nat.le_trans S9.out S10.out))))))))).trans c_M_2
  replace o_k := o_k.keep b (Nat.le_trans S6.out (Nat.le_trans S7.out (Nat.le_trans S8.out (Nat.le_trans S9.out S10.out))))
  replace o_x := o_x.keep b (Nat.le_trans S8.out (Nat.le_trans S9.out S10.out))
  replace o_u := o_u.keep b (S10.out)
  replace o_y1 := o_y1.keep b (Nat.le_refl _)
  replace o_e1 := o_e1.keep b (Nat.le_refl _)
  replace o_z1 := o_z1.keep b (Nat.le_refl _)
  replace bb := bb.trans (b.mono (Nat.le_trans S1.out (Nat.le_trans S2.out (Nat.le_trans S3.out (Nat.le_trans S4.out (Nat.le_trans S5.out (Nat.le_trans S6.out (Nat.le_trans S7.out (Nat.le_trans S8.out (Nat.le_trans S9.out S10.out))))))))))
  clear b
  clear f1 f2 f3
  have hn_y2 : n_y2 ≤ 1048576 := (by rw [← o_y2.len]; exact RL2.out.1)
  have hn_e2 : n_e2 ≤ 1048576 := (by rw [← o_e2.len]; exact RL2.out.2.1)
  have hn_z2 : n_z2 ≤ 1048576 := (by rw [← o_z2.len]; exact RL2.out.2.2)
  go_wp2_with fail
  have S12 : Hid (w11.heap.size ≤ w11.drew.heap.size) := Nat.le_refl _
  replace o_m := o_m.drew
  replace c_M_0 : w11.drew.cell? ⟨w1.heap.size, 0, none⟩ = some (.int .i64 l) := c_M_0
  replace c_M_1 : w11.drew.cell? ⟨w1.heap.size, 1, none⟩ = some (.int .i64 s) := c_M_1
  replace c_M_2 : w11.drew.cell? ⟨w1.heap.size, 2, none⟩ = some (.slice a_m n_m c_m) := c_M_2
  replace o_k := o_k.drew
  replace o_x := o_x.drew
  replace o_u := o_u.drew
  replace o_y1 := o_y1.drew
  replace o_e1 := o_e1.drew
  replace o_z1 := o_z1.drew
  replace o_y2 := o_y2.drew
  replace o_e2 := o_e2.drew
  replace o_z2 := o_z2.drew
  replace bb := bb.drew
  go_region_held3 (fun w' => w'.cell? ⟨w1.heap.size, 0, none⟩ = some (.int .i64 l) ∧ w'.cell? ⟨w1.heap.size, 1, none⟩ = some (.int .i64 s) ∧ w'.cell? ⟨w1.heap.size, 2, none⟩ = some (.slice a_m n_m c_m)) (go_keep) (first | (go_at_call 44; refine (two_any _ _ _ _ _ _ x_x x_u _ ((o_x.sl hn_x).more (Nat.le_trans S8.out (Nat.le_trans S9.out (Nat.le_trans S10.out (Nat.le_trans S11.out S12.out))))) ((o_u.sl hn_u).more (Nat.le_trans S10.out (Nat.le_trans S11.out S12.out))) (by omega)).mono ?_; rintro e w13 ⟨a_t3, c_t3, rfl, o_t3, b⟩; have S13 := Lib.hid b.size; replace o_m := o_m.keep b (Nat.le_trans S2.out (Nat.le_trans S3.out (Nat.le_trans S4.out (Nat.le_trans S5.out (Nat.le_trans S6.out (Nat.le_trans S7.out (Nat.le_trans S8.out (Nat.le_trans S9.out (Nat.le_trans S10.out (Nat.le_trans S11.out S12.out)))))))))); replace c_M_0 := (b.cell (p := ⟨w1.heap.size, 0, none⟩) (Nat.lt_of_lt_of_le z_M (Nat.le_trans S3.out (Nat.le_trans S4.out (Nat.le_trans S5.out (Nat.le_trans S6.out (Nat.le_trans S7.out (Nat.le_trans S8.out (Nat.le_trans S9.out (Nat.le_trans S10.out (Nat.le_trans S11.out S12.out))))))))))).trans c_M_0; replace c_M_1 := (b.cell (p := ⟨w1.heap.size, 1, none⟩) (Nat.lt_of_lt_of_le z_M (Nat.le_trans S3.out (Nat.le_trans S4.out (Nat.le_trans S5.out (Nat.le_trans S6.out (Nat.le_trans S7.out (Nat.le_trans S8.out (Nat.le_trans S9.out (Nat.le_trans S10.out (Nat.le_trans S11.out S12.out))))))))))).trans c_M_1; replace c_M_2 := (b.cell (p := ⟨w1.heap.size, 2, none⟩) (Nat.lt_of_lt_of_le z_M (Nat.le_trans S3.out (Nat.le_trans S4.out (Nat.le_trans S5.out (Nat.le_trans S6.out (Nat.le_trans S7.out (Nat.le_trans S8.out (Nat.le_trans S9.out (Nat.le_trans S10.out (Nat.le_trans S11.out S12.out))))))))))).trans c_M_2; replace o_k := o_k.keep b (Nat.le_trans S6.out (Nat.le_trans S7.out (Nat.le_trans S8.out (Nat.le_trans S9.out (Nat.le_trans S10.out (Nat.le_trans S11.out S12.out)))))); replace o_x := o_x.keep b (Nat.le_trans S8.out (Nat.le_trans S9.out (Nat.le_trans S10.out (Nat.le_trans S11.out S12.out)))); replace o_u := o_u.keep b (Nat.le_trans S10.out (Nat.le_trans S11.out S12.out)); replace o_y1 := o_y1.keep b (Nat.le_trans S11.out S12.out); replace o_e1 := o_e1.keep b (Nat.le_trans S11.out S12.out); replace o_z1 := o_z1.keep b (Nat.le_trans S11.out S12.out); replace o_y2 := o_y2.keep b (S12.out); replace o_e2 := o_e2.keep b (S12.out); replace o_z2 := o_z2.keep b (S12.out); replace bb := bb.trans (b.mono (Nat.le_trans S1.out (Nat.le_trans S2.out (Nat.le_trans S3.out (Nat.le_trans S4.out (Nat.le_trans S5.out (Nat.le_trans S6.out (Nat.le_trans S7.out (Nat.le_trans S8.out (Nat.le_trans S9.out (Nat.le_trans S10.out (Nat.le_trans S11.out S12.out)))))))))))); clear b; have hn_t3 : n_x + n_u ≤ 1048576 := by omega) | (go_at_call 19; refine (run_i l s _ _ _ _ _ _ _ _ _ cs x_k (x_x ++ x_u) _ ((o_m.sl hn_m).more (Nat.le_trans S2.out (Nat.le_trans S3.out (Nat.le_trans S4.out (Nat.le_trans S5.out (Nat.le_trans S6.out (Nat.le_trans S7.out (Nat.le_trans S8.out (Nat.le_trans S9.out (Nat.le_trans S10.out (Nat.le_trans S11.out (Nat.le_trans S12.out S13.out)))))))))))) ((o_k.sl hn_k).more (Nat.le_trans S6.out (Nat.le_trans S7.out (Nat.le_trans S8.out (Nat.le_trans S9.out (Nat.le_trans S10.out (Nat.le_trans S11.out (Nat.le_trans S12.out S13.out)))))))) ((o_t3.sl hn_t3).more (Nat.le_refl _))).mono ?_; rw [hY3.out, hE3.out, hZ3.out, hB3.out]; rintro e w14 ⟨a_y3, n_y3, c_y3, a_e3, n_e3, c_e3, a_z3, n_z3, c_z3, rfl, o_y3, o_e3, o_z3, f1, f2, f3, b⟩; have S14 := Lib.hid b.size; replace o_m := o_m.keep b (Nat.le_trans S2.out (Nat.le_trans S3.out (Nat.le_trans S4.out (Nat.le_trans S5.out (Nat.le_trans S6.out (Nat.le_trans S7.out (Nat.le_trans S8.out (Nat.le_trans S9.out (Nat.le_trans S10.out (Nat.le_trans S11.out (Nat.le_trans S12.out S13.out))))))))))); replace c_M_0 := (b.cell (p := ⟨w1.heap.size, 0, none⟩) (Nat.lt_of_lt_of_le z_M (Nat.le_trans S3.out (Nat.le_trans S4.out (Nat.le_trans S5.out (Nat.le_trans S6.out (Nat.le_trans S7.out (Nat.le_trans S8.out (Nat.le_trans S9.out (Nat.le_trans S10.out (Nat.le_trans S11.out (Nat.le_trans S12.out S13.out)))))))))))).trans c_M_0; replace c_M_1 := (b.cell (p := ⟨w1.heap.size, 1, none⟩) (Nat.lt_of_lt_of_le z_M (Nat.le_trans S3.out (Nat.le_trans S4.out (Nat.le_trans S5.out (Nat.le_trans S6.out (Nat.le_trans S7.out (Nat.le_trans S8.out (Nat.le_trans S9.out (Nat.le_trans S10.out (Nat.le_trans S11.out (Nat.le_trans S12.out S13.out)))))))))))).trans c_M_1; replace c_M_2 := (b.cell (p := ⟨w1.heap.size, 2, none⟩) (Nat.lt_of_lt_of_le z_M (Nat.le_trans S3.out (Nat.le_trans S4.out (Nat.le_trans S5.out (Nat.le_trans S6.out (Nat.le_trans S7.out (Nat.le_trans S8.out (Nat.le_trans S9.out (Nat.le_trans S10.out (Nat.le_trans S11.out (Nat.le_trans S12.out S13.out)))))))))))).trans c_M_2; replace o_k := o_k.keep b (Nat.le_trans S6.out (Nat.le_trans S7.out (Nat.le_trans S8.out (Nat.le_trans S9.out (Nat.le_trans S10.out (Nat.le_trans S11.out (Nat.le_trans S12.out S13.out))))))); replace o_x := o_x.keep b (Nat.le_trans S8.out (Nat.le_trans S9.out (Nat.le_trans S10.out (Nat.le_trans S11.out (Nat.le_trans S12.out S13.out))))); replace o_u := o_u.keep b (Nat.le_trans S10.out (Nat.le_trans S11.out (Nat.le_trans S12.out S13.out))); replace o_y1 := o_y1.keep b (Nat.le_trans S11.out (Nat.le_trans S12.out S13.out)); replace o_e1 := o_e1.keep b (Nat.le_trans S11.out (Nat.le_trans S12.out S13.out)); replace o_z1 := o_z1.keep b (Nat.le_trans S11.out (Nat.le_trans S12.out S13.out)); replace o_y2 := o_y2.keep b (Nat.le_trans S12.out S13.out); replace o_e2 := o_e2.keep b (Nat.le_trans S12.out S13.out); replace o_z2 := o_z2.keep b (Nat.le_trans S12.out S13.out); replace o_t3 := o_t3.keep b (Nat.le_refl _); replace bb := bb.trans (b.mono (Nat.le_trans S1.out (Nat.le_trans S2.out (Nat.le_trans S3.out (Nat.le_trans S4.out (Nat.le_trans S5.out (Nat.le_trans S6.out (Nat.le_trans S7.out (Nat.le_trans S8.out (Nat.le_trans S9.out (Nat.le_trans S10.out (Nat.le_trans S11.out (Nat.le_trans S12.out S13.out))))))))))))); clear b; clear f1 f2 f3; have hn_y3 : n_y3 ≤ 1048576 := (by rw [← o_y3.len]; exact RL3.out.1); have hn_e3 : n_e3 ≤ 1048576 := (by rw [← o_e3.len]; exact RL3.out.2.1); have hn_z3 : n_z3 ≤ 1048576 := (by rw [← o_z3.len]; exact RL3.out.2.2)))
  clear o_t3
  go_wp2_with fail
  have S15 : Hid (w14.heap.size ≤ w14.drew.heap.size) := Nat.le_refl _
  replace o_m := o_m.drew
  replace c_M_0 : w14.drew.cell? ⟨w1.heap.size, 0, none⟩ = some (.int .i64 l) := c_M_0
  replace c_M_1 : w14.drew.cell? ⟨w1.heap.size, 1, none⟩ = some (.int .i64 s) := c_M_1
  replace c_M_2 : w14.drew.cell? ⟨w1.heap.size, 2, none⟩ = some (.slice a_m n_m c_m) := c_M_2
  replace o_k := o_k.drew
  replace o_x := o_x.drew
  replace o_u := o_u.drew
  replace o_y1 := o_y1.drew
  replace o_e1 := o_e1.drew
  replace o_z1 := o_z1.drew
  replace o_y2 := o_y2.drew
  replace o_e2 := o_e2.drew
  replace o_z2 := o_z2.drew
  replace o_y3 := o_y3.drew
  replace o_e3 := o_e3.drew
  replace o_z3 := o_z3.drew
  replace bb := bb.drew
  go_region_held3 (fun w' => w'.cell? ⟨w1.heap.size, 0, none⟩ = some (.int .i64 l) ∧ w'.cell? ⟨w1.heap.size, 1, none⟩ = some (.int .i64 s) ∧ w'.cell? ⟨w1.heap.size, 2, none⟩ = some (.slice a_m n_m c_m)) (go_keep) (first | (go_at_call 44; refine (two_any _ _ _ _ _ _ x_x x_u _ ((o_x.sl hn_x).more (Nat.le_trans S8.out (Nat.le_trans S9.out (Nat.le_trans S10.out (Nat.le_trans S11.out (Nat.le_trans S12.out (Nat.le_trans S13.out (Nat.le_trans S14.out S15.out)))))))) ((o_u.sl hn_u).more (Nat.le_trans S10.out (Nat.le_trans S11.out (Nat.le_trans S12.out (Nat.le_trans S13.out (Nat.le_trans S14.out S15.out)))))) (by omega)).mono ?_; rintro e w16 ⟨a_t4, c_t4, rfl, o_t4, b⟩; have S16 := Lib.hid b.size; replace o_m := o_m.keep b (Nat.le_trans S2.out (Nat.le_trans S3.out (Nat.le_trans S4.out (Nat.le_trans S5.out (Nat.le_trans S6.out (Nat.le_trans S7.out (Nat.le_trans S8.out (Nat.le_trans S9.out (Nat.le_trans S10.out (Nat.le_trans S11.out (Nat.le_trans S12.out (Nat.le_trans S13.out (Nat.le_trans S14.out S15.out))))))))))))); replace c_M_0 := (b.cell (p := ⟨w1.heap.size, 0, none⟩) (Nat.lt_of_lt_of_le z_M (Nat.le_trans S3.out (Nat.le_trans S4.out (Nat.le_trans S5.out (Nat.le_trans S6.out (Nat.le_trans S7.out (Nat.le_trans S8.out (Nat.le_trans S9.out (Nat.le_trans S10.out (Nat.le_trans S11.out (Nat.le_trans S12.out (Nat.le_trans S13.out (Nat.le_trans S14.out S15.out)))))))))))))).trans c_M_0; replace c_M_1 := (b.cell (p := ⟨w1.heap.size, 1, none⟩) (Nat.lt_of_lt_of_le z_M (Nat.le_trans S3.out (Nat.le_trans S4.out (Nat.le_trans S5.out (Nat.le_trans S6.out (Nat.le_trans S7.out (Nat.le_trans S8.out (Nat.le_trans S9.out (Nat.le_trans S10.out (Nat.le_trans S11.out (Nat.le_trans S12.out (Nat.le_trans S13.out (Nat.le_trans S14.out S15.out)))))))))))))).trans c_M_1; replace c_M_2 := (b.cell (p := ⟨w1.heap.size, 2, none⟩) (Nat.lt_of_lt_of_le z_M (Nat.le_trans S3.out (Nat.le_trans S4.out (Nat.le_trans S5.out (Nat.le_trans S6.out (Nat.le_trans S7.out (Nat.le_trans S8.out (Nat.le_trans S9.out (Nat.le_trans S10.out (Nat.le_trans S11.out (Nat.le_trans S12.out (Nat.le_trans S13.out (Nat.le_trans S14.out S15.out)))))))))))))).trans c_M_2; replace o_k := o_k.keep b (Nat.le_trans S6.out (Nat.le_trans S7.out (Nat.le_trans S8.out (Nat.le_trans S9.out (Nat.le_trans S10.out (Nat.le_trans S11.out (Nat.le_trans S12.out (Nat.le_trans S13.out (Nat.le_trans S14.out S15.out))))))))); replace o_x := o_x.keep b (Nat.le_trans S8.out (Nat.le_trans S9.out (Nat.le_trans S10.out (Nat.le_trans S11.out (Nat.le_trans S12.out (Nat.le_trans S13.out (Nat.le_trans S14.out S15.out))))))); replace o_u := o_u.keep b (Nat.le_trans S10.out (Nat.le_trans S11.out (Nat.le_trans S12.out (Nat.le_trans S13.out (Nat.le_trans S14.out S15.out))))); replace o_y1 := o_y1.keep b (Nat.le_trans S11.out (Nat.le_trans S12.out (Nat.le_trans S13.out (Nat.le_trans S14.out S15.out)))); replace o_e1 := o_e1.keep b (Nat.le_trans S11.out (Nat.le_trans S12.out (Nat.le_trans S13.out (Nat.le_trans S14.out S15.out)))); replace o_z1 := o_z1.keep b (Nat.le_trans S11.out (Nat.le_trans S12.out (Nat.le_trans S13.out (Nat.le_trans S14.out S15.out)))); replace o_y2 := o_y2.keep b (Nat.le_trans S12.out (Nat.le_trans S13.out (Nat.le_trans S14.out S15.out))); replace o_e2 := o_e2.keep b (Nat.le_trans S12.out (Nat.le_trans S13.out (Nat.le_trans S14.out S15.out))); replace o_z2 := o_z2.keep b (Nat.le_trans S12.out (Nat.le_trans S13.out (Nat.le_trans S14.out S15.out))); replace o_y3 := o_y3.keep b (S15.out); replace o_e3 := o_e3.keep b (S15.out); replace o_z3 := o_z3.keep b (S15.out); replace bb := bb.trans (b.mono (Nat.le_trans S1.out (Nat.le_trans S2.out (Nat.le_trans S3.out (Nat.le_trans S4.out (Nat.le_trans S5.out (Nat.le_trans S6.out (Nat.le_trans S7.out (Nat.le_trans S8.out (Nat.le_trans S9.out (Nat.le_trans S10.out (Nat.le_trans S11.out (Nat.le_trans S12.out (Nat.le_trans S13.out (Nat.le_trans S14.out S15.out))))))))))))))); clear b; have hn_t4 : n_x + n_u ≤ 1048576 := by omega) | (go_at_call 21; refine (run_s l s _ _ _ _ _ _ _ _ _ cs x_k (x_x ++ x_u) _ ((o_m.sl hn_m).more (Nat.le_trans S2.out (Nat.le_trans S3.out (Nat.le_trans S4.out (Nat.le_trans S5.out (Nat.le_trans S6.out (Nat.le_trans S7.out (Nat.le_trans S8.out (Nat.le_trans S9.out (Nat.le_trans S10.out (Nat.le_trans S11.out (Nat.le_trans S12.out (Nat.le_trans S13.out (Nat.le_trans S14.out (Nat.le_trans S15.out S16.out))))))))))))))) ((o_k.sl hn_k).more (Nat.le_trans S6.out (Nat.le_trans S7.out (Nat.le_trans S8.out (Nat.le_trans S9.out (Nat.le_trans S10.out (Nat.le_trans S11.out (Nat.le_trans S12.out (Nat.le_trans S13.out (Nat.le_trans S14.out (Nat.le_trans S15.out S16.out))))))))))) ((o_t4.sl hn_t4).more (Nat.le_refl _))).mono ?_; rw [hY3.out, hE3.out, hZ3.out, hB3.out]; rintro e w17 ⟨a_y4, n_y4, c_y4, a_e4, n_e4, c_e4, a_z4, n_z4, c_z4, rfl, o_y4, o_e4, o_z4, f1, f2, f3, b⟩; have S17 := Lib.hid b.size; replace o_m := o_m.keep b (Nat.le_trans S2.out (Nat.le_trans S3.out (Nat.le_trans S4.out (Nat.le_trans S5.out (Nat.le_trans S6.out (Nat.le_trans S7.out (Nat.le_trans S8.out (Nat.le_trans S9.out (Nat.le_trans S10.out (Nat.le_trans S11.out (Nat.le_trans S12.out (Nat.le_trans S13.out (Nat.le_trans S14.out (Nat.le_trans S15.out S16.out)))))))))))))); replace c_M_0 := (b.cell (p := ⟨w1.heap.size, 0, none⟩) (Nat.lt_of_lt_of_le z_M (Nat.le_trans S3.out (Nat.le_trans S4.out (Nat.le_trans S5.out (Nat.le_trans S6.out (Nat.le_trans S7.out (Nat.le_trans S8.out (Nat.le_trans S9.out (Nat.le_trans S10.out (Nat.le_trans S11.out (Nat.le_trans S12.out (Nat.le_trans S13.out (Nat.le_trans S14.out (Nat.le_trans S15.out S16.out))))))))))))))).trans c_M_0; replace c_M_1 := (b.cell (p := ⟨w1.heap.size, 1, none⟩) (Nat.lt_of_lt_of_le z_M (Nat.le_trans S3.out (Nat.le_trans S4.out (Nat.le_trans S5.out (Nat.le_trans S6.out (Nat.le_trans S7.out (Nat.le_trans S8.out (Nat.le_trans S9.out (Nat.le_trans S10.out (Nat.le_trans S11.out (Nat.le_trans S12.out (Nat.le_trans S13.out (Nat.le_trans S14.out (Nat.le_trans S15.out S16.out))))))))))))))).trans c_M_1; replace c_M_2 := (b.cell (p := ⟨w1.heap.size, 2, none⟩) (Nat.lt_of_lt_of_le z_M (Nat.le_trans S3.out (Nat.le_trans S4.out (Nat.le_trans S5.out (Nat.le_trans S6.out (Nat.le_trans S7.out (Nat.le_trans S8.out (Nat.le_trans S9.out (Nat.le_trans S10.out (Nat.le_trans S11.out (Nat.le_trans S12.out (Nat.le_trans S13.out (Nat.le_trans S14.out (Nat.le_trans S15.out S16.out))))))))))))))).trans c_M_2; replace o_k := o_k.keep b (Nat.le_trans S6.out (Nat.le_trans S7.out (Nat.le_trans S8.out (Nat.le_trans S9.out (Nat.le_trans S10.out (Nat.le_trans S11.out (Nat.le_trans S12.out (Nat.le_trans S13.out (Nat.le_trans S14.out (Nat.le_trans S15.out S16.out)))))))))); replace o_x := o_x.keep b (Nat.le_trans S8.out (Nat.le_trans S9.out (Nat.le_trans S10.out (Nat.le_trans S11.out (Nat.le_trans S12.out (Nat.le_trans S13.out (Nat.le_trans S14.out (Nat.le_trans S15.out S16.out)))))))); replace o_u := o_u.keep b (Nat.le_trans S10.out (Nat.le_trans S11.out (Nat.le_trans S12.out (Nat.le_trans S13.out (Nat.le_trans S14.out (Nat.le_trans S15.out S16.out)))))); replace o_y1 := o_y1.keep b (Nat.le_trans S11.out (Nat.le_trans S12.out (Nat.le_trans S13.out (Nat.le_trans S14.out (Nat.le_trans S15.out S16.out))))); replace o_e1 := o_e1.keep b (Nat.le_trans S11.out (Nat.le_trans S12.out (Nat.le_trans S13.out (Nat.le_trans S14.out (Nat.le_trans S15.out S16.out))))); replace o_z1 := o_z1.keep b (Nat.le_trans S11.out (Nat.le_trans S12.out (Nat.le_trans S13.out (Nat.le_trans S14.out (Nat.le_trans S15.out S16.out))))); replace o_y2 := o_y2.keep b (Nat.le_trans S12.out (Nat.le_trans S13.out (Nat.le_trans S14.out (Nat.le_trans S15.out S16.out)))); replace o_e2 := o_e2.keep b (Nat.le_trans S12.out (Nat.le_trans S13.out (Nat.le_trans S14.out (Nat.le_trans S15.out S16.out)))); replace o_z2 := o_z2.keep b (Nat.le_trans S12.out (Nat.le_trans S13.out (Nat.le_trans S14.out (Nat.le_trans S15.out S16.out)))); replace o_y3 := o_y3.keep b (Nat.le_trans S15.out S16.out); replace o_e3 := o_e3.keep b (Nat.le_trans S15.out S16.out); replace o_z3 := o_z3.keep b (Nat.le_trans S15.out S16.out); replace o_t4 := o_t4.keep b (Nat.le_refl _); replace bb := bb.trans (b.mono (Nat.le_trans S1.out (Nat.le_trans S2.out (Nat.le_trans S3.out (Nat.le_trans S4.out (Nat.le_trans S5.out (Nat.le_trans S6.out (Nat.le_trans S7.out (Nat.le_trans S8.out (Nat.le_trans S9.out (Nat.le_trans S10.out (Nat.le_trans S11.out (Nat.le_trans S12.out (Nat.le_trans S13.out (Nat.le_trans S14.out (Nat.le_trans S15.out S16.out)))))))))))))))); clear b; clear f1 f2 f3 o_y4 o_e4 o_z4))
  clear o_t4
  cases B3
  · go_wp2_with fail
    go_ret
    exact ⟨rfl, bb⟩
  · obtain ⟨f1, f2, f3, f4, f5⟩ := OF.out rfl
    obtain rfl : B1 = true := f1
    obtain rfl : B2 = true := f2
    obtain ⟨g1, g2⟩ := LF1.out rfl
    obtain ⟨g3, g4⟩ := LF2.out rfl
    have hq_y1 : n_y1 ≤ 15 := by rw [← o_y1.len]; have := o_x.len; omega
    have hq_e1 : n_e1 ≤ 15 := by rw [← o_e1.len]; have := o_x.len; omega
    have hq_y2 : n_y2 ≤ 15 := by rw [← o_y2.len]; have := o_u.len; omega
    have hq_e2 : n_e2 ≤ 15 := by rw [← o_e2.len]; have := o_u.len; omega
    have F3 := Lib.hid f3
    have F4 := Lib.hid f4
    have F5 := Lib.hid f5
    clear OF LF1 LF2 f3 f4 f5 g1 g2 g3 g4
    clear o_x
    clear o_u
    clear o_k
    clear o_z1
    go_wp2_with fail
    refine (two_any _ _ _ _ _ _ Y1 Y2 _ ((o_y1.sl hn_y1).more (Nat.le_trans S11.out (Nat.le_trans S12.out (Nat.le_trans S13.out (Nat.le_trans S14.out (Nat.le_trans S15.out (Nat.le_trans S16.out S17.out))))))) ((o_y2.sl hn_y2).more (Nat.le_trans S12.out (Nat.le_trans S13.out (Nat.le_trans S14.out (Nat.le_trans S15.out (Nat.le_trans S16.out S17.out)))))) (by omega)).mono ?_
    rintro e w18 ⟨a_ty, c_ty, rfl, o_ty, b⟩
    have S18 := Lib.hid b.size
    replace o_m := o_m.keep b (Nat.le_trans S2.out (Nat.le_trans S3.out (Nat.le_trans S4.out (Nat.le_trans S5.out (Nat.le_trans S6.out (Nat.le_trans S7.out (Nat.le_trans S8.out (Nat.le_trans S9.out (Nat.le_trans S10.out (Nat.le_trans S11.out (Nat.le_trans S12.out (Nat.le_trans S13.out (Nat.le_trans S14.out (Nat.le_trans S15.out (Nat.le_trans S16.out S17.out)))))))))))))))
    replace c_M_0 := (b.cell (p := ⟨w1.heap.size, 0, none⟩) (Nat.lt_of_lt_of_le z_M (Nat.le_trans S3.out (Nat.le_trans S4.out (Nat.le_trans S5.out (Nat.le_trans S6.out (Nat.le_trans S7.out (Nat.le_trans S8.out (Nat.le_trans S9.out (Nat.le_trans S10.out (Nat.le_trans S11.out (Nat.le_trans S12.out (Nat.le_trans S13.out (Nat.le_trans S14.out (Nat.le_trans S15.out (Nat.le_trans S16.out S17.out)))))))))))))))).trans c_M_0
    replace c_M_1 := (b.cell (p := ⟨w1.heap.size, 1, none⟩) (Nat.lt_of_lt_of_le z_M (Nat.le_trans S3.out (Nat.le_trans S4.out (Nat.le_trans S5.out (Nat.le_trans S6.out (Nat.le_trans S7.out (Nat.le_trans S8.out (Nat.le_trans S9.out (Nat.le_trans S10.out (Nat.le_trans S11.out (Nat.le_trans S12.out (Nat.le_trans S13.out (Nat.le_trans S14.out (Nat.le_trans S15.out (Nat.le_trans S16.out S17.out)))))))))))))))).trans c_M_1
    replace c_M_2 := (b.cell (p := ⟨w1.heap.size, 2, none⟩) (Nat.lt_of_lt_of_le z_M (Nat.le_trans S3.out (Nat.le_trans S4.out (Nat.le_trans S5.out (Nat.le_trans S6.out (Nat.le_trans S7.out (Nat.le_trans S8.out (Nat.le_trans S9.out (Nat.le_trans S10.out (Nat.le_trans S11.out (Nat.le_trans S12.out (Nat.le_trans S13.out (Nat.le_trans S14.out (Nat.le_trans S15.out (Nat.le_trans S16.out S17.out)))))))))))))))).trans c_M_2
    replace o_y1 := o_y1.keep b (Nat.le_trans S11.out (Nat.le_trans S12.out (Nat.le_trans S13.out (Nat.le_trans S14.out (Nat.le_trans S15.out (Nat.le_trans S16.out S17.out))))))
    replace o_e1 := o_e1.keep b (Nat.le_trans S11.out (Nat.le_trans S12.out (Nat.le_trans S13.out (Nat.le_trans S14.out (Nat.le_trans S15.out (Nat.le_trans S16.out S17.out))))))
    replace o_y2 := o_y2.keep b (Nat.le_trans S12.out (Nat.le_trans S13.out (Nat.le_trans S14.out (Nat.le_trans S15.out (Nat.le_trans S16.out S17.out)))))
    replace o_e2 := o_e2.keep b (Nat.le_trans S12.out (Nat.le_trans S13.out (Nat.le_trans S14.out (Nat.le_trans S15.out (Nat.le_trans S16.out S17.out)))))
    replace o_z2 := o_z2.keep b (Nat.le_trans S12.out (Nat.le_trans S13.out (Nat.le_trans S14.out (Nat.le_trans S15.out (Nat.le_trans S16.out S17.out)))))
    replace o_y3 := o_y3.keep b (Nat.le_trans S15.out (Nat.le_trans S16.out S17.out))
    replace o_e3 := o_e3.keep b (Nat.le_trans S15.out (Nat.le_trans S16.out S17.out))
    replace o_z3 := o_z3.keep b (Nat.le_trans S15.out (Nat.le_trans S16.out S17.out))
    replace bb := bb.trans (b.mono (Nat.le_trans S1.out (Nat.le_trans S2.out (Nat.le_trans S3.out (Nat.le_trans S4.out (Nat.le_trans S5.out (Nat.le_trans S6.out (Nat.le_trans S7.out (Nat.le_trans S8.out (Nat.le_trans S9.out (Nat.le_trans S10.out (Nat.le_trans S11.out (Nat.le_trans S12.out (Nat.le_trans S13.out (Nat.le_trans S14.out (Nat.le_trans S15.out (Nat.le_trans S16.out S17.out)))))))))))))))))
    clear b
    have hn_ty : n_y1 + n_y2 ≤ 1048576 := by omega
    rw [← F3.out] at o_ty
    have hq : n_y1 + n_y2 = n_y3 := by rw [← o_ty.len, ← o_y3.len]
    obtain rfl := hq
    go_wp2_with fail
    refine (ints_true _ _ _ _ _ _ _ ((o_y3.sl hn_y3).more (Nat.le_trans S15.out (Nat.le_trans S16.out (Nat.le_trans S17.out S18.out)))) ((o_ty.sl hn_ty).more (Nat.le_refl _))).mono ?_
    rintro e w19 ⟨rfl, b⟩
    have S19 := Lib.hid b.size
    replace o_m := o_m.keep b (Nat.le_trans S2.out (Nat.le_trans S3.out (Nat.le_trans S4.out (Nat.le_trans S5.out (Nat.le_trans S6.out (Nat.le_trans S7.out (Nat.le_trans S8.out (Nat.le_trans S9.out (Nat.le_trans S10.out (Nat.le_trans S11.out (Nat.le_trans S12.out (Nat.le_trans S13.out (Nat.le_trans S14.out (Nat.le_trans S15.out (Nat.le_trans S16.out (Nat.le_trans S17.out S18.out))))))))))))))))
    replace c_M_0 := (b.cell (p := ⟨w1.heap.size, 0, none⟩) (Nat.lt_of_lt_of_le z_M (Nat.le_trans S3.out (Nat.le_trans S4.out (Nat.le_trans S5.out (Nat.le_trans S6.out (Nat.le_trans S7.out (Nat.le_trans S8.out (Nat.le_trans S9.out (Nat.le_trans S10.out (Nat.le_trans S11.out (Nat.le_trans S12.out (Nat.le_trans S13.out (Nat.le_trans S14.out (Nat.le_trans S15.out (Nat.le_trans S16.out (Nat.le_trans S17.out S18.out))))))))))))))))).trans c_M_0
    replace c_M_1 := (b.cell (p := ⟨w1.heap.size, 1, none⟩) (Nat.lt_of_lt_of_le z_M (Nat.le_trans S3.out (Nat.le_trans S4.out (Nat.le_trans S5.out (Nat.le_trans S6.out (Nat.le_trans S7.out (Nat.le_trans S8.out (Nat.le_trans S9.out (Nat.le_trans S10.out (Nat.le_trans S11.out (Nat.le_trans S12.out (Nat.le_trans S13.out (Nat.le_trans S14.out (Nat.le_trans S15.out (Nat.le_trans S16.out (Nat.le_trans S17.out S18.out))))))))))))))))).trans c_M_1
    replace c_M_2 := (b.cell (p := ⟨w1.heap.size, 2, none⟩) (Nat.lt_of_lt_of_le z_M (Nat.le_trans S3.out (Nat.le_trans S4.out (Nat.le_trans S5.out (Nat.le_trans S6.out (Nat.le_trans S7.out (Nat.le_trans S8.out (Nat.le_trans S9.out (Nat.le_trans S10.out (Nat.le_trans S11.out (Nat.le_trans S12.out (Nat.le_trans S13.out (Nat.le_trans S14.out (Nat.le_trans S15.out (Nat.le_trans S16.out (Nat.le_trans S17.out S18.out))))))))))))))))).trans c_M_2
    replace o_y1 := o_y1.keep b (Nat.le_trans S11.out (Nat.le_trans S12.out (Nat.le_trans S13.out (Nat.le_trans S14.out (Nat.le_trans S15.out (Nat.le_trans S16.out (Nat.le_trans S17.out S18.out)))))))
    replace o_e1 := o_e1.keep b (Nat.le_trans S11.out (Nat.le_trans S12.out (Nat.le_trans S13.out (Nat.le_trans S14.out (Nat.le_trans S15.out (Nat.le_trans S16.out (Nat.le_trans S17.out S18.out)))))))
    replace o_y2 := o_y2.keep b (Nat.le_trans S12.out (Nat.le_trans S13.out (Nat.le_trans S14.out (Nat.le_trans S15.out (Nat.le_trans S16.out (Nat.le_trans S17.out S18.out))))))
    replace o_e2 := o_e2.keep b (Nat.le_trans S12.out (Nat.le_trans S13.out (Nat.le_trans S14.out (Nat.le_trans S15.out (Nat.le_trans S16.out (Nat.le_trans S17.out S18.out))))))
    replace o_z2 := o_z2.keep b (Nat.le_trans S12.out (Nat.le_trans S13.out (Nat.le_trans S14.out (Nat.le_trans S15.out (Nat.le_trans S16.out (Nat.le_trans S17.out S18.out))))))
    replace o_y3 := o_y3.keep b (Nat.le_trans S15.out (Nat.le_trans S16.out (Nat.le_trans S17.out S18.out)))
    replace o_e3 := o_e3.keep b (Nat.le_trans S15.out (Nat.le_trans S16.out (Nat.le_trans S17.out S18.out)))
    replace o_z3 := o_z3.keep b (Nat.le_trans S15.out (Nat.le_trans S16.out (Nat.le_trans S17.out S18.out)))
    replace o_ty := o_ty.keep b (Nat.le_refl _)
    replace bb := bb.trans (b.mono (Nat.le_trans S1.out (Nat.le_trans S2.out (Nat.le_trans S3.out (Nat.le_trans S4.out (Nat.le_trans S5.out (Nat.le_trans S6.out (Nat.le_trans S7.out (Nat.le_trans S8.out (Nat.le_trans S9.out (Nat.le_trans S10.out (Nat.le_trans S11.out (Nat.le_trans S12.out (Nat.le_trans S13.out (Nat.le_trans S14.out (Nat.le_trans S15.out (Nat.le_trans S16.out (Nat.le_trans S17.out S18.out))))))))))))))))))
    clear b
    clear o_ty
    go_wp2_with fail
    refine (two_any _ _ _ _ _ _ E1 E2 _ ((o_e1.sl hn_e1).more (Nat.le_trans S11.out (Nat.le_trans S12.out (Nat.le_trans S13.out (Nat.le_trans S14.out (Nat.le_trans S15.out (Nat.le_trans S16.out (Nat.le_trans S17.out (Nat.le_trans S18.out S19.out))))))))) ((o_e2.sl hn_e2).more (Nat.le_trans S12.out (Nat.le_trans S13.out (Nat.le_trans S14.out (Nat.le_trans S15.out (Nat.le_trans S16.out (Nat.le_trans S17.out (Nat.le_trans S18.out S19.out)))))))) (by omega)).mono ?_
    rintro e w20 ⟨a_te, c_te, rfl, o_te, b⟩
    have S20 := Lib.hid b.size
    replace o_m := o_m.keep b (Nat.le_trans S2.out (Nat.le_trans S3.out (Nat.le_trans S4.out (Nat.le_trans S5.out (Nat.le_trans S6.out (Nat.le_trans S7.out (Nat.le_trans S8.out (Nat.le_trans S9.out (Nat.le_trans S10.out (Nat.le_trans S11.out (Nat.le_trans S12.out (Nat.le_trans S13.out (Nat.le_trans S14.out (Nat.le_trans S15.out (Nat.le_trans S16.out (Nat.le_trans S17.out (Nat.le_trans S18.out S19.out)))))))))))))))))
    replace c_M_0 := (b.cell (p := ⟨w1.heap.size, 0, none⟩) (Nat.lt_of_lt_of_le z_M (Nat.le_trans S3.out (Nat.le_trans S4.out (Nat.le_trans S5.out (Nat.le_trans S6.out (Nat.le_trans S7.out (Nat.le_trans S8.out (Nat.le_trans S9.out (Nat.le_trans S10.out (Nat.le_trans S11.out (Nat.le_trans S12.out (Nat.le_trans S13.out (Nat.le_trans S14.out (Nat.le_trans S15.out (Nat.le_trans S16.out (Nat.le_trans S17.out (Nat.le_trans S18.out S19.out)))))))))))))))))).trans c_M_0
    replace c_M_1 := (b.cell (p := ⟨w1.heap.size, 1, none⟩) (Nat.lt_of_lt_of_le z_M (Nat.le_trans S3.out (Nat.le_trans S4.out (Nat.le_trans S5.out (Nat.le_trans S6.out (Nat.le_trans S7.out (Nat.le_trans S8.out (Nat.le_trans S9.out (Nat.le_trans S10.out (Nat.le_trans S11.out (Nat.le_trans S12.out (Nat.le_trans S13.out (Nat.le_trans S14.out (Nat.le_trans S15.out (Nat.le_trans S16.out (Nat.le_trans S17.out (Nat.le_trans S18.out S19.out)))))))))))))))))).trans c_M_1
    replace c_M_2 := (b.cell (p := ⟨w1.heap.size, 2, none⟩) (Nat.lt_of_lt_of_le z_M (Nat.le_trans S3.out (Nat.le_trans S4.out (Nat.le_trans S5.out (Nat.le_trans S6.out (Nat.le_trans S7.out (Nat.le_trans S8.out (Nat.le_trans S9.out (Nat.le_trans S10.out (Nat.le_trans S11.out (Nat.le_trans S12.out (Nat.le_trans S13.out (Nat.le_trans S14.out (Nat.le_trans S15.out (Nat.le_trans S16.out (Nat.le_trans S17.out (Nat.le_trans S18.out S19.out)))))))))))))))))).trans c_M_2
    replace o_y1 := o_y1.keep b (Nat.le_trans S11.out (Nat.le_trans S12.out (Nat.le_trans S13.out (Nat.le_trans S14.out (Nat.le_trans S15.out (Nat.le_trans S16.out (Nat.le_trans S17.out (Nat.le_trans S18.out S19.out))))))))
    replace o_e1 := o_e1.keep b (Nat.le_trans S11.out (Nat.le_trans S12.out (Nat.le_trans S13.out (Nat.le_trans S14.out (Nat.le_trans S15.out (Nat.le_trans S16.out (Nat.le_trans S17.out (Nat.le_trans S18.out S19.out))))))))
    replace o_y2 := o_y2.keep b (Nat.le_trans S12.out (Nat.le_trans S13.out (Nat.le_trans S14.out (Nat.le_trans S15.out (Nat.le_trans S16.out (Nat.le_trans S17.out (Nat.le_trans S18.out S19.out)))))))
    replace o_e2 := o_e2.keep b (Nat.le_trans S12.out (Nat.le_trans S13.out (Nat.le_trans S14.out (Nat.le_trans S15.out (Nat.le_trans S16.out (Nat.le_trans S17.out (Nat.le_trans S18.out S19.out)))))))
    replace o_z2 := o_z2.keep b (Nat.le_trans S12.out (Nat.le_trans S13.out (Nat.le_trans S14.out (Nat.le_trans S15.out (Nat.le_trans S16.out (Nat.le_trans S17.out (Nat.le_trans S18.out S19.out)))))))
    replace o_y3 := o_y3.keep b (Nat.le_trans S15.out (Nat.le_trans S16.out (Nat.le_trans S17.out (Nat.le_trans S18.out S19.out))))
    replace o_e3 := o_e3.keep b (Nat.le_trans S15.out (Nat.le_trans S16.out (Nat.le_trans S17.out (Nat.le_trans S18.out S19.out))))
    replace o_z3 := o_z3.keep b (Nat.le_trans S15.out (Nat.le_trans S16.out (Nat.le_trans S17.out (Nat.le_trans S18.out S19.out))))
    replace bb := bb.trans (b.mono (Nat.le_trans S1.out (Nat.le_trans S2.out (Nat.le_trans S3.out (Nat.le_trans S4.out (Nat.le_trans S5.out (Nat.le_trans S6.out (Nat.le_trans S7.out (Nat.le_trans S8.out (Nat.le_trans S9.out (Nat.le_trans S10.out (Nat.le_trans S11.out (Nat.le_trans S12.out (Nat.le_trans S13.out (Nat.le_trans S14.out (Nat.le_trans S15.out (Nat.le_trans S16.out (Nat.le_trans S17.out (Nat.le_trans S18.out S19.out)))))))))))))))))))
    clear b
    have hn_te : n_e1 + n_e2 ≤ 1048576 := by omega
    rw [← F4.out] at o_te
    have hq : n_e1 + n_e2 = n_e3 := by rw [← o_te.len, ← o_e3.len]
    obtain rfl := hq
    go_wp2_with fail
    refine (ints_true _ _ _ _ _ _ _ ((o_e3.sl hn_e3).more (Nat.le_trans S15.out (Nat.le_trans S16.out (Nat.le_trans S17.out (Nat.le_trans S18.out (Nat.le_trans S19.out S20.out)))))) ((o_te.sl hn_te).more (Nat.le_refl _))).mono ?_
    rintro e w21 ⟨rfl, b⟩
    have S21 := Lib.hid b.size
    replace o_m := o_m.keep b (Nat.le_trans S2.out (Nat.le_trans S3.out (Nat.le_trans S4.out (Nat.le_trans S5.out (Nat.le_trans S6.out (Nat.le_trans S7.out (Nat.le_trans S8.out (Nat.le_trans S9.out (Nat.le_trans S10.out (Nat.le_trans S11.out (Nat.le_trans S12.out (Nat.le_trans S13.out (Nat.le_trans S14.out (Nat.le_trans S15.out (Nat.le_trans S16.out (Nat.le_trans S17.out (Nat.le_trans S18.out (Nat.le_trans S19.out S20.out))))))))))))))))))
    replace c_M_0 := (b.cell (p := ⟨w1.heap.size, 0, none⟩) (Nat.lt_of_lt_of_le z_M (Nat.le_trans S3.out (Nat.le_trans S4.out (Nat.le_trans S5.out (Nat.le_trans S6.out (Nat.le_trans S7.out (Nat.le_trans S8.out (Nat.le_trans S9.out (Nat.le_trans S10.out (Nat.le_trans S11.out (Nat.le_trans S12.out (Nat.le_trans S13.out (Nat.le_trans S14.out (Nat.le_trans S15.out (Nat.le_trans S16.out (Nat.le_trans S17.out (Nat.le_trans S18.out (Nat.le_trans S19.out S20.out))))))))))))))))))).trans c_M_0
    replace c_M_1 := (b.cell (p := ⟨w1.heap.size, 1, none⟩) (Nat.lt_of_lt_of_le z_M (Nat.le_trans S3.out (Nat.le_trans S4.out (Nat.le_trans S5.out (Nat.le_trans S6.out (Nat.le_trans S7.out (Nat.le_trans S8.out (Nat.le_trans S9.out (Nat.le_trans S10.out (Nat.le_trans S11.out (Nat.le_trans S12.out (Nat.le_trans S13.out (Nat.le_trans S14.out (Nat.le_trans S15.out (Nat.le_trans S16.out (Nat.le_trans S17.out (Nat.le_trans S18.out (Nat.le_trans S19.out S20.out))))))))))))))))))).trans c_M_1
    replace c_M_2 := (b.cell (p := ⟨w1.heap.size, 2, none⟩) (Nat.lt_of_lt_of_le z_M (Nat.le_trans S3.out (Nat.le_trans S4.out (Nat.le_trans S5.out (Nat.le_trans S6.out (Nat.le_trans S7.out (Nat.le_trans S8.out (Nat.le_trans S9.out (Nat.le_trans S10.out (Nat.le_trans S11.out (Nat.le_trans S12.out (Nat.le_trans S13.out (Nat.le_trans S14.out (Nat.le_trans S15.out (Nat.le_trans S16.out (Nat.le_trans S17.out (Nat.le_trans S18.out (Nat.le_trans S19.out S20.out))))))))))))))))))).trans c_M_2
    replace o_y1 := o_y1.keep b (Nat.le_trans S11.out (Nat.le_trans S12.out (Nat.le_trans S13.out (Nat.le_trans S14.out (Nat.le_trans S15.out (Nat.le_trans S16.out (Nat.le_trans S17.out (Nat.le_trans S18.out (Nat.le_trans S19.out S20.out)))))))))
    replace o_e1 := o_e1.keep b (Nat.le_trans S11.out (Nat.le_trans S12.out (Nat.le_trans S13.out (Nat.le_trans S14.out (Nat.le_trans S15.out (Nat.le_trans S16.out (Nat.le_trans S17.out (Nat.le_trans S18.out (Nat.le_trans S19.out S20.out)))))))))
    replace o_y2 := o_y2.keep b (Nat.le_trans S12.out (Nat.le_trans S13.out (Nat.le_trans S14.out (Nat.le_trans S15.out (Nat.le_trans S16.out (Nat.le_trans S17.out (Nat.le_trans S18.out (Nat.le_trans S19.out S20.out))))))))
    replace o_e2 := o_e2.keep b (Nat.le_trans S12.out (Nat.le_trans S13.out (Nat.le_trans S14.out (Nat.le_trans S15.out (Nat.le_trans S16.out (Nat.le_trans S17.out (Nat.le_trans S18.out (Nat.le_trans S19.out S20.out))))))))
    replace o_z2 := o_z2.keep b (Nat.le_trans S12.out (Nat.le_trans S13.out (Nat.le_trans S14.out (Nat.le_trans S15.out (Nat.le_trans S16.out (Nat.le_trans S17.out (Nat.le_trans S18.out (Nat.le_trans S19.out S20.out))))))))
    replace o_y3 := o_y3.keep b (Nat.le_trans S15.out (Nat.le_trans S16.out (Nat.le_trans S17.out (Nat.le_trans S18.out (Nat.le_trans S19.out S20.out)))))
    replace o_e3 := o_e3.keep b (Nat.le_trans S15.out (Nat.le_trans S16.out (Nat.le_trans S17.out (Nat.le_trans S18.out (Nat.le_trans S19.out S20.out)))))
    replace o_z3 := o_z3.keep b (Nat.le_trans S15.out (Nat.le_trans S16.out (Nat.le_trans S17.out (Nat.le_trans S18.out (Nat.le_trans S19.out S20.out)))))
    replace o_te := o_te.keep b (Nat.le_refl _)
    replace bb := bb.trans (b.mono (Nat.le_trans S1.out (Nat.le_trans S2.out (Nat.le_trans S3.out (Nat.le_trans S4.out (Nat.le_trans S5.out (Nat.le_trans S6.out (Nat.le_trans S7.out (Nat.le_trans S8.out (Nat.le_trans S9.out (Nat.le_trans S10.out (Nat.le_trans S11.out (Nat.le_trans S12.out (Nat.le_trans S13.out (Nat.le_trans S14.out (Nat.le_trans S15.out (Nat.le_trans S16.out (Nat.le_trans S17.out (Nat.le_trans S18.out (Nat.le_trans S19.out S20.out))))))))))))))))))))
    clear b
    clear o_te
    rw [F5.out] at o_z3
    have hq : n_z2 = n_z3 := by rw [← o_z2.len, ← o_z3.len]
    obtain rfl := hq
    go_wp2_with fail
    refine (ints_true _ _ _ _ _ _ _ ((o_z3.sl hn_z3).more (Nat.le_trans S15.out (Nat.le_trans S16.out (Nat.le_trans S17.out (Nat.le_trans S18.out (Nat.le_trans S19.out (Nat.le_trans S20.out S21.out))))))) ((o_z2.sl hn_z2).more (Nat.le_trans S12.out (Nat.le_trans S13.out (Nat.le_trans S14.out (Nat.le_trans S15.out (Nat.le_trans S16.out (Nat.le_trans S17.out (Nat.le_trans S18.out (Nat.le_trans S19.out (Nat.le_trans S20.out S21.out))))))))))).mono ?_
    rintro e w22 ⟨rfl, b⟩
    have S22 := Lib.hid b.size
    replace o_m := o_m.keep b (Nat.le_trans S2.out (Nat.le_trans S3.out (Nat.le_trans S4.out (Nat.le_trans S5.out (Nat.le_trans S6.out (Nat.le_trans S7.out (Nat.le_trans S8.out (Nat.le_trans S9.out (Nat.le_trans S10.out (Nat.le_trans S11.out (Nat.le_trans S12.out (Nat.le_trans S13.out (Nat.le_trans S14.out (Nat.le_trans S15.out (Nat.le_trans S16.out (Nat.le_trans S17.out (Nat.le_trans S18.out (Nat.le_trans S19.out (Nat.le_trans S20.out S21.out)))))))))))))))))))
    replace c_M_0 := (b.cell (p := ⟨w1.heap.size, 0, none⟩) (Nat.lt_of_lt_of_le z_M (Nat.le_trans S3.out (Nat.le_trans S4.out (Nat.le_trans S5.out (Nat.le_trans S6.out (Nat.le_trans S7.out (Nat.le_trans S8.out (Nat.le_trans S9.out (Nat.le_trans S10.out (Nat.le_trans S11.out (Nat.le_trans S12.out (Nat.le_trans S13.out (Nat.le_trans S14.out (Nat.le_trans S15.out (Nat.le_trans S16.out (Nat.le_trans S17.out (Nat.le_trans S18.out (Nat.le_trans S19.out (Nat.le_trans S20.out S21.out)))))))))))))))))))).trans c_M_0
    replace c_M_1 := (b.cell (p := ⟨w1.heap.size, 1, none⟩) (Nat.lt_of_lt_of_le z_M (Nat.le_trans S3.out (Nat.le_trans S4.out (Nat.le_trans S5.out (Nat.le_trans S6.out (Nat.le_trans S7.out (Nat.le_trans S8.out (Nat.le_trans S9.out (Nat.le_trans S10.out (Nat.le_trans S11.out (Nat.le_trans S12.out (Nat.le_trans S13.out (Nat.le_trans S14.out (Nat.le_trans S15.out (Nat.le_trans S16.out (Nat.le_trans S17.out (Nat.le_trans S18.out (Nat.le_trans S19.out (Nat.le_trans S20.out S21.out)))))))))))))))))))).trans c_M_1
    replace c_M_2 := (b.cell (p := ⟨w1.heap.size, 2, none⟩) (Nat.lt_of_lt_of_le z_M (Nat.le_trans S3.out (Nat.le_trans S4.out (Nat.le_trans S5.out (Nat.le_trans S6.out (Nat.le_trans S7.out (Nat.le_trans S8.out (Nat.le_trans S9.out (Nat.le_trans S10.out (Nat.le_trans S11.out (Nat.le_trans S12.out (Nat.le_trans S13.out (Nat.le_trans S14.out (Nat.le_trans S15.out (Nat.le_trans S16.out (Nat.le_trans S17.out (Nat.le_trans S18.out (Nat.le_trans S19.out (Nat.le_trans S20.out S21.out)))))))))))))))))))).trans c_M_2
    replace o_y1 := o_y1.keep b (Nat.le_trans S11.out (Nat.le_trans S12.out (Nat.le_trans S13.out (Nat.le_trans S14.out (Nat.le_trans S15.out (Nat.le_trans S16.out (Nat.le_trans S17.out (Nat.le_trans S18.out (Nat.le_trans S19.out (Nat.le_trans S20.out S21.out))))))))))
    replace o_e1 := o_e1.keep b (Nat.le_trans S11.out (Nat.le_trans S12.out (Nat.le_trans S13.out (Nat.le_trans S14.out (Nat.le_trans S15.out (Nat.le_trans S16.out (Nat.le_trans S17.out (Nat.le_trans S18.out (Nat.le_trans S19.out (Nat.le_trans S20.out S21.out))))))))))
    replace o_y2 := o_y2.keep b (Nat.le_trans S12.out (Nat.le_trans S13.out (Nat.le_trans S14.out (Nat.le_trans S15.out (Nat.le_trans S16.out (Nat.le_trans S17.out (Nat.le_trans S18.out (Nat.le_trans S19.out (Nat.le_trans S20.out S21.out)))))))))
    replace o_e2 := o_e2.keep b (Nat.le_trans S12.out (Nat.le_trans S13.out (Nat.le_trans S14.out (Nat.le_trans S15.out (Nat.le_trans S16.out (Nat.le_trans S17.out (Nat.le_trans S18.out (Nat.le_trans S19.out (Nat.le_trans S20.out S21.out)))))))))
    replace o_z2 := o_z2.keep b (Nat.le_trans S12.out (Nat.le_trans S13.out (Nat.le_trans S14.out (Nat.le_trans S15.out (Nat.le_trans S16.out (Nat.le_trans S17.out (Nat.le_trans S18.out (Nat.le_trans S19.out (Nat.le_trans S20.out S21.out)))))))))
    replace o_y3 := o_y3.keep b (Nat.le_trans S15.out (Nat.le_trans S16.out (Nat.le_trans S17.out (Nat.le_trans S18.out (Nat.le_trans S19.out (Nat.le_trans S20.out S21.out))))))
    replace o_e3 := o_e3.keep b (Nat.le_trans S15.out (Nat.le_trans S16.out (Nat.le_trans S17.out (Nat.le_trans S18.out (Nat.le_trans S19.out (Nat.le_trans S20.out S21.out))))))
    replace o_z3 := o_z3.keep b (Nat.le_trans S15.out (Nat.le_trans S16.out (Nat.le_trans S17.out (Nat.le_trans S18.out (Nat.le_trans S19.out (Nat.le_trans S20.out S21.out))))))
    replace bb := bb.trans (b.mono (Nat.le_trans S1.out (Nat.le_trans S2.out (Nat.le_trans S3.out (Nat.le_trans S4.out (Nat.le_trans S5.out (Nat.le_trans S6.out (Nat.le_trans S7.out (Nat.le_trans S8.out (Nat.le_trans S9.out (Nat.le_trans S10.out (Nat.le_trans S11.out (Nat.le_trans S12.out (Nat.le_trans S13.out (Nat.le_trans S14.out (Nat.le_trans S15.out (Nat.le_trans S16.out (Nat.le_trans S17.out (Nat.le_trans S18.out (Nat.le_trans S19.out (Nat.le_trans S20.out S21.out)))))))))))))))))))))
    clear b
    go_wp2_with fail
    go_ret
    exact ⟨rfl, bb⟩
end Go.Proofs.Ytmgjbldnohkodaa
