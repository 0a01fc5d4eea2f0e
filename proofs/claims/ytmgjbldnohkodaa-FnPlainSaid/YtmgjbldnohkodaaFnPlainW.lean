/- The walk of the law FnPlain: it returns true and leaves what was there as it was. -/
import Derived.Test.YtmgjbldnohkodaaPureN2
import Derived.Test.YtmgjbldnohkodaaLawP
import Derived.Test.YtmgjbldnohkodaaMkQ
import Derived.Test.YtmgjbldnohkodaaQSeq
import Derived.Test.YtmgjbldnohkodaaMod5
import Derived.Test.YtmgjbldnohkodaaMod4
namespace Go.Proofs.Ytmgjbldnohkodaa
open Go.RowKit
set_option linter.unusedVariables false
set_option maxRecDepth 100000 in
set_option maxHeartbeats 4000000 in
theorem fnPlain_walk (a0 : Option Addr) (n0 c0 : Nat) (z0 : List Int) (w0 : World) (h : IsRow .u8 w0 a0 n0 c0 z0) :
    Calls Try.prog 5 #[.slice a0 n0 c0] w0 fun e w' => e = .returned (.bool true) ∧ Below w0.heap.size w0 w' := by
  have hle := h.le
  by_cases hn : n0 ≤ 1048576
  rotate_left
  · go_enter Try.func5, Try.ntmps5
    go_wp2_with fail
    go_ret
    exact ⟨rfl, Below.refl _ _⟩
  have s_code := h.bsl hn
  clear h hle
  have bb := Below.refl w0.heap.size w0
  go_enter Try.func5, Try.ntmps5
  go_wp2_with fail
  refine (mkQ_any _ _ _ _ (s_code.more (Nat.le_refl _))).mono ?_
  rintro e w1 ⟨l, s, hl2, hl6, hs, rfl, b⟩
  have S1 := Lib.hid b.size
  replace s_code := s_code.keep (b.mono (Nat.le_refl _))
  replace bb := bb.trans (b.mono (Nat.le_refl _))
  clear b
  have HQ := Lib.hid (smallQ hl2 hl6 hs)
  have hsb := smallS_bd hs
  clear hs
  have b := box_below w1 (.cells #[.int .i64 l, .int .i64 s] 24)
  have c_Q_0 : (w1.alloc (.cells #[.int .i64 l, .int .i64 s] 24)).cell? ⟨w1.heap.size, 0, none⟩ = some (.int .i64 l) := by simp [go_sem]
  have c_Q_1 : (w1.alloc (.cells #[.int .i64 l, .int .i64 s] 24)).cell? ⟨w1.heap.size, 1, none⟩ = some (.int .i64 s) := by simp [go_sem]
  go_wp2_with fail
  have z_Q : w1.heap.size < (w1.alloc (.cells #[.int .i64 l, .int .i64 s] 24)).heap.size := by simp
  generalize hgw : (w1.alloc (.cells #[.int .i64 l, .int .i64 s] 24)) = w2 at c_Q_0 c_Q_1 z_Q b ⊢
  clear hgw 
  have S2 := Lib.hid b.size
  replace s_code := s_code.keep (b.mono (S1.out))
  replace bb := bb.trans (b.mono (S1.out))
  clear b
  go_wp2_with fail
  refine (fresh_any _ _ _ 3 _ (s_code.more (Nat.le_trans S1.out S2.out)) (by omega)).mono ?_
  rintro e w3 ⟨a_f, n_f, c_f, rfl, s_f, b⟩
  have S3 := Lib.hid b.size
  replace c_Q_0 := (b.cell (p := ⟨w1.heap.size, 0, none⟩) (Nat.lt_of_lt_of_le z_Q (Nat.le_refl _))).trans c_Q_0
  replace c_Q_1 := (b.cell (p := ⟨w1.heap.size, 1, none⟩) (Nat.lt_of_lt_of_le z_Q (Nat.le_refl _))).trans c_Q_1
  replace s_code := s_code.keep (b.mono (Nat.le_trans S1.out S2.out))
  replace bb := bb.trans (b.mono (Nat.le_trans S1.out S2.out))
  clear b
  go_wp2_with fail
  refine (at_any _ _ _ _ 1 _ s_code (by omega)).mono ?_
  rintro e w' ⟨a, a0, a1, rfl, rfl⟩
  go_wp2_with fail
  refine (mkSeq_any _ _ _ 30 (1 + a) _ (s_f.more (Nat.le_refl _)) (by omega) (by omega) (by omega)).mono ?_
  rintro e w4 ⟨a_x, n_x, c_x, x_x, rfl, o_x, l_x, i_x, j_x, b⟩
  have S4 := Lib.hid b.size
  replace c_Q_0 := (b.cell (p := ⟨w1.heap.size, 0, none⟩) (Nat.lt_of_lt_of_le z_Q (S3.out))).trans c_Q_0
  replace c_Q_1 := (b.cell (p := ⟨w1.heap.size, 1, none⟩) (Nat.lt_of_lt_of_le z_Q (S3.out))).trans c_Q_1
  replace s_code := s_code.keep (b.mono (Nat.le_trans S1.out (Nat.le_trans S2.out S3.out)))
  replace s_f := s_f.keep (b.mono (Nat.le_refl _))
  replace bb := bb.trans (b.mono (Nat.le_trans S1.out (Nat.le_trans S2.out S3.out)))
  clear b
  have hn_x : n_x ≤ 1048576 := by omega
  clear s_f
  clear s_code
  have lx := o_x.len
  obtain ⟨m1, m2, ⟨f1, f2, f3⟩, ⟨f4, f5, f6⟩, ⟨f7, f8⟩, l1, l2, l3, f9⟩ := plain_facts (l := l) (s := s) (xs := x_x) HQ.out (i_x.mono (show 1 + a ≤ 256 by omega)) (by omega)
  rw [lx] at l1 l2 l3 f9
  have jx := fun i => i_x.at_ (by omega) i
  have JX := Lib.hid jx
  clear lx jx
  have M1 := Lib.hid m1
  have M2 := Lib.hid m2
  have F1 := Lib.hid f1
  have F2 := Lib.hid f2
  have F3 := Lib.hid f3
  have F4 := Lib.hid f4
  have F5 := Lib.hid f5
  have F6 := Lib.hid f6
  have F7 := Lib.hid f7
  have F8 := Lib.hid f8
  have F9 := Lib.hid f9
  have L1 := Lib.hid l1
  have L2 := Lib.hid l2
  have L3 := Lib.hid l3
  clear m1 m2 f1 f2 f3 f4 f5 f6 f7 f8 f9 l1 l2 l3
  obtain ⟨Y, hY⟩ : ∃ Y, Hid (qsL l s x_x = Y) := ⟨_, rfl⟩
  obtain ⟨E, hE⟩ : ∃ E, Hid (esL l s x_x = E) := ⟨_, rfl⟩
  obtain ⟨T, hT⟩ : ∃ T, Hid (btL l s (qsL l s x_x) = T) := ⟨_, rfl⟩
  rw [hY.out] at F2 F5 F7 F8 L1
  rw [hE.out] at F3 F6 L2
  rw [hT.out] at L3 F9
  rw [hY.out] at hT
  rw [hT.out] at F8
  go_wp2_with fail
  have hz : (w4.alloc (.cells #[.int .i64 0] 3)).heap.size = w4.heap.size + 1 := by simp
  have o_k : Own (w4.alloc (.cells #[.int .i64 0] 3)) w4.heap.size (w4.alloc (.cells #[.int .i64 0] 3)).heap.size (some ⟨w4.heap.size, 0, none⟩) 1 1 [0] :=
    Own.of ⟨by simp [Ints], .inr ⟨w4.heap.size, 1, #[.int .i64 0], rfl, Nat.le_refl _, heap_alloc_new w4 _, Nat.le_refl _, by unfold maxLen; omega, rfl, rfl⟩⟩
  have b := box_below w4 (.cells #[.int .i64 0] 3)
  rw [← hz]
  generalize hgw : (w4.alloc (.cells #[.int .i64 0] 3)) = w5 at o_k b hz ⊢
  clear hgw hz
  have S5 := Lib.hid b.size
  replace c_Q_0 := (b.cell (p := ⟨w1.heap.size, 0, none⟩) (Nat.lt_of_lt_of_le z_Q (Nat.le_trans S3.out S4.out))).trans c_Q_0
  replace c_Q_1 := (b.cell (p := ⟨w1.heap.size, 1, none⟩) (Nat.lt_of_lt_of_le z_Q (Nat.le_trans S3.out S4.out))).trans c_Q_1
  replace o_x := o_x.keep b (Nat.le_refl _)
  replace bb := bb.trans (b.mono (Nat.le_trans S1.out (Nat.le_trans S2.out (Nat.le_trans S3.out S4.out))))
  clear b
  have hn_k : 1 ≤ 1048576 := by omega
  have c_M_0 : (w5.alloc (.cells #[.int .i64 l, .int .i64 s, .slice (some ⟨w4.heap.size, 0, none⟩) 1 1] 27)).cell? ⟨w5.heap.size, 0, none⟩ = some (.int .i64 l) := by simp [go_sem]
  have c_M_1 : (w5.alloc (.cells #[.int .i64 l, .int .i64 s, .slice (some ⟨w4.heap.size, 0, none⟩) 1 1] 27)).cell? ⟨w5.heap.size, 1, none⟩ = some (.int .i64 s) := by simp [go_sem]
  have c_M_2 : (w5.alloc (.cells #[.int .i64 l, .int .i64 s, .slice (some ⟨w4.heap.size, 0, none⟩) 1 1] 27)).cell? ⟨w5.heap.size, 2, none⟩ = some (.slice (some ⟨w4.heap.size, 0, none⟩) 1 1) := by simp [go_sem]
  have z_M : w5.heap.size < (w5.alloc (.cells #[.int .i64 l, .int .i64 s, .slice (some ⟨w4.heap.size, 0, none⟩) 1 1] 27)).heap.size := by simp
  have b := box_below w5 (.cells #[.int .i64 l, .int .i64 s, .slice (some ⟨w4.heap.size, 0, none⟩) 1 1] 27)
  generalize hgw : (w5.alloc (.cells #[.int .i64 l, .int .i64 s, .slice (some ⟨w4.heap.size, 0, none⟩) 1 1] 27)) = w6 at c_M_0 c_M_1 c_M_2 z_M b ⊢
  clear hgw
  have S6 := Lib.hid b.size
  replace c_Q_0 := (b.cell (p := ⟨w1.heap.size, 0, none⟩) (Nat.lt_of_lt_of_le z_Q (Nat.le_trans S3.out (Nat.le_trans S4.out S5.out)))).trans c_Q_0
  replace c_Q_1 := (b.cell (p := ⟨w1.heap.size, 1, none⟩) (Nat.lt_of_lt_of_le z_Q (Nat.le_trans S3.out (Nat.le_trans S4.out S5.out)))).trans c_Q_1
  replace o_x := o_x.keep b (S5.out)
  replace o_k := o_k.keep b (Nat.le_refl _)
  replace bb := bb.trans (b.mono (Nat.le_trans S1.out (Nat.le_trans S2.out (Nat.le_trans S3.out (Nat.le_trans S4.out S5.out)))))
  clear b
  go_wp2_with fail
  have S7 : Hid (w6.heap.size ≤ w6.drew.heap.size) := Nat.le_refl _
  replace c_Q_0 : w6.drew.cell? ⟨w1.heap.size, 0, none⟩ = some (.int .i64 l) := c_Q_0
  replace c_Q_1 : w6.drew.cell? ⟨w1.heap.size, 1, none⟩ = some (.int .i64 s) := c_Q_1
  replace o_x := o_x.drew
  replace o_k := o_k.drew
  replace c_M_0 : w6.drew.cell? ⟨w5.heap.size, 0, none⟩ = some (.int .i64 l) := c_M_0
  replace c_M_1 : w6.drew.cell? ⟨w5.heap.size, 1, none⟩ = some (.int .i64 s) := c_M_1
  replace c_M_2 : w6.drew.cell? ⟨w5.heap.size, 2, none⟩ = some (.slice (some ⟨w4.heap.size, 0, none⟩) 1 1) := c_M_2
  replace bb := bb.drew
  go_region_held3 (fun w' => w'.cell? ⟨w5.heap.size, 0, none⟩ = some (.int .i64 l) ∧ w'.cell? ⟨w5.heap.size, 1, none⟩ = some (.int .i64 s) ∧ w'.cell? ⟨w5.heap.size, 2, none⟩ = some (.slice (some ⟨w4.heap.size, 0, none⟩) 1 1)) (go_keep) (first | (go_at_call 31; refine (plain_i l s _ _ _ [0] _ ((o_k.sl hn_k).more (Nat.le_trans S6.out S7.out))).mono ?_; rintro e w8 ⟨a_p, n_p, c_p, rfl, o_p, b⟩; have S8 := Lib.hid b.size; replace c_Q_0 := (b.cell (p := ⟨w1.heap.size, 0, none⟩) (Nat.lt_of_lt_of_le z_Q (Nat.le_trans S3.out (Nat.le_trans S4.out (Nat.le_trans S5.out (Nat.le_trans S6.out S7.out)))))).trans c_Q_0; replace c_Q_1 := (b.cell (p := ⟨w1.heap.size, 1, none⟩) (Nat.lt_of_lt_of_le z_Q (Nat.le_trans S3.out (Nat.le_trans S4.out (Nat.le_trans S5.out (Nat.le_trans S6.out S7.out)))))).trans c_Q_1; replace o_x := o_x.keep b (Nat.le_trans S5.out (Nat.le_trans S6.out S7.out)); replace o_k := o_k.keep b (Nat.le_trans S6.out S7.out); replace c_M_0 := (b.cell (p := ⟨w5.heap.size, 0, none⟩) (Nat.lt_of_lt_of_le z_M (S7.out))).trans c_M_0; replace c_M_1 := (b.cell (p := ⟨w5.heap.size, 1, none⟩) (Nat.lt_of_lt_of_le z_M (S7.out))).trans c_M_1; replace c_M_2 := (b.cell (p := ⟨w5.heap.size, 2, none⟩) (Nat.lt_of_lt_of_le z_M (S7.out))).trans c_M_2; replace bb := bb.trans (b.mono (Nat.le_trans S1.out (Nat.le_trans S2.out (Nat.le_trans S3.out (Nat.le_trans S4.out (Nat.le_trans S5.out (Nat.le_trans S6.out S7.out))))))); clear b; rw [M2.out] at o_p; have hn_p : n_p ≤ 1048576 := (by rw [← o_p.len]; simp)) | (go_at_call 19; refine (run_i l s _ _ _ _ _ _ _ _ _ [0] [0] x_x _ ((o_k.sl hn_k).more (Nat.le_trans S6.out (Nat.le_trans S7.out S8.out))) ((o_p.sl hn_p).more (Nat.le_refl _)) ((o_x.sl hn_x).more (Nat.le_trans S5.out (Nat.le_trans S6.out (Nat.le_trans S7.out S8.out))))).mono ?_; rw [F1.out, F2.out, F3.out]; rintro e w9 ⟨a_y, n_y, c_y, a_e, n_e, c_e, a_z, n_z, c_z, rfl, o_y, o_e, o_z, f1, f2, f3, b⟩; have S9 := Lib.hid b.size; replace c_Q_0 := (b.cell (p := ⟨w1.heap.size, 0, none⟩) (Nat.lt_of_lt_of_le z_Q (Nat.le_trans S3.out (Nat.le_trans S4.out (Nat.le_trans S5.out (Nat.le_trans S6.out (Nat.le_trans S7.out S8.out))))))).trans c_Q_0; replace c_Q_1 := (b.cell (p := ⟨w1.heap.size, 1, none⟩) (Nat.lt_of_lt_of_le z_Q (Nat.le_trans S3.out (Nat.le_trans S4.out (Nat.le_trans S5.out (Nat.le_trans S6.out (Nat.le_trans S7.out S8.out))))))).trans c_Q_1; replace o_x := o_x.keep b (Nat.le_trans S5.out (Nat.le_trans S6.out (Nat.le_trans S7.out S8.out))); replace o_k := o_k.keep b (Nat.le_trans S6.out (Nat.le_trans S7.out S8.out)); replace c_M_0 := (b.cell (p := ⟨w5.heap.size, 0, none⟩) (Nat.lt_of_lt_of_le z_M (Nat.le_trans S7.out S8.out))).trans c_M_0; replace c_M_1 := (b.cell (p := ⟨w5.heap.size, 1, none⟩) (Nat.lt_of_lt_of_le z_M (Nat.le_trans S7.out S8.out))).trans c_M_1; replace c_M_2 := (b.cell (p := ⟨w5.heap.size, 2, none⟩) (Nat.lt_of_lt_of_le z_M (Nat.le_trans S7.out S8.out))).trans c_M_2; replace o_p := o_p.keep b (Nat.le_refl _); replace bb := bb.trans (b.mono (Nat.le_trans S1.out (Nat.le_trans S2.out (Nat.le_trans S3.out (Nat.le_trans S4.out (Nat.le_trans S5.out (Nat.le_trans S6.out (Nat.le_trans S7.out S8.out)))))))); clear b; clear f1 f2 f3 o_z; have hn_y : n_y ≤ 1048576 := (by rw [← o_y.len, L1.out]; omega); have hn_e : n_e ≤ 1048576 := (by rw [← o_e.len, L2.out]; omega)))
  clear o_p
  clear c_M_0 c_M_1 c_M_2
  clear o_k
  obtain rfl : n_x = n_y := by rw [← o_y.len, L1.out]
  obtain rfl : n_x = n_e := by rw [← o_e.len, L2.out]
  go_wp2_with fail
  refine (qseq_i l s _ _ _ x_x _ ((o_x.sl hn_x).more (Nat.le_trans S5.out (Nat.le_trans S6.out (Nat.le_trans S7.out (Nat.le_trans S8.out S9.out)))))).mono ?_
  rw [F4.out, F5.out, F6.out]
  rintro e w10 ⟨a_z, n_z, c_z, a_v, n_v, c_v, rfl, o_z, o_v, f0, b⟩
  have S10 := Lib.hid b.size
  replace c_Q_0 := (b.cell (p := ⟨w1.heap.size, 0, none⟩) (Nat.lt_of_lt_of_le z_Q (Nat.le_trans S3.out (Nat.le_trans S4.out (Nat.le_trans S5.out (Nat.le_trans S6.out (Nat.le_trans S7.out (Nat.le_trans S8.out S9.out)))))))).trans c_Q_0
  replace c_Q_1 := (b.cell (p := ⟨w1.heap.size, 1, none⟩) (Nat.lt_of_lt_of_le z_Q (Nat.le_trans S3.out (Nat.le_trans S4.out (Nat.le_trans S5.out (Nat.le_trans S6.out (Nat.le_trans S7.out (Nat.le_trans S8.out S9.out)))))))).trans c_Q_1
  replace o_x := o_x.keep b (Nat.le_trans S5.out (Nat.le_trans S6.out (Nat.le_trans S7.out (Nat.le_trans S8.out S9.out))))
  replace o_y := o_y.keep b (Nat.le_refl _)
  replace o_e := o_e.keep b (Nat.le_refl _)
  replace bb := bb.trans (b.mono (Nat.le_trans S1.out (Nat.le_trans S2.out (Nat.le_trans S3.out (Nat.le_trans S4.out (Nat.le_trans S5.out (Nat.le_trans S6.out (Nat.le_trans S7.out (Nat.le_trans S8.out S9.out)))))))))
  clear b
  have hn_z : n_z ≤ 1048576 := by rw [← o_z.len, L1.out]; omega
  have hn_v : n_v ≤ 1048576 := by rw [← o_v.len, L2.out]; omega
  clear f0
  obtain rfl : n_x = n_z := by rw [← o_z.len, L1.out]
  obtain rfl : n_x = n_v := by rw [← o_v.len, L2.out]
  go_wp2_with fail
  refine (bits_i l s _ _ _ Y _ ((o_z.sl hn_z).more (Nat.le_refl _))).mono ?_
  rw [F7.out, F8.out]
  rintro e w11 ⟨a_t, n_t, c_t, rfl, o_t, b⟩
  have S11 := Lib.hid b.size
  replace c_Q_0 := (b.cell (p := ⟨w1.heap.size, 0, none⟩) (Nat.lt_of_lt_of_le z_Q (Nat.le_trans S3.out (Nat.le_trans S4.out (Nat.le_trans S5.out (Nat.le_trans S6.out (Nat.le_trans S7.out (Nat.le_trans S8.out (Nat.le_trans S9.out S10.out))))))))).trans c_Q_0
  replace c_Q_1 := (b.cell (p := ⟨w1.heap.size, 1, none⟩) (Nat.lt_of_lt_of_le z_Q (Nat.le_trans S3.out (Nat.le_trans S4.out (Nat.le_trans S5.out (Nat.le_trans S6.out (Nat.le_trans S7.out (Nat.le_trans S8.out (Nat.le_trans S9.out S10.out))))))))).trans c_Q_1
  replace o_x := o_x.keep b (Nat.le_trans S5.out (Nat.le_trans S6.out (Nat.le_trans S7.out (Nat.le_trans S8.out (Nat.le_trans S9.out S10.out)))))
  replace o_y := o_y.keep b (S10.out)
  replace o_e := o_e.keep b (S10.out)
  replace o_z := o_z.keep b (Nat.le_refl _)
  replace o_v := o_v.keep b (Nat.le_refl _)
  replace bb := bb.trans (b.mono (Nat.le_trans S1.out (Nat.le_trans S2.out (Nat.le_trans S3.out (Nat.le_trans S4.out (Nat.le_trans S5.out (Nat.le_trans S6.out (Nat.le_trans S7.out (Nat.le_trans S8.out (Nat.le_trans S9.out S10.out))))))))))
  clear b
  have hn_t : n_t ≤ 1048576 := by rw [← o_t.len, L3.out]; omega
  obtain rfl : n_x = n_t := by rw [← o_t.len, L3.out]
  go_wp2_with fail
  refine (ints_true _ _ _ _ _ _ _ ((o_y.sl hn_y).more (Nat.le_trans S10.out S11.out)) ((o_z.sl hn_z).more (S11.out))).mono ?_
  rintro e w12 ⟨rfl, b⟩
  have S12 := Lib.hid b.size
  replace c_Q_0 := (b.cell (p := ⟨w1.heap.size, 0, none⟩) (Nat.lt_of_lt_of_le z_Q (Nat.le_trans S3.out (Nat.le_trans S4.out (Nat.le_trans S5.out (Nat.le_trans S6.out (Nat.le_trans S7.out (Nat.le_trans S8.out (Nat.le_trans S9.out (Nat.le_trans S10.out S11.out)))))))))).trans c_Q_0
  replace c_Q_1 := (b.cell (p := ⟨w1.heap.size, 1, none⟩) (Nat.lt_of_lt_of_le z_Q (Nat.le_trans S3.out (Nat.le_trans S4.out (Nat.le_trans S5.out (Nat.le_trans S6.out (Nat.le_trans S7.out (Nat.le_trans S8.out (Nat.le_trans S9.out (Nat.le_trans S10.out S11.out)))))))))).trans c_Q_1
  replace o_x := o_x.keep b (Nat.le_trans S5.out (Nat.le_trans S6.out (Nat.le_trans S7.out (Nat.le_trans S8.out (Nat.le_trans S9.out (Nat.le_trans S10.out S11.out))))))
  replace o_y := o_y.keep b (Nat.le_trans S10.out S11.out)
  replace o_e := o_e.keep b (Nat.le_trans S10.out S11.out)
  replace o_z := o_z.keep b (S11.out)
  replace o_v := o_v.keep b (S11.out)
  replace o_t := o_t.keep b (Nat.le_refl _)
  replace bb := bb.trans (b.mono (Nat.le_trans S1.out (Nat.le_trans S2.out (Nat.le_trans S3.out (Nat.le_trans S4.out (Nat.le_trans S5.out (Nat.le_trans S6.out (Nat.le_trans S7.out (Nat.le_trans S8.out (Nat.le_trans S9.out (Nat.le_trans S10.out S11.out)))))))))))
  clear b
  go_wp2_with fail
  refine (ints_true _ _ _ _ _ _ _ ((o_e.sl hn_e).more (Nat.le_trans S10.out (Nat.le_trans S11.out S12.out))) ((o_v.sl hn_v).more (Nat.le_trans S11.out S12.out))).mono ?_
  rintro e w13 ⟨rfl, b⟩
  have S13 := Lib.hid b.size
  replace c_Q_0 := (b.cell (p := ⟨w1.heap.size, 0, none⟩) (Nat.lt_of_lt_of_le z_Q (Nat.le_trans S3.out (Nat.le_trans S4.out (Nat.le_trans S5.out (Nat.le_trans S6.out (Nat.le_trans S7.out (Nat.le_trans S8.out (Nat.le_trans S9.out (Nat.le_trans S10.out (Nat.le_trans S11.out S12.out))))))))))).trans c_Q_0
  replace c_Q_1 := (b.cell (p := ⟨w1.heap.size, 1, none⟩) (Nat.lt_of_lt_of_le z_Q (Nat.le_trans S3.out (Nat.le_trans S4.out (Nat.le_trans S5.out (Nat.le_trans S6.out (Nat.le_trans S7.out (Nat.le_trans S8.out (Nat.le_trans S9.out (Nat.le_trans S10.out (Nat.le_trans S11.out S12.out))))))))))).trans c_Q_1
  replace o_x := o_x.keep b (Nat.le_trans S5.out (Nat.le_trans S6.out (Nat.le_trans S7.out (Nat.le_trans S8.out (Nat.le_trans S9.out (Nat.le_trans S10.out (Nat.le_trans S11.out S12.out)))))))
  replace o_y := o_y.keep b (Nat.le_trans S10.out (Nat.le_trans S11.out S12.out))
  replace o_e := o_e.keep b (Nat.le_trans S10.out (Nat.le_trans S11.out S12.out))
  replace o_z := o_z.keep b (Nat.le_trans S11.out S12.out)
  replace o_v := o_v.keep b (Nat.le_trans S11.out S12.out)
  replace o_t := o_t.keep b (S12.out)
  replace bb := bb.trans (b.mono (Nat.le_trans S1.out (Nat.le_trans S2.out (Nat.le_trans S3.out (Nat.le_trans S4.out (Nat.le_trans S5.out (Nat.le_trans S6.out (Nat.le_trans S7.out (Nat.le_trans S8.out (Nat.le_trans S9.out (Nat.le_trans S10.out (Nat.le_trans S11.out S12.out))))))))))))
  clear b
  have st := ((o_t.sl hn_t).more (Nat.le_trans S12.out S13.out))
  have sx := ((o_x.sl hn_x).more (Nat.le_trans S5.out (Nat.le_trans S6.out (Nat.le_trans S7.out (Nat.le_trans S8.out (Nat.le_trans S9.out (Nat.le_trans S10.out (Nat.le_trans S11.out (Nat.le_trans S12.out S13.out)))))))))
  have zq : w1.heap.size < w13.heap.size := Nat.lt_of_lt_of_le z_Q (Nat.le_trans S3.out (Nat.le_trans S4.out (Nat.le_trans S5.out (Nat.le_trans S6.out (Nat.le_trans S7.out (Nat.le_trans S8.out (Nat.le_trans S9.out (Nat.le_trans S10.out (Nat.le_trans S11.out (Nat.le_trans S12.out S13.out))))))))))
  have cq0 := c_Q_0
  have cq1 := c_Q_1
  clear o_x
  clear o_y
  clear o_e
  clear o_z
  clear o_v
  clear o_t
  clear c_Q_0 c_Q_1
  go_wp2_with fail
  go_loopw [15, 16, 92] (fun _ _ i wr => ∃ j : Nat, j ≤ n_x ∧ i = .int .i64 j ∧ Below w13.heap.size w13 wr) (fun _ _ i _ => n_x - (intOf i).toNat)
  case atStart => exact ⟨0, Nat.zero_le _, rfl, Below.refl _ _⟩
  case round =>
    obtain ⟨j, hj, rfl, hbel⟩ := hrel
    by_cases hlt : j < n_x
    · obtain ⟨b1, off1, rfl, hb1, hc1⟩ := st.at_ (by omega)
      obtain ⟨b2, off2, rfl, hb2, hc2⟩ := sx.at_ (by omega)
      have hcx := (hbel.cell (p := ⟨b1, off1 + j, none⟩) hb1).trans (hc1 j hlt)
      have hcy : wr.drew.cell? ⟨b2, off2 + j, none⟩ = _ := (hbel.cell (p := ⟨b2, off2 + j, none⟩) hb2).trans (hc2 j hlt)
      have d0 : wr.drew.cell? ⟨w1.heap.size, 0, none⟩ = some (.int .i64 l) := (hbel.cell (p := ⟨w1.heap.size, 0, none⟩) zq).trans cq0
      have d1 : wr.drew.cell? ⟨w1.heap.size, 1, none⟩ = some (.int .i64 s) := (hbel.cell (p := ⟨w1.heap.size, 1, none⟩) zq).trans cq1
      have hE := Lib.hid (F9.out j hlt)
      have hyb := JX.out j
      have hbs := hbel.size
      have zw : w1.heap.size < wr.drew.heap.size := Nat.lt_of_lt_of_le zq hbs
      have zx : b2 < wr.drew.heap.size := Nat.lt_of_lt_of_le hb2 hbs
      replace hbel := hbel.drew
      clear hc1 hc2
      generalize T.getD j 0 = x at hcx hE
      generalize x_x.getD j 0 = y at hcy hE hyb
      have e1 : (0 : Int) ≤ (j : Int) := by omega
      have e2 : (j : Int) < (n_x : Int) := by omega
      obtain ⟨t, ht⟩ : ∃ t, Hid (idxV l s y = t) := ⟨_, rfl⟩
      obtain rfl : x = t := by rw [hE.out, ht.out]
      have e5 : (x != x) = false := by simp
      go_wp2_with fail
      go_region_held3 (fun w' => w'.cell? ⟨w1.heap.size, 0, none⟩ = some (.int .i64 l) ∧ w'.cell? ⟨w1.heap.size, 1, none⟩ = some (.int .i64 s) ∧ w'.cell? ⟨b2, off2 + j, none⟩ = some (.int .i64 y)) (go_keep) (first | (go_at_call 25; refine (indexOf_i _ _ _ _).mono ?_; rw [ht.out]; rintro e wz ⟨rfl, b⟩; replace hcy := (b.cell (p := ⟨b2, off2 + j, none⟩) zx).trans hcy; replace d0 := (b.cell (p := ⟨w1.heap.size, 0, none⟩) zw).trans d0; replace d1 := (b.cell (p := ⟨w1.heap.size, 1, none⟩) zw).trans d1; replace hbel := hbel.trans (b.mono hbs); clear b))
      go_wp2_with fail
      go_roundw
      case rel => exact ⟨j + 1, by omega, by go_num, hbel⟩
      case measure => simp [intOf]; omega
    · have : j = n_x := by omega
      go_wp2_with fail
      go_ret
      exact ⟨rfl, bb.trans (hbel.mono (Nat.le_trans S1.out (Nat.le_trans S2.out (Nat.le_trans S3.out (Nat.le_trans S4.out (Nat.le_trans S5.out (Nat.le_trans S6.out (Nat.le_trans S7.out (Nat.le_trans S8.out (Nat.le_trans S9.out (Nat.le_trans S10.out (Nat.le_trans S11.out (Nat.le_trans S12.out S13.out)))))))))))))⟩
end Go.Proofs.Ytmgjbldnohkodaa
