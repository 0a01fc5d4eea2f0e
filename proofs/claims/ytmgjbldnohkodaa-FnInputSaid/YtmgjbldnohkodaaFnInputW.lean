/- The walk of the law FnInput: it returns true and leaves what was there as it was. -/
import Derived.Test.YtmgjbldnohkodaaPureN2
import Derived.Test.YtmgjbldnohkodaaLawQ
import Derived.Test.YtmgjbldnohkodaaMod5
import Derived.Test.YtmgjbldnohkodaaMod4
import Derived.Test.YtmgjbldnohkodaaMod6
namespace Go.Proofs.Ytmgjbldnohkodaa
open Go.RowKit
set_option linter.unusedVariables false
set_option maxRecDepth 100000 in
set_option maxHeartbeats 4000000 in
theorem fnInput_walk (a0 : Option Addr) (n0 c0 : Nat) (z0 : List Int) (w0 : World) (h : IsRow .u8 w0 a0 n0 c0 z0) :
    Calls Try.prog 10 #[.slice a0 n0 c0] w0 fun e w' => e = .returned (.bool true) ∧ Below w0.heap.size w0 w' := by
  have hle := h.le
  by_cases hn : n0 ≤ 1048576
  rotate_left
  · go_enter Try.func10, Try.ntmps10
    go_wp2_with fail
    go_ret
    exact ⟨rfl, Below.refl _ _⟩
  have s_code := h.bsl hn
  clear h hle
  have bb := Below.refl w0.heap.size w0
  go_enter Try.func10, Try.ntmps10
  go_wp2_with fail
  refine (mkM_any _ _ _ _ (s_code.more (Nat.le_refl _))).mono ?_
  rintro e w1 ⟨l, s, a_m, n_m, c_m, cs, hl2, hl6, hs, hm, hc, rfl, o_m, b⟩
  have S1 := Lib.hid b.size
  replace s_code := s_code.keep (b.mono (Nat.le_refl _))
  replace bb := bb.trans (b.mono (Nat.le_refl _))
  clear b
  have hn_m : n_m ≤ 1048576 := by rw [← o_m.len]; have := (isMod_true hm).2.2.1; omega
  have hsb := smallS_bd hs
  have hN6 : n_m ≤ 6 := by rw [← o_m.len]; exact (isMod_true hm).2.2.1
  have hN1 : 1 ≤ n_m := by rw [← o_m.len]; exact (isMod_true hm).2.1
  have HM := Lib.hid hm
  have HC := Lib.hid hc
  clear hs hm hc
  have b := box_below w1 (.cells #[.int .i64 l, .int .i64 s, .slice a_m n_m c_m] 27)
  have c_M_0 : (w1.alloc (.cells #[.int .i64 l, .int .i64 s, .slice a_m n_m c_m] 27)).cell? ⟨w1.heap.size, 0, none⟩ = some (.int .i64 l) := by simp [go_sem]
  have c_M_1 : (w1.alloc (.cells #[.int .i64 l, .int .i64 s, .slice a_m n_m c_m] 27)).cell? ⟨w1.heap.size, 1, none⟩ = some (.int .i64 s) := by simp [go_sem]
  have c_M_2 : (w1.alloc (.cells #[.int .i64 l, .int .i64 s, .slice a_m n_m c_m] 27)).cell? ⟨w1.heap.size, 2, none⟩ = some (.slice a_m n_m c_m) := by simp [go_sem]
  go_wp2_with fail
  have z_M : w1.heap.size < (w1.alloc (.cells #[.int .i64 l, .int .i64 s, .slice a_m n_m c_m] 27)).heap.size := by simp
  generalize hgw : (w1.alloc (.cells #[.int .i64 l, .int .i64 s, .slice a_m n_m c_m] 27)) = w2 at c_M_0 c_M_1 c_M_2 z_M b ⊢
  clear hgw 
  have S2 := Lib.hid b.size
  replace o_m := o_m.keep b (Nat.le_refl _)
  replace s_code := s_code.keep (b.mono (S1.out))
  replace bb := bb.trans (b.mono (S1.out))
  clear b
  go_wp2_with fail
  have S3 : Hid (w2.heap.size ≤ w2.drew.heap.size) := Nat.le_refl _
  replace o_m := o_m.drew
  replace c_M_0 : w2.drew.cell? ⟨w1.heap.size, 0, none⟩ = some (.int .i64 l) := c_M_0
  replace c_M_1 : w2.drew.cell? ⟨w1.heap.size, 1, none⟩ = some (.int .i64 s) := c_M_1
  replace c_M_2 : w2.drew.cell? ⟨w1.heap.size, 2, none⟩ = some (.slice a_m n_m c_m) := c_M_2
  replace bb := bb.drew
  replace s_code := s_code.drew
  go_region_held3 (fun w' => w'.cell? ⟨w1.heap.size, 0, none⟩ = some (.int .i64 l) ∧ w'.cell? ⟨w1.heap.size, 1, none⟩ = some (.int .i64 s) ∧ w'.cell? ⟨w1.heap.size, 2, none⟩ = some (.slice a_m n_m c_m)) (go_keep) (first | (go_at_call 15; refine (fresh_any _ _ _ 3 _ (s_code.more (Nat.le_trans S1.out (Nat.le_trans S2.out S3.out))) (by omega)).mono ?_; rintro e w4 ⟨a_f, n_f, c_f, rfl, s_f, b⟩; have S4 := Lib.hid b.size; replace o_m := o_m.keep b (Nat.le_trans S2.out S3.out); replace c_M_0 := (b.cell (p := ⟨w1.heap.size, 0, none⟩) (Nat.lt_of_lt_of_le z_M (S3.out))).trans c_M_0; replace c_M_1 := (b.cell (p := ⟨w1.heap.size, 1, none⟩) (Nat.lt_of_lt_of_le z_M (S3.out))).trans c_M_1; replace c_M_2 := (b.cell (p := ⟨w1.heap.size, 2, none⟩) (Nat.lt_of_lt_of_le z_M (S3.out))).trans c_M_2; replace s_code := s_code.keep (b.mono (Nat.le_trans S1.out (Nat.le_trans S2.out S3.out))); replace bb := bb.trans (b.mono (Nat.le_trans S1.out (Nat.le_trans S2.out S3.out))); clear b) | (go_at_call 14; refine (mkMem_any l s _ _ _ _ _ _ _ (s_f.more (Nat.le_refl _)) (by omega) (by omega)).mono ?_; rintro e w5 ⟨a_k, c_k, x_k, rfl, o_k, w_k, b⟩; have S5 := Lib.hid b.size; replace o_m := o_m.keep b (Nat.le_trans S2.out (Nat.le_trans S3.out S4.out)); replace c_M_0 := (b.cell (p := ⟨w1.heap.size, 0, none⟩) (Nat.lt_of_lt_of_le z_M (Nat.le_trans S3.out S4.out))).trans c_M_0; replace c_M_1 := (b.cell (p := ⟨w1.heap.size, 1, none⟩) (Nat.lt_of_lt_of_le z_M (Nat.le_trans S3.out S4.out))).trans c_M_1; replace c_M_2 := (b.cell (p := ⟨w1.heap.size, 2, none⟩) (Nat.lt_of_lt_of_le z_M (Nat.le_trans S3.out S4.out))).trans c_M_2; replace s_code := s_code.keep (b.mono (Nat.le_trans S1.out (Nat.le_trans S2.out (Nat.le_trans S3.out S4.out)))); replace s_f := s_f.keep (b.mono (Nat.le_refl _)); replace bb := bb.trans (b.mono (Nat.le_trans S1.out (Nat.le_trans S2.out (Nat.le_trans S3.out S4.out)))); clear b))
  have hn_k : n_m ≤ 1048576 := by omega
  clear s_f
  go_wp2_with fail
  refine (fresh_any _ _ _ 5 _ (s_code.more (Nat.le_trans S1.out (Nat.le_trans S2.out (Nat.le_trans S3.out (Nat.le_trans S4.out S5.out))))) (by omega)).mono ?_
  rintro e w6 ⟨a_f, n_f, c_f, rfl, s_f, b⟩
  have S6 := Lib.hid b.size
  replace o_m := o_m.keep b (Nat.le_trans S2.out (Nat.le_trans S3.out (Nat.le_trans S4.out S5.out)))
  replace c_M_0 := (b.cell (p := ⟨w1.heap.size, 0, none⟩) (Nat.lt_of_lt_of_le z_M (Nat.le_trans S3.out (Nat.le_trans S4.out S5.out)))).trans c_M_0
  replace c_M_1 := (b.cell (p := ⟨w1.heap.size, 1, none⟩) (Nat.lt_of_lt_of_le z_M (Nat.le_trans S3.out (Nat.le_trans S4.out S5.out)))).trans c_M_1
  replace c_M_2 := (b.cell (p := ⟨w1.heap.size, 2, none⟩) (Nat.lt_of_lt_of_le z_M (Nat.le_trans S3.out (Nat.le_trans S4.out S5.out)))).trans c_M_2
  replace o_k := o_k.keep b (Nat.le_refl _)
  replace s_code := s_code.keep (b.mono (Nat.le_trans S1.out (Nat.le_trans S2.out (Nat.le_trans S3.out (Nat.le_trans S4.out S5.out)))))
  replace bb := bb.trans (b.mono (Nat.le_trans S1.out (Nat.le_trans S2.out (Nat.le_trans S3.out (Nat.le_trans S4.out S5.out)))))
  clear b
  go_wp2_with fail
  refine (at_any _ _ _ _ 1 _ s_code (by omega)).mono ?_
  rintro e w' ⟨a, a0, a1, rfl, rfl⟩
  go_wp2_with fail
  refine (mkSeq_any _ _ _ 30 (1 + a * 2) _ (s_f.more (Nat.le_refl _)) (by omega) (by omega) (by omega)).mono ?_
  rintro e w7 ⟨a_x, n_x, c_x, x_x, rfl, o_x, l_x, i_x, j_x, b⟩
  have S7 := Lib.hid b.size
  replace o_m := o_m.keep b (Nat.le_trans S2.out (Nat.le_trans S3.out (Nat.le_trans S4.out (Nat.le_trans S5.out S6.out))))
  replace c_M_0 := (b.cell (p := ⟨w1.heap.size, 0, none⟩) (Nat.lt_of_lt_of_le z_M (Nat.le_trans S3.out (Nat.le_trans S4.out (Nat.le_trans S5.out S6.out))))).trans c_M_0
  replace c_M_1 := (b.cell (p := ⟨w1.heap.size, 1, none⟩) (Nat.lt_of_lt_of_le z_M (Nat.le_trans S3.out (Nat.le_trans S4.out (Nat.le_trans S5.out S6.out))))).trans c_M_1
  replace c_M_2 := (b.cell (p := ⟨w1.heap.size, 2, none⟩) (Nat.lt_of_lt_of_le z_M (Nat.le_trans S3.out (Nat.le_trans S4.out (Nat.le_trans S5.out S6.out))))).trans c_M_2
  replace o_k := o_k.keep b (S6.out)
  replace s_code := s_code.keep (b.mono (Nat.le_trans S1.out (Nat.le_trans S2.out (Nat.le_trans S3.out (Nat.le_trans S4.out (Nat.le_trans S5.out S6.out))))))
  replace s_f := s_f.keep (b.mono (Nat.le_refl _))
  replace bb := bb.trans (b.mono (Nat.le_trans S1.out (Nat.le_trans S2.out (Nat.le_trans S3.out (Nat.le_trans S4.out (Nat.le_trans S5.out S6.out))))))
  clear b
  have hn_x : n_x ≤ 1048576 := by omega
  clear s_f
  clear s_code
  have OF := Lib.hid (fun hB => input_facts (l := l) (s := s) (cs := cs) (ms := x_k) (xs := x_x) hB)
  obtain ⟨Y, hY⟩ : ∃ Y, Hid (runY l s cs x_k x_x = Y) := ⟨_, rfl⟩
  obtain ⟨E, hE⟩ : ∃ E, Hid (runE l s cs x_k x_x = E) := ⟨_, rfl⟩
  obtain ⟨Z, hZ⟩ : ∃ Z, Hid (runM l s cs x_k x_x = Z) := ⟨_, rfl⟩
  obtain ⟨B, hB⟩ : ∃ B, Hid (runB l s cs x_k x_x = B) := ⟨_, rfl⟩
  have RL := Lib.hid (run_lens l s cs x_k x_x)
  rw [hY.out, hE.out, hZ.out] at RL
  rw [hY.out, hE.out, hZ.out, hB.out] at OF
  go_wp2_with fail
  refine (run_i l s _ _ _ _ _ _ _ _ _ cs x_k x_x _ ((o_m.sl hn_m).more (Nat.le_trans S2.out (Nat.le_trans S3.out (Nat.le_trans S4.out (Nat.le_trans S5.out (Nat.le_trans S6.out S7.out)))))) ((o_k.sl hn_k).more (Nat.le_trans S6.out S7.out)) ((o_x.sl hn_x).more (Nat.le_refl _))).mono ?_
  rw [hY.out, hE.out, hZ.out, hB.out]
  rintro e w8 ⟨a_y, n_y, c_y, a_e, n_e, c_e, a_z, n_z, c_z, rfl, o_y, o_e, o_z, f1, f2, f3, b⟩
  have S8 := Lib.hid b.size
  replace o_m := o_m.keep b (Nat.le_trans S2.out (Nat.le_trans S3.out (Nat.le_trans S4.out (Nat.le_trans S5.out (Nat.le_trans S6.out S7.out)))))
  replace c_M_0 := (b.cell (p := ⟨w1.heap.size, 0, none⟩) (Nat.lt_of_lt_of_le z_M (Nat.le_trans S3.out (Nat.le_trans S4.out (Nat.le_trans S5.out (Nat.le_trans S6.out S7.out)))))).trans c_M_0
  replace c_M_1 := (b.cell (p := ⟨w1.heap.size, 1, none⟩) (Nat.lt_of_lt_of_le z_M (Nat.le_trans S3.out (Nat.le_trans S4.out (Nat.le_trans S5.out (Nat.le_trans S6.out S7.out)))))).trans c_M_1
  replace c_M_2 := (b.cell (p := ⟨w1.heap.size, 2, none⟩) (Nat.lt_of_lt_of_le z_M (Nat.le_trans S3.out (Nat.le_trans S4.out (Nat.le_trans S5.out (Nat.le_trans S6.out S7.out)))))).trans c_M_2
  replace o_k := o_k.keep b (Nat.le_trans S6.out S7.out)
  replace o_x := o_x.keep b (Nat.le_refl _)
  replace bb := bb.trans (b.mono (Nat.le_trans S1.out (Nat.le_trans S2.out (Nat.le_trans S3.out (Nat.le_trans S4.out (Nat.le_trans S5.out (Nat.le_trans S6.out S7.out)))))))
  clear b
  clear f1 f2 f3
  have hn_y : n_y ≤ 1048576 := (by rw [← o_y.len]; exact RL.out.1)
  have hn_e : n_e ≤ 1048576 := (by rw [← o_e.len]; exact RL.out.2.1)
  have hn_z : n_z ≤ 1048576 := (by rw [← o_z.len]; exact RL.out.2.2)
  go_wp2_with fail
  refine (run_s l s _ _ _ _ _ _ _ _ _ cs x_k x_x _ ((o_m.sl hn_m).more (Nat.le_trans S2.out (Nat.le_trans S3.out (Nat.le_trans S4.out (Nat.le_trans S5.out (Nat.le_trans S6.out (Nat.le_trans S7.out S8.out))))))) ((o_k.sl hn_k).more (Nat.le_trans S6.out (Nat.le_trans S7.out S8.out))) ((o_x.sl hn_x).more (S8.out))).mono ?_
  rw [hY.out, hE.out, hZ.out, hB.out]
  rintro e w9 ⟨a_y2, n_y2, c_y2, a_e2, n_e2, c_e2, a_z2, n_z2, c_z2, rfl, o_y2, o_e2, o_z2, f1, f2, f3, b⟩
  have S9 := Lib.hid b.size
  replace o_m := o_m.keep b (Nat.le_trans S2.out (Nat.le_trans S3.out (Nat.le_trans S4.out (Nat.le_trans S5.out (Nat.le_trans S6.out (Nat.le_trans S7.out S8.out))))))
  replace c_M_0 := (b.cell (p := ⟨w1.heap.size, 0, none⟩) (Nat.lt_of_lt_of_le z_M (Nat.le_trans S3.out (Nat.le_trans S4.out (Nat.le_trans S5.out (Nat.le_trans S6.out (Nat.le_trans S7.out S8.out))))))).trans c_M_0
  replace c_M_1 := (b.cell (p := ⟨w1.heap.size, 1, none⟩) (Nat.lt_of_lt_of_le z_M (Nat.le_trans S3.out (Nat.le_trans S4.out (Nat.le_trans S5.out (Nat.le_trans S6.out (Nat.le_trans S7.out S8.out))))))).trans c_M_1
  replace c_M_2 := (b.cell (p := ⟨w1.heap.size, 2, none⟩) (Nat.lt_of_lt_of_le z_M (Nat.le_trans S3.out (Nat.le_trans S4.out (Nat.le_trans S5.out (Nat.le_trans S6.out (Nat.le_trans S7.out S8.out))))))).trans c_M_2
  replace o_k := o_k.keep b (Nat.le_trans S6.out (Nat.le_trans S7.out S8.out))
  replace o_x := o_x.keep b (S8.out)
  replace o_y := o_y.keep b (Nat.le_refl _)
  replace o_e := o_e.keep b (Nat.le_refl _)
  replace o_z := o_z.keep b (Nat.le_refl _)
  replace bb := bb.trans (b.mono (Nat.le_trans S1.out (Nat.le_trans S2.out (Nat.le_trans S3.out (Nat.le_trans S4.out (Nat.le_trans S5.out (Nat.le_trans S6.out (Nat.le_trans S7.out S8.out))))))))
  clear b
  clear f1 f2 f3 o_y2 o_e2 o_z2
  cases B
  · go_wp2_with fail
    go_ret
    exact ⟨rfl, bb⟩
  · obtain ⟨f1, f2, f3, ⟨f4, f5⟩, f6⟩ := OF.out rfl
    rw [o_k.len, o_x.len] at f6
    have F1 := Lib.hid f1
    have F2 := Lib.hid f2
    have F3 := Lib.hid f3
    have F4 := Lib.hid f4
    have F5 := Lib.hid f5
    have F6 := Lib.hid f6
    clear OF f1 f2 f3 f4 f5 f6
    have hq : n_y = n_x := by rw [← o_y.len, ← o_x.len]; exact F1.out
    obtain rfl : n_x = n_y := hq.symm
    clear hq
    have hq : n_e = n_x := by rw [← o_e.len, ← o_x.len]; exact F2.out
    obtain rfl : n_x = n_e := hq.symm
    clear hq
    have hq : n_z = n_m := by rw [← o_z.len, ← o_k.len]; exact F3.out
    obtain rfl : n_m = n_z := hq.symm
    clear hq
    go_wp2_with fail
    refine (input_i l s _ _ _ _ _ _ _ _ _ _ _ _ cs x_k Y E _ ((o_m.sl hn_m).more (Nat.le_trans S2.out (Nat.le_trans S3.out (Nat.le_trans S4.out (Nat.le_trans S5.out (Nat.le_trans S6.out (Nat.le_trans S7.out (Nat.le_trans S8.out S9.out)))))))) ((o_k.sl hn_k).more (Nat.le_trans S6.out (Nat.le_trans S7.out (Nat.le_trans S8.out S9.out)))) ((o_y.sl hn_y).more (S9.out)) ((o_e.sl hn_e).more (S9.out))).mono ?_
    rw [F4.out, F5.out]
    rintro e w10 ⟨a_v, n_v, c_v, rfl, o_v, b⟩
    have S10 := Lib.hid b.size
    replace o_m := o_m.keep b (Nat.le_trans S2.out (Nat.le_trans S3.out (Nat.le_trans S4.out (Nat.le_trans S5.out (Nat.le_trans S6.out (Nat.le_trans S7.out (Nat.le_trans S8.out S9.out)))))))
    replace c_M_0 := (b.cell (p := ⟨w1.heap.size, 0, none⟩) (Nat.lt_of_lt_of_le z_M (Nat.le_trans S3.out (Nat.le_trans S4.out (Nat.le_trans S5.out (Nat.le_trans S6.out (Nat.le_trans S7.out (Nat.le_trans S8.out S9.out)))))))).trans c_M_0
    replace c_M_1 := (b.cell (p := ⟨w1.heap.size, 1, none⟩) (Nat.lt_of_lt_of_le z_M (Nat.le_trans S3.out (Nat.le_trans S4.out (Nat.le_trans S5.out (Nat.le_trans S6.out (Nat.le_trans S7.out (Nat.le_trans S8.out S9.out)))))))).trans c_M_1
    replace c_M_2 := (b.cell (p := ⟨w1.heap.size, 2, none⟩) (Nat.lt_of_lt_of_le z_M (Nat.le_trans S3.out (Nat.le_trans S4.out (Nat.le_trans S5.out (Nat.le_trans S6.out (Nat.le_trans S7.out (Nat.le_trans S8.out S9.out)))))))).trans c_M_2
    replace o_k := o_k.keep b (Nat.le_trans S6.out (Nat.le_trans S7.out (Nat.le_trans S8.out S9.out)))
    replace o_x := o_x.keep b (Nat.le_trans S8.out S9.out)
    replace o_y := o_y.keep b (S9.out)
    replace o_e := o_e.keep b (S9.out)
    replace o_z := o_z.keep b (S9.out)
    replace bb := bb.trans (b.mono (Nat.le_trans S1.out (Nat.le_trans S2.out (Nat.le_trans S3.out (Nat.le_trans S4.out (Nat.le_trans S5.out (Nat.le_trans S6.out (Nat.le_trans S7.out (Nat.le_trans S8.out S9.out)))))))))
    clear b
    have hn_v : n_v ≤ 1048576 := by rw [← o_v.len]; have := o_x.len; omega
    obtain rfl : n_x = n_v := by rw [← o_v.len, ← o_x.len]
    go_wp2_with fail
    refine (ints_true _ _ _ _ _ _ _ ((o_v.sl hn_v).more (Nat.le_refl _)) ((o_x.sl hn_x).more (Nat.le_trans S8.out (Nat.le_trans S9.out S10.out)))).mono ?_
    rintro e w11 ⟨rfl, b⟩
    have S11 := Lib.hid b.size
    replace o_m := o_m.keep b (Nat.le_trans S2.out (Nat.le_trans S3.out (Nat.le_trans S4.out (Nat.le_trans S5.out (Nat.le_trans S6.out (Nat.le_trans S7.out (Nat.le_trans S8.out (Nat.le_trans S9.out S10.out))))))))
    replace c_M_0 := (b.cell (p := ⟨w1.heap.size, 0, none⟩) (Nat.lt_of_lt_of_le z_M (Nat.le_trans S3.out (Nat.le_trans S4.out (Nat.le_trans S5.out (Nat.le_trans S6.out (Nat.le_trans S7.out (Nat.le_trans S8.out (Nat.le_trans S9.out S10.out))))))))).trans c_M_0
    replace c_M_1 := (b.cell (p := ⟨w1.heap.size, 1, none⟩) (Nat.lt_of_lt_of_le z_M (Nat.le_trans S3.out (Nat.le_trans S4.out (Nat.le_trans S5.out (Nat.le_trans S6.out (Nat.le_trans S7.out (Nat.le_trans S8.out (Nat.le_trans S9.out S10.out))))))))).trans c_M_1
    replace c_M_2 := (b.cell (p := ⟨w1.heap.size, 2, none⟩) (Nat.lt_of_lt_of_le z_M (Nat.le_trans S3.out (Nat.le_trans S4.out (Nat.le_trans S5.out (Nat.le_trans S6.out (Nat.le_trans S7.out (Nat.le_trans S8.out (Nat.le_trans S9.out S10.out))))))))).trans c_M_2
    replace o_k := o_k.keep b (Nat.le_trans S6.out (Nat.le_trans S7.out (Nat.le_trans S8.out (Nat.le_trans S9.out S10.out))))
    replace o_x := o_x.keep b (Nat.le_trans S8.out (Nat.le_trans S9.out S10.out))
    replace o_y := o_y.keep b (Nat.le_trans S9.out S10.out)
    replace o_e := o_e.keep b (Nat.le_trans S9.out S10.out)
    replace o_z := o_z.keep b (Nat.le_trans S9.out S10.out)
    replace o_v := o_v.keep b (Nat.le_refl _)
    replace bb := bb.trans (b.mono (Nat.le_trans S1.out (Nat.le_trans S2.out (Nat.le_trans S3.out (Nat.le_trans S4.out (Nat.le_trans S5.out (Nat.le_trans S6.out (Nat.le_trans S7.out (Nat.le_trans S8.out (Nat.le_trans S9.out S10.out))))))))))
    clear b
    have sz := ((o_z.sl hn_z).more (Nat.le_trans S9.out (Nat.le_trans S10.out S11.out)))
    have se := ((o_e.sl hn_e).more (Nat.le_trans S9.out (Nat.le_trans S10.out S11.out)))
    have sk := ((o_k.sl hn_k).more (Nat.le_trans S6.out (Nat.le_trans S7.out (Nat.le_trans S8.out (Nat.le_trans S9.out (Nat.le_trans S10.out S11.out))))))
    clear o_x
    clear o_y
    clear o_e
    clear o_z
    clear o_v
    clear o_k
    clear o_m
    clear c_M_0 c_M_1 c_M_2
    go_wp2_with fail
    go_loopw [16, 17, 99] (fun _ _ i wr => ∃ j : Nat, j ≤ n_m ∧ i = .int .i64 j ∧ Below w11.heap.size w11 wr) (fun _ _ i _ => n_m - (intOf i).toNat)
    case atStart => exact ⟨0, Nat.zero_le _, rfl, Below.refl _ _⟩
    case round =>
      obtain ⟨j, hj, rfl, hbel⟩ := hrel
      by_cases hlt : j < n_m
      · obtain ⟨b1, off1, rfl, hb1, hc1⟩ := sz.at_ (by omega)
        have hcx := (hbel.cell (p := ⟨b1, off1 + j, none⟩) hb1).trans (hc1 j hlt)
        have hE0 := F6.out j hlt
        have e1 : (0 : Int) ≤ (j : Int) := by omega
        have e2 : (j : Int) < (n_m : Int) := by omega
        by_cases hlx : j < n_x
        · rw [if_pos hlx] at hE0
          obtain ⟨b2, off2, rfl, hb2, hc2⟩ := se.at_ (by omega)
          have hcy := (hbel.cell (p := ⟨b2, off2 + (n_x - 1 - j), none⟩) hb2).trans (hc2 (n_x - 1 - j) (by omega))
          have e3 : ((n_x : Int) - 1 - (j : Int)).toNat = n_x - 1 - j := by omega
          have e4 : (j : Int) < (n_x : Int) := by omega
          have hE := Lib.hid hE0
          clear hc1 hc2 hE0
          generalize Z.getD j 0 = x at hcx hE
          generalize E.getD (n_x - 1 - j) 0 = y at hcy hE
          have e5 : (x != y) = false := by rw [hE.out]; simp
          go_wp2_with fail
          go_roundw
          case rel => exact ⟨j + 1, by omega, by go_num, hbel⟩
          case measure => simp [intOf]; omega
        · rw [if_neg hlx] at hE0
          obtain ⟨b2, off2, rfl, hb2, hc2⟩ := sk.at_ (by omega)
          have hcy := (hbel.cell (p := ⟨b2, off2 + (j - n_x), none⟩) hb2).trans (hc2 (j - n_x) (by omega))
          have e3 : ((j : Int) - (n_x : Int)).toNat = j - n_x := by omega
          have e4 : ¬ (j : Int) < (n_x : Int) := by omega
          have hE := Lib.hid hE0
          clear hc1 hc2 hE0
          generalize Z.getD j 0 = x at hcx hE
          generalize x_k.getD (j - n_x) 0 = y at hcy hE
          have e5 : (x != y) = false := by rw [hE.out]; simp
          go_wp2_with fail
          go_roundw
          case rel => exact ⟨j + 1, by omega, by go_num, hbel⟩
          case measure => simp [intOf]; omega
      · have : j = n_m := by omega
        go_wp2_with fail
        go_ret
        exact ⟨rfl, bb.trans (hbel.mono (Nat.le_trans S1.out (Nat.le_trans S2.out (Nat.le_trans S3.out (Nat.le_trans S4.out (Nat.le_trans S5.out (Nat.le_trans S6.out (Nat.le_trans S7.out (Nat.le_trans S8.out (Nat.le_trans S9.out (Nat.le_trans S10.out S11.out)))))))))))⟩
end Go.Proofs.Ytmgjbldnohkodaa
