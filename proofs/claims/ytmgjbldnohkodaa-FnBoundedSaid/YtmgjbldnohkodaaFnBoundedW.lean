/- The walk of the law FnBounded: it returns true and leaves what was there as it was. -/
import Derived.Test.YtmgjbldnohkodaaPureN2
import Derived.Test.YtmgjbldnohkodaaLawQ
import Derived.Test.YtmgjbldnohkodaaMod5
import Derived.Test.YtmgjbldnohkodaaMod4
import Derived.Test.YtmgjbldnohkodaaQuant2
namespace Go.Proofs.Ytmgjbldnohkodaa
open Go.RowKit
set_option linter.unusedVariables false
set_option maxRecDepth 100000 in
set_option maxHeartbeats 4000000 in
theorem fnBounded_walk (a0 : Option Addr) (n0 c0 : Nat) (z0 : List Int) (w0 : World) (h : IsRow .u8 w0 a0 n0 c0 z0) :
    Calls Try.prog 7 #[.slice a0 n0 c0] w0 fun e w' => e = .returned (.bool true) ∧ Below w0.heap.size w0 w' := by
  have hle := h.le
  by_cases hn : n0 ≤ 1048576
  rotate_left
  · go_enter Try.func7, Try.ntmps7
    go_wp2_with fail
    go_ret
    exact ⟨rfl, Below.refl _ _⟩
  have s_code := h.bsl hn
  clear h hle
  have bb := Below.refl w0.heap.size w0
  go_enter Try.func7, Try.ntmps7
  go_wp2_with fail
  refine (mkM_any _ _ _ _ (s_code.more (Nat.le_refl _))).mono ?_
  rintro e w1 ⟨l, s, a_m, n_m, c_m, cs, hl2, hl6, hs, hm, hc, rfl, o_m, b⟩
  have S1 := Lib.hid b.size
  replace s_code := s_code.keep (b.mono (Nat.le_refl _))
  replace bb := bb.trans (b.mono (Nat.le_refl _))
  clear b
  have hn_m : n_m ≤ 1048576 := by rw [← o_m.len]; have := (isMod_true hm).2.2.1; omega
  have hsb := smallS_bd hs
  have hN6 : n_m ≤ 6 := by rw [← o_m.len]; exact (isMod_true hm).2.2.1
  have hN1 : 1 ≤ n_m := by rw [← o_m.len]; exact (isMod_true hm).2.1
  have HM := Lib.hid hm
  have HC := Lib.hid hc
  clear hs hm hc
  have b := box_below w1 (.cells #[.int .i64 l, .int .i64 s, .slice a_m n_m c_m] 27)
  have c_M_0 : (w1.alloc (.cells #[.int .i64 l, .int .i64 s, .slice a_m n_m c_m] 27)).cell? ⟨w1.heap.size, 0, none⟩ = some (.int .i64 l) := by simp [go_sem]
  have c_M_1 : (w1.alloc (.cells #[.int .i64 l, .int .i64 s, .slice a_m n_m c_m] 27)).cell? ⟨w1.heap.size, 1, none⟩ = some (.int .i64 s) := by simp [go_sem]
  have c_M_2 : (w1.alloc (.cells #[.int .i64 l, .int .i64 s, .slice a_m n_m c_m] 27)).cell? ⟨w1.heap.size, 2, none⟩ = some (.slice a_m n_m c_m) := by simp [go_sem]
  go_wp2_with fail
  have z_M : w1.heap.size < (w1.alloc (.cells #[.int .i64 l, .int .i64 s, .slice a_m n_m c_m] 27)).heap.size := by simp
  generalize hgw : (w1.alloc (.cells #[.int .i64 l, .int .i64 s, .slice a_m n_m c_m] 27)) = w2 at c_M_0 c_M_1 c_M_2 z_M b ⊢
  clear hgw 
  have S2 := Lib.hid b.size
  replace o_m := o_m.keep b (Nat.le_refl _)
  replace s_code := s_code.keep (b.mono (S1.out))
  replace bb := bb.trans (b.mono (S1.out))
  clear b
  obtain ⟨S, hS⟩ : ∃ S, Hid (safeV l s cs = S) := ⟨_, rfl⟩
  have hSb := safe_small HM.out hl6 hsb.2 hS.out
  go_wp2_with fail
  refine (safe_i l s _ _ _ cs _ ((o_m.sl hn_m).more (S2.out))).mono ?_
  rw [hS.out]
  rintro e w3 ⟨rfl, b⟩
  have S3 := Lib.hid b.size
  replace o_m := o_m.keep b (S2.out)
  replace c_M_0 := (b.cell (p := ⟨w1.heap.size, 0, none⟩) (Nat.lt_of_lt_of_le z_M (Nat.le_refl _))).trans c_M_0
  replace c_M_1 := (b.cell (p := ⟨w1.heap.size, 1, none⟩) (Nat.lt_of_lt_of_le z_M (Nat.le_refl _))).trans c_M_1
  replace c_M_2 := (b.cell (p := ⟨w1.heap.size, 2, none⟩) (Nat.lt_of_lt_of_le z_M (Nat.le_refl _))).trans c_M_2
  replace s_code := s_code.keep (b.mono (Nat.le_trans S1.out S2.out))
  replace bb := bb.trans (b.mono (Nat.le_trans S1.out S2.out))
  clear b
  go_wp2_with fail
  refine (safe_s l s _ _ _ cs _ ((o_m.sl hn_m).more (Nat.le_trans S2.out S3.out))).mono ?_
  rw [hS.out]
  rintro e w4 ⟨rfl, b⟩
  have S4 := Lib.hid b.size
  replace o_m := o_m.keep b (Nat.le_trans S2.out S3.out)
  replace c_M_0 := (b.cell (p := ⟨w1.heap.size, 0, none⟩) (Nat.lt_of_lt_of_le z_M (S3.out))).trans c_M_0
  replace c_M_1 := (b.cell (p := ⟨w1.heap.size, 1, none⟩) (Nat.lt_of_lt_of_le z_M (S3.out))).trans c_M_1
  replace c_M_2 := (b.cell (p := ⟨w1.heap.size, 2, none⟩) (Nat.lt_of_lt_of_le z_M (S3.out))).trans c_M_2
  replace s_code := s_code.keep (b.mono (Nat.le_trans S1.out (Nat.le_trans S2.out S3.out)))
  replace bb := bb.trans (b.mono (Nat.le_trans S1.out (Nat.le_trans S2.out S3.out)))
  clear b
  by_cases hS0 : S < 0
  · go_wp2_with fail
    go_ret
    exact ⟨rfl, bb⟩
  go_wp2_with fail
  have S5 : Hid (w4.heap.size ≤ w4.drew.heap.size) := Nat.le_refl _
  replace o_m := o_m.drew
  replace c_M_0 : w4.drew.cell? ⟨w1.heap.size, 0, none⟩ = some (.int .i64 l) := c_M_0
  replace c_M_1 : w4.drew.cell? ⟨w1.heap.size, 1, none⟩ = some (.int .i64 s) := c_M_1
  replace c_M_2 : w4.drew.cell? ⟨w1.heap.size, 2, none⟩ = some (.slice a_m n_m c_m) := c_M_2
  replace bb := bb.drew
  replace s_code := s_code.drew
  go_region_held3 (fun w' => w'.cell? ⟨w1.heap.size, 0, none⟩ = some (.int .i64 l) ∧ w'.cell? ⟨w1.heap.size, 1, none⟩ = some (.int .i64 s) ∧ w'.cell? ⟨w1.heap.size, 2, none⟩ = some (.slice a_m n_m c_m)) (go_keep) (first | (go_at_call 15; refine (fresh_any _ _ _ 3 _ (s_code.more (Nat.le_trans S1.out (Nat.le_trans S2.out (Nat.le_trans S3.out (Nat.le_trans S4.out S5.out))))) (by omega)).mono ?_; rintro e w6 ⟨a_f, n_f, c_f, rfl, s_f, b⟩; have S6 := Lib.hid b.size; replace o_m := o_m.keep b (Nat.le_trans S2.out (Nat.le_trans S3.out (Nat.le_trans S4.out S5.out))); replace c_M_0 := (b.cell (p := ⟨w1.heap.size, 0, none⟩) (Nat.lt_of_lt_of_le z_M (Nat.le_trans S3.out (Nat.le_trans S4.out S5.out)))).trans c_M_0; replace c_M_1 := (b.cell (p := ⟨w1.heap.size, 1, none⟩) (Nat.lt_of_lt_of_le z_M (Nat.le_trans S3.out (Nat.le_trans S4.out S5.out)))).trans c_M_1; replace c_M_2 := (b.cell (p := ⟨w1.heap.size, 2, none⟩) (Nat.lt_of_lt_of_le z_M (Nat.le_trans S3.out (Nat.le_trans S4.out S5.out)))).trans c_M_2; replace s_code := s_code.keep (b.mono (Nat.le_trans S1.out (Nat.le_trans S2.out (Nat.le_trans S3.out (Nat.le_trans S4.out S5.out))))); replace bb := bb.trans (b.mono (Nat.le_trans S1.out (Nat.le_trans S2.out (Nat.le_trans S3.out (Nat.le_trans S4.out S5.out))))); clear b) | (go_at_call 14; refine (mkMem_any l s _ _ _ _ _ _ _ (s_f.more (Nat.le_refl _)) (by omega) (by omega)).mono ?_; rintro e w7 ⟨a_k, c_k, x_k, rfl, o_k, w_k, b⟩; have S7 := Lib.hid b.size; replace o_m := o_m.keep b (Nat.le_trans S2.out (Nat.le_trans S3.out (Nat.le_trans S4.out (Nat.le_trans S5.out S6.out)))); replace c_M_0 := (b.cell (p := ⟨w1.heap.size, 0, none⟩) (Nat.lt_of_lt_of_le z_M (Nat.le_trans S3.out (Nat.le_trans S4.out (Nat.le_trans S5.out S6.out))))).trans c_M_0; replace c_M_1 := (b.cell (p := ⟨w1.heap.size, 1, none⟩) (Nat.lt_of_lt_of_le z_M (Nat.le_trans S3.out (Nat.le_trans S4.out (Nat.le_trans S5.out S6.out))))).trans c_M_1; replace c_M_2 := (b.cell (p := ⟨w1.heap.size, 2, none⟩) (Nat.lt_of_lt_of_le z_M (Nat.le_trans S3.out (Nat.le_trans S4.out (Nat.le_trans S5.out S6.out))))).trans c_M_2; replace s_code := s_code.keep (b.mono (Nat.le_trans S1.out (Nat.le_trans S2.out (Nat.le_trans S3.out (Nat.le_trans S4.out (Nat.le_trans S5.out S6.out)))))); replace s_f := s_f.keep (b.mono (Nat.le_refl _)); replace bb := bb.trans (b.mono (Nat.le_trans S1.out (Nat.le_trans S2.out (Nat.le_trans S3.out (Nat.le_trans S4.out (Nat.le_trans S5.out S6.out)))))); clear b))
  have hn_k : n_m ≤ 1048576 := by omega
  clear s_f
  go_wp2_with fail
  refine (fresh_any _ _ _ 5 _ (s_code.more (Nat.le_trans S1.out (Nat.le_trans S2.out (Nat.le_trans S3.out (Nat.le_trans S4.out (Nat.le_trans S5.out (Nat.le_trans S6.out S7.out))))))) (by omega)).mono ?_
  rintro e w8 ⟨a_f, n_f, c_f, rfl, s_f, b⟩
  have S8 := Lib.hid b.size
  replace o_m := o_m.keep b (Nat.le_trans S2.out (Nat.le_trans S3.out (Nat.le_trans S4.out (Nat.le_trans S5.out (Nat.le_trans S6.out S7.out)))))
  replace c_M_0 := (b.cell (p := ⟨w1.heap.size, 0, none⟩) (Nat.lt_of_lt_of_le z_M (Nat.le_trans S3.out (Nat.le_trans S4.out (Nat.le_trans S5.out (Nat.le_trans S6.out S7.out)))))).trans c_M_0
  replace c_M_1 := (b.cell (p := ⟨w1.heap.size, 1, none⟩) (Nat.lt_of_lt_of_le z_M (Nat.le_trans S3.out (Nat.le_trans S4.out (Nat.le_trans S5.out (Nat.le_trans S6.out S7.out)))))).trans c_M_1
  replace c_M_2 := (b.cell (p := ⟨w1.heap.size, 2, none⟩) (Nat.lt_of_lt_of_le z_M (Nat.le_trans S3.out (Nat.le_trans S4.out (Nat.le_trans S5.out (Nat.le_trans S6.out S7.out)))))).trans c_M_2
  replace o_k := o_k.keep b (Nat.le_refl _)
  replace s_code := s_code.keep (b.mono (Nat.le_trans S1.out (Nat.le_trans S2.out (Nat.le_trans S3.out (Nat.le_trans S4.out (Nat.le_trans S5.out (Nat.le_trans S6.out S7.out)))))))
  replace bb := bb.trans (b.mono (Nat.le_trans S1.out (Nat.le_trans S2.out (Nat.le_trans S3.out (Nat.le_trans S4.out (Nat.le_trans S5.out (Nat.le_trans S6.out S7.out)))))))
  clear b
  go_wp2_with fail
  refine (mkSeq_any _ _ _ 40 S _ (s_f.more (Nat.le_refl _)) (by omega) (by omega) (by omega)).mono ?_
  rintro e w9 ⟨a_x, n_x, c_x, x_x, rfl, o_x, l_x, i_x, j_x, b⟩
  have S9 := Lib.hid b.size
  replace o_m := o_m.keep b (Nat.le_trans S2.out (Nat.le_trans S3.out (Nat.le_trans S4.out (Nat.le_trans S5.out (Nat.le_trans S6.out (Nat.le_trans S7.out S8.out))))))
  replace c_M_0 := (b.cell (p := ⟨w1.heap.size, 0, none⟩) (Nat.lt_of_lt_of_le z_M (Nat.le_trans S3.out (Nat.le_trans S4.out (Nat.le_trans S5.out (Nat.le_trans S6.out (Nat.le_trans S7.out S8.out))))))).trans c_M_0
  replace c_M_1 := (b.cell (p := ⟨w1.heap.size, 1, none⟩) (Nat.lt_of_lt_of_le z_M (Nat.le_trans S3.out (Nat.le_trans S4.out (Nat.le_trans S5.out (Nat.le_trans S6.out (Nat.le_trans S7.out S8.out))))))).trans c_M_1
  replace c_M_2 := (b.cell (p := ⟨w1.heap.size, 2, none⟩) (Nat.lt_of_lt_of_le z_M (Nat.le_trans S3.out (Nat.le_trans S4.out (Nat.le_trans S5.out (Nat.le_trans S6.out (Nat.le_trans S7.out S8.out))))))).trans c_M_2
  replace o_k := o_k.keep b (S8.out)
  replace s_code := s_code.keep (b.mono (Nat.le_trans S1.out (Nat.le_trans S2.out (Nat.le_trans S3.out (Nat.le_trans S4.out (Nat.le_trans S5.out (Nat.le_trans S6.out (Nat.le_trans S7.out S8.out))))))))
  replace s_f := s_f.keep (b.mono (Nat.le_refl _))
  replace bb := bb.trans (b.mono (Nat.le_trans S1.out (Nat.le_trans S2.out (Nat.le_trans S3.out (Nat.le_trans S4.out (Nat.le_trans S5.out (Nat.le_trans S6.out (Nat.le_trans S7.out S8.out))))))))
  clear b
  have hn_x : n_x ≤ 1048576 := by omega
  clear s_f
  clear s_code
  obtain ⟨f1, f2, f3, f4⟩ := bounded_facts (l := l) (s := s) (S := S) (cs := cs) (ms := x_k) (xs := x_x) HM.out hS.out (by omega) (by rw [o_k.len, o_m.len]) w_k i_x (by have := o_x.len; omega)
  have RB := Lib.hid (rng_small HM.out hl6 hsb.2)
  obtain ⟨Y, hY⟩ : ∃ Y, Hid (runY l s cs x_k x_x = Y) := ⟨_, rfl⟩
  obtain ⟨E, hE⟩ : ∃ E, Hid (runE l s cs x_k x_x = E) := ⟨_, rfl⟩
  obtain ⟨Z, hZ⟩ : ∃ Z, Hid (runM l s cs x_k x_x = Z) := ⟨_, rfl⟩
  obtain ⟨B, hB⟩ : ∃ B, Hid (runB l s cs x_k x_x = B) := ⟨_, rfl⟩
  have RL := Lib.hid (run_lens l s cs x_k x_x)
  rw [hY.out, hE.out, hZ.out] at RL
  rw [hB.out] at f1
  rw [hY.out] at f2
  rw [hE.out] at f3
  rw [hY.out, hE.out, o_x.len] at f4
  obtain rfl : B = true := f1
  have F2 := Lib.hid f2
  have F3 := Lib.hid f3
  have F4 := Lib.hid f4
  clear f2 f3 f4
  go_wp2_with fail
  refine (run_i l s _ _ _ _ _ _ _ _ _ cs x_k x_x _ ((o_m.sl hn_m).more (Nat.le_trans S2.out (Nat.le_trans S3.out (Nat.le_trans S4.out (Nat.le_trans S5.out (Nat.le_trans S6.out (Nat.le_trans S7.out (Nat.le_trans S8.out S9.out)))))))) ((o_k.sl hn_k).more (Nat.le_trans S8.out S9.out)) ((o_x.sl hn_x).more (Nat.le_refl _))).mono ?_
  rw [hY.out, hE.out, hZ.out, hB.out]
  rintro e w10 ⟨a_y, n_y, c_y, a_e, n_e, c_e, a_z, n_z, c_z, rfl, o_y, o_e, o_z, f1, f2, f3, b⟩
  have S10 := Lib.hid b.size
  replace o_m := o_m.keep b (Nat.le_trans S2.out (Nat.le_trans S3.out (Nat.le_trans S4.out (Nat.le_trans S5.out (Nat.le_trans S6.out (Nat.le_trans S7.out (Nat.le_trans S8.out S9.out)))))))
  replace c_M_0 := (b.cell (p := ⟨w1.heap.size, 0, none⟩) (Nat.lt_of_lt_of_le z_M (Nat.le_trans S3.out (Nat.le_trans S4.out (Nat.le_trans S5.out (Nat.le_trans S6.out (Nat.le_trans S7.out (Nat.le_trans S8.out S9.out)))))))).trans c_M_0
  replace c_M_1 := (b.cell (p := ⟨w1.heap.size, 1, none⟩) (Nat.lt_of_lt_of_le z_M (Nat.le_trans S3.out (Nat.le_trans S4.out (Nat.le_trans S5.out (Nat.le_trans S6.out (Nat.le_trans S7.out (Nat.le_trans S8.out S9.out)))))))).trans c_M_1
  replace c_M_2 := (b.cell (p := ⟨w1.heap.size, 2, none⟩) (Nat.lt_of_lt_of_le z_M (Nat.le_trans S3.out (Nat.le_trans S4.out (Nat.le_trans S5.out (Nat.le_trans S6.out (Nat.le_trans S7.out (Nat.le_trans S8.out S9.out)))))))).trans c_M_2
  replace o_k := o_k.keep b (Nat.le_trans S8.out S9.out)
  replace o_x := o_x.keep b (Nat.le_refl _)
  replace bb := bb.trans (b.mono (Nat.le_trans S1.out (Nat.le_trans S2.out (Nat.le_trans S3.out (Nat.le_trans S4.out (Nat.le_trans S5.out (Nat.le_trans S6.out (Nat.le_trans S7.out (Nat.le_trans S8.out S9.out)))))))))
  clear b
  clear f1 f2 f3 o_z
  have hn_y : n_y ≤ 1048576 := (by rw [← o_y.len]; exact RL.out.1)
  have hn_e : n_e ≤ 1048576 := (by rw [← o_e.len]; exact RL.out.2.1)
  have hq : n_y = n_x := by rw [← o_y.len, ← o_x.len]; exact F2.out
  obtain rfl : n_x = n_y := hq.symm
  clear hq
  have hq : n_e = n_x := by rw [← o_e.len, ← o_x.len]; exact F3.out
  obtain rfl : n_x = n_e := hq.symm
  clear hq
  obtain ⟨R, hR⟩ : ∃ R, Hid (rng l s = R) := ⟨_, rfl⟩
  rw [hR.out] at F4 RB
  have sy := ((o_y.sl hn_y).more (Nat.le_refl _))
  have se := ((o_e.sl hn_e).more (Nat.le_refl _))
  have zq : w1.heap.size < w10.heap.size := Nat.lt_of_lt_of_le z_M (Nat.le_trans S3.out (Nat.le_trans S4.out (Nat.le_trans S5.out (Nat.le_trans S6.out (Nat.le_trans S7.out (Nat.le_trans S8.out (Nat.le_trans S9.out S10.out)))))))
  have cq0 := c_M_0
  have cq1 := c_M_1
  clear o_x
  clear o_y
  clear o_e
  clear o_k
  clear o_m
  clear c_M_0 c_M_1 c_M_2
  go_wp2_with fail
  go_loopw [11, 12, 61] (fun _ _ i wr => ∃ j : Nat, j ≤ n_x ∧ i = .int .i64 j ∧ Below w10.heap.size w10 wr) (fun _ _ i _ => n_x - (intOf i).toNat)
  case atStart => exact ⟨0, Nat.zero_le _, rfl, Below.refl _ _⟩
  case round =>
    obtain ⟨j, hj, rfl, hbel⟩ := hrel
    by_cases hlt : j < n_x
    · obtain ⟨b1, off1, rfl, hb1, hc1⟩ := se.at_ (by omega)
      obtain ⟨b2, off2, rfl, hb2, hc2⟩ := sy.at_ (by omega)
      have hcx := (hbel.cell (p := ⟨b1, off1 + j, none⟩) hb1).trans (hc1 j hlt)
      have hcy : wr.drew.cell? ⟨b2, off2 + j, none⟩ = _ := (hbel.cell (p := ⟨b2, off2 + j, none⟩) hb2).trans (hc2 j hlt)
      have d0 : wr.drew.cell? ⟨w1.heap.size, 0, none⟩ = some (.int .i64 l) := (hbel.cell (p := ⟨w1.heap.size, 0, none⟩) zq).trans cq0
      have d1 : wr.drew.cell? ⟨w1.heap.size, 1, none⟩ = some (.int .i64 s) := (hbel.cell (p := ⟨w1.heap.size, 1, none⟩) zq).trans cq1
      have hbs := hbel.size
      have zw : w1.heap.size < wr.drew.heap.size := Nat.lt_of_lt_of_le zq hbs
      have zx : b2 < wr.drew.heap.size := Nat.lt_of_lt_of_le hb2 hbs
      obtain ⟨h1, h2, h3⟩ := F4.out j hlt
      have HO := Lib.hid h2
      have hRB := RB.out
      clear h2
      replace hbel := hbel.drew
      clear hc1 hc2
      generalize E.getD j 0 = v at hcx HO h1
      generalize Y.getD j 0 = y at hcy HO h3
      have e1 : (0 : Int) ≤ (j : Int) := by omega
      have e2 : (j : Int) < (n_x : Int) := by omega
      obtain ⟨p, hp⟩ : ∃ p, Hid (p = max v (-v)) := ⟨_, rfl⟩
      obtain ⟨q, hq⟩ : ∃ q, Hid (q = max y (-y)) := ⟨_, rfl⟩
      have e3 : decide (s < p) = false := by rw [decide_eq_false_iff_not]; have := hp.out; omega
      have e4 : decide (R < q) = false := by rw [decide_eq_false_iff_not]; have := hq.out; omega
      have e5 : IntKind.i64.wrap (y - v) = y - v := IntWalk.i64_in _ (by omega)
      go_wp2_with fail
      go_region_held3 (fun w' => w'.cell? ⟨w1.heap.size, 0, none⟩ = some (.int .i64 l) ∧ w'.cell? ⟨w1.heap.size, 1, none⟩ = some (.int .i64 s) ∧ w'.cell? ⟨b2, off2 + j, none⟩ = some (.int .i64 y)) (go_keep) (first | (go_at_call 27; refine (abs_m v p _ hp (by omega)).mono ?_; rintro e w' ⟨rfl, rfl⟩) | (go_at_call 28; refine (over_i _ _ _ _).mono ?_; rw [HO.out]; rintro e wz ⟨rfl, b⟩; replace hcy := (b.cell (p := ⟨b2, off2 + j, none⟩) zx).trans hcy; replace d0 := (b.cell (p := ⟨w1.heap.size, 0, none⟩) zw).trans d0; replace d1 := (b.cell (p := ⟨w1.heap.size, 1, none⟩) zw).trans d1; replace hbel := hbel.trans (b.mono hbs); replace hbs := Nat.le_trans hbs b.size; replace zw := Nat.lt_of_lt_of_le zw b.size; replace zx := Nat.lt_of_lt_of_le zx b.size; clear b) | (go_at_call 27; refine (abs_m y q _ hq (by omega)).mono ?_; rintro e w' ⟨rfl, rfl⟩) | (go_at_call 38; refine (rangeOf_s _ _ _).mono ?_; rw [hR.out]; rintro e wz2 ⟨rfl, b⟩; replace hcy := (b.cell (p := ⟨b2, off2 + j, none⟩) zx).trans hcy; replace d0 := (b.cell (p := ⟨w1.heap.size, 0, none⟩) zw).trans d0; replace d1 := (b.cell (p := ⟨w1.heap.size, 1, none⟩) zw).trans d1; replace hbel := hbel.trans (b.mono hbs); replace hbs := Nat.le_trans hbs b.size; replace zw := Nat.lt_of_lt_of_le zw b.size; replace zx := Nat.lt_of_lt_of_le zx b.size; clear b))
      go_wp2_with fail
      go_roundw
      case rel => exact ⟨j + 1, by omega, by go_num, hbel⟩
      case measure => simp [intOf]; omega
    · have : j = n_x := by omega
      go_wp2_with fail
      go_ret
      exact ⟨rfl, bb.trans (hbel.mono (Nat.le_trans S1.out (Nat.le_trans S2.out (Nat.le_trans S3.out (Nat.le_trans S4.out (Nat.le_trans S5.out (Nat.le_trans S6.out (Nat.le_trans S7.out (Nat.le_trans S8.out (Nat.le_trans S9.out S10.out))))))))))⟩
end Go.Proofs.Ytmgjbldnohkodaa
