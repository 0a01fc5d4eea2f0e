/- The walk of the law FnSteps: it returns true and leaves what was there as it was. -/
import Derived.Test.YtmgjbldnohkodaaPureN2
import Derived.Test.YtmgjbldnohkodaaLawQ
import Derived.Test.YtmgjbldnohkodaaMod5
import Derived.Test.YtmgjbldnohkodaaMod4
import Derived.Test.YtmgjbldnohkodaaHand
namespace Go.Proofs.Ytmgjbldnohkodaa
open Go.RowKit
set_option linter.unusedVariables false
set_option maxRecDepth 100000 in
set_option maxHeartbeats 4000000 in
theorem fnSteps_walk (a0 : Option Addr) (n0 c0 : Nat) (z0 : List Int) (w0 : World) (h : IsRow .u8 w0 a0 n0 c0 z0) :
    Calls Try.prog 6 #[.slice a0 n0 c0] w0 fun e w' => e = .returned (.bool true) ∧ Below w0.heap.size w0 w' := by
  have hle := h.le
  by_cases hn : n0 ≤ 1048576
  rotate_left
  · go_enter Try.func6, Try.ntmps6
    go_wp2_with fail
    go_ret
    exact ⟨rfl, Below.refl _ _⟩
  have s_code := h.bsl hn
  clear h hle
  have bb := Below.refl w0.heap.size w0
  go_enter Try.func6, Try.ntmps6
  go_wp2_with fail
  refine (mkM_any _ _ _ _ (s_code.more (Nat.le_refl _))).mono ?_
  rintro e w1 ⟨l, s, a_m, n_m, c_m, cs, hl2, hl6, hs, hm, hc, rfl, o_m, b⟩
  have S1 := Lib.hid b.size
  replace s_code := s_code.keep (b.mono (Nat.le_refl _))
  replace bb := bb.trans (b.mono (Nat.le_refl _))
  clear b
  have hn_m : n_m ≤ 1048576 := by rw [← o_m.len]; have := (isMod_true hm).2.2.1; omega
  have hsb := smallS_bd hs
  have hN6 : n_m ≤ 6 := by rw [← o_m.len]; exact (isMod_true hm).2.2.1
  have hN1 : 1 ≤ n_m := by rw [← o_m.len]; exact (isMod_true hm).2.1
  have HM := Lib.hid hm
  have HC := Lib.hid hc
  clear hs hm hc
  have b := box_below w1 (.cells #[.int .i64 l, .int .i64 s, .slice a_m n_m c_m] 27)
  have c_M_0 : (w1.alloc (.cells #[.int .i64 l, .int .i64 s, .slice a_m n_m c_m] 27)).cell? ⟨w1.heap.size, 0, none⟩ = some (.int .i64 l) := by simp [go_sem]
  have c_M_1 : (w1.alloc (.cells #[.int .i64 l, .int .i64 s, .slice a_m n_m c_m] 27)).cell? ⟨w1.heap.size, 1, none⟩ = some (.int .i64 s) := by simp [go_sem]
  have c_M_2 : (w1.alloc (.cells #[.int .i64 l, .int .i64 s, .slice a_m n_m c_m] 27)).cell? ⟨w1.heap.size, 2, none⟩ = some (.slice a_m n_m c_m) := by simp [go_sem]
  go_wp2_with fail
  have z_M : w1.heap.size < (w1.alloc (.cells #[.int .i64 l, .int .i64 s, .slice a_m n_m c_m] 27)).heap.size := by simp
  generalize hgw : (w1.alloc (.cells #[.int .i64 l, .int .i64 s, .slice a_m n_m c_m] 27)) = w2 at c_M_0 c_M_1 c_M_2 z_M b ⊢
  clear hgw 
  have S2 := Lib.hid b.size
  replace o_m := o_m.keep b (Nat.le_refl _)
  replace s_code := s_code.keep (b.mono (S1.out))
  replace bb := bb.trans (b.mono (S1.out))
  clear b
  go_wp2_with fail
  have S3 : Hid (w2.heap.size ≤ w2.drew.heap.size) := Nat.le_refl _
  replace o_m := o_m.drew
  replace c_M_0 : w2.drew.cell? ⟨w1.heap.size, 0, none⟩ = some (.int .i64 l) := c_M_0
  replace c_M_1 : w2.drew.cell? ⟨w1.heap.size, 1, none⟩ = some (.int .i64 s) := c_M_1
  replace c_M_2 : w2.drew.cell? ⟨w1.heap.size, 2, none⟩ = some (.slice a_m n_m c_m) := c_M_2
  replace bb := bb.drew
  replace s_code := s_code.drew
  go_region_held3 (fun w' => w'.cell? ⟨w1.heap.size, 0, none⟩ = some (.int .i64 l) ∧ w'.cell? ⟨w1.heap.size, 1, none⟩ = some (.int .i64 s) ∧ w'.cell? ⟨w1.heap.size, 2, none⟩ = some (.slice a_m n_m c_m)) (go_keep) (first | (go_at_call 15; refine (fresh_any _ _ _ 3 _ (s_code.more (Nat.le_trans S1.out (Nat.le_trans S2.out S3.out))) (by omega)).mono ?_; rintro e w4 ⟨a_f, n_f, c_f, rfl, s_f, b⟩; have S4 := Lib.hid b.size; replace o_m := o_m.keep b (Nat.le_trans S2.out S3.out); replace c_M_0 := (b.cell (p := ⟨w1.heap.size, 0, none⟩) (Nat.lt_of_lt_of_le z_M (S3.out))).trans c_M_0; replace c_M_1 := (b.cell (p := ⟨w1.heap.size, 1, none⟩) (Nat.lt_of_lt_of_le z_M (S3.out))).trans c_M_1; replace c_M_2 := (b.cell (p := ⟨w1.heap.size, 2, none⟩) (Nat.lt_of_lt_of_le z_M (S3.out))).trans c_M_2; replace s_code := s_code.keep (b.mono (Nat.le_trans S1.out (Nat.le_trans S2.out S3.out))); replace bb := bb.trans (b.mono (Nat.le_trans S1.out (Nat.le_trans S2.out S3.out))); clear b) | (go_at_call 14; refine (mkMem_any l s _ _ _ _ _ _ _ (s_f.more (Nat.le_refl _)) (by omega) (by omega)).mono ?_; rintro e w5 ⟨a_k, c_k, x_k, rfl, o_k, w_k, b⟩; have S5 := Lib.hid b.size; replace o_m := o_m.keep b (Nat.le_trans S2.out (Nat.le_trans S3.out S4.out)); replace c_M_0 := (b.cell (p := ⟨w1.heap.size, 0, none⟩) (Nat.lt_of_lt_of_le z_M (Nat.le_trans S3.out S4.out))).trans c_M_0; replace c_M_1 := (b.cell (p := ⟨w1.heap.size, 1, none⟩) (Nat.lt_of_lt_of_le z_M (Nat.le_trans S3.out S4.out))).trans c_M_1; replace c_M_2 := (b.cell (p := ⟨w1.heap.size, 2, none⟩) (Nat.lt_of_lt_of_le z_M (Nat.le_trans S3.out S4.out))).trans c_M_2; replace s_code := s_code.keep (b.mono (Nat.le_trans S1.out (Nat.le_trans S2.out (Nat.le_trans S3.out S4.out)))); replace s_f := s_f.keep (b.mono (Nat.le_refl _)); replace bb := bb.trans (b.mono (Nat.le_trans S1.out (Nat.le_trans S2.out (Nat.le_trans S3.out S4.out)))); clear b))
  have hn_k : n_m ≤ 1048576 := by omega
  clear s_f
  go_wp2_with fail
  refine (fresh_any _ _ _ 5 _ (s_code.more (Nat.le_trans S1.out (Nat.le_trans S2.out (Nat.le_trans S3.out (Nat.le_trans S4.out S5.out))))) (by omega)).mono ?_
  rintro e w6 ⟨a_f, n_f, c_f, rfl, s_f, b⟩
  have S6 := Lib.hid b.size
  replace o_m := o_m.keep b (Nat.le_trans S2.out (Nat.le_trans S3.out (Nat.le_trans S4.out S5.out)))
  replace c_M_0 := (b.cell (p := ⟨w1.heap.size, 0, none⟩) (Nat.lt_of_lt_of_le z_M (Nat.le_trans S3.out (Nat.le_trans S4.out S5.out)))).trans c_M_0
  replace c_M_1 := (b.cell (p := ⟨w1.heap.size, 1, none⟩) (Nat.lt_of_lt_of_le z_M (Nat.le_trans S3.out (Nat.le_trans S4.out S5.out)))).trans c_M_1
  replace c_M_2 := (b.cell (p := ⟨w1.heap.size, 2, none⟩) (Nat.lt_of_lt_of_le z_M (Nat.le_trans S3.out (Nat.le_trans S4.out S5.out)))).trans c_M_2
  replace o_k := o_k.keep b (Nat.le_refl _)
  replace s_code := s_code.keep (b.mono (Nat.le_trans S1.out (Nat.le_trans S2.out (Nat.le_trans S3.out (Nat.le_trans S4.out S5.out)))))
  replace bb := bb.trans (b.mono (Nat.le_trans S1.out (Nat.le_trans S2.out (Nat.le_trans S3.out (Nat.le_trans S4.out S5.out)))))
  clear b
  go_wp2_with fail
  refine (at_any _ _ _ _ 1 _ s_code (by omega)).mono ?_
  rintro e w' ⟨a, a0, a1, rfl, rfl⟩
  go_wp2_with fail
  refine (mkSeq_any _ _ _ 25 (1 + a * 3) _ (s_f.more (Nat.le_refl _)) (by omega) (by omega) (by omega)).mono ?_
  rintro e w7 ⟨a_x, n_x, c_x, x_x, rfl, o_x, l_x, i_x, j_x, b⟩
  have S7 := Lib.hid b.size
  replace o_m := o_m.keep b (Nat.le_trans S2.out (Nat.le_trans S3.out (Nat.le_trans S4.out (Nat.le_trans S5.out S6.out))))
  replace c_M_0 := (b.cell (p := ⟨w1.heap.size, 0, none⟩) (Nat.lt_of_lt_of_le z_M (Nat.le_trans S3.out (Nat.le_trans S4.out (Nat.le_trans S5.out S6.out))))).trans c_M_0
  replace c_M_1 := (b.cell (p := ⟨w1.heap.size, 1, none⟩) (Nat.lt_of_lt_of_le z_M (Nat.le_trans S3.out (Nat.le_trans S4.out (Nat.le_trans S5.out S6.out))))).trans c_M_1
  replace c_M_2 := (b.cell (p := ⟨w1.heap.size, 2, none⟩) (Nat.lt_of_lt_of_le z_M (Nat.le_trans S3.out (Nat.le_trans S4.out (Nat.le_trans S5.out S6.out))))).trans c_M_2
  replace o_k := o_k.keep b (S6.out)
  replace s_code := s_code.keep (b.mono (Nat.le_trans S1.out (Nat.le_trans S2.out (Nat.le_trans S3.out (Nat.le_trans S4.out (Nat.le_trans S5.out S6.out))))))
  replace s_f := s_f.keep (b.mono (Nat.le_refl _))
  replace bb := bb.trans (b.mono (Nat.le_trans S1.out (Nat.le_trans S2.out (Nat.le_trans S3.out (Nat.le_trans S4.out (Nat.le_trans S5.out S6.out))))))
  clear b
  have hn_x : n_x ≤ 1048576 := by omega
  clear s_f
  clear s_code
  have hmem : Hid (isMem l s cs x_k = true) := by show _ = _; rw [isMem_mk HM.out (by rw [o_k.len, o_m.len])]; exact w_k.seq (by omega) (by rw [o_k.len]; omega)
  have hseq : Hid (isSeq x_x = true) := i_x.seq (by omega) (by have := o_x.len; omega)
  have SF : Hid (∀ (j : Nat) (r : RunS), j < x_x.length → runUpto l s cs x_k x_x j = some r → _) := fun j r hj h => steps_facts (l := l) (s := s) hmem.out hseq.out hj h
  have SE : Hid (∀ (r : RunS), runUpto l s cs x_k x_x x_x.length = some r → _) := fun r h => steps_end (l := l) (s := s) hmem.out hseq.out h
  rw [o_x.len] at SF SE
  have ML : Hid (∀ ms, isMem l s cs ms = true → ms.length = n_m) := fun ms h => by rw [← o_m.len]; exact (isMem_true h).2.1
  have LF := Lib.hid (fun hB => run_len (l := l) (s := s) (cs := cs) (ms := x_k) (xs := x_x) hB)
  obtain ⟨Y, hY⟩ : ∃ Y, Hid (runY l s cs x_k x_x = Y) := ⟨_, rfl⟩
  obtain ⟨E, hE⟩ : ∃ E, Hid (runE l s cs x_k x_x = E) := ⟨_, rfl⟩
  obtain ⟨Z, hZ⟩ : ∃ Z, Hid (runM l s cs x_k x_x = Z) := ⟨_, rfl⟩
  obtain ⟨B, hB⟩ : ∃ B, Hid (runB l s cs x_k x_x = B) := ⟨_, rfl⟩
  have RL := Lib.hid (run_lens l s cs x_k x_x)
  rw [hY.out, hE.out, hZ.out] at RL
  rw [hY.out, hE.out, hB.out] at LF
  rw [hB.out, hY.out, hE.out] at SF
  rw [hB.out, hZ.out] at SE
  go_wp2_with fail
  refine (run_i l s _ _ _ _ _ _ _ _ _ cs x_k x_x _ ((o_m.sl hn_m).more (Nat.le_trans S2.out (Nat.le_trans S3.out (Nat.le_trans S4.out (Nat.le_trans S5.out (Nat.le_trans S6.out S7.out)))))) ((o_k.sl hn_k).more (Nat.le_trans S6.out S7.out)) ((o_x.sl hn_x).more (Nat.le_refl _))).mono ?_
  rw [hY.out, hE.out, hZ.out, hB.out]
  rintro e w8 ⟨a_y, n_y, c_y, a_e, n_e, c_e, a_z, n_z, c_z, rfl, o_y, o_e, o_z, f1, f2, f3, b⟩
  have S8 := Lib.hid b.size
  replace o_m := o_m.keep b (Nat.le_trans S2.out (Nat.le_trans S3.out (Nat.le_trans S4.out (Nat.le_trans S5.out (Nat.le_trans S6.out S7.out)))))
  replace c_M_0 := (b.cell (p := ⟨w1.heap.size, 0, none⟩) (Nat.lt_of_lt_of_le z_M (Nat.le_trans S3.out (Nat.le_trans S4.out (Nat.le_trans S5.out (Nat.le_trans S6.out S7.out)))))).trans c_M_0
  replace c_M_1 := (b.cell (p := ⟨w1.heap.size, 1, none⟩) (Nat.lt_of_lt_of_le z_M (Nat.le_trans S3.out (Nat.le_trans S4.out (Nat.le_trans S5.out (Nat.le_trans S6.out S7.out)))))).trans c_M_1
  replace c_M_2 := (b.cell (p := ⟨w1.heap.size, 2, none⟩) (Nat.lt_of_lt_of_le z_M (Nat.le_trans S3.out (Nat.le_trans S4.out (Nat.le_trans S5.out (Nat.le_trans S6.out S7.out)))))).trans c_M_2
  replace o_k := o_k.keep b (Nat.le_trans S6.out S7.out)
  replace o_x := o_x.keep b (Nat.le_refl _)
  replace bb := bb.trans (b.mono (Nat.le_trans S1.out (Nat.le_trans S2.out (Nat.le_trans S3.out (Nat.le_trans S4.out (Nat.le_trans S5.out (Nat.le_trans S6.out S7.out)))))))
  clear b
  clear f1 f2 f3
  have hn_y : n_y ≤ 1048576 := (by rw [← o_y.len]; exact RL.out.1)
  have hn_e : n_e ≤ 1048576 := (by rw [← o_e.len]; exact RL.out.2.1)
  have hn_z : n_z ≤ 1048576 := (by rw [← o_z.len]; exact RL.out.2.2)
  cases B
  · skip
    have sx := ((o_x.sl hn_x).more (S8.out))
    have sk := ((o_k.sl hn_k).more (Nat.le_trans S6.out (Nat.le_trans S7.out S8.out)))
    have sm := ((o_m.sl hn_m).more (Nat.le_trans S2.out (Nat.le_trans S3.out (Nat.le_trans S4.out (Nat.le_trans S5.out (Nat.le_trans S6.out (Nat.le_trans S7.out S8.out)))))))
    have zq : w1.heap.size < w8.heap.size := Nat.lt_of_lt_of_le z_M (Nat.le_trans S3.out (Nat.le_trans S4.out (Nat.le_trans S5.out (Nat.le_trans S6.out (Nat.le_trans S7.out S8.out)))))
    have cq0 := c_M_0
    have cq1 := c_M_1
    have cq2 := c_M_2
    clear o_x
    clear o_y
    clear o_e
    clear o_z
    clear o_k
    clear o_m
    clear c_M_0 c_M_1 c_M_2
    go_wp2_with fail
    go_loopw [10, 11, 12, 13, 14, 15, 59] (fun now _ _ _ _ _ i wr => ∃ (j c : Nat) (a : Option Addr) (r : RunS), j ≤ n_x ∧ i = .int .i64 j ∧ now = .slice a n_m c ∧ runUpto l s cs x_k x_x j = some r ∧ Sl wr wr.heap.size a n_m c r.ms ∧ Below w8.heap.size w8 wr) (fun _ _ _ _ _ _ i _ => n_x - (intOf i).toNat)
    case atStart => exact ⟨0, c_k, a_k, ⟨[], [], x_k⟩, Nat.zero_le _, rfl, rfl, rfl, sk, Below.refl _ _⟩
    case round =>
      clear sk
      obtain ⟨j, c9, a9, r, hj, rfl, rfl, hr, hnow, hbel⟩ := hrel
      by_cases hlt : j < n_x
      · obtain ⟨t1, t2, t3⟩ := SF.out j r hlt hr
        obtain ⟨b1, off1, rfl, hb1, hc1⟩ := sx.at_ (by omega)
        have hcv := (hbel.cell (p := ⟨b1, off1 + j, none⟩) hb1).trans (hc1 j hlt)
        have T1 := Lib.hid t1
        have T2 := Lib.hid t2
        have T3 := Lib.hid t3
        clear hc1 t1 t2 t3
        have HR := Lib.hid hr
        clear hr
        generalize x_x.getD j 0 = v at hcv T2 T3
        have hbs := hbel.size
        have d0 := (hbel.cell (p := ⟨w1.heap.size, 0, none⟩) zq).trans cq0
        have d1 := (hbel.cell (p := ⟨w1.heap.size, 1, none⟩) zq).trans cq1
        have d2 := (hbel.cell (p := ⟨w1.heap.size, 2, none⟩) zq).trans cq2
        have zw : w1.heap.size < wr.heap.size := Nat.lt_of_lt_of_le zq hbs
        have e1 : (0 : Int) ≤ (j : Int) := by omega
        have e2 : (j : Int) < (n_x : Int) := by omega
        have e3 : (0 : Int) < (n_m : Int) := by omega
        have e4 : 0 < n_m := by omega
        cases hT : stB l s cs r.ms v
        · have HT := Lib.hid hT
          clear hT
          go_wp2_with fail
          refine (step_i l s _ _ _ _ _ _ cs r.ms v _ ((sm.keep hbel).more hbs) hnow).mono ?_
          rintro e w7 ⟨a7, n7, c7, rfl, o7, b7⟩
          rw [HT.out]
          go_wp2_with fail
          go_ret
          exact ⟨rfl, bb.trans ((hbel.trans (b7.mono hbs)).mono (Nat.le_trans S1.out (Nat.le_trans S2.out (Nat.le_trans S3.out (Nat.le_trans S4.out (Nat.le_trans S5.out (Nat.le_trans S6.out (Nat.le_trans S7.out S8.out))))))))⟩
        · have HT := Lib.hid hT
          clear hT
          obtain ⟨q, q1, q2, q3, q4⟩ := T3.out HT.out
          have hy7 : Hid (stepY l s cs r.ms v = stY l s cs r.ms v) := by show _ = _; unfold stepY; rw [if_pos HT.out]
          have hm7 : Hid (stepM l s cs r.ms v = q.ms) := by show _ = _; rw [q2]; unfold stepM; exact seqOr_yes HT.out
          have hl7 := ML.out _ q3
          have Q0 : Hid (q.ms.getD 0 0 = stE l s cs r.ms v) := by show _ = _; rw [q2]; rfl
          have Q1 := Lib.hid q1
          have Q3 := Lib.hid q3
          have Q4 := Lib.hid q4
          clear q1 q2 q3 q4
          obtain ⟨t, ht⟩ : ∃ t, Hid (stY l s cs r.ms v = t) := ⟨_, rfl⟩
          obtain ⟨u, hu⟩ : ∃ u, Hid (stE l s cs r.ms v = u) := ⟨_, rfl⟩
          rw [ht.out] at hy7
          rw [hu.out] at Q0
          rw [ht.out, hu.out] at Q4
          have HL7 := Lib.hid hl7
          clear hl7
          go_wp2_with fail
          refine (step_i l s _ _ _ _ _ _ cs r.ms v _ ((sm.keep hbel).more hbs) hnow).mono ?_
          rintro e w7 ⟨a7, n7, c7, rfl, o7, b7⟩
          rw [HT.out, hy7.out]
          rw [hm7.out] at o7
          have hq : n_m = n7 := by rw [← o7.len]; exact HL7.out.symm
          obtain rfl := hq
          have hsl7 := o7.sl (by omega)
          clear o7 hnow
          have hb7 : Below w8.heap.size w8 w7 := hbel.trans (b7.mono hbs)
          have hs7 := hb7.size
          replace d0 : w7.drew.cell? ⟨w1.heap.size, 0, none⟩ = _ := (b7.cell (p := ⟨w1.heap.size, 0, none⟩) zw).trans d0
          replace d1 : w7.drew.cell? ⟨w1.heap.size, 1, none⟩ = _ := (b7.cell (p := ⟨w1.heap.size, 1, none⟩) zw).trans d1
          replace d2 : w7.drew.cell? ⟨w1.heap.size, 2, none⟩ = _ := (b7.cell (p := ⟨w1.heap.size, 2, none⟩) zw).trans d2
          have zw7 : w1.heap.size < w7.drew.heap.size := Nat.lt_of_lt_of_le zw b7.size
          obtain ⟨b2, off2, rfl, hb2, hc2⟩ := hsl7.at_ (by omega)
          have hcn : w7.drew.cell? ⟨b2, off2 + 0, none⟩ = _ := hc2 0 (by omega)
          rw [Q0.out] at hcn
          rw [Nat.add_zero] at hcn
          clear hc2
          have zn : b2 < w7.drew.heap.size := hb2
          go_wp2_with fail
          refine wp_region_held_drew (S := (fun w' => w'.cell? ⟨w1.heap.size, 0, none⟩ = some (.int .i64 l) ∧ w'.cell? ⟨w1.heap.size, 1, none⟩ = some (.int .i64 s) ∧ w'.cell? ⟨w1.heap.size, 2, none⟩ = some (.slice a_m n_m c_m))) (by kernel_rfl) ?hS (fun hHeld => ?_)
          case hS => go_keep
          refine takeH 0 (some 76) (v := ?_) rfl rfl (by kernel_rfl) (by kernel_rfl) (by kernel_rfl) (fun _ _ _ h => h) (by rfl) ?hy (by assumption) ?_
          case hy => (intro w hSw; (try dsimp only at hSw); go_simp; (try with_reducible rfl))
          simp only [Act.put, List.setIfInBounds_toArray, List.set_cons_zero, List.set_cons_succ]
          refine takeH 1 (some 77) (v := ?_) rfl rfl (by kernel_rfl) (by kernel_rfl) (by kernel_rfl) (fun _ _ _ h => h) (by rfl) ?hy (by assumption) ?_
          case hy => (intro w hSw; (try dsimp only at hSw); go_simp; (try with_reducible rfl))
          simp only [Act.put, List.setIfInBounds_toArray, List.set_cons_zero, List.set_cons_succ]
          refine wpAnyH_ready (rs := [2]) (by kernel_rfl) (by simp) ?_
          refine AllReadyH.cons rfl (fun K hK => ?_) AllReadyH.nil
          go_simp
          (go_at_call 35; refine (isMem_s l s _ _ _ _ _ _ cs q.ms w7.drew ((sm.keep hb7.drew).more hs7) hsl7.drew).mono ?_; rw [Q3.out]; rintro e w8 ⟨rfl, b⟩; replace d0 := (b.cell (p := ⟨w1.heap.size, 0, none⟩) zw7).trans d0; replace d1 := (b.cell (p := ⟨w1.heap.size, 1, none⟩) zw7).trans d1; replace d2 := (b.cell (p := ⟨w1.heap.size, 2, none⟩) zw7).trans d2; have hsl8 := (hsl7.drew.keep b).more b.size; have hb8 := hb7.drew.trans (b.mono hs7); clear b)
          go_wp2_with fail
          refine hK.out _ _ ?hS (fun hHeld => ?_)
          case hS => go_keep
          clear hK K
          try simp only [Act.put, List.setIfInBounds_toArray, List.set_cons_zero, List.set_cons_succ]
          refine takeH 3 (some 79) (v := ?_) rfl rfl (by kernel_rfl) (by kernel_rfl) (by kernel_rfl) (fun _ _ _ h => h) (by rfl) ?hy (by assumption) ?_
          case hy => (intro w hSw; (try dsimp only at hSw); go_simp; (try with_reducible rfl))
          simp only [Act.put, List.setIfInBounds_toArray, List.set_cons_zero, List.set_cons_succ]
          refine takeH 4 (some 80) (v := ?_) rfl rfl (by kernel_rfl) (by kernel_rfl) (by kernel_rfl) (fun _ _ _ h => h) (by rfl) ?hy (by assumption) ?_
          case hy => (intro w hSw; (try dsimp only at hSw); go_simp; (try with_reducible rfl))
          simp only [Act.put, List.setIfInBounds_toArray, List.set_cons_zero, List.set_cons_succ]
          refine takeH 5 (some 81) (v := ?_) rfl rfl (by kernel_rfl) (by kernel_rfl) (by kernel_rfl) (fun _ _ _ h => h) (by rfl) ?hy (by assumption) ?_
          case hy => (intro w hSw; (try dsimp only at hSw); go_simp; (try with_reducible rfl))
          simp only [Act.put, List.setIfInBounds_toArray, List.set_cons_zero, List.set_cons_succ]
          refine takeH 6 (some 82) (v := ?_) rfl rfl (by kernel_rfl) (by kernel_rfl) (by kernel_rfl) (fun _ _ _ h => h) (by rfl) ?hy (by assumption) ?_
          case hy => (intro w hSw; (try dsimp only at hSw); go_simp; (try with_reducible rfl))
          simp only [Act.put, List.setIfInBounds_toArray, List.set_cons_zero, List.set_cons_succ]
          refine skipH 7 (some 83) rfl rfl (by kernel_rfl) (by kernel_rfl) (by kernel_rfl) (fun _ _ _ h => h) (by rfl) (by assumption) ?_
          simp only [Act.put, List.setIfInBounds_toArray, List.set_cons_zero, List.set_cons_succ]
          refine skipH 8 (some 84) rfl rfl (by kernel_rfl) (by kernel_rfl) (by kernel_rfl) (fun _ _ _ h => h) (by rfl) (by assumption) ?_
          simp only [Act.put, List.setIfInBounds_toArray, List.set_cons_zero, List.set_cons_succ]
          refine skipH 9 (some 85) rfl rfl (by kernel_rfl) (by kernel_rfl) (by kernel_rfl) (fun _ _ _ h => h) (by rfl) (by assumption) ?_
          simp only [Act.put, List.setIfInBounds_toArray, List.set_cons_zero, List.set_cons_succ]
          refine skipH 10 (some 86) rfl rfl (by kernel_rfl) (by kernel_rfl) (by kernel_rfl) (fun _ _ _ h => h) (by rfl) (by assumption) ?_
          simp only [Act.put, List.setIfInBounds_toArray, List.set_cons_zero, List.set_cons_succ]
          refine skipH 11 (some 87) rfl rfl (by kernel_rfl) (by kernel_rfl) (by kernel_rfl) (fun _ _ _ h => h) (by rfl) (by assumption) ?_
          simp only [Act.put, List.setIfInBounds_toArray, List.set_cons_zero, List.set_cons_succ]
          refine skipH 12 (some 88) rfl rfl (by kernel_rfl) (by kernel_rfl) (by kernel_rfl) (fun _ _ _ h => h) (by rfl) (by assumption) ?_
          simp only [Act.put, List.setIfInBounds_toArray, List.set_cons_zero, List.set_cons_succ]
          refine skipH 13 (some 89) rfl rfl (by kernel_rfl) (by kernel_rfl) (by kernel_rfl) (fun _ _ _ h => h) (by rfl) (by assumption) ?_
          simp only [Act.put, List.setIfInBounds_toArray, List.set_cons_zero, List.set_cons_succ]
          refine skipH 14 (some 90) rfl rfl (by kernel_rfl) (by kernel_rfl) (by kernel_rfl) (fun _ _ _ h => h) (by rfl) (by assumption) ?_
          simp only [Act.put, List.setIfInBounds_toArray, List.set_cons_zero, List.set_cons_succ]
          refine skipH 15 (some 91) rfl rfl (by kernel_rfl) (by kernel_rfl) (by kernel_rfl) (fun _ _ _ h => h) (by rfl) (by assumption) ?_
          simp only [Act.put, List.setIfInBounds_toArray, List.set_cons_zero, List.set_cons_succ]
          refine skipH 16 (some 92) rfl rfl (by kernel_rfl) (by kernel_rfl) (by kernel_rfl) (fun _ _ _ h => h) (by rfl) (by assumption) ?_
          simp only [Act.put, List.setIfInBounds_toArray, List.set_cons_zero, List.set_cons_succ]
          refine skipH 17 (some 93) rfl rfl (by kernel_rfl) (by kernel_rfl) (by kernel_rfl) (fun _ _ _ h => h) (by rfl) (by assumption) ?_
          simp only [Act.put, List.setIfInBounds_toArray, List.set_cons_zero, List.set_cons_succ]
          refine skipH 18 (some 94) rfl rfl (by kernel_rfl) (by kernel_rfl) (by kernel_rfl) (fun _ _ _ h => h) (by rfl) (by assumption) ?_
          simp only [Act.put, List.setIfInBounds_toArray, List.set_cons_zero, List.set_cons_succ]
          refine skipH 19 (some 95) rfl rfl (by kernel_rfl) (by kernel_rfl) (by kernel_rfl) (fun _ _ _ h => h) (by rfl) (by assumption) ?_
          simp only [Act.put, List.setIfInBounds_toArray, List.set_cons_zero, List.set_cons_succ]
          refine skipH 20 (some 96) rfl rfl (by kernel_rfl) (by kernel_rfl) (by kernel_rfl) (fun _ _ _ h => h) (by rfl) (by assumption) ?_
          simp only [Act.put, List.setIfInBounds_toArray, List.set_cons_zero, List.set_cons_succ]
          refine skipH 21 (some 97) rfl rfl (by kernel_rfl) (by kernel_rfl) (by kernel_rfl) (fun _ _ _ h => h) (by rfl) (by assumption) ?_
          simp only [Act.put, List.setIfInBounds_toArray, List.set_cons_zero, List.set_cons_succ]
          refine skipH 22 (some 98) rfl rfl (by kernel_rfl) (by kernel_rfl) (by kernel_rfl) (fun _ _ _ h => h) (by rfl) (by assumption) ?_
          simp only [Act.put, List.setIfInBounds_toArray, List.set_cons_zero, List.set_cons_succ]
          refine takeH 23 (some 99) (v := ?_) rfl rfl (by kernel_rfl) (by kernel_rfl) (by kernel_rfl) (fun _ _ _ h => h) (by rfl) ?hy (by assumption) ?_
          case hy => (intro w hSw; (try dsimp only at hSw); go_simp; (try with_reducible rfl))
          simp only [Act.put, List.setIfInBounds_toArray, List.set_cons_zero, List.set_cons_succ]
          refine takeH 24 (some 100) (v := ?_) rfl rfl (by kernel_rfl) (by kernel_rfl) (by kernel_rfl) (fun _ _ _ h => h) (by rfl) ?hy (by assumption) ?_
          case hy => (intro w hSw; (try dsimp only at hSw); go_simp; (try with_reducible rfl))
          simp only [Act.put, List.setIfInBounds_toArray, List.set_cons_zero, List.set_cons_succ]
          refine wpAnyH_done (by kernel_rfl) ?_ _
          go_wp2_with fail
          go_roundw
          case rel => exact ⟨j + 1, _, _, q, by omega, by go_num, rfl, Q1.out, hsl8, hb8⟩
          case measure => simp [intOf]; omega
      · have hjn : j = n_x := by omega
        subst hjn
        have hE := SE.out r hr
        exact absurd hE.1 (by simp)
  · obtain ⟨g1, g2⟩ := LF.out rfl
    have hq : n_y = n_x := by rw [← o_y.len, ← o_x.len]; exact g1
    obtain rfl : n_x = n_y := hq.symm
    clear hq
    have hq : n_e = n_x := by rw [← o_e.len, ← o_x.len]; exact g2
    obtain rfl : n_x = n_e := hq.symm
    clear hq
    clear g1 g2 LF
    have sx := ((o_x.sl hn_x).more (S8.out))
    have sk := ((o_k.sl hn_k).more (Nat.le_trans S6.out (Nat.le_trans S7.out S8.out)))
    have sm := ((o_m.sl hn_m).more (Nat.le_trans S2.out (Nat.le_trans S3.out (Nat.le_trans S4.out (Nat.le_trans S5.out (Nat.le_trans S6.out (Nat.le_trans S7.out S8.out)))))))
    have sy := ((o_y.sl hn_y).more (Nat.le_refl _))
    have se := ((o_e.sl hn_e).more (Nat.le_refl _))
    have sz := ((o_z.sl hn_z).more (Nat.le_refl _))
    have zq : w1.heap.size < w8.heap.size := Nat.lt_of_lt_of_le z_M (Nat.le_trans S3.out (Nat.le_trans S4.out (Nat.le_trans S5.out (Nat.le_trans S6.out (Nat.le_trans S7.out S8.out)))))
    have cq0 := c_M_0
    have cq1 := c_M_1
    have cq2 := c_M_2
    clear o_x
    clear o_y
    clear o_e
    clear o_z
    clear o_k
    clear o_m
    clear c_M_0 c_M_1 c_M_2
    go_wp2_with fail
    go_loopw [10, 11, 12, 13, 14, 15, 59] (fun now _ _ _ _ _ i wr => ∃ (j c : Nat) (a : Option Addr) (r : RunS), j ≤ n_x ∧ i = .int .i64 j ∧ now = .slice a n_m c ∧ runUpto l s cs x_k x_x j = some r ∧ Sl wr wr.heap.size a n_m c r.ms ∧ Below w8.heap.size w8 wr) (fun _ _ _ _ _ _ i _ => n_x - (intOf i).toNat)
    case atStart => exact ⟨0, c_k, a_k, ⟨[], [], x_k⟩, Nat.zero_le _, rfl, rfl, rfl, sk, Below.refl _ _⟩
    case round =>
      clear sk
      obtain ⟨j, c9, a9, r, hj, rfl, rfl, hr, hnow, hbel⟩ := hrel
      by_cases hlt : j < n_x
      · obtain ⟨t1, t2, t3⟩ := SF.out j r hlt hr
        obtain ⟨b1, off1, rfl, hb1, hc1⟩ := sx.at_ (by omega)
        have hcv := (hbel.cell (p := ⟨b1, off1 + j, none⟩) hb1).trans (hc1 j hlt)
        have T1 := Lib.hid t1
        have T2 := Lib.hid t2
        have T3 := Lib.hid t3
        clear hc1 t1 t2 t3
        have HR := Lib.hid hr
        clear hr
        generalize x_x.getD j 0 = v at hcv T2 T3
        have hbs := hbel.size
        have d0 := (hbel.cell (p := ⟨w1.heap.size, 0, none⟩) zq).trans cq0
        have d1 := (hbel.cell (p := ⟨w1.heap.size, 1, none⟩) zq).trans cq1
        have d2 := (hbel.cell (p := ⟨w1.heap.size, 2, none⟩) zq).trans cq2
        have zw : w1.heap.size < wr.heap.size := Nat.lt_of_lt_of_le zq hbs
        have e1 : (0 : Int) ≤ (j : Int) := by omega
        have e2 : (j : Int) < (n_x : Int) := by omega
        have e3 : (0 : Int) < (n_m : Int) := by omega
        have e4 : 0 < n_m := by omega
        cases hT : stB l s cs r.ms v
        · exact absurd (T2.out hT) (by simp)
        · have HT := Lib.hid hT
          clear hT
          obtain ⟨q, q1, q2, q3, q4⟩ := T3.out HT.out
          have hy7 : Hid (stepY l s cs r.ms v = stY l s cs r.ms v) := by show _ = _; unfold stepY; rw [if_pos HT.out]
          have hm7 : Hid (stepM l s cs r.ms v = q.ms) := by show _ = _; rw [q2]; unfold stepM; exact seqOr_yes HT.out
          have hl7 := ML.out _ q3
          have Q0 : Hid (q.ms.getD 0 0 = stE l s cs r.ms v) := by show _ = _; rw [q2]; rfl
          have Q1 := Lib.hid q1
          have Q3 := Lib.hid q3
          have Q4 := Lib.hid q4
          clear q1 q2 q3 q4
          obtain ⟨t, ht⟩ : ∃ t, Hid (stY l s cs r.ms v = t) := ⟨_, rfl⟩
          obtain ⟨u, hu⟩ : ∃ u, Hid (stE l s cs r.ms v = u) := ⟨_, rfl⟩
          rw [ht.out] at hy7
          rw [hu.out] at Q0
          rw [ht.out, hu.out] at Q4
          have HL7 := Lib.hid hl7
          clear hl7
          go_wp2_with fail
          refine (step_i l s _ _ _ _ _ _ cs r.ms v _ ((sm.keep hbel).more hbs) hnow).mono ?_
          rintro e w7 ⟨a7, n7, c7, rfl, o7, b7⟩
          rw [HT.out, hy7.out]
          rw [hm7.out] at o7
          have hq : n_m = n7 := by rw [← o7.len]; exact HL7.out.symm
          obtain rfl := hq
          have hsl7 := o7.sl (by omega)
          clear o7 hnow
          have hb7 : Below w8.heap.size w8 w7 := hbel.trans (b7.mono hbs)
          have hs7 := hb7.size
          replace d0 : w7.drew.cell? ⟨w1.heap.size, 0, none⟩ = _ := (b7.cell (p := ⟨w1.heap.size, 0, none⟩) zw).trans d0
          replace d1 : w7.drew.cell? ⟨w1.heap.size, 1, none⟩ = _ := (b7.cell (p := ⟨w1.heap.size, 1, none⟩) zw).trans d1
          replace d2 : w7.drew.cell? ⟨w1.heap.size, 2, none⟩ = _ := (b7.cell (p := ⟨w1.heap.size, 2, none⟩) zw).trans d2
          have zw7 : w1.heap.size < w7.drew.heap.size := Nat.lt_of_lt_of_le zw b7.size
          obtain ⟨b2, off2, rfl, hb2, hc2⟩ := hsl7.at_ (by omega)
          have hcn : w7.drew.cell? ⟨b2, off2 + 0, none⟩ = _ := hc2 0 (by omega)
          rw [Q0.out] at hcn
          rw [Nat.add_zero] at hcn
          clear hc2
          have zn : b2 < w7.drew.heap.size := hb2
          obtain ⟨q5, q6⟩ := Q4.out (by simp)
          obtain ⟨b3, off3, rfl, hb3, hcb3⟩ := sy.at_ (by omega)
          have hcy : w7.drew.cell? ⟨b3, off3 + j, none⟩ = _ := (hb7.cell (p := ⟨b3, off3 + j, none⟩) hb3).trans (hcb3 j hlt)
          rw [q5] at hcy
          have zy : b3 < w7.drew.heap.size := Nat.lt_of_lt_of_le hb3 hs7
          clear hcb3
          obtain ⟨b4, off4, rfl, hb4, hcb4⟩ := se.at_ (by omega)
          have hce : w7.drew.cell? ⟨b4, off4 + j, none⟩ = _ := (hb7.cell (p := ⟨b4, off4 + j, none⟩) hb4).trans (hcb4 j hlt)
          rw [q6] at hce
          have ze : b4 < w7.drew.heap.size := Nat.lt_of_lt_of_le hb4 hs7
          clear hcb4
          have e5 : (t != t) = false := by simp
          have e6 : (u != u) = false := by simp
          go_wp2_with fail
          go_region_held3 (fun w' => w'.cell? ⟨w1.heap.size, 0, none⟩ = some (.int .i64 l) ∧ w'.cell? ⟨w1.heap.size, 1, none⟩ = some (.int .i64 s) ∧ w'.cell? ⟨w1.heap.size, 2, none⟩ = some (.slice a_m n_m c_m) ∧ w'.cell? ⟨b2, off2, none⟩ = some (.int .i64 u) ∧ w'.cell? ⟨b3, off3 + j, none⟩ = some (.int .i64 t) ∧ w'.cell? ⟨b4, off4 + j, none⟩ = some (.int .i64 u)) (go_keep) (first | (go_at_call 35; refine (isMem_s l s _ _ _ _ _ _ cs q.ms w7.drew ((sm.keep hb7.drew).more hs7) hsl7.drew).mono ?_; rw [Q3.out]; rintro e w8 ⟨rfl, b⟩; replace d0 := (b.cell (p := ⟨w1.heap.size, 0, none⟩) zw7).trans d0; replace d1 := (b.cell (p := ⟨w1.heap.size, 1, none⟩) zw7).trans d1; replace d2 := (b.cell (p := ⟨w1.heap.size, 2, none⟩) zw7).trans d2; replace hcn := (b.cell (p := ⟨b2, off2, none⟩) zn).trans hcn; replace hcy := (b.cell (p := ⟨b3, off3 + j, none⟩) zy).trans hcy; replace hce := (b.cell (p := ⟨b4, off4 + j, none⟩) ze).trans hce; have hsl8 := (hsl7.drew.keep b).more b.size; have hb8 := hb7.drew.trans (b.mono hs7); clear b))
          go_wp2_with fail
          go_roundw
          case rel => exact ⟨j + 1, _, _, q, by omega, by go_num, rfl, Q1.out, hsl8, hb8⟩
          case measure => simp [intOf]; omega
      · have hjn : j = n_x := by omega
        subst hjn
        have hE := SE.out r hr
        have hrz : Hid (r.ms = Z) := hE.2.symm
        rw [hrz.out] at hnow
        clear hE hr
        have hq : n_m = n_z := by rw [← hnow.len, ← sz.len]
        obtain rfl := hq
        have sz9 := (sz.keep hbel).more hbel.size
        go_wp2_with fail
        refine (ints_true _ _ _ _ _ _ _ hnow sz9).mono ?_
        rintro e w9 ⟨rfl, b⟩
        go_wp2_with fail
        go_ret
        exact ⟨rfl, bb.trans ((hbel.trans (b.mono hbel.size)).mono (Nat.le_trans S1.out (Nat.le_trans S2.out (Nat.le_trans S3.out (Nat.le_trans S4.out (Nat.le_trans S5.out (Nat.le_trans S6.out (Nat.le_trans S7.out S8.out))))))))⟩
end Go.Proofs.Ytmgjbldnohkodaa
