/- The walk of the law FnOrders: it returns true and leaves what was there as it was. -/
import Derived.Test.YticfdmgbpgfogaaPureO
import Derived.Test.YticfdmgbpgfogaaLawP
import Derived.Test.YticfdmgbpgfogaaMkQ
import Derived.Test.YticfdmgbpgfogaaMod8
import Derived.Test.YticfdmgbpgfogaaMod5
import Derived.Test.YticfdmgbpgfogaaMod4
import Derived.Test.YticfdmgbpgfogaaInt
import Derived.Test.YticfdmgbpgfogaaDiff2
import Derived.Test.YticfdmgbpgfogaaSeqOps
namespace Go.Proofs.Yticfdmgbpgfogaa
open Go.RowKit
set_option linter.unusedVariables false
set_option maxRecDepth 100000 in
set_option maxHeartbeats 4000000 in
theorem fnOrders_walk (a0 : Option Addr) (n0 c0 : Nat) (z0 : List Int) (w0 : World) (h : IsRow .u8 w0 a0 n0 c0 z0) :
    Calls Try.prog 10 #[.slice a0 n0 c0] w0 fun e w' => e = .returned (.bool true) ∧ Below w0.heap.size w0 w' := by
  have hle := h.le
  by_cases hn : n0 ≤ 1048576
  rotate_left
  · go_enter Try.func10, Try.ntmps10
    go_wp2_with fail
    go_ret
    exact ⟨rfl, Below.refl _ _⟩
  have s_code := h.bsl hn
  clear h hle
  have bb := Below.refl w0.heap.size w0
  go_enter Try.func10, Try.ntmps10
  go_wp2_with fail
  refine (mkQ_any _ _ _ _ (s_code.more (Nat.le_refl _))).mono ?_
  rintro e w1 ⟨l, s, hl2, hl6, hs, rfl, b⟩
  have S1 := Lib.hid b.size
  replace s_code := s_code.keep (b.mono (Nat.le_refl _))
  replace bb := bb.trans (b.mono (Nat.le_refl _))
  clear b
  have HQ := Lib.hid (smallQ hl2 hl6 hs)
  have hsb := smallS_bd hs
  clear hs
  have b := box_below w1 (.cells #[.int .i64 l, .int .i64 s] 24)
  have c_Q_0 : (w1.alloc (.cells #[.int .i64 l, .int .i64 s] 24)).cell? ⟨w1.heap.size, 0, none⟩ = some (.int .i64 l) := by simp [go_sem]
  have c_Q_1 : (w1.alloc (.cells #[.int .i64 l, .int .i64 s] 24)).cell? ⟨w1.heap.size, 1, none⟩ = some (.int .i64 s) := by simp [go_sem]
  go_wp2_with fail
  have z_Q : w1.heap.size < (w1.alloc (.cells #[.int .i64 l, .int .i64 s] 24)).heap.size := by simp
  generalize hgw : (w1.alloc (.cells #[.int .i64 l, .int .i64 s] 24)) = w2 at c_Q_0 c_Q_1 z_Q b ⊢
  clear hgw 
  have S2 := Lib.hid b.size
  replace s_code := s_code.keep (b.mono (S1.out))
  replace bb := bb.trans (b.mono (S1.out))
  clear b
  go_wp2_with fail
  refine (at_any _ _ _ _ 1 _ s_code (by omega)).mono ?_
  rintro e w' ⟨a, a0, a1, rfl, rfl⟩
  obtain ⟨r1, hr⟩ := Int.eq_ofNat_of_zero_le (Int.emod_nonneg a (show (4 : Int) ≠ 0 by omega))
  have hr6 : r1 < 4 := by have := Int.emod_lt_of_pos a (show (0 : Int) < 4 by omega); omega
  have hrr : 1 + (r1 : Int) = ((r1 + 1 : Nat) : Int) := by omega
  obtain ⟨k, hrn⟩ : ∃ k, r1 + 1 = k := ⟨_, rfl⟩
  rw [hrn] at hrr
  have h1k : 1 ≤ k := by omega
  have h4k : k ≤ 4 := by omega
  clear hrn hr6
  obtain ⟨m1, m2, m3, m4⟩ := order_facts (l := l) (s := s) HQ.out h1k h4k
  obtain ⟨cs, hcs⟩ : ∃ cs, Hid ((coefs (k : Int)).drop 1 = cs) := ⟨_, rfl⟩
  rw [hcs.out] at m4
  have M1 := Lib.hid m1
  have M2 := Lib.hid m2
  have M3 := Lib.hid m3
  have M4 := Lib.hid m4
  clear m1 m2 m3 m4
  go_wp2_with fail
  refine (order_mod_i l s (k : Int) _ (by constructor <;> omega)).mono ?_
  rintro e w3 ⟨a_m, n_m, c_m, he, o_m, b⟩
  have S3 := Lib.hid b.size
  replace c_Q_0 := (b.cell (p := ⟨w1.heap.size, 0, none⟩) (Nat.lt_of_lt_of_le z_Q (Nat.le_refl _))).trans c_Q_0
  replace c_Q_1 := (b.cell (p := ⟨w1.heap.size, 1, none⟩) (Nat.lt_of_lt_of_le z_Q (Nat.le_refl _))).trans c_Q_1
  replace s_code := s_code.keep (b.mono (Nat.le_trans S1.out S2.out))
  replace bb := bb.trans (b.mono (Nat.le_trans S1.out S2.out))
  clear b
  rw [M1.out, M2.out, M3.out] at he
  subst he
  rw [M4.out] at o_m
  have hn_m : n_m ≤ 1048576 := by rw [← o_m.len, ← M4.out]; exact omC_len _ _ _
  clear c_Q_0 c_Q_1
  have b := box_below w3 (.cells #[.int .i64 l, .int .i64 s, .slice a_m n_m c_m] 27)
  have c_M_0 : (w3.alloc (.cells #[.int .i64 l, .int .i64 s, .slice a_m n_m c_m] 27)).cell? ⟨w3.heap.size, 0, none⟩ = some (.int .i64 l) := by simp [go_sem]
  have c_M_1 : (w3.alloc (.cells #[.int .i64 l, .int .i64 s, .slice a_m n_m c_m] 27)).cell? ⟨w3.heap.size, 1, none⟩ = some (.int .i64 s) := by simp [go_sem]
  have c_M_2 : (w3.alloc (.cells #[.int .i64 l, .int .i64 s, .slice a_m n_m c_m] 27)).cell? ⟨w3.heap.size, 2, none⟩ = some (.slice a_m n_m c_m) := by simp [go_sem]
  go_wp2_with fail
  have z_M : w3.heap.size < (w3.alloc (.cells #[.int .i64 l, .int .i64 s, .slice a_m n_m c_m] 27)).heap.size := by simp
  generalize hgw : (w3.alloc (.cells #[.int .i64 l, .int .i64 s, .slice a_m n_m c_m] 27)) = w4 at c_M_0 c_M_1 c_M_2 z_M b ⊢
  clear hgw 
  have S4 := Lib.hid b.size
  replace o_m := o_m.keep b (Nat.le_refl _)
  replace s_code := s_code.keep (b.mono (Nat.le_trans S1.out (Nat.le_trans S2.out S3.out)))
  replace bb := bb.trans (b.mono (Nat.le_trans S1.out (Nat.le_trans S2.out S3.out)))
  clear b
  go_wp2_with fail
  refine (fresh_any _ _ _ 3 _ (s_code.more (Nat.le_trans S1.out (Nat.le_trans S2.out (Nat.le_trans S3.out S4.out)))) (by omega)).mono ?_
  rintro e w5 ⟨a_f, n_f, c_f, rfl, s_f, b⟩
  have S5 := Lib.hid b.size
  replace o_m := o_m.keep b (S4.out)
  replace c_M_0 := (b.cell (p := ⟨w3.heap.size, 0, none⟩) (Nat.lt_of_lt_of_le z_M (Nat.le_refl _))).trans c_M_0
  replace c_M_1 := (b.cell (p := ⟨w3.heap.size, 1, none⟩) (Nat.lt_of_lt_of_le z_M (Nat.le_refl _))).trans c_M_1
  replace c_M_2 := (b.cell (p := ⟨w3.heap.size, 2, none⟩) (Nat.lt_of_lt_of_le z_M (Nat.le_refl _))).trans c_M_2
  replace s_code := s_code.keep (b.mono (Nat.le_trans S1.out (Nat.le_trans S2.out (Nat.le_trans S3.out S4.out))))
  replace bb := bb.trans (b.mono (Nat.le_trans S1.out (Nat.le_trans S2.out (Nat.le_trans S3.out S4.out))))
  clear b
  go_wp2_with fail
  refine (at_any _ _ _ _ 2 _ s_code (by omega)).mono ?_
  rintro e w' ⟨a2, a20, a21, rfl, rfl⟩
  go_wp2_with fail
  refine (mkSeq_any _ _ _ 30 (1 + a2) _ (s_f.more (Nat.le_refl _)) (by omega) (by omega) (by omega)).mono ?_
  rintro e w6 ⟨a_x, n_x, c_x, x_x, rfl, o_x, l_x, i_x, j_x, b⟩
  have S6 := Lib.hid b.size
  replace o_m := o_m.keep b (Nat.le_trans S4.out S5.out)
  replace c_M_0 := (b.cell (p := ⟨w3.heap.size, 0, none⟩) (Nat.lt_of_lt_of_le z_M (S5.out))).trans c_M_0
  replace c_M_1 := (b.cell (p := ⟨w3.heap.size, 1, none⟩) (Nat.lt_of_lt_of_le z_M (S5.out))).trans c_M_1
  replace c_M_2 := (b.cell (p := ⟨w3.heap.size, 2, none⟩) (Nat.lt_of_lt_of_le z_M (S5.out))).trans c_M_2
  replace s_code := s_code.keep (b.mono (Nat.le_trans S1.out (Nat.le_trans S2.out (Nat.le_trans S3.out (Nat.le_trans S4.out S5.out)))))
  replace s_f := s_f.keep (b.mono (Nat.le_refl _))
  replace bb := bb.trans (b.mono (Nat.le_trans S1.out (Nat.le_trans S2.out (Nat.le_trans S3.out (Nat.le_trans S4.out S5.out)))))
  clear b
  have hn_x : n_x ≤ 1048576 := by omega
  clear s_f
  clear s_code
  have OF := Lib.hid (fun hB => orders_facts (l := l) (s := s) (k := k) (cs := cs) (xs := x_x) HQ.out h1k h4k hcs.out (by have := o_x.len; omega) (i_x.mono (show 1 + a2 ≤ 256 by omega)) hB)
  obtain ⟨Pm, hPm⟩ : ∃ Pm, Hid (plainV l s cs = Pm) := ⟨_, rfl⟩
  rw [hPm.out] at OF
  have hPl : Pm.length ≤ 1048576 := by rw [← hPm.out]; exact plainV_len _ _ _
  have HPL := Lib.hid hPl
  clear hPl
  obtain ⟨Y, hY⟩ : ∃ Y, Hid (runY l s cs Pm x_x = Y) := ⟨_, rfl⟩
  obtain ⟨E, hE⟩ : ∃ E, Hid (runE l s cs Pm x_x = E) := ⟨_, rfl⟩
  obtain ⟨B, hB⟩ : ∃ B, Hid (runB l s cs Pm x_x = B) := ⟨_, rfl⟩
  rw [hY.out, hE.out, hB.out] at OF
  have RL := Lib.hid (run_lens l s cs Pm x_x)
  rw [hY.out, hE.out] at RL
  go_wp2_with fail
  have S7 : Hid (w6.heap.size ≤ w6.drew.heap.size) := Nat.le_refl _
  replace o_m := o_m.drew
  replace c_M_0 : w6.drew.cell? ⟨w3.heap.size, 0, none⟩ = some (.int .i64 l) := c_M_0
  replace c_M_1 : w6.drew.cell? ⟨w3.heap.size, 1, none⟩ = some (.int .i64 s) := c_M_1
  replace c_M_2 : w6.drew.cell? ⟨w3.heap.size, 2, none⟩ = some (.slice a_m n_m c_m) := c_M_2
  replace o_x := o_x.drew
  replace bb := bb.drew
  go_region_held3 (fun w' => w'.cell? ⟨w3.heap.size, 0, none⟩ = some (.int .i64 l) ∧ w'.cell? ⟨w3.heap.size, 1, none⟩ = some (.int .i64 s) ∧ w'.cell? ⟨w3.heap.size, 2, none⟩ = some (.slice a_m n_m c_m)) (go_keep) (first | (go_at_call 39; refine (plain_s l s _ _ _ cs _ ((o_m.sl hn_m).more (Nat.le_trans S4.out (Nat.le_trans S5.out (Nat.le_trans S6.out S7.out))))).mono ?_; rintro e w8 ⟨a_p, n_p, c_p, rfl, o_p, b⟩; have S8 := Lib.hid b.size; replace o_m := o_m.keep b (Nat.le_trans S4.out (Nat.le_trans S5.out (Nat.le_trans S6.out S7.out))); replace c_M_0 := (b.cell (p := ⟨w3.heap.size, 0, none⟩) (Nat.lt_of_lt_of_le z_M (Nat.le_trans S5.out (Nat.le_trans S6.out S7.out)))).trans c_M_0; replace c_M_1 := (b.cell (p := ⟨w3.heap.size, 1, none⟩) (Nat.lt_of_lt_of_le z_M (Nat.le_trans S5.out (Nat.le_trans S6.out S7.out)))).trans c_M_1; replace c_M_2 := (b.cell (p := ⟨w3.heap.size, 2, none⟩) (Nat.lt_of_lt_of_le z_M (Nat.le_trans S5.out (Nat.le_trans S6.out S7.out)))).trans c_M_2; replace o_x := o_x.keep b (S7.out); replace bb := bb.trans (b.mono (Nat.le_trans S1.out (Nat.le_trans S2.out (Nat.le_trans S3.out (Nat.le_trans S4.out (Nat.le_trans S5.out (Nat.le_trans S6.out S7.out))))))); clear b; rw [hPm.out] at o_p; have hn_p : n_p ≤ 1048576 := (by rw [← o_p.len]; exact HPL.out)) | (go_at_call 18; refine (run_i l s _ _ _ _ _ _ _ _ _ cs Pm x_x _ ((o_m.sl hn_m).more (Nat.le_trans S4.out (Nat.le_trans S5.out (Nat.le_trans S6.out (Nat.le_trans S7.out S8.out))))) ((o_p.sl hn_p).more (Nat.le_refl _)) ((o_x.sl hn_x).more (Nat.le_trans S7.out S8.out))).mono ?_; rw [hY.out, hE.out, hB.out]; rintro e w9 ⟨a_y, n_y, c_y, a_e, n_e, c_e, a_z, n_z, c_z, rfl, o_y, o_e, o_z, f1, f2, f3, b⟩; have S9 := Lib.hid b.size; replace o_m := o_m.keep b (Nat.le_trans S4.out (Nat.le_trans S5.out (Nat.le_trans S6.out (Nat.le_trans S7.out S8.out)))); replace c_M_0 := (b.cell (p := ⟨w3.heap.size, 0, none⟩) (Nat.lt_of_lt_of_le z_M (Nat.le_trans S5.out (Nat.le_trans S6.out (Nat.le_trans S7.out S8.out))))).trans c_M_0; replace c_M_1 := (b.cell (p := ⟨w3.heap.size, 1, none⟩) (Nat.lt_of_lt_of_le z_M (Nat.le_trans S5.out (Nat.le_trans S6.out (Nat.le_trans S7.out S8.out))))).trans c_M_1; replace c_M_2 := (b.cell (p := ⟨w3.heap.size, 2, none⟩) (Nat.lt_of_lt_of_le z_M (Nat.le_trans S5.out (Nat.le_trans S6.out (Nat.le_trans S7.out S8.out))))).trans c_M_2; replace o_x := o_x.keep b (Nat.le_trans S7.out S8.out); replace o_p := o_p.keep b (Nat.le_refl _); replace bb := bb.trans (b.mono (Nat.le_trans S1.out (Nat.le_trans S2.out (Nat.le_trans S3.out (Nat.le_trans S4.out (Nat.le_trans S5.out (Nat.le_trans S6.out (Nat.le_trans S7.out S8.out)))))))); clear b; clear f1 f2 f3 o_z; have hn_y : n_y ≤ 1048576 := (by rw [← o_y.len]; exact RL.out.1); have hn_e : n_e ≤ 1048576 := (by rw [← o_e.len]; exact RL.out.2.1)))
  clear o_p
  go_wp2_with fail
  have S10 : Hid (w9.heap.size ≤ w9.drew.heap.size) := Nat.le_refl _
  replace o_m := o_m.drew
  replace c_M_0 : w9.drew.cell? ⟨w3.heap.size, 0, none⟩ = some (.int .i64 l) := c_M_0
  replace c_M_1 : w9.drew.cell? ⟨w3.heap.size, 1, none⟩ = some (.int .i64 s) := c_M_1
  replace c_M_2 : w9.drew.cell? ⟨w3.heap.size, 2, none⟩ = some (.slice a_m n_m c_m) := c_M_2
  replace o_x := o_x.drew
  replace o_y := o_y.drew
  replace o_e := o_e.drew
  replace bb := bb.drew
  go_region_held3 (fun w' => w'.cell? ⟨w3.heap.size, 0, none⟩ = some (.int .i64 l) ∧ w'.cell? ⟨w3.heap.size, 1, none⟩ = some (.int .i64 s) ∧ w'.cell? ⟨w3.heap.size, 2, none⟩ = some (.slice a_m n_m c_m)) (go_keep) (first | (go_at_call 39; refine (plain_s l s _ _ _ cs _ ((o_m.sl hn_m).more (Nat.le_trans S4.out (Nat.le_trans S5.out (Nat.le_trans S6.out (Nat.le_trans S7.out (Nat.le_trans S8.out (Nat.le_trans S9.out S10.out)))))))).mono ?_; rintro e w11 ⟨a_p2, n_p2, c_p2, rfl, o_p2, b⟩; have S11 := Lib.hid b.size; replace o_m := o_m.keep b (Nat.le_trans S4.out (Nat.le_trans S5.out (Nat.le_trans S6.out (Nat.le_trans S7.out (Nat.le_trans S8.out (Nat.le_trans S9.out S10.out)))))); replace c_M_0 := (b.cell (p := ⟨w3.heap.size, 0, none⟩) (Nat.lt_of_lt_of_le z_M (Nat.le_trans S5.out (Nat.le_trans S6.out (Nat.le_trans S7.out (Nat.le_trans S8.out (Nat.le_trans S9.out S10.out))))))).trans c_M_0; replace c_M_1 := (b.cell (p := ⟨w3.heap.size, 1, none⟩) (Nat.lt_of_lt_of_le z_M (Nat.le_trans S5.out (Nat.le_trans S6.out (Nat.le_trans S7.out (Nat.le_trans S8.out (Nat.le_trans S9.out S10.out))))))).trans c_M_1; replace c_M_2 := (b.cell (p := ⟨w3.heap.size, 2, none⟩) (Nat.lt_of_lt_of_le z_M (Nat.le_trans S5.out (Nat.le_trans S6.out (Nat.le_trans S7.out (Nat.le_trans S8.out (Nat.le_trans S9.out S10.out))))))).trans c_M_2; replace o_x := o_x.keep b (Nat.le_trans S7.out (Nat.le_trans S8.out (Nat.le_trans S9.out S10.out))); replace o_y := o_y.keep b (S10.out); replace o_e := o_e.keep b (S10.out); replace bb := bb.trans (b.mono (Nat.le_trans S1.out (Nat.le_trans S2.out (Nat.le_trans S3.out (Nat.le_trans S4.out (Nat.le_trans S5.out (Nat.le_trans S6.out (Nat.le_trans S7.out (Nat.le_trans S8.out (Nat.le_trans S9.out S10.out)))))))))); clear b; rw [hPm.out] at o_p2; have hn_p2 : n_p2 ≤ 1048576 := (by rw [← o_p2.len]; exact HPL.out)) | (go_at_call 20; refine (run_s l s _ _ _ _ _ _ _ _ _ cs Pm x_x _ ((o_m.sl hn_m).more (Nat.le_trans S4.out (Nat.le_trans S5.out (Nat.le_trans S6.out (Nat.le_trans S7.out (Nat.le_trans S8.out (Nat.le_trans S9.out (Nat.le_trans S10.out S11.out)))))))) ((o_p2.sl hn_p2).more (Nat.le_refl _)) ((o_x.sl hn_x).more (Nat.le_trans S7.out (Nat.le_trans S8.out (Nat.le_trans S9.out (Nat.le_trans S10.out S11.out)))))).mono ?_; rw [hY.out, hE.out, hB.out]; rintro e w12 ⟨a_y2, n_y2, c_y2, a_e2, n_e2, c_e2, a_z2, n_z2, c_z2, rfl, o_y2, o_e2, o_z2, f1, f2, f3, b⟩; have S12 := Lib.hid b.size; replace o_m := o_m.keep b (Nat.le_trans S4.out (Nat.le_trans S5.out (Nat.le_trans S6.out (Nat.le_trans S7.out (Nat.le_trans S8.out (Nat.le_trans S9.out (Nat.le_trans S10.out S11.out))))))); replace c_M_0 := (b.cell (p := ⟨w3.heap.size, 0, none⟩) (Nat.lt_of_lt_of_le z_M (Nat.le_trans S5.out (Nat.le_trans S6.out (Nat.le_trans S7.out (Nat.le_trans S8.out (Nat.le_trans S9.out (Nat.le_trans S10.out S11.out)))))))).trans c_M_0; replace c_M_1 := (b.cell (p := ⟨w3.heap.size, 1, none⟩) (Nat.lt_of_lt_of_le z_M (Nat.le_trans S5.out (Nat.le_trans S6.out (Nat.le_trans S7.out (Nat.le_trans S8.out (Nat.le_trans S9.out (Nat.le_trans S10.out S11.out)))))))).trans c_M_1; replace c_M_2 := (b.cell (p := ⟨w3.heap.size, 2, none⟩) (Nat.lt_of_lt_of_le z_M (Nat.le_trans S5.out (Nat.le_trans S6.out (Nat.le_trans S7.out (Nat.le_trans S8.out (Nat.le_trans S9.out (Nat.le_trans S10.out S11.out)))))))).trans c_M_2; replace o_x := o_x.keep b (Nat.le_trans S7.out (Nat.le_trans S8.out (Nat.le_trans S9.out (Nat.le_trans S10.out S11.out)))); replace o_y := o_y.keep b (Nat.le_trans S10.out S11.out); replace o_e := o_e.keep b (Nat.le_trans S10.out S11.out); replace o_p2 := o_p2.keep b (Nat.le_refl _); replace bb := bb.trans (b.mono (Nat.le_trans S1.out (Nat.le_trans S2.out (Nat.le_trans S3.out (Nat.le_trans S4.out (Nat.le_trans S5.out (Nat.le_trans S6.out (Nat.le_trans S7.out (Nat.le_trans S8.out (Nat.le_trans S9.out (Nat.le_trans S10.out S11.out))))))))))); clear b; clear f1 f2 f3 o_z2; have hn_y2 : n_y2 ≤ 1048576 := (by rw [← o_y2.len]; exact RL.out.1); have hn_e2 : n_e2 ≤ 1048576 := (by rw [← o_e2.len]; exact RL.out.2.1)))
  clear o_p2
  clear o_y2
  clear o_e2
  clear o_m
  clear c_M_0 c_M_1 c_M_2
  cases B
  · go_wp2_with fail
    go_ret
    exact ⟨rfl, bb⟩
  · obtain ⟨f1, f2, ⟨f3, f4⟩, ⟨f5, f6⟩, f7, f8⟩ := OF.out rfl
    have F1 := Lib.hid f1
    have F2 := Lib.hid f2
    have F3 := Lib.hid f3
    have F4 := Lib.hid f4
    have F5 := Lib.hid f5
    have F6 := Lib.hid f6
    have F7 := Lib.hid f7
    have F8 := Lib.hid f8
    clear f1 f2 f3 f4 f5 f6 f7 f8 OF
    have hyx : n_y = n_x := by rw [← o_y.len, ← o_x.len]; exact F1.out
    obtain rfl : n_x = n_y := hyx.symm
    clear hyx
    have hex : n_e = n_x := by rw [← o_e.len, ← o_x.len]; exact F2.out
    obtain rfl : n_x = n_e := hex.symm
    clear hex
    obtain ⟨V, hV⟩ : ∃ V, Hid (mixL Y x_x (-1) = V) := ⟨_, rfl⟩
    rw [hV.out] at F4 F6 F7 F8
    go_wp2_with fail
    refine (sub_i _ _ _ _ _ _ Y x_x _ ((o_y.sl hn_y).more (Nat.le_trans S10.out (Nat.le_trans S11.out S12.out))) ((o_x.sl hn_x).more (Nat.le_trans S7.out (Nat.le_trans S8.out (Nat.le_trans S9.out (Nat.le_trans S10.out (Nat.le_trans S11.out S12.out))))))).mono ?_
    rw [F3.out, F4.out]
    rintro e w13 ⟨a_v, n_v, c_v, rfl, o_v, b⟩
    have S13 := Lib.hid b.size
    replace o_x := o_x.keep b (Nat.le_trans S7.out (Nat.le_trans S8.out (Nat.le_trans S9.out (Nat.le_trans S10.out (Nat.le_trans S11.out S12.out)))))
    replace o_y := o_y.keep b (Nat.le_trans S10.out (Nat.le_trans S11.out S12.out))
    replace o_e := o_e.keep b (Nat.le_trans S10.out (Nat.le_trans S11.out S12.out))
    replace bb := bb.trans (b.mono (Nat.le_trans S1.out (Nat.le_trans S2.out (Nat.le_trans S3.out (Nat.le_trans S4.out (Nat.le_trans S5.out (Nat.le_trans S6.out (Nat.le_trans S7.out (Nat.le_trans S8.out (Nat.le_trans S9.out (Nat.le_trans S10.out (Nat.le_trans S11.out S12.out))))))))))))
    clear b
    have hn_v : n_v ≤ 1048576 := by rw [← o_v.len]; have := F7.out; have := o_x.len; omega
    go_wp2_with fail
    refine (diff_i _ _ _ E (k : Int) _ ((o_e.sl hn_e).more (Nat.le_trans S10.out (Nat.le_trans S11.out (Nat.le_trans S12.out S13.out)))) (by constructor <;> omega)).mono ?_
    rw [F5.out, F6.out]
    rintro e w14 ⟨a_d, n_d, c_d, rfl, o_d, b⟩
    have S14 := Lib.hid b.size
    replace o_x := o_x.keep b (Nat.le_trans S7.out (Nat.le_trans S8.out (Nat.le_trans S9.out (Nat.le_trans S10.out (Nat.le_trans S11.out (Nat.le_trans S12.out S13.out))))))
    replace o_y := o_y.keep b (Nat.le_trans S10.out (Nat.le_trans S11.out (Nat.le_trans S12.out S13.out)))
    replace o_e := o_e.keep b (Nat.le_trans S10.out (Nat.le_trans S11.out (Nat.le_trans S12.out S13.out)))
    replace o_v := o_v.keep b (Nat.le_refl _)
    replace bb := bb.trans (b.mono (Nat.le_trans S1.out (Nat.le_trans S2.out (Nat.le_trans S3.out (Nat.le_trans S4.out (Nat.le_trans S5.out (Nat.le_trans S6.out (Nat.le_trans S7.out (Nat.le_trans S8.out (Nat.le_trans S9.out (Nat.le_trans S10.out (Nat.le_trans S11.out (Nat.le_trans S12.out S13.out)))))))))))))
    clear b
    have hn_d : n_d ≤ 1048576 := by rw [← o_d.len]; have := F7.out; have := o_x.len; omega
    have hvx : n_v = n_d := by rw [← o_v.len, ← o_d.len]
    obtain rfl : n_v = n_d := hvx
    cases hB0 : intB V (k : Int)
    · have hB2 := Lib.hid hB0
      clear hB0
      go_wp2_with fail
      refine (int_i _ _ _ V (k : Int) _ ((o_v.sl hn_v).more (S14.out)) (by constructor <;> omega)).mono ?_
      rw [hB2.out]
      rintro e w15 ⟨a_s1, n_s1, c_s1, rfl, o_s1, b⟩
      have S15 := Lib.hid b.size
      replace o_x := o_x.keep b (Nat.le_trans S7.out (Nat.le_trans S8.out (Nat.le_trans S9.out (Nat.le_trans S10.out (Nat.le_trans S11.out (Nat.le_trans S12.out (Nat.le_trans S13.out S14.out)))))))
      replace o_y := o_y.keep b (Nat.le_trans S10.out (Nat.le_trans S11.out (Nat.le_trans S12.out (Nat.le_trans S13.out S14.out))))
      replace o_e := o_e.keep b (Nat.le_trans S10.out (Nat.le_trans S11.out (Nat.le_trans S12.out (Nat.le_trans S13.out S14.out))))
      replace o_v := o_v.keep b (S14.out)
      replace o_d := o_d.keep b (Nat.le_refl _)
      replace bb := bb.trans (b.mono (Nat.le_trans S1.out (Nat.le_trans S2.out (Nat.le_trans S3.out (Nat.le_trans S4.out (Nat.le_trans S5.out (Nat.le_trans S6.out (Nat.le_trans S7.out (Nat.le_trans S8.out (Nat.le_trans S9.out (Nat.le_trans S10.out (Nat.le_trans S11.out (Nat.le_trans S12.out (Nat.le_trans S13.out S14.out))))))))))))))
      clear b
      have hn_s1 : n_s1 ≤ 1048576 := by rw [← o_s1.len]; exact intV_len _ _
      go_wp2_with fail
      refine (int_s _ _ _ V (k : Int) _ ((o_v.sl hn_v).more (Nat.le_trans S14.out S15.out)) (by constructor <;> omega)).mono ?_
      rw [hB2.out]
      rintro e w16 ⟨a_s2, n_s2, c_s2, rfl, o_s2, b⟩
      have S16 := Lib.hid b.size
      replace o_x := o_x.keep b (Nat.le_trans S7.out (Nat.le_trans S8.out (Nat.le_trans S9.out (Nat.le_trans S10.out (Nat.le_trans S11.out (Nat.le_trans S12.out (Nat.le_trans S13.out (Nat.le_trans S14.out S15.out))))))))
      replace o_y := o_y.keep b (Nat.le_trans S10.out (Nat.le_trans S11.out (Nat.le_trans S12.out (Nat.le_trans S13.out (Nat.le_trans S14.out S15.out)))))
      replace o_e := o_e.keep b (Nat.le_trans S10.out (Nat.le_trans S11.out (Nat.le_trans S12.out (Nat.le_trans S13.out (Nat.le_trans S14.out S15.out)))))
      replace o_v := o_v.keep b (Nat.le_trans S14.out S15.out)
      replace o_d := o_d.keep b (S15.out)
      replace o_s1 := o_s1.keep b (Nat.le_refl _)
      replace bb := bb.trans (b.mono (Nat.le_trans S1.out (Nat.le_trans S2.out (Nat.le_trans S3.out (Nat.le_trans S4.out (Nat.le_trans S5.out (Nat.le_trans S6.out (Nat.le_trans S7.out (Nat.le_trans S8.out (Nat.le_trans S9.out (Nat.le_trans S10.out (Nat.le_trans S11.out (Nat.le_trans S12.out (Nat.le_trans S13.out (Nat.le_trans S14.out S15.out)))))))))))))))
      clear b
      have hn_s2 : n_s2 ≤ 1048576 := by rw [← o_s2.len]; exact intV_len _ _
      go_wp2_with fail
      refine (ints_true _ _ _ _ _ _ _ ((o_v.sl hn_v).more (Nat.le_trans S14.out (Nat.le_trans S15.out S16.out))) ((o_d.sl hn_d).more (Nat.le_trans S15.out S16.out))).mono ?_
      rintro e w17 ⟨rfl, b⟩
      have S17 := Lib.hid b.size
      replace o_x := o_x.keep b (Nat.le_trans S7.out (Nat.le_trans S8.out (Nat.le_trans S9.out (Nat.le_trans S10.out (Nat.le_trans S11.out (Nat.le_trans S12.out (Nat.le_trans S13.out (Nat.le_trans S14.out (Nat.le_trans S15.out S16.out)))))))))
      replace o_y := o_y.keep b (Nat.le_trans S10.out (Nat.le_trans S11.out (Nat.le_trans S12.out (Nat.le_trans S13.out (Nat.le_trans S14.out (Nat.le_trans S15.out S16.out))))))
      replace o_e := o_e.keep b (Nat.le_trans S10.out (Nat.le_trans S11.out (Nat.le_trans S12.out (Nat.le_trans S13.out (Nat.le_trans S14.out (Nat.le_trans S15.out S16.out))))))
      replace o_v := o_v.keep b (Nat.le_trans S14.out (Nat.le_trans S15.out S16.out))
      replace o_d := o_d.keep b (Nat.le_trans S15.out S16.out)
      replace o_s1 := o_s1.keep b (S16.out)
      replace o_s2 := o_s2.keep b (Nat.le_refl _)
      replace bb := bb.trans (b.mono (Nat.le_trans S1.out (Nat.le_trans S2.out (Nat.le_trans S3.out (Nat.le_trans S4.out (Nat.le_trans S5.out (Nat.le_trans S6.out (Nat.le_trans S7.out (Nat.le_trans S8.out (Nat.le_trans S9.out (Nat.le_trans S10.out (Nat.le_trans S11.out (Nat.le_trans S12.out (Nat.le_trans S13.out (Nat.le_trans S14.out (Nat.le_trans S15.out S16.out))))))))))))))))
      clear b
      go_wp2_with fail
      go_ret
      exact ⟨rfl, bb⟩
    · have hB2 := Lib.hid hB0
      clear hB0
      go_wp2_with fail
      refine (int_i _ _ _ V (k : Int) _ ((o_v.sl hn_v).more (S14.out)) (by constructor <;> omega)).mono ?_
      rw [hB2.out]
      rintro e w15 ⟨a_s1, n_s1, c_s1, rfl, o_s1, b⟩
      have S15 := Lib.hid b.size
      replace o_x := o_x.keep b (Nat.le_trans S7.out (Nat.le_trans S8.out (Nat.le_trans S9.out (Nat.le_trans S10.out (Nat.le_trans S11.out (Nat.le_trans S12.out (Nat.le_trans S13.out S14.out)))))))
      replace o_y := o_y.keep b (Nat.le_trans S10.out (Nat.le_trans S11.out (Nat.le_trans S12.out (Nat.le_trans S13.out S14.out))))
      replace o_e := o_e.keep b (Nat.le_trans S10.out (Nat.le_trans S11.out (Nat.le_trans S12.out (Nat.le_trans S13.out S14.out))))
      replace o_v := o_v.keep b (S14.out)
      replace o_d := o_d.keep b (Nat.le_refl _)
      replace bb := bb.trans (b.mono (Nat.le_trans S1.out (Nat.le_trans S2.out (Nat.le_trans S3.out (Nat.le_trans S4.out (Nat.le_trans S5.out (Nat.le_trans S6.out (Nat.le_trans S7.out (Nat.le_trans S8.out (Nat.le_trans S9.out (Nat.le_trans S10.out (Nat.le_trans S11.out (Nat.le_trans S12.out (Nat.le_trans S13.out S14.out))))))))))))))
      clear b
      have hn_s1 : n_s1 ≤ 1048576 := by rw [← o_s1.len]; exact intV_len _ _
      go_wp2_with fail
      refine (int_s _ _ _ V (k : Int) _ ((o_v.sl hn_v).more (Nat.le_trans S14.out S15.out)) (by constructor <;> omega)).mono ?_
      rw [hB2.out]
      rintro e w16 ⟨a_s2, n_s2, c_s2, rfl, o_s2, b⟩
      have S16 := Lib.hid b.size
      replace o_x := o_x.keep b (Nat.le_trans S7.out (Nat.le_trans S8.out (Nat.le_trans S9.out (Nat.le_trans S10.out (Nat.le_trans S11.out (Nat.le_trans S12.out (Nat.le_trans S13.out (Nat.le_trans S14.out S15.out))))))))
      replace o_y := o_y.keep b (Nat.le_trans S10.out (Nat.le_trans S11.out (Nat.le_trans S12.out (Nat.le_trans S13.out (Nat.le_trans S14.out S15.out)))))
      replace o_e := o_e.keep b (Nat.le_trans S10.out (Nat.le_trans S11.out (Nat.le_trans S12.out (Nat.le_trans S13.out (Nat.le_trans S14.out S15.out)))))
      replace o_v := o_v.keep b (Nat.le_trans S14.out S15.out)
      replace o_d := o_d.keep b (S15.out)
      replace o_s1 := o_s1.keep b (Nat.le_refl _)
      replace bb := bb.trans (b.mono (Nat.le_trans S1.out (Nat.le_trans S2.out (Nat.le_trans S3.out (Nat.le_trans S4.out (Nat.le_trans S5.out (Nat.le_trans S6.out (Nat.le_trans S7.out (Nat.le_trans S8.out (Nat.le_trans S9.out (Nat.le_trans S10.out (Nat.le_trans S11.out (Nat.le_trans S12.out (Nat.le_trans S13.out (Nat.le_trans S14.out S15.out)))))))))))))))
      clear b
      have hn_s2 : n_s2 ≤ 1048576 := by rw [← o_s2.len]; exact intV_len _ _
      go_wp2_with fail
      refine (ints_true _ _ _ _ _ _ _ ((o_v.sl hn_v).more (Nat.le_trans S14.out (Nat.le_trans S15.out S16.out))) ((o_d.sl hn_d).more (Nat.le_trans S15.out S16.out))).mono ?_
      rintro e w17 ⟨rfl, b⟩
      have S17 := Lib.hid b.size
      replace o_x := o_x.keep b (Nat.le_trans S7.out (Nat.le_trans S8.out (Nat.le_trans S9.out (Nat.le_trans S10.out (Nat.le_trans S11.out (Nat.le_trans S12.out (Nat.le_trans S13.out (Nat.le_trans S14.out (Nat.le_trans S15.out S16.out)))))))))
      replace o_y := o_y.keep b (Nat.le_trans S10.out (Nat.le_trans S11.out (Nat.le_trans S12.out (Nat.le_trans S13.out (Nat.le_trans S14.out (Nat.le_trans S15.out S16.out))))))
      replace o_e := o_e.keep b (Nat.le_trans S10.out (Nat.le_trans S11.out (Nat.le_trans S12.out (Nat.le_trans S13.out (Nat.le_trans S14.out (Nat.le_trans S15.out S16.out))))))
      replace o_v := o_v.keep b (Nat.le_trans S14.out (Nat.le_trans S15.out S16.out))
      replace o_d := o_d.keep b (Nat.le_trans S15.out S16.out)
      replace o_s1 := o_s1.keep b (S16.out)
      replace o_s2 := o_s2.keep b (Nat.le_refl _)
      replace bb := bb.trans (b.mono (Nat.le_trans S1.out (Nat.le_trans S2.out (Nat.le_trans S3.out (Nat.le_trans S4.out (Nat.le_trans S5.out (Nat.le_trans S6.out (Nat.le_trans S7.out (Nat.le_trans S8.out (Nat.le_trans S9.out (Nat.le_trans S10.out (Nat.le_trans S11.out (Nat.le_trans S12.out (Nat.le_trans S13.out (Nat.le_trans S14.out (Nat.le_trans S15.out S16.out))))))))))))))))
      clear b
      have F9 := Lib.hid (F8.out hB2.out)
      rw [F9.out] at o_s1
      have hse : n_s1 = n_x := by rw [← o_s1.len, ← o_e.len]
      obtain rfl : n_x = n_s1 := hse.symm
      clear hse
      go_wp2_with fail
      refine (ints_true _ _ _ _ _ _ _ ((o_s1.sl hn_s1).more (Nat.le_trans S16.out S17.out)) ((o_e.sl hn_e).more (Nat.le_trans S10.out (Nat.le_trans S11.out (Nat.le_trans S12.out (Nat.le_trans S13.out (Nat.le_trans S14.out (Nat.le_trans S15.out (Nat.le_trans S16.out S17.out))))))))).mono ?_
      rintro e w18 ⟨rfl, b⟩
      have S18 := Lib.hid b.size
      replace o_x := o_x.keep b (Nat.le_trans S7.out (Nat.le_trans S8.out (Nat.le_trans S9.out (Nat.le_trans S10.out (Nat.le_trans S11.out (Nat.le_trans S12.out (Nat.le_trans S13.out (Nat.le_trans S14.out (Nat.le_trans S15.out (Nat.le_trans S16.out S17.out))))))))))
      replace o_y := o_y.keep b (Nat.le_trans S10.out (Nat.le_trans S11.out (Nat.le_trans S12.out (Nat.le_trans S13.out (Nat.le_trans S14.out (Nat.le_trans S15.out (Nat.le_trans S16.out S17.out)))))))
      replace o_e := o_e.keep b (Nat.le_trans S10.out (Nat.le_trans S11.out (Nat.le_trans S12.out (Nat.le_trans S13.out (Nat.le_trans S14.out (Nat.le_trans S15.out (Nat.le_trans S16.out S17.out)))))))
      replace o_v := o_v.keep b (Nat.le_trans S14.out (Nat.le_trans S15.out (Nat.le_trans S16.out S17.out)))
      replace o_d := o_d.keep b (Nat.le_trans S15.out (Nat.le_trans S16.out S17.out))
      replace o_s1 := o_s1.keep b (Nat.le_trans S16.out S17.out)
      replace o_s2 := o_s2.keep b (S17.out)
      replace bb := bb.trans (b.mono (Nat.le_trans S1.out (Nat.le_trans S2.out (Nat.le_trans S3.out (Nat.le_trans S4.out (Nat.le_trans S5.out (Nat.le_trans S6.out (Nat.le_trans S7.out (Nat.le_trans S8.out (Nat.le_trans S9.out (Nat.le_trans S10.out (Nat.le_trans S11.out (Nat.le_trans S12.out (Nat.le_trans S13.out (Nat.le_trans S14.out (Nat.le_trans S15.out (Nat.le_trans S16.out S17.out)))))))))))))))))
      clear b
      go_wp2_with fail
      go_ret
      exact ⟨rfl, bb⟩
end Go.Proofs.Yticfdmgbpgfogaa
