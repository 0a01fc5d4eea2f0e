/- The walk of the law FnLevels: it returns true and leaves what was there as it was. -/
import Derived.Test.YtmgjbldnohkodaaMkQ
import Derived.Test.YtmgjbldnohkodaaPureL
import Derived.Test.YtmgjbldnohkodaaQSeq
import Derived.Test.YtmgjbldnohkodaaHand
namespace Go.Proofs.Ytmgjbldnohkodaa
open Go.RowKit
set_option linter.unusedVariables false

theorem abs_any (v m : Int) (w : World) (hm : Hid (m = max v (-v))) (hv : -9223372036854775807 ≤ v ∧ v ≤ 9223372036854775807) : Calls Try.prog 27 #[.int .i64 v] w fun e w' => e = .returned (.int .i64 m) ∧ w = w' := by
  by_cases hlt : v < -v
  · go_enter Try.func27, Try.ntmps27
    go_wp2
    go_ret
    exact ⟨ret_int (by have := hm.out; omega), rfl⟩
  · go_enter Try.func27, Try.ntmps27
    go_wp2
    go_ret
    exact ⟨ret_int (by have := hm.out; omega), rfl⟩
theorem quant_small {l s v : Int} (hq : isQ l s = true) (h0 : -1000000 ≤ v) (h1 : v ≤ 1000000) : quant l s v = lev l s (idx l s v) ∧ idxV l s v = idx l s v := by
  have hl : loud v = false := by simp [loud]; omega
  exact ⟨quant_yes hq hl, idxV_yes hq hl⟩
/-- What the law asks of the level that it finds. -/
theorem level_facts {l s v d : Int} (hq : isQ l s = true) (h0 : -100000 ≤ v) (h1 : v ≤ 100000) (hd0 : 0 ≤ d) (hd1 : d ≤ 255) (hl : l ≤ 6) (hs : s ≤ 64) :
    levV l s (idxV l s v) = quant l s v ∧ levB l s (idxV l s v) = true ∧ quant l s (quant l s v) = quant l s v ∧ quant l s v ≤ quant l s (v + d) ∧ -1000 ≤ quant l s v ∧ quant l s v ≤ 1000 ∧ 0 ≤ idxV l s v ∧ idxV l s v < l := by
  have hb := isQ_true hq
  obtain ⟨a1, a2⟩ := quant_small hq (v := v) (by omega) (by omega)
  have hi := idx_is v hq
  have hr := lev_rng hq hi.1 hi.2.1
  have hls : l * s ≤ 6 * 64 := Int.mul_le_mul hl hs (by omega) (by omega)
  have hB := levB_yes hq hi.1 hi.2.1
  obtain ⟨b1, b2⟩ := quant_small hq (v := lev l s (idx l s v)) (by omega) (by omega)
  obtain ⟨c1, c2⟩ := quant_small hq (v := v + d) (by omega) (by omega)
  rw [a1, a2, b1, c1, lev_idx hq hi.1 hi.2.1]
  refine ⟨levV_yes hB, hB, rfl, lev_mono (by omega) (idx_mono hq (by omega)), by omega, by omega, hi.1, hi.2.1⟩
theorem near_facts {l s v k : Int} (hq : isQ l s = true) (h0 : -100000 ≤ v) (h1 : v ≤ 100000) (hk0 : 0 ≤ k) (hk1 : k < l) (hl : l ≤ 6) (hs : s ≤ 64) :
    levV l s k = lev l s k ∧ levB l s k = true ∧ -1000 ≤ lev l s k ∧ lev l s k ≤ 1000 ∧ ¬ max (lev l s k - v) (-(lev l s k - v)) < max (quant l s v - v) (-(quant l s v - v)) ∧
    (max (lev l s k - v) (-(lev l s k - v)) = max (quant l s v - v) (-(quant l s v - v)) → ¬ quant l s v < lev l s k) := by
  have hb := isQ_true hq
  obtain ⟨a1, a2⟩ := quant_small hq (v := v) (by omega) (by omega)
  have hB := levB_yes hq hk0 hk1
  have hr := lev_rng hq hk0 hk1
  have hls : l * s ≤ 6 * 64 := Int.mul_le_mul hl hs (by omega) (by omega)
  have hn := lev_near (v := v) hq hk0 hk1
  rw [a1]
  exact ⟨levV_yes hB, hB, by omega, by omega, by omega, fun h => by have := hn.2 h.symm; omega⟩
theorem miss_facts {l s v : Int} (hq : isQ l s = true) (h0 : -100000 ≤ v) (h1 : v ≤ 100000) : over l s v = decide (rng l s < max v (-v)) ∧ (over l s v = false → max (quant l s v - v) (-(quant l s v - v)) ≤ s) := by
  have hb := isQ_true hq
  obtain ⟨a1, a2⟩ := quant_small hq (v := v) (by omega) (by omega)
  have ho : over l s v = decide (rng l s < max v (-v)) := by
    rw [rng_yes hq]
    unfold over
    rw [hq, Bool.true_and, Bool.eq_iff_iff]
    simp only [Bool.or_eq_true, decide_eq_true_eq]
    omega
  refine ⟨ho, fun h => ?_⟩
  rw [ho, rng_yes hq, decide_eq_false_iff_not] at h
  have := lev_miss hq (v := v) (by omega) (by omega)
  rw [a1]
  omega

set_option maxRecDepth 100000 in
set_option maxHeartbeats 4000000 in
theorem fnLevels_walk (a0 : Option Addr) (n0 c0 : Nat) (z0 : List Int) (w : World) (h : IsRow .u8 w a0 n0 c0 z0) :
    Calls Try.prog 4 #[.slice a0 n0 c0] w fun e w' => e = .returned (.bool true) ∧ Below w.heap.size w w' := by
  have hle := h.le
  by_cases hn : n0 ≤ 1048576
  rotate_left
  · go_enter Try.func4, Try.ntmps4
    go_wp2_with fail
    go_ret
    exact ⟨rfl, Below.refl _ _⟩
  have hb := h.bsl hn
  clear h hle
  go_enter Try.func4, Try.ntmps4
  go_wp2_with fail
  refine (mkQ_any _ _ _ _ hb).mono ?_
  rintro e w1 ⟨l, s, hl0, hl1, hs, rfl, b1⟩
  have hsb := smallS_bd hs
  have hq := Lib.hid (smallQ hl0 hl1 hs)
  have hb1 := hb.keep b1
  clear hb hs
  go_wp2_with fail
  have q2 := qbox_new w1 l s
  have b2 := b1.alloc b1.size (.cells #[.int .i64 l, .int .i64 s] 24)
  have hb2 := hb1.keep ((box_below w1 (.cells #[.int .i64 l, .int .i64 s] 24)).mono b1.size)
  clear hb1
  have hgc : w.heap.size ≤ w1.heap.size := b1.size
  obtain ⟨C, HC⟩ : ∃ C, Hid (w1.heap.size = C) := ⟨_, rfl⟩
  rw [HC.out] at q2 hgc
  generalize hgw : w1.alloc (.cells #[.int .i64 l, .int .i64 s] 24) = w2 at q2 b2 hb2 ⊢
  clear hgw b1
  rw [HC.out]
  have qb := q2
  have bel := b2
  obtain ⟨c0, c1, cz⟩ := q2
  clear b2
  refine (at_any _ _ _ _ 1 _ hb2 (by omega)).mono ?_
  rintro e w' ⟨a, ha0, ha1, rfl, rfl⟩
  go_wp2_with fail
  refine (at_any _ _ _ _ 2 _ hb2 (by omega)).mono ?_
  rintro e w' ⟨b, hb0, hb1, rfl, rfl⟩
  have hab0 : 0 ≤ a * b := Int.mul_nonneg ha0 hb0
  have hab1 : a * b ≤ 255 * 255 := Int.mul_le_mul ha1 hb1 hb0 (by omega)
  go_wp2_with fail
  refine (at_any _ _ _ _ 3 _ hb2 (by omega)).mono ?_
  rintro e w' ⟨c, hc0, hc1, rfl, rfl⟩
  obtain ⟨v, hv⟩ : ∃ v, a * b - 128 * c = v := ⟨_, rfl⟩
  have hv0 : -100000 ≤ v ∧ v ≤ 100000 := by rw [← hv]; omega
  go_wp2_with fail
  refine (at_any _ _ _ _ 4 _ hb2 (by omega)).mono ?_
  rintro e w' ⟨d, hd0, hd1, rfl, rfl⟩
  clear hb2
  obtain ⟨f1, f2, f3, f4, f5, f6, f7, f8⟩ := level_facts hq.out hv0.1 hv0.2 hd0 hd1 hl1 hsb.2
  obtain ⟨m1, m2⟩ := miss_facts hq.out hv0.1 hv0.2
  have near := Lib.hid (fun k hk0 hk1 => near_facts (k := k) hq.out hv0.1 hv0.2 hk0 hk1 hl1 hsb.2)
  obtain ⟨y, hy⟩ : ∃ y, Hid (quant l s v = y) := ⟨_, rfl⟩
  obtain ⟨i, hi⟩ : ∃ i, Hid (idxV l s v = i) := ⟨_, rfl⟩
  obtain ⟨y2, hy2⟩ : ∃ y2, Hid (quant l s (v + d) = y2) := ⟨_, rfl⟩
  rw [hy.out] at f1 f3 f4 f5 f6 m2
  rw [hy2.out] at f4
  rw [hi.out] at f1 f2 f7 f8
  have F1 := Lib.hid f1
  have F2 := Lib.hid f2
  have F3 := Lib.hid f3
  have M1 := Lib.hid m1
  have M2 := Lib.hid m2
  clear f1 f2 f3 m1 m2
  go_wp2_with fail
  clear hv hab0 hab1 ha0 ha1 hb0 hb1 hc0 hc1
  refine (quant_i _ _ _ _).mono ?_
  rw [hy.out]
  rintro e w3 ⟨rfl, b⟩
  replace qb := (show QBox _ C l s from ⟨c0, c1, cz⟩).next b
  replace bel := bel.trans (b.mono bel.size)
  clear b c0 c1 cz
  obtain ⟨c0, c1, cz⟩ := qb
  go_wp2_with fail
  refine (indexOf_i _ _ _ _).mono ?_
  rw [hi.out]
  rintro e w4 ⟨rfl, b⟩
  replace qb := (show QBox _ C l s from ⟨c0, c1, cz⟩).next b
  replace bel := bel.trans (b.mono bel.size)
  clear b c0 c1 cz
  obtain ⟨c0, c1, cz⟩ := qb
  go_wp2_with fail
  refine (levelOf_i _ _ _ _).mono ?_
  rw [F1.out, F2.out]
  rintro e w5 ⟨rfl, b⟩
  replace qb := (show QBox _ C l s from ⟨c0, c1, cz⟩).next b
  replace bel := bel.trans (b.mono bel.size)
  clear b c0 c1 cz
  obtain ⟨c0, c1, cz⟩ := qb
  have hyy : (y != y) = false := by simp
  go_wp2_with fail
  refine (quant_i _ _ _ _).mono ?_
  rw [F3.out]
  rintro e w6 ⟨rfl, b⟩
  replace qb := (show QBox _ C l s from ⟨c0, c1, cz⟩).next b
  replace bel := bel.trans (b.mono bel.size)
  clear b c0 c1 cz
  obtain ⟨c0, c1, cz⟩ := qb
  go_wp2_with fail
  refine (quant_i _ _ _ _).mono ?_
  rw [hy2.out]
  rintro e w7 ⟨rfl, b⟩
  replace qb := (show QBox _ C l s from ⟨c0, c1, cz⟩).next b
  replace bel := bel.trans (b.mono bel.size)
  clear b c0 c1 cz
  obtain ⟨c0, c1, cz⟩ := qb
  go_wp2_with fail
  clear hyy
  go_loopw [10, 11, 12] (fun k _ _ wr => ∃ kk : Int, 0 ≤ kk ∧ kk ≤ l ∧ k = .int .i64 kk ∧ Below w.heap.size w wr ∧ QBox wr C l s) (fun k _ _ _ => (l - intOf k).toNat)
  case atStart => exact ⟨0, by omega, by omega, rfl, bel, c0, c1, cz⟩
  case round =>
    clear bel c0 c1 cz
    obtain ⟨k, hk0, hk1, rfl, bel, qb⟩ := hrel
    obtain ⟨c0, c1, cz⟩ := qb
    by_cases hlt : k < l
    · obtain ⟨g1, g2, g3, g4, g5, g6⟩ := near.out k hk0 hlt
      obtain ⟨z, hz⟩ : ∃ z, Hid (lev l s k = z) := ⟨_, rfl⟩
      rw [hy.out, hz.out] at g5 g6
      rw [hz.out] at g1 g3 g4
      obtain ⟨p, hp⟩ : ∃ p, Hid (p = max (z - v) (-(z - v))) := ⟨_, rfl⟩
      obtain ⟨q, hqq⟩ : ∃ q, Hid (q = max (y - v) (-(y - v))) := ⟨_, rfl⟩
      rw [← hp.out, ← hqq.out] at g5 g6
      have G1 := Lib.hid g1
      have G2 := Lib.hid g2
      clear g1 g2
      go_wp2_with fail
      refine (levelOf_i _ _ _ _).mono ?_
      rw [G1.out, G2.out]
      rintro e w8 ⟨rfl, b⟩
      replace qb := (show QBox _ C l s from ⟨c0, c1, cz⟩).next b
      replace bel := bel.trans (b.mono bel.size)
      clear b c0 c1 cz
      go_wp2_with fail
      refine (abs_any _ _ _ hp (by omega)).mono ?_
      rintro e w' ⟨rfl, rfl⟩
      go_wp2_with fail
      refine (abs_any _ _ _ hqq (by omega)).mono ?_
      rintro e w' ⟨rfl, rfl⟩
      go_wp2_with fail
      refine (abs_any _ _ _ hp (by omega)).mono ?_
      rintro e w' ⟨rfl, rfl⟩
      go_wp2_with fail
      refine (abs_any _ _ _ hqq (by omega)).mono ?_
      rintro e w' ⟨rfl, rfl⟩
      by_cases hpq : p = q
      · have g7 := g6 hpq
        have hpe : (p == q) = true := by rw [beq_iff_eq]; exact hpq
        clear hpq g6
        go_wp2_with fail
        go_roundw
        case rel => exact ⟨k + 1, by omega, by omega, rfl, bel, qb⟩
        case measure => simp [intOf]; omega
      · have hpe : (p == q) = false := by rw [beq_eq_false_iff_ne]; exact hpq
        clear hpq g6
        go_wp2_with fail
        go_roundw
        case rel => exact ⟨k + 1, by omega, by omega, rfl, bel, qb⟩
        case measure => simp [intOf]; omega
    · obtain ⟨m, hm⟩ : ∃ m, Hid (m = max v (-v)) := ⟨_, rfl⟩
      obtain ⟨q, hqq⟩ : ∃ q, Hid (q = max (y - v) (-(y - v))) := ⟨_, rfl⟩
      obtain ⟨r, hr⟩ : ∃ r, Hid (rng l s = r) := ⟨_, rfl⟩
      have HO := M1.out
      rw [hr.out, ← hm.out] at HO
      have M3 := M2.out
      rw [← hqq.out] at M3
      replace bel := bel.drew
      cases hov : over l s v
      · have hd : decide (r < m) = false := by rw [← HO]; exact hov
        have hqs := M3 hov
        have hov2 := Lib.hid hov
        have e0 : (false == false) = true := rfl
        have e1 : IntKind.i64.wrap (y - v) = y - v := IntWalk.i64_in _ (by omega)
        have hqs2 : decide (q ≤ s) = true := by rw [decide_eq_true_eq]; exact hqs
        clear hov HO M3
        go_wp2_with fail
        go_region_held3 (fun w' => w'.cell? ⟨C, 0, none⟩ = some (.int .i64 l) ∧ w'.cell? ⟨C, 1, none⟩ = some (.int .i64 s)) (go_keep)
          (first | (go_at_call 28; refine (over_i _ _ _ _).mono ?_; rw [hov2.out]; rintro e w8 ⟨rfl, b⟩; replace c0 := (b.cell (p := ⟨C, 0, none⟩) cz).trans c0; replace c1 := (b.cell (p := ⟨C, 1, none⟩) cz).trans c1; replace cz := Nat.lt_of_lt_of_le cz b.size; replace bel := bel.trans (b.mono bel.size); clear b) | (go_at_call 27; refine (abs_any v m _ hm (by omega)).mono ?_; rintro e w' ⟨rfl, rfl⟩) | (go_at_call 29; refine (rangeOf_i _ _ _).mono ?_; rw [hr.out]; rintro e w9 ⟨rfl, b⟩; replace c0 := (b.cell (p := ⟨C, 0, none⟩) cz).trans c0; replace c1 := (b.cell (p := ⟨C, 1, none⟩) cz).trans c1; replace cz := Nat.lt_of_lt_of_le cz b.size; replace bel := bel.trans (b.mono bel.size); clear b) | (go_at_call 27; refine (abs_any (y - v) q _ hqq (by omega)).mono ?_; rintro e w' ⟨rfl, rfl⟩))
        go_wp2_with fail
        go_ret
        exact ⟨rfl, bel⟩
      · have hd : decide (r < m) = true := by rw [← HO]; exact hov
        have hov2 := Lib.hid hov
        have e0 : (true == true) = true := rfl
        clear hov HO M3
        go_wp2_with fail
        refine wp_region_held_drew (S := (fun w' => w'.cell? ⟨C, 0, none⟩ = some (.int .i64 l) ∧ w'.cell? ⟨C, 1, none⟩ = some (.int .i64 s))) (by kernel_rfl) ?hS (fun hHeld => ?_)
        case hS => go_keep
        refine takeH 0 (some 105) (v := ?_) rfl rfl (by kernel_rfl) (by kernel_rfl) (by kernel_rfl) (fun _ _ _ h => h) (by rfl) ?hy (by assumption) ?_
        case hy => (intro w hSw; (try dsimp only at hSw); go_simp; (try with_reducible rfl))
        simp only [Act.put, List.setIfInBounds_toArray, List.set_cons_zero, List.set_cons_succ]
        refine takeH 1 (some 106) (v := ?_) rfl rfl (by kernel_rfl) (by kernel_rfl) (by kernel_rfl) (fun _ _ _ h => h) (by rfl) ?hy (by assumption) ?_
        case hy => (intro w hSw; (try dsimp only at hSw); go_simp; (try with_reducible rfl))
        simp only [Act.put, List.setIfInBounds_toArray, List.set_cons_zero, List.set_cons_succ]
        refine takeH 3 (some 108) (v := ?_) rfl rfl (by kernel_rfl) (by kernel_rfl) (by kernel_rfl) (fun _ _ _ h => h) (by rfl) ?hy (by assumption) ?_
        case hy => (intro w hSw; (try dsimp only at hSw); go_simp; (try with_reducible rfl))
        simp only [Act.put, List.setIfInBounds_toArray, List.set_cons_zero, List.set_cons_succ]
        refine takeH 5 (some 110) (v := ?_) rfl rfl (by kernel_rfl) (by kernel_rfl) (by kernel_rfl) (fun _ _ _ h => h) (by rfl) ?hy (by assumption) ?_
        case hy => (intro w hSw; (try dsimp only at hSw); go_simp; (try with_reducible rfl))
        simp only [Act.put, List.setIfInBounds_toArray, List.set_cons_zero, List.set_cons_succ]
        refine wpAnyH_ready (rs := [2]) (by kernel_rfl) (by simp) ?_
        refine AllReadyH.cons rfl (fun K hK => ?_) AllReadyH.nil
        go_simp
        (go_at_call 28; refine (over_i _ _ _ _).mono ?_; rw [hov2.out]; rintro e w8 ⟨rfl, b⟩; replace c0 := (b.cell (p := ⟨C, 0, none⟩) cz).trans c0; replace c1 := (b.cell (p := ⟨C, 1, none⟩) cz).trans c1; replace cz := Nat.lt_of_lt_of_le cz b.size; replace bel := bel.trans (b.mono bel.size); clear b)
        go_wp2_with fail
        refine hK.out _ _ ?hS (fun hHeld => ?_)
        case hS => go_keep
        clear hK K
        try simp only [Act.put, List.setIfInBounds_toArray, List.set_cons_zero, List.set_cons_succ]
        refine wpAnyH_ready (rs := [4]) (by kernel_rfl) (by simp) ?_
        refine AllReadyH.cons rfl (fun K hK => ?_) AllReadyH.nil
        go_simp
        (go_at_call 27; refine (abs_any v m _ hm (by omega)).mono ?_; rintro e w' ⟨rfl, rfl⟩)
        go_wp2_with fail
        refine hK.out _ _ ?hS (fun hHeld => ?_)
        case hS => go_keep
        clear hK K
        try simp only [Act.put, List.setIfInBounds_toArray, List.set_cons_zero, List.set_cons_succ]
        refine wpAnyH_ready (rs := [6]) (by kernel_rfl) (by simp) ?_
        refine AllReadyH.cons rfl (fun K hK => ?_) AllReadyH.nil
        go_simp
        (go_at_call 29; refine (rangeOf_i _ _ _).mono ?_; rw [hr.out]; rintro e w9 ⟨rfl, b⟩; replace c0 := (b.cell (p := ⟨C, 0, none⟩) cz).trans c0; replace c1 := (b.cell (p := ⟨C, 1, none⟩) cz).trans c1; replace cz := Nat.lt_of_lt_of_le cz b.size; replace bel := bel.trans (b.mono bel.size); clear b)
        go_wp2_with fail
        refine hK.out _ _ ?hS (fun hHeld => ?_)
        case hS => go_keep
        clear hK K
        try simp only [Act.put, List.setIfInBounds_toArray, List.set_cons_zero, List.set_cons_succ]
        refine takeH 7 (some 112) (v := ?_) rfl rfl (by kernel_rfl) (by kernel_rfl) (by kernel_rfl) (fun _ _ _ h => h) (by rfl) ?hy (by assumption) ?_
        case hy => (intro w hSw; (try dsimp only at hSw); go_simp; (try with_reducible rfl))
        simp only [Act.put, List.setIfInBounds_toArray, List.set_cons_zero, List.set_cons_succ]
        refine takeH 8 (some 113) (v := ?_) rfl rfl (by kernel_rfl) (by kernel_rfl) (by kernel_rfl) (fun _ _ _ h => h) (by rfl) ?hy (by assumption) ?_
        case hy => (intro w hSw; (try dsimp only at hSw); go_simp; (try with_reducible rfl))
        simp only [Act.put, List.setIfInBounds_toArray, List.set_cons_zero, List.set_cons_succ]
        refine takeH 9 (some 114) (v := ?_) rfl rfl (by kernel_rfl) (by kernel_rfl) (by kernel_rfl) (fun _ _ _ h => h) (by rfl) ?hy (by assumption) ?_
        case hy => (intro w hSw; (try dsimp only at hSw); go_simp; (try with_reducible rfl))
        simp only [Act.put, List.setIfInBounds_toArray, List.set_cons_zero, List.set_cons_succ]
        refine takeH 10 (some 115) (v := ?_) rfl rfl (by kernel_rfl) (by kernel_rfl) (by kernel_rfl) (fun _ _ _ h => h) (by rfl) ?hy (by assumption) ?_
        case hy => (intro w hSw; (try dsimp only at hSw); go_simp; (try with_reducible rfl))
        simp only [Act.put, List.setIfInBounds_toArray, List.set_cons_zero, List.set_cons_succ]
        refine takeH 11 (some 116) (v := ?_) rfl rfl (by kernel_rfl) (by kernel_rfl) (by kernel_rfl) (fun _ _ _ h => h) (by rfl) ?hy (by assumption) ?_
        case hy => (intro w hSw; (try dsimp only at hSw); go_simp; (try with_reducible rfl))
        simp only [Act.put, List.setIfInBounds_toArray, List.set_cons_zero, List.set_cons_succ]
        refine wpAnyH_ready (rs := [12]) (by kernel_rfl) (by simp) ?_
        refine AllReadyH.cons rfl (fun K hK => ?_) AllReadyH.nil
        go_simp
        (go_at_call 28; refine (over_i _ _ _ _).mono ?_; rw [hov2.out]; rintro e w8 ⟨rfl, b⟩; replace c0 := (b.cell (p := ⟨C, 0, none⟩) cz).trans c0; replace c1 := (b.cell (p := ⟨C, 1, none⟩) cz).trans c1; replace cz := Nat.lt_of_lt_of_le cz b.size; replace bel := bel.trans (b.mono bel.size); clear b)
        go_wp2_with fail
        refine hK.out _ _ ?hS (fun hHeld => ?_)
        case hS => go_keep
        clear hK K
        try simp only [Act.put, List.setIfInBounds_toArray, List.set_cons_zero, List.set_cons_succ]
        refine takeH 13 (some 118) (v := ?_) rfl rfl (by kernel_rfl) (by kernel_rfl) (by kernel_rfl) (fun _ _ _ h => h) (by rfl) ?hy (by assumption) ?_
        case hy => (intro w hSw; (try dsimp only at hSw); go_simp; (try with_reducible rfl))
        simp only [Act.put, List.setIfInBounds_toArray, List.set_cons_zero, List.set_cons_succ]
        refine skipH 14 (some 119) rfl rfl (by kernel_rfl) (by kernel_rfl) (by kernel_rfl) (fun _ _ _ h => h) (by rfl) (by assumption) ?_
        simp only [Act.put, List.setIfInBounds_toArray, List.set_cons_zero, List.set_cons_succ]
        refine skipH 15 (some 120) rfl rfl (by kernel_rfl) (by kernel_rfl) (by kernel_rfl) (fun _ _ _ h => h) (by rfl) (by assumption) ?_
        simp only [Act.put, List.setIfInBounds_toArray, List.set_cons_zero, List.set_cons_succ]
        refine skipH 16 (some 121) rfl rfl (by kernel_rfl) (by kernel_rfl) (by kernel_rfl) (fun _ _ _ h => h) (by rfl) (by assumption) ?_
        simp only [Act.put, List.setIfInBounds_toArray, List.set_cons_zero, List.set_cons_succ]
        refine skipH 17 (some 122) rfl rfl (by kernel_rfl) (by kernel_rfl) (by kernel_rfl) (fun _ _ _ h => h) (by rfl) (by assumption) ?_
        simp only [Act.put, List.setIfInBounds_toArray, List.set_cons_zero, List.set_cons_succ]
        refine skipH 18 (some 123) rfl rfl (by kernel_rfl) (by kernel_rfl) (by kernel_rfl) (fun _ _ _ h => h) (by rfl) (by assumption) ?_
        simp only [Act.put, List.setIfInBounds_toArray, List.set_cons_zero, List.set_cons_succ]
        refine skipH 19 (some 124) rfl rfl (by kernel_rfl) (by kernel_rfl) (by kernel_rfl) (fun _ _ _ h => h) (by rfl) (by assumption) ?_
        simp only [Act.put, List.setIfInBounds_toArray, List.set_cons_zero, List.set_cons_succ]
        refine skipH 20 (some 125) rfl rfl (by kernel_rfl) (by kernel_rfl) (by kernel_rfl) (fun _ _ _ h => h) (by rfl) (by assumption) ?_
        simp only [Act.put, List.setIfInBounds_toArray, List.set_cons_zero, List.set_cons_succ]
        refine takeH 21 (some 126) (v := ?_) rfl rfl (by kernel_rfl) (by kernel_rfl) (by kernel_rfl) (fun _ _ _ h => h) (by rfl) ?hy (by assumption) ?_
        case hy => (intro w hSw; (try dsimp only at hSw); go_simp; (try with_reducible rfl))
        simp only [Act.put, List.setIfInBounds_toArray, List.set_cons_zero, List.set_cons_succ]
        refine takeH 22 (some 127) (v := ?_) rfl rfl (by kernel_rfl) (by kernel_rfl) (by kernel_rfl) (fun _ _ _ h => h) (by rfl) ?hy (by assumption) ?_
        case hy => (intro w hSw; (try dsimp only at hSw); go_simp; (try with_reducible rfl))
        simp only [Act.put, List.setIfInBounds_toArray, List.set_cons_zero, List.set_cons_succ]
        refine takeH 23 (some 2) (v := ?_) rfl rfl (by kernel_rfl) (by kernel_rfl) (by kernel_rfl) (fun _ _ _ h => h) (by rfl) ?hy (by assumption) ?_
        case hy => (intro w hSw; (try dsimp only at hSw); go_simp; (try with_reducible rfl))
        simp only [Act.put, List.setIfInBounds_toArray, List.set_cons_zero, List.set_cons_succ]
        refine wpAnyH_done (by kernel_rfl) ?_ _
        go_wp2_with fail
        go_ret
        exact ⟨rfl, bel⟩
end Go.Proofs.Ytmgjbldnohkodaa
