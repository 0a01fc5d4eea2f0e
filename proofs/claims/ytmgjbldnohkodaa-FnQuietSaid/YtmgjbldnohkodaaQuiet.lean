/- The contracts of QuietFrom, of the program and of the reference. -/
import Derived.Test.YtmgjbldnohkodaaPureK
import Derived.Test.YtmgjbldnohkodaaRowV
import Derived.Test.YtmgjbldnohkodaaMod3
import Derived.Test.YtmgjbldnohkodaaDiff
import Derived.Test.YtmgjbldnohkodaaPer
import Derived.Deep.RegionHeld3
namespace Go.Proofs.Ytmgjbldnohkodaa
open Go.RowKit
set_option linter.unusedVariables false

def RetQuiet (w : World) (l s : Int) (cs ms : List Int) (x n : Int) (e : Ending) (w' : World) : Prop :=
  ∃ (i p : Int) (b : Bool), e = .returned (.tuple #[.int .i64 i, .int .i64 p, .bool b]) ∧ QuietIs l s cs ms x n i p b ∧ Below w.heap.size w w'
theorem ret_quiet_no {w w' : World} {l s x n : Int} {cs ms : List Int} (h : ¬ quietOk l s cs ms x n) (hw : Below w.heap.size w w') : RetQuiet w l s cs ms x n (.returned (.tuple #[.int .i64 0, .int .i64 0, .bool false])) w' :=
  ⟨0, 0, false, rfl, QuietIs.no h, hw⟩
theorem qAt_some {l s x : Int} {cs ms m : List Int} {k : Nat} (h : qst l s cs ms x k = some m) : qAt l s cs ms x k = m := by unfold qAt; rw [h]; rfl
theorem qst_stop {l s x : Int} {cs ms : List Int} {j K : Nat} (h : qst l s cs ms x (j + 1) = none) (hj : j < K) : ¬ quietOk l s cs ms x (K : Int) := by
  rintro ⟨_, _, _, h4⟩
  rw [Int.toNat_natCast, show K = j + 1 + (K - (j + 1)) from by omega, qst_none h] at h4
  cases h4
/-- One step from the memory behind k steps. -/
theorem qst_step {l s x : Int} {cs ms m : List Int} {k : Nat} (hm : isMem l s cs ms = true) (hx : sampleB x = true) (h : qst l s cs ms x k = some m) :
    (stB l s cs m x = false → qst l s cs ms x (k + 1) = none) ∧ (stB l s cs m x = true → qst l s cs ms x (k + 1) = some (stepM l s cs m x)) := by
  have h1 := qst_mem hm k m h
  refine ⟨fun hb => ?_, fun hb => ?_⟩
  · cases he : sampleB (stE l s cs m x) with
    | true => rw [stB_yes h1 hx he] at hb; cases hb
    | false => exact qst_fail h he
  · rw [qst_next h (stB_true hb).2.2]
    unfold stepM
    rw [seqOr_yes hb]
set_option maxHeartbeats 400000 in
theorem l3Equal_any (ao bo : Option Addr) (n c d : Nat) (xs ys : List Int) (w : World) (ha : Sl w w.heap.size ao n c xs) (hb : Sl w w.heap.size bo n d ys) :
    Calls Try.prog 62 #[.slice ao n c, .slice bo n d] w fun e w' => e = .returned (.bool (sameB xs ys)) ∧ Below w.heap.size w w' := by
  obtain ⟨hla, _, hn, ha⟩ := ha
  obtain ⟨hlb, _, _, hb⟩ := hb
  have HA := Lib.hid hla
  have HB := Lib.hid hlb
  clear hla hlb
  have hne : (((n : Nat) : Int) != ((n : Nat) : Int)) = false := by simp
  go_enter Try.func62, Try.ntmps62
  go_wp2
  go_loopw [5, 13] (fun _ i wr => ∃ k : Nat, k ≤ n ∧ i = .int .i64 k ∧ sameUpto xs ys k ∧ Below w.heap.size w wr) (fun _ i _ => n - (intOf i).toNat)
  case atStart => exact ⟨0, Nat.zero_le _, rfl, sameUpto_zero _ _, Below.refl _ _⟩
  case round =>
    clear hne
    obtain ⟨k, hk, rfl, hsame, hbel⟩ := hrel
    by_cases hlt : k < n
    · obtain ⟨b, off, rfl, hbl, hc⟩ := ha (by omega)
      obtain ⟨b2, off2, rfl, hbl2, hc2⟩ := hb (by omega)
      have hcx := (hbel.cell (p := ⟨b, off + k, none⟩) hbl).trans (hc k hlt)
      have hcy := (hbel.cell (p := ⟨b2, off2 + k, none⟩) hbl2).trans (hc2 k hlt)
      clear ha hb hc hc2
      by_cases hxy : xs.getD k 0 = ys.getD k 0
      · have hs1 := sameUpto_succ hsame hxy
        rw [← hxy] at hcy
        generalize xs.getD k 0 = x at hcx hcy
        clear hxy
        have hne : (x != x) = false := by simp
        go_wp2
        go_quiet (fail)
        go_wp2
        go_roundw
        case rel => exact ⟨k + 1, by omega, by go_num, hs1, below_drewN hbel _⟩
        case measure => simp [intOf]; omega
      · have hno := Lib.hid (sameB_no hxy)
        have hne : (xs.getD k 0 != ys.getD k 0) = true := by rw [bne_iff_ne]; exact hxy
        generalize xs.getD k 0 = x at hcx hne
        generalize ys.getD k 0 = y at hcy hne
        clear hxy
        go_wp2
        go_quiet (fail)
        go_wp2
        go_ret
        exact ⟨ret_bool hno.out.symm, below_drewN hbel _⟩
    · have : k = n := by omega
      subst this
      have he := Lib.hid (sameB_yes HA.out HB.out hsame)
      go_wp2
      go_ret
      exact ⟨ret_bool he.out.symm, hbel⟩
set_option maxRecDepth 100000 in
set_option maxHeartbeats 3200000 in
theorem quiet_i (l s : Int) (ao bo : Option Addr) (n c m d : Nat) (cs ms : List Int) (x k : Int) (w : World) (ha : Sl w w.heap.size ao n c cs) (hb : Sl w w.heap.size bo m d ms) (hwx : Wf x) (hwk : Wf k) :
    Calls Try.prog 17 #[.agg #[.int .i64 l, .int .i64 s, .slice ao n c], .slice bo m d, .int .i64 x, .int .i64 k] w (RetQuiet w l s cs ms x k) := by
  have hm20 := hb.2.2.1
  obtain ⟨hwx0, hwx1⟩ := hwx
  obtain ⟨hwk0, hwk1⟩ := hwk
  cases hm : isMem l s cs ms
  · have hno := Lib.hid (show ¬ quietOk l s cs ms x k from fun h => by have := h.1; rw [hm] at this; cases this)
    go_enter Try.func17, Try.ntmps17
    have b0 := box_below w (.cells #[.int .i64 l, .int .i64 s, .slice ao n c] 27)
    have m0 := Blk.new w 27 #[.int .i64 l, .int .i64 s, .slice ao n c]
    have h0 := (ha.keep b0).more b0.size
    have g0 := (hb.keep b0).more b0.size
    have c0 := m0.cell 0
    have c1 := m0.cell 1
    have c2 := m0.cell 2
    simp at c0 c1 c2
    go_wp2_with fail
    generalize w.alloc (.cells #[.int .i64 l, .int .i64 s, .slice ao n c] 27) = w0 at b0 m0 h0 g0 c0 c1 c2 ⊢
    refine (isMem_i _ _ _ _ _ _ _ _ cs ms _ h0 g0).mono ?_
    rw [hm]
    rintro e w1 ⟨rfl, b⟩
    have b1 := then_then b0 b
    go_wp2_with fail
    go_ret3
    exact ret_quiet_no hno.out b1
  have HM := Lib.hid hm
  cases hx : sampleB x
  · have hno := Lib.hid (show ¬ quietOk l s cs ms x k from fun h => by have := h.2.1; rw [hx] at this; cases this)
    go_enter Try.func17, Try.ntmps17
    have b0 := box_below w (.cells #[.int .i64 l, .int .i64 s, .slice ao n c] 27)
    have m0 := Blk.new w 27 #[.int .i64 l, .int .i64 s, .slice ao n c]
    have h0 := (ha.keep b0).more b0.size
    have g0 := (hb.keep b0).more b0.size
    have c0 := m0.cell 0
    have c1 := m0.cell 1
    have c2 := m0.cell 2
    simp at c0 c1 c2
    go_wp2_with fail
    generalize w.alloc (.cells #[.int .i64 l, .int .i64 s, .slice ao n c] 27) = w0 at b0 m0 h0 g0 c0 c1 c2 ⊢
    refine (isMem_i _ _ _ _ _ _ _ _ cs ms _ h0 g0).mono ?_
    rw [hm]
    rintro e w1 ⟨rfl, b⟩
    have b1 := then_then b0 b
    go_wp2_with fail
    refine (sample_i _ _).mono ?_
    rw [hx]
    rintro e w' ⟨rfl, rfl⟩
    go_wp2_with fail
    go_ret3
    exact ret_quiet_no hno.out b1
  have HX := Lib.hid hx
  by_cases hk0 : k < 0
  · have hno := Lib.hid (show ¬ quietOk l s cs ms x k from fun h => by have := h.2.2.1; omega)
    go_enter Try.func17, Try.ntmps17
    have b0 := box_below w (.cells #[.int .i64 l, .int .i64 s, .slice ao n c] 27)
    have m0 := Blk.new w 27 #[.int .i64 l, .int .i64 s, .slice ao n c]
    have h0 := (ha.keep b0).more b0.size
    have g0 := (hb.keep b0).more b0.size
    have c0 := m0.cell 0
    have c1 := m0.cell 1
    have c2 := m0.cell 2
    simp at c0 c1 c2
    go_wp2_with fail
    generalize w.alloc (.cells #[.int .i64 l, .int .i64 s, .slice ao n c] 27) = w0 at b0 m0 h0 g0 c0 c1 c2 ⊢
    refine (isMem_i _ _ _ _ _ _ _ _ cs ms _ h0 g0).mono ?_
    rw [hm]
    rintro e w1 ⟨rfl, b⟩
    have b1 := then_then b0 b
    go_wp2_with fail
    refine (sample_i _ _).mono ?_
    rw [hx]
    rintro e w' ⟨rfl, rfl⟩
    skip
    go_wp2_with fail
    go_ret3
    exact ret_quiet_no hno.out b1
  by_cases hk4 : 400 < k
  · have hno := Lib.hid (show ¬ quietOk l s cs ms x k from fun h => by have := h.2.2.1; omega)
    go_enter Try.func17, Try.ntmps17
    have b0 := box_below w (.cells #[.int .i64 l, .int .i64 s, .slice ao n c] 27)
    have m0 := Blk.new w 27 #[.int .i64 l, .int .i64 s, .slice ao n c]
    have h0 := (ha.keep b0).more b0.size
    have g0 := (hb.keep b0).more b0.size
    have c0 := m0.cell 0
    have c1 := m0.cell 1
    have c2 := m0.cell 2
    simp at c0 c1 c2
    go_wp2_with fail
    generalize w.alloc (.cells #[.int .i64 l, .int .i64 s, .slice ao n c] 27) = w0 at b0 m0 h0 g0 c0 c1 c2 ⊢
    refine (isMem_i _ _ _ _ _ _ _ _ cs ms _ h0 g0).mono ?_
    rw [hm]
    rintro e w1 ⟨rfl, b⟩
    have b1 := then_then b0 b
    go_wp2_with fail
    refine (sample_i _ _).mono ?_
    rw [hx]
    rintro e w' ⟨rfl, rfl⟩
    skip
    go_wp2_with fail
    go_ret3
    exact ret_quiet_no hno.out b1
  obtain ⟨K, rfl⟩ := Int.eq_ofNat_of_zero_le (show 0 ≤ k by omega)
  have hK : K ≤ 400 := by omega
  clear hk0 hk4 hwk0 hwk1
  have hml := (isMem_true hm).2.1
  have hcl := (isMod_true (isMem_true hm).1).2.1
  have hlc := ha.len
  have hlm := hb.len
  have hm1 : 1 ≤ m := by omega
  have hm6 : m ≤ 6 := by have := (isMod_true (isMem_true hm).1).2.2.1; omega
  have hb_len : Hid (ms.length = m) := hb.len
  clear hml hcl hlc hlm
  go_enter Try.func17, Try.ntmps17
  have b0 := box_below w (.cells #[.int .i64 l, .int .i64 s, .slice ao n c] 27)
  have m0 := Blk.new w 27 #[.int .i64 l, .int .i64 s, .slice ao n c]
  have h0 := (ha.keep b0).more b0.size
  have g0 := (hb.keep b0).more b0.size
  have c0 := m0.cell 0
  have c1 := m0.cell 1
  have c2 := m0.cell 2
  simp at c0 c1 c2
  go_wp2_with fail
  generalize w.alloc (.cells #[.int .i64 l, .int .i64 s, .slice ao n c] 27) = w0 at b0 m0 h0 g0 c0 c1 c2 ⊢
  refine (isMem_i _ _ _ _ _ _ _ _ cs ms _ h0 g0).mono ?_
  rw [hm]
  rintro e w1 ⟨rfl, b⟩
  have b1 := then_then b0 b
  have m1 := m0.below b m0.lt
  have h1 := (h0.keep b).more b.size
  have g1 := (g0.keep b).more b.size
  have z0 : w.heap.size < w0.heap.size := m0.lt
  have z1 := b.size
  clear b c0 c1 c2 m0 h0 g0 b0
  have c0 := m1.cell 0
  have c1 := m1.cell 1
  have c2 := m1.cell 2
  simp at c0 c1 c2
  go_wp2_with fail
  refine (sample_i _ _).mono ?_
  rw [hx]
  rintro e w' ⟨rfl, rfl⟩
  clear hx hm
  have m2 := m1
  have b2 := b1
  have z2 := z1
  have v2 : StAt w1 w1.heap.size m ms (.slice bo m d) := StAt.of g1 hm1 (Nat.le_refl _)
  clear m1 h1 g1 b1 z1 hb
  have v3 : StAt (w1.alloc (.cells #[.slice bo m d] 25)) w1.heap.size m (qAt l s cs ms x 0) (.slice bo m d) := (qAt_some (l := l) (s := s) (cs := cs) (ms := ms) (x := x) (k := 0) rfl).symm ▸ v2.below (box_below w1 _)
  have r3 := RowsV.one (B := w0.heap.size) (f := qAt l s cs ms x) z2 v3
  have m3 := m2.alloc (.cells #[.slice bo m d] 25)
  have b3 := b2.alloc b2.size (.cells #[.slice bo m d] 25)
  have hz3 : w0.heap.size ≤ (w1.alloc (.cells #[.slice bo m d] 25)).heap.size := Nat.le_trans z2 (by simp)
  go_wp2_with fail
  clear c0 c1 c2 v2 v3 m2 b2
  generalize w1.alloc (.cells #[.slice bo m d] 25) = w3 at r3 m3 b3 hz3 ⊢
  clear z2
  have h3 := ha.keep b3
  go_loopw [11, 12, 13, 14, 38] (fun t11 _ _ _ i wr => ∃ (j n1 g cap : Nat) (vs : List Value), j ≤ K ∧ Hid (n1 = j + 1) ∧ i = .int .i64 j ∧ t11 = .slice (some ⟨g, 0, none⟩) n1 cap ∧ RowsV wr w0.heap.size g n1 cap m (qAt l s cs ms x) vs ∧ Hid ((qst l s cs ms x j).isSome = true) ∧ Below w0.heap.size w3 wr) (fun _ _ _ _ i _ => K - (intOf i).toNat)
  case atStart => exact ⟨0, 1, _, 1, _, Nat.zero_le _, rfl, rfl, rfl, r3, rfl, Below.refl _ _⟩
  case round =>
    clear r3
    obtain ⟨j, n1, g, cap, vs, hj, hn1, rfl, rfl, hR, hq, hbel⟩ := hrel
    have hbs := hbel.size
    have hn400 : n1 ≤ 401 := by have := hn1.out; omega
    have hwr : Below w.heap.size w wr := b3.trans (hbel.mono (Nat.le_of_lt z0))
    have hzr : w0.heap.size ≤ wr.heap.size := Nat.le_trans hz3 hbs
    by_cases hlt : j < K
    · obtain ⟨mj, hmj⟩ := Option.isSome_iff_exists.1 hq.out
      have HQ := Lib.hid hmj
      have HMj := Lib.hid (qst_mem HM.out j mj hmj)
      have hst := hR.at_ j (by have := hn1.out; omega)
      have hcr : wr.drew.cell? ⟨g, j, none⟩ = _ := hR.cell j (by have := hn1.out; omega)
      rw [qAt_some hmj] at hst
      obtain ⟨b1, off1, c1, hv, hsl⟩ := hst.slice hm20
      rw [hv] at hcr
      clear hst hv hmj hq
      have mr := m3.below hbel z0
      have d0 : wr.drew.cell? ⟨w.heap.size, 0, none⟩ = _ := mr.cell 0
      have d1 : wr.drew.cell? ⟨w.heap.size, 1, none⟩ = _ := mr.cell 1
      have d2 : wr.drew.cell? ⟨w.heap.size, 2, none⟩ = _ := mr.cell 2
      simp only [List.getElem?_toArray, List.getElem?_cons_zero, List.getElem?_cons_succ] at d0 d1 d2
      have hcs := (ha.keep hwr).more hwr.size
      have hglt := hR.lt
      have zw : w.heap.size < wr.drew.heap.size := Nat.lt_of_lt_of_le z0 hzr
      have zg : g < wr.drew.heap.size := hglt.2
      have e6 : (0 : Int) ≤ (j : Int) := by omega
      have e7 : (j : Int) < (n1 : Int) := by have := hn1.out; omega
      have e8 : IntKind.i64.wrap ((n1 : Int) - 1) = (j : Int) := by have := hn1.out; rw [IntWalk.i64_in _ (by omega)]; omega
      obtain ⟨Q1, Q2⟩ := qst_step (x := x) HM.out HX.out HQ.out
      cases hT : stB l s cs mj x
      · have HT := Lib.hid hT
        have hno := Lib.hid (qst_stop (K := K) (Q1 hT) hlt)
        clear Q1 Q2 hT
        go_wp2_with fail
        go_region_held3 (fun w' => w'.cell? ⟨w.heap.size, 0, none⟩ = some (.int .i64 l) ∧ w'.cell? ⟨w.heap.size, 1, none⟩ = some (.int .i64 s) ∧ w'.cell? ⟨w.heap.size, 2, none⟩ = some (.slice ao n c) ∧ w'.cell? ⟨g, j, none⟩ = some (.slice (some ⟨b1, off1, none⟩) m c1)) (go_keep) (first | (go_at_call 34; refine (step_i l s _ _ _ _ _ _ cs mj x wr.drew hcs.drew hsl.drew).mono ?_; rintro e w7 ⟨a7, n7, c7, rfl, o7, b7⟩; rw [HT.out]; replace d0 := (b7.cell (p := ⟨w.heap.size, 0, none⟩) zw).trans d0; replace d1 := (b7.cell (p := ⟨w.heap.size, 1, none⟩) zw).trans d1; replace d2 := (b7.cell (p := ⟨w.heap.size, 2, none⟩) zw).trans d2; replace hcr := (b7.cell (p := ⟨g, j, none⟩) zg).trans hcr))
        go_wp2_with fail
        go_ret3
        exact ret_quiet_no hno.out (hwr.drew.trans (b7.mono hwr.size))
      · have HT := Lib.hid hT
        have hnx := Lib.hid (Q2 hT)
        clear Q1 Q2 hT
        go_wp2_with fail
        go_region_held3 (fun w' => w'.cell? ⟨w.heap.size, 0, none⟩ = some (.int .i64 l) ∧ w'.cell? ⟨w.heap.size, 1, none⟩ = some (.int .i64 s) ∧ w'.cell? ⟨w.heap.size, 2, none⟩ = some (.slice ao n c) ∧ w'.cell? ⟨g, j, none⟩ = some (.slice (some ⟨b1, off1, none⟩) m c1)) (go_keep) (first | (go_at_call 34; refine (step_i l s _ _ _ _ _ _ cs mj x wr.drew hcs.drew hsl.drew).mono ?_; rintro e w7 ⟨a7, n7, c7, rfl, o7, b7⟩; rw [HT.out]; replace d0 := (b7.cell (p := ⟨w.heap.size, 0, none⟩) zw).trans d0; replace d1 := (b7.cell (p := ⟨w.heap.size, 1, none⟩) zw).trans d1; replace d2 := (b7.cell (p := ⟨w.heap.size, 2, none⟩) zw).trans d2; replace hcr := (b7.cell (p := ⟨g, j, none⟩) zg).trans hcr))
        have hl7 := qst_mem HM.out (j + 1) _ hnx.out
        have hm7 : n7 = m := by rw [← o7.len, (isMem_true hl7).2.1, ← (isMem_true HM.out).2.1]; exact hb_len.out
        subst hm7
        have R7 := (show RowsV wr.drew w0.heap.size g n1 cap n7 (qAt l s cs ms x) vs from ⟨hR.row, hR.at_⟩).below b7
        have v7 : StAt w7 g n7 (qAt l s cs ms x n1) (.slice a7 n7 c7) := by
          rw [hn1.out, qAt_some hnx.out]
          exact StAt.own o7 hm1 hm20 hglt.2
        have bx := box_below w7 (.cells #[.slice a7 n7 c7] 25)
        have z7 : w0.heap.size ≤ w7.heap.size := Nat.le_trans hzr b7.size
        have hb8 : Below w0.heap.size w3 w7 := hbel.drew.trans (b7.mono hzr)
        clear hl7 hcr d0 d1 d2 hsl hcs o7 mr hR
        go_wp2_with (at_builtin; refine wpList_state rfl _ _ rfl rfl (R7.below bx) w7.heap.size 1 (.slice a7 n7 c7) rfl (by simp [go_sem]) (v7.below bx) (by omega) (Nat.le_trans z7 bx.size) ?_)
        intro g9 cap9 w9 R9 b9
        have hb9 : Below w0.heap.size w3 w9 := (hb8.trans (bx.mono z7)).trans b9
        clear R7 v7 bx b9 hb8
        go_wp2_with fail
        go_roundw
        case rel => exact ⟨j + 1, n1 + 1, g9, cap9, _, by omega, (by show _ = _; rw [hn1.out]), by go_num, rfl, R9, (by show _ = _; rw [hnx.out]; rfl), hb9⟩
        case measure => simp [intOf]; omega
    · have hjK : j = K := by omega
      subst hjK
      have HO : Hid (quietOk l s cs ms x (j : Int)) := ⟨HM.out, HX.out, ⟨by omega, by omega⟩, by rw [Int.toNat_natCast]; exact hq.out⟩
      clear hq hj hlt
      obtain ⟨wo, rfl⟩ : ∃ wo : World, wo = wr := ⟨_, rfl⟩
      have hglt := hR.lt
      clear m3 h3 hbel hbs
      go_wp2_with fail
      go_loopw [15, 16, 17, 62] (fun _ _ _ ix wr => ∃ i : Nat, i ≤ n1 ∧ ix = .int .i64 i ∧ Hid (∀ a q, a < i → ¬ Comes (qAt l s cs ms x) j a q) ∧ Below wo.heap.size wo wr) (fun _ _ _ ix _ => n1 - (intOf ix).toNat)
      case atStart => exact ⟨0, Nat.zero_le _, rfl, fun a q h => absurd h (by omega), Below.refl _ _⟩
      case round =>
        obtain ⟨i, hi, rfl, hno, hbel⟩ := hrel
        by_cases hlt : i < n1
        · have hst := hR.at_ i hlt
          have hcr := (hbel.cell (p := ⟨g, i, none⟩) hglt.2).trans (hR.cell i hlt)
          obtain ⟨b1, off1, c1, hv, hsl⟩ := hst.slice hm20
          rw [hv] at hcr
          have HV := Lib.hid hv
          clear hst hv
          obtain ⟨w5, rfl⟩ : ∃ w5 : World, w5 = wr := ⟨_, rfl⟩
          have e6 : (0 : Int) ≤ (i : Int) := by omega
          have e7 : (i : Int) < (n1 : Int) := by omega
          go_wp2_with fail
          go_loopw [17] (fun pp wr => ∃ p : Nat, 1 ≤ p ∧ p ≤ n1 + 1 ∧ pp = .int .i64 p ∧ Hid (∀ q, q < p → ¬ Comes (qAt l s cs ms x) j i q) ∧ Below wo.heap.size wo wr) (fun pp _ => n1 + 1 - (intOf pp).toNat)
          case atStart => exact ⟨1, Nat.le_refl _, by omega, rfl, fun q h hc => by have := hc.1; omega, hbel⟩
          case round =>
            clear hbel hcr
            obtain ⟨p, hp1, hpn, rfl, hnp, hbel⟩ := hrel
            by_cases hip : i + p ≤ j
            · have hip1 : i + p < n1 := by have := hn1.out; omega
              have hcr : wr.cell? ⟨g, i, none⟩ = _ := (hbel.cell (p := ⟨g, i, none⟩) hglt.2).trans (hR.cell i hlt)
              rw [HV.out] at hcr
              have hst := hR.at_ (i + p) hip1
              have hcq : wr.cell? ⟨g, i + p, none⟩ = _ := (hbel.cell (p := ⟨g, i + p, none⟩) hglt.2).trans (hR.cell (i + p) hip1)
              obtain ⟨b2, off2, c2, hv, hsl2⟩ := hst.slice hm20
              rw [hv] at hcq
              clear hst hv
              have s1 := (hsl.keep hbel).more hbel.size
              have s2 := (hsl2.keep hbel).more hbel.size
              have e1 : ((i : Int) + (p : Int)).toNat = i + p := by omega
              have e2 : (0 : Int) ≤ (i : Int) + (p : Int) := by omega
              have e3 : (i : Int) + (p : Int) < (n1 : Int) := by omega
              have e4 : (i : Int) + (p : Int) ≤ (j : Int) := by omega
              have e8 : IntKind.i64.wrap ((i : Int) + (p : Int)) = (i : Int) + (p : Int) := IntWalk.i64_in _ (by omega)
              have hbs := hbel.size
              have hfin := hwr.trans (hbel.mono hwr.size)
              by_cases he : qAt l s cs ms x i = qAt l s cs ms x (i + p)
              · have HE : Hid (sameB (qAt l s cs ms x i) (qAt l s cs ms x (i + p)) = true) := by show _ = _; simp [sameB]; exact he
                have HF : Hid (QuietIs l s cs ms x (j : Int) (i : Int) (p : Int) true) := .inr ⟨rfl, HO.out, i, p, rfl, rfl, by rw [Int.toNat_natCast]; exact ⟨⟨hp1, hip, he⟩, fun a q h => by
                  rcases h with h | ⟨rfl, h⟩
                  · exact hno.out a q h
                  · exact hnp.out q h⟩⟩
                clear he
                go_wp2_with fail
                refine (equal_any _ _ _ _ _ _ _ _ s1 s2).mono ?_
                rw [HE.out]
                rintro e w8 ⟨rfl, b8⟩
                have hbel' := hbel.trans (b8.mono hbs)
                have hfin' := hfin.trans (b8.mono (Nat.le_trans hwr.size hbs))
                go_wp2_with fail
                go_ret3
                exact ⟨_, _, true, rfl, HF.out, hfin'⟩
              · have HE : Hid (sameB (qAt l s cs ms x i) (qAt l s cs ms x (i + p)) = false) := by show _ = _; simp [sameB]; exact he
                have hnp1 : Hid (∀ q, q < p + 1 → ¬ Comes (qAt l s cs ms x) j i q) := fun q h hc => by
                  by_cases e : q = p
                  · subst e; exact he hc.2.2
                  · exact hnp.out q (by omega) hc
                clear he
                go_wp2_with fail
                refine (equal_any _ _ _ _ _ _ _ _ s1 s2).mono ?_
                rw [HE.out]
                rintro e w8 ⟨rfl, b8⟩
                have hbel' := hbel.trans (b8.mono hbs)
                have hfin' := hfin.trans (b8.mono (Nat.le_trans hwr.size hbs))
                go_wp2_with fail
                go_roundw
                case rel => exact ⟨p + 1, by omega, by omega, by go_num, hnp1, hbel'⟩
                case measure => simp [intOf]; omega
            · have hno1 : Hid (∀ a q, a < i + 1 → ¬ Comes (qAt l s cs ms x) j a q) := fun a q h hc => by
                by_cases e : a = i
                · subst e; exact hnp.out q (by have := hc.2.1; omega) hc
                · exact hno.out a q (by omega) hc
              have e4 : ¬ (i : Int) + (p : Int) ≤ (j : Int) := by omega
              have e3 : ¬ (i : Int) + (p : Int) < (n1 : Int) := by have := hn1.out; omega
              have e8 : IntKind.i64.wrap ((i : Int) + (p : Int)) = (i : Int) + (p : Int) := IntWalk.i64_in _ (by omega)
              go_wp2_with fail
              go_roundw
              case rel => exact ⟨i + 1, by omega, by go_num, hno1, hbel⟩
              case measure => simp [intOf]; omega
        · have HF : Hid (QuietIs l s cs ms x (j : Int) 0 0 false) := .inl ⟨rfl, rfl, rfl, fun _ a q hc => hno.out a q (by rw [Int.toNat_natCast] at hc; have := hc.2.1; have := hc.1; have := hn1.out; omega) (by rw [Int.toNat_natCast] at hc; exact hc)⟩
          go_wp2_with fail
          go_ret3
          exact ⟨0, 0, false, rfl, HF.out, hwr.trans (hbel.mono hwr.size)⟩
set_option maxRecDepth 100000 in
set_option maxHeartbeats 3200000 in
theorem quiet_s (l s : Int) (ao bo : Option Addr) (n c m d : Nat) (cs ms : List Int) (x k : Int) (w : World) (ha : Sl w w.heap.size ao n c cs) (hb : Sl w w.heap.size bo m d ms) (hwx : Wf x) (hwk : Wf k) :
    Calls Try.prog 18 #[.agg #[.int .i64 l, .int .i64 s, .slice ao n c], .slice bo m d, .int .i64 x, .int .i64 k] w (RetQuiet w l s cs ms x k) := by
  have hm20 := hb.2.2.1
  obtain ⟨hwx0, hwx1⟩ := hwx
  obtain ⟨hwk0, hwk1⟩ := hwk
  cases hm : isMem l s cs ms
  · have hno := Lib.hid (show ¬ quietOk l s cs ms x k from fun h => by have := h.1; rw [hm] at this; cases this)
    go_enter Try.func18, Try.ntmps18
    have b0 := box_below w (.cells #[.int .i64 l, .int .i64 s, .slice ao n c] 27)
    have m0 := Blk.new w 27 #[.int .i64 l, .int .i64 s, .slice ao n c]
    have h0 := (ha.keep b0).more b0.size
    have g0 := (hb.keep b0).more b0.size
    have c0 := m0.cell 0
    have c1 := m0.cell 1
    have c2 := m0.cell 2
    simp at c0 c1 c2
    go_wp2_with fail
    generalize w.alloc (.cells #[.int .i64 l, .int .i64 s, .slice ao n c] 27) = w0 at b0 m0 h0 g0 c0 c1 c2 ⊢
    refine (isMem_s _ _ _ _ _ _ _ _ cs ms _ h0 g0).mono ?_
    rw [hm]
    rintro e w1 ⟨rfl, b⟩
    have b1 := then_then b0 b
    go_wp2_with fail
    go_ret3
    exact ret_quiet_no hno.out b1
  have HM := Lib.hid hm
  cases hx : sampleB x
  · have hno := Lib.hid (show ¬ quietOk l s cs ms x k from fun h => by have := h.2.1; rw [hx] at this; cases this)
    go_enter Try.func18, Try.ntmps18
    have b0 := box_below w (.cells #[.int .i64 l, .int .i64 s, .slice ao n c] 27)
    have m0 := Blk.new w 27 #[.int .i64 l, .int .i64 s, .slice ao n c]
    have h0 := (ha.keep b0).more b0.size
    have g0 := (hb.keep b0).more b0.size
    have c0 := m0.cell 0
    have c1 := m0.cell 1
    have c2 := m0.cell 2
    simp at c0 c1 c2
    go_wp2_with fail
    generalize w.alloc (.cells #[.int .i64 l, .int .i64 s, .slice ao n c] 27) = w0 at b0 m0 h0 g0 c0 c1 c2 ⊢
    refine (isMem_s _ _ _ _ _ _ _ _ cs ms _ h0 g0).mono ?_
    rw [hm]
    rintro e w1 ⟨rfl, b⟩
    have b1 := then_then b0 b
    go_wp2_with fail
    refine (sample_s _ _).mono ?_
    rw [hx]
    rintro e w' ⟨rfl, rfl⟩
    go_wp2_with fail
    go_ret3
    exact ret_quiet_no hno.out b1
  have HX := Lib.hid hx
  by_cases hk0 : k < 0
  · have hno := Lib.hid (show ¬ quietOk l s cs ms x k from fun h => by have := h.2.2.1; omega)
    go_enter Try.func18, Try.ntmps18
    have b0 := box_below w (.cells #[.int .i64 l, .int .i64 s, .slice ao n c] 27)
    have m0 := Blk.new w 27 #[.int .i64 l, .int .i64 s, .slice ao n c]
    have h0 := (ha.keep b0).more b0.size
    have g0 := (hb.keep b0).more b0.size
    have c0 := m0.cell 0
    have c1 := m0.cell 1
    have c2 := m0.cell 2
    simp at c0 c1 c2
    go_wp2_with fail
    generalize w.alloc (.cells #[.int .i64 l, .int .i64 s, .slice ao n c] 27) = w0 at b0 m0 h0 g0 c0 c1 c2 ⊢
    refine (isMem_s _ _ _ _ _ _ _ _ cs ms _ h0 g0).mono ?_
    rw [hm]
    rintro e w1 ⟨rfl, b⟩
    have b1 := then_then b0 b
    go_wp2_with fail
    refine (sample_s _ _).mono ?_
    rw [hx]
    rintro e w' ⟨rfl, rfl⟩
    skip
    go_wp2_with fail
    refine (in_s _ _ _ _).mono ?_
    rw [show (decide (0 ≤ k) && decide (k ≤ 400)) = false from by simp; omega]
    rintro e w' ⟨rfl, rfl⟩
    go_wp2_with fail
    go_ret3
    exact ret_quiet_no hno.out b1
  by_cases hk4 : 400 < k
  · have hno := Lib.hid (show ¬ quietOk l s cs ms x k from fun h => by have := h.2.2.1; omega)
    go_enter Try.func18, Try.ntmps18
    have b0 := box_below w (.cells #[.int .i64 l, .int .i64 s, .slice ao n c] 27)
    have m0 := Blk.new w 27 #[.int .i64 l, .int .i64 s, .slice ao n c]
    have h0 := (ha.keep b0).more b0.size
    have g0 := (hb.keep b0).more b0.size
    have c0 := m0.cell 0
    have c1 := m0.cell 1
    have c2 := m0.cell 2
    simp at c0 c1 c2
    go_wp2_with fail
    generalize w.alloc (.cells #[.int .i64 l, .int .i64 s, .slice ao n c] 27) = w0 at b0 m0 h0 g0 c0 c1 c2 ⊢
    refine (isMem_s _ _ _ _ _ _ _ _ cs ms _ h0 g0).mono ?_
    rw [hm]
    rintro e w1 ⟨rfl, b⟩
    have b1 := then_then b0 b
    go_wp2_with fail
    refine (sample_s _ _).mono ?_
    rw [hx]
    rintro e w' ⟨rfl, rfl⟩
    skip
    go_wp2_with fail
    refine (in_s _ _ _ _).mono ?_
    rw [show (decide (0 ≤ k) && decide (k ≤ 400)) = false from by simp; omega]
    rintro e w' ⟨rfl, rfl⟩
    go_wp2_with fail
    go_ret3
    exact ret_quiet_no hno.out b1
  obtain ⟨K, rfl⟩ := Int.eq_ofNat_of_zero_le (show 0 ≤ k by omega)
  have hK : K ≤ 400 := by omega
  clear hk0 hk4 hwk0 hwk1
  have hml := (isMem_true hm).2.1
  have hcl := (isMod_true (isMem_true hm).1).2.1
  have hlc := ha.len
  have hlm := hb.len
  have hm1 : 1 ≤ m := by omega
  have hm6 : m ≤ 6 := by have := (isMod_true (isMem_true hm).1).2.2.1; omega
  have hb_len : Hid (ms.length = m) := hb.len
  obtain rfl : m = n := by omega
  clear hml hcl hlc hlm
  go_enter Try.func18, Try.ntmps18
  have b0 := box_below w (.cells #[.int .i64 l, .int .i64 s, .slice ao m c] 27)
  have m0 := Blk.new w 27 #[.int .i64 l, .int .i64 s, .slice ao m c]
  have h0 := (ha.keep b0).more b0.size
  have g0 := (hb.keep b0).more b0.size
  have c0 := m0.cell 0
  have c1 := m0.cell 1
  have c2 := m0.cell 2
  simp at c0 c1 c2
  go_wp2_with fail
  generalize w.alloc (.cells #[.int .i64 l, .int .i64 s, .slice ao m c] 27) = w0 at b0 m0 h0 g0 c0 c1 c2 ⊢
  refine (isMem_s _ _ _ _ _ _ _ _ cs ms _ h0 g0).mono ?_
  rw [hm]
  rintro e w1 ⟨rfl, b⟩
  have b1 := then_then b0 b
  have m1 := m0.below b m0.lt
  have h1 := (h0.keep b).more b.size
  have g1 := (g0.keep b).more b.size
  have z0 : w.heap.size < w0.heap.size := m0.lt
  have z1 := b.size
  clear b c0 c1 c2 m0 h0 g0 b0
  have c0 := m1.cell 0
  have c1 := m1.cell 1
  have c2 := m1.cell 2
  simp at c0 c1 c2
  go_wp2_with fail
  refine (sample_s _ _).mono ?_
  rw [hx]
  rintro e w' ⟨rfl, rfl⟩
  clear hx hm
  go_wp2_with fail
  refine (in_s _ _ _ _).mono ?_
  rw [show (decide (0 ≤ ((K : Nat) : Int)) && decide (((K : Nat) : Int) ≤ 400)) = true from by simp; omega]
  rintro e w' ⟨rfl, rfl⟩
  go_wp2_with fail
  refine (copy_s _ _ _ ms _ g1).mono ?_
  rintro e w2 ⟨a2, d2, rfl, o2, b⟩
  have m2 := m1.below b m1.lt
  have b2 := then_then b1 b
  have z2 : w0.heap.size ≤ w2.heap.size := Nat.le_trans z1 b.size
  have v2 : StAt w2 w2.heap.size m ms (.slice a2 m d2) := StAt.of (o2.sl hm20) hm1 (Nat.le_refl _)
  clear m1 h1 g1 b1 b z1 c0 c1 c2 o2 hb
  have c0 := m2.cell 0
  have c1 := m2.cell 1
  have c2 := m2.cell 2
  simp at c0 c1 c2
  have v3 : StAt (w2.alloc (.cells #[.slice a2 m d2] 25)) w2.heap.size m (qAt l s cs ms x 0) (.slice a2 m d2) := (qAt_some (l := l) (s := s) (cs := cs) (ms := ms) (x := x) (k := 0) rfl).symm ▸ v2.below (box_below w2 _)
  have r3 := RowsV.one (B := w0.heap.size) (f := qAt l s cs ms x) z2 v3
  have m3 := m2.alloc (.cells #[.slice a2 m d2] 25)
  have b3 := b2.alloc b2.size (.cells #[.slice a2 m d2] 25)
  have hz3 : w0.heap.size ≤ (w2.alloc (.cells #[.slice a2 m d2] 25)).heap.size := Nat.le_trans z2 (by simp)
  go_wp2_with fail
  clear c0 c1 c2 v2 v3 m2 b2
  generalize w2.alloc (.cells #[.slice a2 m d2] 25) = w3 at r3 m3 b3 hz3 ⊢
  clear z2
  have h3 := ha.keep b3
  go_loopw [11, 12, 13, 14, 15] (fun t11 i _ _ _ wr => ∃ (j n1 g cap : Nat) (vs : List Value), j ≤ K ∧ Hid (n1 = j + 1) ∧ i = .int .i64 j ∧ t11 = .slice (some ⟨g, 0, none⟩) n1 cap ∧ RowsV wr w0.heap.size g n1 cap m (qAt l s cs ms x) vs ∧ Hid ((qst l s cs ms x j).isSome = true) ∧ Below w0.heap.size w3 wr) (fun _ i _ _ _ _ => K - (intOf i).toNat)
  case atStart => exact ⟨0, 1, _, 1, _, Nat.zero_le _, rfl, rfl, rfl, r3, rfl, Below.refl _ _⟩
  case round =>
    clear r3
    obtain ⟨j, n1, g, cap, vs, hj, hn1, rfl, rfl, hR, hq, hbel⟩ := hrel
    have hbs := hbel.size
    have hn400 : n1 ≤ 401 := by have := hn1.out; omega
    have hwr : Below w.heap.size w wr := b3.trans (hbel.mono (Nat.le_of_lt z0))
    have hzr : w0.heap.size ≤ wr.heap.size := Nat.le_trans hz3 hbs
    by_cases hlt : j < K
    · obtain ⟨mj, hmj⟩ := Option.isSome_iff_exists.1 hq.out
      have HQ := Lib.hid hmj
      have HMj := Lib.hid (qst_mem HM.out j mj hmj)
      have hst := hR.at_ j (by have := hn1.out; omega)
      have hcr : wr.drew.cell? ⟨g, j, none⟩ = _ := hR.cell j (by have := hn1.out; omega)
      rw [qAt_some hmj] at hst
      obtain ⟨b1, off1, c1, hv, hsl⟩ := hst.slice hm20
      rw [hv] at hcr
      clear hst hv hmj hq
      have mr := m3.below hbel z0
      have d0 : wr.drew.cell? ⟨w.heap.size, 0, none⟩ = _ := mr.cell 0
      have d1 : wr.drew.cell? ⟨w.heap.size, 1, none⟩ = _ := mr.cell 1
      have d2 : wr.drew.cell? ⟨w.heap.size, 2, none⟩ = _ := mr.cell 2
      simp only [List.getElem?_toArray, List.getElem?_cons_zero, List.getElem?_cons_succ] at d0 d1 d2
      have hcs := (ha.keep hwr).more hwr.size
      have hglt := hR.lt
      have zw : w.heap.size < wr.drew.heap.size := Nat.lt_of_lt_of_le z0 hzr
      have zg : g < wr.drew.heap.size := hglt.2
      have e6 : (0 : Int) ≤ (j : Int) := by omega
      have e7 : (j : Int) < (n1 : Int) := by have := hn1.out; omega
      obtain ⟨Q1, Q2⟩ := qst_step (x := x) HM.out HX.out HQ.out
      cases hT : stB l s cs mj x
      · have HT := Lib.hid hT
        have hno := Lib.hid (qst_stop (K := K) (Q1 hT) hlt)
        clear Q1 Q2 hT
        go_wp2_with fail
        go_region_held3 (fun w' => w'.cell? ⟨w.heap.size, 0, none⟩ = some (.int .i64 l) ∧ w'.cell? ⟨w.heap.size, 1, none⟩ = some (.int .i64 s) ∧ w'.cell? ⟨w.heap.size, 2, none⟩ = some (.slice ao m c) ∧ w'.cell? ⟨g, j, none⟩ = some (.slice (some ⟨b1, off1, none⟩) m c1)) (go_keep) (first | (go_at_call 61; refine (l3Step_s l s _ _ _ _ _ cs mj x wr.drew hcs.drew hsl.drew HMj.out HX.out).mono ?_; rintro e w7 ⟨a7, n7, c7, rfl, o7, b7⟩; rw [HT.out]; replace d0 := (b7.cell (p := ⟨w.heap.size, 0, none⟩) zw).trans d0; replace d1 := (b7.cell (p := ⟨w.heap.size, 1, none⟩) zw).trans d1; replace d2 := (b7.cell (p := ⟨w.heap.size, 2, none⟩) zw).trans d2; replace hcr := (b7.cell (p := ⟨g, j, none⟩) zg).trans hcr))
        go_wp2_with fail
        go_ret3
        exact ret_quiet_no hno.out (hwr.drew.trans (b7.mono hwr.size))
      · have HT := Lib.hid hT
        have hnx := Lib.hid (Q2 hT)
        clear Q1 Q2 hT
        go_wp2_with fail
        go_region_held3 (fun w' => w'.cell? ⟨w.heap.size, 0, none⟩ = some (.int .i64 l) ∧ w'.cell? ⟨w.heap.size, 1, none⟩ = some (.int .i64 s) ∧ w'.cell? ⟨w.heap.size, 2, none⟩ = some (.slice ao m c) ∧ w'.cell? ⟨g, j, none⟩ = some (.slice (some ⟨b1, off1, none⟩) m c1)) (go_keep) (first | (go_at_call 61; refine (l3Step_s l s _ _ _ _ _ cs mj x wr.drew hcs.drew hsl.drew HMj.out HX.out).mono ?_; rintro e w7 ⟨a7, n7, c7, rfl, o7, b7⟩; rw [HT.out]; replace d0 := (b7.cell (p := ⟨w.heap.size, 0, none⟩) zw).trans d0; replace d1 := (b7.cell (p := ⟨w.heap.size, 1, none⟩) zw).trans d1; replace d2 := (b7.cell (p := ⟨w.heap.size, 2, none⟩) zw).trans d2; replace hcr := (b7.cell (p := ⟨g, j, none⟩) zg).trans hcr))
        have hl7 := qst_mem HM.out (j + 1) _ hnx.out
        have hm7 : n7 = m := by rw [← o7.len, (isMem_true hl7).2.1, ← (isMem_true HM.out).2.1]; exact hb_len.out
        subst hm7
        have R7 := (show RowsV wr.drew w0.heap.size g n1 cap n7 (qAt l s cs ms x) vs from ⟨hR.row, hR.at_⟩).below b7
        have v7 : StAt w7 g n7 (qAt l s cs ms x n1) (.slice a7 n7 c7) := by
          rw [hn1.out, qAt_some hnx.out]
          exact StAt.own o7 hm1 hm20 hglt.2
        have bx := box_below w7 (.cells #[.slice a7 n7 c7] 25)
        have z7 : w0.heap.size ≤ w7.heap.size := Nat.le_trans hzr b7.size
        have hb8 : Below w0.heap.size w3 w7 := hbel.drew.trans (b7.mono hzr)
        clear hl7 hcr d0 d1 d2 hsl hcs o7 mr hR
        go_wp2_with (at_builtin; refine wpList_state rfl _ _ rfl rfl (R7.below bx) w7.heap.size 1 (.slice a7 n7 c7) rfl (by simp [go_sem]) (v7.below bx) (by omega) (Nat.le_trans z7 bx.size) ?_)
        intro g9 cap9 w9 R9 b9
        have hb9 : Below w0.heap.size w3 w9 := (hb8.trans (bx.mono z7)).trans b9
        clear R7 v7 bx b9 hb8
        go_wp2_with fail
        go_roundw
        case rel => exact ⟨j + 1, n1 + 1, g9, cap9, _, by omega, (by show _ = _; rw [hn1.out]), by go_num, rfl, R9, (by show _ = _; rw [hnx.out]; rfl), hb9⟩
        case measure => simp [intOf]; omega
    · have hjK : j = K := by omega
      subst hjK
      have HO : Hid (quietOk l s cs ms x (j : Int)) := ⟨HM.out, HX.out, ⟨by omega, by omega⟩, by rw [Int.toNat_natCast]; exact hq.out⟩
      clear hq hj hlt
      obtain ⟨wo, rfl⟩ : ∃ wo : World, wo = wr := ⟨_, rfl⟩
      have hglt := hR.lt
      clear m3 h3 hbel hbs
      go_wp2_with fail
      go_loopw [16, 17, 59] (fun _ _ ix wr => ∃ i : Nat, i ≤ n1 ∧ ix = .int .i64 i ∧ Hid (∀ a q, a < i → ¬ Comes (qAt l s cs ms x) j a q) ∧ Below wo.heap.size wo wr) (fun _ _ ix _ => n1 - (intOf ix).toNat)
      case atStart => exact ⟨0, Nat.zero_le _, rfl, fun a q h => absurd h (by omega), Below.refl _ _⟩
      case round =>
        obtain ⟨i, hi, rfl, hno, hbel⟩ := hrel
        by_cases hlt : i < n1
        · have hst := hR.at_ i hlt
          have hcr := (hbel.cell (p := ⟨g, i, none⟩) hglt.2).trans (hR.cell i hlt)
          obtain ⟨b1, off1, c1, hv, hsl⟩ := hst.slice hm20
          rw [hv] at hcr
          have HV := Lib.hid hv
          clear hst hv
          obtain ⟨w5, rfl⟩ : ∃ w5 : World, w5 = wr := ⟨_, rfl⟩
          have e6 : (0 : Int) ≤ (i : Int) := by omega
          have e7 : (i : Int) < (n1 : Int) := by omega
          go_wp2_with fail
          go_loopw [17] (fun pp wr => ∃ p : Nat, 1 ≤ p ∧ p ≤ n1 + 1 ∧ pp = .int .i64 p ∧ Hid (∀ q, q < p → ¬ Comes (qAt l s cs ms x) j i q) ∧ Below wo.heap.size wo wr) (fun pp _ => n1 + 1 - (intOf pp).toNat)
          case atStart => exact ⟨1, Nat.le_refl _, by omega, rfl, fun q h hc => by have := hc.1; omega, hbel⟩
          case round =>
            clear hbel hcr
            obtain ⟨p, hp1, hpn, rfl, hnp, hbel⟩ := hrel
            by_cases hip : i + p ≤ j
            · have hip1 : i + p < n1 := by have := hn1.out; omega
              have hcr : wr.drew.cell? ⟨g, i, none⟩ = _ := (hbel.cell (p := ⟨g, i, none⟩) hglt.2).trans (hR.cell i hlt)
              rw [HV.out] at hcr
              have hst := hR.at_ (i + p) hip1
              have hcq : wr.drew.cell? ⟨g, i + p, none⟩ = _ := (hbel.cell (p := ⟨g, i + p, none⟩) hglt.2).trans (hR.cell (i + p) hip1)
              obtain ⟨b2, off2, c2, hv, hsl2⟩ := hst.slice hm20
              rw [hv] at hcq
              clear hst hv
              have s1 := (hsl.keep hbel).more hbel.size
              have s2 := (hsl2.keep hbel).more hbel.size
              have e1 : ((i : Int) + (p : Int)).toNat = i + p := by omega
              have e2 : (0 : Int) ≤ (i : Int) + (p : Int) := by omega
              have e3 : (i : Int) + (p : Int) < (n1 : Int) := by omega
              have e4 : (i : Int) + (p : Int) ≤ (j : Int) := by omega
              have e8 : IntKind.i64.wrap ((i : Int) + (p : Int)) = (i : Int) + (p : Int) := IntWalk.i64_in _ (by omega)
              have hbs := hbel.size
              have hfin := hwr.trans (hbel.mono hwr.size)
              by_cases he : qAt l s cs ms x i = qAt l s cs ms x (i + p)
              · have HE : Hid (sameB (qAt l s cs ms x i) (qAt l s cs ms x (i + p)) = true) := by show _ = _; simp [sameB]; exact he
                have HF : Hid (QuietIs l s cs ms x (j : Int) (i : Int) (p : Int) true) := .inr ⟨rfl, HO.out, i, p, rfl, rfl, by rw [Int.toNat_natCast]; exact ⟨⟨hp1, hip, he⟩, fun a q h => by
                  rcases h with h | ⟨rfl, h⟩
                  · exact hno.out a q h
                  · exact hnp.out q h⟩⟩
                clear he
                have zg1 : g < wr.drew.heap.size := Nat.lt_of_lt_of_le hglt.2 hbs
                go_wp2_with fail
                go_region_held3 (fun w' => w'.cell? ⟨g, i, none⟩ = some (.slice (some ⟨b1, off1, none⟩) m c1) ∧ w'.cell? ⟨g, i + p, none⟩ = some (.slice (some ⟨b2, off2, none⟩) m c2)) (go_keep) (first | (go_at_call 62; refine (l3Equal_any _ _ _ _ _ _ _ wr.drew s1.drew s2.drew).mono ?_; rw [HE.out]; rintro e w8 ⟨rfl, b8⟩; have hbel' := hbel.drew.trans (b8.mono hbs); have hfin' := hfin.drew.trans (b8.mono (Nat.le_trans hwr.size hbs)); replace hcr := (b8.cell (p := ⟨g, i, none⟩) zg1).trans hcr; replace hcq := (b8.cell (p := ⟨g, i + p, none⟩) zg1).trans hcq))
                go_wp2_with fail
                go_ret3
                exact ⟨_, _, true, rfl, HF.out, hfin'⟩
              · have HE : Hid (sameB (qAt l s cs ms x i) (qAt l s cs ms x (i + p)) = false) := by show _ = _; simp [sameB]; exact he
                have hnp1 : Hid (∀ q, q < p + 1 → ¬ Comes (qAt l s cs ms x) j i q) := fun q h hc => by
                  by_cases e : q = p
                  · subst e; exact he hc.2.2
                  · exact hnp.out q (by omega) hc
                clear he
                have zg1 : g < wr.drew.heap.size := Nat.lt_of_lt_of_le hglt.2 hbs
                go_wp2_with fail
                go_region_held3 (fun w' => w'.cell? ⟨g, i, none⟩ = some (.slice (some ⟨b1, off1, none⟩) m c1) ∧ w'.cell? ⟨g, i + p, none⟩ = some (.slice (some ⟨b2, off2, none⟩) m c2)) (go_keep) (first | (go_at_call 62; refine (l3Equal_any _ _ _ _ _ _ _ wr.drew s1.drew s2.drew).mono ?_; rw [HE.out]; rintro e w8 ⟨rfl, b8⟩; have hbel' := hbel.drew.trans (b8.mono hbs); have hfin' := hfin.drew.trans (b8.mono (Nat.le_trans hwr.size hbs)); replace hcr := (b8.cell (p := ⟨g, i, none⟩) zg1).trans hcr; replace hcq := (b8.cell (p := ⟨g, i + p, none⟩) zg1).trans hcq))
                go_wp2_with fail
                go_roundw
                case rel => exact ⟨p + 1, by omega, by omega, by go_num, hnp1, hbel'⟩
                case measure => simp [intOf]; omega
            · have hno1 : Hid (∀ a q, a < i + 1 → ¬ Comes (qAt l s cs ms x) j a q) := fun a q h hc => by
                by_cases e : a = i
                · subst e; exact hnp.out q (by have := hc.2.1; omega) hc
                · exact hno.out a q (by omega) hc
              have e4 : ¬ (i : Int) + (p : Int) ≤ (j : Int) := by omega
              have e3 : ¬ (i : Int) + (p : Int) < (n1 : Int) := by have := hn1.out; omega
              have e8 : IntKind.i64.wrap ((i : Int) + (p : Int)) = (i : Int) + (p : Int) := IntWalk.i64_in _ (by omega)
              go_wp2_with fail
              go_roundw
              case rel => exact ⟨i + 1, by omega, by go_num, hno1, hbel⟩
              case measure => simp [intOf]; omega
        · have HF : Hid (QuietIs l s cs ms x (j : Int) 0 0 false) := .inl ⟨rfl, rfl, rfl, fun _ a q hc => hno.out a q (by rw [Int.toNat_natCast] at hc; have := hc.2.1; have := hc.1; have := hn1.out; omega) (by rw [Int.toNat_natCast] at hc; exact hc)⟩
          go_wp2_with fail
          go_ret3
          exact ⟨0, 0, false, rfl, HF.out, hwr.trans (hbel.mono hwr.size)⟩
end Go.Proofs.Ytmgjbldnohkodaa
