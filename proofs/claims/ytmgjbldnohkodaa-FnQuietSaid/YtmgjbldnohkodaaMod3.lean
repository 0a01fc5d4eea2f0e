/- The contracts of a step, of the program and of the reference. -/
import Derived.Test.YtmgjbldnohkodaaMod2
import Derived.Test.YtmgjbldnohkodaaPureL
namespace Go.Proofs.Ytmgjbldnohkodaa
open Go.RowKit
set_option linter.unusedVariables false

/-- What a step hands back. -/
def RetStep (w : World) (l s : Int) (cs ms : List Int) (x : Int) (e : Ending) (w' : World) : Prop :=
  ∃ ao n cap, e = .returned (.tuple #[.int .i64 (stepY l s cs ms x), .slice ao n cap, .bool (stB l s cs ms x)]) ∧ Own w' w.heap.size w'.heap.size ao n cap (stepM l s cs ms x) ∧ Below w.heap.size w w'
theorem ret_step_no {w w' : World} {l s x : Int} {cs ms : List Int} (h : stB l s cs ms x = false) (hw : Below w.heap.size w w') : RetStep w l s cs ms x (.returned (.tuple #[.int .i64 0, .slice none 0 0, .bool false])) w' :=
  ⟨none, 0, 0, by unfold stepY; rw [h]; rfl, by unfold stepM; rw [seqOr_no h]; exact Own.nil, hw⟩
theorem ret_step_yes {w w' : World} {l s x Y : Int} {cs ms : List Int} {ao : Option Addr} {n cap : Nat} (h : stB l s cs ms x = true) (hY : stY l s cs ms x = Y) (ho : Own w' w.heap.size w'.heap.size ao n cap (push ms (stE l s cs ms x))) (hw : Below w.heap.size w w') :
    RetStep w l s cs ms x (.returned (.tuple #[.int .i64 Y, .slice ao n cap, .bool true])) w' :=
  ⟨ao, n, cap, by unfold stepY; rw [h, hY]; rfl, by unfold stepM; rw [seqOr_yes h]; exact ho, hw⟩
theorem st_facts {l s x : Int} {cs ms : List Int} (h : isMem l s cs ms = true) (hx : sampleB x = true) :
    quant l s (x + fed cs ms) = stY l s cs ms x ∧ loud (x + fed cs ms) = false ∧ isQ l s = true := by
  have hv := stV_le h hx
  have hl : loud (x + fed cs ms) = false := by
    show loud (stV cs ms x) = false
    simp [loud]; omega
  exact ⟨quant_yes (isMod_true (isMem_true h).1).1 hl, hl, (isMod_true (isMem_true h).1).1⟩

set_option maxHeartbeats 1600000 in
theorem step_i (l s : Int) (ao bo : Option Addr) (n c m d : Nat) (cs ms : List Int) (x : Int) (w : World) (ha : Sl w w.heap.size ao n c cs) (hb : Sl w w.heap.size bo m d ms) :
    Calls Try.prog 34 #[.agg #[.int .i64 l, .int .i64 s, .slice ao n c], .slice bo m d, .int .i64 x] w (RetStep w l s cs ms x) := by
  have hm20 := hb.2.2.1
  cases hm : isMem l s cs ms
  · have hno := Lib.hid (stB_no (l := l) (s := s) (cs := cs) (ms := ms) (x := x) (.inl hm))
    go_enter Try.func34, Try.ntmps34
    have b0 := box_below w (.cells #[.int .i64 l, .int .i64 s, .slice ao n c] 27)
    have q0 := mbox_new w l s ao n c 27
    have h0 := ha.next b0
    have g0 := hb.next b0
    obtain ⟨c0, c1, c2, cz⟩ := q0
    go_wp2_with fail
    generalize w.alloc (.cells #[.int .i64 l, .int .i64 s, .slice ao n c] 27) = w0 at b0 c0 c1 c2 cz h0 g0 ⊢
    refine (isMem_i _ _ _ _ _ _ _ _ cs ms _ h0 g0).mono ?_
    rw [hm]
    rintro e w1 ⟨rfl, b⟩
    go_wp2_with fail
    go_ret3
    exact ret_step_no hno.out (then_then b0 b)
  · cases hx : sampleB x
    · have hno := Lib.hid (stB_no (l := l) (s := s) (cs := cs) (ms := ms) (x := x) (.inr (.inl hx)))
      go_enter Try.func34, Try.ntmps34
      have b0 := box_below w (.cells #[.int .i64 l, .int .i64 s, .slice ao n c] 27)
      have q0 := mbox_new w l s ao n c 27
      have h0 := ha.next b0
      have g0 := hb.next b0
      obtain ⟨c0, c1, c2, cz⟩ := q0
      go_wp2_with fail
      generalize w.alloc (.cells #[.int .i64 l, .int .i64 s, .slice ao n c] 27) = w0 at b0 c0 c1 c2 cz h0 g0 ⊢
      refine (isMem_i _ _ _ _ _ _ _ _ cs ms _ h0 g0).mono ?_
      rw [hm]
      rintro e w1 ⟨rfl, b⟩
      replace c0 := (b.cell (p := ⟨w.heap.size, 0, none⟩) cz).trans c0
      replace c1 := (b.cell (p := ⟨w.heap.size, 1, none⟩) cz).trans c1
      replace c2 := (b.cell (p := ⟨w.heap.size, 2, none⟩) cz).trans c2
      replace h0 := h0.next b
      replace g0 := g0.next b
      replace b0 := then_then b0 b
      replace cz := Nat.lt_of_lt_of_le cz b.size
      clear b
      go_wp2_with fail
      refine (sample_i _ _).mono ?_
      rw [hx]
      rintro e w' ⟨rfl, rfl⟩
      go_wp2_with fail
      go_ret3
      exact ret_step_no hno.out b0
    · obtain rfl : n = m := by have := (isMem_true hm).2.1; rw [ha.len, hb.len] at this; exact this.symm
      have HM := Lib.hid hm
      have HX := Lib.hid hx
      have hsf := st_facts hm hx
      have hn1 : 1 ≤ n := by have := (isMod_true (isMem_true hm).1).2.1; rw [ha.len] at this; exact this
      have hn6 : n ≤ 6 := by have := (isMod_true (isMem_true hm).1).2.2.1; rw [ha.len] at this; exact this
      have hxb := sampleB_true hx
      have hfb := fed_le hm
      have hyb := stY_le (s := s) (ms := ms) (x := x) (isMem_true hm).1
      obtain ⟨F, HF⟩ : ∃ F, Hid (fed cs ms = F) := ⟨_, rfl⟩
      obtain ⟨Y, HY⟩ : ∃ Y, Hid (stY l s cs ms x = Y) := ⟨_, rfl⟩
      have HE : Hid (stE l s cs ms x = Y - (x + F)) := by show _ = _; unfold stE stV; rw [HY.out, HF.out]
      rw [HF.out, HY.out] at hsf
      rw [HF.out] at hfb
      rw [HY.out] at hyb
      have HQ := Lib.hid hsf.1
      clear hsf
      go_enter Try.func34, Try.ntmps34
      have b0 := box_below w (.cells #[.int .i64 l, .int .i64 s, .slice ao n c] 27)
      have q0 := mbox_new w l s ao n c 27
      have h0 := ha.next b0
      have g0 := hb.next b0
      obtain ⟨c0, c1, c2, cz⟩ := q0
      go_wp2_with fail
      generalize w.alloc (.cells #[.int .i64 l, .int .i64 s, .slice ao n c] 27) = w0 at b0 c0 c1 c2 cz h0 g0 ⊢
      refine (isMem_i _ _ _ _ _ _ _ _ cs ms _ h0 g0).mono ?_
      rw [hm]
      rintro e w1 ⟨rfl, b⟩
      replace c0 := (b.cell (p := ⟨w.heap.size, 0, none⟩) cz).trans c0
      replace c1 := (b.cell (p := ⟨w.heap.size, 1, none⟩) cz).trans c1
      replace c2 := (b.cell (p := ⟨w.heap.size, 2, none⟩) cz).trans c2
      replace h0 := h0.next b
      replace g0 := g0.next b
      replace b0 := then_then b0 b
      replace cz := Nat.lt_of_lt_of_le cz b.size
      clear b
      go_wp2_with fail
      refine (sample_i _ _).mono ?_
      rw [hx]
      rintro e w' ⟨rfl, rfl⟩
      clear hm hx
      go_wp2_with fail
      refine (fed_i _ _ _ _ _ _ _ cs ms _ h0 g0 HM.out).mono ?_
      rw [HF.out]
      rintro e w2 ⟨rfl, b⟩
      replace c0 := (b.cell (p := ⟨w.heap.size, 0, none⟩) cz).trans c0
      replace c1 := (b.cell (p := ⟨w.heap.size, 1, none⟩) cz).trans c1
      replace c2 := (b.cell (p := ⟨w.heap.size, 2, none⟩) cz).trans c2
      replace h0 := h0.next b
      replace g0 := g0.next b
      replace b0 := then_then b0 b
      replace cz := Nat.lt_of_lt_of_le cz b.size
      clear b
      go_wp2_with fail
      refine (quant_i _ _ _ _).mono ?_
      rw [HQ.out]
      rintro e w3 ⟨rfl, b⟩
      replace c0 := (b.cell (p := ⟨w.heap.size, 0, none⟩) cz).trans c0
      replace c1 := (b.cell (p := ⟨w.heap.size, 1, none⟩) cz).trans c1
      replace c2 := (b.cell (p := ⟨w.heap.size, 2, none⟩) cz).trans c2
      replace h0 := h0.next b
      replace g0 := g0.next b
      replace b0 := then_then b0 b
      replace cz := Nat.lt_of_lt_of_le cz b.size
      clear b
      cases hE : sampleB (Y - (x + F))
      · have hno := Lib.hid (stB_no (l := l) (s := s) (cs := cs) (ms := ms) (x := x) (.inr (.inr (by rw [HE.out]; exact hE))))
        go_wp2_with fail
        refine (sample_i _ _).mono ?_
        rw [hE]
        rintro e w' ⟨rfl, rfl⟩
        go_wp2_with fail
        go_ret3
        exact ret_step_no hno.out b0
      · have hyes := Lib.hid (stB_yes HM.out HX.out (by rw [HE.out]; exact hE))
        go_wp2_with fail
        refine (sample_i _ _).mono ?_
        rw [hE]
        rintro e w' ⟨rfl, rfl⟩
        clear hE
        go_wp2_with fail
        refine (push_i _ _ _ ms _ _ g0 hn1 (by omega)).mono ?_
        rintro e w4 ⟨a4, d4, rfl, o4, b⟩
        have b4 := b0.trans (b.mono b0.size)
        go_wp2_with fail
        go_ret3
        refine ret_step_yes hyes.out HY.out ?_ b4
        rw [HE.out]
        exact o4.wide b0.size (Nat.le_refl _)
set_option maxHeartbeats 1600000 in
theorem l3Step_s (l s : Int) (ao bo : Option Addr) (n c d : Nat) (cs ms : List Int) (x : Int) (w : World) (ha : Sl w w.heap.size ao n c cs) (hb : Sl w w.heap.size bo n d ms) (hm : isMem l s cs ms = true) (hx : sampleB x = true) :
    Calls Try.prog 61 #[.agg #[.int .i64 l, .int .i64 s, .slice ao n c], .slice bo n d, .int .i64 x] w (RetStep w l s cs ms x) := by
  have HM := Lib.hid hm
  have HX := Lib.hid hx
  have hsf := st_facts hm hx
  have hn1 : 1 ≤ n := by have := (isMod_true (isMem_true hm).1).2.1; rw [ha.len] at this; exact this
  have hn6 : n ≤ 6 := by have := (isMod_true (isMem_true hm).1).2.2.1; rw [ha.len] at this; exact this
  have hxb := sampleB_true hx
  have hfb := fed_le hm
  have hyb := stY_le (s := s) (ms := ms) (x := x) (isMem_true hm).1
  obtain ⟨F, HF⟩ : ∃ F, Hid (fed cs ms = F) := ⟨_, rfl⟩
  obtain ⟨Y, HY⟩ : ∃ Y, Hid (stY l s cs ms x = Y) := ⟨_, rfl⟩
  have HE : Hid (stE l s cs ms x = Y - (x + F)) := by show _ = _; unfold stE stV; rw [HY.out, HF.out]
  rw [HF.out, HY.out] at hsf
  rw [HF.out] at hfb
  rw [HY.out] at hyb
  have HNL := Lib.hid hsf.2.1
  have HQQ := Lib.hid hsf.2.2
  have hii := idx_is (x + F) hsf.2.2
  have hLV : Hid (lev l s (idx l s (x + F)) = Y) := by show _ = _; rw [← HY.out]; unfold stY stV; rw [HF.out]
  obtain ⟨I, HI⟩ : ∃ I, Hid (idx l s (x + F) = I) := ⟨_, rfl⟩
  rw [HI.out] at hii
  have HL : Hid (lev l s I = Y) := by show _ = _; rw [← HI.out]; exact hLV.out
  have hi0 := hii.1
  have hi1 := hii.2.1
  clear hsf hii hLV
  clear hm hx
  go_enter Try.func61, Try.ntmps61
  have b0 := box_below w (.cells #[.int .i64 l, .int .i64 s, .slice ao n c] 27)
  have q0 := mbox_new w l s ao n c 27
  have h0 := ha.next b0
  have g0 := hb.next b0
  obtain ⟨c0, c1, c2, cz⟩ := q0
  go_wp2_with fail
  generalize w.alloc (.cells #[.int .i64 l, .int .i64 s, .slice ao n c] 27) = w0 at b0 c0 c1 c2 cz h0 g0 ⊢
  refine (fed_s _ _ _ _ _ _ _ cs ms _ h0 g0 HM.out).mono ?_
  rw [HF.out]
  rintro e w2 ⟨rfl, b⟩
  replace c0 := (b.cell (p := ⟨w.heap.size, 0, none⟩) cz).trans c0
  replace c1 := (b.cell (p := ⟨w.heap.size, 1, none⟩) cz).trans c1
  replace c2 := (b.cell (p := ⟨w.heap.size, 2, none⟩) cz).trans c2
  replace h0 := h0.next b
  replace g0 := g0.next b
  replace b0 := then_then b0 b
  replace cz := Nat.lt_of_lt_of_le cz b.size
  clear b
  have g0' := g0.drew
  have h0' := h0.drew
  replace b0 := b0.drew
  go_wp2_with fail
  go_region_held3 (fun w' => w'.cell? ⟨w.heap.size, 0, none⟩ = some (.int .i64 l) ∧ w'.cell? ⟨w.heap.size, 1, none⟩ = some (.int .i64 s)) (go_keep)
    (first | (go_at_call 85; refine (best_s _ _ _ _ HQQ.out HNL.out).mono ?_; rw [HI.out]; rintro e w3 ⟨rfl, b⟩; replace c0 := (b.cell (p := ⟨w.heap.size, 0, none⟩) cz).trans c0; replace c1 := (b.cell (p := ⟨w.heap.size, 1, none⟩) cz).trans c1; have g1 := g0'.next b; replace b0 := then_then b0 b; replace cz := Nat.lt_of_lt_of_le cz b.size; clear b) | (go_at_call 84; refine (level_s _ _ _ _ HQQ.out hi0 hi1).mono ?_; rw [HL.out]; rintro e w4 ⟨rfl, b⟩; replace c0 := (b.cell (p := ⟨w.heap.size, 0, none⟩) cz).trans c0; replace c1 := (b.cell (p := ⟨w.heap.size, 1, none⟩) cz).trans c1; have g2 := g1.next b; replace b0 := then_then b0 b; replace cz := Nat.lt_of_lt_of_le cz b.size; clear b))
  clear g0 h0 g0' h0' g1 c2
  have g0 := g2
  clear g2
  cases hE : sampleB (Y - (x + F))
  · have hno := Lib.hid (stB_no (l := l) (s := s) (cs := cs) (ms := ms) (x := x) (.inr (.inr (by rw [HE.out]; exact hE))))
    go_wp2_with fail
    refine (sample_s _ _).mono ?_
    rw [hE]
    rintro e w' ⟨rfl, rfl⟩
    go_wp2_with fail
    go_ret3
    exact ret_step_no hno.out b0
  · have hyes := Lib.hid (stB_yes HM.out HX.out (by rw [HE.out]; exact hE))
    go_wp2_with fail
    refine (sample_s _ _).mono ?_
    rw [hE]
    rintro e w' ⟨rfl, rfl⟩
    clear hE
    go_wp2_with fail
    refine (push_s _ _ _ ms _ _ g0 hn1 (by omega)).mono ?_
    rintro e w4 ⟨a4, d4, rfl, o4, b⟩
    have b4 := b0.trans (b.mono b0.size)
    go_wp2_with fail
    go_ret3
    refine ret_step_yes hyes.out HY.out ?_ b4
    rw [HE.out]
    exact o4.wide b0.size (Nat.le_refl _)
end Go.Proofs.Ytmgjbldnohkodaa
