/- The contracts of InputOf, of the program and of the reference. -/
import Derived.Test.YtmgjbldnohkodaaMod5
namespace Go.Proofs.Ytmgjbldnohkodaa
open Go.RowKit
set_option linter.unusedVariables false
theorem Sl.grew {w w' : World} {g g1 m d : Nat} {bo : Option Addr} {ys : List Int} (h : Sl w w.heap.size bo m d ys) (hg : Grew w w' (some ⟨g, 0, none⟩) g1) (ha : Apart (some ⟨g, 0, none⟩) bo) : Sl w' w'.heap.size bo m d ys :=
  ⟨h.1, h.2.1, h.2.2.1, fun hn => by
    obtain ⟨b, off, e, hb, hc⟩ := h.2.2.2 hn
    have hne := ha _ _ rfl e
    refine ⟨b, off, e, Nat.lt_of_lt_of_le hb hg.by_.size, fun i hi => ?_⟩
    exact (World.cell?_of_block (a := ⟨b, off + i, none⟩) (hg.by_.block b hb (fun e => by simp at e; simp at hne; exact hne e.symm))).trans (hc i hi)⟩
theorem apart_grewS {w w' : World} {g g1 m d : Nat} {bo : Option Addr} {ys : List Int} (hg : Grew w w' (some ⟨g, 0, none⟩) g1) (ha : Apart (some ⟨g, 0, none⟩) bo) (hs : Sl w w.heap.size bo m d ys) (hm : 0 < m) : Apart (some ⟨g1, 0, none⟩) bo := by
  obtain ⟨b, off, rfl, hb, _⟩ := hs.at_ hm
  have h1 := ha _ _ rfl rfl
  have h2 := grew_ne (g' := b) hg (by simpa using h1) hb
  intro x y e1 e2
  injection e1 with e1; injection e2 with e2
  subst e1 e2
  exact h2
theorem apart_elder {w : World} {g m d : Nat} {bo : Option Addr} {ys : List Int} {C : Nat} (hs : Sl w C bo m d ys) (hm : 0 < m) (hg : C ≤ g) : Apart (some ⟨g, 0, none⟩) bo := by
  obtain ⟨b, off, rfl, hb, _⟩ := hs.at_ hm
  intro x y e1 e2
  injection e1 with e1; injection e2 with e2
  subst e1 e2
  simp
  omega

set_option maxRecDepth 10000 in
set_option maxHeartbeats 4000000 in
theorem input_i (l s : Int) (ao bo yo eo : Option Addr) (n c m d N D N2 D2 : Nat) (cs ms ys es : List Int) (w : World) (ha : Sl w w.heap.size ao n c cs) (hb : Sl w w.heap.size bo m d ms) (hy0 : Sl w w.heap.size yo N D ys) (he0 : Sl w w.heap.size eo N2 D2 es) :
    Calls Try.prog 45 #[.agg #[.int .i64 l, .int .i64 s, .slice ao n c], .slice bo m d, .slice yo N D, .slice eo N2 D2] w (RetOwnB w (inV l s cs ms ys es) (inB l s cs ms ys es)) := by
  have hN20 := hy0.2.2.1
  have hE20 := he0.2.2.1
  cases hm : isMem l s cs ms
  · have hno := Lib.hid (inB_no (l := l) (s := s) (cs := cs) (ms := ms) (ys := ys) (es := es) (.inl hm))
    go_enter Try.func45, Try.ntmps45
    have b0 := box_below w (.cells #[.int .i64 l, .int .i64 s, .slice ao n c] 27)
    have q0 := mbox_new w l s ao n c 27
    have h0 := ha.next b0
    have g0 := hb.next b0
    have y0 := hy0.next b0
    have e0 := he0.next b0
    obtain ⟨c0, c1, c2, cz⟩ := q0
    go_wp2_with fail
    generalize w.alloc (.cells #[.int .i64 l, .int .i64 s, .slice ao n c] 27) = w0 at b0 c0 c1 c2 cz h0 g0 y0 e0 ⊢
    refine (isMem_i _ _ _ _ _ _ _ _ cs ms _ h0 g0).mono ?_
    rw [hm]
    rintro e w1 ⟨rfl, b⟩
    replace c0 := (b.cell (p := ⟨w.heap.size, 0, none⟩) cz).trans c0
    replace c1 := (b.cell (p := ⟨w.heap.size, 1, none⟩) cz).trans c1
    replace c2 := (b.cell (p := ⟨w.heap.size, 2, none⟩) cz).trans c2
    replace h0 := h0.next b
    replace g0 := g0.next b
    replace y0 := y0.next b
    replace e0 := e0.next b
    replace b0 := then_then b0 b
    replace cz := Nat.lt_of_lt_of_le cz b.size
    clear b
    go_wp2_with fail
    go_ret2
    exact ret_none' hno.out b0
  · cases hy : isSeq ys
    · have hno := Lib.hid (inB_no (l := l) (s := s) (cs := cs) (ms := ms) (ys := ys) (es := es) (.inr (.inl hy)))
      go_enter Try.func45, Try.ntmps45
      have b0 := box_below w (.cells #[.int .i64 l, .int .i64 s, .slice ao n c] 27)
      have q0 := mbox_new w l s ao n c 27
      have h0 := ha.next b0
      have g0 := hb.next b0
      have y0 := hy0.next b0
      have e0 := he0.next b0
      obtain ⟨c0, c1, c2, cz⟩ := q0
      go_wp2_with fail
      generalize w.alloc (.cells #[.int .i64 l, .int .i64 s, .slice ao n c] 27) = w0 at b0 c0 c1 c2 cz h0 g0 y0 e0 ⊢
      refine (isMem_i _ _ _ _ _ _ _ _ cs ms _ h0 g0).mono ?_
      rw [hm]
      rintro e w1 ⟨rfl, b⟩
      replace c0 := (b.cell (p := ⟨w.heap.size, 0, none⟩) cz).trans c0
      replace c1 := (b.cell (p := ⟨w.heap.size, 1, none⟩) cz).trans c1
      replace c2 := (b.cell (p := ⟨w.heap.size, 2, none⟩) cz).trans c2
      replace h0 := h0.next b
      replace g0 := g0.next b
      replace y0 := y0.next b
      replace e0 := e0.next b
      replace b0 := then_then b0 b
      replace cz := Nat.lt_of_lt_of_le cz b.size
      clear b
      go_wp2_with fail
      refine (isSeq_i _ _ _ ys _ y0).mono ?_
      rw [hy]
      rintro e w' ⟨rfl, rfl⟩
      go_wp2_with fail
      go_ret2
      exact ret_none' hno.out b0
    · cases he : isSeq es
      · have hno := Lib.hid (inB_no (l := l) (s := s) (cs := cs) (ms := ms) (ys := ys) (es := es) (.inr (.inr (.inl he))))
        go_enter Try.func45, Try.ntmps45
        have b0 := box_below w (.cells #[.int .i64 l, .int .i64 s, .slice ao n c] 27)
        have q0 := mbox_new w l s ao n c 27
        have h0 := ha.next b0
        have g0 := hb.next b0
        have y0 := hy0.next b0
        have e0 := he0.next b0
        obtain ⟨c0, c1, c2, cz⟩ := q0
        go_wp2_with fail
        generalize w.alloc (.cells #[.int .i64 l, .int .i64 s, .slice ao n c] 27) = w0 at b0 c0 c1 c2 cz h0 g0 y0 e0 ⊢
        refine (isMem_i _ _ _ _ _ _ _ _ cs ms _ h0 g0).mono ?_
        rw [hm]
        rintro e w1 ⟨rfl, b⟩
        replace c0 := (b.cell (p := ⟨w.heap.size, 0, none⟩) cz).trans c0
        replace c1 := (b.cell (p := ⟨w.heap.size, 1, none⟩) cz).trans c1
        replace c2 := (b.cell (p := ⟨w.heap.size, 2, none⟩) cz).trans c2
        replace h0 := h0.next b
        replace g0 := g0.next b
        replace y0 := y0.next b
        replace e0 := e0.next b
        replace b0 := then_then b0 b
        replace cz := Nat.lt_of_lt_of_le cz b.size
        clear b
        go_wp2_with fail
        refine (isSeq_i _ _ _ ys _ y0).mono ?_
        rw [hy]
        rintro e w' ⟨rfl, rfl⟩
        go_wp2_with fail
        refine (isSeq_i _ _ _ es _ e0).mono ?_
        rw [he]
        rintro e w' ⟨rfl, rfl⟩
        go_wp2_with fail
        go_ret2
        exact ret_none' hno.out b0
      · by_cases hNN : N = N2
        rotate_left
        · have hno := Lib.hid (inB_no (l := l) (s := s) (cs := cs) (ms := ms) (ys := ys) (es := es) (.inr (.inr (.inr (by rw [hy0.len, he0.len]; exact hNN)))))
          have hne : ((N : Int) != (N2 : Int)) = true := by rw [bne_iff_ne]; omega
          go_enter Try.func45, Try.ntmps45
          have b0 := box_below w (.cells #[.int .i64 l, .int .i64 s, .slice ao n c] 27)
          have q0 := mbox_new w l s ao n c 27
          have h0 := ha.next b0
          have g0 := hb.next b0
          have y0 := hy0.next b0
          have e0 := he0.next b0
          obtain ⟨c0, c1, c2, cz⟩ := q0
          go_wp2_with fail
          generalize w.alloc (.cells #[.int .i64 l, .int .i64 s, .slice ao n c] 27) = w0 at b0 c0 c1 c2 cz h0 g0 y0 e0 ⊢
          refine (isMem_i _ _ _ _ _ _ _ _ cs ms _ h0 g0).mono ?_
          rw [hm]
          rintro e w1 ⟨rfl, b⟩
          replace c0 := (b.cell (p := ⟨w.heap.size, 0, none⟩) cz).trans c0
          replace c1 := (b.cell (p := ⟨w.heap.size, 1, none⟩) cz).trans c1
          replace c2 := (b.cell (p := ⟨w.heap.size, 2, none⟩) cz).trans c2
          replace h0 := h0.next b
          replace g0 := g0.next b
          replace y0 := y0.next b
          replace e0 := e0.next b
          replace b0 := then_then b0 b
          replace cz := Nat.lt_of_lt_of_le cz b.size
          clear b
          go_wp2_with fail
          refine (isSeq_i _ _ _ ys _ y0).mono ?_
          rw [hy]
          rintro e w' ⟨rfl, rfl⟩
          go_wp2_with fail
          refine (isSeq_i _ _ _ es _ e0).mono ?_
          rw [he]
          rintro e w' ⟨rfl, rfl⟩
          go_wp2_with fail
          go_ret2
          exact ret_none' hno.out b0
        · subst hNN
          obtain rfl : n = m := by have := (isMem_true hm).2.1; rw [ha.len, hb.len] at this; exact this.symm
          have hne : ((N : Int) != (N : Int)) = false := by simp
          have HM := Lib.hid hm
          have HYS := Lib.hid hy
          have HES := Lib.hid he
          have HB := Lib.hid (inB_mk hm hy he (by rw [hy0.len, he0.len]))
          have HL : Hid (inL cs ms ys es = tab (inF cs ms ys es) N) := by show _ = _; unfold inL; rw [hy0.len]
          have hn1 : 1 ≤ n := by have := (isMod_true (isMem_true hm).1).2.1; rw [ha.len] at this; exact this
          have hn6 : n ≤ 6 := by have := (isMod_true (isMem_true hm).1).2.2.1; rw [ha.len] at this; exact this
          have hN : N ≤ 1000 := by have := isSeq_len hy; rw [hy0.len] at this; exact this
          go_enter Try.func45, Try.ntmps45
          have b0 := box_below w (.cells #[.int .i64 l, .int .i64 s, .slice ao n c] 27)
          have q0 := mbox_new w l s ao n c 27
          have h0 := ha.next b0
          have g0 := hb.next b0
          have y0 := hy0.next b0
          have e0 := he0.next b0
          obtain ⟨c0, c1, c2, cz⟩ := q0
          go_wp2_with fail
          generalize w.alloc (.cells #[.int .i64 l, .int .i64 s, .slice ao n c] 27) = w0 at b0 c0 c1 c2 cz h0 g0 y0 e0 ⊢
          refine (isMem_i _ _ _ _ _ _ _ _ cs ms _ h0 g0).mono ?_
          rw [hm]
          rintro e w1 ⟨rfl, b⟩
          replace c0 := (b.cell (p := ⟨w.heap.size, 0, none⟩) cz).trans c0
          replace c1 := (b.cell (p := ⟨w.heap.size, 1, none⟩) cz).trans c1
          replace c2 := (b.cell (p := ⟨w.heap.size, 2, none⟩) cz).trans c2
          replace h0 := h0.next b
          replace g0 := g0.next b
          replace y0 := y0.next b
          replace e0 := e0.next b
          replace b0 := then_then b0 b
          replace cz := Nat.lt_of_lt_of_le cz b.size
          clear b
          go_wp2_with fail
          clear hm
          refine (isSeq_i _ _ _ ys _ y0).mono ?_
          rw [hy]
          rintro e w' ⟨rfl, rfl⟩
          go_wp2_with fail
          refine (isSeq_i _ _ _ es _ e0).mono ?_
          rw [he]
          rintro e w' ⟨rfl, rfl⟩
          go_wp2_with fail
          clear hy he hne
          have o1 := Own.empty w1 w.heap.size b0.size
          have b1 := b0.alloc b0.size (.cells #[] 3)
          have q1 := (show MBox w1 w.heap.size l s ao n c from ⟨c0, c1, c2, cz⟩).alloc (.cells #[] 3)
          have m1 := g0.next (box_below w1 (.cells #[] 3))
          have hgq0 : w1.heap.size ≠ w.heap.size := by omega
          have apn0 := apart_elder g0 (show 0 < n by omega) (Nat.le_refl w1.heap.size)
          clear c0 c1 c2 h0 g0 y0 e0
          go_loopw [1, 10, 11, 12, 37] (fun nw out _ _ i wr => ∃ (j g cap : Nat) (na : Option Addr) (nd : Nat), j ≤ N ∧ i = .int .i64 j ∧ out = .slice (some ⟨g, 0, none⟩) j cap ∧ nw = .slice na n nd ∧ Own wr w.heap.size wr.heap.size (some ⟨g, 0, none⟩) j cap (tab (inF cs ms ys es) j) ∧ Sl wr wr.heap.size na n nd (inMs ms es j) ∧ Apart (some ⟨g, 0, none⟩) na ∧ g ≠ w.heap.size ∧ Below w.heap.size w wr ∧ MBox wr w.heap.size l s ao n c) (fun _ _ _ _ i _ => N - (intOf i).toNat)
          case atStart => exact ⟨0, _, 0, bo, d, Nat.zero_le _, rfl, rfl, rfl, o1, m1, apn0, hgq0, b1, q1⟩
          case round =>
            obtain ⟨j, g, cap, na, nd, hj, rfl, rfl, rfl, hown, hnw, apn, hgq, hbel, hqb⟩ := hrel
            have HRM := Lib.hid (inMs_mem HM.out HES.out j)
            have hfb := fed_le HRM.out
            obtain ⟨F, HF⟩ : ∃ F, Hid (fed cs (inMs ms es j) = F) := ⟨_, rfl⟩
            rw [HF.out] at hfb
            by_cases hlt : j < N
            · obtain ⟨by1, oy1, rfl, hby, hcy0⟩ := hy0.at_ (by omega)
              obtain ⟨be1, oe1, rfl, hbe, hce0⟩ := he0.at_ (by omega)
              have hcy := (hbel.cell (p := ⟨by1, oy1 + j, none⟩) hby).trans (hcy0 j hlt)
              have hce := (hbel.cell (p := ⟨be1, oe1 + j, none⟩) hbe).trans (hce0 j hlt)
              have Hcy := Lib.hid (hcy0 j hlt)
              have Hce := Lib.hid (hce0 j hlt)
              clear hcy0 hce0
              have hyb := isSeq_at HYS.out j
              have heb := isSeq_at HES.out j
              have hts : Hid (tab (inF cs ms ys es) (j + 1) = tab (inF cs ms ys es) j ++ [ys.getD j 0 - es.getD j 0 - F]) := by show _ = _; rw [tab_succ, ← HF.out]; rfl
              have hns : Hid (inMs ms es (j + 1) = push (inMs ms es j) (es.getD j 0)) := rfl
              generalize ys.getD j 0 = Y at hcy hyb hts Hcy
              generalize es.getD j 0 = E at hce heb hts hns Hce
              have hsz := hbel.size
              have e1 : IntKind.i64.wrap (Y - E) = Y - E := IntWalk.i64_in _ (by omega)
              have e2 : IntKind.i64.wrap (Y - E - F) = Y - E - F := IntWalk.i64_in _ (by omega)
              have hj0 : (0 : Int) ≤ (j : Int) := Int.natCast_nonneg _
              have hj1 : (j : Int) < (N : Int) := by omega
              obtain ⟨c0, c1, c2, cz⟩ := hqb
              have hown0 := hown.drew
              have hnw0 := hnw.drew
              have hbel0 := hbel.drew
              have q0 : MBox wr.drew w.heap.size l s (ao) n c := ⟨c0, c1, c2, cz⟩
              go_wp2_with fail
              go_region_held3 (fun w' => w'.cell? ⟨w.heap.size, 0, none⟩ = some (.int .i64 l) ∧ w'.cell? ⟨w.heap.size, 1, none⟩ = some (.int .i64 s) ∧ w'.cell? ⟨w.heap.size, 2, none⟩ = some (.slice ao n c) ∧ w'.cell? ⟨by1, oy1 + j, none⟩ = some (.int .i64 Y) ∧ w'.cell? ⟨be1, oe1 + j, none⟩ = some (.int .i64 E)) (go_keep)
                (first | (go_at_call 71; refine (fed_i l s _ _ _ _ _ cs (inMs ms es j) _ ((ha.keep hbel0).more hbel0.size) hnw0 HRM.out).mono ?_; rw [HF.out]; rintro e w2 ⟨rfl, b⟩; have q2 := q0.next b; have hbel2 := hbel0.trans (b.mono hbel0.size); have hown2 := hown0.keep b (Nat.le_refl _); have hnw2 := hnw0.next b; have hsz2 := hbel2.size; have d0 := q2.1; have d1 := q2.2.1; have d2 := q2.2.2.1; have d3 := (hbel2.cell (p := ⟨by1, oy1 + j, none⟩) hby).trans Hcy.out; have d4 := (hbel2.cell (p := ⟨be1, oe1 + j, none⟩) hbe).trans Hce.out; clear b) | (refine step_one (by rfl) _ _ (by rfl) (by rfl) (hown2.alloc _) w2.heap.size 1 (Y - E - F) (by rfl) (by simp [go_sem]) (by omega) (by simp; omega) ?_; intro g1 cap1 w3 hown3 hg3; have hbel3 := (hbel2.alloc hsz2 _).trans (hg3.below (hown2.alloc _) (by simp; omega)); have q3 := (q2.alloc _).grew hg3 (fun a ea => by injection ea with ea; subst ea; exact hgq); have f0 := q3.1; have f1 := q3.2.1; have f2 := q3.2.2.1; have f3 := (hbel3.cell (p := ⟨by1, oy1 + j, none⟩) hby).trans Hcy.out; have f4 := (hbel3.cell (p := ⟨be1, oe1 + j, none⟩) hbe).trans Hce.out))
              rw [← hts.out] at hown3
              have hgq3 := grew_ne hg3 hgq (by have := q2.2.2.2; simp; omega)
              have sl2 := hnw2.next (box_below w2 (.cells #[.int .i64 (Y - E - F)] 3))
              have nw3 := sl2.grew hg3 apn
              have ap3 := apart_grewS hg3 apn sl2 (by omega)
              clear hown hown0 hown2 hnw hnw0 hnw2 hbel hbel0 hbel2 q0 q2 c0 c1 c2 cz d0 d1 d2 d3 d4 f0 f1 f2 f3 hcy hce e1 e2 hg3 sl2 hsz2 apn
              go_wp2_with fail
              refine (push_i _ _ _ (inMs ms es j) _ _ nw3 hn1 (by omega)).mono ?_
              rintro e w4 ⟨a4, d4, rfl, o4, b⟩
              have ap4 := apart_fresh hown3.at_.2.1 o4
              have hown4 := (hown3.keep b (Nat.le_refl _)).wide (Nat.le_refl _) b.size
              have hbel4 := hbel3.trans (b.mono hbel3.size)
              have q4 := q3.next b
              have nw4 := o4.sl (show n ≤ 1048576 by omega)
              rw [← hns.out] at nw4
              clear hown3 nw3 ap3 o4 b q3 hbel3 f4 Hcy Hce
              go_wp2_with fail
              go_roundw
              case rel => exact ⟨j + 1, g1, cap1, a4, d4, by omega, by go_num, rfl, rfl, hown4, nw4, ap4, hgq3, hbel4, q4⟩
              case measure => simp [intOf]; omega
            · have : j = N := by omega
              subst this
              rw [← HL.out] at hown
              cases hs : isSeq (inL cs ms ys es)
              · have hno := Lib.hid (HB.out.trans hs)
                go_wp2_with fail
                refine (asSeq_f _ _ _ _ _ (hown.sl (by omega)) hs).mono ?_
                rintro e w' ⟨rfl, rfl⟩
                go_wp2_with fail
                go_ret2
                exact ret_none' hno.out hbel
              · have hyes := Lib.hid (HB.out.trans hs)
                go_wp2_with fail
                refine (asSeq_t _ _ _ _ _ (hown.sl (by omega)) hs).mono ?_
                rintro e w' ⟨rfl, rfl⟩
                go_wp2_with fail
                go_ret2
                exact ret_list hyes.out hown hbel
end Go.Proofs.Ytmgjbldnohkodaa
