/- The contracts of a run, of the program and of the reference. -/
import Derived.Test.YtmgjbldnohkodaaMod3
import Derived.Test.YtmgjbldnohkodaaDiff
namespace Go.Proofs.Ytmgjbldnohkodaa
open Go.RowKit
set_option linter.unusedVariables false

theorem run_all {l s : Int} {cs ms xs : List Int} {k : Nat} (hk : k ≤ xs.length) (h : runUpto l s cs ms xs k = none) : runUpto l s cs ms xs xs.length = none := by
  have := run_none h (xs.length - k)
  rwa [show k + (xs.length - k) = xs.length from by omega] at this
theorem push_head (ms : List Int) (e : Int) : (push ms e).getD 0 0 = e := rfl
theorem ret_run {w w' : World} {l s : Int} {cs ms xs : List Int} {r : RunS} {g1 n1 c1 g2 n2 c2 m d : Nat} {bo : Option Addr} (hB : runB l s cs ms xs = true) (hR : runR l s cs ms xs = r)
    (h1 : Own w' w.heap.size w'.heap.size (some ⟨g1, 0, none⟩) n1 c1 r.ys) (h2 : Own w' w.heap.size w'.heap.size (some ⟨g2, 0, none⟩) n2 c2 r.es) (h3 : Own w' w.heap.size w'.heap.size bo m d r.ms)
    (hne : g1 ≠ g2) (ha1 : Apart (some ⟨g1, 0, none⟩) bo) (ha2 : Apart (some ⟨g2, 0, none⟩) bo) (hw : Below w.heap.size w w') :
    RetOwn3B w (runY l s cs ms xs) (runE l s cs ms xs) (runM l s cs ms xs) (runB l s cs ms xs) (.returned (.tuple #[.slice (some ⟨g1, 0, none⟩) n1 c1, .slice (some ⟨g2, 0, none⟩) n2 c2, .slice bo m d, .bool true])) w' := by
  subst hR
  refine ⟨_, n1, c1, _, n2, c2, bo, m, d, by rw [hB], ?_, ?_, ?_, Apart.of rfl rfl hne, ha1, ha2, hw⟩
  · unfold runY; rw [seqOr_yes hB]; exact h1
  · unfold runE; rw [seqOr_yes hB]; exact h2
  · unfold runM; rw [seqOr_yes hB]; exact h3
theorem ret_run_no {w w' : World} {l s : Int} {cs ms xs : List Int} (hB : runB l s cs ms xs = false) (hw : Below w.heap.size w w') :
    RetOwn3B w (runY l s cs ms xs) (runE l s cs ms xs) (runM l s cs ms xs) (runB l s cs ms xs) (.returned (.tuple #[.slice none 0 0, .slice none 0 0, .slice none 0 0, .bool false])) w' := ret3_none hB hw
/-- Where a fresh row lies: not where an elder one does. -/
theorem apart_fresh {w' : World} {C m d g B2 : Nat} {bo : Option Addr} {ys : List Int} (h1 : g < B2) (h2 : Own w' B2 C bo m d ys) : Apart (some ⟨g, 0, none⟩) bo := by
  rcases h2.form with ⟨rfl, _⟩ | ⟨g', rfl, hB, _⟩
  · exact Apart.none_r
  · exact Apart.of rfl rfl (by omega)
theorem apart_grew {w w' : World} {g g1 : Nat} {bo : Option Addr} {B C m d : Nat} {ys : List Int} (hg : Grew w w' (some ⟨g, 0, none⟩) g1) (ha : Apart (some ⟨g, 0, none⟩) bo) (ho : Own w B C bo m d ys) : Apart (some ⟨g1, 0, none⟩) bo := by
  rcases ho.form with ⟨rfl, _⟩ | ⟨g', rfl, hB, hC, hlt, _⟩
  · exact Apart.none_r
  · exact Apart.of rfl rfl (grew_ne hg (ha _ _ rfl rfl) hlt)

set_option maxRecDepth 10000 in
set_option maxHeartbeats 4000000 in
theorem run_i (l s : Int) (ao bo xo : Option Addr) (n c m d N D : Nat) (cs ms xs : List Int) (w : World) (ha : Sl w w.heap.size ao n c cs) (hb : Sl w w.heap.size bo m d ms) (hx0 : Sl w w.heap.size xo N D xs) :
    Calls Try.prog 19 #[.agg #[.int .i64 l, .int .i64 s, .slice ao n c], .slice bo m d, .slice xo N D] w (RetOwn3B w (runY l s cs ms xs) (runE l s cs ms xs) (runM l s cs ms xs) (runB l s cs ms xs)) := by
  cases hm : isMem l s cs ms
  · have hno := Lib.hid (runB_no (l := l) (s := s) (cs := cs) (ms := ms) (xs := xs) (.inl hm))
    go_enter Try.func19, Try.ntmps19
    have b0 := box_below w (.cells #[.int .i64 l, .int .i64 s, .slice ao n c] 27)
    have q0 := mbox_new w l s ao n c 27
    have h0 := ha.next b0
    have g0 := hb.next b0
    have x0 := hx0.next b0
    obtain ⟨c0, c1, c2, cz⟩ := q0
    go_wp2_with fail
    generalize w.alloc (.cells #[.int .i64 l, .int .i64 s, .slice ao n c] 27) = w0 at b0 c0 c1 c2 cz h0 g0 x0 ⊢
    refine (isMem_i _ _ _ _ _ _ _ _ cs ms _ h0 g0).mono ?_
    rw [hm]
    rintro e w1 ⟨rfl, b⟩
    replace c0 := (b.cell (p := ⟨w.heap.size, 0, none⟩) cz).trans c0
    replace c1 := (b.cell (p := ⟨w.heap.size, 1, none⟩) cz).trans c1
    replace c2 := (b.cell (p := ⟨w.heap.size, 2, none⟩) cz).trans c2
    replace h0 := h0.next b
    replace g0 := g0.next b
    replace x0 := x0.next b
    replace b0 := then_then b0 b
    replace cz := Nat.lt_of_lt_of_le cz b.size
    clear b
    go_wp2_with fail
    exact bodyPost_ret (v := .tuple #[.slice none 0 0, .slice none 0 0, .slice none 0 0, .bool false]) (by simp [results, Try.results19, go_sem]) rfl (ret_run_no hno.out b0)
  · cases hx : isSeq xs
    · have hno := Lib.hid (runB_no (l := l) (s := s) (cs := cs) (ms := ms) (xs := xs) (.inr (.inl hx)))
      go_enter Try.func19, Try.ntmps19
      have b0 := box_below w (.cells #[.int .i64 l, .int .i64 s, .slice ao n c] 27)
      have q0 := mbox_new w l s ao n c 27
      have h0 := ha.next b0
      have g0 := hb.next b0
      have x0 := hx0.next b0
      obtain ⟨c0, c1, c2, cz⟩ := q0
      go_wp2_with fail
      generalize w.alloc (.cells #[.int .i64 l, .int .i64 s, .slice ao n c] 27) = w0 at b0 c0 c1 c2 cz h0 g0 x0 ⊢
      refine (isMem_i _ _ _ _ _ _ _ _ cs ms _ h0 g0).mono ?_
      rw [hm]
      rintro e w1 ⟨rfl, b⟩
      replace c0 := (b.cell (p := ⟨w.heap.size, 0, none⟩) cz).trans c0
      replace c1 := (b.cell (p := ⟨w.heap.size, 1, none⟩) cz).trans c1
      replace c2 := (b.cell (p := ⟨w.heap.size, 2, none⟩) cz).trans c2
      replace h0 := h0.next b
      replace g0 := g0.next b
      replace x0 := x0.next b
      replace b0 := then_then b0 b
      replace cz := Nat.lt_of_lt_of_le cz b.size
      clear b
      go_wp2_with fail
      refine (isSeq_i _ _ _ xs _ x0).mono ?_
      rw [hx]
      rintro e w' ⟨rfl, rfl⟩
      go_wp2_with fail
      exact bodyPost_ret (v := .tuple #[.slice none 0 0, .slice none 0 0, .slice none 0 0, .bool false]) (by simp [results, Try.results19, go_sem]) rfl (ret_run_no hno.out b0)
    · obtain rfl : n = m := by have := (isMem_true hm).2.1; rw [ha.len, hb.len] at this; exact this.symm
      have HLA := Lib.hid ha.len
      have HXL := Lib.hid hx0.len
      have HM := Lib.hid hm
      have HX := Lib.hid hx
      have hn1 : 1 ≤ n := by have := (isMod_true (isMem_true hm).1).2.1; rw [ha.len] at this; exact this
      have hn6 : n ≤ 6 := by have := (isMod_true (isMem_true hm).1).2.2.1; rw [ha.len] at this; exact this
      have hN : N ≤ 1000 := by have := isSeq_len hx; rw [hx0.len] at this; exact this
      go_enter Try.func19, Try.ntmps19
      have b0 := box_below w (.cells #[.int .i64 l, .int .i64 s, .slice ao n c] 27)
      have q0 := mbox_new w l s ao n c 27
      have h0 := ha.next b0
      have g0 := hb.next b0
      have x0 := hx0.next b0
      obtain ⟨c0, c1, c2, cz⟩ := q0
      go_wp2_with fail
      generalize w.alloc (.cells #[.int .i64 l, .int .i64 s, .slice ao n c] 27) = w0 at b0 c0 c1 c2 cz h0 g0 x0 ⊢
      refine (isMem_i _ _ _ _ _ _ _ _ cs ms _ h0 g0).mono ?_
      rw [hm]
      rintro e w1 ⟨rfl, b⟩
      replace c0 := (b.cell (p := ⟨w.heap.size, 0, none⟩) cz).trans c0
      replace c1 := (b.cell (p := ⟨w.heap.size, 1, none⟩) cz).trans c1
      replace c2 := (b.cell (p := ⟨w.heap.size, 2, none⟩) cz).trans c2
      replace h0 := h0.next b
      replace g0 := g0.next b
      replace x0 := x0.next b
      replace b0 := then_then b0 b
      replace cz := Nat.lt_of_lt_of_le cz b.size
      clear b
      clear hm
      go_wp2_with fail
      refine (isSeq_i _ _ _ xs _ x0).mono ?_
      rw [hx]
      rintro e w' ⟨rfl, rfl⟩
      clear hx
      go_wp2_with fail
      have o1 := (Own.empty w1 w.heap.size b0.size).alloc (.cells #[] 3)
      have o2 := Own.empty (w1.alloc (.cells #[] 3)) w.heap.size (Nat.le_trans b0.size (by simp))
      have hw2 : (w1.alloc (.cells #[] 3)).heap.size = w1.heap.size + 1 := by simp
      have q3 := ((show MBox w1 w.heap.size l s ao n c from ⟨c0, c1, c2, cz⟩).alloc (.cells #[] 3)).alloc (.cells #[] 3)
      have b3 := (b0.alloc b0.size (.cells #[] 3)).alloc (Nat.le_trans b0.size (by simp)) (.cells #[] 3)
      have g3 := (g0.next (box_below w1 (.cells #[] 3))).next (box_below _ (.cells #[] 3))
      rw [hw2] at o2
      clear hw2
      replace o1 := o1.wide (Nat.le_refl w.heap.size) (C' := ((w1.alloc (.cells #[] 3)).alloc (.cells #[] 3)).heap.size) (by simp)
      clear c0 c1 c2 h0 g0 x0
      generalize (w1.alloc (.cells #[] 3)).alloc (.cells #[] 3) = w3 at o1 o2 b3 q3 g3 ⊢
      refine (clone_any _ _ _ ms _ g3).mono ?_
      rintro e w4 ⟨a4, d4, rfl, o4, b⟩
      have o1' := (o1.keep b (Nat.le_refl _)).wide (Nat.le_refl _) b.size
      have o2' := (o2.keep b (Nat.le_refl _)).wide (Nat.le_refl _) b.size
      have ap1 := apart_fresh o1.at_.2.1 o4
      have ap2 := apart_fresh o2.at_.2.1 o4
      have o4' := o4.wide b3.size (Nat.le_refl _)
      have b4 := b3.trans (b.mono b3.size)
      have q4 := q3.next b
      clear o1 o2 o4 b3 q3 g3 b
      go_wp2_with fail
      go_loopw [10, 11, 12, 14, 15, 16, 17, 33] (fun lv er nw _ _ _ _ i wr => ∃ (j g1 k1 g2 k2 : Nat) (na : Option Addr) (nd : Nat) (r : RunS), j ≤ N ∧ i = .int .i64 j ∧ lv = .slice (some ⟨g1, 0, none⟩) j k1 ∧ er = .slice (some ⟨g2, 0, none⟩) j k2 ∧ nw = .slice na n nd ∧ Own wr w.heap.size wr.heap.size (some ⟨g1, 0, none⟩) j k1 r.ys ∧ Own wr w.heap.size wr.heap.size (some ⟨g2, 0, none⟩) j k2 r.es ∧ Own wr w.heap.size wr.heap.size na n nd r.ms ∧ g1 ≠ g2 ∧ Apart (some ⟨g1, 0, none⟩) na ∧ Apart (some ⟨g2, 0, none⟩) na ∧ g1 ≠ w.heap.size ∧ g2 ≠ w.heap.size ∧ Below w.heap.size w wr ∧ MBox wr w.heap.size l s ao n c ∧ Hid (runUpto l s cs ms xs j = some r)) (fun _ _ _ _ _ _ _ i _ => N - (intOf i).toNat)
      case atStart => exact ⟨0, _, 0, _, 0, a4, d4, ⟨[], [], ms⟩, Nat.zero_le _, rfl, rfl, rfl, rfl, o1', o2', o4', by omega, ap1, ap2, by omega, by omega, b4, q4, rfl⟩
      case round =>
        obtain ⟨j, g1, k1, g2, k2, na, nd, r, hj, rfl, rfl, rfl, rfl, hlv, her, hnw, hne, apn1, apn2, hgq1, hgq2, hbel, hqb, HR⟩ := hrel
        have hok := run_ok HM.out _ _ HR.out
        have HRM := Lib.hid hok.2.2.1
        have hrl1 := Lib.hid hok.1
        have hrl2 := Lib.hid hok.2.1
        have hml : Hid (n = r.ms.length) := by show _ = _; rw [(isMem_true hok.2.2.1).2.1, HLA.out]
        clear hok
        by_cases hlt : j < N
        · obtain ⟨b1, off1, rfl, hbl1, hc1⟩ := hx0.at_ (by omega)
          have hcx := (hbel.cell (p := ⟨b1, off1 + j, none⟩) hbl1).trans (hc1 j hlt)
          clear hc1
          have hbx := isSeq_at HX.out j
          have HXS := Lib.hid (sampleB_mk hbx.1 hbx.2)
          obtain ⟨c0, c1, c2, cz⟩ := hqb
          cases hE : sampleB (stE l s cs r.ms (xs.getD j 0))
          · have hno := Lib.hid (runB_no (l := l) (s := s) (cs := cs) (ms := ms) (xs := xs) (.inr (.inr (run_all (k := j + 1) (by rw [HXL.out]; omega) (run_fail HR.out hE)))))
            have hsB := Lib.hid (stB_no (l := l) (s := s) (cs := cs) (ms := r.ms) (x := xs.getD j 0) (.inr (.inr hE)))
            have hsY : Hid (stepY l s cs r.ms (xs.getD j 0) = 0) := by show _ = _; unfold stepY; rw [hsB.out]; rfl
            clear hE
            generalize xs.getD j 0 = x at hcx hbx HXS hsB hsY
            go_wp2_with fail
            refine (step_i _ _ _ _ _ _ _ _ cs r.ms _ _ ((ha.keep hbel).more hbel.size) (hnw.sl (by omega))).mono ?_
            rintro e w4 ⟨a4, m4, d4, rfl, o4, b⟩
            rw [hsB.out, hsY.out]
            have bel4 := hbel.trans (b.mono hbel.size)
            clear b c0 c1 c2
            go_wp2_with fail
            exact bodyPost_ret (v := .tuple #[.slice none 0 0, .slice none 0 0, .slice none 0 0, .bool false]) (by simp [results, Try.results19, go_sem]) rfl (ret_run_no hno.out bel4)
          · have HRN := Lib.hid (run_next HR.out hE)
            have hsB := stB_yes HRM.out HXS.out hE
            have hsY : Hid (stepY l s cs r.ms (xs.getD j 0) = stY l s cs r.ms (xs.getD j 0)) := by show _ = _; unfold stepY; rw [hsB]; rfl
            have hsM : Hid (stepM l s cs r.ms (xs.getD j 0) = push r.ms (stE l s cs r.ms (xs.getD j 0))) := by show _ = _; unfold stepM; rw [hsB]; rfl
            have HSB := Lib.hid hsB
            clear hE hsB
            obtain ⟨Y, hY⟩ : ∃ Y, Hid (stY l s cs r.ms (xs.getD j 0) = Y) := ⟨_, rfl⟩
            obtain ⟨E, hEE⟩ : ∃ E, Hid (stE l s cs r.ms (xs.getD j 0) = E) := ⟨_, rfl⟩
            rw [hY.out, hEE.out] at HRN
            rw [hY.out] at hsY
            rw [hEE.out] at hsM
            have hpl : Hid ((push r.ms E).length = n) := by show _ = _; rw [push_length E (by have := hml.out; omega), ← hml.out]
            generalize xs.getD j 0 = x at hcx hbx HXS HSB hsY hsM hY hEE
            go_wp2_with fail
            refine (step_i _ _ _ _ _ _ _ _ cs r.ms _ _ ((ha.keep hbel).more hbel.size) (hnw.sl (by omega))).mono ?_
            rintro e w4 ⟨a4, m4, d4, rfl, o4, b⟩
            rw [HSB.out, hsY.out]
            rw [hsM.out] at o4
            obtain rfl : n = m4 := by rw [← o4.len, hpl.out]
            obtain ⟨g4, rfl⟩ : ∃ g4, a4 = some ⟨g4, 0, none⟩ := by
              rcases o4.form with ⟨_, h, _⟩ | ⟨g4, h, _⟩
              · omega
              · exact ⟨g4, h⟩
            replace apn1 := apart_fresh hlv.at_.2.1 o4
            replace apn2 := apart_fresh her.at_.2.1 o4
            have lv4 := hlv.keep b (Nat.le_refl _)
            have er4 := her.keep b (Nat.le_refl _)
            have q4 := (show MBox wr w.heap.size l s ao n c from ⟨c0, c1, c2, cz⟩).next b
            have bel4 := hbel.trans (b.mono hbel.size)
            have sz4 := bel4.size
            have nw4 := o4.wide hbel.size (Nat.le_refl _)
            clear b c0 c1 c2 cz hcx hlv her hnw o4 hbel
            go_wp2_with (at_builtin; refine wpList_one rfl _ _ rfl rfl (lv4.alloc _) w4.heap.size 1 Y rfl (by simp [go_sem]) (by omega) (by simp; omega) ?_)
            intro g5 c5 w5 hown5 hg5
            have er5 := hg5.keep (er4.alloc _) (apart_of hne)
            have nw5 := hg5.keep (nw4.alloc _) apn1
            have q5 := (q4.alloc _).grew hg5 (fun a ea => by injection ea with ea; subst ea; exact hgq1)
            have ne5 := grew_ne hg5 hne (by have := er4.at_; simp; omega)
            have gq5 := grew_ne hg5 hgq1 (by have := q4.2.2.2; simp; omega)
            have ap5 := apart_grew hg5 apn1 (nw4.alloc _)
            have bel5 := (bel4.alloc sz4 _).trans (hg5.below (lv4.alloc _) (by simp; omega))
            have sz5 := bel5.size
            have hcn := nw5.cellsAt 0 (by omega)
            rw [push_head] at hcn
            have hw45 := hg5.by_.size
            clear lv4 er4 nw4 hg5 q4 bel4 sz4
            have hz54 : w4.heap.size ≤ w5.heap.size := Nat.le_trans (by simp) hw45
            go_wp2_with (at_builtin; refine wpList_one rfl _ _ rfl rfl (er5.alloc _) w5.heap.size 1 E rfl (by simp [go_sem]) (by omega) (by simp; omega) ?_)
            intro g6 c6 w6 hown6 hg6
            have lv6 := hg6.keep (hown5.alloc _) (apart_of (Ne.symm ne5))
            have nw6 := hg6.keep (nw5.alloc _) apn2
            have q6 := (q5.alloc _).grew hg6 (fun a ea => by injection ea with ea; subst ea; exact hgq2)
            have ne6 := grew_ne hg6 (Ne.symm ne5) (by have := hown5.at_; simp; omega)
            have gq6 := grew_ne hg6 hgq2 (by have := q5.2.2.2; simp; omega)
            have ap6 := apart_grew hg6 apn2 (nw5.alloc _)
            have bel6 := (bel5.alloc sz5 _).trans (hg6.below (er5.alloc _) (by simp; omega))
            have lv6' := lv6.wide (Nat.le_refl w.heap.size) (C' := w6.heap.size) (Nat.le_trans (by simp) hg6.by_.size)
            have nw6' := nw6.wide (Nat.le_refl w.heap.size) (C' := w6.heap.size) (Nat.le_trans (by omega) (Nat.le_trans hz54 (Nat.le_trans (by simp) hg6.by_.size)))
            clear hown5 er5 nw5 hg6 q5 bel5 sz5 lv6 nw6 hcn
            go_wp2_with fail
            go_roundw
            case rel => exact ⟨j + 1, g5, c5, g6, c6, _, d4, ⟨r.ys ++ [Y], r.es ++ [E], push r.ms E⟩, by omega, by go_num, rfl, rfl, rfl, lv6', hown6, nw6', Ne.symm ne6, ap5, ap6, gq5, gq6, bel6, q6, HRN.out⟩
            case measure => simp [intOf]; omega
        · have : j = N := by omega
          subst this
          have hfin := runB_yes HM.out HX.out (by rw [HXL.out]; exact HR.out)
          have HB1 := Lib.hid hfin.1
          have HB2 := Lib.hid hfin.2
          clear hfin
          go_wp2_with fail
          exact bodyPost_ret (v := .tuple #[.slice (some ⟨g1, 0, none⟩) j k1, .slice (some ⟨g2, 0, none⟩) j k2, .slice na n nd, .bool true]) (by simp [results, Try.results19, go_sem]) rfl (ret_run HB1.out HB2.out hlv her hnw hne apn1 apn2 hbel)
set_option maxRecDepth 10000 in
set_option maxHeartbeats 4000000 in
theorem run_s (l s : Int) (ao bo xo : Option Addr) (n c m d N D : Nat) (cs ms xs : List Int) (w : World) (ha : Sl w w.heap.size ao n c cs) (hb : Sl w w.heap.size bo m d ms) (hx0 : Sl w w.heap.size xo N D xs) :
    Calls Try.prog 21 #[.agg #[.int .i64 l, .int .i64 s, .slice ao n c], .slice bo m d, .slice xo N D] w (RetOwn3B w (runY l s cs ms xs) (runE l s cs ms xs) (runM l s cs ms xs) (runB l s cs ms xs)) := by
  cases hm : isMem l s cs ms
  · have hno := Lib.hid (runB_no (l := l) (s := s) (cs := cs) (ms := ms) (xs := xs) (.inl hm))
    go_enter Try.func21, Try.ntmps21
    have b0 := box_below w (.cells #[.int .i64 l, .int .i64 s, .slice ao n c] 27)
    have q0 := mbox_new w l s ao n c 27
    have h0 := ha.next b0
    have g0 := hb.next b0
    have x0 := hx0.next b0
    obtain ⟨c0, c1, c2, cz⟩ := q0
    go_wp2_with fail
    generalize w.alloc (.cells #[.int .i64 l, .int .i64 s, .slice ao n c] 27) = w0 at b0 c0 c1 c2 cz h0 g0 x0 ⊢
    refine (isMem_s _ _ _ _ _ _ _ _ cs ms _ h0 g0).mono ?_
    rw [hm]
    rintro e w1 ⟨rfl, b⟩
    replace c0 := (b.cell (p := ⟨w.heap.size, 0, none⟩) cz).trans c0
    replace c1 := (b.cell (p := ⟨w.heap.size, 1, none⟩) cz).trans c1
    replace c2 := (b.cell (p := ⟨w.heap.size, 2, none⟩) cz).trans c2
    replace h0 := h0.next b
    replace g0 := g0.next b
    replace x0 := x0.next b
    replace b0 := then_then b0 b
    replace cz := Nat.lt_of_lt_of_le cz b.size
    clear b
    go_wp2_with fail
    exact bodyPost_ret (v := .tuple #[.slice none 0 0, .slice none 0 0, .slice none 0 0, .bool false]) (by simp [results, Try.results21, go_sem]) rfl (ret_run_no hno.out b0)
  · cases hx : isSeq xs
    · have hno := Lib.hid (runB_no (l := l) (s := s) (cs := cs) (ms := ms) (xs := xs) (.inr (.inl hx)))
      go_enter Try.func21, Try.ntmps21
      have b0 := box_below w (.cells #[.int .i64 l, .int .i64 s, .slice ao n c] 27)
      have q0 := mbox_new w l s ao n c 27
      have h0 := ha.next b0
      have g0 := hb.next b0
      have x0 := hx0.next b0
      obtain ⟨c0, c1, c2, cz⟩ := q0
      go_wp2_with fail
      generalize w.alloc (.cells #[.int .i64 l, .int .i64 s, .slice ao n c] 27) = w0 at b0 c0 c1 c2 cz h0 g0 x0 ⊢
      refine (isMem_s _ _ _ _ _ _ _ _ cs ms _ h0 g0).mono ?_
      rw [hm]
      rintro e w1 ⟨rfl, b⟩
      replace c0 := (b.cell (p := ⟨w.heap.size, 0, none⟩) cz).trans c0
      replace c1 := (b.cell (p := ⟨w.heap.size, 1, none⟩) cz).trans c1
      replace c2 := (b.cell (p := ⟨w.heap.size, 2, none⟩) cz).trans c2
      replace h0 := h0.next b
      replace g0 := g0.next b
      replace x0 := x0.next b
      replace b0 := then_then b0 b
      replace cz := Nat.lt_of_lt_of_le cz b.size
      clear b
      go_wp2_with fail
      refine (isSeq_s _ _ _ xs _ x0).mono ?_
      rw [hx]
      rintro e w' ⟨rfl, rfl⟩
      go_wp2_with fail
      exact bodyPost_ret (v := .tuple #[.slice none 0 0, .slice none 0 0, .slice none 0 0, .bool false]) (by simp [results, Try.results21, go_sem]) rfl (ret_run_no hno.out b0)
    · obtain rfl : n = m := by have := (isMem_true hm).2.1; rw [ha.len, hb.len] at this; exact this.symm
      have HLA := Lib.hid ha.len
      have HXL := Lib.hid hx0.len
      have HM := Lib.hid hm
      have HX := Lib.hid hx
      have hn1 : 1 ≤ n := by have := (isMod_true (isMem_true hm).1).2.1; rw [ha.len] at this; exact this
      have hn6 : n ≤ 6 := by have := (isMod_true (isMem_true hm).1).2.2.1; rw [ha.len] at this; exact this
      have hN : N ≤ 1000 := by have := isSeq_len hx; rw [hx0.len] at this; exact this
      go_enter Try.func21, Try.ntmps21
      have b0 := box_below w (.cells #[.int .i64 l, .int .i64 s, .slice ao n c] 27)
      have q0 := mbox_new w l s ao n c 27
      have h0 := ha.next b0
      have g0 := hb.next b0
      have x0 := hx0.next b0
      obtain ⟨c0, c1, c2, cz⟩ := q0
      go_wp2_with fail
      generalize w.alloc (.cells #[.int .i64 l, .int .i64 s, .slice ao n c] 27) = w0 at b0 c0 c1 c2 cz h0 g0 x0 ⊢
      refine (isMem_s _ _ _ _ _ _ _ _ cs ms _ h0 g0).mono ?_
      rw [hm]
      rintro e w1 ⟨rfl, b⟩
      replace c0 := (b.cell (p := ⟨w.heap.size, 0, none⟩) cz).trans c0
      replace c1 := (b.cell (p := ⟨w.heap.size, 1, none⟩) cz).trans c1
      replace c2 := (b.cell (p := ⟨w.heap.size, 2, none⟩) cz).trans c2
      replace h0 := h0.next b
      replace g0 := g0.next b
      replace x0 := x0.next b
      replace b0 := then_then b0 b
      replace cz := Nat.lt_of_lt_of_le cz b.size
      clear b
      clear hm
      go_wp2_with fail
      refine (isSeq_s _ _ _ xs _ x0).mono ?_
      rw [hx]
      rintro e w' ⟨rfl, rfl⟩
      clear hx
      go_wp2_with fail
      refine (copy_s _ _ _ ms _ g0).mono ?_
      rintro e w4 ⟨a4, d4, rfl, o4, b⟩
      have o4' := o4.wide b0.size (Nat.le_refl _)
      have b3 := b0.trans (b.mono b0.size)
      have q3 := (show MBox w1 w.heap.size l s ao n c from ⟨c0, c1, c2, cz⟩).next b
      clear b c0 c1 c2 h0 g0 x0 o4
      go_wp2_with fail
      have o1 := (Own.empty w4 w.heap.size b3.size).alloc (.cells #[] 3)
      have o2 := Own.empty (w4.alloc (.cells #[] 3)) w.heap.size (Nat.le_trans b3.size (by simp))
      have hw2 : (w4.alloc (.cells #[] 3)).heap.size = w4.heap.size + 1 := by simp
      have q4 := (q3.alloc (.cells #[] 3)).alloc (.cells #[] 3)
      have b4 := (b3.alloc b3.size (.cells #[] 3)).alloc (Nat.le_trans b3.size (by simp)) (.cells #[] 3)
      have o4'' := ((o4'.alloc (.cells #[] 3)).alloc (.cells #[] 3)).wide (Nat.le_refl w.heap.size) (C' := ((w4.alloc (.cells #[] 3)).alloc (.cells #[] 3)).heap.size) (by simp; omega)
      rw [hw2] at o2
      clear hw2
      have ap1 : Apart (some ⟨w4.heap.size, 0, none⟩) a4 := fun x y e1 e2 => by injection e1 with e1; subst e1; have := o4'.2 y e2; simp; omega
      have ap2 : Apart (some ⟨w4.heap.size + 1, 0, none⟩) a4 := fun x y e1 e2 => by injection e1 with e1; subst e1; have := o4'.2 y e2; simp; omega
      replace o1 := o1.wide (Nat.le_refl w.heap.size) (C' := ((w4.alloc (.cells #[] 3)).alloc (.cells #[] 3)).heap.size) (by simp)
      have hz4 := q3.2.2.2
      generalize (w4.alloc (.cells #[] 3)).alloc (.cells #[] 3) = w5 at o1 o2 b4 q4 o4'' ⊢
      go_loopw [10, 11, 12, 14, 15, 16, 17, 33] (fun nw lv er _ _ _ _ i wr => ∃ (j g1 k1 g2 k2 : Nat) (na : Option Addr) (nd : Nat) (r : RunS), j ≤ N ∧ i = .int .i64 j ∧ lv = .slice (some ⟨g1, 0, none⟩) j k1 ∧ er = .slice (some ⟨g2, 0, none⟩) j k2 ∧ nw = .slice na n nd ∧ Own wr w.heap.size wr.heap.size (some ⟨g1, 0, none⟩) j k1 r.ys ∧ Own wr w.heap.size wr.heap.size (some ⟨g2, 0, none⟩) j k2 r.es ∧ Own wr w.heap.size wr.heap.size na n nd r.ms ∧ g1 ≠ g2 ∧ Apart (some ⟨g1, 0, none⟩) na ∧ Apart (some ⟨g2, 0, none⟩) na ∧ g1 ≠ w.heap.size ∧ g2 ≠ w.heap.size ∧ Below w.heap.size w wr ∧ MBox wr w.heap.size l s ao n c ∧ Hid (runUpto l s cs ms xs j = some r)) (fun _ _ _ _ _ _ _ i _ => N - (intOf i).toNat)
      case atStart => exact ⟨0, _, 0, _, 0, a4, d4, ⟨[], [], ms⟩, Nat.zero_le _, rfl, rfl, rfl, rfl, o1, o2, o4'', by omega, ap1, ap2, by omega, by omega, b4, q4, rfl⟩
      case round =>
        obtain ⟨j, g1, k1, g2, k2, na, nd, r, hj, rfl, rfl, rfl, rfl, hlv, her, hnw, hne, apn1, apn2, hgq1, hgq2, hbel, hqb, HR⟩ := hrel
        have hok := run_ok HM.out _ _ HR.out
        have HRM := Lib.hid hok.2.2.1
        have hrl1 := Lib.hid hok.1
        have hrl2 := Lib.hid hok.2.1
        have hml : Hid (n = r.ms.length) := by show _ = _; rw [(isMem_true hok.2.2.1).2.1, HLA.out]
        clear hok
        by_cases hlt : j < N
        · obtain ⟨b1, off1, rfl, hbl1, hc1⟩ := hx0.at_ (by omega)
          have hcx := (hbel.cell (p := ⟨b1, off1 + j, none⟩) hbl1).trans (hc1 j hlt)
          clear hc1
          have hbx := isSeq_at HX.out j
          have HXS := Lib.hid (sampleB_mk hbx.1 hbx.2)
          obtain ⟨c0, c1, c2, cz⟩ := hqb
          cases hE : sampleB (stE l s cs r.ms (xs.getD j 0))
          · have hno := Lib.hid (runB_no (l := l) (s := s) (cs := cs) (ms := ms) (xs := xs) (.inr (.inr (run_all (k := j + 1) (by rw [HXL.out]; omega) (run_fail HR.out hE)))))
            have hsB := Lib.hid (stB_no (l := l) (s := s) (cs := cs) (ms := r.ms) (x := xs.getD j 0) (.inr (.inr hE)))
            have hsY : Hid (stepY l s cs r.ms (xs.getD j 0) = 0) := by show _ = _; unfold stepY; rw [hsB.out]; rfl
            clear hE
            generalize xs.getD j 0 = x at hcx hbx HXS hsB hsY
            go_wp2_with fail
            refine (l3Step_s _ _ _ _ _ _ _ cs r.ms _ _ ((ha.keep hbel).more hbel.size) (hnw.sl (by omega)) HRM.out HXS.out).mono ?_
            rintro e w4 ⟨a4, m4, d4, rfl, o4, b⟩
            rw [hsB.out, hsY.out]
            have bel4 := hbel.trans (b.mono hbel.size)
            clear b c0 c1 c2
            go_wp2_with fail
            exact bodyPost_ret (v := .tuple #[.slice none 0 0, .slice none 0 0, .slice none 0 0, .bool false]) (by simp [results, Try.results21, go_sem]) rfl (ret_run_no hno.out bel4)
          · have HRN := Lib.hid (run_next HR.out hE)
            have hsB := stB_yes HRM.out HXS.out hE
            have hsY : Hid (stepY l s cs r.ms (xs.getD j 0) = stY l s cs r.ms (xs.getD j 0)) := by show _ = _; unfold stepY; rw [hsB]; rfl
            have hsM : Hid (stepM l s cs r.ms (xs.getD j 0) = push r.ms (stE l s cs r.ms (xs.getD j 0))) := by show _ = _; unfold stepM; rw [hsB]; rfl
            have HSB := Lib.hid hsB
            clear hE hsB
            obtain ⟨Y, hY⟩ : ∃ Y, Hid (stY l s cs r.ms (xs.getD j 0) = Y) := ⟨_, rfl⟩
            obtain ⟨E, hEE⟩ : ∃ E, Hid (stE l s cs r.ms (xs.getD j 0) = E) := ⟨_, rfl⟩
            rw [hY.out, hEE.out] at HRN
            rw [hY.out] at hsY
            rw [hEE.out] at hsM
            have hpl : Hid ((push r.ms E).length = n) := by show _ = _; rw [push_length E (by have := hml.out; omega), ← hml.out]
            generalize xs.getD j 0 = x at hcx hbx HXS HSB hsY hsM hY hEE
            go_wp2_with fail
            refine (l3Step_s _ _ _ _ _ _ _ cs r.ms _ _ ((ha.keep hbel).more hbel.size) (hnw.sl (by omega)) HRM.out HXS.out).mono ?_
            rintro e w4 ⟨a4, m4, d4, rfl, o4, b⟩
            rw [HSB.out, hsY.out]
            rw [hsM.out] at o4
            obtain rfl : n = m4 := by rw [← o4.len, hpl.out]
            obtain ⟨g4, rfl⟩ : ∃ g4, a4 = some ⟨g4, 0, none⟩ := by
              rcases o4.form with ⟨_, h, _⟩ | ⟨g4, h, _⟩
              · omega
              · exact ⟨g4, h⟩
            replace apn1 := apart_fresh hlv.at_.2.1 o4
            replace apn2 := apart_fresh her.at_.2.1 o4
            have lv4 := hlv.keep b (Nat.le_refl _)
            have er4 := her.keep b (Nat.le_refl _)
            have q4 := (show MBox wr w.heap.size l s ao n c from ⟨c0, c1, c2, cz⟩).next b
            have bel4 := hbel.trans (b.mono hbel.size)
            have sz4 := bel4.size
            have nw4 := o4.wide hbel.size (Nat.le_refl _)
            clear b c0 c1 c2 cz hcx hlv her hnw o4 hbel
            go_wp2_with (at_builtin; refine wpList_one rfl _ _ rfl rfl (lv4.alloc _) w4.heap.size 1 Y rfl (by simp [go_sem]) (by omega) (by simp; omega) ?_)
            intro g5 c5 w5 hown5 hg5
            have er5 := hg5.keep (er4.alloc _) (apart_of hne)
            have nw5 := hg5.keep (nw4.alloc _) apn1
            have q5 := (q4.alloc _).grew hg5 (fun a ea => by injection ea with ea; subst ea; exact hgq1)
            have ne5 := grew_ne hg5 hne (by have := er4.at_; simp; omega)
            have gq5 := grew_ne hg5 hgq1 (by have := q4.2.2.2; simp; omega)
            have ap5 := apart_grew hg5 apn1 (nw4.alloc _)
            have bel5 := (bel4.alloc sz4 _).trans (hg5.below (lv4.alloc _) (by simp; omega))
            have sz5 := bel5.size
            have hcn := nw5.cellsAt 0 (by omega)
            rw [push_head] at hcn
            have hw45 := hg5.by_.size
            clear lv4 er4 nw4 hg5 q4 bel4 sz4
            have hz54 : w4.heap.size ≤ w5.heap.size := Nat.le_trans (by simp) hw45
            go_wp2_with (at_builtin; refine wpList_one rfl _ _ rfl rfl (er5.alloc _) w5.heap.size 1 E rfl (by simp [go_sem]) (by omega) (by simp; omega) ?_)
            intro g6 c6 w6 hown6 hg6
            have lv6 := hg6.keep (hown5.alloc _) (apart_of (Ne.symm ne5))
            have nw6 := hg6.keep (nw5.alloc _) apn2
            have q6 := (q5.alloc _).grew hg6 (fun a ea => by injection ea with ea; subst ea; exact hgq2)
            have ne6 := grew_ne hg6 (Ne.symm ne5) (by have := hown5.at_; simp; omega)
            have gq6 := grew_ne hg6 hgq2 (by have := q5.2.2.2; simp; omega)
            have ap6 := apart_grew hg6 apn2 (nw5.alloc _)
            have bel6 := (bel5.alloc sz5 _).trans (hg6.below (er5.alloc _) (by simp; omega))
            have lv6' := lv6.wide (Nat.le_refl w.heap.size) (C' := w6.heap.size) (Nat.le_trans (by simp) hg6.by_.size)
            have nw6' := nw6.wide (Nat.le_refl w.heap.size) (C' := w6.heap.size) (Nat.le_trans (by omega) (Nat.le_trans hz54 (Nat.le_trans (by simp) hg6.by_.size)))
            clear hown5 er5 nw5 hg6 q5 bel5 sz5 lv6 nw6 hcn
            go_wp2_with fail
            go_roundw
            case rel => exact ⟨j + 1, g5, c5, g6, c6, _, d4, ⟨r.ys ++ [Y], r.es ++ [E], push r.ms E⟩, by omega, by go_num, rfl, rfl, rfl, lv6', hown6, nw6', Ne.symm ne6, ap5, ap6, gq5, gq6, bel6, q6, HRN.out⟩
            case measure => simp [intOf]; omega
        · have : j = N := by omega
          subst this
          have hfin := runB_yes HM.out HX.out (by rw [HXL.out]; exact HR.out)
          have HB1 := Lib.hid hfin.1
          have HB2 := Lib.hid hfin.2
          clear hfin
          go_wp2_with fail
          exact bodyPost_ret (v := .tuple #[.slice (some ⟨g1, 0, none⟩) j k1, .slice (some ⟨g2, 0, none⟩) j k2, .slice na n nd, .bool true]) (by simp [results, Try.results21, go_sem]) rfl (ret_run HB1.out HB2.out hlv her hnw hne apn1 apn2 hbel)
end Go.Proofs.Ytmgjbldnohkodaa
