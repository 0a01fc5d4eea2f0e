/- The contracts of QuantiseSequence and BitsOf, of the program and of the reference. -/
import Derived.Test.YtmgjbldnohkodaaPureL
import Derived.Test.YtmgjbldnohkodaaQuant3
import Derived.Test.YtmgjbldnohkodaaSeqOps
import Derived.Test.YtmgjbldnohkodaaTwo
namespace Go.Proofs.Ytmgjbldnohkodaa
open Go.RowKit
set_option linter.unusedVariables false

/-- A quantiser lies in block C. -/
def QBox (w : World) (C : Nat) (l s : Int) : Prop := w.cell? ⟨C, 0, none⟩ = some (.int .i64 l) ∧ w.cell? ⟨C, 1, none⟩ = some (.int .i64 s) ∧ C < w.heap.size
section
variable {w w' : World} {C D : Nat} {l s : Int}
theorem QBox.keep (h : QBox w C l s) (hb : Below D w w') (hD : C < D) : QBox w' C l s :=
  ⟨(hb.cell (p := ⟨C, 0, none⟩) hD).trans h.1, (hb.cell (p := ⟨C, 1, none⟩) hD).trans h.2.1, Nat.lt_of_lt_of_le h.2.2 hb.size⟩
theorem QBox.next (h : QBox w C l s) (hb : Below w.heap.size w w') : QBox w' C l s := h.keep hb h.2.2
theorem QBox.alloc (h : QBox w C l s) (o : Obj) : QBox (w.alloc o) C l s := h.next (box_below w o)
theorem QBox.grew {ao : Option Addr} {g1 : Nat} (h : QBox w C l s) (hg : Grew w w' ao g1) (hne : ∀ a, ao = some a → a.block ≠ C) : QBox w' C l s := by
  have hb := hg.by_.block C h.2.2 (fun e => by
    cases ao with
    | none => cases e
    | some a => simp at e; exact hne a rfl e.symm)
  exact ⟨(World.cell?_of_block hb).trans h.1, (World.cell?_of_block hb).trans h.2.1, Nat.lt_of_lt_of_le h.2.2 hg.by_.size⟩
end
theorem qbox_new (w : World) (l s : Int) : QBox (w.alloc (.cells #[.int .i64 l, .int .i64 s] 24)) w.heap.size l s := by
  refine ⟨by simp [go_sem], by simp [go_sem], by simp⟩

set_option maxHeartbeats 1600000 in
theorem qseq_i (l s : Int) (ao : Option Addr) (n c : Nat) (xs : List Int) (w : World) (ha : Sl w w.heap.size ao n c xs) :
    Calls Try.prog 32 #[.agg #[.int .i64 l, .int .i64 s], .slice ao n c] w (RetOwn2B w (qsV l s xs) (esV l s xs) (qsB l s xs)) := by
  cases hq : isQ l s
  · have hr := Lib.hid (qsB_no (l := l) (s := s) (xs := xs) (.inl hq))
    go_enter Try.func32, Try.ntmps32
    go_wp2_with fail
    have b0 := box_below w (.cells #[.int .i64 l, .int .i64 s] 24)
    generalize w.alloc (.cells #[.int .i64 l, .int .i64 s] 24) = w0 at b0 ⊢
    refine (isQ_i _ _ _).mono ?_
    rw [hq]
    rintro e w1 ⟨rfl, b1⟩
    go_wp2_with fail
    go_ret3
    exact ret2_none hr.out (then_then b0 b1)
  · cases hx : isSeq xs
    · have hr := Lib.hid (qsB_no (l := l) (s := s) (xs := xs) (.inr (.inl hx)))
      go_enter Try.func32, Try.ntmps32
      go_wp2_with fail
      have b0 := box_below w (.cells #[.int .i64 l, .int .i64 s] 24)
      generalize w.alloc (.cells #[.int .i64 l, .int .i64 s] 24) = w0 at b0 ⊢
      refine (isQ_i _ _ _).mono ?_
      rw [hq]
      rintro e w1 ⟨rfl, b1⟩
      have b2 := then_then b0 b1
      clear b0 b1
      go_wp2_with fail
      refine (isSeq_i _ _ _ xs _ ((ha.keep b2).more b2.size)).mono ?_
      rw [hx]
      rintro e w' ⟨rfl, rfl⟩
      go_wp2_with fail
      go_ret3
      exact ret2_none hr.out b2
    · have hla := ha.len
      have HX := Lib.hid hx
      have HQ := Lib.hid hq
      have HB := Lib.hid (qsB_mk hq hx)
      have hl1 : n ≤ 1000 := by have := isSeq_len hx; omega
      have HE : Hid (esL l s xs = tab (esF l s xs) n ∧ qsL l s xs = tab (qsF l s xs) n) := by show _ ∧ _; unfold esL qsL; rw [hla]; exact ⟨rfl, rfl⟩
      clear hla
      go_enter Try.func32, Try.ntmps32
      go_wp2_with fail
      have b0 := box_below w (.cells #[.int .i64 l, .int .i64 s] 24)
      have q0 := qbox_new w l s
      generalize w.alloc (.cells #[.int .i64 l, .int .i64 s] 24) = w0 at b0 q0 ⊢
      refine (isQ_i _ _ _).mono ?_
      rw [hq]
      rintro e w1 ⟨rfl, b1⟩
      have b2 := then_then b0 b1
      replace q0 := q0.next b1
      clear b0 b1 hq
      go_wp2_with fail
      refine (isSeq_i _ _ _ xs _ ((ha.keep b2).more b2.size)).mono ?_
      rw [hx]
      rintro e w' ⟨rfl, rfl⟩
      clear hx
      go_wp2_with fail
      have o1 := (Own.empty w1 w.heap.size b2.size).alloc (.cells #[] 3)
      have o2 := Own.empty (w1.alloc (.cells #[] 3)) w.heap.size (Nat.le_trans b2.size (by simp))
      have hw2 : (w1.alloc (.cells #[] 3)).heap.size = w1.heap.size + 1 := by simp
      have b3 := (b2.alloc b2.size (.cells #[] 3)).alloc (Nat.le_trans b2.size (by simp)) (.cells #[] 3)
      have q3 := (q0.alloc (.cells #[] 3)).alloc (.cells #[] 3)
      rw [hw2] at o2
      clear hw2
      replace o1 := o1.wide (Nat.le_refl w.heap.size) (C' := ((w1.alloc (.cells #[] 3)).alloc (.cells #[] 3)).heap.size) (by simp)
      generalize (w1.alloc (.cells #[] 3)).alloc (.cells #[] 3) = w3 at o1 o2 b3 q3 ⊢
      go_loopw [7, 8, 10, 11, 24] (fun lv er _ _ i wr => ∃ (j g cap g' cap' : Nat), j ≤ n ∧ i = .int .i64 j ∧ lv = .slice (some ⟨g, 0, none⟩) j cap ∧ er = .slice (some ⟨g', 0, none⟩) j cap' ∧ Own wr w.heap.size wr.heap.size (some ⟨g, 0, none⟩) j cap (tab (qsF l s xs) j) ∧ Own wr w.heap.size wr.heap.size (some ⟨g', 0, none⟩) j cap' (tab (esF l s xs) j) ∧ g ≠ g' ∧ g ≠ w.heap.size ∧ g' ≠ w.heap.size ∧ Below w.heap.size w wr ∧ QBox wr w.heap.size l s) (fun _ _ _ _ i _ => n - (intOf i).toNat)
      case atStart => exact ⟨0, _, 0, _, 0, Nat.zero_le _, rfl, rfl, rfl, o1, o2, by omega, by have := q0.2.2; omega, by have := q0.2.2; omega, b3, q3⟩
      case round =>
        clear o1 o2 b3 q3 b2 q0
        obtain ⟨j, g, cap, g', cap', hj, rfl, rfl, rfl, hl, he, hne, hgq, hgq', hbel, hqb⟩ := hrel
        by_cases hlt : j < n
        · obtain ⟨b1, off1, rfl, hbl1, hc1⟩ := ha.at_ (by omega)
          have hcx := (hbel.cell (p := ⟨b1, off1 + j, none⟩) hbl1).trans (hc1 j hlt)
          clear hc1
          have hbx := isSeq_at HX.out j
          have hby := qs_bd (l := l) (s := s) xs j HQ.out
          have ht1 : Hid (tab (qsF l s xs) (j + 1) = tab (qsF l s xs) j ++ [qsF l s xs j]) := tab_succ _ _
          have ht2 : Hid (tab (esF l s xs) (j + 1) = tab (esF l s xs) j ++ [qsF l s xs j - xs.getD j 0]) := tab_succ _ _
          have hqv : Hid (quant l s (xs.getD j 0) = qsF l s xs j) := quant_seq HQ.out hbx
          generalize qsF l s xs j = y at hby ht1 ht2 hqv
          generalize xs.getD j 0 = x at hcx hbx ht2 hqv
          obtain ⟨c0, c1, hz⟩ := hqb
          go_wp2_with fail
          refine (quant_i _ _ _ _).mono ?_
          rw [hqv.out]
          rintro e w4 ⟨rfl, b4⟩
          have hqb4 := (show QBox wr w.heap.size l s from ⟨c0, c1, hz⟩).next b4
          have hl4 := hl.keep b4 (Nat.le_refl _)
          have he4 := he.keep b4 (Nat.le_refl _)
          have hbel4 := hbel.trans (b4.mono hbel.size)
          have hsz4 := hbel4.size
          clear hl he hbel c0 c1 hcx hz
          go_wp2_with (at_builtin; refine wpList_one rfl _ _ rfl rfl (hl4.alloc _) w4.heap.size 1 y rfl (by simp [go_sem]) (by omega) (by simp; omega) ?_)
          intro g1 cap1 w5 hown5 hg5
          have he5 := hg5.keep (he4.alloc _) (apart_of hne)
          have hq5 := (hqb4.alloc _).grew hg5 (fun a ea => by injection ea with ea; subst ea; exact hgq)
          have hne5 := grew_ne hg5 hne (by have := he4.at_; simp; omega)
          have hgq5 := grew_ne hg5 hgq (by have := hqb4.2.2; simp; omega)
          have hbel5 := (hbel4.alloc hsz4 _).trans (hg5.below (hl4.alloc _) (by simp; omega))
          have hsz5 := hbel5.size
          have hle5 : g' < w5.heap.size := Nat.lt_of_lt_of_le he4.at_.2.1 (Nat.le_trans (by simp) hg5.by_.size)
          rw [← ht1.out] at hown5
          clear hl4 he4 hg5 hqb4 hbel4 hsz4
          go_wp2_with (at_builtin; refine wpList_one rfl _ _ rfl rfl (he5.alloc _) w5.heap.size 1 (y - x) rfl (by simp [go_sem]) (by omega) (by simp; omega) ?_)
          intro g2 cap2 w6 hown6 hg6
          have hl6 := hg6.keep (hown5.alloc _) (apart_of (Ne.symm hne5))
          have hq6 := (hq5.alloc _).grew hg6 (fun a ea => by injection ea with ea; subst ea; exact hgq')
          have hne6 := grew_ne hg6 (Ne.symm hne5) (by have := hown5.at_; simp; omega)
          have hgq6 := grew_ne hg6 hgq' (by have := hq5.2.2; simp; omega)
          have hbel6 := (hbel5.alloc hsz5 _).trans (hg6.below (he5.alloc _) (by simp; omega))
          have hl6' := hl6.wide (Nat.le_refl w.heap.size) (C' := w6.heap.size) (Nat.le_trans (by simp) hg6.by_.size)
          rw [← ht2.out] at hown6
          clear hown5 hg6 he5 hq5 hbel5 hl6
          go_wp2_with fail
          go_roundw
          case rel => exact ⟨j + 1, g1, cap1, g2, cap2, by omega, by go_num, rfl, rfl, hl6', hown6, Ne.symm hne6, hgq5, hgq6, hbel6, hq6⟩
          case measure => simp [intOf]; omega
        · have : j = n := by omega
          subst this
          rw [← HE.out.1] at he
          rw [← HE.out.2] at hl
          cases hs : isSeq (esL l s xs)
          · have HR := Lib.hid (HB.out.trans hs)
            go_wp2_with fail
            refine (isSeq_i _ _ _ _ _ (he.sl (by omega))).mono ?_
            rw [hs]
            rintro e w' ⟨rfl, rfl⟩
            go_wp2_with fail
            go_ret3
            exact ret2_none HR.out hbel
          · have HR := Lib.hid (HB.out.trans hs)
            go_wp2_with fail
            refine (isSeq_i _ _ _ _ _ (he.sl (by omega))).mono ?_
            rw [hs]
            rintro e w' ⟨rfl, rfl⟩
            go_wp2_with fail
            go_ret3
            exact ret2_list HR.out hl he hne hbel
set_option maxHeartbeats 1600000 in
theorem bits_i (l s : Int) (ao : Option Addr) (n c : Nat) (xs : List Int) (w : World) (ha : Sl w w.heap.size ao n c xs) :
    Calls Try.prog 33 #[.agg #[.int .i64 l, .int .i64 s], .slice ao n c] w (RetOwnB w (btV l s xs) (btB l s xs)) := by
  have hla := ha.len
  have hn20 := ha.2.2.1
  cases hq : isQ l s
  · have hr := Lib.hid (btB_no (l := l) (s := s) (xs := xs) (.inl hq))
    clear hla
    go_enter Try.func33, Try.ntmps33
    go_wp2_with fail
    have b0 := box_below w (.cells #[.int .i64 l, .int .i64 s] 24)
    generalize w.alloc (.cells #[.int .i64 l, .int .i64 s] 24) = w0 at b0 ⊢
    refine (isQ_i _ _ _).mono ?_
    rw [hq]
    rintro e w1 ⟨rfl, b1⟩
    go_wp2_with fail
    go_ret2
    exact ret_none' hr.out (then_then b0 b1)
  · by_cases hn : n ≤ 1000
    · have HQ := Lib.hid hq
      have HL : Hid (btL l s xs = tab (btF l s xs) n) := by show _ = _; unfold btL; rw [hla]
      have HLA := Lib.hid hla
      have hqb := isQ_true hq
      clear hla
      go_enter Try.func33, Try.ntmps33
      go_wp2_with fail
      have b0 := box_below w (.cells #[.int .i64 l, .int .i64 s] 24)
      have q0 := qbox_new w l s
      generalize w.alloc (.cells #[.int .i64 l, .int .i64 s] 24) = w0 at b0 q0 ⊢
      refine (isQ_i _ _ _).mono ?_
      rw [hq]
      rintro e w1 ⟨rfl, b1⟩
      have b2 := then_then b0 b1
      replace q0 := q0.next b1
      clear b0 b1 hq
      go_wp2_with fail
      have o1 := Own.empty w1 w.heap.size b2.size
      have b3 := b2.alloc b2.size (.cells #[] 3)
      have q3 := q0.alloc (.cells #[] 3)
      go_loopw [6, 8, 9, 10, 11, 23] (fun out _ _ _ _ i wr => ∃ (j g cap : Nat), j ≤ n ∧ i = .int .i64 j ∧ out = .slice (some ⟨g, 0, none⟩) j cap ∧ Own wr w.heap.size wr.heap.size (some ⟨g, 0, none⟩) j cap (tab (btF l s xs) j) ∧ g ≠ w.heap.size ∧ Below w.heap.size w wr ∧ QBox wr w.heap.size l s ∧ btUpto l s xs j) (fun _ _ _ _ _ i _ => n - (intOf i).toNat)
      case atStart => exact ⟨0, _, 0, Nat.zero_le _, rfl, rfl, o1, by have := q0.2.2; omega, b3, q3, btUpto_zero _ _ _⟩
      case round =>
        clear o1 b3 q3 b2 q0
        obtain ⟨j, g, cap, hj, rfl, rfl, hl, hgq, hbel, hqb, hup⟩ := hrel
        by_cases hlt : j < n
        · obtain ⟨b1, off1, rfl, hbl1, hc1⟩ := ha.at_ (by omega)
          have hcx := (hbel.cell (p := ⟨b1, off1 + j, none⟩) hbl1).trans (hc1 j hlt)
          clear hc1
          obtain ⟨c0, c1, hz⟩ := hqb
          cases hv : isLev l s (xs.getD j 0)
          · have hno := Lib.hid (btB_bad (l := l) (s := s) (by rw [HLA.out]; exact hlt) hv)
            have hne : lev l s (idxV l s (xs.getD j 0)) ≠ xs.getD j 0 := by simpa [isLev] using hv
            clear hv
            generalize xs.getD j 0 = x at hcx hne
            have hi := idxV_bd x HQ.out
            obtain ⟨y, hy⟩ : ∃ y, Hid (idxV l s x = y) := ⟨_, rfl⟩
            rw [hy.out] at hi hne
            have hlb := levB_yes HQ.out hi.1 hi.2
            have hle : Hid (levV l s y = lev l s y ∧ levB l s y = true) := ⟨levV_yes hlb, hlb⟩
            clear hlb
            generalize lev l s y = z at hne hle
            have hnb : (z != x) = true := by rw [bne_iff_ne]; exact hne
            clear hne
            go_wp2_with fail
            refine (indexOf_i _ _ _ _).mono ?_
            rw [hy.out]
            rintro e w2 ⟨rfl, d1⟩
            have q2 := (show QBox wr w.heap.size l s from ⟨c0, c1, hz⟩).next d1
            have e2 := hbel.trans (d1.mono hbel.size)
            clear c0 c1 hz d1 hbel
            obtain ⟨c0, c1, hz⟩ := q2
            go_wp2_with fail
            refine (levelOf_i _ _ _ _).mono ?_
            rw [hle.out.1, hle.out.2]
            rintro e w3 ⟨rfl, d2⟩
            have e3 := e2.trans (d2.mono e2.size)
            clear c0 c1 hz d2 e2
            go_wp2_with fail
            go_ret2
            exact ret_none' hno.out e3
          · have hup1 := btUpto_succ hup hv
            have hne : lev l s (idxV l s (xs.getD j 0)) = xs.getD j 0 := by simpa [isLev] using hv
            have ht1 : Hid (tab (btF l s xs) (j + 1) = tab (btF l s xs) j ++ [idxV l s (xs.getD j 0)]) := tab_succ _ _
            clear hv
            generalize xs.getD j 0 = x at hcx hne ht1
            have hi := idxV_bd x HQ.out
            obtain ⟨y, hy⟩ : ∃ y, Hid (idxV l s x = y) := ⟨_, rfl⟩
            rw [hy.out] at hi hne
            have ht2 : Hid (tab (btF l s xs) (j + 1) = tab (btF l s xs) j ++ [y]) := by rw [← hy.out]; exact ht1
            have hlb := levB_yes HQ.out hi.1 hi.2
            have hle : Hid (levV l s y = x ∧ levB l s y = true) := ⟨(levV_yes hlb).trans hne, hlb⟩
            clear hlb hne ht1 hup
            have hnb : (x != x) = false := by simp
            go_wp2_with fail
            refine (indexOf_i _ _ _ _).mono ?_
            rw [hy.out]
            rintro e w2 ⟨rfl, d1⟩
            have q2 := (show QBox wr w.heap.size l s from ⟨c0, c1, hz⟩).next d1
            have hl2 := hl.keep d1 (Nat.le_refl _)
            have e2 := hbel.trans (d1.mono hbel.size)
            have s2 := Nat.le_trans (Nat.le_refl wr.heap.size) d1.size
            clear c0 c1 hz d1 hl
            obtain ⟨c0, c1, hz⟩ := q2
            go_wp2_with fail
            refine (levelOf_i _ _ _ _).mono ?_
            rw [hle.out.1, hle.out.2]
            rintro e w3 ⟨rfl, d2⟩
            have q3 := (show QBox w2 w.heap.size l s from ⟨c0, c1, hz⟩).next d2
            have hl3 := hl2.keep d2 s2
            have e3 := e2.trans (d2.mono e2.size)
            have s3 := e3.size
            clear c0 c1 hz d2 hl2 e2 hcx
            go_wp2_with (at_builtin; refine wpList_one rfl _ _ rfl rfl (hl3.alloc _) w3.heap.size 1 y rfl (by simp [go_sem]) (by omega) (by simp; omega) ?_)
            intro g1 cap1 w4 hown4 hg4
            have hq4 := (q3.alloc _).grew hg4 (fun a ea => by injection ea with ea; subst ea; exact hgq)
            have hgq4 := grew_ne hg4 hgq (by have := q3.2.2; simp; omega)
            have hbel4 := (e3.alloc s3 _).trans (hg4.below (hl3.alloc _) (by simp; omega))
            rw [← ht2.out] at hown4
            clear hl3 hg4 q3 e3 s3 hbel
            go_wp2_with fail
            go_roundw
            case rel => exact ⟨j + 1, g1, cap1, by omega, by go_num, rfl, hown4, hgq4, hbel4, hq4, hup1⟩
            case measure => simp [intOf]; omega
        · have : j = n := by omega
          subst this
          have hB := btB_yes HLA.out HQ.out hn hup
          have HB := Lib.hid hB
          rw [← HL.out] at hl
          clear hB
          go_wp2_with fail
          go_ret2
          exact ret_list HB.out hl hbel
    · have hr := Lib.hid (btB_no (l := l) (s := s) (xs := xs) (.inr (by rw [hla]; exact hn)))
      clear hla
      go_enter Try.func33, Try.ntmps33
      go_wp2_with fail
      have b0 := box_below w (.cells #[.int .i64 l, .int .i64 s] 24)
      generalize w.alloc (.cells #[.int .i64 l, .int .i64 s] 24) = w0 at b0 ⊢
      refine (isQ_i _ _ _).mono ?_
      rw [hq]
      rintro e w1 ⟨rfl, b1⟩
      go_wp2_with fail
      go_ret2
      exact ret_none' hr.out (then_then b0 b1)
end Go.Proofs.Ytmgjbldnohkodaa
