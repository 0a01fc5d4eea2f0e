/- The contract of MakeModulator: a valid modulator with small coefficients. (Under way.) -/
import Derived.Test.YtmgjbldnohkodaaMkQ
import Derived.Test.YtmgjbldnohkodaaMod8
import Derived.Test.YtmgjbldnohkodaaGen
import Derived.Test.YtmgjbldnohkodaaPureO
namespace Go.Proofs.Ytmgjbldnohkodaa
open Go.RowKit
set_option linter.unusedVariables false

def RetM (w : World) (e : Ending) (w' : World) : Prop :=
  ∃ (l s : Int) (a : Option Addr) (n c : Nat) (cs : List Int), 2 ≤ l ∧ l ≤ 6 ∧ smallS s ∧ isMod l s cs = true ∧ (∀ i, -6 ≤ cs.getD i 0 ∧ cs.getD i 0 ≤ 6) ∧
    e = .returned (.agg #[.int .i64 l, .int .i64 s, .slice a n c]) ∧ Own w' w.heap.size w'.heap.size a n c cs ∧ Below w.heap.size w w'
theorem Cur.below {w w' : World} {g D B : Nat} (h : Cur w g D) (hb : Below B w w') (hg : g < B) : Cur w' g D := by
  obtain ⟨ao, n, cap, i, hh, h1, h2, h3, h4⟩ := h
  exact ⟨ao, n, cap, i, hh, h1.below hb hg, h2.keep (hb.mono (by omega)), h3, h4⟩
theorem Cur.drew {w : World} {g D : Nat} (h : Cur w g D) : Cur w.drew g D := h
theorem Cur.far {w : World} {g D m : Nat} (h : Cur w g D) (i : Nat) (u : Value) (hm : g ≠ m) (hD : D ≤ m) : Cur (w.setCell ⟨m, i, none⟩ u) g D := by
  obtain ⟨ao, n, cap, j, hh, h1, h2, h3, h4⟩ := h
  exact ⟨ao, n, cap, j, hh, h1.far (p := ⟨m, i, none⟩) hm u, h2.keep ((Below.refl D w).setCell (p := ⟨m, i, none⟩) hD u), h3, h4⟩
theorem coefs_small {k : Nat} (h4 : k ≤ 4) (i : Nat) : -6 ≤ ((coefs (k : Int)).drop 1).getD i 0 ∧ ((coefs (k : Int)).drop 1).getD i 0 ≤ 6 := by
  have hl : ((coefs (k : Int)).drop 1).length ≤ 4 := by
    have ho : ordB (k : Int) = true := by simp [ordB]; omega
    rw [List.length_drop, coefs_yes ho, diffs_length, oneL_length, Int.toNat_natCast]; omega
  by_cases hi : i < 4
  · have hk : k = 0 ∨ k = 1 ∨ k = 2 ∨ k = 3 ∨ k = 4 := by omega
    have hi4 : i = 0 ∨ i = 1 ∨ i = 2 ∨ i = 3 := by omega
    rcases hk with rfl | rfl | rfl | rfl | rfl <;> rcases hi4 with rfl | rfl | rfl | rfl <;> decide
  · rw [getD_out _ _ (by omega)]; omega
theorem mod_small {l s : Int} {cs : List Int} {n : Nat} (hq : isQ l s = true) (hl : cs.length = n) (h1 : 1 ≤ n) (h4 : n ≤ 4) (hc : Within cs 2) : isMod l s cs = true := by
  rw [isMod_end hl (fun i hi => cofB_mk (by have := hc.at_ (by omega) i; omega)), hq]
  simp; omega
def RetOnce (g D : Nat) (w : World) (e : Ending) (w' : World) : Prop := ∃ b : Bool, e = .returned (.bool b) ∧ Cur w' g D ∧ Only w w' g
theorem once_any (g D : Nat) (n : Int) (w : World) (hc : Cur w g D) (h1 : 1 ≤ n) (h2 : n ≤ 4294967296) :
    Calls Try.prog 52 #[.pointer (some ⟨g, 0, none⟩), .int .i64 n] w (RetOnce g D w) := by
  go_enter Try.func52, Try.ntmps52
  go_wp2_with fail
  refine (below_any g D n _ hc h1 h2).mono ?_
  rintro e w' ⟨x, h0, h3, rfl, hc', ho⟩
  go_wp2_with fail
  go_ret
  exact ⟨x == 0, rfl, hc', ho⟩
set_option maxHeartbeats 800000 in
theorem mkM_any (ao : Option Addr) (n cap : Nat) (w : World) (h : BSl w w.heap.size ao n cap) :
    Calls Try.prog 13 #[.slice ao n cap] w (RetM w) := by
  go_enter Try.func13, Try.ntmps13
  go_wp2_with fail
  have b0 := box_below w (.cells #[.int .i64 0, .int .i64 0, .slice none 0 0] 27)
  have k0 := Blk.new w 27 #[.int .i64 0, .int .i64 0, .slice none 0 0]
  generalize w.alloc (.cells #[.int .i64 0, .int .i64 0, .slice none 0 0] 27) = w0 at b0 k0 ⊢
  have z0 := k0.lt
  refine (cur_new _ _ _ w.heap.size _ (h.keep b0) (Nat.le_of_lt z0)).mono ?_
  rintro e w1 ⟨rfl, q1, b1⟩
  have k1 := k0.below b1 z0
  have b2 := then_then b0 b1
  clear k0 b0
  obtain ⟨g, HG⟩ : ∃ g, Hid (w0.heap.size = g) := ⟨_, rfl⟩
  have hgw : w.heap.size < g := by rw [← HG.out]; exact z0
  rw [HG.out] at q1
  have hg1 := q1.lt.2
  have hc1 := (h.keep b2).more b2.size
  go_wp2_with fail
  refine (mkQ_any _ _ _ _ hc1).mono ?_
  rintro e w2 ⟨l, s, hl2, hl6, hs, rfl, b⟩
  have k2 := k1.below b k1.lt
  have q2 := q1.below b hg1
  have b3 := b2.trans (b.mono b2.size)
  have hg2 := q2.lt.2
  have HQ := Lib.hid (smallQ hl2 hl6 hs)
  clear k1 q1 b2 b b1 hc1 z0
  go_wp2_with fail
  rw [HG.out]
  have k3 := k2.alloc (.cells #[.int .i64 l, .int .i64 s] 24)
  have q3 := q2.below (box_below w2 (.cells #[.int .i64 l, .int .i64 s] 24)) hg2
  have b4 := b3.alloc b3.size (.cells #[.int .i64 l, .int .i64 s] 24)
  have u3 := Blk.new w2 24 #[.int .i64 l, .int .i64 s]
  have hb3 := b3.size
  generalize w2.alloc (.cells #[.int .i64 l, .int .i64 s] 24) = w3 at k3 q3 b4 u3 ⊢
  refine (once_any g w.heap.size 3 _ q3 (by omega) (by omega)).mono ?_
  rintro e w4 ⟨bo, rfl, q4, o4⟩
  have k4 := k3.grown o4 (fun e => by injection e with e; omega)
  have u4 := u3.grown o4 (fun e => by injection e with e; omega)
  have b5 := b4.trans (only_below o4 (Nat.le_of_lt hgw) b4.size)
  clear k3 u3 q3 b4 o4 k2 q2 b3
  have c0 := u4.cell 0
  have c1 := u4.cell 1
  simp at c0 c1
  have hu4 := u4.lt
  cases bo
  · have m5 := Blk.new w4 27 #[.int .i64 l, .int .i64 s, .slice none 0 0]
    have k5 := k4.alloc (.cells #[.int .i64 l, .int .i64 s, .slice none 0 0] 27)
    have q5 := q4.below (box_below w4 (.cells #[.int .i64 l, .int .i64 s, .slice none 0 0] 27)) q4.lt.2
    have b6 := b5.alloc b5.size (.cells #[.int .i64 l, .int .i64 s, .slice none 0 0] 27)
    have zz : w4.heap.size < (w4.alloc (.cells #[.int .i64 l, .int .i64 s, .slice none 0 0] 27)).heap.size := by simp
    have hb5 := b5.size
    have hg4 := q4.lt.2
    clear k4 u4 q4 b5
    go_wp2_with fail
    clear c0 c1
    generalize w4.alloc (.cells #[.int .i64 l, .int .i64 s, .slice none 0 0] 27) = w5 at m5 k5 q5 b6 zz ⊢
    refine (below_any g w.heap.size 4 _ q5 (by omega) (by omega)).mono ?_
    rintro e w6 ⟨x, hx0, hx1, rfl, q6, o6⟩
    obtain ⟨j0, hj0⟩ : ∃ j : Nat, 1 + x = j := ⟨(1 + x).toNat, by omega⟩
    have m6 := m5.grown o6 (fun e => by injection e with e; omega)
    have k6 := k5.grown o6 (fun e => by injection e with e; omega)
    have b7 := b6.trans (only_below o6 (Nat.le_of_lt hgw) b6.size)
    have hz6 := o6.size
    clear m5 k5 q5 b6 o6
    go_wp2_with fail
    go_loopw [8] (fun k wr => ∃ (j N C : Nat) (A : Option Addr) (cs : List Int), k = .int .i64 j ∧ 1 ≤ N + j ∧ N + j ≤ 4 ∧ Own wr w5.heap.size wr.heap.size A N C cs ∧ Within cs 2 ∧ Blk wr w4.heap.size 27 #[.int .i64 l, .int .i64 s, .slice A N C] ∧ Blk wr w.heap.size 27 #[.int .i64 0, .int .i64 0, .slice none 0 0] ∧ Cur wr g w.heap.size ∧ Below w.heap.size w wr ∧ w5.heap.size ≤ wr.heap.size) (fun k _ => (intOf k).toNat)
    case atStart => exact ⟨j0, 0, 0, none, [], rfl, by omega, by omega, Own.nil, Within.nil _, m6, k6, q6, b7, hz6⟩
    case round =>
      clear m6 k6 q6 b7 hz6
      obtain ⟨j, N, C, A, cs, rfl, hj1, hj4, hown, hin, HM, HK, hcur, HB, hz⟩ := hrel
      by_cases hlt : 0 < j
      · have d2 := HM.cell 2
        simp at d2
        go_wp2_with fail
        go_region_law (first
          | (refine step_one rfl (.tmp 34) (.tmp 38) rfl (by simp [Act.eval]) (own7.alloc _) w7.heap.size 1 (y - 2) (by simp [Act.eval]) (by simp [go_sem]) (by omega) (by simp; omega) ?_; intro g1 D8 w8 o8 hg8; have B8 := (Below.refl _ _ : Below w7.heap.size w7 w7).alloc (Nat.le_refl _) (.cells #[.int .i64 (y - 2)] 3); have G8 := hg8.below (own7.alloc _) (by simp; omega); have HM8 := (HM7.alloc _).below G8 zz; have f2 := HM8.frozen 2; have e2 := HM8.cell 2; simp at e2)
          | (go_simp; go_at_call 54; refine (below_any g w.heap.size 5 wr.drew hcur.drew (by omega) (by omega)).mono ?_; rintro e w7 ⟨y, hy0, hy1, rfl, c7, o7⟩; have ew : IntKind.i64.wrap (y - 2) = y - 2 := IntWalk.i64_in _ (by omega); have own7 := hown.drew.only o7 (by omega); have HM7 := HM.drew.grown o7 (fun e => by injection e with e; omega); have hz7 : w5.heap.size ≤ w7.heap.size := Nat.le_trans hz o7.size; have d2' := HM7.cell 2; simp at d2'; have d2a := (HM7.alloc (.cells #[.int .i64 (y - 2)] 3)).cell 2; simp at d2a))
        all_goals
          have HM9 := HM8.set_ 2 (.slice (some ⟨g1, 0, none⟩) (N + 1) D8)
          simp at HM9
          have hb7 : Below w.heap.size w w7 := HB.drew.trans (only_below o7 (Nat.le_of_lt hgw) HB.drew.size)
          have HK7 := HK.drew.grown o7 (fun e => by injection e with e; omega)
          have HK8 := (HK7.alloc (.cells #[.int .i64 (y - 2)] 3)).below G8 (by omega)
          have HK9 := HK8.far (p := ⟨w4.heap.size, 2, none⟩) (show w.heap.size ≠ w4.heap.size by omega) (.slice (some ⟨g1, 0, none⟩) (N + 1) D8)
          have c8 := (c7.below (box_below w7 (.cells #[.int .i64 (y - 2)] 3)) c7.lt.2).below G8 (by omega)
          have c9 := c8.far (m := w4.heap.size) 2 (.slice (some ⟨g1, 0, none⟩) (N + 1) D8) (by omega) (by omega)
          have b8 := (hb7.alloc hb7.size (.cells #[.int .i64 (y - 2)] 3)).trans (G8.mono (by omega))
          have b9 := b8.setCell (p := ⟨w4.heap.size, 2, none⟩) (show w.heap.size ≤ w4.heap.size by omega) (.slice (some ⟨g1, 0, none⟩) (N + 1) D8)
          have o9 := o8.setFar w4.heap.size 2 (.slice (some ⟨g1, 0, none⟩) (N + 1) D8) (.inl zz)
          have z8 := G8.size
          have z9 : (w8.setCell ⟨w4.heap.size, 2, none⟩ (.slice (some ⟨g1, 0, none⟩) (N + 1) D8)).heap.size = w8.heap.size := by simp [World.setCell]
          have z10 : w7.heap.size ≤ (w7.alloc (.cells #[.int .i64 (y - 2)] 3)).heap.size := by simp
          rw [← z9] at o9
          try simp [Act.put]
          go_wp2_with fail
          go_roundw
          case rel => exact ⟨j - 1, N + 1, D8, some ⟨g1, 0, none⟩, cs ++ [y - 2], by rw [Int.natCast_sub (by omega)]; rfl, by omega, by omega, o9, hin.snoc (by omega) (by omega), HM9, HK9, c9, b9, by omega⟩
          case measure => simp [intOf]; omega
      · obtain rfl : j = 0 := by omega
        have hlen := hown.len
        have HO := hown
        have d0 := HM.cell 0
        have d1 := HM.cell 1
        have d2 := HM.cell 2
        have g0 := HK.cell 0
        have g1 := HK.cell 1
        have g2 := HK.cell 2
        have f0 := HK.frozen 0
        have f1 := HK.frozen 1
        have f2 := HK.frozen 2
        simp at d0 d1 d2 g0 g1 g2
        go_wp2_with fail
        obtain ⟨r11, b11, z11, hown⟩ := mod_put (l := l) (s := s) (a := A) (n := N) (c := C) HK HB (Nat.le_refl _)
        have o11 := hown _ _ _ _ _ _ HO (.inl (by omega))
        clear d0 d1 d2 g0 g1 g2 f0 f1 f2 hown HO HK HM
        generalize ((wr.setCell ⟨w.heap.size, 0, none⟩ (.int .i64 l)).setCell ⟨w.heap.size, 1, none⟩ (.int .i64 s)).setCell ⟨w.heap.size, 2, none⟩ (.slice A N C) = w11 at r11 b11 z11 o11 ⊢
        have e0 := r11.cell 0
        have e1 := r11.cell 1
        have e2 := r11.cell 2
        simp at e0 e1 e2
        exact bodyPost_ret (v := .agg #[.int .i64 l, .int .i64 s, .slice A N C]) (by simp [results, Try.results13, go_sem, e0, e1, e2]) rfl ⟨l, s, A, N, C, cs, hl2, hl6, hs, (mod_small HQ.out hlen (by omega) (by omega) hin), (fun i => by have := hin.at_ (by omega) i; omega), rfl, o11.wide (by omega) (by omega), b11⟩
  · go_wp2_with fail
    have kA := k4.alloc (.cells #[.int .i64 0, .int .i64 0, .slice none 0 0] 27)
    have qA := q4.below (box_below w4 (.cells #[.int .i64 0, .int .i64 0, .slice none 0 0] 27)) q4.lt.2
    have bA := b5.alloc b5.size (.cells #[.int .i64 0, .int .i64 0, .slice none 0 0] 27)
    have uA := u4.alloc (.cells #[.int .i64 0, .int .i64 0, .slice none 0 0] 27)
    have a0 := uA.cell 0
    have a1 := uA.cell 1
    simp at a0 a1
    have mA := Blk.new w4 27 #[.int .i64 0, .int .i64 0, .slice none 0 0]
    go_region_law (first
      | (go_simp; go_at_call 54; refine (below_any g w.heap.size 4 w4.drew q4.drew (by omega) (by omega)).mono ?_; rintro e w5 ⟨x, hx0, hx1, rfl, q5, o5⟩; obtain ⟨kk, hkk⟩ := Int.eq_ofNat_of_zero_le (show 0 ≤ 1 + x by omega); have ew : IntKind.i64.wrap (1 + x) = 1 + x := IntWalk.i64_in _ (by omega); have HKK := Lib.hid hkk; have h1k : 1 ≤ kk := (by omega); have h4k : kk ≤ 4 := (by omega); obtain ⟨p1, p2, p3, p4⟩ := order_facts HQ.out h1k h4k; have u5 := u4.drew.grown o5 (fun e => by injection e with e; omega); have i0 := u5.cell 0; have i1 := u5.cell 1; simp at i0 i1; have u5a := u5.alloc (.cells #[.int .i64 0, .int .i64 0, .slice none 0 0] 27); have i0a := u5a.cell 0; have i1a := u5a.cell 1; simp at i0a i1a; have k5 := k4.drew.grown o5 (fun e => by injection e with e; omega); have b6 := b5.drew.trans (only_below o5 (Nat.le_of_lt hgw) b5.drew.size); have hz5 : w4.heap.size ≤ w5.heap.size := o5.size; clear hkk)
      | (go_simp; go_at_call 54; refine (below_any g w.heap.size 4 (w4.alloc (.cells #[.int .i64 0, .int .i64 0, .slice none 0 0] 27)).drew qA.drew (by omega) (by omega)).mono ?_; rintro e w5 ⟨x, hx0, hx1, rfl, q5, o5⟩; obtain ⟨kk, hkk⟩ := Int.eq_ofNat_of_zero_le (show 0 ≤ 1 + x by omega); have ew : IntKind.i64.wrap (1 + x) = 1 + x := IntWalk.i64_in _ (by omega); have HKK := Lib.hid hkk; have h1k : 1 ≤ kk := (by omega); have h4k : kk ≤ 4 := (by omega); obtain ⟨p1, p2, p3, p4⟩ := order_facts HQ.out h1k h4k; have u5 := uA.drew.grown o5 (fun e => by injection e with e; omega); have i0 := u5.cell 0; have i1 := u5.cell 1; simp at i0 i1; have u5a := u5.alloc (.cells #[.int .i64 0, .int .i64 0, .slice none 0 0] 27); have i0a := u5a.cell 0; have i1a := u5a.cell 1; simp at i0a i1a; have k5 := kA.drew.grown o5 (fun e => by injection e with e; omega); have M5 := mA.drew.grown o5 (fun e => by injection e with e; omega); have b6 := bA.drew.trans (only_below o5 (Nat.le_of_lt hgw) bA.drew.size); have hz5 : w4.heap.size ≤ w5.heap.size := Nat.le_trans (by simp) o5.size; clear hkk)
      | (have M5' := M5; go_simp; go_at_call 53; refine (order_mod_s l s (1 + x) w5 (by constructor <;> omega)).mono ?_; rintro e w6 ⟨A, N, C, he, o6, b7⟩; rw [HKK.out, p1, p2, p3] at he; subst he; rw [HKK.out, p4] at o6; have M6 := M5.below b7 M5.lt; have c0' := M6.cell 0; have c1' := M6.cell 1; have c2' := M6.cell 2; have f0' := M6.frozen 0; have f1' := M6.frozen 1; have f2' := M6.frozen 2; simp at c0' c1' c2')
      | (go_simp; go_at_call 53; refine (order_mod_s l s (1 + x) w5 (by constructor <;> omega)).mono ?_; rintro e w6 ⟨A, N, C, he, o6, b7⟩; rw [HKK.out, p1, p2, p3] at he; subst he; rw [HKK.out, p4] at o6)
      | (go_simp; go_at_call 53; refine (order_mod_s l s (1 + x) (w5.alloc (.cells #[.int .i64 0, .int .i64 0, .slice none 0 0] 27)) (by constructor <;> omega)).mono ?_; rintro e w6 ⟨A, N, C, he, o6, b7⟩; rw [HKK.out, p1, p2, p3] at he; subst he; rw [HKK.out, p4] at o6; have M6 := (Blk.new w5 27 #[.int .i64 0, .int .i64 0, .slice none 0 0]).below b7 (Blk.new w5 27 #[.int .i64 0, .int .i64 0, .slice none 0 0]).lt; have c0' := M6.cell 0; have c1' := M6.cell 1; have c2' := M6.cell 2; have f0' := M6.frozen 0; have f1' := M6.frozen 1; have f2' := M6.frozen 2; simp at c0' c1' c2'))
    all_goals
      have hz6 := b7.size
      have hb5' := b5.size
      have hg4 := q4.lt
      have hk6 : kk ≤ 6 := by omega
      clear i0 i1 u5a i0a i1a a0 a1 uA mA kA qA c0 c1
      first
        | (have hm5 := M5.lt
           have hb6 := b6.trans (b7.mono b6.size)
           have K6 := k5.below b7 k5.lt
           obtain ⟨HM, HB, zz, ho⟩ := mod_put (w := w) (l := l) (s := s) (a := A) (n := N) (c := C) M6 hb6 (by omega)
           have HO := ho _ _ _ _ _ _ o6 (.inl (by omega))
           have HK := ((K6.far (p := ⟨w4.heap.size, 0, none⟩) (show w.heap.size ≠ w4.heap.size by omega) (.int .i64 l)).far (p := ⟨w4.heap.size, 1, none⟩) (show w.heap.size ≠ w4.heap.size by omega) (.int .i64 s)).far (p := ⟨w4.heap.size, 2, none⟩) (show w.heap.size ≠ w4.heap.size by omega) (.slice A N C)
           generalize ((w6.setCell ⟨w4.heap.size, 0, none⟩ (.int .i64 l)).setCell ⟨w4.heap.size, 1, none⟩ (.int .i64 s)).setCell ⟨w4.heap.size, 2, none⟩ (.slice A N C) = v8 at HM HB HO HK zz ⊢
           clear M5 M5' M6 c0' c1' c2' f0' f1' f2' K6 o6 b7 b6 k5)
        | (have hb6 := (b6.alloc b6.size (.cells #[.int .i64 0, .int .i64 0, .slice none 0 0] 27)).trans (b7.mono (by simp; omega))
           have hm5 : w5.heap.size < (w5.alloc (.cells #[.int .i64 0, .int .i64 0, .slice none 0 0] 27)).heap.size := by simp
           have K6 := (k5.alloc (.cells #[.int .i64 0, .int .i64 0, .slice none 0 0] 27)).below b7 (k5.alloc (.cells #[.int .i64 0, .int .i64 0, .slice none 0 0] 27)).lt
           have hm6 := M6.lt
           obtain ⟨HM, HB, zz, ho⟩ := mod_put (w := w) (l := l) (s := s) (a := A) (n := N) (c := C) M6 hb6 (by omega)
           have HO := ho _ _ _ _ _ _ o6 (.inl (by omega))
           have HK := ((K6.far (p := ⟨w5.heap.size, 0, none⟩) (show w.heap.size ≠ w5.heap.size by omega) (.int .i64 l)).far (p := ⟨w5.heap.size, 1, none⟩) (show w.heap.size ≠ w5.heap.size by omega) (.int .i64 s)).far (p := ⟨w5.heap.size, 2, none⟩) (show w.heap.size ≠ w5.heap.size by omega) (.slice A N C)
           generalize ((w6.setCell ⟨w5.heap.size, 0, none⟩ (.int .i64 l)).setCell ⟨w5.heap.size, 1, none⟩ (.int .i64 s)).setCell ⟨w5.heap.size, 2, none⟩ (.slice A N C) = v8 at HM HB HO HK zz ⊢
           clear M6 c0' c1' c2' f0' f1' f2' K6 o6 b7 b6 k5)
        | (have hb6 := b6.trans (b7.mono b6.size)
           have K6 := k5.below b7 k5.lt
           have HM := Blk.new w6 27 #[.int .i64 l, .int .i64 s, .slice A N C]
           have HK := K6.alloc (.cells #[.int .i64 l, .int .i64 s, .slice A N C] 27)
           have HO := o6.alloc (.cells #[.int .i64 l, .int .i64 s, .slice A N C] 27)
           have HB := hb6.alloc hb6.size (.cells #[.int .i64 l, .int .i64 s, .slice A N C] 27)
           have zz : w6.heap.size ≤ (w6.alloc (.cells #[.int .i64 l, .int .i64 s, .slice A N C] 27)).heap.size := by simp
           generalize w6.alloc (.cells #[.int .i64 l, .int .i64 s, .slice A N C] 27) = v8 at HM HB HO HK zz ⊢
           clear K6 o6 b7 b6 k5)
      have d0 := HM.cell 0
      have d1 := HM.cell 1
      have d2 := HM.cell 2
      have g0 := HK.cell 0
      have g1 := HK.cell 1
      have g2 := HK.cell 2
      have f0 := HK.frozen 0
      have f1 := HK.frozen 1
      have f2 := HK.frozen 2
      simp at d0 d1 d2 g0 g1 g2
      simp [Act.put]
      go_wp2_with fail
      obtain ⟨r11, b11, z11, hown⟩ := mod_put (l := l) (s := s) (a := A) (n := N) (c := C) HK HB (Nat.le_refl _)
      have o11 := hown _ _ _ _ _ _ HO (.inl (by omega))
      clear d0 d1 d2 g0 g1 g2 f0 f1 f2 hown HO HK HM
      generalize ((v8.setCell ⟨w.heap.size, 0, none⟩ (.int .i64 l)).setCell ⟨w.heap.size, 1, none⟩ (.int .i64 s)).setCell ⟨w.heap.size, 2, none⟩ (.slice A N C) = w11 at r11 b11 z11 o11 ⊢
      have e0 := r11.cell 0
      have e1 := r11.cell 1
      have e2 := r11.cell 2
      simp at e0 e1 e2
      exact bodyPost_ret (v := .agg #[.int .i64 l, .int .i64 s, .slice A N C]) (by simp [results, Try.results13, go_sem, e0, e1, e2]) rfl ⟨l, s, A, N, C, (coefs (kk : Int)).drop 1, hl2, hl6, hs, (by rw [om_isMod (by omega) (by omega)]; exact HQ.out), fun i => coefs_small h4k i, rfl, o11.wide (by omega) (by omega), b11⟩
end Go.Proofs.Ytmgjbldnohkodaa
