/- The contract of OrderModulator of the program. -/
import Derived.Test.YticfdmgbpgfogaaMod7
import Derived.Deep.RegionLaw
namespace Go.Proofs.Yticfdmgbpgfogaa
open Go.RowKit
set_option linter.unusedVariables false

section
variable {ops : Array Oper} {Q : Exit → Act → World → Prop} {o : Oper} {a : Act} {w : World} {B C n cap : Nat} {ao : Option Addr} {xs : List Int}
/-- 'append(s, y...)' in a region that draws its order. -/
theorem step_many {K : Act → World → Prop} {E : Prop} (hgd : o.guard = none) (s y : Operand) (ho : o.op = .call { callee := .builtin .append, args := #[s, y], argTypes := #[25, 25] })
    (hs : a.eval s = .slice ao n cap) (hown : Own w B C ao n cap xs) (bo : Option Addr) (m c D : Nat) (news : List Int) (hy : a.eval y = .slice bo m c)
    (hsl : Sl w D bo m c news) (hn : n + m ≤ 1048576) (hB : B ≤ w.heap.size) (hC : C ≤ w.heap.size)
    (h : ∀ ao' cap' w', Own w' B w'.heap.size ao' (n + m) cap' (xs ++ news) → (∀ row, ao = none ∨ ao.map (·.block) = row → w.grownBy w' row) → K (a.put o.dst (.slice ao' (n + m) cap')) w') :
    if Region.wanted o (yielded ops a.tmps) = true then Oper.wp Try.prog o a w K Q else E := by
  have hw : Region.wanted o (yielded ops a.tmps) = true := by simp [Region.wanted, hgd]
  rw [if_pos hw]
  by_cases hm : 0 < m
  · obtain ⟨b, off, rfl, _, hc⟩ := hsl.at_ hm
    refine wp_app s y ho hs hown ⟨b, off, none⟩ m c news hy hsl.len hm (fun i hi => by rw [Addr.add_lit]; exact hc i hi) hn hB fun g cap' w' h1 h2 => (h _ cap' w' h1 (fun row hr => ?_))
    rcases hr with rfl | rfl
    · exact ⟨h2.by_.os, h2.by_.tape, h2.by_.output, h2.by_.size, fun k hk _ => h2.by_.block k hk (by simp)⟩
    · exact h2.by_
  · obtain rfl : m = 0 := by omega
    obtain rfl : news = [] := List.eq_nil_of_length_eq_zero hsl.len
    have hr : ∀ d, (Builtin.append_ #[25, 25] d #[.slice ao n cap, .slice bo 0 c]).run Try.prog w = .ok (.slice ao n cap) w := by
      intro d
      obtain ⟨i0, hi, hz0, hz1, hz2⟩ := info_parts int_info
      rcases hown.form with ⟨rfl, rfl, rfl, rfl⟩ | ⟨g, rfl, _, _, _, hnc, _⟩
      · cases bo <;> simp [Builtin.append_, run_underlying Try.underlying25, sizeOf, typeInfo, hi, Builtin.lenOf, Builtin.firstCells, loadCells, loadCellsFrom]
      · cases bo <;> simp [Builtin.append_, run_underlying Try.underlying25, sizeOf, typeInfo, hi, Builtin.lenOf, Builtin.firstCells, loadCells, loadCellsFrom, hnc, storeCells]
    unfold Oper.wp execOp
    simp only [ho, resolve, invoke, builtin, Sem.run_bind, Sem.run_pure, Result.andThen_ok, List.map_toArray, List.map_cons, List.map_nil, hs, hy, hr]
    refine (h ao cap w ?_ (fun row _ => World.grownBy.refl w row))
    rw [List.append_nil]
    exact hown.wide (Nat.le_refl _) hC
end
set_option maxRecDepth 100000 in
set_option maxHeartbeats 1600000 in
theorem order_mod_i (l s k : Int) (w : World) (hk : Wf k) :
    Calls Try.prog 38 #[.agg #[.int .i64 l, .int .i64 s], .int .i64 k] w (RetMod w l s k) := by
  have z1 : (w.alloc (.cells #[.int .i64 l, .int .i64 s] 24)).heap.size = w.heap.size + 1 := by simp
  have z2 : ((w.alloc (.cells #[.int .i64 l, .int .i64 s] 24)).alloc (.cells #[.int .i64 0, .int .i64 0, .slice none 0 0] 27)).heap.size = w.heap.size + 1 + 1 := by simp
  have b4 := ((box_below w (.cells #[.int .i64 l, .int .i64 s] 24)).alloc (by simp) (.cells #[.int .i64 0, .int .i64 0, .slice none 0 0] 27)).alloc (by simp; omega) (.cells #[.int .i64 l, .int .i64 s, .slice none 0 0] 27)
  have r4 := (Blk.new (w.alloc (.cells #[.int .i64 l, .int .i64 s] 24)) 27 #[.int .i64 0, .int .i64 0, .slice none 0 0]).alloc (.cells #[.int .i64 l, .int .i64 s, .slice none 0 0] 27)
  have m4 := Blk.new ((w.alloc (.cells #[.int .i64 l, .int .i64 s] 24)).alloc (.cells #[.int .i64 0, .int .i64 0, .slice none 0 0] 27)) 27 #[.int .i64 l, .int .i64 s, .slice none 0 0]
  rw [z1] at r4
  rw [z2] at m4
  clear z1 z2
  by_cases hk1 : 1 ≤ k
  · go_enter Try.func38, Try.ntmps38
    go_wp2_with fail
    generalize ((w.alloc (.cells #[.int .i64 l, .int .i64 s] 24)).alloc (.cells #[.int .i64 0, .int .i64 0, .slice none 0 0] 27)).alloc (.cells #[.int .i64 l, .int .i64 s, .slice none 0 0] 27) = w4 at b4 r4 m4 ⊢
    have c0 := m4.cell 0
    have c1 := m4.cell 1
    have c2 := m4.cell 2
    have f2 := m4.frozen 2
    simp at c0 c1 c2
    have hm4 := m4.lt
    have hr4 := r4.lt
    have oN : ∀ W : World, Own W w4.heap.size W.heap.size none 0 0 [] := fun W => Own.nil
    go_region_law (first
      | (refine step_many rfl (.tmp 12) (.tmp 14) rfl (by simp [Act.eval]) (oN _) a5 n5 d5 _ (coefs k) (by simp [Act.eval]) s5 (by omega) hS5 (Nat.le_refl _) ?_; intro a6 d6 w6 o6 hg6; have hg := hg6 none (.inl rfl); clear hg6; have m6 := m5.grown hg (by simp); have c2'' := m6.cell 2; have f2'' := m6.frozen 2; simp at c2'')
      | (go_simp; go_at_call 75; refine (coefs_i k w4.drew hk).mono ?_; rintro e w5 ⟨a5, n5, d5, rfl, o5, b5⟩; have m5 := m4.drew.below b5 m4.lt; have r5 := r4.drew.below b5 r4.lt; have c2' := m5.cell 2; have f2' := m5.frozen 2; simp at c2'; have hn5 : n5 ≤ 1048576 := (by rw [← o5.len]; have := coefs_len k; omega); have s5 := o5.sl hn5; have hS5 : w4.heap.size ≤ w5.heap.size := b5.size))
    all_goals
      rw [Nat.zero_add, List.nil_append] at o6
      have b6 : Below w.heap.size w w6 := (b4.drew.trans (b5.mono b4.drew.size)).trans ⟨hg.os, hg.tape, hg.output, hg.size, fun j hj => hg.block j (by omega) (by simp)⟩
      have r6 := r5.grown hg (by simp)
      have hS6 : w5.heap.size ≤ w6.heap.size := hg.size
      have m7 := m6.set_ 2 (.slice a6 n5 d6)
      simp at m7
      have r7 := r6.far (p := ⟨w.heap.size + 1 + 1, 2, none⟩) (by simp) (.slice a6 n5 d6)
      have o7 := o6.setFar (w.heap.size + 1 + 1) 2 (.slice a6 n5 d6) (.inl hm4)
      have b7 := b6.setCell (p := ⟨w.heap.size + 1 + 1, 2, none⟩) (by simp; omega) (.slice a6 n5 d6)
      have z7 : (w6.setCell ⟨w.heap.size + 1 + 1, 2, none⟩ (.slice a6 n5 d6)).heap.size = w6.heap.size := by simp [World.setCell]
      clear c0 c1 c2 f2 c2' f2' c2'' f2'' m4 r4 m5 r5 m6 r6 b4 b5 b6 hg o6 s5 oN
      have hk5 : n5 = (coefs k).length := o5.len.symm
      clear o5
      generalize w6.setCell ⟨w.heap.size + 1 + 1, 2, none⟩ (.slice a6 n5 d6) = w7 at m7 r7 o7 b7 z7 ⊢
      have hr7 := r7.lt
      have hm7 := m7.lt
      have hW7 : w4.heap.size ≤ w7.heap.size := by omega
      have sl7 := (o7.sl hn5).more (Nat.le_of_eq z7.symm)
      clear z7
      by_cases hk6 : k ≤ 6
      · have hn2 : 2 ≤ n5 := by rw [hk5, coefs_length (by omega) hk6]; omega
        clear hk5
        have he : (0 : Int) < (n5 : Int) := by omega
        have hcut := sl7.cut (p := 1) (by omega)
        have hr1 : ∀ W, (Instr.slice 25 (.slice a6 n5 d6) (some (.int .i64 1)) none none).run Try.prog W = .ok (.slice (cutAt a6 d6 1) (n5 - 1) (d6 - 1)) W := fun W => run_cut W a6 n5 d6 1 (by omega)
        have c0 := m7.cell 0
        have c1 := m7.cell 1
        have c2 := m7.cell 2
        have f2 := m7.frozen 2
        simp at c0 c1 c2
        go_wp2_with fail
        refine (clone_any _ _ _ ((coefs k).drop 1) _ hcut).mono ?_
        rintro e w8 ⟨a8, d8, rfl, o8, b⟩
        have b8 := b7.trans (b.mono b7.size)
        have m8 := m7.below b m7.lt
        have r8 := r7.below b r7.lt
        have hS8 := b.size
        clear b b7 m7 r7 o7 sl7 hcut hr1 c0 c1 c2 f2
        have c0 := m8.cell 0
        have c1 := m8.cell 1
        have c2 := m8.cell 2
        have f2 := m8.frozen 2
        simp at c0 c1 c2
        go_wp2_with fail
        have m9 := m8.set_ 2 (.slice a8 (n5 - 1) d8)
        simp at m9
        have r9 := r8.far (p := ⟨w.heap.size + 1 + 1, 2, none⟩) (by simp) (.slice a8 (n5 - 1) d8)
        have o9 := o8.setFar (w.heap.size + 1 + 1) 2 (.slice a8 (n5 - 1) d8) (.inl (by omega))
        have b9 := b8.setCell (p := ⟨w.heap.size + 1 + 1, 2, none⟩) (by simp; omega) (.slice a8 (n5 - 1) d8)
        have z9 : (w8.setCell ⟨w.heap.size + 1 + 1, 2, none⟩ (.slice a8 (n5 - 1) d8)).heap.size = w8.heap.size := by simp [World.setCell]
        clear c0 c1 c2 f2 m8 r8 o8 b8
        generalize w8.setCell ⟨w.heap.size + 1 + 1, 2, none⟩ (.slice a8 (n5 - 1) d8) = w9 at m9 r9 o9 b9 z9 ⊢
        refine (isMod_i l s a8 (n5 - 1) d8 ((coefs k).drop 1) _ ((o9.sl (by omega)).more (Nat.le_of_eq z9.symm))).mono ?_
        rw [om_isMod hk1 hk6]
        cases hq : isQ l s
        · have hno := Lib.hid (show omB l s k = false by simp [omB, hq])
          clear hq
          rintro e w10 ⟨rfl, b⟩
          have b10 := b9.trans (b.mono b9.size)
          have r10 := r9.below b r9.lt
          have hS10 := b.size
          clear b b9 r9 m9 o9
          have d0 := r10.cell 0
          have d1 := r10.cell 1
          have d2 := r10.cell 2
          have g0 := r10.frozen 0
          have g1 := r10.frozen 1
          have g2 := r10.frozen 2
          simp at d0 d1 d2
          go_wp2_with fail
          obtain ⟨r12, b12, z12, _⟩ := mod_put (l := 0) (s := 0) (a := none) (n := 0) (c := 0) r10 b10 (by omega)
          generalize ((w10.setCell ⟨w.heap.size + 1, 0, none⟩ (.int .i64 0)).setCell ⟨w.heap.size + 1, 1, none⟩ (.int .i64 0)).setCell ⟨w.heap.size + 1, 2, none⟩ (.slice none 0 0) = w12 at r12 b12 ⊢
          have e0 := r12.cell 0
          have e1 := r12.cell 1
          have e2 := r12.cell 2
          simp at e0 e1 e2
          exact bodyPost_ret (v := .tuple #[.agg #[.int .i64 0, .int .i64 0, .slice none 0 0], .bool false]) (by simp [results, Try.results38, go_sem, e0, e1, e2]) rfl (ret_mod_no hno.out b12)
        · have hyes := Lib.hid (show omB l s k = true by simp [omB, hq]; omega)
          clear hq
          rintro e w10 ⟨rfl, b⟩
          have b10 := b9.trans (b.mono b9.size)
          have r10 := r9.below b r9.lt
          have m10 := m9.below b m9.lt
          have o10 := o9.keep b (Nat.le_of_eq z9.symm)
          have hS10 := b.size
          have hz9 : w8.heap.size ≤ w10.heap.size := by omega
          have hz9' : w9.heap.size ≤ w8.heap.size := by omega
          clear b b9 r9 m9 o9 z9
          have d0 := r10.cell 0
          have d1 := r10.cell 1
          have d2 := r10.cell 2
          have g0 := r10.frozen 0
          have g1 := r10.frozen 1
          have g2 := r10.frozen 2
          simp at d0 d1 d2
          have c0 := m10.cell 0
          have c1 := m10.cell 1
          have c2 := m10.cell 2
          have f2 := m10.frozen 2
          simp at c0 c1 c2
          go_wp2_with fail
          obtain ⟨r11, b11, z11, hown⟩ := mod_put (l := l) (s := s) (a := a8) (n := n5 - 1) (c := d8) r10 b10 (by omega)
          have o11 := hown _ _ _ _ _ _ o10 (.inl (by omega))
          clear c0 c1 c2 f2 d0 d1 d2 g0 g1 g2 hown
          generalize ((w10.setCell ⟨w.heap.size + 1, 0, none⟩ (.int .i64 l)).setCell ⟨w.heap.size + 1, 1, none⟩ (.int .i64 s)).setCell ⟨w.heap.size + 1, 2, none⟩ (.slice a8 (n5 - 1) d8) = w11 at r11 b11 z11 o11 ⊢
          have e0 := r11.cell 0
          have e1 := r11.cell 1
          have e2 := r11.cell 2
          simp at e0 e1 e2
          exact bodyPost_ret (v := .tuple #[.agg #[.int .i64 l, .int .i64 s, .slice a8 (n5 - 1) d8], .bool true]) (by simp [results, Try.results38, go_sem, e0, e1, e2]) rfl (ret_mod_yes hyes.out (o11.wide (by omega) (by omega)) b11)
      · have hno := Lib.hid (show omB l s k = false by simp [omB]; omega)
        have hC : coefs k = [] := coefs_no (by simp [ordB]; omega)
        rw [hC] at hk5 sl7
        obtain rfl : 0 = n5 := hk5.symm
        clear hC hk5
        have c0 := m7.cell 0
        have c1 := m7.cell 1
        have c2 := m7.cell 2
        have f2 := m7.frozen 2
        simp at c0 c1 c2
        go_wp2_with fail
        refine (isMod_i l s a6 0 d6 [] _ sl7).mono ?_
        rw [om_nil]
        rintro e w8 ⟨rfl, b⟩
        have b8 := b7.trans (b.mono b7.size)
        have r8 := r7.below b r7.lt
        have hS8 := b.size
        clear b r7 m7 b7 o7 sl7 c0 c1 c2 f2
        have d0 := r8.cell 0
        have d1 := r8.cell 1
        have d2 := r8.cell 2
        have g0 := r8.frozen 0
        have g1 := r8.frozen 1
        have g2 := r8.frozen 2
        simp at d0 d1 d2
        go_wp2_with fail
        obtain ⟨r9, b9, z9, _⟩ := mod_put (l := 0) (s := 0) (a := none) (n := 0) (c := 0) r8 b8 (by omega)
        generalize ((w8.setCell ⟨w.heap.size + 1, 0, none⟩ (.int .i64 0)).setCell ⟨w.heap.size + 1, 1, none⟩ (.int .i64 0)).setCell ⟨w.heap.size + 1, 2, none⟩ (.slice none 0 0) = w9 at r9 b9 ⊢
        have e0 := r9.cell 0
        have e1 := r9.cell 1
        have e2 := r9.cell 2
        simp at e0 e1 e2
        exact bodyPost_ret (v := .tuple #[.agg #[.int .i64 0, .int .i64 0, .slice none 0 0], .bool false]) (by simp [results, Try.results38, go_sem, e0, e1, e2]) rfl (ret_mod_no hno.out b9)
  · have hno := Lib.hid (show omB l s k = false by simp [omB]; omega)
    go_enter Try.func38, Try.ntmps38
    go_wp2_with fail
    generalize ((w.alloc (.cells #[.int .i64 l, .int .i64 s] 24)).alloc (.cells #[.int .i64 0, .int .i64 0, .slice none 0 0] 27)).alloc (.cells #[.int .i64 l, .int .i64 s, .slice none 0 0] 27) = w4 at b4 r4 m4 ⊢
    have c0 := m4.cell 0
    have c1 := m4.cell 1
    have c2 := m4.cell 2
    have f2 := m4.frozen 2
    simp at c0 c1 c2
    have hm4 := m4.lt
    have hr4 := r4.lt
    go_wp2_with fail
    refine (isMod_i l s none 0 0 [] _ Sl.nil).mono ?_
    rw [om_nil]
    rintro e w5 ⟨rfl, b⟩
    have b5 := b4.trans (b.mono b4.size)
    have r5 := r4.below b r4.lt
    have hS5 := b.size
    clear b r4 m4 b4 c0 c1 c2 f2
    have d0 := r5.cell 0
    have d1 := r5.cell 1
    have d2 := r5.cell 2
    have g0 := r5.frozen 0
    have g1 := r5.frozen 1
    have g2 := r5.frozen 2
    simp at d0 d1 d2
    go_wp2_with fail
    obtain ⟨r9, b9, z9, _⟩ := mod_put (l := 0) (s := 0) (a := none) (n := 0) (c := 0) r5 b5 (by omega)
    generalize ((w5.setCell ⟨w.heap.size + 1, 0, none⟩ (.int .i64 0)).setCell ⟨w.heap.size + 1, 1, none⟩ (.int .i64 0)).setCell ⟨w.heap.size + 1, 2, none⟩ (.slice none 0 0) = w9 at r9 b9 ⊢
    have e0 := r9.cell 0
    have e1 := r9.cell 1
    have e2 := r9.cell 2
    simp at e0 e1 e2
    exact bodyPost_ret (v := .tuple #[.agg #[.int .i64 0, .int .i64 0, .slice none 0 0], .bool false]) (by simp [results, Try.results38, go_sem, e0, e1, e2]) rfl (ret_mod_no hno.out b9)
end Go.Proofs.Yticfdmgbpgfogaa
