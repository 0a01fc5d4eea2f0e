/- The contracts of the helpers of the exact laws of modulators: a copy, the size, equality, marks. -/
import Derived.Test.YtmgjbldnohkodaaMod
import Derived.Test.YtmgjbldnohkodaaBlk
import Derived.Test.YtmgjbldnohkodaaAux
namespace Go.Proofs.Ytmgjbldnohkodaa
open Go.RowKit
set_option linter.unusedVariables false

set_option maxHeartbeats 1600000 in
theorem toM_any (l s : Int) (ao : Option Addr) (n c : Nat) (cs : List Int) (w : World) (ha : Sl w w.heap.size ao n c cs) :
    Calls Try.prog 40 #[.agg #[.int .i64 l, .int .i64 s, .slice ao n c]] w fun e w' => ∃ a' c', e = .returned (.agg #[.int .i64 l, .int .i64 s, .slice a' n c']) ∧ Own w' w.heap.size w'.heap.size a' n c' cs ∧ Below w.heap.size w w' := by
  have b1 := box_below w (.cells #[.int .i64 l, .int .i64 s, .slice ao n c] 58)
  have k1 := Blk.new w 58 #[.int .i64 l, .int .i64 s, .slice ao n c]
  have z1 : (w.alloc (.cells #[.int .i64 l, .int .i64 s, .slice ao n c] 58)).heap.size = w.heap.size + 1 := by simp
  go_enter Try.func40, Try.ntmps40
  go_wp2_with fail
  generalize w.alloc (.cells #[.int .i64 l, .int .i64 s, .slice ao n c] 58) = w1 at b1 k1 z1 ⊢
  have b2 := b1.alloc b1.size (.cells #[.int .i64 0, .int .i64 0, .slice none 0 0] 27)
  have k2 := k1.alloc (.cells #[.int .i64 0, .int .i64 0, .slice none 0 0] 27)
  have r2 := Blk.new w1 27 #[.int .i64 0, .int .i64 0, .slice none 0 0]
  have z2 : (w1.alloc (.cells #[.int .i64 0, .int .i64 0, .slice none 0 0] 27)).heap.size = w1.heap.size + 1 := by simp
  rw [z1] at r2 z2
  generalize w1.alloc (.cells #[.int .i64 0, .int .i64 0, .slice none 0 0] 27) = w2 at b2 k2 r2 z2 ⊢
  have b3 := b2.alloc b2.size (.cells #[.int .i64 0, .int .i64 0, .slice none 0 0] 27)
  have k3 := k2.alloc (.cells #[.int .i64 0, .int .i64 0, .slice none 0 0] 27)
  have r3 := r2.alloc (.cells #[.int .i64 0, .int .i64 0, .slice none 0 0] 27)
  have o3 := Blk.new w2 27 #[.int .i64 0, .int .i64 0, .slice none 0 0]
  have z3 : (w2.alloc (.cells #[.int .i64 0, .int .i64 0, .slice none 0 0] 27)).heap.size = w2.heap.size + 1 := by simp
  rw [z2] at o3 z3
  generalize w2.alloc (.cells #[.int .i64 0, .int .i64 0, .slice none 0 0] 27) = w3 at b3 k3 r3 o3 z3 ⊢
  clear z1 z2 k1 k2 r2 b1 b2
  refine (toQ_any _ _ _).mono ?_
  rintro e w4 ⟨rfl, b⟩
  have b4 := then_then (b3.mono (Nat.le_refl _)) b
  have k4 := k3.below b k3.lt
  have r4 := r3.below b r3.lt
  have o4 := o3.below b o3.lt
  clear b b3 k3 r3 o3 z3
  have c0 := o4.cell 0
  have c1 := o4.cell 1
  have f0 := o4.frozen 0
  have f1 := o4.frozen 1
  have p2 := k4.cell 2
  simp at c0 c1 p2
  go_wp2_with fail
  have b5 := (b4.setCell (p := ⟨w.heap.size + 1 + 1, 0, none⟩) (by simp; omega) (.int .i64 l)).setCell (p := ⟨w.heap.size + 1 + 1, 1, none⟩) (by simp; omega) (.int .i64 s)
  have r5 := (r4.far (p := ⟨w.heap.size + 1 + 1, 0, none⟩) (by simp) (.int .i64 l)).far (p := ⟨w.heap.size + 1 + 1, 1, none⟩) (by simp) (.int .i64 s)
  have o5 := (o4.set_ 0 (.int .i64 l)).set_ 1 (.int .i64 s)
  simp at o5
  clear c0 c1 f0 f1 p2 k4 r4 o4 b4
  generalize (w4.setCell ⟨w.heap.size + 1 + 1, 0, none⟩ (.int .i64 l)).setCell ⟨w.heap.size + 1 + 1, 1, none⟩ (.int .i64 s) = w5 at b5 r5 o5 ⊢
  refine (toIntS_any _ _ _ cs _ ((ha.keep b5).more b5.size)).mono ?_
  rintro e w6 ⟨a6, d6, rfl, s6, b⟩
  have b6 := b5.trans (b.mono b5.size)
  have r6 := r5.below b r5.lt
  have o6 := o5.below b o5.lt
  have hO := o5.lt
  clear b b5 r5 o5
  have c0 := o6.cell 0
  have c1 := o6.cell 1
  have c2 := o6.cell 2
  have f2 := o6.frozen 2
  have d0 := r6.cell 0
  have d1 := r6.cell 1
  have d2 := r6.cell 2
  have g0 := r6.frozen 0
  have g1 := r6.frozen 1
  have g2 := r6.frozen 2
  simp at c0 c1 c2 d0 d1 d2
  go_wp2_with fail
  clear c0 c1 c2 f2 d0 d1 d2 g0 g1 g2
  have r7 := (((r6.far (p := ⟨w.heap.size + 1 + 1, 2, none⟩) (by simp) (.slice a6 n d6)).set_ 0 (.int .i64 l)).set_ 1 (.int .i64 s)).set_ 2 (.slice a6 n d6)
  simp at r7
  have s7 := (((s6.setFar (w.heap.size + 1 + 1) 2 (.slice a6 n d6) (.inl hO)).setFar (w.heap.size + 1) 0 (.int .i64 l) (.inl (by omega))).setFar (w.heap.size + 1) 1 (.int .i64 s) (.inl (by omega))).setFar (w.heap.size + 1) 2 (.slice a6 n d6) (.inl (by omega))
  have b7 := (((b6.setCell (p := ⟨w.heap.size + 1 + 1, 2, none⟩) (by simp; omega) (.slice a6 n d6)).setCell (p := ⟨w.heap.size + 1, 0, none⟩) (by simp) (.int .i64 l)).setCell (p := ⟨w.heap.size + 1, 1, none⟩) (by simp) (.int .i64 s)).setCell (p := ⟨w.heap.size + 1, 2, none⟩) (by simp) (.slice a6 n d6)
  have z7 : w6.heap.size = ((((w6.setCell ⟨w.heap.size + 1 + 1, 2, none⟩ (.slice a6 n d6)).setCell ⟨w.heap.size + 1, 0, none⟩ (.int .i64 l)).setCell ⟨w.heap.size + 1, 1, none⟩ (.int .i64 s)).setCell ⟨w.heap.size + 1, 2, none⟩ (.slice a6 n d6)).heap.size := by simp [World.setCell]
  generalize (((w6.setCell ⟨w.heap.size + 1 + 1, 2, none⟩ (.slice a6 n d6)).setCell ⟨w.heap.size + 1, 0, none⟩ (.int .i64 l)).setCell ⟨w.heap.size + 1, 1, none⟩ (.int .i64 s)).setCell ⟨w.heap.size + 1, 2, none⟩ (.slice a6 n d6) = w7 at r7 s7 b7 z7 ⊢
  have d0 := r7.cell 0
  have d1 := r7.cell 1
  have d2 := r7.cell 2
  simp at d0 d1 d2
  exact bodyPost_ret (v := .agg #[.int .i64 l, .int .i64 s, .slice a6 n d6]) (by simp [results, Try.results40, go_sem, d0, d1, d2]) rfl ⟨a6, d6, rfl, s7.wide (by omega) (by omega), b7⟩
theorem szM_any (l s : Int) (ao : Option Addr) (n c : Nat) (w : World) (hn : n ≤ 1048576) :
    Calls Try.prog 39 #[.agg #[.int .i64 l, .int .i64 s, .slice ao n c], .int .i64 1048576] w fun e w' => e = .returned (.int .i64 (1048576 - n)) ∧ Below w.heap.size w w' := by
  go_enter Try.func39, Try.ntmps39
  go_wp2
  go_ret
  exact ⟨rfl, box_below _ _⟩
theorem szM_over (l s : Int) (ao : Option Addr) (n c : Nat) (w : World) (hn : ¬ n ≤ 1048576 ∧ n ≤ 9223372036854775807) :
    Calls Try.prog 39 #[.agg #[.int .i64 l, .int .i64 s, .slice ao n c], .int .i64 1048576] w fun e w' => e = .returned (.int .i64 (-1)) ∧ Below w.heap.size w w' := by
  go_enter Try.func39, Try.ntmps39
  go_wp2
  go_ret
  exact ⟨rfl, box_below _ _⟩
theorem eqQ_true (l s : Int) (w : World) : Calls Try.prog 78 #[.agg #[.int .i64 l, .int .i64 s], .agg #[.int .i64 l, .int .i64 s]] w fun e w' => e = .returned (.bool true) ∧ Below w.heap.size w w' := by
  have h1 : (l != l) = false := by simp
  have h2 : (s != s) = false := by simp
  go_enter Try.func78, Try.ntmps78
  go_wp2_with fail
  go_ret
  exact ⟨rfl, ((Below.refl _ _).alloc (Nat.le_refl _) _).alloc (by simp) _⟩
set_option maxHeartbeats 800000 in
theorem eqM_true (l s : Int) (ao bo : Option Addr) (n c d : Nat) (cs : List Int) (w : World) (ha : Sl w w.heap.size ao n c cs) (hb : Sl w w.heap.size bo n d cs) :
    Calls Try.prog 42 #[.agg #[.int .i64 l, .int .i64 s, .slice ao n c], .agg #[.int .i64 l, .int .i64 s, .slice bo n d]] w fun e w' => e = .returned (.bool true) ∧ Below w.heap.size w w' := by
  have q0 := (mbox_new w l s ao n c 27).alloc (.cells #[.int .i64 l, .int .i64 s, .slice bo n d] 27)
  have q1 := mbox_new (w.alloc (.cells #[.int .i64 l, .int .i64 s, .slice ao n c] 27)) l s bo n d 27
  have b0 := (box_below w (.cells #[.int .i64 l, .int .i64 s, .slice ao n c] 27)).alloc (by simp) (.cells #[.int .i64 l, .int .i64 s, .slice bo n d] 27)
  have hz : (w.alloc (.cells #[.int .i64 l, .int .i64 s, .slice ao n c] 27)).heap.size = w.heap.size + 1 := by simp
  rw [hz] at q1
  clear hz
  go_enter Try.func42, Try.ntmps42
  go_wp2_with fail
  generalize (w.alloc (.cells #[.int .i64 l, .int .i64 s, .slice ao n c] 27)).alloc (.cells #[.int .i64 l, .int .i64 s, .slice bo n d] 27) = w2 at q0 q1 b0 ⊢
  refine (eqQ_true _ _ _).mono ?_
  rintro e w3 ⟨rfl, b⟩
  have b3 := then_then b0 b
  have p0 := q0.next b
  have p1 := q1.next b
  clear q0 q1 b0 b
  have x2 := p0.2.2.1
  have y2 := p1.2.2.1
  go_wp2_with fail
  refine (eqIntS_true _ _ _ _ _ cs _ ((ha.keep b3).more b3.size) ((hb.keep b3).more b3.size)).mono ?_
  rintro e w4 ⟨rfl, b⟩
  have b4 := then_then b3 b
  go_wp2_with fail
  go_ret
  exact ⟨rfl, b4⟩
end Go.Proofs.Ytmgjbldnohkodaa
