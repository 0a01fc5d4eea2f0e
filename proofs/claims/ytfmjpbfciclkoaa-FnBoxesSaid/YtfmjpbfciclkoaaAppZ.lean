/- 'append(s, make([]int, m)...)' onto a row of ints of the call's own: m zeros. -/
import Derived.Test.YtfmjpbfciclkoaaApp
namespace Go.Proofs.Ytfmjpbfciclkoaa
open Go.RowKit

theorem zeroCells_ints (z : Array Value) (hz : z = #[.int .i64 0]) (m : Nat) : (Builtin.zeroCells z m).toList = Ints (List.replicate m 0) := by
  subst hz
  rw [← made_zero m]
  simp [Builtin.zeroCells, madeCells]

section
variable {w : World} {B C n cap g : Nat} {xs : List Int}
theorem run_zeros (d : TypeId) (hown : Own w B C (some ⟨g, 0, none⟩) n cap xs) (m : Nat) (hn : n + m ≤ 1048576) (hB : B ≤ w.heap.size) :
    ∃ g' cap' w', (Builtin.append_ #[22, 3] d #[.slice (some ⟨g, 0, none⟩) n cap, .int .i64 m]).run Try.prog w = .ok (.slice (some ⟨g', 0, none⟩) (n + m) cap') w' ∧
      Own w' B w'.heap.size (some ⟨g', 0, none⟩) (n + m) cap' (xs ++ List.replicate m 0) ∧ Grew w w' (some ⟨g, 0, none⟩) g' := by
  obtain ⟨i0, hi, hz0, hz1, hz2⟩ := info_parts int_info
  have hwrap : IntKind.i64.wrap (m : Int) = (m : Int) := IntWalk.i64_in _ (by omega)
  have hneg : ¬ ((m : Int) < 0) := by omega
  have hbig : ¬ (281474976710656 < (m : Int) * 8) := by omega
  have hzv : (Value.int IntKind.i64 0).cells = #[Value.int .i64 0] := rfl
  obtain ⟨hrow, hC⟩ := hown
  have hlen := hrow.1
  rw [Ints_length] at hlen
  rcases hrow.2 with ⟨hv, _⟩ | ⟨g1, c1, cur, hv, hbg, hg, hnc, hcm, hcs, htake⟩
  · cases hv
  · injection hv with e1 e2 e3
    injection e1 with e1
    injection e1 with e1
    subst e1 e3
    by_cases hm : m = 0
    · subst hm
      have hw0 : IntKind.i64.wrap 0 = 0 := IntWalk.i64_in _ (by omega)
      refine ⟨g, cap, w, ?_, ?_, ⟨World.grownBy.refl w _, .inl ⟨_, rfl, rfl⟩⟩⟩
      · simp [Builtin.append_, run_underlying Try.underlying22, run_underlying Try.underlying3, sizeOf, typeInfo, hi, hz2, hnc, storeCells, asInt, asIntOf, hw0]
      · rw [List.replicate_zero, List.append_nil]
        exact Own.of hrow
    · by_cases hroom : n + m ≤ cap
      · -- there is room
        have hst := run_storeCells_at Try.prog g n 3 (Ints (List.replicate m 0)) 0 cur w hg (by rw [Ints_length, List.length_replicate, hcs]; omega) (Ints_one _)
        simp only [Nat.add_zero] at hst
        have hzl := zeroCells_ints #[.int .i64 0] rfl m
        have hr : (Builtin.append_ #[22, 3] d #[.slice (some ⟨g, 0, none⟩) n cap, .int .i64 m]).run Try.prog w = .ok (.slice (some ⟨g, 0, none⟩) (n + m) cap)
            (w.setRow g (cur.toList.take n ++ Ints (List.replicate m 0) ++ cur.toList.drop (n + (Ints (List.replicate m 0)).length)).toArray) := by
          simp [Builtin.append_, run_underlying Try.underlying22, run_underlying Try.underlying3, sizeOf, typeInfo, hi, hz0, hz1, hz2, hm, hroom, hwrap, hneg, hbig, zeroValue, hzv, hzl, Addr.add_lit, hst, asInt, asIntOf]
        refine ⟨g, cap, _, hr, Own.of ⟨?_, .inr ⟨g, cap, _, rfl, hbg, setRow_heap w g cur _ 3 _ hg, hroom, hcm, ?_, ?_⟩⟩, ⟨⟨rfl, rfl, rfl, by simp, fun k _ hk => setRow_other w g k _ (fun e => hk (by simp [e]))⟩, .inl ⟨_, rfl, rfl⟩⟩⟩
        · rw [Ints_length, List.length_append, List.length_replicate]; omega
        · simp [Ints_length]; omega
        · rw [Nat.mul_one] at htake ⊢
          rw [Ints_append, ← htake]
          have hl2 : (cur.toList.take n ++ Ints (List.replicate m 0)).length = n + m := by simp [Ints_length]; omega
          rw [← hl2]
          exact List.take_left
      · -- a new row
        have hge := grownCap_ge w (n + m) cap 3
        have hcm2 := grownCap_le_maxLen w (n + m) cap 3 (by unfold maxLen; omega)
        have hfit : ¬ (281474976710656 < Builtin.nextslicecap (n + m) cap * 8) := by
          have := nextslicecap_le (need := n + m) (old := cap) (by omega)
          omega
        have h63 : ¬ (9223372036854775807 < ((n : Int) + (m : Int))) := by omega
        have hfo := run_firstCells_some (P := Try.prog) w.drew 1 n ⟨g, 0, none⟩ n cap (Ints xs) (by rw [Ints_length]; omega) (by simpa using World.ownsRow.cells hrow (g := g) rfl)
        have hzl := zeroCells_ints #[.int .i64 0] rfl m
        have hr : (Builtin.append_ #[22, 3] d #[.slice (some ⟨g, 0, none⟩) n cap, .int .i64 m]).run Try.prog w = .ok (.slice (some ⟨w.heap.size, 0, none⟩) (n + m) (grownCap w (n + m) cap 3))
            (w.drew.alloc (.cells ((Ints xs).toArray ++ Builtin.zeroCells #[.int .i64 0] m ++ Builtin.zeroCells #[.int .i64 0] (grownCap w (n + m) cap 3 - (n + m))) 3)) := by
          simp [Builtin.append_, run_underlying Try.underlying22, run_underlying Try.underlying3, sizeOf, typeInfo, hi, hz0, hz1, hz2, hm, hroom, hwrap, hneg, hbig, hfit, h63, zeroValue, hzv, hfo, Question.forced, newRow, grownCap, asInt, asIntOf]
        refine ⟨w.heap.size, _, _, hr, Own.of ⟨?_, .inr ⟨w.heap.size, _, _, rfl, hB, heap_alloc_new w.drew _, hge, hcm2, ?_, ?_⟩⟩, ⟨⟨rfl, rfl, rfl, by simp, fun k hk _ => heap_alloc_old w.drew _ hk⟩, .inr (Nat.le_refl _)⟩⟩
        · rw [Ints_length, List.length_append, List.length_replicate]; omega
        · simp [Ints_length, size_zeroCells]; omega
        · rw [Array.toList_append, Array.toList_append, hzl, Ints_append]
          have hl2 : (Ints xs ++ Ints (List.replicate m 0)).length = n + m := by simp [Ints_length]; omega
          rw [Nat.mul_one, ← hl2]
          exact List.take_left
end
section
variable {w : World} {o : Oper} {a : Act} {ops : Array Oper} {rest : List Oper} {Q : Exit → Act → World → Prop} {B C n cap g : Nat} {xs : List Int}
theorem wp_zeros {K : Act → World → Prop} (s y : Operand) (ho : o.op = .call { callee := .builtin .append, args := #[s, y], argTypes := #[22, 3] })
    (hs : a.eval s = .slice (some ⟨g, 0, none⟩) n cap) (hown : Own w B C (some ⟨g, 0, none⟩) n cap xs) (m : Nat) (hy : a.eval y = .int .i64 m) (hn : n + m ≤ 1048576) (hB : B ≤ w.heap.size)
    (h : ∀ g' cap' w', Own w' B w'.heap.size (some ⟨g', 0, none⟩) (n + m) cap' (xs ++ List.replicate m 0) → Grew w w' (some ⟨g, 0, none⟩) g' → K (a.put o.dst (.slice (some ⟨g', 0, none⟩) (n + m) cap')) w') : o.wp Try.prog a w K Q := by
  obtain ⟨g', cap', w', hr, h1, h2⟩ := run_zeros o.type hown m hn hB
  unfold Oper.wp execOp
  simp only [ho, resolve, invoke, builtin, Sem.run_bind, Sem.run_pure, Result.andThen_ok, List.map_toArray, List.map_cons, List.map_nil, hs, hy, hr]
  exact h g' cap' w' h1 h2
theorem wpList_zeros (hgd : o.guard = none) (s y : Operand) (ho : o.op = .call { callee := .builtin .append, args := #[s, y], argTypes := #[22, 3] })
    (hs : a.eval s = .slice (some ⟨g, 0, none⟩) n cap) (hown : Own w B C (some ⟨g, 0, none⟩) n cap xs) (m : Nat) (hy : a.eval y = .int .i64 m) (hn : n + m ≤ 1048576) (hB : B ≤ w.heap.size)
    (h : ∀ g' cap' w', Own w' B w'.heap.size (some ⟨g', 0, none⟩) (n + m) cap' (xs ++ List.replicate m 0) → Grew w w' (some ⟨g, 0, none⟩) g' → wpList Try.prog ops Q rest (a.put o.dst (.slice (some ⟨g', 0, none⟩) (n + m) cap')) w') :
    wpList Try.prog ops Q (o :: rest) a w :=
  wpList_plain hgd fun _ hK => wp_zeros s y ho hs hown m hy hn hB fun g' cap' w' h1 h2 => hK _ _ (h g' cap' w' h1 h2)
end
end Go.Proofs.Ytfmjpbfciclkoaa
