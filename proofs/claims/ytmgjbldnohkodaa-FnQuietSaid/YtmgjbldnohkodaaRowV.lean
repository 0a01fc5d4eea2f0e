/- A row of slices of ints of the call's own: each element is a slice of N ints that lies in another block; what an append of one leaves. -/
import Derived.Test.YtmgjbldnohkodaaBlk
namespace Go.Proofs.Ytmgjbldnohkodaa
open Go.RowKit
set_option linter.unusedVariables false

theorem sl_info : (Try.prog.info? 25).map (fun i => (i.zero, i.size, i.bytes)) = some (some (.slice none 0 0), 1, 24) := by kernel_rfl
/-- The value is a slice of N ints, in another block than g. -/
def StAt (w : World) (g N : Nat) (xs : List Int) (v : Value) : Prop :=
  ∃ b off c, v = .slice (some ⟨b, off, none⟩) N c ∧ N ≤ c ∧ b ≠ g ∧ b < w.heap.size ∧ xs.length = N ∧ ∀ j, j < N → w.cell? ⟨b, off + j, none⟩ = some (.int .i64 (xs.getD j 0))
section
variable {w w' : World} {B g g1 n cap N : Nat} {xs : List Int} {v : Value} {f : Nat → List Int} {vs : List Value}
theorem StAt.grown (h : StAt w g N xs v) (hg : w.grownBy w' (some g)) (h1 : g1 = g ∨ w.heap.size ≤ g1) : StAt w' g1 N xs v := by
  obtain ⟨b, off, c, rfl, hc, hne, hlt, hl, hcs⟩ := h
  refine ⟨b, off, c, rfl, hc, ?_, Nat.lt_of_lt_of_le hlt hg.size, hl, fun j hj => ?_⟩
  · rcases h1 with rfl | h1
    · exact hne
    · omega
  · exact (World.cell?_of_block (a := ⟨b, off + j, none⟩) (hg.block b hlt (fun e => by injection e with e; exact hne e))).trans (hcs j hj)
theorem StAt.below (h : StAt w g N xs v) (hb : Below w.heap.size w w') : StAt w' g N xs v := by
  obtain ⟨b, off, c, rfl, hc, hne, hlt, hl, hcs⟩ := h
  exact ⟨b, off, c, rfl, hc, hne, Nat.lt_of_lt_of_le hlt hb.size, hl, fun j hj => (hb.cell (p := ⟨b, off + j, none⟩) hlt).trans (hcs j hj)⟩
theorem StAt.of {ao : Option Addr} {n c : Nat} (h : Sl w w.heap.size ao n c xs) (hn : 0 < n) (hg : w.heap.size ≤ g) : StAt w g n xs (.slice ao n c) := by
  obtain ⟨b, off, rfl, hb, hc⟩ := h.at_ hn
  exact ⟨b, off, c, rfl, h.2.1, by omega, hb, h.len, hc⟩
theorem StAt.own {ao : Option Addr} {n c B C : Nat} (h : Own w B C ao n c xs) (hn : 0 < n) (h2 : n ≤ 1048576) (hg : g < B) : StAt w g n xs (.slice ao n c) := by
  rcases h.form with ⟨_, rfl, _⟩ | ⟨b, rfl, hB, _, hlt, hnc, _⟩
  · omega
  · exact ⟨b, 0, c, rfl, hnc, by omega, hlt, h.len, fun j hj => by rw [Nat.zero_add]; exact h.cellsAt j hj⟩
theorem StAt.slice (h : StAt w g N xs v) (hN : N ≤ 1048576) : ∃ b off c, v = .slice (some ⟨b, off, none⟩) N c ∧ Sl w w.heap.size (some ⟨b, off, none⟩) N c xs := by
  obtain ⟨b, off, c, rfl, hc, hne, hlt, hl, hcs⟩ := h
  exact ⟨b, off, c, rfl, hl, hc, hN, fun _ => ⟨b, off, rfl, hlt, hcs⟩⟩
/-- A row of n such slices, in block g. -/
structure RowsV (w : World) (B g n cap N : Nat) (f : Nat → List Int) (vs : List Value) : Prop where
  row : w.ownsRow B 25 1 (.slice (some ⟨g, 0, none⟩) n cap) n vs
  at_ : ∀ i, i < n → StAt w g N (f i) (vs.getD i undef)
theorem RowsV.len (h : RowsV w B g n cap N f vs) : vs.length = n := by have := h.row.1; omega
theorem RowsV.cell (h : RowsV w B g n cap N f vs) (i : Nat) (hi : i < n) : w.cell? ⟨g, i, none⟩ = some (vs.getD i undef) := by
  have h1 := World.ownsRow.cellAt h.row i (by omega)
  rw [h1, List.getElem?_eq_getElem (by rw [h.len]; exact hi)]
  simp [List.getD, List.getElem?_eq_getElem (show i < vs.length by rw [h.len]; exact hi)]
theorem RowsV.lt (h : RowsV w B g n cap N f vs) : B ≤ g ∧ g < w.heap.size := h.row.lt g rfl
theorem RowsV.below (h : RowsV w B g n cap N f vs) (hb : Below w.heap.size w w') : RowsV w' B g n cap N f vs :=
  ⟨World.ownsRow.kept h.row (below_grownBy hb (Nat.le_refl _)) (.inr (fun e => by cases e)), fun i hi => (h.at_ i hi).below hb⟩
theorem RowsV.one (hB : B ≤ w.heap.size) (h : StAt (w.alloc (.cells #[v] 25)) w.heap.size N (f 0) v) : RowsV (w.alloc (.cells #[v] 25)) B w.heap.size 1 1 N f [v] :=
  ⟨⟨by simp, .inr ⟨w.heap.size, 1, #[v], rfl, hB, heap_alloc_new w _, Nat.le_refl _, by unfold maxLen; omega, rfl, rfl⟩⟩, fun i hi => by
    obtain rfl : i = 0 := by omega
    exact h⟩
end
/-- 'append(rows, x)': the row has one slice more. -/
theorem wpList_state {w : World} {o : Oper} {a : Act} {ops : Array Oper} {rest : List Oper} {Q : Exit → Act → World → Prop} {B g n cap N : Nat} {f : Nat → List Int} {vs : List Value} (hgd : o.guard = none) (s y : Operand) (ho : o.op = .call { callee := .builtin .append, args := #[s, y], argTypes := #[75, 75] })
    (hs : a.eval s = .slice (some ⟨g, 0, none⟩) n cap) (hR : RowsV w B g n cap N f vs) (H c : Nat) (v : Value) (hy : a.eval y = .slice (some ⟨H, 0, none⟩) 1 c) (hx : w.cell? ⟨H, 0, none⟩ = some v)
    (hst : StAt w g N (f n) v) (hn : n + 1 ≤ 1000) (hB : B ≤ w.heap.size)
    (h : ∀ g1 cap' w', RowsV w' B g1 (n + 1) cap' N f (vs ++ [v]) → Below B w w' → wpList Try.prog ops Q rest (a.put o.dst (.slice (some ⟨g1, 0, none⟩) (n + 1) cap')) w') :
    wpList Try.prog ops Q (o :: rest) a w := by
  obtain ⟨i0, hi, hz0, hz1, hz2⟩ := info_parts sl_info
  have hlt := hR.lt
  have hl := hR.len
  refine wpList_plain hgd fun K hK => wp_append_lies w s y 75 ho B 25 i0 (.slice none 0 0) 1 24 Try.underlying75 hi hz0 hz1 hz2 rfl (by omega) (.slice (some ⟨g, 0, none⟩) n cap) n vs hs hR.row ⟨H, 0, none⟩ 1 c [v] hy rfl
    ?_ (fun u hu => by obtain rfl := List.mem_singleton.1 hu; obtain ⟨b, off, c, rfl, _⟩ := hst; rfl) (by omega) (by unfold maxLen; omega) (by omega) hB w.heap.size rfl ?_
  · intro j u hu
    rcases j with _ | j
    · simp at hu
      subst hu
      simpa [Addr.add] using hx
    · simp at hu
  · intro g1 cap' w' h1 h2 h3 h4
    have hg1 : g1 = g ∨ w.heap.size ≤ g1 := by
      rcases h3 with h3 | h3
      · exact .inl (by simp [Value.ownBlock] at h3; exact h3.symm)
      · exact .inr (by omega)
    refine hK _ _ (h g1 cap' w' ⟨h1, fun i hi => ?_⟩ ⟨h2.os, h2.tape, h2.output, h2.size, fun k hk => h2.block k (by omega) (fun e => by simp [Value.ownBlock] at e; omega)⟩)
    by_cases hin : i < n
    · have e : (vs ++ [v]).getD i undef = vs.getD i undef := by simp [List.getD, List.getElem?_append_left (show i < vs.length by omega)]
      rw [e]
      exact (hR.at_ i hin).grown h2 hg1
    · obtain rfl : i = n := by omega
      have e : (vs ++ [v]).getD i undef = v := by rw [← hl]; simp [List.getD]
      rw [e]
      exact hst.grown h2 hg1
end Go.Proofs.Ytmgjbldnohkodaa
