/- Appends onto a row of ints of the call's own, one element or many; lists that are filled one by one; what asSequence, l1Done hand back. -/
import Derived.Test.YtmgjbldnohkodaaSeq
import Derived.Deep.AppendLies
import Derived.Deep.RegionHeld3
namespace Go.Proofs.Ytmgjbldnohkodaa
open Go.RowKit

/-- The row at 'ao' was appended to: it lies now in block g, its old one or a new one; no other block has turned. -/
structure Grew (w w' : World) (ao : Option Addr) (g : Nat) : Prop where
  by_ : w.grownBy w' (ao.map (·.block))
  lies : (∃ a, ao = some a ∧ a.block = g) ∨ w.heap.size ≤ g

section
variable {w w' : World} {B C n cap g : Nat} {ao : Option Addr} {xs : List Int}
theorem Grew.below (h : Grew w w' ao g) (hown : Own w B C ao n cap xs) (hB : B ≤ w.heap.size) : Below B w w' := by
  refine ⟨h.by_.os, h.by_.tape, h.by_.output, h.by_.size, fun k hk => h.by_.block k (by omega) (fun e => ?_)⟩
  rcases hown.form with ⟨rfl, _⟩ | ⟨g', rfl, hBg, _⟩
  · cases e
  · simp at e
    omega
theorem Grew.keep {B2 C2 n2 cap2 : Nat} {bo : Option Addr} {ys : List Int} (h : Grew w w' ao g) (hown : Own w B2 C2 bo n2 cap2 ys) (hne : ∀ a b, ao = some a → bo = some b → a.block ≠ b.block) : Own w' B2 C2 bo n2 cap2 ys := by
  refine ⟨World.ownsRow.kept hown.1 h.by_ ?_, hown.2⟩
  rcases hown.form with ⟨rfl, _⟩ | ⟨g', rfl, _⟩
  · exact .inl rfl
  · refine .inr (fun e => ?_)
    cases ao with
    | none => cases e
    | some a =>
      have := hne a _ rfl rfl
      simp [Value.ownBlock] at e
      exact this e.symm
end

section
variable {w : World} {o : Oper} {a : Act} {ops : Array Oper} {rest : List Oper} {Q : Exit → Act → World → Prop} {B C n cap : Nat} {ao : Option Addr} {xs : List Int}
/-- 'append(s, y...)' of m numbers that lie at 'ad'. -/
theorem wp_app {K : Act → World → Prop} (s y : Operand) (ho : o.op = .call { callee := .builtin .append, args := #[s, y], argTypes := #[25, 25] })
    (hs : a.eval s = .slice ao n cap) (hown : Own w B C ao n cap xs) (ad : Addr) (m c : Nat) (news : List Int) (hy : a.eval y = .slice (some ad) m c)
    (hl : news.length = m) (hm : 0 < m) (hnews : ∀ i, i < m → w.cell? (ad.add i) = some (.int .i64 (news.getD i 0))) (hn : n + m ≤ 1048576) (hB : B ≤ w.heap.size)
    (h : ∀ g cap' w', Own w' B w'.heap.size (some ⟨g, 0, none⟩) (n + m) cap' (xs ++ news) → Grew w w' ao g → K (a.put o.dst (.slice (some ⟨g, 0, none⟩) (n + m) cap')) w') : o.wp Try.prog a w K Q := by
  obtain ⟨i0, hi, hz0, hz1, hz2⟩ := info_parts int_info
  refine wp_append_lies w s y 25 ho B 3 i0 (.int .i64 0) 1 8 Try.underlying25 hi hz0 hz1 hz2 rfl (by omega) (.slice ao n cap) n (Ints xs) hs hown.1 ad m c (Ints news) hy (by rw [Ints_length, hl, Nat.mul_one])
    ?_ (Ints_one _) hm (by unfold maxLen; omega) (by omega) hB w.heap.size rfl ?_
  · intro j u hu
    have hj : j < news.length := by
      have := (List.getElem?_eq_some_iff.1 hu).1
      rwa [Ints_length] at this
    rw [Ints_get news j hj] at hu
    injection hu with hu
    subst hu
    exact hnews j (by omega)
  · intro g cap' w' h1 h2 h3 h4
    rw [← Ints_append] at h1
    refine h g cap' w' (Own.of h1) ⟨?_, ?_⟩
    · cases ao <;> exact h2
    · rcases h3 with h3 | h3
      · cases ao with
        | none => cases h3
        | some x => exact .inl ⟨x, rfl, by simpa [Value.ownBlock] using h3⟩
      · exact .inr (by omega)
/-- 'append(s, x)' of one number, which lies in block H. -/
theorem wp_one {K : Act → World → Prop} (s y : Operand) (ho : o.op = .call { callee := .builtin .append, args := #[s, y], argTypes := #[25, 25] })
    (hs : a.eval s = .slice ao n cap) (hown : Own w B C ao n cap xs) (H c : Nat) (x : Int) (hy : a.eval y = .slice (some ⟨H, 0, none⟩) 1 c)
    (hx : w.cell? ⟨H, 0, none⟩ = some (.int .i64 x)) (hn : n + 1 ≤ 1048576) (hB : B ≤ w.heap.size)
    (h : ∀ g cap' w', Own w' B w'.heap.size (some ⟨g, 0, none⟩) (n + 1) cap' (xs ++ [x]) → Grew w w' ao g → K (a.put o.dst (.slice (some ⟨g, 0, none⟩) (n + 1) cap')) w') : o.wp Try.prog a w K Q :=
  wp_app s y ho hs hown ⟨H, 0, none⟩ 1 c [x] hy rfl (by omega) (fun i hi => by
    obtain rfl : i = 0 := by omega
    simpa [Addr.add] using hx) hn hB h
theorem wpList_one (hgd : o.guard = none) (s y : Operand) (ho : o.op = .call { callee := .builtin .append, args := #[s, y], argTypes := #[25, 25] })
    (hs : a.eval s = .slice ao n cap) (hown : Own w B C ao n cap xs) (H c : Nat) (x : Int) (hy : a.eval y = .slice (some ⟨H, 0, none⟩) 1 c)
    (hx : w.cell? ⟨H, 0, none⟩ = some (.int .i64 x)) (hn : n + 1 ≤ 1048576) (hB : B ≤ w.heap.size)
    (h : ∀ g cap' w', Own w' B w'.heap.size (some ⟨g, 0, none⟩) (n + 1) cap' (xs ++ [x]) → Grew w w' ao g → wpList Try.prog ops Q rest (a.put o.dst (.slice (some ⟨g, 0, none⟩) (n + 1) cap')) w') :
    wpList Try.prog ops Q (o :: rest) a w :=
  wpList_plain hgd fun _ hK => wp_one s y ho hs hown H c x hy hx hn hB fun g cap' w' h1 h2 => hK _ _ (h g cap' w' h1 h2)
theorem step_one {K : Act → World → Prop} {E : Prop} (hgd : o.guard = none) (s y : Operand) (ho : o.op = .call { callee := .builtin .append, args := #[s, y], argTypes := #[25, 25] })
    (hs : a.eval s = .slice ao n cap) (hown : Own w B C ao n cap xs) (H c : Nat) (x : Int) (hy : a.eval y = .slice (some ⟨H, 0, none⟩) 1 c)
    (hx : w.cell? ⟨H, 0, none⟩ = some (.int .i64 x)) (hn : n + 1 ≤ 1048576) (hB : B ≤ w.heap.size)
    (h : ∀ g cap' w', Own w' B w'.heap.size (some ⟨g, 0, none⟩) (n + 1) cap' (xs ++ [x]) → Grew w w' ao g → K (a.put o.dst (.slice (some ⟨g, 0, none⟩) (n + 1) cap')) w') :
    if Region.wanted o (yielded ops a.tmps) = true then Oper.wp Try.prog o a w K Q else E := by
  have hw : Region.wanted o (yielded ops a.tmps) = true := by simp [Region.wanted, hgd]
  rw [if_pos hw]
  exact wp_one s y ho hs hown H c x hy hx hn hB h
/-- 'append(s, y...)' where y reads as a list, which may be empty or nil. -/
theorem wpList_many (hgd : o.guard = none) (s y : Operand) (ho : o.op = .call { callee := .builtin .append, args := #[s, y], argTypes := #[25, 25] })
    (hs : a.eval s = .slice ao n cap) (hown : Own w B C ao n cap xs) (bo : Option Addr) (m c D : Nat) (news : List Int) (hy : a.eval y = .slice bo m c)
    (hsl : Sl w D bo m c news) (hn : n + m ≤ 1048576) (hB : B ≤ w.heap.size) (hC : C ≤ w.heap.size)
    (h : ∀ ao' cap' w', Own w' B w'.heap.size ao' (n + m) cap' (xs ++ news) → (∀ row, ao = none ∨ ao.map (·.block) = row → w.grownBy w' row) → wpList Try.prog ops Q rest (a.put o.dst (.slice ao' (n + m) cap')) w') :
    wpList Try.prog ops Q (o :: rest) a w := by
  by_cases hm : 0 < m
  · obtain ⟨b, off, rfl, _, hc⟩ := hsl.at_ hm
    refine wpList_plain hgd fun _ hK => wp_app s y ho hs hown ⟨b, off, none⟩ m c news hy hsl.len hm (fun i hi => by rw [Addr.add_lit]; exact hc i hi) hn hB fun g cap' w' h1 h2 => hK _ _ (h _ cap' w' h1 (fun row hr => ?_))
    rcases hr with rfl | rfl
    · exact ⟨h2.by_.os, h2.by_.tape, h2.by_.output, h2.by_.size, fun k hk _ => h2.by_.block k hk (by simp)⟩
    · exact h2.by_
  · obtain rfl : m = 0 := by omega
    obtain rfl : news = [] := List.eq_nil_of_length_eq_zero hsl.len
    refine wpList_plain hgd fun K hK => ?_
    have hr : ∀ d, (Builtin.append_ #[25, 25] d #[.slice ao n cap, .slice bo 0 c]).run Try.prog w = .ok (.slice ao n cap) w := by
      intro d
      obtain ⟨i0, hi, hz0, hz1, hz2⟩ := info_parts int_info
      rcases hown.form with ⟨rfl, rfl, rfl, rfl⟩ | ⟨g, rfl, _, _, _, hnc, _⟩
      · cases bo <;> simp [Builtin.append_, run_underlying Try.underlying25, sizeOf, typeInfo, hi, Builtin.lenOf, Builtin.firstCells, loadCells, loadCellsFrom]
      · cases bo <;> simp [Builtin.append_, run_underlying Try.underlying25, sizeOf, typeInfo, hi, Builtin.lenOf, Builtin.firstCells, loadCells, loadCellsFrom, hnc, storeCells]
    unfold Oper.wp execOp
    simp only [ho, resolve, invoke, builtin, Sem.run_bind, Sem.run_pure, Result.andThen_ok, List.map_toArray, List.map_cons, List.map_nil, hs, hy, hr]
    refine hK _ _ (h ao cap w ?_ (fun row _ => World.grownBy.refl w row))
    rw [List.append_nil]
    exact hown.wide (Nat.le_refl _) hC
end

/-- f 0, f 1 and so on, k numbers. -/
def tab (f : Nat → Int) (k : Nat) : List Int := (List.range k).map f
theorem tab_zero (f : Nat → Int) : tab f 0 = [] := rfl
theorem tab_succ (f : Nat → Int) (k : Nat) : tab f (k + 1) = tab f k ++ [f k] := by simp [tab, List.range_succ]
theorem tab_length (f : Nat → Int) (k : Nat) : (tab f k).length = k := by simp [tab]
theorem tab_at (f : Nat → Int) (k i : Nat) (h : i < k) : (tab f k).getD i 0 = f i := by simp [tab, List.getD, List.getElem?_range h]
theorem tab_congr {f g : Nat → Int} {k : Nat} (h : ∀ i, i < k → f i = g i) : tab f k = tab g k := by
  unfold tab
  exact List.map_congr_left (fun i hi => h i (by simpa using hi))
theorem tab_self (xs : List Int) : tab (fun i => xs.getD i 0) xs.length = xs := by
  apply List.ext_getElem
  · rw [tab_length]
  · intro i h1 h2
    rw [← getD_at _ i h1, tab_at _ _ _ (by rwa [tab_length] at h1), getD_at _ i h2]
theorem tab_mem {f : Nat → Int} {k : Nat} {x : Int} (h : x ∈ tab f k) : ∃ i, i < k ∧ x = f i := by
  simp only [tab, List.mem_map, List.mem_range] at h
  obtain ⟨i, h1, h2⟩ := h
  exact ⟨i, h1, h2.symm⟩
theorem list_ext {xs ys : List Int} (hl : xs.length = ys.length) (h : ∀ i, i < xs.length → xs.getD i 0 = ys.getD i 0) : xs = ys := by
  apply List.ext_getElem hl
  intro i h1 h2
  rw [← getD_at _ i h1, ← getD_at _ i h2]
  exact h i h1

/-- A list if it is a sequence, else nothing. -/
def seqOr (b : Bool) (ys : List Int) : List Int := if b = true then ys else []
theorem seqOr_yes {b : Bool} {ys : List Int} (h : b = true) : seqOr b ys = ys := by simp [seqOr, h]
theorem seqOr_no {b : Bool} {ys : List Int} (h : b = false) : seqOr b ys = [] := by simp [seqOr, h]

/-- The value that an empty literal makes. -/
theorem Own.empty (w : World) (B : Nat) (hB : B ≤ w.heap.size) : Own (w.alloc (.cells #[] 3)) B (w.alloc (.cells #[] 3)).heap.size (some ⟨w.heap.size, 0, none⟩) 0 0 [] :=
  Own.of ⟨by simp [Ints], .inr ⟨w.heap.size, 0, #[], rfl, hB, heap_alloc_new w _, Nat.le_refl _, by unfold maxLen; omega, rfl, rfl⟩⟩
theorem Own.alloc {w : World} {B C n cap : Nat} {ao : Option Addr} {xs : List Int} (h : Own w B C ao n cap xs) (o : Obj) : Own (w.alloc o) B C ao n cap xs := ⟨World.ownsRow.alloc h.1 o, h.2⟩

set_option maxHeartbeats 400000 in
theorem asSeq_t (ao : Option Addr) (n cap : Nat) (xs : List Int) (w : World) (h : Sl w w.heap.size ao n cap xs) (hq : isSeq xs = true) :
    Calls Try.prog 79 #[.slice ao n cap] w fun e w' => e = .returned (.tuple #[.slice ao n cap, .bool true]) ∧ w = w' := by
  go_enter Try.func79, Try.ntmps79
  go_wp2_with (go_at_call 63; refine (isSeq_i _ _ _ xs _ h).mono ?_; rw [hq]; rintro e w' ⟨rfl, rfl⟩)
  go_ret2
  exact ⟨rfl, rfl⟩
set_option maxHeartbeats 400000 in
theorem asSeq_f (ao : Option Addr) (n cap : Nat) (xs : List Int) (w : World) (h : Sl w w.heap.size ao n cap xs) (hq : isSeq xs = false) :
    Calls Try.prog 79 #[.slice ao n cap] w fun e w' => e = .returned (.tuple #[.slice none 0 0, .bool false]) ∧ w = w' := by
  go_enter Try.func79, Try.ntmps79
  go_wp2_with (go_at_call 63; refine (isSeq_i _ _ _ xs _ h).mono ?_; rw [hq]; rintro e w' ⟨rfl, rfl⟩)
  go_ret2
  exact ⟨rfl, rfl⟩
end Go.Proofs.Ytmgjbldnohkodaa
