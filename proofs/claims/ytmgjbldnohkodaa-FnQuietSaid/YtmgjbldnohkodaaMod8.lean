/- The contract of OrderModulator of the program. -/
import Derived.Test.YtmgjbldnohkodaaMod7
import Derived.Deep.RegionLaw
namespace Go.Proofs.Ytmgjbldnohkodaa
open Go.RowKit
set_option linter.unusedVariables false

section
variable {ops : Array Oper} {Q : Exit → Act → World → Prop} {o : Oper} {a : Act} {w : World} {B C n cap : Nat} {ao : Option Addr} {xs : List Int}
/-- 'append(s, y...)' in a region that draws its order. -/
theorem step_many {K : Act → World → Prop} {E : Prop} (hgd : o.guard = none) (s y : Operand) (ho : o.op = .call { callee := .builtin .append, args := #[s, y], argTypes := #[25, 25] })
    (hs : a.eval s = .slice ao n cap) (hown : Own w B C ao n cap xs) (bo : Option Addr) (m c D : Nat) (news : List Int) (hy : a.eval y = .slice bo m c)
    (hsl : Sl w D bo m c news) (hn : n + m ≤ 1048576) (hB : B ≤ w.heap.size) (hC : C ≤ w.heap.size)
    (h : ∀ ao' cap' w', Own w' B w'.heap.size ao' (n + m) cap' (xs ++ news) → (∀ row, ao = none ∨ ao.map (·.block) = row → w.grownBy w' row) → K (a.put o.dst (.slice ao' (n + m) cap')) w') :
    if Region.wanted o (yielded ops a.tmps) = true then Oper.wp Try.prog o a w K Q else E := by
  have hw : Region.wanted o (yielded ops a.tmps) = true := by simp [Region.wanted, hgd]
  rw [if_pos hw]
  by_cases hm : 0 < m
  · obtain ⟨b, off, rfl, _, hc⟩ := hsl.at_ hm
    refine wp_app s y ho hs hown ⟨b, off, none⟩ m c news hy hsl.len hm (fun i hi => by rw [Addr.add_lit]; exact hc i hi) hn hB fun g cap' w' h1 h2 => (h _ cap' w' h1 (fun row hr => ?_))
    rcases hr with rfl | rfl
    · exact ⟨h2.by_.os, h2.by_.tape, h2.by_.output, h2.by_.size, fun k hk _ => h2.by_.block k hk (by simp)⟩
    · exact h2.by_
  · obtain rfl : m = 0 := by omega
    obtain rfl : news = [] := List.eq_nil_of_length_eq_zero hsl.len
    have hr : ∀ d, (Builtin.append_ #[25, 25] d #[.slice ao n cap, .slice bo 0 c]).run Try.prog w = .ok (.slice ao n cap) w := by
      intro d
      obtain ⟨i0, hi, hz0, hz1, hz2⟩ := info_parts int_info
      rcases hown.form with ⟨rfl, rfl, rfl, rfl⟩ | ⟨g, rfl, _, _, _, hnc, _⟩
      · cases bo <;> simp [Builtin.append_, run_underlying Try.underlying25, sizeOf, typeInfo, hi, Builtin.lenOf, Builtin.firstCells, loadCells, loadCellsFrom]
      · cases bo <;> simp [Builtin.append_, run_underlying Try.underlying25, sizeOf, typeInfo, hi, Builtin.lenOf, Builtin.firstCells, loadCells, loadCellsFrom, hnc, storeCells]
    unfold Oper.wp execOp
    simp only [ho, resolve, invoke, builtin, Sem.run_bind, Sem.run_pure, Result.andThen_ok, List.map_toArray, List.map_cons, List.map_nil, hs, hy, hr]
    refine (h ao cap w ?_ (fun row _ => World.grownBy.refl w row))
    rw [List.append_nil]
    exact hown.wide (Nat.le_refl _) hC
end
end Go.Proofs.Ytmgjbldnohkodaa
