/- The walk of the law FnExactQuantise: it returns true and leaves what was there as it was. -/
import Derived.Test.YtcojeheajfakfaaQuant3
namespace Go.Proofs.Ytcojeheajfakfaa
open Go.RowKit
set_option maxHeartbeats 400000 in
theorem fnExactQuantise_walk (l s : Int) (a1 : Int) (w : World) (_h0 : Wf l ∧ Wf s) (_h1 : Wf a1) :
    Calls Try.prog 9 #[.agg #[.int .i64 l, .int .i64 s], .int .i64 a1] w fun e w' => e = .returned (.bool true) ∧ Below w.heap.size w w' := by
  go_enter Try.func9, Try.ntmps9
  go_wp2_with fail
  have c0 : (w.alloc (.cells #[.int .i64 l, .int .i64 s] 24)).cell? ⟨w.heap.size, 0, none⟩ = some (.int .i64 l) := by simp [go_sem]
  have c1 : (w.alloc (.cells #[.int .i64 l, .int .i64 s] 24)).cell? ⟨w.heap.size, 1, none⟩ = some (.int .i64 s) := by simp [go_sem]
  have b0 := box_below w (.cells #[.int .i64 l, .int .i64 s] 24)
  have z0 : w.heap.size < (w.alloc (.cells #[.int .i64 l, .int .i64 s] 24)).heap.size := by simp
  generalize w.alloc (.cells #[.int .i64 l, .int .i64 s] 24) = w0 at c0 c1 b0 z0 ⊢
  refine (toQ_any _ _ _).mono ?_
  rintro e w1 ⟨rfl, b1⟩
  replace c0 := (b1.cell (p := ⟨w.heap.size, 0, none⟩) z0).trans c0
  replace c1 := (b1.cell (p := ⟨w.heap.size, 1, none⟩) z0).trans c1
  replace b0 := then_then b0 b1
  have z1 := Nat.lt_of_lt_of_le z0 b1.size
  clear b1 z0
  go_wp2_with fail
  refine (quant_s _ _ _ _).mono ?_
  rintro e w2 ⟨rfl, b1⟩
  replace c0 := (b1.cell (p := ⟨w.heap.size, 0, none⟩) z1).trans c0
  replace c1 := (b1.cell (p := ⟨w.heap.size, 1, none⟩) z1).trans c1
  replace b0 := then_then b0 b1
  clear b1 z1
  go_wp2_with fail
  refine (toQ_any _ _ _).mono ?_
  rintro e w3 ⟨rfl, b1⟩
  replace b0 := then_then b0 b1
  clear b1
  go_wp2_with fail
  refine (quant_i _ _ _ _).mono ?_
  rintro e w4 ⟨rfl, b1⟩
  replace b0 := then_then b0 b1
  clear b1
  go_wp2_with fail
  go_ret
  exact ⟨rfl, b0⟩
end Go.Proofs.Ytcojeheajfakfaa
