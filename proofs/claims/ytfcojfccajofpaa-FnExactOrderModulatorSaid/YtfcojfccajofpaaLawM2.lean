/- The contract of heldModulator. -/
import Derived.Test.YtfcojfccajofpaaLawM
namespace Go.Proofs.Ytfcojfccajofpaa
open Go.RowKit
set_option linter.unusedVariables false
theorem heldM_any (l s : Int) (ao : Option Addr) (n cap : Nat) (k : Int) (w : World) (h : Sl w w.heap.size ao n cap (seqFrom k n)) (hk : 0 ≤ k ∧ k ≤ 1099511627776) :
    Calls Try.prog 34 #[.agg #[.int .i64 l, .int .i64 s, .slice ao n cap], .int .i64 k] w fun e w' => e = .returned (.int .i64 (k + n)) ∧ Below w.heap.size w w' := by
  have hn := h.2.2.1
  have b0 := box_below w (.cells #[.int .i64 l, .int .i64 s, .slice ao n cap] 31)
  have h0 := (h.keep b0).more b0.size
  go_enter Try.func34, Try.ntmps34
  go_wp2_with fail
  refine (held_any _ _ _ k _ h0 hk).mono ?_
  rintro e w' ⟨rfl, rfl⟩
  have hp : ¬ (k + (n : Int) < 0) := by omega
  go_wp2_with fail
  go_ret
  exact ⟨rfl, b0⟩
end Go.Proofs.Ytfcojfccajofpaa
