/- The walk of the law FnExactSumOf: it returns true and leaves what was there as it was. -/
import Derived.Test.YtcojeheajfakfaaSeq
namespace Go.Proofs.Ytcojeheajfakfaa
open Go.RowKit
set_option maxHeartbeats 400000 in
theorem fnExactSumOf_walk (a0 : Option Addr) (n0 c0 : Nat) (z0 : List Int) (w : World) (h0 : IsRow .i64 w a0 n0 c0 z0) :
    Calls Try.prog 12 #[.slice a0 n0 c0] w fun e w' => e = .returned (.bool true) ∧ Below w.heap.size w w' := by
  have hle := h0.le
  by_cases hn : n0 ≤ 1048576
  · have hs := h0.sl hn
    generalize z0.take n0 = xs at hs
    clear h0
    go_enter Try.func12, Try.ntmps12
    go_wp2_with fail
    refine (toIntS_any _ _ _ xs _ hs).mono ?_
    rintro e w1 ⟨a1, c1, rfl, o1, b1⟩
    go_wp2_with fail
    refine (sumOf_s _ _ _ xs _ (o1.sl hn)).mono ?_
    rintro e w1 ⟨rfl, rfl⟩
    go_wp2_with fail
    refine (toIntS_any _ _ _ xs _ ((hs.keep b1).more b1.size)).mono ?_
    rintro e w2 ⟨a2, c2, rfl, o2, b2⟩
    have b02 := b1.trans (b2.mono b1.size)
    go_wp2_with fail
    refine (sumOf_i _ _ _ xs _ (o2.sl hn)).mono ?_
    rintro e w2 ⟨rfl, rfl⟩
    go_wp2_with fail
    refine (toIntS_any _ _ _ xs _ ((hs.keep b02).more b02.size)).mono ?_
    rintro e w3 ⟨a3, c3, rfl, o3, b3⟩
    have b03 := b02.trans (b3.mono b02.size)
    go_wp2_with fail
    refine (eqIntS_true _ _ _ _ _ xs _ (((o2.sl hn).keep b3).more b3.size) (o3.sl hn)).mono ?_
    rintro e w4 ⟨rfl, b4⟩
    have b04 := b03.trans (b4.mono b03.size)
    go_wp2_with fail
    go_ret
    exact ⟨rfl, b04⟩
  · go_enter Try.func12, Try.ntmps12
    go_wp2_with fail
    go_ret
    exact ⟨rfl, Below.refl _ _⟩
end Go.Proofs.Ytcojeheajfakfaa
