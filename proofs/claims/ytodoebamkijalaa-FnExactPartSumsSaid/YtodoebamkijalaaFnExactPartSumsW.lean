/- The walk of the law FnExactPartSums: it returns true and leaves what was there as it was. -/
import Derived.Test.YtodoebamkijalaaPart
namespace Go.Proofs.Ytodoebamkijalaa
open Go.RowKit
set_option linter.unusedVariables false
set_option maxHeartbeats 2000000 in
theorem fnExactPartSums_core (a0 : Option Addr) (n0 c0 : Nat) (x0 : List Int) (a1 : Int) (w : World) (s_a0 : Sl w w.heap.size a0 n0 c0 x0) (h1 : Wf a1) :
    Calls Try.prog 6 #[.slice a0 n0 c0, .int .i64 a1] w fun e w' => e = .returned (.bool true) ∧ Below w.heap.size w w' := by
    have hz_a0 := Nat.le_refl w.heap.size
    have hn0 : n0 ≤ 1048576 := s_a0.2.2.1
    have bb := Below.refl w.heap.size w
    go_enter Try.func6, Try.ntmps6
    go_wp2_with fail
    refine (toIntS_any _ _ _ x0 _ (s_a0.more hz_a0)).mono ?_
    have le_a0_t0 := hz_a0
    have ge_t0 := bb.size
    rintro e w1 ⟨a_t0, c_t0, rfl, o_t0, b⟩
    replace s_a0 := s_a0.keep (b.mono hz_a0)
    replace hz_a0 := Nat.le_trans hz_a0 b.size
    replace bb := bb.trans (b.mono bb.size)
    have hz_t0 := Nat.le_refl w1.heap.size
    have hn_t0 : n0 ≤ 1048576 := hn0
    clear b
    go_wp2_with fail
    refine (part_s _ _ _ x0 _ _ ((o_t0.sl hn_t0).more hz_t0) h1).mono ?_
    rintro e w2 ⟨rfl, b⟩
    replace s_a0 := s_a0.keep (b.mono hz_a0)
    replace hz_a0 := Nat.le_trans hz_a0 b.size
    replace o_t0 := o_t0.keep b hz_t0
    replace hz_t0 := Nat.le_trans hz_t0 b.size
    replace bb := bb.trans (b.mono bb.size)
    clear b
    clear o_t0 hz_t0
    go_wp2_with fail
    refine (toIntS_any _ _ _ x0 _ (s_a0.more hz_a0)).mono ?_
    have le_a0_y0 := hz_a0
    have ge_y0 := bb.size
    rintro e w3 ⟨a_y0, c_y0, rfl, o_y0, b⟩
    replace s_a0 := s_a0.keep (b.mono hz_a0)
    replace hz_a0 := Nat.le_trans hz_a0 b.size
    replace bb := bb.trans (b.mono bb.size)
    have hz_y0 := Nat.le_refl w3.heap.size
    have hn_y0 : n0 ≤ 1048576 := hn0
    clear b
    go_wp2_with fail
    refine (part_i _ _ _ x0 _ _ ((o_y0.sl hn_y0).more hz_y0) h1).mono ?_
    rintro e w4 ⟨rfl, b⟩
    replace s_a0 := s_a0.keep (b.mono hz_a0)
    replace hz_a0 := Nat.le_trans hz_a0 b.size
    replace o_y0 := o_y0.keep b hz_y0
    replace hz_y0 := Nat.le_trans hz_y0 b.size
    replace bb := bb.trans (b.mono bb.size)
    clear b
    go_wp2_with fail
    refine (toIntS_any _ _ _ x0 _ (s_a0.more hz_a0)).mono ?_
    have le_a0_u0 := hz_a0
    have le_y0_u0 := hz_y0
    have ge_u0 := bb.size
    rintro e w5 ⟨a_u0, c_u0, rfl, o_u0, b⟩
    replace s_a0 := s_a0.keep (b.mono hz_a0)
    replace hz_a0 := Nat.le_trans hz_a0 b.size
    replace o_y0 := o_y0.keep b hz_y0
    replace hz_y0 := Nat.le_trans hz_y0 b.size
    replace bb := bb.trans (b.mono bb.size)
    have hz_u0 := Nat.le_refl w5.heap.size
    have hn_u0 : n0 ≤ 1048576 := hn0
    clear b
    go_wp2_with fail
    refine (eqIntS_true _ _ _ _ _ _ _ ((o_y0.sl hn_y0).more hz_y0) ((o_u0.sl hn_u0).more hz_u0)).mono ?_
    rintro e w6 ⟨rfl, b⟩
    replace s_a0 := s_a0.keep (b.mono hz_a0)
    replace hz_a0 := Nat.le_trans hz_a0 b.size
    replace o_y0 := o_y0.keep b hz_y0
    replace hz_y0 := Nat.le_trans hz_y0 b.size
    replace o_u0 := o_u0.keep b hz_u0
    replace hz_u0 := Nat.le_trans hz_u0 b.size
    replace bb := bb.trans (b.mono bb.size)
    clear b
    clear o_u0 hz_u0
    go_wp2_with fail
    go_ret
    exact ⟨rfl, bb⟩

set_option maxHeartbeats 400000 in
theorem fnExactPartSums_walk (a0 : Option Addr) (n0 c0 : Nat) (x0 : List Int) (a1 : Int) (w : World) (h0 : IsRow .i64 w a0 n0 c0 x0) (h1 : Wf a1) :
    Calls Try.prog 6 #[.slice a0 n0 c0, .int .i64 a1] w fun e w' => e = .returned (.bool true) ∧ Below w.heap.size w w' := by
  have hle0 := h0.le
  by_cases hn0 : n0 ≤ 1048576
  · exact fnExactPartSums_core _ _ _ _ _ w (h0.sl hn0) h1
  · go_enter Try.func6, Try.ntmps6
    go_wp2_with fail
    go_ret
    exact ⟨rfl, Below.refl _ _⟩
end Go.Proofs.Ytodoebamkijalaa
