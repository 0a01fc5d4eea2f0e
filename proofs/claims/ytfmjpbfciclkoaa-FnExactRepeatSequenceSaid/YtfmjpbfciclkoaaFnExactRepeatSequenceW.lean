/- The walk of the law FnExactRepeatSequence: it returns true and leaves what was there as it was. -/
import Derived.Test.YtfmjpbfciclkoaaRep2
namespace Go.Proofs.Ytfmjpbfciclkoaa
open Go.RowKit
set_option linter.unusedVariables false
set_option maxHeartbeats 2000000 in
theorem fnExactRepeatSequence_core (a0 : Option Addr) (n0 c0 : Nat) (x0 : List Int) (a1 : Int) (w : World) (s_a0 : Sl w w.heap.size a0 n0 c0 x0) (h1 : Wf a1) :
    Calls Try.prog 3 #[.slice a0 n0 c0, .int .i64 a1] w fun e w' => e = .returned (.bool true) ∧ Below w.heap.size w w' := by
    have hz_a0 := Nat.le_refl w.heap.size
    have hn0 : n0 ≤ 1048576 := s_a0.2.2.1
    have bb := Below.refl w.heap.size w
    go_enter Try.func3, Try.ntmps3
    go_wp2_with fail
    refine (toIntS_any _ _ _ x0 _ (s_a0.more hz_a0)).mono ?_
    have le_a0_t0 := hz_a0
    have ge_t0 := bb.size
    rintro e w1 ⟨a_t0, c_t0, rfl, o_t0, b⟩
    replace s_a0 := s_a0.keep (b.mono hz_a0)
    replace hz_a0 := Nat.le_trans hz_a0 b.size
    replace bb := bb.trans (b.mono bb.size)
    have hz_t0 := Nat.le_refl w1.heap.size
    have hn_t0 : n0 ≤ 1048576 := hn0
    clear b
    go_wp2_with fail
    refine (repeat_s _ _ _ x0 _ _ ((o_t0.sl hn_t0).more hz_t0) h1).mono ?_
    have le_a0_r := hz_a0
    have le_t0_r := hz_t0
    have ge_r := bb.size
    rintro e w2 ⟨a_r, n_r, c_r, rfl, o_r, b⟩
    replace s_a0 := s_a0.keep (b.mono hz_a0)
    replace hz_a0 := Nat.le_trans hz_a0 b.size
    replace o_t0 := o_t0.keep b hz_t0
    replace hz_t0 := Nat.le_trans hz_t0 b.size
    replace bb := bb.trans (b.mono bb.size)
    have hz_r := Nat.le_refl w2.heap.size
    clear b
    have hn_r : n_r ≤ 1048576 := by rw [← o_r.len]; exact repV_len _ _
    clear o_t0 hz_t0
    go_wp2_with fail
    refine (toIntS_any _ _ _ x0 _ (s_a0.more hz_a0)).mono ?_
    have le_a0_y0 := hz_a0
    have le_r_y0 := hz_r
    have ge_y0 := bb.size
    rintro e w3 ⟨a_y0, c_y0, rfl, o_y0, b⟩
    replace s_a0 := s_a0.keep (b.mono hz_a0)
    replace hz_a0 := Nat.le_trans hz_a0 b.size
    replace o_r := o_r.keep b hz_r
    replace hz_r := Nat.le_trans hz_r b.size
    replace bb := bb.trans (b.mono bb.size)
    have hz_y0 := Nat.le_refl w3.heap.size
    have hn_y0 : n0 ≤ 1048576 := hn0
    clear b
    go_wp2_with fail
    refine (repeat_i _ _ _ x0 _ _ ((o_y0.sl hn_y0).more hz_y0) h1).mono ?_
    have le_a0_g := hz_a0
    have le_r_g := hz_r
    have le_y0_g := hz_y0
    have ge_g := bb.size
    rintro e w4 ⟨a_g, n_g, c_g, rfl, o_g, b⟩
    replace s_a0 := s_a0.keep (b.mono hz_a0)
    replace hz_a0 := Nat.le_trans hz_a0 b.size
    replace o_r := o_r.keep b hz_r
    replace hz_r := Nat.le_trans hz_r b.size
    replace o_y0 := o_y0.keep b hz_y0
    replace hz_y0 := Nat.le_trans hz_y0 b.size
    replace bb := bb.trans (b.mono bb.size)
    have hz_g := Nat.le_refl w4.heap.size
    clear b
    have hn_g : n_g ≤ 1048576 := by rw [← o_g.len]; exact repV_len _ _
    obtain rfl : n_g = n_r := by rw [← o_g.len, ← o_r.len]
    go_wp2_with fail
    refine (eqIntS_true _ _ _ _ _ _ _ ((o_g.sl hn_g).more hz_g) ((o_r.sl hn_r).more hz_r)).mono ?_
    rintro e w5 ⟨rfl, b⟩
    replace s_a0 := s_a0.keep (b.mono hz_a0)
    replace hz_a0 := Nat.le_trans hz_a0 b.size
    replace o_r := o_r.keep b hz_r
    replace hz_r := Nat.le_trans hz_r b.size
    replace o_y0 := o_y0.keep b hz_y0
    replace hz_y0 := Nat.le_trans hz_y0 b.size
    replace o_g := o_g.keep b hz_g
    replace hz_g := Nat.le_trans hz_g b.size
    replace bb := bb.trans (b.mono bb.size)
    clear b
    go_wp2_with fail
    refine (toIntS_any _ _ _ x0 _ (s_a0.more hz_a0)).mono ?_
    have le_a0_u0 := hz_a0
    have le_r_u0 := hz_r
    have le_y0_u0 := hz_y0
    have le_g_u0 := hz_g
    have ge_u0 := bb.size
    rintro e w6 ⟨a_u0, c_u0, rfl, o_u0, b⟩
    replace s_a0 := s_a0.keep (b.mono hz_a0)
    replace hz_a0 := Nat.le_trans hz_a0 b.size
    replace o_r := o_r.keep b hz_r
    replace hz_r := Nat.le_trans hz_r b.size
    replace o_y0 := o_y0.keep b hz_y0
    replace hz_y0 := Nat.le_trans hz_y0 b.size
    replace o_g := o_g.keep b hz_g
    replace hz_g := Nat.le_trans hz_g b.size
    replace bb := bb.trans (b.mono bb.size)
    have hz_u0 := Nat.le_refl w6.heap.size
    have hn_u0 : n0 ≤ 1048576 := hn0
    clear b
    go_wp2_with fail
    refine (eqIntS_true _ _ _ _ _ _ _ ((o_y0.sl hn_y0).more hz_y0) ((o_u0.sl hn_u0).more hz_u0)).mono ?_
    rintro e w7 ⟨rfl, b⟩
    replace s_a0 := s_a0.keep (b.mono hz_a0)
    replace hz_a0 := Nat.le_trans hz_a0 b.size
    replace o_r := o_r.keep b hz_r
    replace hz_r := Nat.le_trans hz_r b.size
    replace o_y0 := o_y0.keep b hz_y0
    replace hz_y0 := Nat.le_trans hz_y0 b.size
    replace o_g := o_g.keep b hz_g
    replace hz_g := Nat.le_trans hz_g b.size
    replace o_u0 := o_u0.keep b hz_u0
    replace hz_u0 := Nat.le_trans hz_u0 b.size
    replace bb := bb.trans (b.mono bb.size)
    clear b
    clear o_u0 hz_u0
    go_wp2_with fail
    refine (mark_any _ _ _ _ _ _ _ _ o_y0 hn_y0 (by omega)).mono ?_
    clear o_y0
    rintro e w8 ⟨rfl, o_y0, m⟩
    replace s_a0 := m.sl s_a0 le_a0_y0
    replace hz_a0 := Nat.le_trans hz_a0 m.low.size
    replace o_r := m.ownLow o_r le_r_y0
    replace hz_r := Nat.le_trans hz_r m.low.size
    replace hz_y0 := Nat.le_trans hz_y0 m.low.size
    replace o_g := m.ownHigh o_g le_y0_g
    replace hz_g := Nat.le_trans hz_g m.low.size
    replace bb := bb.trans (m.low.mono ge_y0)
    clear m
    go_wp2_with fail
    refine (eqIntS_true _ _ _ _ _ _ _ ((o_g.sl hn_g).more hz_g) ((o_r.sl hn_r).more hz_r)).mono ?_
    rintro e w9 ⟨rfl, b⟩
    replace s_a0 := s_a0.keep (b.mono hz_a0)
    replace hz_a0 := Nat.le_trans hz_a0 b.size
    replace o_r := o_r.keep b hz_r
    replace hz_r := Nat.le_trans hz_r b.size
    replace o_y0 := o_y0.keep b hz_y0
    replace hz_y0 := Nat.le_trans hz_y0 b.size
    replace o_g := o_g.keep b hz_g
    replace hz_g := Nat.le_trans hz_g b.size
    replace bb := bb.trans (b.mono bb.size)
    clear b
    clear o_y0 hz_y0
    go_wp2_with fail
    refine (mark_any _ _ _ _ _ _ _ _ o_g hn_g (by omega)).mono ?_
    clear o_g
    rintro e w10 ⟨rfl, o_g, m⟩
    replace s_a0 := m.sl s_a0 le_a0_g
    replace hz_a0 := Nat.le_trans hz_a0 m.low.size
    replace o_r := m.ownLow o_r le_r_g
    replace hz_r := Nat.le_trans hz_r m.low.size
    replace hz_g := Nat.le_trans hz_g m.low.size
    replace bb := bb.trans (m.low.mono ge_g)
    clear m
    go_wp2_with fail
    refine (held_any _ _ _ _ _ ((o_g.sl hn_g).more hz_g) (by omega)).mono ?_
    rintro e w10' ⟨rfl, rfl⟩
    go_wp2_with fail
    refine (toIntS_any _ _ _ x0 _ (s_a0.more hz_a0)).mono ?_
    have le_a0_v0 := hz_a0
    have le_r_v0 := hz_r
    have le_g_v0 := hz_g
    have ge_v0 := bb.size
    rintro e w11 ⟨a_v0, c_v0, rfl, o_v0, b⟩
    replace s_a0 := s_a0.keep (b.mono hz_a0)
    replace hz_a0 := Nat.le_trans hz_a0 b.size
    replace o_r := o_r.keep b hz_r
    replace hz_r := Nat.le_trans hz_r b.size
    replace o_g := o_g.keep b hz_g
    replace hz_g := Nat.le_trans hz_g b.size
    replace bb := bb.trans (b.mono bb.size)
    have hz_v0 := Nat.le_refl w11.heap.size
    have hn_v0 : n0 ≤ 1048576 := hn0
    clear b
    clear s_a0 hz_a0
    go_wp2_with fail
    refine (repeat_i _ _ _ x0 _ _ ((o_v0.sl hn_v0).more hz_v0) h1).mono ?_
    have le_r_h := hz_r
    have le_g_h := hz_g
    have le_v0_h := hz_v0
    have ge_h := bb.size
    rintro e w12 ⟨a_h, n_h, c_h, rfl, o_h, b⟩
    replace o_r := o_r.keep b hz_r
    replace hz_r := Nat.le_trans hz_r b.size
    replace o_g := o_g.keep b hz_g
    replace hz_g := Nat.le_trans hz_g b.size
    replace o_v0 := o_v0.keep b hz_v0
    replace hz_v0 := Nat.le_trans hz_v0 b.size
    replace bb := bb.trans (b.mono bb.size)
    have hz_h := Nat.le_refl w12.heap.size
    clear b
    have hn_h : n_h ≤ 1048576 := by rw [← o_h.len]; exact repV_len _ _
    clear o_v0 hz_v0
    obtain rfl : n_h = n_g := by rw [← o_h.len, ← o_r.len]
    go_wp2_with fail
    refine (eqIntS_true _ _ _ _ _ _ _ ((o_h.sl hn_h).more hz_h) ((o_r.sl hn_r).more hz_r)).mono ?_
    rintro e w13 ⟨rfl, b⟩
    replace o_r := o_r.keep b hz_r
    replace hz_r := Nat.le_trans hz_r b.size
    replace o_g := o_g.keep b hz_g
    replace hz_g := Nat.le_trans hz_g b.size
    replace o_h := o_h.keep b hz_h
    replace hz_h := Nat.le_trans hz_h b.size
    replace bb := bb.trans (b.mono bb.size)
    clear b
    clear o_h hz_h
    clear o_r hz_r
    go_wp2_with fail
    refine (held_any _ _ _ _ _ ((o_g.sl hn_g).more hz_g) (by omega)).mono ?_
    rintro e w13' ⟨rfl, rfl⟩
    go_wp2_with fail
    go_ret
    exact ⟨rfl, bb⟩

set_option maxHeartbeats 400000 in
theorem fnExactRepeatSequence_walk (a0 : Option Addr) (n0 c0 : Nat) (x0 : List Int) (a1 : Int) (w : World) (h0 : IsRow .i64 w a0 n0 c0 x0) (h1 : Wf a1) :
    Calls Try.prog 3 #[.slice a0 n0 c0, .int .i64 a1] w fun e w' => e = .returned (.bool true) ∧ Below w.heap.size w w' := by
  have hle0 := h0.le
  by_cases hn0 : n0 ≤ 1048576
  · exact fnExactRepeatSequence_core _ _ _ _ _ w (h0.sl hn0) h1
  · go_enter Try.func3, Try.ntmps3
    go_wp2_with fail
    go_ret
    exact ⟨rfl, Below.refl _ _⟩
end Go.Proofs.Ytfmjpbfciclkoaa
