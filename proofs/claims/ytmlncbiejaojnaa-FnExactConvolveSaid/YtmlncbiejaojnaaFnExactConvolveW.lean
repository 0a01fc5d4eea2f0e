/- The walk of the law FnExactConvolve: it returns true and leaves what was there as it was. -/
import Derived.Test.YtmlncbiejaojnaaConv
namespace Go.Proofs.Ytmlncbiejaojnaa
open Go.RowKit
set_option linter.unusedVariables false
set_option maxHeartbeats 2000000 in
theorem fnExactConvolve_core (a0 : Option Addr) (n0 c0 : Nat) (x0 : List Int) (a1 : Option Addr) (n1 c1 : Nat) (x1 : List Int) (w : World) (s_a0 : Sl w w.heap.size a0 n0 c0 x0) (s_a1 : Sl w w.heap.size a1 n1 c1 x1) :
    Calls Try.prog 9 #[.slice a0 n0 c0, .slice a1 n1 c1] w fun e w' => e = .returned (.bool true) ∧ Below w.heap.size w w' := by
    have hz_a0 := Nat.le_refl w.heap.size
    have hn0 : n0 ≤ 1048576 := s_a0.2.2.1
    have hz_a1 := Nat.le_refl w.heap.size
    have hn1 : n1 ≤ 1048576 := s_a1.2.2.1
    have bb := Below.refl w.heap.size w
    go_enter Try.func9, Try.ntmps9
    go_wp2_with fail
    refine (toIntS_any _ _ _ x0 _ (s_a0.more hz_a0)).mono ?_
    have le_a0_t0 := hz_a0
    have le_a1_t0 := hz_a1
    have ge_t0 := bb.size
    rintro e w1 ⟨a_t0, c_t0, rfl, o_t0, b⟩
    replace s_a0 := s_a0.keep (b.mono hz_a0)
    replace hz_a0 := Nat.le_trans hz_a0 b.size
    replace s_a1 := s_a1.keep (b.mono hz_a1)
    replace hz_a1 := Nat.le_trans hz_a1 b.size
    replace bb := bb.trans (b.mono bb.size)
    have hz_t0 := Nat.le_refl w1.heap.size
    have hn_t0 : n0 ≤ 1048576 := hn0
    clear b
    go_wp2_with fail
    refine (toIntS_any _ _ _ x1 _ (s_a1.more hz_a1)).mono ?_
    have le_a0_t1 := hz_a0
    have le_a1_t1 := hz_a1
    have le_t0_t1 := hz_t0
    have ge_t1 := bb.size
    rintro e w2 ⟨a_t1, c_t1, rfl, o_t1, b⟩
    replace s_a0 := s_a0.keep (b.mono hz_a0)
    replace hz_a0 := Nat.le_trans hz_a0 b.size
    replace s_a1 := s_a1.keep (b.mono hz_a1)
    replace hz_a1 := Nat.le_trans hz_a1 b.size
    replace o_t0 := o_t0.keep b hz_t0
    replace hz_t0 := Nat.le_trans hz_t0 b.size
    replace bb := bb.trans (b.mono bb.size)
    have hz_t1 := Nat.le_refl w2.heap.size
    have hn_t1 : n1 ≤ 1048576 := hn1
    clear b
    go_wp2_with fail
    refine (conv_s _ _ _ _ _ _ x0 x1 _ ((o_t0.sl hn_t0).more hz_t0) ((o_t1.sl hn_t1).more hz_t1)).mono ?_
    have le_a0_r := hz_a0
    have le_a1_r := hz_a1
    have le_t0_r := hz_t0
    have le_t1_r := hz_t1
    have ge_r := bb.size
    rintro e w3 ⟨a_r, n_r, c_r, rfl, o_r, b⟩
    replace s_a0 := s_a0.keep (b.mono hz_a0)
    replace hz_a0 := Nat.le_trans hz_a0 b.size
    replace s_a1 := s_a1.keep (b.mono hz_a1)
    replace hz_a1 := Nat.le_trans hz_a1 b.size
    replace o_t0 := o_t0.keep b hz_t0
    replace hz_t0 := Nat.le_trans hz_t0 b.size
    replace o_t1 := o_t1.keep b hz_t1
    replace hz_t1 := Nat.le_trans hz_t1 b.size
    replace bb := bb.trans (b.mono bb.size)
    have hz_r := Nat.le_refl w3.heap.size
    clear b
    have hn_r : n_r ≤ 1048576 := by rw [← o_r.len]; exact cvV_len _ _
    clear o_t0 hz_t0
    clear o_t1 hz_t1
    go_wp2_with fail
    refine (toIntS_any _ _ _ x0 _ (s_a0.more hz_a0)).mono ?_
    have le_a0_y0 := hz_a0
    have le_a1_y0 := hz_a1
    have le_r_y0 := hz_r
    have ge_y0 := bb.size
    rintro e w4 ⟨a_y0, c_y0, rfl, o_y0, b⟩
    replace s_a0 := s_a0.keep (b.mono hz_a0)
    replace hz_a0 := Nat.le_trans hz_a0 b.size
    replace s_a1 := s_a1.keep (b.mono hz_a1)
    replace hz_a1 := Nat.le_trans hz_a1 b.size
    replace o_r := o_r.keep b hz_r
    replace hz_r := Nat.le_trans hz_r b.size
    replace bb := bb.trans (b.mono bb.size)
    have hz_y0 := Nat.le_refl w4.heap.size
    have hn_y0 : n0 ≤ 1048576 := hn0
    clear b
    go_wp2_with fail
    refine (toIntS_any _ _ _ x1 _ (s_a1.more hz_a1)).mono ?_
    have le_a0_y1 := hz_a0
    have le_a1_y1 := hz_a1
    have le_r_y1 := hz_r
    have le_y0_y1 := hz_y0
    have ge_y1 := bb.size
    rintro e w5 ⟨a_y1, c_y1, rfl, o_y1, b⟩
    replace s_a0 := s_a0.keep (b.mono hz_a0)
    replace hz_a0 := Nat.le_trans hz_a0 b.size
    replace s_a1 := s_a1.keep (b.mono hz_a1)
    replace hz_a1 := Nat.le_trans hz_a1 b.size
    replace o_r := o_r.keep b hz_r
    replace hz_r := Nat.le_trans hz_r b.size
    replace o_y0 := o_y0.keep b hz_y0
    replace hz_y0 := Nat.le_trans hz_y0 b.size
    replace bb := bb.trans (b.mono bb.size)
    have hz_y1 := Nat.le_refl w5.heap.size
    have hn_y1 : n1 ≤ 1048576 := hn1
    clear b
    go_wp2_with fail
    refine (conv_i _ _ _ _ _ _ x0 x1 _ ((o_y0.sl hn_y0).more hz_y0) ((o_y1.sl hn_y1).more hz_y1)).mono ?_
    have le_a0_g := hz_a0
    have le_a1_g := hz_a1
    have le_r_g := hz_r
    have le_y0_g := hz_y0
    have le_y1_g := hz_y1
    have ge_g := bb.size
    rintro e w6 ⟨a_g, n_g, c_g, rfl, o_g, b⟩
    replace s_a0 := s_a0.keep (b.mono hz_a0)
    replace hz_a0 := Nat.le_trans hz_a0 b.size
    replace s_a1 := s_a1.keep (b.mono hz_a1)
    replace hz_a1 := Nat.le_trans hz_a1 b.size
    replace o_r := o_r.keep b hz_r
    replace hz_r := Nat.le_trans hz_r b.size
    replace o_y0 := o_y0.keep b hz_y0
    replace hz_y0 := Nat.le_trans hz_y0 b.size
    replace o_y1 := o_y1.keep b hz_y1
    replace hz_y1 := Nat.le_trans hz_y1 b.size
    replace bb := bb.trans (b.mono bb.size)
    have hz_g := Nat.le_refl w6.heap.size
    clear b
    have hn_g : n_g ≤ 1048576 := by rw [← o_g.len]; exact cvV_len _ _
    obtain rfl : n_g = n_r := by rw [← o_g.len, ← o_r.len]
    go_wp2_with fail
    refine (eqIntS_true _ _ _ _ _ _ _ ((o_g.sl hn_g).more hz_g) ((o_r.sl hn_r).more hz_r)).mono ?_
    rintro e w7 ⟨rfl, b⟩
    replace s_a0 := s_a0.keep (b.mono hz_a0)
    replace hz_a0 := Nat.le_trans hz_a0 b.size
    replace s_a1 := s_a1.keep (b.mono hz_a1)
    replace hz_a1 := Nat.le_trans hz_a1 b.size
    replace o_r := o_r.keep b hz_r
    replace hz_r := Nat.le_trans hz_r b.size
    replace o_y0 := o_y0.keep b hz_y0
    replace hz_y0 := Nat.le_trans hz_y0 b.size
    replace o_y1 := o_y1.keep b hz_y1
    replace hz_y1 := Nat.le_trans hz_y1 b.size
    replace o_g := o_g.keep b hz_g
    replace hz_g := Nat.le_trans hz_g b.size
    replace bb := bb.trans (b.mono bb.size)
    clear b
    go_wp2_with fail
    refine (toIntS_any _ _ _ x0 _ (s_a0.more hz_a0)).mono ?_
    have le_a0_u0 := hz_a0
    have le_a1_u0 := hz_a1
    have le_r_u0 := hz_r
    have le_y0_u0 := hz_y0
    have le_y1_u0 := hz_y1
    have le_g_u0 := hz_g
    have ge_u0 := bb.size
    rintro e w8 ⟨a_u0, c_u0, rfl, o_u0, b⟩
    replace s_a0 := s_a0.keep (b.mono hz_a0)
    replace hz_a0 := Nat.le_trans hz_a0 b.size
    replace s_a1 := s_a1.keep (b.mono hz_a1)
    replace hz_a1 := Nat.le_trans hz_a1 b.size
    replace o_r := o_r.keep b hz_r
    replace hz_r := Nat.le_trans hz_r b.size
    replace o_y0 := o_y0.keep b hz_y0
    replace hz_y0 := Nat.le_trans hz_y0 b.size
    replace o_y1 := o_y1.keep b hz_y1
    replace hz_y1 := Nat.le_trans hz_y1 b.size
    replace o_g := o_g.keep b hz_g
    replace hz_g := Nat.le_trans hz_g b.size
    replace bb := bb.trans (b.mono bb.size)
    have hz_u0 := Nat.le_refl w8.heap.size
    have hn_u0 : n0 ≤ 1048576 := hn0
    clear b
    go_wp2_with fail
    refine (eqIntS_true _ _ _ _ _ _ _ ((o_y0.sl hn_y0).more hz_y0) ((o_u0.sl hn_u0).more hz_u0)).mono ?_
    rintro e w9 ⟨rfl, b⟩
    replace s_a0 := s_a0.keep (b.mono hz_a0)
    replace hz_a0 := Nat.le_trans hz_a0 b.size
    replace s_a1 := s_a1.keep (b.mono hz_a1)
    replace hz_a1 := Nat.le_trans hz_a1 b.size
    replace o_r := o_r.keep b hz_r
    replace hz_r := Nat.le_trans hz_r b.size
    replace o_y0 := o_y0.keep b hz_y0
    replace hz_y0 := Nat.le_trans hz_y0 b.size
    replace o_y1 := o_y1.keep b hz_y1
    replace hz_y1 := Nat.le_trans hz_y1 b.size
    replace o_g := o_g.keep b hz_g
    replace hz_g := Nat.le_trans hz_g b.size
    replace o_u0 := o_u0.keep b hz_u0
    replace hz_u0 := Nat.le_trans hz_u0 b.size
    replace bb := bb.trans (b.mono bb.size)
    clear b
    clear o_u0 hz_u0
    go_wp2_with fail
    refine (toIntS_any _ _ _ x1 _ (s_a1.more hz_a1)).mono ?_
    have le_a0_u1 := hz_a0
    have le_a1_u1 := hz_a1
    have le_r_u1 := hz_r
    have le_y0_u1 := hz_y0
    have le_y1_u1 := hz_y1
    have le_g_u1 := hz_g
    have ge_u1 := bb.size
    rintro e w10 ⟨a_u1, c_u1, rfl, o_u1, b⟩
    replace s_a0 := s_a0.keep (b.mono hz_a0)
    replace hz_a0 := Nat.le_trans hz_a0 b.size
    replace s_a1 := s_a1.keep (b.mono hz_a1)
    replace hz_a1 := Nat.le_trans hz_a1 b.size
    replace o_r := o_r.keep b hz_r
    replace hz_r := Nat.le_trans hz_r b.size
    replace o_y0 := o_y0.keep b hz_y0
    replace hz_y0 := Nat.le_trans hz_y0 b.size
    replace o_y1 := o_y1.keep b hz_y1
    replace hz_y1 := Nat.le_trans hz_y1 b.size
    replace o_g := o_g.keep b hz_g
    replace hz_g := Nat.le_trans hz_g b.size
    replace bb := bb.trans (b.mono bb.size)
    have hz_u1 := Nat.le_refl w10.heap.size
    have hn_u1 : n1 ≤ 1048576 := hn1
    clear b
    go_wp2_with fail
    refine (eqIntS_true _ _ _ _ _ _ _ ((o_y1.sl hn_y1).more hz_y1) ((o_u1.sl hn_u1).more hz_u1)).mono ?_
    rintro e w11 ⟨rfl, b⟩
    replace s_a0 := s_a0.keep (b.mono hz_a0)
    replace hz_a0 := Nat.le_trans hz_a0 b.size
    replace s_a1 := s_a1.keep (b.mono hz_a1)
    replace hz_a1 := Nat.le_trans hz_a1 b.size
    replace o_r := o_r.keep b hz_r
    replace hz_r := Nat.le_trans hz_r b.size
    replace o_y0 := o_y0.keep b hz_y0
    replace hz_y0 := Nat.le_trans hz_y0 b.size
    replace o_y1 := o_y1.keep b hz_y1
    replace hz_y1 := Nat.le_trans hz_y1 b.size
    replace o_g := o_g.keep b hz_g
    replace hz_g := Nat.le_trans hz_g b.size
    replace o_u1 := o_u1.keep b hz_u1
    replace hz_u1 := Nat.le_trans hz_u1 b.size
    replace bb := bb.trans (b.mono bb.size)
    clear b
    clear o_u1 hz_u1
    go_wp2_with fail
    refine (mark_any _ _ _ _ _ _ _ _ o_y0 hn_y0 (by omega)).mono ?_
    clear o_y0
    rintro e w12 ⟨rfl, o_y0, m⟩
    replace s_a0 := m.sl s_a0 le_a0_y0
    replace hz_a0 := Nat.le_trans hz_a0 m.low.size
    replace s_a1 := m.sl s_a1 le_a1_y0
    replace hz_a1 := Nat.le_trans hz_a1 m.low.size
    replace o_r := m.ownLow o_r le_r_y0
    replace hz_r := Nat.le_trans hz_r m.low.size
    replace hz_y0 := Nat.le_trans hz_y0 m.low.size
    replace o_y1 := m.ownHigh o_y1 le_y0_y1
    replace hz_y1 := Nat.le_trans hz_y1 m.low.size
    replace o_g := m.ownHigh o_g le_y0_g
    replace hz_g := Nat.le_trans hz_g m.low.size
    replace bb := bb.trans (m.low.mono ge_y0)
    clear m
    go_wp2_with fail
    refine (mark_any _ _ _ _ _ _ _ _ o_y1 hn_y1 (by omega)).mono ?_
    clear o_y1
    rintro e w13 ⟨rfl, o_y1, m⟩
    replace s_a0 := m.sl s_a0 le_a0_y1
    replace hz_a0 := Nat.le_trans hz_a0 m.low.size
    replace s_a1 := m.sl s_a1 le_a1_y1
    replace hz_a1 := Nat.le_trans hz_a1 m.low.size
    replace o_r := m.ownLow o_r le_r_y1
    replace hz_r := Nat.le_trans hz_r m.low.size
    replace o_y0 := m.ownLow o_y0 le_y0_y1
    replace hz_y0 := Nat.le_trans hz_y0 m.low.size
    replace hz_y1 := Nat.le_trans hz_y1 m.low.size
    replace o_g := m.ownHigh o_g le_y1_g
    replace hz_g := Nat.le_trans hz_g m.low.size
    replace bb := bb.trans (m.low.mono ge_y1)
    clear m
    go_wp2_with fail
    refine (eqIntS_true _ _ _ _ _ _ _ ((o_g.sl hn_g).more hz_g) ((o_r.sl hn_r).more hz_r)).mono ?_
    rintro e w14 ⟨rfl, b⟩
    replace s_a0 := s_a0.keep (b.mono hz_a0)
    replace hz_a0 := Nat.le_trans hz_a0 b.size
    replace s_a1 := s_a1.keep (b.mono hz_a1)
    replace hz_a1 := Nat.le_trans hz_a1 b.size
    replace o_r := o_r.keep b hz_r
    replace hz_r := Nat.le_trans hz_r b.size
    replace o_y0 := o_y0.keep b hz_y0
    replace hz_y0 := Nat.le_trans hz_y0 b.size
    replace o_y1 := o_y1.keep b hz_y1
    replace hz_y1 := Nat.le_trans hz_y1 b.size
    replace o_g := o_g.keep b hz_g
    replace hz_g := Nat.le_trans hz_g b.size
    replace bb := bb.trans (b.mono bb.size)
    clear b
    clear o_y0 hz_y0
    clear o_y1 hz_y1
    go_wp2_with fail
    refine (mark_any _ _ _ _ _ _ _ _ o_g hn_g (by omega)).mono ?_
    clear o_g
    rintro e w15 ⟨rfl, o_g, m⟩
    replace s_a0 := m.sl s_a0 le_a0_g
    replace hz_a0 := Nat.le_trans hz_a0 m.low.size
    replace s_a1 := m.sl s_a1 le_a1_g
    replace hz_a1 := Nat.le_trans hz_a1 m.low.size
    replace o_r := m.ownLow o_r le_r_g
    replace hz_r := Nat.le_trans hz_r m.low.size
    replace hz_g := Nat.le_trans hz_g m.low.size
    replace bb := bb.trans (m.low.mono ge_g)
    clear m
    go_wp2_with fail
    refine (held_any _ _ _ _ _ ((o_g.sl hn_g).more hz_g) (by omega)).mono ?_
    rintro e w15' ⟨rfl, rfl⟩
    go_wp2_with fail
    refine (toIntS_any _ _ _ x0 _ (s_a0.more hz_a0)).mono ?_
    have le_a0_v0 := hz_a0
    have le_a1_v0 := hz_a1
    have le_r_v0 := hz_r
    have le_g_v0 := hz_g
    have ge_v0 := bb.size
    rintro e w16 ⟨a_v0, c_v0, rfl, o_v0, b⟩
    replace s_a0 := s_a0.keep (b.mono hz_a0)
    replace hz_a0 := Nat.le_trans hz_a0 b.size
    replace s_a1 := s_a1.keep (b.mono hz_a1)
    replace hz_a1 := Nat.le_trans hz_a1 b.size
    replace o_r := o_r.keep b hz_r
    replace hz_r := Nat.le_trans hz_r b.size
    replace o_g := o_g.keep b hz_g
    replace hz_g := Nat.le_trans hz_g b.size
    replace bb := bb.trans (b.mono bb.size)
    have hz_v0 := Nat.le_refl w16.heap.size
    have hn_v0 : n0 ≤ 1048576 := hn0
    clear b
    go_wp2_with fail
    refine (toIntS_any _ _ _ x1 _ (s_a1.more hz_a1)).mono ?_
    have le_a0_v1 := hz_a0
    have le_a1_v1 := hz_a1
    have le_r_v1 := hz_r
    have le_g_v1 := hz_g
    have le_v0_v1 := hz_v0
    have ge_v1 := bb.size
    rintro e w17 ⟨a_v1, c_v1, rfl, o_v1, b⟩
    replace s_a0 := s_a0.keep (b.mono hz_a0)
    replace hz_a0 := Nat.le_trans hz_a0 b.size
    replace s_a1 := s_a1.keep (b.mono hz_a1)
    replace hz_a1 := Nat.le_trans hz_a1 b.size
    replace o_r := o_r.keep b hz_r
    replace hz_r := Nat.le_trans hz_r b.size
    replace o_g := o_g.keep b hz_g
    replace hz_g := Nat.le_trans hz_g b.size
    replace o_v0 := o_v0.keep b hz_v0
    replace hz_v0 := Nat.le_trans hz_v0 b.size
    replace bb := bb.trans (b.mono bb.size)
    have hz_v1 := Nat.le_refl w17.heap.size
    have hn_v1 : n1 ≤ 1048576 := hn1
    clear b
    clear s_a0 hz_a0
    clear s_a1 hz_a1
    go_wp2_with fail
    refine (conv_i _ _ _ _ _ _ x0 x1 _ ((o_v0.sl hn_v0).more hz_v0) ((o_v1.sl hn_v1).more hz_v1)).mono ?_
    have le_r_h := hz_r
    have le_g_h := hz_g
    have le_v0_h := hz_v0
    have le_v1_h := hz_v1
    have ge_h := bb.size
    rintro e w18 ⟨a_h, n_h, c_h, rfl, o_h, b⟩
    replace o_r := o_r.keep b hz_r
    replace hz_r := Nat.le_trans hz_r b.size
    replace o_g := o_g.keep b hz_g
    replace hz_g := Nat.le_trans hz_g b.size
    replace o_v0 := o_v0.keep b hz_v0
    replace hz_v0 := Nat.le_trans hz_v0 b.size
    replace o_v1 := o_v1.keep b hz_v1
    replace hz_v1 := Nat.le_trans hz_v1 b.size
    replace bb := bb.trans (b.mono bb.size)
    have hz_h := Nat.le_refl w18.heap.size
    clear b
    have hn_h : n_h ≤ 1048576 := by rw [← o_h.len]; exact cvV_len _ _
    clear o_v0 hz_v0
    clear o_v1 hz_v1
    obtain rfl : n_h = n_g := by rw [← o_h.len, ← o_r.len]
    go_wp2_with fail
    refine (eqIntS_true _ _ _ _ _ _ _ ((o_h.sl hn_h).more hz_h) ((o_r.sl hn_r).more hz_r)).mono ?_
    rintro e w19 ⟨rfl, b⟩
    replace o_r := o_r.keep b hz_r
    replace hz_r := Nat.le_trans hz_r b.size
    replace o_g := o_g.keep b hz_g
    replace hz_g := Nat.le_trans hz_g b.size
    replace o_h := o_h.keep b hz_h
    replace hz_h := Nat.le_trans hz_h b.size
    replace bb := bb.trans (b.mono bb.size)
    clear b
    clear o_h hz_h
    clear o_r hz_r
    go_wp2_with fail
    refine (held_any _ _ _ _ _ ((o_g.sl hn_g).more hz_g) (by omega)).mono ?_
    rintro e w19' ⟨rfl, rfl⟩
    go_wp2_with fail
    go_ret
    exact ⟨rfl, bb⟩

set_option maxHeartbeats 400000 in
theorem fnExactConvolve_walk (a0 : Option Addr) (n0 c0 : Nat) (x0 : List Int) (a1 : Option Addr) (n1 c1 : Nat) (x1 : List Int) (w : World) (h0 : IsRow .i64 w a0 n0 c0 x0) (h1 : IsRow .i64 w a1 n1 c1 x1) :
    Calls Try.prog 9 #[.slice a0 n0 c0, .slice a1 n1 c1] w fun e w' => e = .returned (.bool true) ∧ Below w.heap.size w w' := by
  have hle0 := h0.le
  have hle1 := h1.le
  by_cases hn0 : n0 ≤ 1048576
  · by_cases hn1 : n1 ≤ 1048576
    · exact fnExactConvolve_core _ _ _ _ _ _ _ _ w (h0.sl hn0) (h1.sl hn1)
    · go_enter Try.func9, Try.ntmps9
      go_wp2_with fail
      go_ret
      exact ⟨rfl, Below.refl _ _⟩
  · go_enter Try.func9, Try.ntmps9
    go_wp2_with fail
    go_ret
    exact ⟨rfl, Below.refl _ _⟩
end Go.Proofs.Ytmlncbiejaojnaa
