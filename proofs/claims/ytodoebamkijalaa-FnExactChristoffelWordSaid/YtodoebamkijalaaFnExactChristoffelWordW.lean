/- The walk of the law FnExactChristoffelWord: it returns true and leaves what was there as it was. -/
import Derived.Test.YtodoebamkijalaaMech
namespace Go.Proofs.Ytodoebamkijalaa
open Go.RowKit
set_option linter.unusedVariables false
set_option maxHeartbeats 2000000 in
theorem fnExactChristoffelWord_core (a0 : Int) (a1 : Int) (w : World) (h0 : Wf a0) (h1 : Wf a1) :
    Calls Try.prog 4 #[.int .i64 a0, .int .i64 a1] w fun e w' => e = .returned (.bool true) ∧ Below w.heap.size w w' := by
    have bb := Below.refl w.heap.size w
    go_enter Try.func4, Try.ntmps4
    go_wp2_with fail
    refine (chr_s _ _ _ h0 h1).mono ?_
    have ge_r := bb.size
    rintro e w1 ⟨a_r, n_r, c_r, rfl, o_r, b⟩
    replace bb := bb.trans (b.mono bb.size)
    have hz_r := Nat.le_refl w1.heap.size
    clear b
    have hn_r : n_r ≤ 1048576 := by rw [← o_r.len]; exact chrV_len _ _
    go_wp2_with fail
    refine (chr_i _ _ _ h0 h1).mono ?_
    have le_r_g := hz_r
    have ge_g := bb.size
    rintro e w2 ⟨a_g, n_g, c_g, rfl, o_g, b⟩
    replace o_r := o_r.keep b hz_r
    replace hz_r := Nat.le_trans hz_r b.size
    replace bb := bb.trans (b.mono bb.size)
    have hz_g := Nat.le_refl w2.heap.size
    clear b
    have hn_g : n_g ≤ 1048576 := by rw [← o_g.len]; exact chrV_len _ _
    obtain rfl : n_g = n_r := by rw [← o_g.len, ← o_r.len]
    go_wp2_with fail
    refine (eqIntS_true _ _ _ _ _ _ _ ((o_g.sl hn_g).more hz_g) ((o_r.sl hn_r).more hz_r)).mono ?_
    rintro e w3 ⟨rfl, b⟩
    replace o_r := o_r.keep b hz_r
    replace hz_r := Nat.le_trans hz_r b.size
    replace o_g := o_g.keep b hz_g
    replace hz_g := Nat.le_trans hz_g b.size
    replace bb := bb.trans (b.mono bb.size)
    clear b
    go_wp2_with fail
    refine (mark_any _ _ _ _ _ _ _ _ o_g hn_g (by omega)).mono ?_
    clear o_g
    rintro e w4 ⟨rfl, o_g, m⟩
    replace o_r := m.ownLow o_r le_r_g
    replace hz_r := Nat.le_trans hz_r m.low.size
    replace hz_g := Nat.le_trans hz_g m.low.size
    replace bb := bb.trans (m.low.mono ge_g)
    clear m
    go_wp2_with fail
    refine (held_any _ _ _ _ _ ((o_g.sl hn_g).more hz_g) (by omega)).mono ?_
    rintro e w4' ⟨rfl, rfl⟩
    go_wp2_with fail
    refine (chr_i _ _ _ h0 h1).mono ?_
    have le_r_h := hz_r
    have le_g_h := hz_g
    have ge_h := bb.size
    rintro e w5 ⟨a_h, n_h, c_h, rfl, o_h, b⟩
    replace o_r := o_r.keep b hz_r
    replace hz_r := Nat.le_trans hz_r b.size
    replace o_g := o_g.keep b hz_g
    replace hz_g := Nat.le_trans hz_g b.size
    replace bb := bb.trans (b.mono bb.size)
    have hz_h := Nat.le_refl w5.heap.size
    clear b
    have hn_h : n_h ≤ 1048576 := by rw [← o_h.len]; exact chrV_len _ _
    obtain rfl : n_h = n_g := by rw [← o_h.len, ← o_r.len]
    go_wp2_with fail
    refine (eqIntS_true _ _ _ _ _ _ _ ((o_h.sl hn_h).more hz_h) ((o_r.sl hn_r).more hz_r)).mono ?_
    rintro e w6 ⟨rfl, b⟩
    replace o_r := o_r.keep b hz_r
    replace hz_r := Nat.le_trans hz_r b.size
    replace o_g := o_g.keep b hz_g
    replace hz_g := Nat.le_trans hz_g b.size
    replace o_h := o_h.keep b hz_h
    replace hz_h := Nat.le_trans hz_h b.size
    replace bb := bb.trans (b.mono bb.size)
    clear b
    clear o_h hz_h
    clear o_r hz_r
    go_wp2_with fail
    refine (held_any _ _ _ _ _ ((o_g.sl hn_g).more hz_g) (by omega)).mono ?_
    rintro e w6' ⟨rfl, rfl⟩
    go_wp2_with fail
    go_ret
    exact ⟨rfl, bb⟩

set_option maxHeartbeats 400000 in
theorem fnExactChristoffelWord_walk (a0 : Int) (a1 : Int) (w : World) (h0 : Wf a0) (h1 : Wf a1) :
    Calls Try.prog 4 #[.int .i64 a0, .int .i64 a1] w fun e w' => e = .returned (.bool true) ∧ Below w.heap.size w w' := by
  exact fnExactChristoffelWord_core _ _ w h0 h1
end Go.Proofs.Ytodoebamkijalaa
