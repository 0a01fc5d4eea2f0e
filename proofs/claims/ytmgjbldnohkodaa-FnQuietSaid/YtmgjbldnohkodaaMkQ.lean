/- The contract of MakeQuantiser: a valid quantiser with a small step. -/
import Derived.Test.YtmgjbldnohkodaaCur
import Derived.Test.YtmgjbldnohkodaaPureQ
namespace Go.Proofs.Ytmgjbldnohkodaa
open Go.RowKit
set_option linter.unusedVariables false
def smallS (s : Int) : Prop := s ∈ ([1, 2, 3, 16, 50, 64] : List Int)
theorem smallS_bd {s : Int} (h : smallS s) : 1 ≤ s ∧ s ≤ 64 := by simp [smallS] at h; omega
theorem smallQ {l s : Int} (h0 : 2 ≤ l) (h1 : l ≤ 6) (h : smallS s) : isQ l s = true := by have := smallS_bd h; exact isQ_mk h0 (by omega) (by omega) (by omega)
def RetQ (w : World) (e : Ending) (w' : World) : Prop := ∃ l s : Int, 2 ≤ l ∧ l ≤ 6 ∧ smallS s ∧ e = .returned (.agg #[.int .i64 l, .int .i64 s]) ∧ Below w.heap.size w w'
set_option maxHeartbeats 1600000 in
theorem mkQ_any (ao : Option Addr) (n cap : Nat) (w : World) (h : BSl w w.heap.size ao n cap) :
    Calls Try.prog 23 #[.slice ao n cap] w (RetQ w) := by
  go_enter Try.func23, Try.ntmps23
  go_wp2_with fail
  have b0 := box_below w (.cells #[.int .i64 0, .int .i64 0] 24)
  have k0 := Blk.new w 24 #[.int .i64 0, .int .i64 0]
  generalize w.alloc (.cells #[.int .i64 0, .int .i64 0] 24) = w0 at b0 k0 ⊢
  have z0 := k0.lt
  refine (cur_new _ _ _ w.heap.size _ (h.keep b0) (Nat.le_of_lt z0)).mono ?_
  rintro e w1 ⟨rfl, q1, b1⟩
  have k1 := k0.below b1 z0
  have b2 := then_then b0 b1
  clear k0 b0
  obtain ⟨g, HG⟩ : ∃ g, Hid (w0.heap.size = g) := ⟨_, rfl⟩
  have hgw : w.heap.size < g := by rw [← HG.out]; exact z0
  rw [HG.out] at q1
  have HG' := HG
  go_wp2_with fail
  rw [HG.out]
  refine (below_any g w.heap.size 5 _ q1 (by omega) (by omega)).mono ?_
  rintro e w2 ⟨x, hx0, hx1, rfl, q2, o2⟩
  have k2 := k1.grown o2 (fun e => by injection e with e; omega)
  have b3 := b2.trans (only_below o2 (Nat.le_of_lt hgw) b2.size)
  clear k1 b2 q1 o2 b1
  go_wp2_with fail
  have k3 := k2.alloc (.cells #[.int .i64 1, .int .i64 2, .int .i64 3, .int .i64 16, .int .i64 50, .int .i64 64] 3)
  have b4 := b3.alloc b3.size (.cells #[.int .i64 1, .int .i64 2, .int .i64 3, .int .i64 16, .int .i64 50, .int .i64 64] 3)
  obtain ⟨ca, cn, cc, ci, ch, cb, cs, cd, cl⟩ := q2
  have q3 : Cur (w2.alloc (.cells #[.int .i64 1, .int .i64 2, .int .i64 3, .int .i64 16, .int .i64 50, .int .i64 64] 3)) g w.heap.size :=
    ⟨ca, cn, cc, ci, ch, cb.alloc _, cs.keep ((box_below w2 _).mono b3.size), cd, cl⟩
  have hg2 := cb.lt
  have l3 := Blk.new w2 3 #[.int .i64 1, .int .i64 2, .int .i64 3, .int .i64 16, .int .i64 50, .int .i64 64]
  have hz3 : w2.heap.size < (w2.alloc (.cells #[.int .i64 1, .int .i64 2, .int .i64 3, .int .i64 16, .int .i64 50, .int .i64 64] 3)).heap.size := by simp
  generalize w2.alloc (.cells #[.int .i64 1, .int .i64 2, .int .i64 3, .int .i64 16, .int .i64 50, .int .i64 64] 3) = w3 at k3 b4 q3 l3 hz3 ⊢
  refine (pick_any g w.heap.size w2.heap.size 6 6 [1, 2, 3, 16, 50, 64] _ q3 rfl (by omega) (by omega) hz3 (fun i hi => ?_)).mono ?_
  · rw [l3.cell i]
    rcases i with _ | _ | _ | _ | _ | _ | i
    · rfl
    · rfl
    · rfl
    · rfl
    · rfl
    · rfl
    · omega
  rintro e w4 ⟨s, hs, rfl, q4, o4⟩
  have k4 := k3.grown o4 (fun e => by injection e with e; omega)
  have b5 := b4.trans (only_below o4 (Nat.le_of_lt hgw) b4.size)
  have c0 := k4.cell 0
  have c1 := k4.cell 1
  have f0 := k4.frozen 0
  have f1 := k4.frozen 1
  simp at c0 c1
  go_wp2_with fail
  have k5 := (k4.set_ 0 (.int .i64 (2 + x))).set_ 1 (.int .i64 s)
  have b6 := (b5.setCell (p := ⟨w.heap.size, 0, none⟩) (Nat.le_refl _) (.int .i64 (2 + x))).setCell (p := ⟨w.heap.size, 1, none⟩) (Nat.le_refl _) (.int .i64 s)
  simp at k5
  clear c0 c1 f0 f1
  generalize (w4.setCell ⟨w.heap.size, 0, none⟩ (.int .i64 (2 + x))).setCell ⟨w.heap.size, 1, none⟩ (.int .i64 s) = w5 at k5 b6 ⊢
  have d0 := k5.cell 0
  have d1 := k5.cell 1
  simp at d0 d1
  exact bodyPost_ret (v := .agg #[.int .i64 (2 + x), .int .i64 s]) (by simp [results, Try.results23, go_sem, d0, d1]) rfl ⟨2 + x, s, by omega, by omega, hs, rfl, b6⟩
end Go.Proofs.Ytmgjbldnohkodaa
