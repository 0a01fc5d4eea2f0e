/- The contracts of MakeMemory and of the laws' helpers two, abs. -/
import Derived.Test.YtmgjbldnohkodaaMkM
import Derived.Test.YtmgjbldnohkodaaLawP
namespace Go.Proofs.Ytmgjbldnohkodaa
open Go.RowKit
set_option linter.unusedVariables false

theorem BSl.drew {w : World} {C n cap : Nat} {ao : Option Addr} (h : BSl w C ao n cap) : BSl w.drew C ao n cap := h
/-- A memory of n elements, none greater than s. -/
def RetMem (w : World) (n : Nat) (s : Int) (e : Ending) (w' : World) : Prop :=
  ∃ ao cap ys, e = .returned (.slice ao n cap) ∧ Own w' w.heap.size w'.heap.size ao n cap ys ∧ Within ys s ∧ Below w.heap.size w w'
set_option maxRecDepth 100000 in
set_option maxHeartbeats 1600000 in
theorem mkMem_any (l s : Int) (ao bo : Option Addr) (n cap N C : Nat) (w : World) (h : BSl w w.heap.size ao n cap) (hN : N ≤ 6) (hs : 1 ≤ s ∧ s ≤ 64) :
    Calls Try.prog 14 #[.slice ao n cap, .agg #[.int .i64 l, .int .i64 s, .slice bo N C]] w (RetMem w N s) := by
  have m0 := Blk.new w 27 #[.int .i64 l, .int .i64 s, .slice bo N C]
  have b0 := box_below w (.cells #[.int .i64 l, .int .i64 s, .slice bo N C] 27)
  go_enter Try.func14, Try.ntmps14
  go_wp2_with fail
  generalize w.alloc (.cells #[.int .i64 l, .int .i64 s, .slice bo N C] 27) = w0 at m0 b0 ⊢
  have z0 := m0.lt
  refine (cur_new _ _ _ w.heap.size _ (h.keep b0) (Nat.le_of_lt z0)).mono ?_
  rintro e w1 ⟨rfl, q1, b1⟩
  have m1 := m0.below b1 z0
  have b2 := then_then b0 b1
  clear m0 b0 h
  obtain ⟨g, HG⟩ : ∃ g, Hid (w0.heap.size = g) := ⟨_, rfl⟩
  have hgw : w.heap.size < g := by rw [← HG.out]; exact z0
  rw [HG.out] at q1
  clear b1
  have c2 := m1.cell 2
  have a2 := (m1.alloc (.cells #[] 3)).cell 2
  simp at c2 a2
  go_wp2_with fail
  rw [HG.out]
  have o3 := Own.empty w1 w1.heap.size (Nat.le_refl _)
  have m3 := m1.alloc (.cells #[] 3)
  have q3 := q1.alloc b2.size (.cells #[] 3)
  have b3 := b2.alloc b2.size (.cells #[] 3)
  have hg1 := q1.lt.2
  have hb2 := b2.size
  clear c2 a2 m1 q1 b2
  generalize hgw3 : w1.alloc (.cells #[] 3) = w3 at o3 m3 q3 b3 ⊢
  clear hgw3
  go_loopw [6, 13] (fun out i wr => ∃ (j gr c : Nat) (ys : List Int), i = .int .i64 j ∧ out = .slice (some ⟨gr, 0, none⟩) j c ∧ j ≤ N ∧ Own wr w1.heap.size wr.heap.size (some ⟨gr, 0, none⟩) j c ys ∧ Within ys s ∧ Blk wr w.heap.size 27 #[.int .i64 l, .int .i64 s, .slice bo N C] ∧ Cur wr g w.heap.size ∧ Below w.heap.size w wr) (fun _ i _ => N - (intOf i).toNat)
  case atStart => exact ⟨0, _, 0, [], rfl, rfl, Nat.zero_le _, o3, Within.nil _, m3, q3, b3⟩
  case round =>
    clear o3 m3 q3 b3
    obtain ⟨j, gr, c, ys, rfl, rfl, hj, hown, hin, HM, hcur, HB⟩ := hrel
    by_cases hlt : j < N
    · have d1 := HM.cell 1
      simp at d1
      have hgr := hown.at_
      have ew1 : IntKind.i64.wrap (2 * s) = 2 * s := IntWalk.i64_in _ (by omega)
      have ew2 : IntKind.i64.wrap (2 * s + 1) = 2 * s + 1 := IntWalk.i64_in _ (by omega)
      go_wp2_with fail
      go_region_law (first
        | (refine step_one rfl (.tmp 15) (.tmp 27) rfl (by simp [Act.eval]) (own7.alloc _) w7.heap.size 1 (y - s) (by simp [Act.eval]) (by simp [go_sem]) (by omega) (by simp; omega) ?_; intro g1 D8 w8 o8 hg8; have G8 := hg8.below (own7.alloc _) (by simp; omega))
        | (go_simp; go_at_call 54; refine (below_any g w.heap.size (2 * s + 1) wr.drew hcur.drew (by omega) (by omega)).mono ?_; rintro e w7 ⟨y, hy0, hy1, rfl, c7, o7⟩; have ew : IntKind.i64.wrap (y - s) = y - s := IntWalk.i64_in _ (by omega); have own7 := hown.drew.only o7 (by omega); have HM7 := HM.drew.grown o7 (fun e => by injection e with e; omega); have hz7 : wr.heap.size ≤ w7.heap.size := o7.size; have d1' := HM7.cell 1; simp at d1'))
      all_goals
        have hb7 : Below w.heap.size w w7 := HB.drew.trans (only_below o7 (Nat.le_of_lt hgw) HB.drew.size)
        have HM8 := (HM7.alloc (.cells #[.int .i64 (y - s)] 3)).below G8 (by omega)
        have c8 := (c7.below (box_below w7 (.cells #[.int .i64 (y - s)] 3)) c7.lt.2).below G8 (by omega)
        have b8 := (hb7.alloc hb7.size (.cells #[.int .i64 (y - s)] 3)).trans (G8.mono (by omega))
        simp [Act.put]
        go_wp2_with fail
        go_roundw
        case rel => exact ⟨j + 1, g1, D8, ys ++ [y - s], by go_num, rfl, by omega, o8, hin.snoc (by omega) (by omega), HM8, c8, b8⟩
        case measure => simp [intOf]; omega
    · obtain rfl : j = N := by omega
      go_wp2_with fail
      go_ret
      exact ⟨_, _, ys, rfl, hown.wide (by omega) (Nat.le_refl _), hin, HB⟩
set_option maxHeartbeats 800000 in
theorem two_any (ao bo : Option Addr) (n c m d : Nat) (xs ys : List Int) (w : World) (ha : Sl w w.heap.size ao n c xs) (hb : Sl w w.heap.size bo m d ys) (hn : n + m ≤ 1000) :
    Calls Try.prog 44 #[.slice ao n c, .slice bo m d] w (RetN w (n + m) (xs ++ ys)) := by
  have o0 := Own.empty w w.heap.size (Nat.le_refl _)
  have b0 := box_below w (.cells #[] 3)
  have ha0 := ha.keep b0
  have hb0 := hb.keep b0
  have hz : w.heap.size ≤ (w.alloc (.cells #[] 3)).heap.size := b0.size
  go_enter Try.func44, Try.ntmps44
  go_wp2_with (at_builtin; refine wpList_many rfl _ _ rfl rfl o0 _ _ _ _ xs rfl ha0 (by omega) hz (Nat.le_refl _) ?_)
  intro a1 d1 w1 o1 hg1
  have b1 : Below w.heap.size w w1 := b0.trans ⟨hg1.os, hg1.tape, hg1.output, hg1.size, fun k hk => hg1.block k (by omega) (fun e => by simp at e; omega)⟩
  have hb1 := hb.keep b1
  have hz1 := b1.size
  clear ha0 hb0 o0 hg1 b0 hz
  go_wp2_with (at_builtin; refine wpList_many rfl _ _ rfl rfl o1 _ _ _ _ ys rfl hb1 (by omega) hz1 (Nat.le_refl _) ?_)
  intro a2 d2 w2 o2 hg2
  have b2 : Below w.heap.size w w2 := by
    rcases o1.form with ⟨rfl, _⟩ | ⟨g, rfl, hB, _⟩
    · have g2 := hg2 none (.inl rfl)
      exact b1.trans ⟨g2.os, g2.tape, g2.output, g2.size, fun k hk => g2.block k (by omega) (by simp)⟩
    · have g2 := hg2 (some g) (.inr rfl)
      exact b1.trans ⟨g2.os, g2.tape, g2.output, g2.size, fun k hk => g2.block k (by omega) (fun e => by injection e with e; omega)⟩
  clear hb1 o1 hg2 b1
  go_wp2_with fail
  go_ret
  exact ⟨_, _, rfl, o2, b2⟩
theorem abs_m (v m : Int) (w : World) (hm : Hid (m = max v (-v))) (hv : -9223372036854775807 ≤ v ∧ v ≤ 9223372036854775807) : Calls Try.prog 27 #[.int .i64 v] w fun e w' => e = .returned (.int .i64 m) ∧ w = w' := by
  by_cases hlt : v < -v
  · go_enter Try.func27, Try.ntmps27
    go_wp2
    go_ret
    exact ⟨ret_int (by have := hm.out; omega), rfl⟩
  · go_enter Try.func27, Try.ntmps27
    go_wp2
    go_ret
    exact ⟨ret_int (by have := hm.out; omega), rfl⟩
end Go.Proofs.Ytmgjbldnohkodaa
