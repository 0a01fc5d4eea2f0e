/- The contracts of differences, DifferencesOf, IntegralsOf, DifferenceCoefs, of the program and of the reference. -/
import Derived.Test.YticfdmgbpgfogaaSeqOps
import Derived.Test.YticfdmgbpgfogaaPureD
import Derived.RegionTactic
namespace Go.Proofs.Yticfdmgbpgfogaa
open Go.RowKit

set_option maxHeartbeats 400000 in
theorem clone_any (ao : Option Addr) (n cap : Nat) (xs : List Int) (w : World) (h : Sl w w.heap.size ao n cap xs) :
    Calls Try.prog 59 #[.slice ao n cap] w (RetN w n xs) := by
  have hnil := fun W => Lib.run_eql_slice_nil (P := Try.prog) W 25 3 ao n cap 0 0 Try.underlying25
  have hn := h.2.2.1
  cases ao with
  | none =>
    have h0 : n = 0 := by
      rcases Nat.eq_zero_or_pos n with h0 | h0
      · exact h0
      · obtain ⟨b, off, e, _⟩ := h.at_ h0; cases e
    have hx : xs = [] := List.eq_nil_of_length_eq_zero (by rw [h.len, h0])
    subst h0 hx
    clear h
    simp only [Option.isNone_none] at hnil
    go_enter Try.func59, Try.ntmps59
    go_wp2
    go_ret
    exact ⟨none, 0, rfl, Own.nil, Below.refl _ _⟩
  | some a =>
    simp only [Option.isNone_some] at hnil
    have hE := Own.empty w w.heap.size (Nat.le_refl _)
    have hS : Sl (w.alloc (.cells #[] 3)) w.heap.size (some a) n cap xs := h.keep ((Below.refl _ _).alloc (Nat.le_refl _) _)
    have Hsz : w.heap.size ≤ (w.alloc (.cells #[] 3)).heap.size := by simp
    go_enter Try.func59, Try.ntmps59
    go_wp2_with (at_builtin; refine wpList_many rfl _ _ rfl rfl hE _ _ _ _ xs rfl hS (by omega) Hsz (Nat.le_refl _) ?_; intro a1 c1 w1 o1 g1; have hg := g1 _ (.inr rfl); clear g1; rw [Nat.zero_add, List.nil_append] at o1)
    have hb : Below w.heap.size w w1 := (box_below w _).trans ⟨hg.os, hg.tape, hg.output, hg.size, fun k hk => hg.block k (by simp; omega) (by simp; omega)⟩
    clear hnil hE hS hg
    go_wp2_with fail
    go_ret
    exact ⟨a1, c1, rfl, o1, hb⟩
set_option maxHeartbeats 400000 in
theorem copy_s (ao : Option Addr) (n cap : Nat) (xs : List Int) (w : World) (h : Sl w w.heap.size ao n cap xs) :
    Calls Try.prog 55 #[.slice ao n cap] w (RetN w n xs) := by
  have hn := h.2.2.1
  have hE := Own.empty w w.heap.size (Nat.le_refl _)
  have hS : Sl (w.alloc (.cells #[] 3)) w.heap.size ao n cap xs := h.keep ((Below.refl _ _).alloc (Nat.le_refl _) _)
  have Hsz : w.heap.size ≤ (w.alloc (.cells #[] 3)).heap.size := by simp
  go_enter Try.func55, Try.ntmps55
  go_wp2_with (at_builtin; refine wpList_many rfl _ _ rfl rfl hE _ _ _ _ xs rfl hS (by omega) Hsz (Nat.le_refl _) ?_; intro a1 c1 w1 o1 g1; have hg := g1 _ (.inr rfl); clear g1; rw [Nat.zero_add, List.nil_append] at o1)
  have hb : Below w.heap.size w w1 := (box_below w _).trans ⟨hg.os, hg.tape, hg.output, hg.size, fun k hk => hg.block k (by simp; omega) (by simp; omega)⟩
  clear hE hS hg
  go_wp2_with fail
  go_ret
  exact ⟨a1, c1, rfl, o1, hb⟩
theorem order_i (v : Int) (w : World) : Calls Try.prog 77 #[.int .i64 v] w fun e w' => e = .returned (.bool (ordB v)) ∧ w = w' := by
  by_cases h1 : 0 ≤ v
  · go_enter Try.func77, Try.ntmps77
    go_wp2
    go_ret
    exact ⟨ret_bool (by simp [ordB, h1]), rfl⟩
  · go_enter Try.func77, Try.ntmps77
    go_wp2
    go_ret
    exact ⟨ret_bool (by simp [ordB]; omega), rfl⟩
set_option maxHeartbeats 1600000 in
theorem differences_i (ao : Option Addr) (n cap : Nat) (xs : List Int) (k : Nat) (w : World) (h : Sl w w.heap.size ao n cap xs) (hk : k ≤ 6) (hb : ∀ i, -1099511627776 ≤ xs.getD i 0 ∧ xs.getD i 0 ≤ 1099511627776) :
    Calls Try.prog 78 #[.slice ao n cap, .int .i64 k] w (RetN w n (diffs xs k)) := by
  have hn := h.2.2.1
  have Hl := Lib.hid h.len
  have HB := Lib.hid hb
  clear hb
  go_enter Try.func78, Try.ntmps78
  go_wp2_with fail
  refine (clone_any _ _ _ xs _ h).mono ?_
  rintro e w1 ⟨a1, c1, rfl, o1, b1⟩
  clear h
  go_wp2_with fail
  rcases o1.form with ⟨rfl, rfl, rfl, rfl⟩ | ⟨g, rfl, hBg, hgC, hgs, hnc, _⟩
  · -- nothing to do
    go_loop [6, 10] (fun _ i => ∃ j : Nat, j ≤ k ∧ i = .int .i64 j) (fun _ i => k - (intOf i).toNat)
    case atStart => exact ⟨0, Nat.zero_le _, rfl⟩
    case round =>
      obtain ⟨j, hj, rfl⟩ := hrel
      by_cases hlt : j < k
      · go_wp2_with fail
        refine wp_loop_rounds 1 ?_
        rw [rounds_succ]
        go_wp2_with fail
        go_round
        case rel => exact ⟨j + 1, by omega, by go_num⟩
        case measure => simp [intOf]; omega
      · go_wp2_with fail
        go_ret
        have e0 : diffs [] k = [] := List.eq_nil_of_length_eq_zero (by rw [diffs_length]; rfl)
        exact ⟨none, 0, rfl, by rw [e0]; exact Own.nil, b1⟩
  · have o0 : Own w1 w.heap.size w1.heap.size (some ⟨g, 0, none⟩) n c1 (diffs xs 0) := o1
    clear o1
    go_loopw [6, 10] (fun _ i wr => ∃ j : Nat, j ≤ k ∧ i = .int .i64 j ∧ Own wr w.heap.size w1.heap.size (some ⟨g, 0, none⟩) n c1 (diffs xs j) ∧ Below w.heap.size w wr ∧ w1.heap.size ≤ wr.heap.size) (fun _ i _ => k - (intOf i).toNat)
    case atStart => exact ⟨0, Nat.zero_le _, rfl, o0, b1, Nat.le_refl _⟩
    case round =>
      clear o0 b1
      obtain ⟨j, hj, rfl, hown, hbel, hsz1⟩ := hrel
      by_cases hlt : j < k
      · have hyl : Hid ((diffs xs j).length = n) := by show (diffs xs j).length = n; rw [diffs_length, Hl.out]
        have HYB : Hid (∀ i, -(64 * 1099511627776) ≤ (diffs xs j).getD i 0 ∧ (diffs xs j).getD i 0 ≤ 64 * 1099511627776) := diffs_le (by omega) HB.out j (by omega)
        have hnx : Hid (diffs xs (j + 1) = diff1 (diffs xs j)) := rfl
        generalize diffs xs j = ys at hown hyl HYB hnx
        obtain ⟨wo, rfl⟩ : ∃ wo : World, wo = wr := ⟨_, rfl⟩
        have o2 : Own wo w.heap.size w1.heap.size (some ⟨g, 0, none⟩) n c1 (dStage ys (n - 1)) := by rw [dStage_start ys (n - 1) (by have := hyl.out; omega)]; exact hown
        clear hown
        by_cases hn0 : n = 0
        · have h3 : Hid (dStage ys (n - 1) = diff1 ys) := by show dStage ys (n - 1) = _; rw [show n - 1 = 0 from by omega]; exact dStage_end ys
          subst hn0
          rw [h3.out, ← hnx.out] at o2
          go_wp2_with fail
          refine wp_loop_rounds 1 ?_
          rw [rounds_succ]
          go_wp2_with fail
          go_roundw
          case rel => exact ⟨j + 1, by omega, by go_num, o2, hbel, hsz1⟩
          case measure => simp [intOf]; omega
        go_wp2_with fail
        go_loopw [6] (fun i wr => ∃ m : Nat, m < n ∧ i = .int .i64 m ∧ Own wr w.heap.size w1.heap.size (some ⟨g, 0, none⟩) n c1 (dStage ys m) ∧ Below w.heap.size w wr ∧ w1.heap.size ≤ wr.heap.size) (fun i _ => (intOf i).toNat)
        case atStart => exact ⟨n - 1, by omega, by go_num, o2, hbel, hsz1⟩
        case round =>
          clear o2 hbel hsz1
          obtain ⟨m, hm, rfl, hown, hbel, hsz1⟩ := hrel
          by_cases hm0 : 0 < m
          · have hcx := hown.cellsAt m hm
            have hcy := hown.cellsAt (m - 1) (by omega)
            rw [dStage_here ys m (by rw [hyl.out]; exact hm)] at hcx
            rw [dStage_before ys m (by rw [hyl.out]; exact hm)] at hcy
            have hfy := hown.free m
            have bx := HYB.out m
            have by_ := HYB.out (m - 1)
            have hset := (hown.set m (ys.getD m 0 - ys.getD (m - 1) 0)).1
            rw [dStage_set ys m hm0 (by rw [hyl.out]; exact hm)] at hset
            have hbs := hbel.setCell (p := ⟨g, m, none⟩) hBg (.int .i64 (ys.getD m 0 - ys.getD (m - 1) 0))
            generalize ys.getD m 0 = x at hcx bx hset hbs
            generalize ys.getD (m - 1) 0 = y at hcy by_ hset hbs
            clear hown hbel
            have hm1 : (m : Int) < (n : Int) := by omega
            have e1 : IntKind.i64.wrap ((m : Int) - 1) = (m : Int) - 1 := IntWalk.i64_in _ (by omega)
            have e2 : IntKind.i64.wrap (x - y) = x - y := IntWalk.i64_in _ (by omega)
            have e3 : ((m : Int) - 1).toNat = m - 1 := by omega
            have e4 : (0 : Int) ≤ (m : Int) - 1 := by omega
            go_wp2_with fail
            go_region
            go_wp2_with fail
            go_roundw
            case rel => exact ⟨m - 1, by omega, by go_num, hset.drew, hbs.drew, by simpa [World.setCell] using hsz1⟩
            case measure => simp [intOf]; omega
          · have h3 : Hid (dStage ys m = diff1 ys) := by show dStage ys m = _; rw [show m = 0 from by omega]; exact dStage_end ys
            rw [h3.out, ← hnx.out] at hown
            go_wp2_with fail
            go_roundw
            case rel => exact ⟨j + 1, by omega, by go_num, hown, hbel, hsz1⟩
            case measure => simp [intOf]; omega
      · have : j = k := by omega
        subst this
        go_wp2_with fail
        go_ret
        exact ⟨_, _, rfl, hown.wide (Nat.le_refl _) hsz1, hbel⟩
end Go.Proofs.Yticfdmgbpgfogaa
