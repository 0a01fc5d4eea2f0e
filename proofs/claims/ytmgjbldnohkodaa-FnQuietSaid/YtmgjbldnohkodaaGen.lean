/- The contracts of l1Small, MakeSequence, and of the laws' helpers fresh, ints, constant. What is drawn is not told, only its bounds. -/
import Derived.Test.YtmgjbldnohkodaaCur
import Derived.Test.YtmgjbldnohkodaaTwo
namespace Go.Proofs.Ytmgjbldnohkodaa
open Go.RowKit
set_option linter.unusedVariables false

theorem only_grew {w w1 w2 : World} {gc g g1 : Nat} (o : Only w w1 gc) (hg : Grew w1 w2 (some ⟨g, 0, none⟩) g1) (hB : w.heap.size ≤ g) : Only w w2 gc :=
  ⟨hg.by_.os.trans o.os, hg.by_.tape.trans o.tape, hg.by_.output.trans o.output, Nat.le_trans o.size hg.by_.size, fun k hk hne => (hg.by_.block k (Nat.lt_of_lt_of_le hk o.size) (fun e => by simp at e; omega)).trans (o.block k hk hne)⟩
theorem only_alloc {w w1 : World} {gc : Nat} (o : Only w w1 gc) (ob : Obj) : Only w (w1.alloc ob) gc := only_trans o (below_only (box_below w1 ob))
theorem Cur.alloc {w : World} {g D : Nat} (h : Cur w g D) (hD : D ≤ w.heap.size) (o : Obj) : Cur (w.alloc o) g D := by
  obtain ⟨ao, n, cap, i, h, hb, hs, hd, hi⟩ := h
  exact ⟨ao, n, cap, i, h, hb.alloc o, hs.keep ((box_below w o).mono hD), hd, hi⟩
theorem Cur.grew {w w' : World} {g D gr g1 : Nat} (h : Cur w g D) (hg : Grew w w' (some ⟨gr, 0, none⟩) g1) (hne : gr ≠ g) (hD : D ≤ gr) : Cur w' g D := by
  obtain ⟨ao, n, cap, i, h, hb, hs, hd, hi⟩ := h
  have hlt := hb.lt
  refine ⟨ao, n, cap, i, h, hb.grown hg.by_ (fun e => by simp at e; omega), hs.keep ⟨hg.by_.os, hg.by_.tape, hg.by_.output, hg.by_.size, fun k hk => hg.by_.block k (by omega) (fun e => by simp at e; omega)⟩, hd, hi⟩
theorem Cur.lt {w : World} {g D : Nat} (h : Cur w g D) : D ≤ g ∧ g < w.heap.size := by
  obtain ⟨ao, n, cap, i, h, hb, hs, hd, hi⟩ := h
  exact ⟨hd, hb.lt⟩
theorem Own.only {w w' : World} {B C n cap g : Nat} {ao : Option Addr} {xs : List Int} (h : Own w B C ao n cap xs) (o : Only w w' g) (hg : g < B) : Own w' B C ao n cap xs := h.keptBy o (fun g' e => by injection e with e; subst e; exact .inl hg)

/-- All elements lie within the size. -/
def Within (ys : List Int) (s : Int) : Prop := ∀ y ∈ ys, -s ≤ y ∧ y ≤ s
theorem Within.nil (s : Int) : Within [] s := fun y h => by cases h
theorem Within.snoc {ys : List Int} {s y : Int} (h : Within ys s) (h0 : -s ≤ y) (h1 : y ≤ s) : Within (ys ++ [y]) s := fun z hz => by
  rcases List.mem_append.1 hz with hz | hz
  · exact h z hz
  · obtain rfl := List.mem_singleton.1 hz; exact ⟨h0, h1⟩
theorem Within.at_ {ys : List Int} {s : Int} (h : Within ys s) (hs : 0 ≤ s) (i : Nat) : -s ≤ ys.getD i 0 ∧ ys.getD i 0 ≤ s := by
  by_cases hi : i < ys.length
  · rw [getD_at ys i hi]; exact h _ (List.getElem_mem hi)
  · have : ys.getD i 0 = 0 := by simp [List.getD, List.getElem?_eq_none (Nat.le_of_not_lt hi)]
    rw [this]; omega
theorem Within.mono {ys : List Int} {s t : Int} (h : Within ys s) (ht : s ≤ t) : Within ys t := fun y hy => by have := h y hy; omega
theorem Within.seq {ys : List Int} {s : Int} (h : Within ys s) (hs : s ≤ 1099511627776) (hl : ys.length ≤ 1000) : isSeq ys = true := isSeq_mk hl (fun y hy => by have := h y hy; omega)

def RetSmall (g D most : Nat) (size : Int) (w : World) (e : Ending) (w' : World) : Prop :=
  ∃ ao n cap ys, e = .returned (.slice ao n cap) ∧ Own w' w.heap.size w'.heap.size ao n cap ys ∧ n ≤ most ∧ Within ys size ∧ Cur w' g D ∧ Only w w' g
set_option maxHeartbeats 1600000 in
theorem small_any (g D most : Nat) (size : Int) (w : World) (hc : Cur w g D) (hm : most ≤ 300) (h0 : 0 ≤ size) (h1 : size ≤ 1000000) :
    Calls Try.prog 69 #[.pointer (some ⟨g, 0, none⟩), .int .i64 most, .int .i64 size] w (RetSmall g D most size w) := by
  have hcl := hc.lt
  go_enter Try.func69, Try.ntmps69
  go_wp2_with fail
  have o0 := Own.empty w w.heap.size (Nat.le_refl _)
  have c0 := hc.alloc (by omega) (.cells #[] 3)
  have y0 : Only w (w.alloc (.cells #[] 3)) g := below_only (box_below w _)
  generalize w.alloc (.cells #[] 3) = w0 at o0 c0 y0 ⊢
  refine (below_any g D ((most : Int) + 1) _ c0 (by omega) (by omega)).mono ?_
  rintro e w1 ⟨x, hx0, hx1, rfl, c1, y1⟩
  obtain ⟨k0, rfl⟩ := Int.eq_ofNat_of_zero_le hx0
  have o1 := (o0.only y1 (by omega)).wide (Nat.le_refl _) y1.size
  have y2 := only_trans y0 y1
  clear o0 c0 y0 y1
  go_wp2_with fail
  go_loopw [7, 8] (fun out k wr => ∃ (j n gr cap : Nat) (ys : List Int), k = .int .i64 j ∧ out = .slice (some ⟨gr, 0, none⟩) n cap ∧ n + j ≤ most ∧ Own wr w.heap.size wr.heap.size (some ⟨gr, 0, none⟩) n cap ys ∧ Within ys size ∧ Cur wr g D ∧ Only w wr g) (fun _ k _ => (intOf k).toNat)
  case atStart => exact ⟨k0, 0, _, 0, [], rfl, rfl, by omega, o1, Within.nil _, c1, y2⟩
  case round =>
    clear o1 c1 y2
    obtain ⟨j, n, gr, cap, ys, rfl, rfl, hnj, hown, hin, hcur, honly⟩ := hrel
    by_cases hlt : 0 < j
    · have hgr := hown.at_
      go_wp2_with fail
      refine (below_any g D (2 * size + 1) _ hcur (by omega) (by omega)).mono ?_
      rintro e w2 ⟨x, hx0, hx1, rfl, c2, y2⟩
      have own2 := hown.only y2 (by omega)
      have only2 := only_trans honly y2
      have sz2 := only2.size
      clear hown hcur honly y2
      go_wp2_with (at_builtin; refine wpList_one rfl _ _ rfl rfl (own2.alloc _) w2.heap.size 1 (x - size) rfl (by simp [go_sem]) (by omega) (by simp; omega) ?_)
      intro g1 cap1 w3 hown3 hg3
      have c3 := (c2.alloc (by omega) _).grew hg3 (by omega) (by omega)
      have only3 := only_grew (only_alloc only2 _) hg3 (by omega)
      clear own2 c2 only2 hg3
      go_wp2_with fail
      go_roundw
      case rel => exact ⟨j - 1, n + 1, g1, cap1, ys ++ [x - size], by rw [Int.natCast_sub (by omega)]; rfl, rfl, by omega, hown3, hin.snoc (by omega) (by omega), c3, only3⟩
      case measure => simp [intOf]; omega
    · go_wp2_with fail
      go_ret
      exact ⟨_, n, cap, ys, rfl, hown, by omega, hin, hcur, honly⟩
def RetSeq (most : Nat) (size : Int) (w : World) (e : Ending) (w' : World) : Prop :=
  ∃ ao n cap ys, e = .returned (.slice ao n cap) ∧ Own w' w.heap.size w'.heap.size ao n cap ys ∧ n ≤ most ∧ Within ys size ∧ Within ys 1000000 ∧ Below w.heap.size w w'
set_option maxHeartbeats 800000 in
theorem mkSeq_any (ao : Option Addr) (n cap most : Nat) (size : Int) (w : World) (h : BSl w w.heap.size ao n cap) (hm : 0 < most ∧ most ≤ 300) (h0 : 0 ≤ size) (h1 : size ≤ 4611686018427387904) :
    Calls Try.prog 30 #[.slice ao n cap, .int .i64 most, .int .i64 size] w (RetSeq most size w) := by
  by_cases hs : 1000000 < size
  · have hz : 0 < size := by omega
    go_enter Try.func30, Try.ntmps30
    go_wp2_with fail
    refine (cur_new _ _ _ w.heap.size _ h (Nat.le_refl _)).mono ?_
    rintro e w1 ⟨rfl, c1, b1⟩
    go_wp2_with fail
    refine (small_any w.heap.size w.heap.size most 1000000 _ c1 hm.2 (by omega) (by omega)).mono ?_
    rintro e w2 ⟨a2, n2, d2, ys, rfl, o2, hn, hin, c2, y2⟩
    go_wp2_with fail
    go_ret
    exact ⟨a2, n2, d2, ys, rfl, o2.wide b1.size (Nat.le_refl _), hn, hin.mono (by omega), hin, b1.trans (only_below y2 (Nat.le_refl _) b1.size)⟩
  · by_cases hz : 0 < size
    · skip
      go_enter Try.func30, Try.ntmps30
      go_wp2_with fail
      refine (cur_new _ _ _ w.heap.size _ h (Nat.le_refl _)).mono ?_
      rintro e w1 ⟨rfl, c1, b1⟩
      go_wp2_with fail
      refine (small_any w.heap.size w.heap.size most size _ c1 hm.2 (by omega) (by omega)).mono ?_
      rintro e w2 ⟨a2, n2, d2, ys, rfl, o2, hn, hin, c2, y2⟩
      go_wp2_with fail
      go_ret
      exact ⟨a2, n2, d2, ys, rfl, o2.wide b1.size (Nat.le_refl _), hn, hin, hin.mono (by omega), b1.trans (only_below y2 (Nat.le_refl _) b1.size)⟩
    · obtain rfl : size = 0 := by omega
      go_enter Try.func30, Try.ntmps30
      go_wp2_with fail
      refine (cur_new _ _ _ w.heap.size _ h (Nat.le_refl _)).mono ?_
      rintro e w1 ⟨rfl, c1, b1⟩
      go_wp2_with fail
      refine (small_any w.heap.size w.heap.size most 0 _ c1 hm.2 (by omega) (by omega)).mono ?_
      rintro e w2 ⟨a2, n2, d2, ys, rfl, o2, hn, hin, c2, y2⟩
      go_wp2_with fail
      go_ret
      exact ⟨a2, n2, d2, ys, rfl, o2.wide b1.size (Nat.le_refl _), hn, hin, hin.mono (by omega), b1.trans (only_below y2 (Nat.le_refl _) b1.size)⟩
end Go.Proofs.Ytmgjbldnohkodaa
