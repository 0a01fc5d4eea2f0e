/- The contracts of differences, DifferencesOf, IntegralsOf, DifferenceCoefs, of the program and of the reference. -/
import Derived.Test.YtmgjbldnohkodaaSeqOps
import Derived.Test.YtmgjbldnohkodaaPureD
import Derived.RegionTactic
namespace Go.Proofs.Ytmgjbldnohkodaa
open Go.RowKit

set_option maxHeartbeats 400000 in
theorem clone_any (ao : Option Addr) (n cap : Nat) (xs : List Int) (w : World) (h : Sl w w.heap.size ao n cap xs) :
    Calls Try.prog 64 #[.slice ao n cap] w (RetN w n xs) := by
  have hnil := fun W => Lib.run_eql_slice_nil (P := Try.prog) W 25 3 ao n cap 0 0 Try.underlying25
  have hn := h.2.2.1
  cases ao with
  | none =>
    have h0 : n = 0 := by
      rcases Nat.eq_zero_or_pos n with h0 | h0
      · exact h0
      · obtain ⟨b, off, e, _⟩ := h.at_ h0; cases e
    have hx : xs = [] := List.eq_nil_of_length_eq_zero (by rw [h.len, h0])
    subst h0 hx
    clear h
    simp only [Option.isNone_none] at hnil
    go_enter Try.func64, Try.ntmps64
    go_wp2
    go_ret
    exact ⟨none, 0, rfl, Own.nil, Below.refl _ _⟩
  | some a =>
    simp only [Option.isNone_some] at hnil
    have hE := Own.empty w w.heap.size (Nat.le_refl _)
    have hS : Sl (w.alloc (.cells #[] 3)) w.heap.size (some a) n cap xs := h.keep ((Below.refl _ _).alloc (Nat.le_refl _) _)
    have Hsz : w.heap.size ≤ (w.alloc (.cells #[] 3)).heap.size := by simp
    go_enter Try.func64, Try.ntmps64
    go_wp2_with (at_builtin; refine wpList_many rfl _ _ rfl rfl hE _ _ _ _ xs rfl hS (by omega) Hsz (Nat.le_refl _) ?_; intro a1 c1 w1 o1 g1; have hg := g1 _ (.inr rfl); clear g1; rw [Nat.zero_add, List.nil_append] at o1)
    have hb : Below w.heap.size w w1 := (box_below w _).trans ⟨hg.os, hg.tape, hg.output, hg.size, fun k hk => hg.block k (by simp; omega) (by simp; omega)⟩
    clear hnil hE hS hg
    go_wp2_with fail
    go_ret
    exact ⟨a1, c1, rfl, o1, hb⟩
set_option maxHeartbeats 400000 in
theorem copy_s (ao : Option Addr) (n cap : Nat) (xs : List Int) (w : World) (h : Sl w w.heap.size ao n cap xs) :
    Calls Try.prog 60 #[.slice ao n cap] w (RetN w n xs) := by
  have hn := h.2.2.1
  have hE := Own.empty w w.heap.size (Nat.le_refl _)
  have hS : Sl (w.alloc (.cells #[] 3)) w.heap.size ao n cap xs := h.keep ((Below.refl _ _).alloc (Nat.le_refl _) _)
  have Hsz : w.heap.size ≤ (w.alloc (.cells #[] 3)).heap.size := by simp
  go_enter Try.func60, Try.ntmps60
  go_wp2_with (at_builtin; refine wpList_many rfl _ _ rfl rfl hE _ _ _ _ xs rfl hS (by omega) Hsz (Nat.le_refl _) ?_; intro a1 c1 w1 o1 g1; have hg := g1 _ (.inr rfl); clear g1; rw [Nat.zero_add, List.nil_append] at o1)
  have hb : Below w.heap.size w w1 := (box_below w _).trans ⟨hg.os, hg.tape, hg.output, hg.size, fun k hk => hg.block k (by simp; omega) (by simp; omega)⟩
  clear hE hS hg
  go_wp2_with fail
  go_ret
  exact ⟨a1, c1, rfl, o1, hb⟩
end Go.Proofs.Ytmgjbldnohkodaa
