/- The contracts of the helpers of the exact laws: toIntS copies a slice, eqIntS compares two, markIntS writes numbers into one, heldIntS asks for them. -/
import Derived.Test.YtmgjbldnohkodaaMem
namespace Go.Proofs.Ytmgjbldnohkodaa
open Go.RowKit

set_option maxHeartbeats 400000 in
theorem toIntS_any (ao : Option Addr) (n cap : Nat) (xs : List Int) (w : World) (h : Sl w w.heap.size ao n cap xs) :
    Calls Try.prog 41 #[.slice ao n cap] w (RetN w n xs) := by
  obtain ⟨i0, hi, hz0, hz1, hz2⟩ := info_parts int_info
  obtain ⟨hl, _, hn, hat⟩ := h
  have hHl := Lib.hid hl
  clear hl
  go_enter Try.func41, Try.ntmps41
  go_wp2_with (at_make; refine wpList_make_full _ rfl _ _ 25 rfl w.heap.size 3 i0 (.int .i64 0) 1 Try.underlying25 hi hz0 hz1 .i64 .i64 n n n rfl rfl rfl rfl ?c1 ?c2 ?c3 ?_)
  case c1 => rw [hz2]; omega
  case c2 => unfold maxLen; omega
  case c3 => exact Nat.le_refl _
  intro w1 hown hg1
  have hb1 : Below w.heap.size w w1 := (Below.refl _ _).grown hg1 (Nat.le_refl _) (by simp)
  have hown1 : Own w1 w.heap.size w1.heap.size (some ⟨w.heap.size, 0, none⟩) n n (xs.take 0 ++ List.replicate (n - 0) 0) := by
    have h2 := made_zero n
    refine Own.of ?_
    rw [List.take_zero, List.nil_append, Nat.sub_zero, ← h2]
    exact hown
  have hlt1 := hown.lt w.heap.size rfl
  have hs1 : w.heap.size < w1.heap.size := hlt1.2
  clear hown hg1 hlt1
  go_wp2
  go_loopw [4] (fun i wr => ∃ k : Nat, k ≤ n ∧ i = .int .i64 k ∧ Own wr w.heap.size wr.heap.size (some ⟨w.heap.size, 0, none⟩) n n (xs.take k ++ List.replicate (n - k) 0) ∧ Below w.heap.size w wr)
    (fun i _ => n - (intOf i).toNat)
  case atStart => exact ⟨0, Nat.zero_le _, rfl, hown1, hb1⟩
  case round =>
    clear hown1 hb1 hs1
    obtain ⟨k, hk, rfl, hown, hb⟩ := hrel
    by_cases hlt : k < n
    · obtain ⟨b, off, rfl, hbl, hc⟩ := hat (by omega)
      have hcx := (hb.cell (p := ⟨b, off + k, none⟩) hbl).trans (hc k hlt)
      have hcy := hown.cellsAt k hlt
      have hfy := hown.free k
      have hset := (hown.set k (xs.getD k 0)).1.wide (Nat.le_refl _) (Nat.le_of_eq (by simp [World.setCell] : wr.heap.size = (wr.setCell ⟨w.heap.size, k, none⟩ (.int .i64 (xs.getD k 0))).heap.size))
      rw [pad_at xs n k hHl.out hlt] at hset
      have hbs := hb.setCell (p := ⟨w.heap.size, k, none⟩) (Nat.le_refl _) (.int .i64 (xs.getD k 0))
      clear hown hb hc hat
      go_wp2
      go_roundw
      case rel => exact ⟨k + 1, by omega, by go_num, hset, hbs⟩
      case measure => simp [intOf]; omega
    · have : k = n := by omega
      subst this
      go_wp2
      go_ret
      refine ⟨_, _, rfl, ?_, hb⟩
      rw [Nat.sub_self, List.replicate_zero, List.append_nil, List.take_of_length_le (by rw [hHl.out]; exact Nat.le_refl _)] at hown
      exact hown
set_option maxHeartbeats 400000 in
theorem eqIntS_true (ao bo : Option Addr) (n c d : Nat) (xs : List Int) (w : World) (ha : Sl w w.heap.size ao n c xs) (hb : Sl w w.heap.size bo n d xs) :
    Calls Try.prog 43 #[.slice ao n c, .slice bo n d] w fun e w' => e = .returned (.bool true) ∧ Below w.heap.size w w' := by
  obtain ⟨_, _, hn, ha⟩ := ha
  obtain ⟨_, _, _, hb⟩ := hb
  have hne : (((n : Nat) : Int) != ((n : Nat) : Int)) = false := by simp
  go_enter Try.func43, Try.ntmps43
  go_wp2
  go_loopw [5] (fun i wr => ∃ k : Nat, k ≤ n ∧ i = .int .i64 k ∧ Below w.heap.size w wr) (fun i _ => n - (intOf i).toNat)
  case atStart => exact ⟨0, Nat.zero_le _, rfl, Below.refl _ _⟩
  case round =>
    obtain ⟨k, hk, rfl, hbel⟩ := hrel
    by_cases hlt : k < n
    · obtain ⟨b, off, rfl, hbl, hc⟩ := ha (by omega)
      obtain ⟨b2, off2, rfl, hbl2, hc2⟩ := hb (by omega)
      have hcx := (hbel.cell (p := ⟨b, off + k, none⟩) hbl).trans (hc k hlt)
      have hcy := (hbel.cell (p := ⟨b2, off2 + k, none⟩) hbl2).trans (hc2 k hlt)
      clear ha hb hc hc2 hne
      generalize xs.getD k 0 = x at hcx hcy
      have hne : (x != x) = false := by simp
      go_wp2
      go_quiet (fail)
      go_wp2
      go_roundw
      case rel => exact ⟨k + 1, by omega, by go_num, below_drewN hbel _⟩
      case measure => simp [intOf]; omega
    · have : k = n := by omega
      subst this
      go_wp2
      go_ret
      exact ⟨rfl, hbel⟩
/-- Only blocks from B on and below C have turned. -/
structure MarkW (B C : Nat) (w w' : World) : Prop where
  low : Below B w w'
  high : ∀ k, C ≤ k → k < w.heap.size → w'.heap[k]? = w.heap[k]?
section
variable {w w' : World} {B C D B2 C2 n cap : Nat} {ao : Option Addr} {xs : List Int}
theorem MarkW.sl (m : MarkW B C w w') (h : Sl w D ao n cap xs) (hD : D ≤ B) : Sl w' D ao n cap xs := h.keep (m.low.mono hD)
theorem MarkW.ownLow (m : MarkW B C w w') (h : Own w B2 C2 ao n cap xs) (hD : C2 ≤ B) : Own w' B2 C2 ao n cap xs := h.keep m.low hD
theorem MarkW.ownHigh (m : MarkW B C w w') (h : Own w B2 C2 ao n cap xs) (hD : C ≤ B2) : Own w' B2 C2 ao n cap xs := by
  obtain ⟨h1, hC⟩ := h
  refine ⟨⟨h1.1, ?_⟩, hC⟩
  rcases h1.2 with h2 | ⟨g, c, cur, hv, hb, hg, r⟩
  · exact .inl h2
  · exact .inr ⟨g, c, cur, hv, hb, by rw [m.high g (by omega) (Array.getElem?_eq_some_iff.1 hg).1]; exact hg, r⟩
theorem MarkW.refl (B C : Nat) (w : World) : MarkW B C w w := ⟨Below.refl _ _, fun _ _ _ => rfl⟩
theorem MarkW.trans {w'' : World} (h : MarkW B C w w') (k : MarkW B C w' w'') : MarkW B C w w'' :=
  ⟨h.low.trans k.low, fun i h1 h2 => (k.high i h1 (Nat.lt_of_lt_of_le h2 h.low.size)).trans (h.high i h1 h2)⟩
theorem MarkW.set (w : World) {g : Nat} (i : Nat) (u : Value) (h1 : B ≤ g) (h2 : g < C) : MarkW B C w (w.setCell ⟨g, i, none⟩ u) :=
  ⟨(Below.refl _ _).setCell h1 u, fun k hk _ => Below.heap_setCell w ⟨g, i, none⟩ u k (show k ≠ g by omega)⟩
/-- A slice that is there, in a later world: the bound is the new heap's size. -/
theorem Sl.next (h : Sl w w.heap.size ao n cap xs) (b : Below w.heap.size w w') : Sl w' w'.heap.size ao n cap xs := (h.keep b).more b.size
end

end Go.Proofs.Ytmgjbldnohkodaa
