/- The contracts of the helpers of the exact laws: toIntS copies a slice, eqIntS compares two, markIntS writes numbers into one, heldIntS asks for them. -/
import Derived.Test.YticfdmgbpgfogaaMem
namespace Go.Proofs.Yticfdmgbpgfogaa
open Go.RowKit

/-- Only blocks from B on and below C have turned. -/
structure MarkW (B C : Nat) (w w' : World) : Prop where
  low : Below B w w'
  high : ∀ k, C ≤ k → k < w.heap.size → w'.heap[k]? = w.heap[k]?
section
variable {w w' : World} {B C D B2 C2 n cap : Nat} {ao : Option Addr} {xs : List Int}
theorem MarkW.sl (m : MarkW B C w w') (h : Sl w D ao n cap xs) (hD : D ≤ B) : Sl w' D ao n cap xs := h.keep (m.low.mono hD)
theorem MarkW.ownLow (m : MarkW B C w w') (h : Own w B2 C2 ao n cap xs) (hD : C2 ≤ B) : Own w' B2 C2 ao n cap xs := h.keep m.low hD
theorem MarkW.ownHigh (m : MarkW B C w w') (h : Own w B2 C2 ao n cap xs) (hD : C ≤ B2) : Own w' B2 C2 ao n cap xs := by
  obtain ⟨h1, hC⟩ := h
  refine ⟨⟨h1.1, ?_⟩, hC⟩
  rcases h1.2 with h2 | ⟨g, c, cur, hv, hb, hg, r⟩
  · exact .inl h2
  · exact .inr ⟨g, c, cur, hv, hb, by rw [m.high g (by omega) (Array.getElem?_eq_some_iff.1 hg).1]; exact hg, r⟩
theorem MarkW.refl (B C : Nat) (w : World) : MarkW B C w w := ⟨Below.refl _ _, fun _ _ _ => rfl⟩
theorem MarkW.trans {w'' : World} (h : MarkW B C w w') (k : MarkW B C w' w'') : MarkW B C w w'' :=
  ⟨h.low.trans k.low, fun i h1 h2 => (k.high i h1 (Nat.lt_of_lt_of_le h2 h.low.size)).trans (h.high i h1 h2)⟩
theorem MarkW.set (w : World) {g : Nat} (i : Nat) (u : Value) (h1 : B ≤ g) (h2 : g < C) : MarkW B C w (w.setCell ⟨g, i, none⟩ u) :=
  ⟨(Below.refl _ _).setCell h1 u, fun k hk _ => Below.heap_setCell w ⟨g, i, none⟩ u k (show k ≠ g by omega)⟩
/-- A slice that is there, in a later world: the bound is the new heap's size. -/
theorem Sl.next (h : Sl w w.heap.size ao n cap xs) (b : Below w.heap.size w w') : Sl w' w'.heap.size ao n cap xs := (h.keep b).more b.size
end

end Go.Proofs.Yticfdmgbpgfogaa
