/- What the walks of the exact laws need besides: cells of a block that a mark leaves alone. -/
import Derived.Test.YtmgjbldnohkodaaTwo
namespace Go.Proofs.Ytmgjbldnohkodaa
open Go.RowKit
theorem MarkW.cellAt {B C : Nat} {w w' : World} (m : MarkW B C w w') (p : Addr) (h : p.block < B ∨ (C ≤ p.block ∧ p.block < w.heap.size)) : w'.cell? p = w.cell? p := by
  rcases h with h | h
  · exact m.low.cell h
  · exact World.cell?_of_block (m.high p.block h.1 h.2)
end Go.Proofs.Ytmgjbldnohkodaa
