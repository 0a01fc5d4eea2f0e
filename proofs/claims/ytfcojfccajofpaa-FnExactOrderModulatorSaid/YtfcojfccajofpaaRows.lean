/-
  No cell of these rows narrows 'for every input' (looked for: loops, veiled, ifaces, maps, wideKeys, modest, calm, conditions, laid).
  DERIVED. THE GIVEN ROWS OF THIS SEAT. 10 by the template 'for every input the law returns true; each argument reads behind the call as it read before'; 0 by the template 'total and deterministic' (their statements: YtfcojfccajofpaaTotals.lean).
  GIVEN WITH THE SEED: the statements are not yours to turn. If you find one false, say at which input.
  Laid BY PROGRAM, IN A SANDBOX (cutbox-rows.mjs): the forced cells as the released guide's own fill.sh prints them over the translation 55e68d0e9941f852… (all of the seat's roots in one cut). By AI agents, Wed Nov 11 2026. No macro, syntax, notation, axiom, sorry.
-/
import Derived.Test.YtfcojfccajofpaaChecked
import GoSem.Claim
import GoSem.ClaimJoined
import GoSem.ClaimMapViews
import Derived.JoinedTies
import Derived.KernelRfl
namespace Go.Proofs.Ytfcojfccajofpaa
/- THE CELL 'sum', in the pinned program and in every row, IS THE sha256 OF THE DUMP (.gsa) THAT YtfcojfccajofpaaProg.lean LOADS. Nothing in Lean hashes anything: it is a label: what it is worth is what the hold of that sum in a sandbox is worth. -/
noncomputable def Try.pinned : Pinned := { name := "ytfcojfccajofpaa", sum := "55e68d0e9941f85240e414a4b2dfb7721167477a5a94cab783c367aefc4ea82f", checked := Try.checked }
namespace Rows
def none {H : Type} : Left H := { results := [], args := [] }

/-- 'laws.FnExactIsModulator': WHATEVER THE INPUT: true; the input reads as it did. -/
def fnExactIsModulatorSpec : ChangeSpec := { name := "fnExactIsModulator", fn := fun _ => fun
  | [d] => { results := [.lit (.bool true)], args := [d] }
  | _ => none }
def fnExactIsModulatorRow : OpenClaim := { program := "ytfcojfccajofpaa", sum := "55e68d0e9941f85240e414a4b2dfb7721167477a5a94cab783c367aefc4ea82f", func := "loop.example/g03228/laws.FnExactIsModulator", spec := "fnExactIsModulator", apart := false }
def FnExactIsModulatorSaid : Prop := fnExactIsModulatorRow.holds Try.pinned (OpenSpec.ofChange fnExactIsModulatorSpec)

/-- ITS FALSE NEIGHBOUR: 'it returns false'. Refute it at one input. -/
def fnExactIsModulatorWrong : ChangeSpec := { name := "fnExactIsModulator", fn := fun _ => fun
  | [d] => { results := [.lit (.bool false)], args := [d] }
  | _ => none }
def FnExactIsModulatorWrongFalsely : Prop := fnExactIsModulatorRow.holds Try.pinned (OpenSpec.ofChange fnExactIsModulatorWrong)

/-- 'laws.FnExactIsMemory': WHATEVER THE INPUT: true; the input reads as it did. -/
def fnExactIsMemorySpec : ChangeSpec := { name := "fnExactIsMemory", fn := fun _ => fun
  | [d1, d2] => { results := [.lit (.bool true)], args := [d1, d2] }
  | _ => none }
def fnExactIsMemoryRow : OpenClaim := { program := "ytfcojfccajofpaa", sum := "55e68d0e9941f85240e414a4b2dfb7721167477a5a94cab783c367aefc4ea82f", func := "loop.example/g03228/laws.FnExactIsMemory", spec := "fnExactIsMemory", apart := false }
def FnExactIsMemorySaid : Prop := fnExactIsMemoryRow.holds Try.pinned (OpenSpec.ofChange fnExactIsMemorySpec)

/-- ITS FALSE NEIGHBOUR: 'it returns false'. Refute it at one input. -/
def fnExactIsMemoryWrong : ChangeSpec := { name := "fnExactIsMemory", fn := fun _ => fun
  | [d1, d2] => { results := [.lit (.bool false)], args := [d1, d2] }
  | _ => none }
def FnExactIsMemoryWrongFalsely : Prop := fnExactIsMemoryRow.holds Try.pinned (OpenSpec.ofChange fnExactIsMemoryWrong)

/-- 'laws.FnExactSafeInput': WHATEVER THE INPUT: true; the input reads as it did. -/
def fnExactSafeInputSpec : ChangeSpec := { name := "fnExactSafeInput", fn := fun _ => fun
  | [d] => { results := [.lit (.bool true)], args := [d] }
  | _ => none }
def fnExactSafeInputRow : OpenClaim := { program := "ytfcojfccajofpaa", sum := "55e68d0e9941f85240e414a4b2dfb7721167477a5a94cab783c367aefc4ea82f", func := "loop.example/g03228/laws.FnExactSafeInput", spec := "fnExactSafeInput", apart := false }
def FnExactSafeInputSaid : Prop := fnExactSafeInputRow.holds Try.pinned (OpenSpec.ofChange fnExactSafeInputSpec)

/-- ITS FALSE NEIGHBOUR: 'it returns false'. Refute it at one input. -/
def fnExactSafeInputWrong : ChangeSpec := { name := "fnExactSafeInput", fn := fun _ => fun
  | [d] => { results := [.lit (.bool false)], args := [d] }
  | _ => none }
def FnExactSafeInputWrongFalsely : Prop := fnExactSafeInputRow.holds Try.pinned (OpenSpec.ofChange fnExactSafeInputWrong)

/-- 'laws.FnExactPlainMemory': WHATEVER THE INPUT: true; the input reads as it did. -/
def fnExactPlainMemorySpec : ChangeSpec := { name := "fnExactPlainMemory", fn := fun _ => fun
  | [d] => { results := [.lit (.bool true)], args := [d] }
  | _ => none }
def fnExactPlainMemoryRow : OpenClaim := { program := "ytfcojfccajofpaa", sum := "55e68d0e9941f85240e414a4b2dfb7721167477a5a94cab783c367aefc4ea82f", func := "loop.example/g03228/laws.FnExactPlainMemory", spec := "fnExactPlainMemory", apart := false }
def FnExactPlainMemorySaid : Prop := fnExactPlainMemoryRow.holds Try.pinned (OpenSpec.ofChange fnExactPlainMemorySpec)

/-- ITS FALSE NEIGHBOUR: 'it returns false'. Refute it at one input. -/
def fnExactPlainMemoryWrong : ChangeSpec := { name := "fnExactPlainMemory", fn := fun _ => fun
  | [d] => { results := [.lit (.bool false)], args := [d] }
  | _ => none }
def FnExactPlainMemoryWrongFalsely : Prop := fnExactPlainMemoryRow.holds Try.pinned (OpenSpec.ofChange fnExactPlainMemoryWrong)

/-- 'laws.FnExactShapeOf': WHATEVER THE INPUT: true; the input reads as it did. -/
def fnExactShapeOfSpec : ChangeSpec := { name := "fnExactShapeOf", fn := fun _ => fun
  | [d] => { results := [.lit (.bool true)], args := [d] }
  | _ => none }
def fnExactShapeOfRow : OpenClaim := { program := "ytfcojfccajofpaa", sum := "55e68d0e9941f85240e414a4b2dfb7721167477a5a94cab783c367aefc4ea82f", func := "loop.example/g03228/laws.FnExactShapeOf", spec := "fnExactShapeOf", apart := false }
def FnExactShapeOfSaid : Prop := fnExactShapeOfRow.holds Try.pinned (OpenSpec.ofChange fnExactShapeOfSpec)

/-- ITS FALSE NEIGHBOUR: 'it returns false'. Refute it at one input. -/
def fnExactShapeOfWrong : ChangeSpec := { name := "fnExactShapeOf", fn := fun _ => fun
  | [d] => { results := [.lit (.bool false)], args := [d] }
  | _ => none }
def FnExactShapeOfWrongFalsely : Prop := fnExactShapeOfRow.holds Try.pinned (OpenSpec.ofChange fnExactShapeOfWrong)

/-- 'laws.FnExactOrderModulator': WHATEVER THE INPUT: true; the input reads as it did. -/
def fnExactOrderModulatorSpec : ChangeSpec := { name := "fnExactOrderModulator", fn := fun _ => fun
  | [d1, d2] => { results := [.lit (.bool true)], args := [d1, d2] }
  | _ => none }
def fnExactOrderModulatorRow : OpenClaim := { program := "ytfcojfccajofpaa", sum := "55e68d0e9941f85240e414a4b2dfb7721167477a5a94cab783c367aefc4ea82f", func := "loop.example/g03228/laws.FnExactOrderModulator", spec := "fnExactOrderModulator", apart := false }
def FnExactOrderModulatorSaid : Prop := fnExactOrderModulatorRow.holds Try.pinned (OpenSpec.ofChange fnExactOrderModulatorSpec)

/-- ITS FALSE NEIGHBOUR: 'it returns false'. Refute it at one input. -/
def fnExactOrderModulatorWrong : ChangeSpec := { name := "fnExactOrderModulator", fn := fun _ => fun
  | [d1, d2] => { results := [.lit (.bool false)], args := [d1, d2] }
  | _ => none }
def FnExactOrderModulatorWrongFalsely : Prop := fnExactOrderModulatorRow.holds Try.pinned (OpenSpec.ofChange fnExactOrderModulatorWrong)

/-- 'laws.FnExactInputOf': WHATEVER THE INPUT: true; the input reads as it did. -/
def fnExactInputOfSpec : ChangeSpec := { name := "fnExactInputOf", fn := fun _ => fun
  | [d1, d2, d3, d4] => { results := [.lit (.bool true)], args := [d1, d2, d3, d4] }
  | _ => none }
def fnExactInputOfRow : OpenClaim := { program := "ytfcojfccajofpaa", sum := "55e68d0e9941f85240e414a4b2dfb7721167477a5a94cab783c367aefc4ea82f", func := "loop.example/g03228/laws.FnExactInputOf", spec := "fnExactInputOf", apart := false }
def FnExactInputOfSaid : Prop := fnExactInputOfRow.holds Try.pinned (OpenSpec.ofChange fnExactInputOfSpec)

/-- ITS FALSE NEIGHBOUR: 'it returns false'. Refute it at one input. -/
def fnExactInputOfWrong : ChangeSpec := { name := "fnExactInputOf", fn := fun _ => fun
  | [d1, d2, d3, d4] => { results := [.lit (.bool false)], args := [d1, d2, d3, d4] }
  | _ => none }
def FnExactInputOfWrongFalsely : Prop := fnExactInputOfRow.holds Try.pinned (OpenSpec.ofChange fnExactInputOfWrong)

/-- 'laws.FnExactStepModulator': WHATEVER THE INPUT: true; the input reads as it did. -/
def fnExactStepModulatorSpec : ChangeSpec := { name := "fnExactStepModulator", fn := fun _ => fun
  | [d1, d2, d3] => { results := [.lit (.bool true)], args := [d1, d2, d3] }
  | _ => none }
def fnExactStepModulatorRow : OpenClaim := { program := "ytfcojfccajofpaa", sum := "55e68d0e9941f85240e414a4b2dfb7721167477a5a94cab783c367aefc4ea82f", func := "loop.example/g03228/laws.FnExactStepModulator", spec := "fnExactStepModulator", apart := false }
def FnExactStepModulatorSaid : Prop := fnExactStepModulatorRow.holds Try.pinned (OpenSpec.ofChange fnExactStepModulatorSpec)

/-- ITS FALSE NEIGHBOUR: 'it returns false'. Refute it at one input. -/
def fnExactStepModulatorWrong : ChangeSpec := { name := "fnExactStepModulator", fn := fun _ => fun
  | [d1, d2, d3] => { results := [.lit (.bool false)], args := [d1, d2, d3] }
  | _ => none }
def FnExactStepModulatorWrongFalsely : Prop := fnExactStepModulatorRow.holds Try.pinned (OpenSpec.ofChange fnExactStepModulatorWrong)

/-- 'laws.FnExactRunModulator': WHATEVER THE INPUT: true; the input reads as it did. -/
def fnExactRunModulatorSpec : ChangeSpec := { name := "fnExactRunModulator", fn := fun _ => fun
  | [d1, d2, d3] => { results := [.lit (.bool true)], args := [d1, d2, d3] }
  | _ => none }
def fnExactRunModulatorRow : OpenClaim := { program := "ytfcojfccajofpaa", sum := "55e68d0e9941f85240e414a4b2dfb7721167477a5a94cab783c367aefc4ea82f", func := "loop.example/g03228/laws.FnExactRunModulator", spec := "fnExactRunModulator", apart := false }
def FnExactRunModulatorSaid : Prop := fnExactRunModulatorRow.holds Try.pinned (OpenSpec.ofChange fnExactRunModulatorSpec)

/-- ITS FALSE NEIGHBOUR: 'it returns false'. Refute it at one input. -/
def fnExactRunModulatorWrong : ChangeSpec := { name := "fnExactRunModulator", fn := fun _ => fun
  | [d1, d2, d3] => { results := [.lit (.bool false)], args := [d1, d2, d3] }
  | _ => none }
def FnExactRunModulatorWrongFalsely : Prop := fnExactRunModulatorRow.holds Try.pinned (OpenSpec.ofChange fnExactRunModulatorWrong)

/-- 'laws.FnExactQuietFrom': WHATEVER THE INPUT: true; the input reads as it did. -/
def fnExactQuietFromSpec : ChangeSpec := { name := "fnExactQuietFrom", fn := fun _ => fun
  | [d1, d2, d3, d4] => { results := [.lit (.bool true)], args := [d1, d2, d3, d4] }
  | _ => none }
def fnExactQuietFromRow : OpenClaim := { program := "ytfcojfccajofpaa", sum := "55e68d0e9941f85240e414a4b2dfb7721167477a5a94cab783c367aefc4ea82f", func := "loop.example/g03228/laws.FnExactQuietFrom", spec := "fnExactQuietFrom", apart := false }
def FnExactQuietFromSaid : Prop := fnExactQuietFromRow.holds Try.pinned (OpenSpec.ofChange fnExactQuietFromSpec)

/-- ITS FALSE NEIGHBOUR: 'it returns false'. Refute it at one input. -/
def fnExactQuietFromWrong : ChangeSpec := { name := "fnExactQuietFrom", fn := fun _ => fun
  | [d1, d2, d3, d4] => { results := [.lit (.bool false)], args := [d1, d2, d3, d4] }
  | _ => none }
def FnExactQuietFromWrongFalsely : Prop := fnExactQuietFromRow.holds Try.pinned (OpenSpec.ofChange fnExactQuietFromWrong)

/- THE SECOND FORM. 'bulk': how many values and letters a reading holds, each counted each time it is reached (what is shared counts as often as it is met; a slice's spare places count too). A statement '..UptoSaid' is the law's where the arguments, and the package variables that the reading takes, are together of bulk at most 1048576: NARROWER than '..Said'. Prove '..Said' where nothing that the law and all that it calls make is longer than what came in: it says more and counts as full. Else prove '..UptoSaid'. A law counts once. -/
mutual
def uptoBulk {H : Type} : DataW H → Nat
  | .lit (.string bytes) => bytes.length + 1
  | .lit _ => 1
  | .nil => 1
  | .ptr d => uptoBulk d + 1
  | .slice elems spare => uptoBulkAll elems + uptoBulkAll spare + 1
  | .agg parts => uptoBulkAll parts + 1
  | .iface _ d => uptoBulk d + 1
  | .map entries => uptoBulkEntries entries + 1
  | .held _ => 1
def uptoBulkAll {H : Type} : List (DataW H) → Nat
  | [] => 0
  | d :: r => uptoBulk d + uptoBulkAll r
def uptoBulkEntries {H : Type} : List (Lit × DataW H) → Nat
  | [] => 0
  | x :: r => uptoBulkEntry x + uptoBulkEntries r
def uptoBulkEntry {H : Type} : Lit × DataW H → Nat
  | (.string bytes, d) => bytes.length + uptoBulk d + 1
  | (_, d) => uptoBulk d + 1
 end
def uptoSmall : (H : Type) → List (DataW H) → Bool := fun _ ds => decide (uptoBulkAll ds ≤ 1048576)
def OpenSpec.upto (s : _root_.Go.ChangeSpec) : _root_.Go.OpenSpec := { _root_.Go.OpenSpec.ofChange s with cond := some uptoSmall }

/-- 'laws.FnExactIsModulator', WHERE WHAT IT READS IS OF BULK AT MOST 1048576: true; the input reads as it did. -/
def fnExactIsModulatorUptoRow : OpenClaim := { program := "ytfcojfccajofpaa", sum := "55e68d0e9941f85240e414a4b2dfb7721167477a5a94cab783c367aefc4ea82f", func := "loop.example/g03228/laws.FnExactIsModulator", spec := "fnExactIsModulator", apart := false, narrowed := true }
def FnExactIsModulatorUptoSaid : Prop := fnExactIsModulatorUptoRow.holds Try.pinned (OpenSpec.upto fnExactIsModulatorSpec)

/-- 'laws.FnExactIsMemory', WHERE WHAT IT READS IS OF BULK AT MOST 1048576: true; the input reads as it did. -/
def fnExactIsMemoryUptoRow : OpenClaim := { program := "ytfcojfccajofpaa", sum := "55e68d0e9941f85240e414a4b2dfb7721167477a5a94cab783c367aefc4ea82f", func := "loop.example/g03228/laws.FnExactIsMemory", spec := "fnExactIsMemory", apart := false, narrowed := true }
def FnExactIsMemoryUptoSaid : Prop := fnExactIsMemoryUptoRow.holds Try.pinned (OpenSpec.upto fnExactIsMemorySpec)

/-- 'laws.FnExactSafeInput', WHERE WHAT IT READS IS OF BULK AT MOST 1048576: true; the input reads as it did. -/
def fnExactSafeInputUptoRow : OpenClaim := { program := "ytfcojfccajofpaa", sum := "55e68d0e9941f85240e414a4b2dfb7721167477a5a94cab783c367aefc4ea82f", func := "loop.example/g03228/laws.FnExactSafeInput", spec := "fnExactSafeInput", apart := false, narrowed := true }
def FnExactSafeInputUptoSaid : Prop := fnExactSafeInputUptoRow.holds Try.pinned (OpenSpec.upto fnExactSafeInputSpec)

/-- 'laws.FnExactPlainMemory', WHERE WHAT IT READS IS OF BULK AT MOST 1048576: true; the input reads as it did. -/
def fnExactPlainMemoryUptoRow : OpenClaim := { program := "ytfcojfccajofpaa", sum := "55e68d0e9941f85240e414a4b2dfb7721167477a5a94cab783c367aefc4ea82f", func := "loop.example/g03228/laws.FnExactPlainMemory", spec := "fnExactPlainMemory", apart := false, narrowed := true }
def FnExactPlainMemoryUptoSaid : Prop := fnExactPlainMemoryUptoRow.holds Try.pinned (OpenSpec.upto fnExactPlainMemorySpec)

/-- 'laws.FnExactShapeOf', WHERE WHAT IT READS IS OF BULK AT MOST 1048576: true; the input reads as it did. -/
def fnExactShapeOfUptoRow : OpenClaim := { program := "ytfcojfccajofpaa", sum := "55e68d0e9941f85240e414a4b2dfb7721167477a5a94cab783c367aefc4ea82f", func := "loop.example/g03228/laws.FnExactShapeOf", spec := "fnExactShapeOf", apart := false, narrowed := true }
def FnExactShapeOfUptoSaid : Prop := fnExactShapeOfUptoRow.holds Try.pinned (OpenSpec.upto fnExactShapeOfSpec)

/-- 'laws.FnExactOrderModulator', WHERE WHAT IT READS IS OF BULK AT MOST 1048576: true; the input reads as it did. -/
def fnExactOrderModulatorUptoRow : OpenClaim := { program := "ytfcojfccajofpaa", sum := "55e68d0e9941f85240e414a4b2dfb7721167477a5a94cab783c367aefc4ea82f", func := "loop.example/g03228/laws.FnExactOrderModulator", spec := "fnExactOrderModulator", apart := false, narrowed := true }
def FnExactOrderModulatorUptoSaid : Prop := fnExactOrderModulatorUptoRow.holds Try.pinned (OpenSpec.upto fnExactOrderModulatorSpec)

/-- 'laws.FnExactInputOf', WHERE WHAT IT READS IS OF BULK AT MOST 1048576: true; the input reads as it did. -/
def fnExactInputOfUptoRow : OpenClaim := { program := "ytfcojfccajofpaa", sum := "55e68d0e9941f85240e414a4b2dfb7721167477a5a94cab783c367aefc4ea82f", func := "loop.example/g03228/laws.FnExactInputOf", spec := "fnExactInputOf", apart := false, narrowed := true }
def FnExactInputOfUptoSaid : Prop := fnExactInputOfUptoRow.holds Try.pinned (OpenSpec.upto fnExactInputOfSpec)

/-- 'laws.FnExactStepModulator', WHERE WHAT IT READS IS OF BULK AT MOST 1048576: true; the input reads as it did. -/
def fnExactStepModulatorUptoRow : OpenClaim := { program := "ytfcojfccajofpaa", sum := "55e68d0e9941f85240e414a4b2dfb7721167477a5a94cab783c367aefc4ea82f", func := "loop.example/g03228/laws.FnExactStepModulator", spec := "fnExactStepModulator", apart := false, narrowed := true }
def FnExactStepModulatorUptoSaid : Prop := fnExactStepModulatorUptoRow.holds Try.pinned (OpenSpec.upto fnExactStepModulatorSpec)

/-- 'laws.FnExactRunModulator', WHERE WHAT IT READS IS OF BULK AT MOST 1048576: true; the input reads as it did. -/
def fnExactRunModulatorUptoRow : OpenClaim := { program := "ytfcojfccajofpaa", sum := "55e68d0e9941f85240e414a4b2dfb7721167477a5a94cab783c367aefc4ea82f", func := "loop.example/g03228/laws.FnExactRunModulator", spec := "fnExactRunModulator", apart := false, narrowed := true }
def FnExactRunModulatorUptoSaid : Prop := fnExactRunModulatorUptoRow.holds Try.pinned (OpenSpec.upto fnExactRunModulatorSpec)

/-- 'laws.FnExactQuietFrom', WHERE WHAT IT READS IS OF BULK AT MOST 1048576: true; the input reads as it did. -/
def fnExactQuietFromUptoRow : OpenClaim := { program := "ytfcojfccajofpaa", sum := "55e68d0e9941f85240e414a4b2dfb7721167477a5a94cab783c367aefc4ea82f", func := "loop.example/g03228/laws.FnExactQuietFrom", spec := "fnExactQuietFrom", apart := false, narrowed := true }
def FnExactQuietFromUptoSaid : Prop := fnExactQuietFromUptoRow.holds Try.pinned (OpenSpec.upto fnExactQuietFromSpec)

end Rows
end Go.Proofs.Ytfcojfccajofpaa
