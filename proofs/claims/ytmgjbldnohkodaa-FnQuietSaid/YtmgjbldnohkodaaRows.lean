/-
  No cell of these rows narrows 'for every input' (looked for: loops, veiled, ifaces, maps, wideKeys, modest, calm, conditions, laid).
  DERIVED. THE GIVEN ROWS OF THIS SEAT. 10 by the template 'for every input the law returns true; each argument reads behind the call as it read before'; 0 by the template 'total and deterministic' (their statements: YtmgjbldnohkodaaTotals.lean).
  GIVEN WITH THE SEED: the statements are not yours to turn. If you find one false, say at which input.
  Laid BY PROGRAM, IN A SANDBOX (cutbox-rows.mjs): the forced cells as the released guide's own fill.sh prints them over the translation c83637d8fa43ae26… (all of the seat's roots in one cut). By AI agents, Wed Nov 11 2026. No macro, syntax, notation, axiom, sorry.
-/
import Derived.Test.YtmgjbldnohkodaaChecked
import GoSem.Claim
import GoSem.ClaimJoined
import GoSem.ClaimMapViews
import Derived.JoinedTies
import Derived.KernelRfl
namespace Go.Proofs.Ytmgjbldnohkodaa
/- THE CELL 'sum', in the pinned program and in every row, IS THE sha256 OF THE DUMP (.gsa) THAT YtmgjbldnohkodaaProg.lean LOADS. Nothing in Lean hashes anything: it is a label: what it is worth is what the hold of that sum in a sandbox is worth. -/
noncomputable def Try.pinned : Pinned := { name := "ytmgjbldnohkodaa", sum := "c83637d8fa43ae26f35e6146c72c911a28af3b4ff65c00b7b8bb9848a71b7c1e", checked := Try.checked }
namespace Rows
def none {H : Type} : Left H := { results := [], args := [] }

/-- 'laws.FnQuiet': WHATEVER THE INPUT: true; the input reads as it did. -/
def fnQuietSpec : ChangeSpec := { name := "fnQuiet", fn := fun _ => fun
  | [d] => { results := [.lit (.bool true)], args := [d] }
  | _ => none }
def fnQuietRow : OpenClaim := { program := "ytmgjbldnohkodaa", sum := "c83637d8fa43ae26f35e6146c72c911a28af3b4ff65c00b7b8bb9848a71b7c1e", func := "loop.example/g03228/laws.FnQuiet", spec := "fnQuiet", apart := false }
def FnQuietSaid : Prop := fnQuietRow.holds Try.pinned (OpenSpec.ofChange fnQuietSpec)

/-- ITS FALSE NEIGHBOUR: 'it returns false'. Refute it at one input. -/
def fnQuietWrong : ChangeSpec := { name := "fnQuiet", fn := fun _ => fun
  | [d] => { results := [.lit (.bool false)], args := [d] }
  | _ => none }
def FnQuietWrongFalsely : Prop := fnQuietRow.holds Try.pinned (OpenSpec.ofChange fnQuietWrong)

/-- 'laws.FnLevels': WHATEVER THE INPUT: true; the input reads as it did. -/
def fnLevelsSpec : ChangeSpec := { name := "fnLevels", fn := fun _ => fun
  | [d] => { results := [.lit (.bool true)], args := [d] }
  | _ => none }
def fnLevelsRow : OpenClaim := { program := "ytmgjbldnohkodaa", sum := "c83637d8fa43ae26f35e6146c72c911a28af3b4ff65c00b7b8bb9848a71b7c1e", func := "loop.example/g03228/laws.FnLevels", spec := "fnLevels", apart := false }
def FnLevelsSaid : Prop := fnLevelsRow.holds Try.pinned (OpenSpec.ofChange fnLevelsSpec)

/-- ITS FALSE NEIGHBOUR: 'it returns false'. Refute it at one input. -/
def fnLevelsWrong : ChangeSpec := { name := "fnLevels", fn := fun _ => fun
  | [d] => { results := [.lit (.bool false)], args := [d] }
  | _ => none }
def FnLevelsWrongFalsely : Prop := fnLevelsRow.holds Try.pinned (OpenSpec.ofChange fnLevelsWrong)

/-- 'laws.FnPlain': WHATEVER THE INPUT: true; the input reads as it did. -/
def fnPlainSpec : ChangeSpec := { name := "fnPlain", fn := fun _ => fun
  | [d] => { results := [.lit (.bool true)], args := [d] }
  | _ => none }
def fnPlainRow : OpenClaim := { program := "ytmgjbldnohkodaa", sum := "c83637d8fa43ae26f35e6146c72c911a28af3b4ff65c00b7b8bb9848a71b7c1e", func := "loop.example/g03228/laws.FnPlain", spec := "fnPlain", apart := false }
def FnPlainSaid : Prop := fnPlainRow.holds Try.pinned (OpenSpec.ofChange fnPlainSpec)

/-- ITS FALSE NEIGHBOUR: 'it returns false'. Refute it at one input. -/
def fnPlainWrong : ChangeSpec := { name := "fnPlain", fn := fun _ => fun
  | [d] => { results := [.lit (.bool false)], args := [d] }
  | _ => none }
def FnPlainWrongFalsely : Prop := fnPlainRow.holds Try.pinned (OpenSpec.ofChange fnPlainWrong)

/-- 'laws.FnSteps': WHATEVER THE INPUT: true; the input reads as it did. -/
def fnStepsSpec : ChangeSpec := { name := "fnSteps", fn := fun _ => fun
  | [d] => { results := [.lit (.bool true)], args := [d] }
  | _ => none }
def fnStepsRow : OpenClaim := { program := "ytmgjbldnohkodaa", sum := "c83637d8fa43ae26f35e6146c72c911a28af3b4ff65c00b7b8bb9848a71b7c1e", func := "loop.example/g03228/laws.FnSteps", spec := "fnSteps", apart := false }
def FnStepsSaid : Prop := fnStepsRow.holds Try.pinned (OpenSpec.ofChange fnStepsSpec)

/-- ITS FALSE NEIGHBOUR: 'it returns false'. Refute it at one input. -/
def fnStepsWrong : ChangeSpec := { name := "fnSteps", fn := fun _ => fun
  | [d] => { results := [.lit (.bool false)], args := [d] }
  | _ => none }
def FnStepsWrongFalsely : Prop := fnStepsRow.holds Try.pinned (OpenSpec.ofChange fnStepsWrong)

/-- 'laws.FnBounded': WHATEVER THE INPUT: true; the input reads as it did. -/
def fnBoundedSpec : ChangeSpec := { name := "fnBounded", fn := fun _ => fun
  | [d] => { results := [.lit (.bool true)], args := [d] }
  | _ => none }
def fnBoundedRow : OpenClaim := { program := "ytmgjbldnohkodaa", sum := "c83637d8fa43ae26f35e6146c72c911a28af3b4ff65c00b7b8bb9848a71b7c1e", func := "loop.example/g03228/laws.FnBounded", spec := "fnBounded", apart := false }
def FnBoundedSaid : Prop := fnBoundedRow.holds Try.pinned (OpenSpec.ofChange fnBoundedSpec)

/-- ITS FALSE NEIGHBOUR: 'it returns false'. Refute it at one input. -/
def fnBoundedWrong : ChangeSpec := { name := "fnBounded", fn := fun _ => fun
  | [d] => { results := [.lit (.bool false)], args := [d] }
  | _ => none }
def FnBoundedWrongFalsely : Prop := fnBoundedRow.holds Try.pinned (OpenSpec.ofChange fnBoundedWrong)

/-- 'laws.FnExactQuietFrom': WHATEVER THE INPUT: true; the input reads as it did. -/
def fnExactQuietFromSpec : ChangeSpec := { name := "fnExactQuietFrom", fn := fun _ => fun
  | [d1, d2, d3, d4] => { results := [.lit (.bool true)], args := [d1, d2, d3, d4] }
  | _ => none }
def fnExactQuietFromRow : OpenClaim := { program := "ytmgjbldnohkodaa", sum := "c83637d8fa43ae26f35e6146c72c911a28af3b4ff65c00b7b8bb9848a71b7c1e", func := "loop.example/g03228/laws.FnExactQuietFrom", spec := "fnExactQuietFrom", apart := false }
def FnExactQuietFromSaid : Prop := fnExactQuietFromRow.holds Try.pinned (OpenSpec.ofChange fnExactQuietFromSpec)

/-- ITS FALSE NEIGHBOUR: 'it returns false'. Refute it at one input. -/
def fnExactQuietFromWrong : ChangeSpec := { name := "fnExactQuietFrom", fn := fun _ => fun
  | [d1, d2, d3, d4] => { results := [.lit (.bool false)], args := [d1, d2, d3, d4] }
  | _ => none }
def FnExactQuietFromWrongFalsely : Prop := fnExactQuietFromRow.holds Try.pinned (OpenSpec.ofChange fnExactQuietFromWrong)

/-- 'laws.FnCut': WHATEVER THE INPUT: true; the input reads as it did. -/
def fnCutSpec : ChangeSpec := { name := "fnCut", fn := fun _ => fun
  | [d] => { results := [.lit (.bool true)], args := [d] }
  | _ => none }
def fnCutRow : OpenClaim := { program := "ytmgjbldnohkodaa", sum := "c83637d8fa43ae26f35e6146c72c911a28af3b4ff65c00b7b8bb9848a71b7c1e", func := "loop.example/g03228/laws.FnCut", spec := "fnCut", apart := false }
def FnCutSaid : Prop := fnCutRow.holds Try.pinned (OpenSpec.ofChange fnCutSpec)

/-- ITS FALSE NEIGHBOUR: 'it returns false'. Refute it at one input. -/
def fnCutWrong : ChangeSpec := { name := "fnCut", fn := fun _ => fun
  | [d] => { results := [.lit (.bool false)], args := [d] }
  | _ => none }
def FnCutWrongFalsely : Prop := fnCutRow.holds Try.pinned (OpenSpec.ofChange fnCutWrong)

/-- 'laws.FnInput': WHATEVER THE INPUT: true; the input reads as it did. -/
def fnInputSpec : ChangeSpec := { name := "fnInput", fn := fun _ => fun
  | [d] => { results := [.lit (.bool true)], args := [d] }
  | _ => none }
def fnInputRow : OpenClaim := { program := "ytmgjbldnohkodaa", sum := "c83637d8fa43ae26f35e6146c72c911a28af3b4ff65c00b7b8bb9848a71b7c1e", func := "loop.example/g03228/laws.FnInput", spec := "fnInput", apart := false }
def FnInputSaid : Prop := fnInputRow.holds Try.pinned (OpenSpec.ofChange fnInputSpec)

/-- ITS FALSE NEIGHBOUR: 'it returns false'. Refute it at one input. -/
def fnInputWrong : ChangeSpec := { name := "fnInput", fn := fun _ => fun
  | [d] => { results := [.lit (.bool false)], args := [d] }
  | _ => none }
def FnInputWrongFalsely : Prop := fnInputRow.holds Try.pinned (OpenSpec.ofChange fnInputWrong)

/-- 'laws.FnScaled': WHATEVER THE INPUT: true; the input reads as it did. -/
def fnScaledSpec : ChangeSpec := { name := "fnScaled", fn := fun _ => fun
  | [d] => { results := [.lit (.bool true)], args := [d] }
  | _ => none }
def fnScaledRow : OpenClaim := { program := "ytmgjbldnohkodaa", sum := "c83637d8fa43ae26f35e6146c72c911a28af3b4ff65c00b7b8bb9848a71b7c1e", func := "loop.example/g03228/laws.FnScaled", spec := "fnScaled", apart := false }
def FnScaledSaid : Prop := fnScaledRow.holds Try.pinned (OpenSpec.ofChange fnScaledSpec)

/-- ITS FALSE NEIGHBOUR: 'it returns false'. Refute it at one input. -/
def fnScaledWrong : ChangeSpec := { name := "fnScaled", fn := fun _ => fun
  | [d] => { results := [.lit (.bool false)], args := [d] }
  | _ => none }
def FnScaledWrongFalsely : Prop := fnScaledRow.holds Try.pinned (OpenSpec.ofChange fnScaledWrong)

/-- 'laws.FnShaped': WHATEVER THE INPUT: true; the input reads as it did. -/
def fnShapedSpec : ChangeSpec := { name := "fnShaped", fn := fun _ => fun
  | [d] => { results := [.lit (.bool true)], args := [d] }
  | _ => none }
def fnShapedRow : OpenClaim := { program := "ytmgjbldnohkodaa", sum := "c83637d8fa43ae26f35e6146c72c911a28af3b4ff65c00b7b8bb9848a71b7c1e", func := "loop.example/g03228/laws.FnShaped", spec := "fnShaped", apart := false }
def FnShapedSaid : Prop := fnShapedRow.holds Try.pinned (OpenSpec.ofChange fnShapedSpec)

/-- ITS FALSE NEIGHBOUR: 'it returns false'. Refute it at one input. -/
def fnShapedWrong : ChangeSpec := { name := "fnShaped", fn := fun _ => fun
  | [d] => { results := [.lit (.bool false)], args := [d] }
  | _ => none }
def FnShapedWrongFalsely : Prop := fnShapedRow.holds Try.pinned (OpenSpec.ofChange fnShapedWrong)

/- THE SECOND FORM. 'bulk': how many values and letters a reading holds, each counted each time it is reached (what is shared counts as often as it is met; a slice's spare places count too). A statement '..UptoSaid' is the law's where the arguments, and the package variables that the reading takes, are together of bulk at most 1048576: NARROWER than '..Said'. Prove '..Said' where nothing that the law and all that it calls make is longer than what came in: it says more and counts as full. Else prove '..UptoSaid'. A law counts once. -/
mutual
def uptoBulk {H : Type} : DataW H → Nat
  | .lit (.string bytes) => bytes.length + 1
  | .lit _ => 1
  | .nil => 1
  | .ptr d => uptoBulk d + 1
  | .slice elems spare => uptoBulkAll elems + uptoBulkAll spare + 1
  | .agg parts => uptoBulkAll parts + 1
  | .iface _ d => uptoBulk d + 1
  | .map entries => uptoBulkEntries entries + 1
  | .held _ => 1
def uptoBulkAll {H : Type} : List (DataW H) → Nat
  | [] => 0
  | d :: r => uptoBulk d + uptoBulkAll r
def uptoBulkEntries {H : Type} : List (Lit × DataW H) → Nat
  | [] => 0
  | x :: r => uptoBulkEntry x + uptoBulkEntries r
def uptoBulkEntry {H : Type} : Lit × DataW H → Nat
  | (.string bytes, d) => bytes.length + uptoBulk d + 1
  | (_, d) => uptoBulk d + 1
 end
def uptoSmall : (H : Type) → List (DataW H) → Bool := fun _ ds => decide (uptoBulkAll ds ≤ 1048576)
def OpenSpec.upto (s : _root_.Go.ChangeSpec) : _root_.Go.OpenSpec := { _root_.Go.OpenSpec.ofChange s with cond := some uptoSmall }

/-- 'laws.FnQuiet', WHERE WHAT IT READS IS OF BULK AT MOST 1048576: true; the input reads as it did. -/
def fnQuietUptoRow : OpenClaim := { program := "ytmgjbldnohkodaa", sum := "c83637d8fa43ae26f35e6146c72c911a28af3b4ff65c00b7b8bb9848a71b7c1e", func := "loop.example/g03228/laws.FnQuiet", spec := "fnQuiet", apart := false, narrowed := true }
def FnQuietUptoSaid : Prop := fnQuietUptoRow.holds Try.pinned (OpenSpec.upto fnQuietSpec)

/-- 'laws.FnLevels', WHERE WHAT IT READS IS OF BULK AT MOST 1048576: true; the input reads as it did. -/
def fnLevelsUptoRow : OpenClaim := { program := "ytmgjbldnohkodaa", sum := "c83637d8fa43ae26f35e6146c72c911a28af3b4ff65c00b7b8bb9848a71b7c1e", func := "loop.example/g03228/laws.FnLevels", spec := "fnLevels", apart := false, narrowed := true }
def FnLevelsUptoSaid : Prop := fnLevelsUptoRow.holds Try.pinned (OpenSpec.upto fnLevelsSpec)

/-- 'laws.FnPlain', WHERE WHAT IT READS IS OF BULK AT MOST 1048576: true; the input reads as it did. -/
def fnPlainUptoRow : OpenClaim := { program := "ytmgjbldnohkodaa", sum := "c83637d8fa43ae26f35e6146c72c911a28af3b4ff65c00b7b8bb9848a71b7c1e", func := "loop.example/g03228/laws.FnPlain", spec := "fnPlain", apart := false, narrowed := true }
def FnPlainUptoSaid : Prop := fnPlainUptoRow.holds Try.pinned (OpenSpec.upto fnPlainSpec)

/-- 'laws.FnSteps', WHERE WHAT IT READS IS OF BULK AT MOST 1048576: true; the input reads as it did. -/
def fnStepsUptoRow : OpenClaim := { program := "ytmgjbldnohkodaa", sum := "c83637d8fa43ae26f35e6146c72c911a28af3b4ff65c00b7b8bb9848a71b7c1e", func := "loop.example/g03228/laws.FnSteps", spec := "fnSteps", apart := false, narrowed := true }
def FnStepsUptoSaid : Prop := fnStepsUptoRow.holds Try.pinned (OpenSpec.upto fnStepsSpec)

/-- 'laws.FnBounded', WHERE WHAT IT READS IS OF BULK AT MOST 1048576: true; the input reads as it did. -/
def fnBoundedUptoRow : OpenClaim := { program := "ytmgjbldnohkodaa", sum := "c83637d8fa43ae26f35e6146c72c911a28af3b4ff65c00b7b8bb9848a71b7c1e", func := "loop.example/g03228/laws.FnBounded", spec := "fnBounded", apart := false, narrowed := true }
def FnBoundedUptoSaid : Prop := fnBoundedUptoRow.holds Try.pinned (OpenSpec.upto fnBoundedSpec)

/-- 'laws.FnExactQuietFrom', WHERE WHAT IT READS IS OF BULK AT MOST 1048576: true; the input reads as it did. -/
def fnExactQuietFromUptoRow : OpenClaim := { program := "ytmgjbldnohkodaa", sum := "c83637d8fa43ae26f35e6146c72c911a28af3b4ff65c00b7b8bb9848a71b7c1e", func := "loop.example/g03228/laws.FnExactQuietFrom", spec := "fnExactQuietFrom", apart := false, narrowed := true }
def FnExactQuietFromUptoSaid : Prop := fnExactQuietFromUptoRow.holds Try.pinned (OpenSpec.upto fnExactQuietFromSpec)

/-- 'laws.FnCut', WHERE WHAT IT READS IS OF BULK AT MOST 1048576: true; the input reads as it did. -/
def fnCutUptoRow : OpenClaim := { program := "ytmgjbldnohkodaa", sum := "c83637d8fa43ae26f35e6146c72c911a28af3b4ff65c00b7b8bb9848a71b7c1e", func := "loop.example/g03228/laws.FnCut", spec := "fnCut", apart := false, narrowed := true }
def FnCutUptoSaid : Prop := fnCutUptoRow.holds Try.pinned (OpenSpec.upto fnCutSpec)

/-- 'laws.FnInput', WHERE WHAT IT READS IS OF BULK AT MOST 1048576: true; the input reads as it did. -/
def fnInputUptoRow : OpenClaim := { program := "ytmgjbldnohkodaa", sum := "c83637d8fa43ae26f35e6146c72c911a28af3b4ff65c00b7b8bb9848a71b7c1e", func := "loop.example/g03228/laws.FnInput", spec := "fnInput", apart := false, narrowed := true }
def FnInputUptoSaid : Prop := fnInputUptoRow.holds Try.pinned (OpenSpec.upto fnInputSpec)

/-- 'laws.FnScaled', WHERE WHAT IT READS IS OF BULK AT MOST 1048576: true; the input reads as it did. -/
def fnScaledUptoRow : OpenClaim := { program := "ytmgjbldnohkodaa", sum := "c83637d8fa43ae26f35e6146c72c911a28af3b4ff65c00b7b8bb9848a71b7c1e", func := "loop.example/g03228/laws.FnScaled", spec := "fnScaled", apart := false, narrowed := true }
def FnScaledUptoSaid : Prop := fnScaledUptoRow.holds Try.pinned (OpenSpec.upto fnScaledSpec)

/-- 'laws.FnShaped', WHERE WHAT IT READS IS OF BULK AT MOST 1048576: true; the input reads as it did. -/
def fnShapedUptoRow : OpenClaim := { program := "ytmgjbldnohkodaa", sum := "c83637d8fa43ae26f35e6146c72c911a28af3b4ff65c00b7b8bb9848a71b7c1e", func := "loop.example/g03228/laws.FnShaped", spec := "fnShaped", apart := false, narrowed := true }
def FnShapedUptoSaid : Prop := fnShapedUptoRow.holds Try.pinned (OpenSpec.upto fnShapedSpec)

end Rows
end Go.Proofs.Ytmgjbldnohkodaa
