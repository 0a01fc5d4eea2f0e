/-
  No cell of these rows narrows 'for every input' (looked for: loops, veiled, ifaces, maps, wideKeys, modest, calm, conditions, laid).
  DERIVED. THE GIVEN ROWS OF THIS SEAT. 10 by the template 'for every input the law returns true; each argument reads behind the call as it read before'; 0 by the template 'total and deterministic' (their statements: YtcojeheajfakfaaTotals.lean).
  GIVEN WITH THE SEED: the statements are not yours to turn. If you find one false, say at which input.
  Laid BY PROGRAM, IN A SANDBOX (cutbox-rows.mjs): the forced cells as the released guide's own fill.sh prints them over the translation cc85c834224a113a… (all of the seat's roots in one cut). By AI agents, Wed Nov 11 2026. No macro, syntax, notation, axiom, sorry.
-/
import Derived.Test.YtcojeheajfakfaaChecked
import GoSem.Claim
import GoSem.ClaimJoined
import GoSem.ClaimMapViews
import Derived.JoinedTies
import Derived.KernelRfl
namespace Go.Proofs.Ytcojeheajfakfaa
/- THE CELL 'sum', in the pinned program and in every row, IS THE sha256 OF THE DUMP (.gsa) THAT YtcojeheajfakfaaProg.lean LOADS. Nothing in Lean hashes anything: it is a label: what it is worth is what the hold of that sum in a sandbox is worth. -/
noncomputable def Try.pinned : Pinned := { name := "ytcojeheajfakfaa", sum := "cc85c834224a113a2050345e221c511cae08744509676583c729eea46f44d5d2", checked := Try.checked }
namespace Rows
def none {H : Type} : Left H := { results := [], args := [] }

/-- 'laws.FnExactConstants': WHATEVER THE INPUT: true; the input reads as it did. -/
def fnExactConstantsSpec : ChangeSpec := { name := "fnExactConstants", fn := fun _ => fun
  | [] => { results := [.lit (.bool true)], args := [] }
  | _ => none }
def fnExactConstantsRow : OpenClaim := { program := "ytcojeheajfakfaa", sum := "cc85c834224a113a2050345e221c511cae08744509676583c729eea46f44d5d2", func := "loop.example/g03228/laws.FnExactConstants", spec := "fnExactConstants", apart := false }
def FnExactConstantsSaid : Prop := fnExactConstantsRow.holds Try.pinned (OpenSpec.ofChange fnExactConstantsSpec)

/-- ITS FALSE NEIGHBOUR: 'it returns false'. Refute it at one input. -/
def fnExactConstantsWrong : ChangeSpec := { name := "fnExactConstants", fn := fun _ => fun
  | [] => { results := [.lit (.bool false)], args := [] }
  | _ => none }
def FnExactConstantsWrongFalsely : Prop := fnExactConstantsRow.holds Try.pinned (OpenSpec.ofChange fnExactConstantsWrong)

/-- 'laws.FnExactIsQuantiser': WHATEVER THE INPUT: true; the input reads as it did. -/
def fnExactIsQuantiserSpec : ChangeSpec := { name := "fnExactIsQuantiser", fn := fun _ => fun
  | [d] => { results := [.lit (.bool true)], args := [d] }
  | _ => none }
def fnExactIsQuantiserRow : OpenClaim := { program := "ytcojeheajfakfaa", sum := "cc85c834224a113a2050345e221c511cae08744509676583c729eea46f44d5d2", func := "loop.example/g03228/laws.FnExactIsQuantiser", spec := "fnExactIsQuantiser", apart := false }
def FnExactIsQuantiserSaid : Prop := fnExactIsQuantiserRow.holds Try.pinned (OpenSpec.ofChange fnExactIsQuantiserSpec)

/-- ITS FALSE NEIGHBOUR: 'it returns false'. Refute it at one input. -/
def fnExactIsQuantiserWrong : ChangeSpec := { name := "fnExactIsQuantiser", fn := fun _ => fun
  | [d] => { results := [.lit (.bool false)], args := [d] }
  | _ => none }
def FnExactIsQuantiserWrongFalsely : Prop := fnExactIsQuantiserRow.holds Try.pinned (OpenSpec.ofChange fnExactIsQuantiserWrong)

/-- 'laws.FnExactRangeOf': WHATEVER THE INPUT: true; the input reads as it did. -/
def fnExactRangeOfSpec : ChangeSpec := { name := "fnExactRangeOf", fn := fun _ => fun
  | [d] => { results := [.lit (.bool true)], args := [d] }
  | _ => none }
def fnExactRangeOfRow : OpenClaim := { program := "ytcojeheajfakfaa", sum := "cc85c834224a113a2050345e221c511cae08744509676583c729eea46f44d5d2", func := "loop.example/g03228/laws.FnExactRangeOf", spec := "fnExactRangeOf", apart := false }
def FnExactRangeOfSaid : Prop := fnExactRangeOfRow.holds Try.pinned (OpenSpec.ofChange fnExactRangeOfSpec)

/-- ITS FALSE NEIGHBOUR: 'it returns false'. Refute it at one input. -/
def fnExactRangeOfWrong : ChangeSpec := { name := "fnExactRangeOf", fn := fun _ => fun
  | [d] => { results := [.lit (.bool false)], args := [d] }
  | _ => none }
def FnExactRangeOfWrongFalsely : Prop := fnExactRangeOfRow.holds Try.pinned (OpenSpec.ofChange fnExactRangeOfWrong)

/-- 'laws.FnExactOverloads': WHATEVER THE INPUT: true; the input reads as it did. -/
def fnExactOverloadsSpec : ChangeSpec := { name := "fnExactOverloads", fn := fun _ => fun
  | [d1, d2] => { results := [.lit (.bool true)], args := [d1, d2] }
  | _ => none }
def fnExactOverloadsRow : OpenClaim := { program := "ytcojeheajfakfaa", sum := "cc85c834224a113a2050345e221c511cae08744509676583c729eea46f44d5d2", func := "loop.example/g03228/laws.FnExactOverloads", spec := "fnExactOverloads", apart := false }
def FnExactOverloadsSaid : Prop := fnExactOverloadsRow.holds Try.pinned (OpenSpec.ofChange fnExactOverloadsSpec)

/-- ITS FALSE NEIGHBOUR: 'it returns false'. Refute it at one input. -/
def fnExactOverloadsWrong : ChangeSpec := { name := "fnExactOverloads", fn := fun _ => fun
  | [d1, d2] => { results := [.lit (.bool false)], args := [d1, d2] }
  | _ => none }
def FnExactOverloadsWrongFalsely : Prop := fnExactOverloadsRow.holds Try.pinned (OpenSpec.ofChange fnExactOverloadsWrong)

/-- 'laws.FnExactLevelOf': WHATEVER THE INPUT: true; the input reads as it did. -/
def fnExactLevelOfSpec : ChangeSpec := { name := "fnExactLevelOf", fn := fun _ => fun
  | [d1, d2] => { results := [.lit (.bool true)], args := [d1, d2] }
  | _ => none }
def fnExactLevelOfRow : OpenClaim := { program := "ytcojeheajfakfaa", sum := "cc85c834224a113a2050345e221c511cae08744509676583c729eea46f44d5d2", func := "loop.example/g03228/laws.FnExactLevelOf", spec := "fnExactLevelOf", apart := false }
def FnExactLevelOfSaid : Prop := fnExactLevelOfRow.holds Try.pinned (OpenSpec.ofChange fnExactLevelOfSpec)

/-- ITS FALSE NEIGHBOUR: 'it returns false'. Refute it at one input. -/
def fnExactLevelOfWrong : ChangeSpec := { name := "fnExactLevelOf", fn := fun _ => fun
  | [d1, d2] => { results := [.lit (.bool false)], args := [d1, d2] }
  | _ => none }
def FnExactLevelOfWrongFalsely : Prop := fnExactLevelOfRow.holds Try.pinned (OpenSpec.ofChange fnExactLevelOfWrong)

/-- 'laws.FnExactIndexOf': WHATEVER THE INPUT: true; the input reads as it did. -/
def fnExactIndexOfSpec : ChangeSpec := { name := "fnExactIndexOf", fn := fun _ => fun
  | [d1, d2] => { results := [.lit (.bool true)], args := [d1, d2] }
  | _ => none }
def fnExactIndexOfRow : OpenClaim := { program := "ytcojeheajfakfaa", sum := "cc85c834224a113a2050345e221c511cae08744509676583c729eea46f44d5d2", func := "loop.example/g03228/laws.FnExactIndexOf", spec := "fnExactIndexOf", apart := false }
def FnExactIndexOfSaid : Prop := fnExactIndexOfRow.holds Try.pinned (OpenSpec.ofChange fnExactIndexOfSpec)

/-- ITS FALSE NEIGHBOUR: 'it returns false'. Refute it at one input. -/
def fnExactIndexOfWrong : ChangeSpec := { name := "fnExactIndexOf", fn := fun _ => fun
  | [d1, d2] => { results := [.lit (.bool false)], args := [d1, d2] }
  | _ => none }
def FnExactIndexOfWrongFalsely : Prop := fnExactIndexOfRow.holds Try.pinned (OpenSpec.ofChange fnExactIndexOfWrong)

/-- 'laws.FnExactQuantise': WHATEVER THE INPUT: true; the input reads as it did. -/
def fnExactQuantiseSpec : ChangeSpec := { name := "fnExactQuantise", fn := fun _ => fun
  | [d1, d2] => { results := [.lit (.bool true)], args := [d1, d2] }
  | _ => none }
def fnExactQuantiseRow : OpenClaim := { program := "ytcojeheajfakfaa", sum := "cc85c834224a113a2050345e221c511cae08744509676583c729eea46f44d5d2", func := "loop.example/g03228/laws.FnExactQuantise", spec := "fnExactQuantise", apart := false }
def FnExactQuantiseSaid : Prop := fnExactQuantiseRow.holds Try.pinned (OpenSpec.ofChange fnExactQuantiseSpec)

/-- ITS FALSE NEIGHBOUR: 'it returns false'. Refute it at one input. -/
def fnExactQuantiseWrong : ChangeSpec := { name := "fnExactQuantise", fn := fun _ => fun
  | [d1, d2] => { results := [.lit (.bool false)], args := [d1, d2] }
  | _ => none }
def FnExactQuantiseWrongFalsely : Prop := fnExactQuantiseRow.holds Try.pinned (OpenSpec.ofChange fnExactQuantiseWrong)

/-- 'laws.FnExactIsWord': WHATEVER THE INPUT: true; the input reads as it did. -/
def fnExactIsWordSpec : ChangeSpec := { name := "fnExactIsWord", fn := fun _ => fun
  | [d] => { results := [.lit (.bool true)], args := [d] }
  | _ => none }
def fnExactIsWordRow : OpenClaim := { program := "ytcojeheajfakfaa", sum := "cc85c834224a113a2050345e221c511cae08744509676583c729eea46f44d5d2", func := "loop.example/g03228/laws.FnExactIsWord", spec := "fnExactIsWord", apart := false }
def FnExactIsWordSaid : Prop := fnExactIsWordRow.holds Try.pinned (OpenSpec.ofChange fnExactIsWordSpec)

/-- ITS FALSE NEIGHBOUR: 'it returns false'. Refute it at one input. -/
def fnExactIsWordWrong : ChangeSpec := { name := "fnExactIsWord", fn := fun _ => fun
  | [d] => { results := [.lit (.bool false)], args := [d] }
  | _ => none }
def FnExactIsWordWrongFalsely : Prop := fnExactIsWordRow.holds Try.pinned (OpenSpec.ofChange fnExactIsWordWrong)

/-- 'laws.FnExactIsSequence': WHATEVER THE INPUT: true; the input reads as it did. -/
def fnExactIsSequenceSpec : ChangeSpec := { name := "fnExactIsSequence", fn := fun _ => fun
  | [d] => { results := [.lit (.bool true)], args := [d] }
  | _ => none }
def fnExactIsSequenceRow : OpenClaim := { program := "ytcojeheajfakfaa", sum := "cc85c834224a113a2050345e221c511cae08744509676583c729eea46f44d5d2", func := "loop.example/g03228/laws.FnExactIsSequence", spec := "fnExactIsSequence", apart := false }
def FnExactIsSequenceSaid : Prop := fnExactIsSequenceRow.holds Try.pinned (OpenSpec.ofChange fnExactIsSequenceSpec)

/-- ITS FALSE NEIGHBOUR: 'it returns false'. Refute it at one input. -/
def fnExactIsSequenceWrong : ChangeSpec := { name := "fnExactIsSequence", fn := fun _ => fun
  | [d] => { results := [.lit (.bool false)], args := [d] }
  | _ => none }
def FnExactIsSequenceWrongFalsely : Prop := fnExactIsSequenceRow.holds Try.pinned (OpenSpec.ofChange fnExactIsSequenceWrong)

/-- 'laws.FnExactSumOf': WHATEVER THE INPUT: true; the input reads as it did. -/
def fnExactSumOfSpec : ChangeSpec := { name := "fnExactSumOf", fn := fun _ => fun
  | [d] => { results := [.lit (.bool true)], args := [d] }
  | _ => none }
def fnExactSumOfRow : OpenClaim := { program := "ytcojeheajfakfaa", sum := "cc85c834224a113a2050345e221c511cae08744509676583c729eea46f44d5d2", func := "loop.example/g03228/laws.FnExactSumOf", spec := "fnExactSumOf", apart := false }
def FnExactSumOfSaid : Prop := fnExactSumOfRow.holds Try.pinned (OpenSpec.ofChange fnExactSumOfSpec)

/-- ITS FALSE NEIGHBOUR: 'it returns false'. Refute it at one input. -/
def fnExactSumOfWrong : ChangeSpec := { name := "fnExactSumOf", fn := fun _ => fun
  | [d] => { results := [.lit (.bool false)], args := [d] }
  | _ => none }
def FnExactSumOfWrongFalsely : Prop := fnExactSumOfRow.holds Try.pinned (OpenSpec.ofChange fnExactSumOfWrong)

/- THE SECOND FORM. 'bulk': how many values and letters a reading holds, each counted each time it is reached (what is shared counts as often as it is met; a slice's spare places count too). A statement '..UptoSaid' is the law's where the arguments, and the package variables that the reading takes, are together of bulk at most 1048576: NARROWER than '..Said'. Prove '..Said' where nothing that the law and all that it calls make is longer than what came in: it says more and counts as full. Else prove '..UptoSaid'. A law counts once. -/
mutual
def uptoBulk {H : Type} : DataW H → Nat
  | .lit (.string bytes) => bytes.length + 1
  | .lit _ => 1
  | .nil => 1
  | .ptr d => uptoBulk d + 1
  | .slice elems spare => uptoBulkAll elems + uptoBulkAll spare + 1
  | .agg parts => uptoBulkAll parts + 1
  | .iface _ d => uptoBulk d + 1
  | .map entries => uptoBulkEntries entries + 1
  | .held _ => 1
def uptoBulkAll {H : Type} : List (DataW H) → Nat
  | [] => 0
  | d :: r => uptoBulk d + uptoBulkAll r
def uptoBulkEntries {H : Type} : List (Lit × DataW H) → Nat
  | [] => 0
  | x :: r => uptoBulkEntry x + uptoBulkEntries r
def uptoBulkEntry {H : Type} : Lit × DataW H → Nat
  | (.string bytes, d) => bytes.length + uptoBulk d + 1
  | (_, d) => uptoBulk d + 1
 end
def uptoSmall : (H : Type) → List (DataW H) → Bool := fun _ ds => decide (uptoBulkAll ds ≤ 1048576)
def OpenSpec.upto (s : _root_.Go.ChangeSpec) : _root_.Go.OpenSpec := { _root_.Go.OpenSpec.ofChange s with cond := some uptoSmall }

/-- 'laws.FnExactConstants', WHERE WHAT IT READS IS OF BULK AT MOST 1048576: true; the input reads as it did. -/
def fnExactConstantsUptoRow : OpenClaim := { program := "ytcojeheajfakfaa", sum := "cc85c834224a113a2050345e221c511cae08744509676583c729eea46f44d5d2", func := "loop.example/g03228/laws.FnExactConstants", spec := "fnExactConstants", apart := false, narrowed := true }
def FnExactConstantsUptoSaid : Prop := fnExactConstantsUptoRow.holds Try.pinned (OpenSpec.upto fnExactConstantsSpec)

/-- 'laws.FnExactIsQuantiser', WHERE WHAT IT READS IS OF BULK AT MOST 1048576: true; the input reads as it did. -/
def fnExactIsQuantiserUptoRow : OpenClaim := { program := "ytcojeheajfakfaa", sum := "cc85c834224a113a2050345e221c511cae08744509676583c729eea46f44d5d2", func := "loop.example/g03228/laws.FnExactIsQuantiser", spec := "fnExactIsQuantiser", apart := false, narrowed := true }
def FnExactIsQuantiserUptoSaid : Prop := fnExactIsQuantiserUptoRow.holds Try.pinned (OpenSpec.upto fnExactIsQuantiserSpec)

/-- 'laws.FnExactRangeOf', WHERE WHAT IT READS IS OF BULK AT MOST 1048576: true; the input reads as it did. -/
def fnExactRangeOfUptoRow : OpenClaim := { program := "ytcojeheajfakfaa", sum := "cc85c834224a113a2050345e221c511cae08744509676583c729eea46f44d5d2", func := "loop.example/g03228/laws.FnExactRangeOf", spec := "fnExactRangeOf", apart := false, narrowed := true }
def FnExactRangeOfUptoSaid : Prop := fnExactRangeOfUptoRow.holds Try.pinned (OpenSpec.upto fnExactRangeOfSpec)

/-- 'laws.FnExactOverloads', WHERE WHAT IT READS IS OF BULK AT MOST 1048576: true; the input reads as it did. -/
def fnExactOverloadsUptoRow : OpenClaim := { program := "ytcojeheajfakfaa", sum := "cc85c834224a113a2050345e221c511cae08744509676583c729eea46f44d5d2", func := "loop.example/g03228/laws.FnExactOverloads", spec := "fnExactOverloads", apart := false, narrowed := true }
def FnExactOverloadsUptoSaid : Prop := fnExactOverloadsUptoRow.holds Try.pinned (OpenSpec.upto fnExactOverloadsSpec)

/-- 'laws.FnExactLevelOf', WHERE WHAT IT READS IS OF BULK AT MOST 1048576: true; the input reads as it did. -/
def fnExactLevelOfUptoRow : OpenClaim := { program := "ytcojeheajfakfaa", sum := "cc85c834224a113a2050345e221c511cae08744509676583c729eea46f44d5d2", func := "loop.example/g03228/laws.FnExactLevelOf", spec := "fnExactLevelOf", apart := false, narrowed := true }
def FnExactLevelOfUptoSaid : Prop := fnExactLevelOfUptoRow.holds Try.pinned (OpenSpec.upto fnExactLevelOfSpec)

/-- 'laws.FnExactIndexOf', WHERE WHAT IT READS IS OF BULK AT MOST 1048576: true; the input reads as it did. -/
def fnExactIndexOfUptoRow : OpenClaim := { program := "ytcojeheajfakfaa", sum := "cc85c834224a113a2050345e221c511cae08744509676583c729eea46f44d5d2", func := "loop.example/g03228/laws.FnExactIndexOf", spec := "fnExactIndexOf", apart := false, narrowed := true }
def FnExactIndexOfUptoSaid : Prop := fnExactIndexOfUptoRow.holds Try.pinned (OpenSpec.upto fnExactIndexOfSpec)

/-- 'laws.FnExactQuantise', WHERE WHAT IT READS IS OF BULK AT MOST 1048576: true; the input reads as it did. -/
def fnExactQuantiseUptoRow : OpenClaim := { program := "ytcojeheajfakfaa", sum := "cc85c834224a113a2050345e221c511cae08744509676583c729eea46f44d5d2", func := "loop.example/g03228/laws.FnExactQuantise", spec := "fnExactQuantise", apart := false, narrowed := true }
def FnExactQuantiseUptoSaid : Prop := fnExactQuantiseUptoRow.holds Try.pinned (OpenSpec.upto fnExactQuantiseSpec)

/-- 'laws.FnExactIsWord', WHERE WHAT IT READS IS OF BULK AT MOST 1048576: true; the input reads as it did. -/
def fnExactIsWordUptoRow : OpenClaim := { program := "ytcojeheajfakfaa", sum := "cc85c834224a113a2050345e221c511cae08744509676583c729eea46f44d5d2", func := "loop.example/g03228/laws.FnExactIsWord", spec := "fnExactIsWord", apart := false, narrowed := true }
def FnExactIsWordUptoSaid : Prop := fnExactIsWordUptoRow.holds Try.pinned (OpenSpec.upto fnExactIsWordSpec)

/-- 'laws.FnExactIsSequence', WHERE WHAT IT READS IS OF BULK AT MOST 1048576: true; the input reads as it did. -/
def fnExactIsSequenceUptoRow : OpenClaim := { program := "ytcojeheajfakfaa", sum := "cc85c834224a113a2050345e221c511cae08744509676583c729eea46f44d5d2", func := "loop.example/g03228/laws.FnExactIsSequence", spec := "fnExactIsSequence", apart := false, narrowed := true }
def FnExactIsSequenceUptoSaid : Prop := fnExactIsSequenceUptoRow.holds Try.pinned (OpenSpec.upto fnExactIsSequenceSpec)

/-- 'laws.FnExactSumOf', WHERE WHAT IT READS IS OF BULK AT MOST 1048576: true; the input reads as it did. -/
def fnExactSumOfUptoRow : OpenClaim := { program := "ytcojeheajfakfaa", sum := "cc85c834224a113a2050345e221c511cae08744509676583c729eea46f44d5d2", func := "loop.example/g03228/laws.FnExactSumOf", spec := "fnExactSumOf", apart := false, narrowed := true }
def FnExactSumOfUptoSaid : Prop := fnExactSumOfUptoRow.holds Try.pinned (OpenSpec.upto fnExactSumOfSpec)

end Rows
end Go.Proofs.Ytcojeheajfakfaa
