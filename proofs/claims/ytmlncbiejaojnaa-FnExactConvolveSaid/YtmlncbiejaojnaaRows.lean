/-
  No cell of these rows narrows 'for every input' (looked for: loops, veiled, ifaces, maps, wideKeys, modest, calm, conditions, laid).
  DERIVED. THE GIVEN ROWS OF THIS SEAT. 19 by the template 'for every input the law returns true; each argument reads behind the call as it read before'; 0 by the template 'total and deterministic' (their statements: YtmlncbiejaojnaaTotals.lean).
  GIVEN WITH THE SEED: the statements are not yours to turn. If you find one false, say at which input.
  Laid BY PROGRAM, IN A SANDBOX (cutbox-rows.mjs): the forced cells as the released guide's own fill.sh prints them over the translation 9ce2677bc243e760… (all of the seat's roots in one cut). By AI agents, Wed Nov 11 2026. No macro, syntax, notation, axiom, sorry.
-/
import Derived.Test.YtmlncbiejaojnaaChecked
import GoSem.Claim
import GoSem.ClaimJoined
import GoSem.ClaimMapViews
import Derived.JoinedTies
import Derived.KernelRfl
namespace Go.Proofs.Ytmlncbiejaojnaa
/- THE CELL 'sum', in the pinned program and in every row, IS THE sha256 OF THE DUMP (.gsa) THAT YtmlncbiejaojnaaProg.lean LOADS. Nothing in Lean hashes anything: it is a label: what it is worth is what the hold of that sum in a sandbox is worth. -/
noncomputable def Try.pinned : Pinned := { name := "ytmlncbiejaojnaa", sum := "9ce2677bc243e760583cbdede1a82d7d876e972ceb8e6c3f23657ccce947715e", checked := Try.checked }
namespace Rows
def none {H : Type} : Left H := { results := [], args := [] }

/-- 'laws.FnExactAddSequences': WHATEVER THE INPUT: true; the input reads as it did. -/
def fnExactAddSequencesSpec : ChangeSpec := { name := "fnExactAddSequences", fn := fun _ => fun
  | [d1, d2] => { results := [.lit (.bool true)], args := [d1, d2] }
  | _ => none }
def fnExactAddSequencesRow : OpenClaim := { program := "ytmlncbiejaojnaa", sum := "9ce2677bc243e760583cbdede1a82d7d876e972ceb8e6c3f23657ccce947715e", func := "loop.example/g03228/laws.FnExactAddSequences", spec := "fnExactAddSequences", apart := false }
def FnExactAddSequencesSaid : Prop := fnExactAddSequencesRow.holds Try.pinned (OpenSpec.ofChange fnExactAddSequencesSpec)

/-- ITS FALSE NEIGHBOUR: 'it returns false'. Refute it at one input. -/
def fnExactAddSequencesWrong : ChangeSpec := { name := "fnExactAddSequences", fn := fun _ => fun
  | [d1, d2] => { results := [.lit (.bool false)], args := [d1, d2] }
  | _ => none }
def FnExactAddSequencesWrongFalsely : Prop := fnExactAddSequencesRow.holds Try.pinned (OpenSpec.ofChange fnExactAddSequencesWrong)

/-- 'laws.FnExactSubSequences': WHATEVER THE INPUT: true; the input reads as it did. -/
def fnExactSubSequencesSpec : ChangeSpec := { name := "fnExactSubSequences", fn := fun _ => fun
  | [d1, d2] => { results := [.lit (.bool true)], args := [d1, d2] }
  | _ => none }
def fnExactSubSequencesRow : OpenClaim := { program := "ytmlncbiejaojnaa", sum := "9ce2677bc243e760583cbdede1a82d7d876e972ceb8e6c3f23657ccce947715e", func := "loop.example/g03228/laws.FnExactSubSequences", spec := "fnExactSubSequences", apart := false }
def FnExactSubSequencesSaid : Prop := fnExactSubSequencesRow.holds Try.pinned (OpenSpec.ofChange fnExactSubSequencesSpec)

/-- ITS FALSE NEIGHBOUR: 'it returns false'. Refute it at one input. -/
def fnExactSubSequencesWrong : ChangeSpec := { name := "fnExactSubSequences", fn := fun _ => fun
  | [d1, d2] => { results := [.lit (.bool false)], args := [d1, d2] }
  | _ => none }
def FnExactSubSequencesWrongFalsely : Prop := fnExactSubSequencesRow.holds Try.pinned (OpenSpec.ofChange fnExactSubSequencesWrong)

/-- 'laws.FnExactScaleSequence': WHATEVER THE INPUT: true; the input reads as it did. -/
def fnExactScaleSequenceSpec : ChangeSpec := { name := "fnExactScaleSequence", fn := fun _ => fun
  | [d1, d2] => { results := [.lit (.bool true)], args := [d1, d2] }
  | _ => none }
def fnExactScaleSequenceRow : OpenClaim := { program := "ytmlncbiejaojnaa", sum := "9ce2677bc243e760583cbdede1a82d7d876e972ceb8e6c3f23657ccce947715e", func := "loop.example/g03228/laws.FnExactScaleSequence", spec := "fnExactScaleSequence", apart := false }
def FnExactScaleSequenceSaid : Prop := fnExactScaleSequenceRow.holds Try.pinned (OpenSpec.ofChange fnExactScaleSequenceSpec)

/-- ITS FALSE NEIGHBOUR: 'it returns false'. Refute it at one input. -/
def fnExactScaleSequenceWrong : ChangeSpec := { name := "fnExactScaleSequence", fn := fun _ => fun
  | [d1, d2] => { results := [.lit (.bool false)], args := [d1, d2] }
  | _ => none }
def FnExactScaleSequenceWrongFalsely : Prop := fnExactScaleSequenceRow.holds Try.pinned (OpenSpec.ofChange fnExactScaleSequenceWrong)

/-- 'laws.FnExactDifferencesOf': WHATEVER THE INPUT: true; the input reads as it did. -/
def fnExactDifferencesOfSpec : ChangeSpec := { name := "fnExactDifferencesOf", fn := fun _ => fun
  | [d1, d2] => { results := [.lit (.bool true)], args := [d1, d2] }
  | _ => none }
def fnExactDifferencesOfRow : OpenClaim := { program := "ytmlncbiejaojnaa", sum := "9ce2677bc243e760583cbdede1a82d7d876e972ceb8e6c3f23657ccce947715e", func := "loop.example/g03228/laws.FnExactDifferencesOf", spec := "fnExactDifferencesOf", apart := false }
def FnExactDifferencesOfSaid : Prop := fnExactDifferencesOfRow.holds Try.pinned (OpenSpec.ofChange fnExactDifferencesOfSpec)

/-- ITS FALSE NEIGHBOUR: 'it returns false'. Refute it at one input. -/
def fnExactDifferencesOfWrong : ChangeSpec := { name := "fnExactDifferencesOf", fn := fun _ => fun
  | [d1, d2] => { results := [.lit (.bool false)], args := [d1, d2] }
  | _ => none }
def FnExactDifferencesOfWrongFalsely : Prop := fnExactDifferencesOfRow.holds Try.pinned (OpenSpec.ofChange fnExactDifferencesOfWrong)

/-- 'laws.FnExactIntegralsOf': WHATEVER THE INPUT: true; the input reads as it did. -/
def fnExactIntegralsOfSpec : ChangeSpec := { name := "fnExactIntegralsOf", fn := fun _ => fun
  | [d1, d2] => { results := [.lit (.bool true)], args := [d1, d2] }
  | _ => none }
def fnExactIntegralsOfRow : OpenClaim := { program := "ytmlncbiejaojnaa", sum := "9ce2677bc243e760583cbdede1a82d7d876e972ceb8e6c3f23657ccce947715e", func := "loop.example/g03228/laws.FnExactIntegralsOf", spec := "fnExactIntegralsOf", apart := false }
def FnExactIntegralsOfSaid : Prop := fnExactIntegralsOfRow.holds Try.pinned (OpenSpec.ofChange fnExactIntegralsOfSpec)

/-- ITS FALSE NEIGHBOUR: 'it returns false'. Refute it at one input. -/
def fnExactIntegralsOfWrong : ChangeSpec := { name := "fnExactIntegralsOf", fn := fun _ => fun
  | [d1, d2] => { results := [.lit (.bool false)], args := [d1, d2] }
  | _ => none }
def FnExactIntegralsOfWrongFalsely : Prop := fnExactIntegralsOfRow.holds Try.pinned (OpenSpec.ofChange fnExactIntegralsOfWrong)

/-- 'laws.FnExactDifferenceCoefs': WHATEVER THE INPUT: true; the input reads as it did. -/
def fnExactDifferenceCoefsSpec : ChangeSpec := { name := "fnExactDifferenceCoefs", fn := fun _ => fun
  | [d] => { results := [.lit (.bool true)], args := [d] }
  | _ => none }
def fnExactDifferenceCoefsRow : OpenClaim := { program := "ytmlncbiejaojnaa", sum := "9ce2677bc243e760583cbdede1a82d7d876e972ceb8e6c3f23657ccce947715e", func := "loop.example/g03228/laws.FnExactDifferenceCoefs", spec := "fnExactDifferenceCoefs", apart := false }
def FnExactDifferenceCoefsSaid : Prop := fnExactDifferenceCoefsRow.holds Try.pinned (OpenSpec.ofChange fnExactDifferenceCoefsSpec)

/-- ITS FALSE NEIGHBOUR: 'it returns false'. Refute it at one input. -/
def fnExactDifferenceCoefsWrong : ChangeSpec := { name := "fnExactDifferenceCoefs", fn := fun _ => fun
  | [d] => { results := [.lit (.bool false)], args := [d] }
  | _ => none }
def FnExactDifferenceCoefsWrongFalsely : Prop := fnExactDifferenceCoefsRow.holds Try.pinned (OpenSpec.ofChange fnExactDifferenceCoefsWrong)

/-- 'laws.FnExactConvolve': WHATEVER THE INPUT: true; the input reads as it did. -/
def fnExactConvolveSpec : ChangeSpec := { name := "fnExactConvolve", fn := fun _ => fun
  | [d1, d2] => { results := [.lit (.bool true)], args := [d1, d2] }
  | _ => none }
def fnExactConvolveRow : OpenClaim := { program := "ytmlncbiejaojnaa", sum := "9ce2677bc243e760583cbdede1a82d7d876e972ceb8e6c3f23657ccce947715e", func := "loop.example/g03228/laws.FnExactConvolve", spec := "fnExactConvolve", apart := false }
def FnExactConvolveSaid : Prop := fnExactConvolveRow.holds Try.pinned (OpenSpec.ofChange fnExactConvolveSpec)

/-- ITS FALSE NEIGHBOUR: 'it returns false'. Refute it at one input. -/
def fnExactConvolveWrong : ChangeSpec := { name := "fnExactConvolve", fn := fun _ => fun
  | [d1, d2] => { results := [.lit (.bool false)], args := [d1, d2] }
  | _ => none }
def FnExactConvolveWrongFalsely : Prop := fnExactConvolveRow.holds Try.pinned (OpenSpec.ofChange fnExactConvolveWrong)

/-- 'laws.FnExactDecimate': WHATEVER THE INPUT: true; the input reads as it did. -/
def fnExactDecimateSpec : ChangeSpec := { name := "fnExactDecimate", fn := fun _ => fun
  | [d1, d2, d3] => { results := [.lit (.bool true)], args := [d1, d2, d3] }
  | _ => none }
def fnExactDecimateRow : OpenClaim := { program := "ytmlncbiejaojnaa", sum := "9ce2677bc243e760583cbdede1a82d7d876e972ceb8e6c3f23657ccce947715e", func := "loop.example/g03228/laws.FnExactDecimate", spec := "fnExactDecimate", apart := false }
def FnExactDecimateSaid : Prop := fnExactDecimateRow.holds Try.pinned (OpenSpec.ofChange fnExactDecimateSpec)

/-- ITS FALSE NEIGHBOUR: 'it returns false'. Refute it at one input. -/
def fnExactDecimateWrong : ChangeSpec := { name := "fnExactDecimate", fn := fun _ => fun
  | [d1, d2, d3] => { results := [.lit (.bool false)], args := [d1, d2, d3] }
  | _ => none }
def FnExactDecimateWrongFalsely : Prop := fnExactDecimateRow.holds Try.pinned (OpenSpec.ofChange fnExactDecimateWrong)

/-- 'laws.FnExactStuff': WHATEVER THE INPUT: true; the input reads as it did. -/
def fnExactStuffSpec : ChangeSpec := { name := "fnExactStuff", fn := fun _ => fun
  | [d1, d2] => { results := [.lit (.bool true)], args := [d1, d2] }
  | _ => none }
def fnExactStuffRow : OpenClaim := { program := "ytmlncbiejaojnaa", sum := "9ce2677bc243e760583cbdede1a82d7d876e972ceb8e6c3f23657ccce947715e", func := "loop.example/g03228/laws.FnExactStuff", spec := "fnExactStuff", apart := false }
def FnExactStuffSaid : Prop := fnExactStuffRow.holds Try.pinned (OpenSpec.ofChange fnExactStuffSpec)

/-- ITS FALSE NEIGHBOUR: 'it returns false'. Refute it at one input. -/
def fnExactStuffWrong : ChangeSpec := { name := "fnExactStuff", fn := fun _ => fun
  | [d1, d2] => { results := [.lit (.bool false)], args := [d1, d2] }
  | _ => none }
def FnExactStuffWrongFalsely : Prop := fnExactStuffRow.holds Try.pinned (OpenSpec.ofChange fnExactStuffWrong)

/-- 'laws.FnExactBoxSums': WHATEVER THE INPUT: true; the input reads as it did. -/
def fnExactBoxSumsSpec : ChangeSpec := { name := "fnExactBoxSums", fn := fun _ => fun
  | [d1, d2] => { results := [.lit (.bool true)], args := [d1, d2] }
  | _ => none }
def fnExactBoxSumsRow : OpenClaim := { program := "ytmlncbiejaojnaa", sum := "9ce2677bc243e760583cbdede1a82d7d876e972ceb8e6c3f23657ccce947715e", func := "loop.example/g03228/laws.FnExactBoxSums", spec := "fnExactBoxSums", apart := false }
def FnExactBoxSumsSaid : Prop := fnExactBoxSumsRow.holds Try.pinned (OpenSpec.ofChange fnExactBoxSumsSpec)

/-- ITS FALSE NEIGHBOUR: 'it returns false'. Refute it at one input. -/
def fnExactBoxSumsWrong : ChangeSpec := { name := "fnExactBoxSums", fn := fun _ => fun
  | [d1, d2] => { results := [.lit (.bool false)], args := [d1, d2] }
  | _ => none }
def FnExactBoxSumsWrongFalsely : Prop := fnExactBoxSumsRow.holds Try.pinned (OpenSpec.ofChange fnExactBoxSumsWrong)

/-- 'laws.FnExactRepeatSequence': WHATEVER THE INPUT: true; the input reads as it did. -/
def fnExactRepeatSequenceSpec : ChangeSpec := { name := "fnExactRepeatSequence", fn := fun _ => fun
  | [d1, d2] => { results := [.lit (.bool true)], args := [d1, d2] }
  | _ => none }
def fnExactRepeatSequenceRow : OpenClaim := { program := "ytmlncbiejaojnaa", sum := "9ce2677bc243e760583cbdede1a82d7d876e972ceb8e6c3f23657ccce947715e", func := "loop.example/g03228/laws.FnExactRepeatSequence", spec := "fnExactRepeatSequence", apart := false }
def FnExactRepeatSequenceSaid : Prop := fnExactRepeatSequenceRow.holds Try.pinned (OpenSpec.ofChange fnExactRepeatSequenceSpec)

/-- ITS FALSE NEIGHBOUR: 'it returns false'. Refute it at one input. -/
def fnExactRepeatSequenceWrong : ChangeSpec := { name := "fnExactRepeatSequence", fn := fun _ => fun
  | [d1, d2] => { results := [.lit (.bool false)], args := [d1, d2] }
  | _ => none }
def FnExactRepeatSequenceWrongFalsely : Prop := fnExactRepeatSequenceRow.holds Try.pinned (OpenSpec.ofChange fnExactRepeatSequenceWrong)

/-- 'laws.FnExactPeriodOf': WHATEVER THE INPUT: true; the input reads as it did. -/
def fnExactPeriodOfSpec : ChangeSpec := { name := "fnExactPeriodOf", fn := fun _ => fun
  | [d] => { results := [.lit (.bool true)], args := [d] }
  | _ => none }
def fnExactPeriodOfRow : OpenClaim := { program := "ytmlncbiejaojnaa", sum := "9ce2677bc243e760583cbdede1a82d7d876e972ceb8e6c3f23657ccce947715e", func := "loop.example/g03228/laws.FnExactPeriodOf", spec := "fnExactPeriodOf", apart := false }
def FnExactPeriodOfSaid : Prop := fnExactPeriodOfRow.holds Try.pinned (OpenSpec.ofChange fnExactPeriodOfSpec)

/-- ITS FALSE NEIGHBOUR: 'it returns false'. Refute it at one input. -/
def fnExactPeriodOfWrong : ChangeSpec := { name := "fnExactPeriodOf", fn := fun _ => fun
  | [d] => { results := [.lit (.bool false)], args := [d] }
  | _ => none }
def FnExactPeriodOfWrongFalsely : Prop := fnExactPeriodOfRow.holds Try.pinned (OpenSpec.ofChange fnExactPeriodOfWrong)

/-- 'laws.FnConvolved': WHATEVER THE INPUT: true; the input reads as it did. -/
def fnConvolvedSpec : ChangeSpec := { name := "fnConvolved", fn := fun _ => fun
  | [d] => { results := [.lit (.bool true)], args := [d] }
  | _ => none }
def fnConvolvedRow : OpenClaim := { program := "ytmlncbiejaojnaa", sum := "9ce2677bc243e760583cbdede1a82d7d876e972ceb8e6c3f23657ccce947715e", func := "loop.example/g03228/laws.FnConvolved", spec := "fnConvolved", apart := false }
def FnConvolvedSaid : Prop := fnConvolvedRow.holds Try.pinned (OpenSpec.ofChange fnConvolvedSpec)

/-- ITS FALSE NEIGHBOUR: 'it returns false'. Refute it at one input. -/
def fnConvolvedWrong : ChangeSpec := { name := "fnConvolved", fn := fun _ => fun
  | [d] => { results := [.lit (.bool false)], args := [d] }
  | _ => none }
def FnConvolvedWrongFalsely : Prop := fnConvolvedRow.holds Try.pinned (OpenSpec.ofChange fnConvolvedWrong)

/-- 'laws.FnCoefs': WHATEVER THE INPUT: true; the input reads as it did. -/
def fnCoefsSpec : ChangeSpec := { name := "fnCoefs", fn := fun _ => fun
  | [d] => { results := [.lit (.bool true)], args := [d] }
  | _ => none }
def fnCoefsRow : OpenClaim := { program := "ytmlncbiejaojnaa", sum := "9ce2677bc243e760583cbdede1a82d7d876e972ceb8e6c3f23657ccce947715e", func := "loop.example/g03228/laws.FnCoefs", spec := "fnCoefs", apart := false }
def FnCoefsSaid : Prop := fnCoefsRow.holds Try.pinned (OpenSpec.ofChange fnCoefsSpec)

/-- ITS FALSE NEIGHBOUR: 'it returns false'. Refute it at one input. -/
def fnCoefsWrong : ChangeSpec := { name := "fnCoefs", fn := fun _ => fun
  | [d] => { results := [.lit (.bool false)], args := [d] }
  | _ => none }
def FnCoefsWrongFalsely : Prop := fnCoefsRow.holds Try.pinned (OpenSpec.ofChange fnCoefsWrong)

/-- 'laws.FnAdded': WHATEVER THE INPUT: true; the input reads as it did. -/
def fnAddedSpec : ChangeSpec := { name := "fnAdded", fn := fun _ => fun
  | [d] => { results := [.lit (.bool true)], args := [d] }
  | _ => none }
def fnAddedRow : OpenClaim := { program := "ytmlncbiejaojnaa", sum := "9ce2677bc243e760583cbdede1a82d7d876e972ceb8e6c3f23657ccce947715e", func := "loop.example/g03228/laws.FnAdded", spec := "fnAdded", apart := false }
def FnAddedSaid : Prop := fnAddedRow.holds Try.pinned (OpenSpec.ofChange fnAddedSpec)

/-- ITS FALSE NEIGHBOUR: 'it returns false'. Refute it at one input. -/
def fnAddedWrong : ChangeSpec := { name := "fnAdded", fn := fun _ => fun
  | [d] => { results := [.lit (.bool false)], args := [d] }
  | _ => none }
def FnAddedWrongFalsely : Prop := fnAddedRow.holds Try.pinned (OpenSpec.ofChange fnAddedWrong)

/-- 'laws.FnNoble': WHATEVER THE INPUT: true; the input reads as it did. -/
def fnNobleSpec : ChangeSpec := { name := "fnNoble", fn := fun _ => fun
  | [d] => { results := [.lit (.bool true)], args := [d] }
  | _ => none }
def fnNobleRow : OpenClaim := { program := "ytmlncbiejaojnaa", sum := "9ce2677bc243e760583cbdede1a82d7d876e972ceb8e6c3f23657ccce947715e", func := "loop.example/g03228/laws.FnNoble", spec := "fnNoble", apart := false }
def FnNobleSaid : Prop := fnNobleRow.holds Try.pinned (OpenSpec.ofChange fnNobleSpec)

/-- ITS FALSE NEIGHBOUR: 'it returns false'. Refute it at one input. -/
def fnNobleWrong : ChangeSpec := { name := "fnNoble", fn := fun _ => fun
  | [d] => { results := [.lit (.bool false)], args := [d] }
  | _ => none }
def FnNobleWrongFalsely : Prop := fnNobleRow.holds Try.pinned (OpenSpec.ofChange fnNobleWrong)

/-- 'laws.FnPeriods': WHATEVER THE INPUT: true; the input reads as it did. -/
def fnPeriodsSpec : ChangeSpec := { name := "fnPeriods", fn := fun _ => fun
  | [d] => { results := [.lit (.bool true)], args := [d] }
  | _ => none }
def fnPeriodsRow : OpenClaim := { program := "ytmlncbiejaojnaa", sum := "9ce2677bc243e760583cbdede1a82d7d876e972ceb8e6c3f23657ccce947715e", func := "loop.example/g03228/laws.FnPeriods", spec := "fnPeriods", apart := false }
def FnPeriodsSaid : Prop := fnPeriodsRow.holds Try.pinned (OpenSpec.ofChange fnPeriodsSpec)

/-- ITS FALSE NEIGHBOUR: 'it returns false'. Refute it at one input. -/
def fnPeriodsWrong : ChangeSpec := { name := "fnPeriods", fn := fun _ => fun
  | [d] => { results := [.lit (.bool false)], args := [d] }
  | _ => none }
def FnPeriodsWrongFalsely : Prop := fnPeriodsRow.holds Try.pinned (OpenSpec.ofChange fnPeriodsWrong)

/-- 'laws.FnBoxes': WHATEVER THE INPUT: true; the input reads as it did. -/
def fnBoxesSpec : ChangeSpec := { name := "fnBoxes", fn := fun _ => fun
  | [d] => { results := [.lit (.bool true)], args := [d] }
  | _ => none }
def fnBoxesRow : OpenClaim := { program := "ytmlncbiejaojnaa", sum := "9ce2677bc243e760583cbdede1a82d7d876e972ceb8e6c3f23657ccce947715e", func := "loop.example/g03228/laws.FnBoxes", spec := "fnBoxes", apart := false }
def FnBoxesSaid : Prop := fnBoxesRow.holds Try.pinned (OpenSpec.ofChange fnBoxesSpec)

/-- ITS FALSE NEIGHBOUR: 'it returns false'. Refute it at one input. -/
def fnBoxesWrong : ChangeSpec := { name := "fnBoxes", fn := fun _ => fun
  | [d] => { results := [.lit (.bool false)], args := [d] }
  | _ => none }
def FnBoxesWrongFalsely : Prop := fnBoxesRow.holds Try.pinned (OpenSpec.ofChange fnBoxesWrong)

/-- 'laws.FnSums': WHATEVER THE INPUT: true; the input reads as it did. -/
def fnSumsSpec : ChangeSpec := { name := "fnSums", fn := fun _ => fun
  | [d] => { results := [.lit (.bool true)], args := [d] }
  | _ => none }
def fnSumsRow : OpenClaim := { program := "ytmlncbiejaojnaa", sum := "9ce2677bc243e760583cbdede1a82d7d876e972ceb8e6c3f23657ccce947715e", func := "loop.example/g03228/laws.FnSums", spec := "fnSums", apart := false }
def FnSumsSaid : Prop := fnSumsRow.holds Try.pinned (OpenSpec.ofChange fnSumsSpec)

/-- ITS FALSE NEIGHBOUR: 'it returns false'. Refute it at one input. -/
def fnSumsWrong : ChangeSpec := { name := "fnSums", fn := fun _ => fun
  | [d] => { results := [.lit (.bool false)], args := [d] }
  | _ => none }
def FnSumsWrongFalsely : Prop := fnSumsRow.holds Try.pinned (OpenSpec.ofChange fnSumsWrong)

/- THE SECOND FORM. 'bulk': how many values and letters a reading holds, each counted each time it is reached (what is shared counts as often as it is met; a slice's spare places count too). A statement '..UptoSaid' is the law's where the arguments, and the package variables that the reading takes, are together of bulk at most 1048576: NARROWER than '..Said'. Prove '..Said' where nothing that the law and all that it calls make is longer than what came in: it says more and counts as full. Else prove '..UptoSaid'. A law counts once. -/
mutual
def uptoBulk {H : Type} : DataW H → Nat
  | .lit (.string bytes) => bytes.length + 1
  | .lit _ => 1
  | .nil => 1
  | .ptr d => uptoBulk d + 1
  | .slice elems spare => uptoBulkAll elems + uptoBulkAll spare + 1
  | .agg parts => uptoBulkAll parts + 1
  | .iface _ d => uptoBulk d + 1
  | .map entries => uptoBulkEntries entries + 1
  | .held _ => 1
def uptoBulkAll {H : Type} : List (DataW H) → Nat
  | [] => 0
  | d :: r => uptoBulk d + uptoBulkAll r
def uptoBulkEntries {H : Type} : List (Lit × DataW H) → Nat
  | [] => 0
  | x :: r => uptoBulkEntry x + uptoBulkEntries r
def uptoBulkEntry {H : Type} : Lit × DataW H → Nat
  | (.string bytes, d) => bytes.length + uptoBulk d + 1
  | (_, d) => uptoBulk d + 1
 end
def uptoSmall : (H : Type) → List (DataW H) → Bool := fun _ ds => decide (uptoBulkAll ds ≤ 1048576)
def OpenSpec.upto (s : _root_.Go.ChangeSpec) : _root_.Go.OpenSpec := { _root_.Go.OpenSpec.ofChange s with cond := some uptoSmall }

/-- 'laws.FnExactAddSequences', WHERE WHAT IT READS IS OF BULK AT MOST 1048576: true; the input reads as it did. -/
def fnExactAddSequencesUptoRow : OpenClaim := { program := "ytmlncbiejaojnaa", sum := "9ce2677bc243e760583cbdede1a82d7d876e972ceb8e6c3f23657ccce947715e", func := "loop.example/g03228/laws.FnExactAddSequences", spec := "fnExactAddSequences", apart := false, narrowed := true }
def FnExactAddSequencesUptoSaid : Prop := fnExactAddSequencesUptoRow.holds Try.pinned (OpenSpec.upto fnExactAddSequencesSpec)

/-- 'laws.FnExactSubSequences', WHERE WHAT IT READS IS OF BULK AT MOST 1048576: true; the input reads as it did. -/
def fnExactSubSequencesUptoRow : OpenClaim := { program := "ytmlncbiejaojnaa", sum := "9ce2677bc243e760583cbdede1a82d7d876e972ceb8e6c3f23657ccce947715e", func := "loop.example/g03228/laws.FnExactSubSequences", spec := "fnExactSubSequences", apart := false, narrowed := true }
def FnExactSubSequencesUptoSaid : Prop := fnExactSubSequencesUptoRow.holds Try.pinned (OpenSpec.upto fnExactSubSequencesSpec)

/-- 'laws.FnExactScaleSequence', WHERE WHAT IT READS IS OF BULK AT MOST 1048576: true; the input reads as it did. -/
def fnExactScaleSequenceUptoRow : OpenClaim := { program := "ytmlncbiejaojnaa", sum := "9ce2677bc243e760583cbdede1a82d7d876e972ceb8e6c3f23657ccce947715e", func := "loop.example/g03228/laws.FnExactScaleSequence", spec := "fnExactScaleSequence", apart := false, narrowed := true }
def FnExactScaleSequenceUptoSaid : Prop := fnExactScaleSequenceUptoRow.holds Try.pinned (OpenSpec.upto fnExactScaleSequenceSpec)

/-- 'laws.FnExactDifferencesOf', WHERE WHAT IT READS IS OF BULK AT MOST 1048576: true; the input reads as it did. -/
def fnExactDifferencesOfUptoRow : OpenClaim := { program := "ytmlncbiejaojnaa", sum := "9ce2677bc243e760583cbdede1a82d7d876e972ceb8e6c3f23657ccce947715e", func := "loop.example/g03228/laws.FnExactDifferencesOf", spec := "fnExactDifferencesOf", apart := false, narrowed := true }
def FnExactDifferencesOfUptoSaid : Prop := fnExactDifferencesOfUptoRow.holds Try.pinned (OpenSpec.upto fnExactDifferencesOfSpec)

/-- 'laws.FnExactIntegralsOf', WHERE WHAT IT READS IS OF BULK AT MOST 1048576: true; the input reads as it did. -/
def fnExactIntegralsOfUptoRow : OpenClaim := { program := "ytmlncbiejaojnaa", sum := "9ce2677bc243e760583cbdede1a82d7d876e972ceb8e6c3f23657ccce947715e", func := "loop.example/g03228/laws.FnExactIntegralsOf", spec := "fnExactIntegralsOf", apart := false, narrowed := true }
def FnExactIntegralsOfUptoSaid : Prop := fnExactIntegralsOfUptoRow.holds Try.pinned (OpenSpec.upto fnExactIntegralsOfSpec)

/-- 'laws.FnExactDifferenceCoefs', WHERE WHAT IT READS IS OF BULK AT MOST 1048576: true; the input reads as it did. -/
def fnExactDifferenceCoefsUptoRow : OpenClaim := { program := "ytmlncbiejaojnaa", sum := "9ce2677bc243e760583cbdede1a82d7d876e972ceb8e6c3f23657ccce947715e", func := "loop.example/g03228/laws.FnExactDifferenceCoefs", spec := "fnExactDifferenceCoefs", apart := false, narrowed := true }
def FnExactDifferenceCoefsUptoSaid : Prop := fnExactDifferenceCoefsUptoRow.holds Try.pinned (OpenSpec.upto fnExactDifferenceCoefsSpec)

/-- 'laws.FnExactConvolve', WHERE WHAT IT READS IS OF BULK AT MOST 1048576: true; the input reads as it did. -/
def fnExactConvolveUptoRow : OpenClaim := { program := "ytmlncbiejaojnaa", sum := "9ce2677bc243e760583cbdede1a82d7d876e972ceb8e6c3f23657ccce947715e", func := "loop.example/g03228/laws.FnExactConvolve", spec := "fnExactConvolve", apart := false, narrowed := true }
def FnExactConvolveUptoSaid : Prop := fnExactConvolveUptoRow.holds Try.pinned (OpenSpec.upto fnExactConvolveSpec)

/-- 'laws.FnExactDecimate', WHERE WHAT IT READS IS OF BULK AT MOST 1048576: true; the input reads as it did. -/
def fnExactDecimateUptoRow : OpenClaim := { program := "ytmlncbiejaojnaa", sum := "9ce2677bc243e760583cbdede1a82d7d876e972ceb8e6c3f23657ccce947715e", func := "loop.example/g03228/laws.FnExactDecimate", spec := "fnExactDecimate", apart := false, narrowed := true }
def FnExactDecimateUptoSaid : Prop := fnExactDecimateUptoRow.holds Try.pinned (OpenSpec.upto fnExactDecimateSpec)

/-- 'laws.FnExactStuff', WHERE WHAT IT READS IS OF BULK AT MOST 1048576: true; the input reads as it did. -/
def fnExactStuffUptoRow : OpenClaim := { program := "ytmlncbiejaojnaa", sum := "9ce2677bc243e760583cbdede1a82d7d876e972ceb8e6c3f23657ccce947715e", func := "loop.example/g03228/laws.FnExactStuff", spec := "fnExactStuff", apart := false, narrowed := true }
def FnExactStuffUptoSaid : Prop := fnExactStuffUptoRow.holds Try.pinned (OpenSpec.upto fnExactStuffSpec)

/-- 'laws.FnExactBoxSums', WHERE WHAT IT READS IS OF BULK AT MOST 1048576: true; the input reads as it did. -/
def fnExactBoxSumsUptoRow : OpenClaim := { program := "ytmlncbiejaojnaa", sum := "9ce2677bc243e760583cbdede1a82d7d876e972ceb8e6c3f23657ccce947715e", func := "loop.example/g03228/laws.FnExactBoxSums", spec := "fnExactBoxSums", apart := false, narrowed := true }
def FnExactBoxSumsUptoSaid : Prop := fnExactBoxSumsUptoRow.holds Try.pinned (OpenSpec.upto fnExactBoxSumsSpec)

/-- 'laws.FnExactRepeatSequence', WHERE WHAT IT READS IS OF BULK AT MOST 1048576: true; the input reads as it did. -/
def fnExactRepeatSequenceUptoRow : OpenClaim := { program := "ytmlncbiejaojnaa", sum := "9ce2677bc243e760583cbdede1a82d7d876e972ceb8e6c3f23657ccce947715e", func := "loop.example/g03228/laws.FnExactRepeatSequence", spec := "fnExactRepeatSequence", apart := false, narrowed := true }
def FnExactRepeatSequenceUptoSaid : Prop := fnExactRepeatSequenceUptoRow.holds Try.pinned (OpenSpec.upto fnExactRepeatSequenceSpec)

/-- 'laws.FnExactPeriodOf', WHERE WHAT IT READS IS OF BULK AT MOST 1048576: true; the input reads as it did. -/
def fnExactPeriodOfUptoRow : OpenClaim := { program := "ytmlncbiejaojnaa", sum := "9ce2677bc243e760583cbdede1a82d7d876e972ceb8e6c3f23657ccce947715e", func := "loop.example/g03228/laws.FnExactPeriodOf", spec := "fnExactPeriodOf", apart := false, narrowed := true }
def FnExactPeriodOfUptoSaid : Prop := fnExactPeriodOfUptoRow.holds Try.pinned (OpenSpec.upto fnExactPeriodOfSpec)

/-- 'laws.FnConvolved', WHERE WHAT IT READS IS OF BULK AT MOST 1048576: true; the input reads as it did. -/
def fnConvolvedUptoRow : OpenClaim := { program := "ytmlncbiejaojnaa", sum := "9ce2677bc243e760583cbdede1a82d7d876e972ceb8e6c3f23657ccce947715e", func := "loop.example/g03228/laws.FnConvolved", spec := "fnConvolved", apart := false, narrowed := true }
def FnConvolvedUptoSaid : Prop := fnConvolvedUptoRow.holds Try.pinned (OpenSpec.upto fnConvolvedSpec)

/-- 'laws.FnCoefs', WHERE WHAT IT READS IS OF BULK AT MOST 1048576: true; the input reads as it did. -/
def fnCoefsUptoRow : OpenClaim := { program := "ytmlncbiejaojnaa", sum := "9ce2677bc243e760583cbdede1a82d7d876e972ceb8e6c3f23657ccce947715e", func := "loop.example/g03228/laws.FnCoefs", spec := "fnCoefs", apart := false, narrowed := true }
def FnCoefsUptoSaid : Prop := fnCoefsUptoRow.holds Try.pinned (OpenSpec.upto fnCoefsSpec)

/-- 'laws.FnAdded', WHERE WHAT IT READS IS OF BULK AT MOST 1048576: true; the input reads as it did. -/
def fnAddedUptoRow : OpenClaim := { program := "ytmlncbiejaojnaa", sum := "9ce2677bc243e760583cbdede1a82d7d876e972ceb8e6c3f23657ccce947715e", func := "loop.example/g03228/laws.FnAdded", spec := "fnAdded", apart := false, narrowed := true }
def FnAddedUptoSaid : Prop := fnAddedUptoRow.holds Try.pinned (OpenSpec.upto fnAddedSpec)

/-- 'laws.FnNoble', WHERE WHAT IT READS IS OF BULK AT MOST 1048576: true; the input reads as it did. -/
def fnNobleUptoRow : OpenClaim := { program := "ytmlncbiejaojnaa", sum := "9ce2677bc243e760583cbdede1a82d7d876e972ceb8e6c3f23657ccce947715e", func := "loop.example/g03228/laws.FnNoble", spec := "fnNoble", apart := false, narrowed := true }
def FnNobleUptoSaid : Prop := fnNobleUptoRow.holds Try.pinned (OpenSpec.upto fnNobleSpec)

/-- 'laws.FnPeriods', WHERE WHAT IT READS IS OF BULK AT MOST 1048576: true; the input reads as it did. -/
def fnPeriodsUptoRow : OpenClaim := { program := "ytmlncbiejaojnaa", sum := "9ce2677bc243e760583cbdede1a82d7d876e972ceb8e6c3f23657ccce947715e", func := "loop.example/g03228/laws.FnPeriods", spec := "fnPeriods", apart := false, narrowed := true }
def FnPeriodsUptoSaid : Prop := fnPeriodsUptoRow.holds Try.pinned (OpenSpec.upto fnPeriodsSpec)

/-- 'laws.FnBoxes', WHERE WHAT IT READS IS OF BULK AT MOST 1048576: true; the input reads as it did. -/
def fnBoxesUptoRow : OpenClaim := { program := "ytmlncbiejaojnaa", sum := "9ce2677bc243e760583cbdede1a82d7d876e972ceb8e6c3f23657ccce947715e", func := "loop.example/g03228/laws.FnBoxes", spec := "fnBoxes", apart := false, narrowed := true }
def FnBoxesUptoSaid : Prop := fnBoxesUptoRow.holds Try.pinned (OpenSpec.upto fnBoxesSpec)

/-- 'laws.FnSums', WHERE WHAT IT READS IS OF BULK AT MOST 1048576: true; the input reads as it did. -/
def fnSumsUptoRow : OpenClaim := { program := "ytmlncbiejaojnaa", sum := "9ce2677bc243e760583cbdede1a82d7d876e972ceb8e6c3f23657ccce947715e", func := "loop.example/g03228/laws.FnSums", spec := "fnSums", apart := false, narrowed := true }
def FnSumsUptoSaid : Prop := fnSumsUptoRow.holds Try.pinned (OpenSpec.upto fnSumsSpec)

end Rows
end Go.Proofs.Ytmlncbiejaojnaa
