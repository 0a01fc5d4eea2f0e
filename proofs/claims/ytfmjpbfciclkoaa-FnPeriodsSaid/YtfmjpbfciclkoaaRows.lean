/-
  No cell of these rows narrows 'for every input' (looked for: loops, veiled, ifaces, maps, wideKeys, modest, calm, conditions, laid).
  DERIVED. THE GIVEN ROWS OF THIS SEAT. 8 by the template 'for every input the law returns true; each argument reads behind the call as it read before'; 0 by the template 'total and deterministic' (their statements: YtfmjpbfciclkoaaTotals.lean).
  GIVEN WITH THE SEED: the statements are not yours to turn. If you find one false, say at which input.
  Laid BY PROGRAM, IN A SANDBOX (cutbox-rows.mjs): the forced cells as the released guide's own fill.sh prints them over the translation 70a95c3867ab3e62… (all of the seat's roots in one cut). By AI agents, Wed Nov 11 2026. No macro, syntax, notation, axiom, sorry.
-/
import Derived.Test.YtfmjpbfciclkoaaChecked
import GoSem.Claim
import GoSem.ClaimJoined
import GoSem.ClaimMapViews
import Derived.JoinedTies
import Derived.KernelRfl
namespace Go.Proofs.Ytfmjpbfciclkoaa
/- THE CELL 'sum', in the pinned program and in every row, IS THE sha256 OF THE DUMP (.gsa) THAT YtfmjpbfciclkoaaProg.lean LOADS. Nothing in Lean hashes anything: it is a label: what it is worth is what the hold of that sum in a sandbox is worth. -/
noncomputable def Try.pinned : Pinned := { name := "ytfmjpbfciclkoaa", sum := "70a95c3867ab3e62c11479c6cf401678b0e6ac02357decb0c24943923714fa73", checked := Try.checked }
namespace Rows
def none {H : Type} : Left H := { results := [], args := [] }

/-- 'laws.FnExactRepeatSequence': WHATEVER THE INPUT: true; the input reads as it did. -/
def fnExactRepeatSequenceSpec : ChangeSpec := { name := "fnExactRepeatSequence", fn := fun _ => fun
  | [d1, d2] => { results := [.lit (.bool true)], args := [d1, d2] }
  | _ => none }
def fnExactRepeatSequenceRow : OpenClaim := { program := "ytfmjpbfciclkoaa", sum := "70a95c3867ab3e62c11479c6cf401678b0e6ac02357decb0c24943923714fa73", func := "loop.example/g03228/laws.FnExactRepeatSequence", spec := "fnExactRepeatSequence", apart := false }
def FnExactRepeatSequenceSaid : Prop := fnExactRepeatSequenceRow.holds Try.pinned (OpenSpec.ofChange fnExactRepeatSequenceSpec)

/-- ITS FALSE NEIGHBOUR: 'it returns false'. Refute it at one input. -/
def fnExactRepeatSequenceWrong : ChangeSpec := { name := "fnExactRepeatSequence", fn := fun _ => fun
  | [d1, d2] => { results := [.lit (.bool false)], args := [d1, d2] }
  | _ => none }
def FnExactRepeatSequenceWrongFalsely : Prop := fnExactRepeatSequenceRow.holds Try.pinned (OpenSpec.ofChange fnExactRepeatSequenceWrong)

/-- 'laws.FnConvolved': WHATEVER THE INPUT: true; the input reads as it did. -/
def fnConvolvedSpec : ChangeSpec := { name := "fnConvolved", fn := fun _ => fun
  | [d] => { results := [.lit (.bool true)], args := [d] }
  | _ => none }
def fnConvolvedRow : OpenClaim := { program := "ytfmjpbfciclkoaa", sum := "70a95c3867ab3e62c11479c6cf401678b0e6ac02357decb0c24943923714fa73", func := "loop.example/g03228/laws.FnConvolved", spec := "fnConvolved", apart := false }
def FnConvolvedSaid : Prop := fnConvolvedRow.holds Try.pinned (OpenSpec.ofChange fnConvolvedSpec)

/-- ITS FALSE NEIGHBOUR: 'it returns false'. Refute it at one input. -/
def fnConvolvedWrong : ChangeSpec := { name := "fnConvolved", fn := fun _ => fun
  | [d] => { results := [.lit (.bool false)], args := [d] }
  | _ => none }
def FnConvolvedWrongFalsely : Prop := fnConvolvedRow.holds Try.pinned (OpenSpec.ofChange fnConvolvedWrong)

/-- 'laws.FnCoefs': WHATEVER THE INPUT: true; the input reads as it did. -/
def fnCoefsSpec : ChangeSpec := { name := "fnCoefs", fn := fun _ => fun
  | [d] => { results := [.lit (.bool true)], args := [d] }
  | _ => none }
def fnCoefsRow : OpenClaim := { program := "ytfmjpbfciclkoaa", sum := "70a95c3867ab3e62c11479c6cf401678b0e6ac02357decb0c24943923714fa73", func := "loop.example/g03228/laws.FnCoefs", spec := "fnCoefs", apart := false }
def FnCoefsSaid : Prop := fnCoefsRow.holds Try.pinned (OpenSpec.ofChange fnCoefsSpec)

/-- ITS FALSE NEIGHBOUR: 'it returns false'. Refute it at one input. -/
def fnCoefsWrong : ChangeSpec := { name := "fnCoefs", fn := fun _ => fun
  | [d] => { results := [.lit (.bool false)], args := [d] }
  | _ => none }
def FnCoefsWrongFalsely : Prop := fnCoefsRow.holds Try.pinned (OpenSpec.ofChange fnCoefsWrong)

/-- 'laws.FnAdded': WHATEVER THE INPUT: true; the input reads as it did. -/
def fnAddedSpec : ChangeSpec := { name := "fnAdded", fn := fun _ => fun
  | [d] => { results := [.lit (.bool true)], args := [d] }
  | _ => none }
def fnAddedRow : OpenClaim := { program := "ytfmjpbfciclkoaa", sum := "70a95c3867ab3e62c11479c6cf401678b0e6ac02357decb0c24943923714fa73", func := "loop.example/g03228/laws.FnAdded", spec := "fnAdded", apart := false }
def FnAddedSaid : Prop := fnAddedRow.holds Try.pinned (OpenSpec.ofChange fnAddedSpec)

/-- ITS FALSE NEIGHBOUR: 'it returns false'. Refute it at one input. -/
def fnAddedWrong : ChangeSpec := { name := "fnAdded", fn := fun _ => fun
  | [d] => { results := [.lit (.bool false)], args := [d] }
  | _ => none }
def FnAddedWrongFalsely : Prop := fnAddedRow.holds Try.pinned (OpenSpec.ofChange fnAddedWrong)

/-- 'laws.FnNoble': WHATEVER THE INPUT: true; the input reads as it did. -/
def fnNobleSpec : ChangeSpec := { name := "fnNoble", fn := fun _ => fun
  | [d] => { results := [.lit (.bool true)], args := [d] }
  | _ => none }
def fnNobleRow : OpenClaim := { program := "ytfmjpbfciclkoaa", sum := "70a95c3867ab3e62c11479c6cf401678b0e6ac02357decb0c24943923714fa73", func := "loop.example/g03228/laws.FnNoble", spec := "fnNoble", apart := false }
def FnNobleSaid : Prop := fnNobleRow.holds Try.pinned (OpenSpec.ofChange fnNobleSpec)

/-- ITS FALSE NEIGHBOUR: 'it returns false'. Refute it at one input. -/
def fnNobleWrong : ChangeSpec := { name := "fnNoble", fn := fun _ => fun
  | [d] => { results := [.lit (.bool false)], args := [d] }
  | _ => none }
def FnNobleWrongFalsely : Prop := fnNobleRow.holds Try.pinned (OpenSpec.ofChange fnNobleWrong)

/-- 'laws.FnPeriods': WHATEVER THE INPUT: true; the input reads as it did. -/
def fnPeriodsSpec : ChangeSpec := { name := "fnPeriods", fn := fun _ => fun
  | [d] => { results := [.lit (.bool true)], args := [d] }
  | _ => none }
def fnPeriodsRow : OpenClaim := { program := "ytfmjpbfciclkoaa", sum := "70a95c3867ab3e62c11479c6cf401678b0e6ac02357decb0c24943923714fa73", func := "loop.example/g03228/laws.FnPeriods", spec := "fnPeriods", apart := false }
def FnPeriodsSaid : Prop := fnPeriodsRow.holds Try.pinned (OpenSpec.ofChange fnPeriodsSpec)

/-- ITS FALSE NEIGHBOUR: 'it returns false'. Refute it at one input. -/
def fnPeriodsWrong : ChangeSpec := { name := "fnPeriods", fn := fun _ => fun
  | [d] => { results := [.lit (.bool false)], args := [d] }
  | _ => none }
def FnPeriodsWrongFalsely : Prop := fnPeriodsRow.holds Try.pinned (OpenSpec.ofChange fnPeriodsWrong)

/-- 'laws.FnBoxes': WHATEVER THE INPUT: true; the input reads as it did. -/
def fnBoxesSpec : ChangeSpec := { name := "fnBoxes", fn := fun _ => fun
  | [d] => { results := [.lit (.bool true)], args := [d] }
  | _ => none }
def fnBoxesRow : OpenClaim := { program := "ytfmjpbfciclkoaa", sum := "70a95c3867ab3e62c11479c6cf401678b0e6ac02357decb0c24943923714fa73", func := "loop.example/g03228/laws.FnBoxes", spec := "fnBoxes", apart := false }
def FnBoxesSaid : Prop := fnBoxesRow.holds Try.pinned (OpenSpec.ofChange fnBoxesSpec)

/-- ITS FALSE NEIGHBOUR: 'it returns false'. Refute it at one input. -/
def fnBoxesWrong : ChangeSpec := { name := "fnBoxes", fn := fun _ => fun
  | [d] => { results := [.lit (.bool false)], args := [d] }
  | _ => none }
def FnBoxesWrongFalsely : Prop := fnBoxesRow.holds Try.pinned (OpenSpec.ofChange fnBoxesWrong)

/-- 'laws.FnSums': WHATEVER THE INPUT: true; the input reads as it did. -/
def fnSumsSpec : ChangeSpec := { name := "fnSums", fn := fun _ => fun
  | [d] => { results := [.lit (.bool true)], args := [d] }
  | _ => none }
def fnSumsRow : OpenClaim := { program := "ytfmjpbfciclkoaa", sum := "70a95c3867ab3e62c11479c6cf401678b0e6ac02357decb0c24943923714fa73", func := "loop.example/g03228/laws.FnSums", spec := "fnSums", apart := false }
def FnSumsSaid : Prop := fnSumsRow.holds Try.pinned (OpenSpec.ofChange fnSumsSpec)

/-- ITS FALSE NEIGHBOUR: 'it returns false'. Refute it at one input. -/
def fnSumsWrong : ChangeSpec := { name := "fnSums", fn := fun _ => fun
  | [d] => { results := [.lit (.bool false)], args := [d] }
  | _ => none }
def FnSumsWrongFalsely : Prop := fnSumsRow.holds Try.pinned (OpenSpec.ofChange fnSumsWrong)

/- THE SECOND FORM. 'bulk': how many values and letters a reading holds, each counted each time it is reached (what is shared counts as often as it is met; a slice's spare places count too). A statement '..UptoSaid' is the law's where the arguments, and the package variables that the reading takes, are together of bulk at most 1048576: NARROWER than '..Said'. Prove '..Said' where nothing that the law and all that it calls make is longer than what came in: it says more and counts as full. Else prove '..UptoSaid'. A law counts once. -/
mutual
def uptoBulk {H : Type} : DataW H → Nat
  | .lit (.string bytes) => bytes.length + 1
  | .lit _ => 1
  | .nil => 1
  | .ptr d => uptoBulk d + 1
  | .slice elems spare => uptoBulkAll elems + uptoBulkAll spare + 1
  | .agg parts => uptoBulkAll parts + 1
  | .iface _ d => uptoBulk d + 1
  | .map entries => uptoBulkEntries entries + 1
  | .held _ => 1
def uptoBulkAll {H : Type} : List (DataW H) → Nat
  | [] => 0
  | d :: r => uptoBulk d + uptoBulkAll r
def uptoBulkEntries {H : Type} : List (Lit × DataW H) → Nat
  | [] => 0
  | x :: r => uptoBulkEntry x + uptoBulkEntries r
def uptoBulkEntry {H : Type} : Lit × DataW H → Nat
  | (.string bytes, d) => bytes.length + uptoBulk d + 1
  | (_, d) => uptoBulk d + 1
 end
def uptoSmall : (H : Type) → List (DataW H) → Bool := fun _ ds => decide (uptoBulkAll ds ≤ 1048576)
def OpenSpec.upto (s : _root_.Go.ChangeSpec) : _root_.Go.OpenSpec := { _root_.Go.OpenSpec.ofChange s with cond := some uptoSmall }

/-- 'laws.FnExactRepeatSequence', WHERE WHAT IT READS IS OF BULK AT MOST 1048576: true; the input reads as it did. -/
def fnExactRepeatSequenceUptoRow : OpenClaim := { program := "ytfmjpbfciclkoaa", sum := "70a95c3867ab3e62c11479c6cf401678b0e6ac02357decb0c24943923714fa73", func := "loop.example/g03228/laws.FnExactRepeatSequence", spec := "fnExactRepeatSequence", apart := false, narrowed := true }
def FnExactRepeatSequenceUptoSaid : Prop := fnExactRepeatSequenceUptoRow.holds Try.pinned (OpenSpec.upto fnExactRepeatSequenceSpec)

/-- 'laws.FnConvolved', WHERE WHAT IT READS IS OF BULK AT MOST 1048576: true; the input reads as it did. -/
def fnConvolvedUptoRow : OpenClaim := { program := "ytfmjpbfciclkoaa", sum := "70a95c3867ab3e62c11479c6cf401678b0e6ac02357decb0c24943923714fa73", func := "loop.example/g03228/laws.FnConvolved", spec := "fnConvolved", apart := false, narrowed := true }
def FnConvolvedUptoSaid : Prop := fnConvolvedUptoRow.holds Try.pinned (OpenSpec.upto fnConvolvedSpec)

/-- 'laws.FnCoefs', WHERE WHAT IT READS IS OF BULK AT MOST 1048576: true; the input reads as it did. -/
def fnCoefsUptoRow : OpenClaim := { program := "ytfmjpbfciclkoaa", sum := "70a95c3867ab3e62c11479c6cf401678b0e6ac02357decb0c24943923714fa73", func := "loop.example/g03228/laws.FnCoefs", spec := "fnCoefs", apart := false, narrowed := true }
def FnCoefsUptoSaid : Prop := fnCoefsUptoRow.holds Try.pinned (OpenSpec.upto fnCoefsSpec)

/-- 'laws.FnAdded', WHERE WHAT IT READS IS OF BULK AT MOST 1048576: true; the input reads as it did. -/
def fnAddedUptoRow : OpenClaim := { program := "ytfmjpbfciclkoaa", sum := "70a95c3867ab3e62c11479c6cf401678b0e6ac02357decb0c24943923714fa73", func := "loop.example/g03228/laws.FnAdded", spec := "fnAdded", apart := false, narrowed := true }
def FnAddedUptoSaid : Prop := fnAddedUptoRow.holds Try.pinned (OpenSpec.upto fnAddedSpec)

/-- 'laws.FnNoble', WHERE WHAT IT READS IS OF BULK AT MOST 1048576: true; the input reads as it did. -/
def fnNobleUptoRow : OpenClaim := { program := "ytfmjpbfciclkoaa", sum := "70a95c3867ab3e62c11479c6cf401678b0e6ac02357decb0c24943923714fa73", func := "loop.example/g03228/laws.FnNoble", spec := "fnNoble", apart := false, narrowed := true }
def FnNobleUptoSaid : Prop := fnNobleUptoRow.holds Try.pinned (OpenSpec.upto fnNobleSpec)

/-- 'laws.FnPeriods', WHERE WHAT IT READS IS OF BULK AT MOST 1048576: true; the input reads as it did. -/
def fnPeriodsUptoRow : OpenClaim := { program := "ytfmjpbfciclkoaa", sum := "70a95c3867ab3e62c11479c6cf401678b0e6ac02357decb0c24943923714fa73", func := "loop.example/g03228/laws.FnPeriods", spec := "fnPeriods", apart := false, narrowed := true }
def FnPeriodsUptoSaid : Prop := fnPeriodsUptoRow.holds Try.pinned (OpenSpec.upto fnPeriodsSpec)

/-- 'laws.FnBoxes', WHERE WHAT IT READS IS OF BULK AT MOST 1048576: true; the input reads as it did. -/
def fnBoxesUptoRow : OpenClaim := { program := "ytfmjpbfciclkoaa", sum := "70a95c3867ab3e62c11479c6cf401678b0e6ac02357decb0c24943923714fa73", func := "loop.example/g03228/laws.FnBoxes", spec := "fnBoxes", apart := false, narrowed := true }
def FnBoxesUptoSaid : Prop := fnBoxesUptoRow.holds Try.pinned (OpenSpec.upto fnBoxesSpec)

/-- 'laws.FnSums', WHERE WHAT IT READS IS OF BULK AT MOST 1048576: true; the input reads as it did. -/
def fnSumsUptoRow : OpenClaim := { program := "ytfmjpbfciclkoaa", sum := "70a95c3867ab3e62c11479c6cf401678b0e6ac02357decb0c24943923714fa73", func := "loop.example/g03228/laws.FnSums", spec := "fnSums", apart := false, narrowed := true }
def FnSumsUptoSaid : Prop := fnSumsUptoRow.holds Try.pinned (OpenSpec.upto fnSumsSpec)

end Rows
end Go.Proofs.Ytfmjpbfciclkoaa
