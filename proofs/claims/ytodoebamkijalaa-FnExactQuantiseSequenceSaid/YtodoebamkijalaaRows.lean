/-
  No cell of these rows narrows 'for every input' (looked for: loops, veiled, ifaces, maps, wideKeys, modest, calm, conditions, laid).
  DERIVED. THE GIVEN ROWS OF THIS SEAT. 9 by the template 'for every input the law returns true; each argument reads behind the call as it read before'; 0 by the template 'total and deterministic' (their statements: YtodoebamkijalaaTotals.lean).
  GIVEN WITH THE SEED: the statements are not yours to turn. If you find one false, say at which input.
  Laid BY PROGRAM, IN A SANDBOX (cutbox-rows.mjs): the forced cells as the released guide's own fill.sh prints them over the translation e157630f4e985e68… (all of the seat's roots in one cut). By AI agents, Wed Nov 11 2026. No macro, syntax, notation, axiom, sorry.
-/
import Derived.Test.YtodoebamkijalaaChecked
import GoSem.Claim
import GoSem.ClaimJoined
import GoSem.ClaimMapViews
import Derived.JoinedTies
import Derived.KernelRfl
namespace Go.Proofs.Ytodoebamkijalaa
/- THE CELL 'sum', in the pinned program and in every row, IS THE sha256 OF THE DUMP (.gsa) THAT YtodoebamkijalaaProg.lean LOADS. Nothing in Lean hashes anything: it is a label: what it is worth is what the hold of that sum in a sandbox is worth. -/
noncomputable def Try.pinned : Pinned := { name := "ytodoebamkijalaa", sum := "e157630f4e985e6806c849a8b5aeb7a60fadaf7fc6e357002fe589cdf078946e", checked := Try.checked }
namespace Rows
def none {H : Type} : Left H := { results := [], args := [] }

/-- 'laws.FnExactMechanicalWord': WHATEVER THE INPUT: true; the input reads as it did. -/
def fnExactMechanicalWordSpec : ChangeSpec := { name := "fnExactMechanicalWord", fn := fun _ => fun
  | [d1, d2, d3, d4] => { results := [.lit (.bool true)], args := [d1, d2, d3, d4] }
  | _ => none }
def fnExactMechanicalWordRow : OpenClaim := { program := "ytodoebamkijalaa", sum := "e157630f4e985e6806c849a8b5aeb7a60fadaf7fc6e357002fe589cdf078946e", func := "loop.example/g03228/laws.FnExactMechanicalWord", spec := "fnExactMechanicalWord", apart := false }
def FnExactMechanicalWordSaid : Prop := fnExactMechanicalWordRow.holds Try.pinned (OpenSpec.ofChange fnExactMechanicalWordSpec)

/-- ITS FALSE NEIGHBOUR: 'it returns false'. Refute it at one input. -/
def fnExactMechanicalWordWrong : ChangeSpec := { name := "fnExactMechanicalWord", fn := fun _ => fun
  | [d1, d2, d3, d4] => { results := [.lit (.bool false)], args := [d1, d2, d3, d4] }
  | _ => none }
def FnExactMechanicalWordWrongFalsely : Prop := fnExactMechanicalWordRow.holds Try.pinned (OpenSpec.ofChange fnExactMechanicalWordWrong)

/-- 'laws.FnExactChristoffelWord': WHATEVER THE INPUT: true; the input reads as it did. -/
def fnExactChristoffelWordSpec : ChangeSpec := { name := "fnExactChristoffelWord", fn := fun _ => fun
  | [d1, d2] => { results := [.lit (.bool true)], args := [d1, d2] }
  | _ => none }
def fnExactChristoffelWordRow : OpenClaim := { program := "ytodoebamkijalaa", sum := "e157630f4e985e6806c849a8b5aeb7a60fadaf7fc6e357002fe589cdf078946e", func := "loop.example/g03228/laws.FnExactChristoffelWord", spec := "fnExactChristoffelWord", apart := false }
def FnExactChristoffelWordSaid : Prop := fnExactChristoffelWordRow.holds Try.pinned (OpenSpec.ofChange fnExactChristoffelWordSpec)

/-- ITS FALSE NEIGHBOUR: 'it returns false'. Refute it at one input. -/
def fnExactChristoffelWordWrong : ChangeSpec := { name := "fnExactChristoffelWord", fn := fun _ => fun
  | [d1, d2] => { results := [.lit (.bool false)], args := [d1, d2] }
  | _ => none }
def FnExactChristoffelWordWrongFalsely : Prop := fnExactChristoffelWordRow.holds Try.pinned (OpenSpec.ofChange fnExactChristoffelWordWrong)

/-- 'laws.FnExactComplementOf': WHATEVER THE INPUT: true; the input reads as it did. -/
def fnExactComplementOfSpec : ChangeSpec := { name := "fnExactComplementOf", fn := fun _ => fun
  | [d] => { results := [.lit (.bool true)], args := [d] }
  | _ => none }
def fnExactComplementOfRow : OpenClaim := { program := "ytodoebamkijalaa", sum := "e157630f4e985e6806c849a8b5aeb7a60fadaf7fc6e357002fe589cdf078946e", func := "loop.example/g03228/laws.FnExactComplementOf", spec := "fnExactComplementOf", apart := false }
def FnExactComplementOfSaid : Prop := fnExactComplementOfRow.holds Try.pinned (OpenSpec.ofChange fnExactComplementOfSpec)

/-- ITS FALSE NEIGHBOUR: 'it returns false'. Refute it at one input. -/
def fnExactComplementOfWrong : ChangeSpec := { name := "fnExactComplementOf", fn := fun _ => fun
  | [d] => { results := [.lit (.bool false)], args := [d] }
  | _ => none }
def FnExactComplementOfWrongFalsely : Prop := fnExactComplementOfRow.holds Try.pinned (OpenSpec.ofChange fnExactComplementOfWrong)

/-- 'laws.FnExactPartSums': WHATEVER THE INPUT: true; the input reads as it did. -/
def fnExactPartSumsSpec : ChangeSpec := { name := "fnExactPartSums", fn := fun _ => fun
  | [d1, d2] => { results := [.lit (.bool true)], args := [d1, d2] }
  | _ => none }
def fnExactPartSumsRow : OpenClaim := { program := "ytodoebamkijalaa", sum := "e157630f4e985e6806c849a8b5aeb7a60fadaf7fc6e357002fe589cdf078946e", func := "loop.example/g03228/laws.FnExactPartSums", spec := "fnExactPartSums", apart := false }
def FnExactPartSumsSaid : Prop := fnExactPartSumsRow.holds Try.pinned (OpenSpec.ofChange fnExactPartSumsSpec)

/-- ITS FALSE NEIGHBOUR: 'it returns false'. Refute it at one input. -/
def fnExactPartSumsWrong : ChangeSpec := { name := "fnExactPartSums", fn := fun _ => fun
  | [d1, d2] => { results := [.lit (.bool false)], args := [d1, d2] }
  | _ => none }
def FnExactPartSumsWrongFalsely : Prop := fnExactPartSumsRow.holds Try.pinned (OpenSpec.ofChange fnExactPartSumsWrong)

/-- 'laws.FnExactInterleavedOf': WHATEVER THE INPUT: true; the input reads as it did. -/
def fnExactInterleavedOfSpec : ChangeSpec := { name := "fnExactInterleavedOf", fn := fun _ => fun
  | [d] => { results := [.lit (.bool true)], args := [d] }
  | _ => none }
def fnExactInterleavedOfRow : OpenClaim := { program := "ytodoebamkijalaa", sum := "e157630f4e985e6806c849a8b5aeb7a60fadaf7fc6e357002fe589cdf078946e", func := "loop.example/g03228/laws.FnExactInterleavedOf", spec := "fnExactInterleavedOf", apart := false }
def FnExactInterleavedOfSaid : Prop := fnExactInterleavedOfRow.holds Try.pinned (OpenSpec.ofChange fnExactInterleavedOfSpec)

/-- ITS FALSE NEIGHBOUR: 'it returns false'. Refute it at one input. -/
def fnExactInterleavedOfWrong : ChangeSpec := { name := "fnExactInterleavedOf", fn := fun _ => fun
  | [d] => { results := [.lit (.bool false)], args := [d] }
  | _ => none }
def FnExactInterleavedOfWrongFalsely : Prop := fnExactInterleavedOfRow.holds Try.pinned (OpenSpec.ofChange fnExactInterleavedOfWrong)

/-- 'laws.FnExactRunsOf': WHATEVER THE INPUT: true; the input reads as it did. -/
def fnExactRunsOfSpec : ChangeSpec := { name := "fnExactRunsOf", fn := fun _ => fun
  | [d] => { results := [.lit (.bool true)], args := [d] }
  | _ => none }
def fnExactRunsOfRow : OpenClaim := { program := "ytodoebamkijalaa", sum := "e157630f4e985e6806c849a8b5aeb7a60fadaf7fc6e357002fe589cdf078946e", func := "loop.example/g03228/laws.FnExactRunsOf", spec := "fnExactRunsOf", apart := false }
def FnExactRunsOfSaid : Prop := fnExactRunsOfRow.holds Try.pinned (OpenSpec.ofChange fnExactRunsOfSpec)

/-- ITS FALSE NEIGHBOUR: 'it returns false'. Refute it at one input. -/
def fnExactRunsOfWrong : ChangeSpec := { name := "fnExactRunsOf", fn := fun _ => fun
  | [d] => { results := [.lit (.bool false)], args := [d] }
  | _ => none }
def FnExactRunsOfWrongFalsely : Prop := fnExactRunsOfRow.holds Try.pinned (OpenSpec.ofChange fnExactRunsOfWrong)

/-- 'laws.FnLevels': WHATEVER THE INPUT: true; the input reads as it did. -/
def fnLevelsSpec : ChangeSpec := { name := "fnLevels", fn := fun _ => fun
  | [d] => { results := [.lit (.bool true)], args := [d] }
  | _ => none }
def fnLevelsRow : OpenClaim := { program := "ytodoebamkijalaa", sum := "e157630f4e985e6806c849a8b5aeb7a60fadaf7fc6e357002fe589cdf078946e", func := "loop.example/g03228/laws.FnLevels", spec := "fnLevels", apart := false }
def FnLevelsSaid : Prop := fnLevelsRow.holds Try.pinned (OpenSpec.ofChange fnLevelsSpec)

/-- ITS FALSE NEIGHBOUR: 'it returns false'. Refute it at one input. -/
def fnLevelsWrong : ChangeSpec := { name := "fnLevels", fn := fun _ => fun
  | [d] => { results := [.lit (.bool false)], args := [d] }
  | _ => none }
def FnLevelsWrongFalsely : Prop := fnLevelsRow.holds Try.pinned (OpenSpec.ofChange fnLevelsWrong)

/-- 'laws.FnExactBitsOf': WHATEVER THE INPUT: true; the input reads as it did. -/
def fnExactBitsOfSpec : ChangeSpec := { name := "fnExactBitsOf", fn := fun _ => fun
  | [d1, d2] => { results := [.lit (.bool true)], args := [d1, d2] }
  | _ => none }
def fnExactBitsOfRow : OpenClaim := { program := "ytodoebamkijalaa", sum := "e157630f4e985e6806c849a8b5aeb7a60fadaf7fc6e357002fe589cdf078946e", func := "loop.example/g03228/laws.FnExactBitsOf", spec := "fnExactBitsOf", apart := false }
def FnExactBitsOfSaid : Prop := fnExactBitsOfRow.holds Try.pinned (OpenSpec.ofChange fnExactBitsOfSpec)

/-- ITS FALSE NEIGHBOUR: 'it returns false'. Refute it at one input. -/
def fnExactBitsOfWrong : ChangeSpec := { name := "fnExactBitsOf", fn := fun _ => fun
  | [d1, d2] => { results := [.lit (.bool false)], args := [d1, d2] }
  | _ => none }
def FnExactBitsOfWrongFalsely : Prop := fnExactBitsOfRow.holds Try.pinned (OpenSpec.ofChange fnExactBitsOfWrong)

/-- 'laws.FnExactQuantiseSequence': WHATEVER THE INPUT: true; the input reads as it did. -/
def fnExactQuantiseSequenceSpec : ChangeSpec := { name := "fnExactQuantiseSequence", fn := fun _ => fun
  | [d1, d2] => { results := [.lit (.bool true)], args := [d1, d2] }
  | _ => none }
def fnExactQuantiseSequenceRow : OpenClaim := { program := "ytodoebamkijalaa", sum := "e157630f4e985e6806c849a8b5aeb7a60fadaf7fc6e357002fe589cdf078946e", func := "loop.example/g03228/laws.FnExactQuantiseSequence", spec := "fnExactQuantiseSequence", apart := false }
def FnExactQuantiseSequenceSaid : Prop := fnExactQuantiseSequenceRow.holds Try.pinned (OpenSpec.ofChange fnExactQuantiseSequenceSpec)

/-- ITS FALSE NEIGHBOUR: 'it returns false'. Refute it at one input. -/
def fnExactQuantiseSequenceWrong : ChangeSpec := { name := "fnExactQuantiseSequence", fn := fun _ => fun
  | [d1, d2] => { results := [.lit (.bool false)], args := [d1, d2] }
  | _ => none }
def FnExactQuantiseSequenceWrongFalsely : Prop := fnExactQuantiseSequenceRow.holds Try.pinned (OpenSpec.ofChange fnExactQuantiseSequenceWrong)

/- THE SECOND FORM. 'bulk': how many values and letters a reading holds, each counted each time it is reached (what is shared counts as often as it is met; a slice's spare places count too). A statement '..UptoSaid' is the law's where the arguments, and the package variables that the reading takes, are together of bulk at most 1048576: NARROWER than '..Said'. Prove '..Said' where nothing that the law and all that it calls make is longer than what came in: it says more and counts as full. Else prove '..UptoSaid'. A law counts once. -/
mutual
def uptoBulk {H : Type} : DataW H → Nat
  | .lit (.string bytes) => bytes.length + 1
  | .lit _ => 1
  | .nil => 1
  | .ptr d => uptoBulk d + 1
  | .slice elems spare => uptoBulkAll elems + uptoBulkAll spare + 1
  | .agg parts => uptoBulkAll parts + 1
  | .iface _ d => uptoBulk d + 1
  | .map entries => uptoBulkEntries entries + 1
  | .held _ => 1
def uptoBulkAll {H : Type} : List (DataW H) → Nat
  | [] => 0
  | d :: r => uptoBulk d + uptoBulkAll r
def uptoBulkEntries {H : Type} : List (Lit × DataW H) → Nat
  | [] => 0
  | x :: r => uptoBulkEntry x + uptoBulkEntries r
def uptoBulkEntry {H : Type} : Lit × DataW H → Nat
  | (.string bytes, d) => bytes.length + uptoBulk d + 1
  | (_, d) => uptoBulk d + 1
 end
def uptoSmall : (H : Type) → List (DataW H) → Bool := fun _ ds => decide (uptoBulkAll ds ≤ 1048576)
def OpenSpec.upto (s : _root_.Go.ChangeSpec) : _root_.Go.OpenSpec := { _root_.Go.OpenSpec.ofChange s with cond := some uptoSmall }

/-- 'laws.FnExactMechanicalWord', WHERE WHAT IT READS IS OF BULK AT MOST 1048576: true; the input reads as it did. -/
def fnExactMechanicalWordUptoRow : OpenClaim := { program := "ytodoebamkijalaa", sum := "e157630f4e985e6806c849a8b5aeb7a60fadaf7fc6e357002fe589cdf078946e", func := "loop.example/g03228/laws.FnExactMechanicalWord", spec := "fnExactMechanicalWord", apart := false, narrowed := true }
def FnExactMechanicalWordUptoSaid : Prop := fnExactMechanicalWordUptoRow.holds Try.pinned (OpenSpec.upto fnExactMechanicalWordSpec)

/-- 'laws.FnExactChristoffelWord', WHERE WHAT IT READS IS OF BULK AT MOST 1048576: true; the input reads as it did. -/
def fnExactChristoffelWordUptoRow : OpenClaim := { program := "ytodoebamkijalaa", sum := "e157630f4e985e6806c849a8b5aeb7a60fadaf7fc6e357002fe589cdf078946e", func := "loop.example/g03228/laws.FnExactChristoffelWord", spec := "fnExactChristoffelWord", apart := false, narrowed := true }
def FnExactChristoffelWordUptoSaid : Prop := fnExactChristoffelWordUptoRow.holds Try.pinned (OpenSpec.upto fnExactChristoffelWordSpec)

/-- 'laws.FnExactComplementOf', WHERE WHAT IT READS IS OF BULK AT MOST 1048576: true; the input reads as it did. -/
def fnExactComplementOfUptoRow : OpenClaim := { program := "ytodoebamkijalaa", sum := "e157630f4e985e6806c849a8b5aeb7a60fadaf7fc6e357002fe589cdf078946e", func := "loop.example/g03228/laws.FnExactComplementOf", spec := "fnExactComplementOf", apart := false, narrowed := true }
def FnExactComplementOfUptoSaid : Prop := fnExactComplementOfUptoRow.holds Try.pinned (OpenSpec.upto fnExactComplementOfSpec)

/-- 'laws.FnExactPartSums', WHERE WHAT IT READS IS OF BULK AT MOST 1048576: true; the input reads as it did. -/
def fnExactPartSumsUptoRow : OpenClaim := { program := "ytodoebamkijalaa", sum := "e157630f4e985e6806c849a8b5aeb7a60fadaf7fc6e357002fe589cdf078946e", func := "loop.example/g03228/laws.FnExactPartSums", spec := "fnExactPartSums", apart := false, narrowed := true }
def FnExactPartSumsUptoSaid : Prop := fnExactPartSumsUptoRow.holds Try.pinned (OpenSpec.upto fnExactPartSumsSpec)

/-- 'laws.FnExactInterleavedOf', WHERE WHAT IT READS IS OF BULK AT MOST 1048576: true; the input reads as it did. -/
def fnExactInterleavedOfUptoRow : OpenClaim := { program := "ytodoebamkijalaa", sum := "e157630f4e985e6806c849a8b5aeb7a60fadaf7fc6e357002fe589cdf078946e", func := "loop.example/g03228/laws.FnExactInterleavedOf", spec := "fnExactInterleavedOf", apart := false, narrowed := true }
def FnExactInterleavedOfUptoSaid : Prop := fnExactInterleavedOfUptoRow.holds Try.pinned (OpenSpec.upto fnExactInterleavedOfSpec)

/-- 'laws.FnExactRunsOf', WHERE WHAT IT READS IS OF BULK AT MOST 1048576: true; the input reads as it did. -/
def fnExactRunsOfUptoRow : OpenClaim := { program := "ytodoebamkijalaa", sum := "e157630f4e985e6806c849a8b5aeb7a60fadaf7fc6e357002fe589cdf078946e", func := "loop.example/g03228/laws.FnExactRunsOf", spec := "fnExactRunsOf", apart := false, narrowed := true }
def FnExactRunsOfUptoSaid : Prop := fnExactRunsOfUptoRow.holds Try.pinned (OpenSpec.upto fnExactRunsOfSpec)

/-- 'laws.FnLevels', WHERE WHAT IT READS IS OF BULK AT MOST 1048576: true; the input reads as it did. -/
def fnLevelsUptoRow : OpenClaim := { program := "ytodoebamkijalaa", sum := "e157630f4e985e6806c849a8b5aeb7a60fadaf7fc6e357002fe589cdf078946e", func := "loop.example/g03228/laws.FnLevels", spec := "fnLevels", apart := false, narrowed := true }
def FnLevelsUptoSaid : Prop := fnLevelsUptoRow.holds Try.pinned (OpenSpec.upto fnLevelsSpec)

/-- 'laws.FnExactBitsOf', WHERE WHAT IT READS IS OF BULK AT MOST 1048576: true; the input reads as it did. -/
def fnExactBitsOfUptoRow : OpenClaim := { program := "ytodoebamkijalaa", sum := "e157630f4e985e6806c849a8b5aeb7a60fadaf7fc6e357002fe589cdf078946e", func := "loop.example/g03228/laws.FnExactBitsOf", spec := "fnExactBitsOf", apart := false, narrowed := true }
def FnExactBitsOfUptoSaid : Prop := fnExactBitsOfUptoRow.holds Try.pinned (OpenSpec.upto fnExactBitsOfSpec)

/-- 'laws.FnExactQuantiseSequence', WHERE WHAT IT READS IS OF BULK AT MOST 1048576: true; the input reads as it did. -/
def fnExactQuantiseSequenceUptoRow : OpenClaim := { program := "ytodoebamkijalaa", sum := "e157630f4e985e6806c849a8b5aeb7a60fadaf7fc6e357002fe589cdf078946e", func := "loop.example/g03228/laws.FnExactQuantiseSequence", spec := "fnExactQuantiseSequence", apart := false, narrowed := true }
def FnExactQuantiseSequenceUptoSaid : Prop := fnExactQuantiseSequenceUptoRow.holds Try.pinned (OpenSpec.upto fnExactQuantiseSequenceSpec)

end Rows
end Go.Proofs.Ytodoebamkijalaa
