/- The law FnSteps returns true for every input, and leaves its arguments as they were: the given statement, out of the walk. -/
import Derived.Test.YtmgjbldnohkodaaFnStepsW
import Derived.Test.YtmgjbldnohkodaaFrame
namespace Go.Proofs.Ytmgjbldnohkodaa.fnSteps
open Go.ChangeShapes Go.WideShapes Go.ChangeAt Go.RowKit
set_option maxRecDepth 100000 in
theorem lifted (os : Os) (started : os.Started) (H : Type) (enc : TypeId × Value → H) :
    ReturnsInHanded {} Try.checked os 6 .any (Rows.fnStepsSpec.pre6 enc Try.prog Try.f6 Rows.fnStepsRow.domain false) (Rows.fnStepsSpec.post enc Try.prog Try.f6 false true false false) := by
  refine returnsInHanded_of_change (C := Try.checked) own started (by kernel_rfl) Try.func6
    (ChangeSpec.witness6 (enc := enc) (C := Try.checked) false ⟨#[], #[.slice none 0 0], []⟩ 8 (by kernel_rfl) (by kernel_rfl) (by kernel_rfl) (by kernel_rfl)) ?_
  intro W base args ds gs before hval0 hW hcnd _
  have hval : ∀ (j : Nat) t v, Try.f6.params[j]? = some t → args[j]? = some v → Value.okWide Try.prog W .any base t v := hval0
  have hW' := hW
  obtain ⟨p, q, hA0, hV, rfl, hfz, hnd⟩ := hW
  have hA : DataW.TrodAll enc Try.prog W 0 (fun _ => true) true Try.f6.params.toList args.toList ds p := hA0
  rw [Try.params6] at hA hval
  obtain ⟨v0, vs0, d0, ds0, p0, q0, hargs, rfl, rfl, h0, r0⟩ := trodAll_cons hA
  obtain ⟨rfl, rfl, rfl⟩ := trodAll_nil r0
  obtain rfl : args = #[v0] := by cases args; simp_all
  obtain ⟨rfl, rfl⟩ := trodVars_none hV
  have k0 := h0
  have lt0 : ∀ x ∈ p0, x.block < W.heap.size := by obtain ⟨m, hm⟩ := k0; exact DataW.trod_lt m _ _ _ hm
  obtain ⟨a0, n0, c0, z0, rfl, w0⟩ := opened_bytes (hval 0 22 v0 rfl rfl) h0
  clear hA0 hval0
  refine (fnSteps_walk a0 n0 c0 z0 W w0).mono fun e W' ⟨he, bel⟩ => ?_
  subst he
  exact ⟨_, rfl, _, _, _, [], _, [], hW', trodAll_mk1 (shut_bool Try.underlying4 _), (trodAll_cons_mk (Below.trod laidOut (by kernel_rfl) (of_decide_eq_true (by kernel_rfl)) k0 bel lt0) trodAll_mk0), rfl, bel.frame _, fun h => by cases h⟩

theorem closed : joinedFacts Try.prog 6 Try.f6 Rows.fnStepsSpec Rows.fnStepsRow = true := by
  unfold joinedFacts
  simp only [Bool.and_eq_true]
  repeat' apply And.intro
  all_goals (first | with_reducible exact laidOut | with_reducible exact p_mapsRowed | with_reducible exact p_stops | with_reducible exact p_knobs | with_reducible exact p_heard | with_reducible exact p_enter | (rw [p_lifts]; as_aux_lemma => kernel_rfl) | (rw [p_make]; as_aux_lemma => kernel_rfl) | (as_aux_lemma => kernel_rfl))
theorem named : Try.prog.funcNamed Rows.fnStepsRow.func = some 6 := by kernel_rfl
theorem plainly : Try.f6.isInstance Try.prog Rows.fnStepsRow.origin Rows.fnStepsRow.targs := of_decide_eq_true (by kernel_rfl)
theorem bare : Try.f6.isWrapper Try.prog Rows.fnStepsRow.wrapper Rows.fnStepsRow.mainSum := by
  unfold Func.isWrapper; first | (rw [if_pos (by decide +kernel)]; kernel_rfl) | (rw [if_neg (by decide +kernel)]; exact ⟨rfl, rfl⟩)
theorem over : Rows.fnStepsRow.holds Try.pinned (OpenSpec.ofChange Rows.fnStepsSpec) :=
  OpenClaim.holds_of_wide 6 Try.f6 rfl rfl rfl rfl rfl rfl rfl ⟨rfl, rfl, rfl, rfl, rfl⟩ rfl rfl rfl rfl rfl named Try.func6 closed plainly bare
    (fun os started H enc _ => lifted os started H enc)

theorem proved : Rows.FnStepsSaid := over
#print axioms proved
end Go.Proofs.Ytmgjbldnohkodaa.fnSteps
