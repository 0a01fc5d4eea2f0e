/- The law FnQuiet returns true for every input, and leaves its arguments as they were: the given statement, out of the walk. -/
import Derived.Test.YtmgjbldnohkodaaFnQuietW
import Derived.Test.YtmgjbldnohkodaaFrame
namespace Go.Proofs.Ytmgjbldnohkodaa.fnQuiet
open Go.ChangeShapes Go.WideShapes Go.ChangeAt Go.RowKit
set_option maxRecDepth 100000 in
theorem lifted (os : Os) (started : os.Started) (H : Type) (enc : TypeId × Value → H) :
    ReturnsInHanded {} Try.checked os 3 .any (Rows.fnQuietSpec.pre6 enc Try.prog Try.f3 Rows.fnQuietRow.domain false) (Rows.fnQuietSpec.post enc Try.prog Try.f3 false true false false) := by
  refine returnsInHanded_of_change (C := Try.checked) own started (by kernel_rfl) Try.func3
    (ChangeSpec.witness6 (enc := enc) (C := Try.checked) false ⟨#[], #[.slice none 0 0], []⟩ 8 (by kernel_rfl) (by kernel_rfl) (by kernel_rfl) (by kernel_rfl)) ?_
  intro W base args ds gs before hval0 hW hcnd _
  have hval : ∀ (j : Nat) t v, Try.f3.params[j]? = some t → args[j]? = some v → Value.okWide Try.prog W .any base t v := hval0
  have hW' := hW
  obtain ⟨p, q, hA0, hV, rfl, hfz, hnd⟩ := hW
  have hA : DataW.TrodAll enc Try.prog W 0 (fun _ => true) true Try.f3.params.toList args.toList ds p := hA0
  rw [Try.params3] at hA hval
  obtain ⟨v0, vs0, d0, ds0, p0, q0, hargs, rfl, rfl, h0, r0⟩ := trodAll_cons hA
  obtain ⟨rfl, rfl, rfl⟩ := trodAll_nil r0
  obtain rfl : args = #[v0] := by cases args; simp_all
  obtain ⟨rfl, rfl⟩ := trodVars_none hV
  have k0 := h0
  have lt0 : ∀ x ∈ p0, x.block < W.heap.size := by obtain ⟨m, hm⟩ := k0; exact DataW.trod_lt m _ _ _ hm
  obtain ⟨a0, n0, c0, z0, rfl, w0⟩ := opened_bytes (hval 0 22 v0 rfl rfl) h0
  clear hA0 hval0
  refine (fnQuiet_walk a0 n0 c0 z0 W w0).mono fun e W' ⟨he, bel⟩ => ?_
  subst he
  exact ⟨_, rfl, _, _, _, [], _, [], hW', trodAll_mk1 (shut_bool Try.underlying4 _), (trodAll_cons_mk (Below.trod laidOut (by kernel_rfl) (of_decide_eq_true (by kernel_rfl)) k0 bel lt0) trodAll_mk0), rfl, bel.frame _, fun h => by cases h⟩

theorem closed : joinedFacts Try.prog 3 Try.f3 Rows.fnQuietSpec Rows.fnQuietRow = true := by
  unfold joinedFacts
  simp only [Bool.and_eq_true]
  repeat' apply And.intro
  all_goals (first | with_reducible exact laidOut | with_reducible exact p_mapsRowed | with_reducible exact p_stops | with_reducible exact p_knobs | with_reducible exact p_heard | with_reducible exact p_enter | (rw [p_lifts]; as_aux_lemma => kernel_rfl) | (rw [p_make]; as_aux_lemma => kernel_rfl) | (as_aux_lemma => kernel_rfl))
theorem named : Try.prog.funcNamed Rows.fnQuietRow.func = some 3 := by kernel_rfl
theorem plainly : Try.f3.isInstance Try.prog Rows.fnQuietRow.origin Rows.fnQuietRow.targs := of_decide_eq_true (by kernel_rfl)
theorem bare : Try.f3.isWrapper Try.prog Rows.fnQuietRow.wrapper Rows.fnQuietRow.mainSum := by
  unfold Func.isWrapper; first | (rw [if_pos (by decide +kernel)]; kernel_rfl) | (rw [if_neg (by decide +kernel)]; exact ⟨rfl, rfl⟩)
theorem over : Rows.fnQuietRow.holds Try.pinned (OpenSpec.ofChange Rows.fnQuietSpec) :=
  OpenClaim.holds_of_wide 3 Try.f3 rfl rfl rfl rfl rfl rfl rfl ⟨rfl, rfl, rfl, rfl, rfl⟩ rfl rfl rfl rfl rfl named Try.func3 closed plainly bare
    (fun os started H enc _ => lifted os started H enc)

theorem proved : Rows.FnQuietSaid := over
#print axioms proved
end Go.Proofs.Ytmgjbldnohkodaa.fnQuiet
