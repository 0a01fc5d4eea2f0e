/- What FnOrders asks of plain lists. -/
import Derived.Test.YtmgjbldnohkodaaPureR
import Derived.Test.YtmgjbldnohkodaaPureF
import Derived.Test.YtmgjbldnohkodaaMod7
namespace Go.Proofs.Ytmgjbldnohkodaa
set_option linter.unusedVariables false
theorem order_facts {l s : Int} {k : Nat} (hq : isQ l s = true) (h1 : 1 ≤ k) (h4 : k ≤ 4) :
    omL l s (k : Int) = l ∧ omS l s (k : Int) = s ∧ omB l s (k : Int) = true ∧ omC l s (k : Int) = (coefs (k : Int)).drop 1 := by
  have h : omB l s (k : Int) = true := by simp [omB, hq]; omega
  refine ⟨by simp [omL, h], by simp [omS, h], h, by unfold omC; exact seqOr_yes h⟩
theorem orders_facts {l s : Int} {k : Nat} {cs xs : List Int} (hq : isQ l s = true) (h1 : 1 ≤ k) (h4 : k ≤ 4) (hcs : (coefs (k : Int)).drop 1 = cs) (hn : xs.length ≤ 30) (hx : Within xs 256)
    (hB : runB l s cs (plainV l s cs) xs = true) :
    (runY l s cs (plainV l s cs) xs).length = xs.length ∧ (runE l s cs (plainV l s cs) xs).length = xs.length ∧
    (mixB (runY l s cs (plainV l s cs) xs) xs (-1) = true ∧ mixV (runY l s cs (plainV l s cs) xs) xs (-1) = mixL (runY l s cs (plainV l s cs) xs) xs (-1)) ∧
    (diffB (runE l s cs (plainV l s cs) xs) (k : Int) = true ∧ diffV (runE l s cs (plainV l s cs) xs) (k : Int) = mixL (runY l s cs (plainV l s cs) xs) xs (-1)) ∧
    (mixL (runY l s cs (plainV l s cs) xs) xs (-1)).length = xs.length ∧
    (intB (mixL (runY l s cs (plainV l s cs) xs) xs (-1)) (k : Int) = true → intV (mixL (runY l s cs (plainV l s cs) xs) xs (-1)) (k : Int) = runE l s cs (plainV l s cs) xs) := by
  have hM : isMod l s cs = true := by rw [← hcs, om_isMod (by omega) (by omega)]; exact hq
  have hP : plainV l s cs = List.replicate cs.length 0 := by unfold plainV; exact seqOr_yes hM
  rw [hP] at hB ⊢
  have hY : runY l s cs (List.replicate cs.length 0) xs = (runR l s cs (List.replicate cs.length 0) xs).ys := by unfold runY; exact seqOr_yes hB
  have hE : runE l s cs (List.replicate cs.length 0) xs = (runR l s cs (List.replicate cs.length 0) xs).es := by unfold runE; exact seqOr_yes hB
  rw [hY, hE]
  obtain ⟨b1, b2, b3⟩ := runB_true hB
  generalize runR l s cs (List.replicate cs.length 0) xs = r at *
  obtain ⟨g1, g2, g3⟩ := run_shaped b3 rfl
  obtain ⟨_, _, _, e4, e5⟩ := run_ok b1 _ _ b3
  have sE : isSeq r.es = true := isSeq_mk (by omega) (fun x hx => sampleB_true (e4 x hx))
  have wY : Within r.ys 17179869184 := fun y hy => e5 y hy
  have bY := fun i => wY.at_ (by omega) i
  have sY : isSeq r.ys = true := seq_of (by omega) (by omega) bY
  have bx := fun i => hx.at_ (by omega) i
  have bV := fun i => mixL_bd (k := -1) bY bx (.inr rfl) i
  have sV : isSeq (mixL r.ys xs (-1)) = true := seq_of (by rw [mixL_length]; omega) (by omega) bV
  have m1 : mixB r.ys xs (-1) = true := by rw [mixB_mk sY b2 g1]; exact sV
  have hd : mixL r.ys xs (-1) = diffs r.es k := by
    rw [g3, ← hcs, coefs_head h1 (by omega)]
    exact cv_coefs r.es (by omega)
  have ho : ordB (k : Int) = true := by simp [ordB]; omega
  have d1 : diffB r.es (k : Int) = true := by
    unfold diffB
    rw [sE, ho, Int.toNat_natCast, ← hd, sV]
    rfl
  refine ⟨g1, g2, ⟨m1, mixV_yes m1⟩, ⟨d1, by unfold diffV; rw [d1, Int.toNat_natCast, ← hd]; rfl⟩, by rw [mixL_length]; omega, ?_⟩
  intro hi
  have hi0 := hi
  simp only [intB, Bool.and_eq_true, Option.isSome_iff_exists] at hi
  obtain ⟨_, _, us, h2⟩ := hi
  rw [Int.toNat_natCast] at h2
  have h4 : us = r.es := diffs_inj k ((diffs_intg k h2).trans hd)
  unfold intV
  rw [hi0, Int.toNat_natCast, h2]
  exact h4
end Go.Proofs.Ytmgjbldnohkodaa
