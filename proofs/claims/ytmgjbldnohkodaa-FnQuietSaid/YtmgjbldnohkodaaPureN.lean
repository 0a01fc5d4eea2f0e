/- Plain laws of runs: shaped errors, inputs given back, safe inputs, runs that are cut, scaled, or fed by nothing; steps. Nothing of the program is named here. -/
import Derived.Test.YtmgjbldnohkodaaPureR
import Derived.Test.YtmgjbldnohkodaaPureF
import Derived.Test.YtmgjbldnohkodaaPureL
namespace Go.Proofs.Ytmgjbldnohkodaa
set_option linter.unusedVariables false

/-- What a run is that succeeds. -/
theorem run_open {l s : Int} {cs ms xs : List Int} (hB : runB l s cs ms xs = true) :
    ∃ r, runUpto l s cs ms xs xs.length = some r ∧ runY l s cs ms xs = r.ys ∧ runE l s cs ms xs = r.es ∧ runM l s cs ms xs = r.ms ∧ isMem l s cs ms = true ∧ isSeq xs = true :=
  ⟨runR l s cs ms xs, (runB_true hB).2.2, by unfold runY; exact seqOr_yes hB, by unfold runE; exact seqOr_yes hB, by unfold runM; exact seqOr_yes hB, (runB_true hB).1, (runB_true hB).2.1⟩
theorem run_seqs {l s : Int} {cs ms xs : List Int} {r : RunS} {k : Nat} (h1 : isMem l s cs ms = true) (hk : k ≤ 1000) (h : runUpto l s cs ms xs k = some r) : isSeq r.ys = true ∧ isSeq r.es = true := by
  obtain ⟨a, b, _, e4, e5⟩ := run_ok h1 _ _ h
  exact ⟨isSeq_mk (by omega) (fun x hx => by have := e5 x hx; omega), isSeq_mk (by omega) (fun x hx => sampleB_true (e4 x hx))⟩

theorem shaped_facts {l s : Int} {cs xs : List Int} (hm : isMod l s cs = true) (hc : ∀ i, -6 ≤ cs.getD i 0 ∧ cs.getD i 0 ≤ 6) (hn : xs.length ≤ 40) (hx : Within xs 1000)
    (hB : runB l s cs (plainV l s cs) xs = true) :
    (runY l s cs (plainV l s cs) xs).length = xs.length ∧ (runE l s cs (plainV l s cs) xs).length = xs.length ∧
    (mixB (runY l s cs (plainV l s cs) xs) xs (-1) = true ∧ mixV (runY l s cs (plainV l s cs) xs) xs (-1) = mixL (runY l s cs (plainV l s cs) xs) xs (-1)) ∧
    (cvB (runE l s cs (plainV l s cs) xs) (shapeV l s cs) = true ∧ cvV (runE l s cs (plainV l s cs) xs) (shapeV l s cs) = mixL (runY l s cs (plainV l s cs) xs) xs (-1)) ∧
    (mixL (runY l s cs (plainV l s cs) xs) xs (-1)).length = xs.length := by
  have hP : plainV l s cs = List.replicate cs.length 0 := by unfold plainV; exact seqOr_yes hm
  have hS : shapeV l s cs = 1 :: cs := by unfold shapeV; exact seqOr_yes hm
  rw [hP] at hB ⊢
  obtain ⟨r, b3, hY, hE, _, b1, b2⟩ := run_open hB
  rw [hY, hE, hS]
  obtain ⟨g1, g2, g3⟩ := run_shaped b3 rfl
  obtain ⟨_, _, _, e4, e5⟩ := run_ok b1 _ _ b3
  have wY : Within r.ys 17179869184 := fun y hy => e5 y hy
  have bY := fun i => wY.at_ (by omega) i
  have sE := (run_seqs b1 (by omega) b3).2
  have sY := (run_seqs b1 (by omega) b3).1
  have bx := fun i => hx.at_ (by omega) i
  have bV := fun i => mixL_bd (k := -1) bY bx (.inr rfl) i
  have sV : isSeq (mixL r.ys xs (-1)) = true := seq_of (by rw [mixL_length]; omega) (by omega) bV
  have m1 : mixB r.ys xs (-1) = true := by rw [mixB_mk sY b2 g1]; exact sV
  have hco : coAll (1 :: cs) = true := coAll_of (M := 6) (by have := isMod_true hm; rw [List.length_cons]; omega) (by omega) (fun i => by
    cases i with
    | zero => simp
    | succ i => rw [List.getD_cons_succ]; exact hc i)
  have c1 : cvB r.es (1 :: cs) = true := by rw [cvB_mk sE hco, ← g3]; exact sV
  exact ⟨g1, g2, ⟨m1, mixV_yes m1⟩, ⟨c1, by unfold cvV; rw [seqOr_yes c1, g3]⟩, by rw [mixL_length]; exact g1⟩

theorem inMs_at (ms es : List Int) (hN : 1 ≤ ms.length) : ∀ i, (inMs ms es i).length = ms.length ∧ ∀ j, j < ms.length → (inMs ms es i).getD j 0 = if j < i then es.getD (i - 1 - j) 0 else ms.getD (j - i) 0 := by
  intro i
  induction i with
  | zero => exact ⟨rfl, fun j hj => by simp [inMs]⟩
  | succ i ih =>
    refine ⟨by unfold inMs; rw [push_length _ (by omega)]; exact ih.1, fun j hj => ?_⟩
    unfold inMs push
    cases j with
    | zero => simp
    | succ j =>
      have h3 := ih.2 j (by omega)
      rw [List.getD_cons_succ]
      have h4 : ((inMs ms es i).take ((inMs ms es i).length - 1)).getD j 0 = (inMs ms es i).getD j 0 := by
        simp only [List.getD]
        rw [List.getElem?_take_of_lt (by omega)]
      rw [h4, h3]
      by_cases h : j < i
      · rw [if_pos h, if_pos (by omega), show i + 1 - 1 - (j + 1) = i - 1 - j from by omega]
      · rw [if_neg h, if_neg (by omega), show j + 1 - (i + 1) = j - i from by omega]
theorem input_facts {l s : Int} {cs ms xs : List Int} (hB : runB l s cs ms xs = true) :
    (runY l s cs ms xs).length = xs.length ∧ (runE l s cs ms xs).length = xs.length ∧ (runM l s cs ms xs).length = ms.length ∧
    (inB l s cs ms (runY l s cs ms xs) (runE l s cs ms xs) = true ∧ inV l s cs ms (runY l s cs ms xs) (runE l s cs ms xs) = xs) ∧
    ∀ i, i < ms.length → (runM l s cs ms xs).getD i 0 = if i < xs.length then (runE l s cs ms xs).getD (xs.length - 1 - i) 0 else ms.getD (i - xs.length) 0 := by
  obtain ⟨r, b3, hY, hE, hM, b1, b2⟩ := run_open hB
  rw [hY, hE, hM]
  obtain ⟨g1, g2, g3, g4⟩ := run_rel _ r b3
  have h5 := isMem_true b1
  have h6 := isMod_true h5.1
  obtain ⟨sY, sE⟩ := run_seqs b1 (isSeq_len b2) b3
  have hL : inL cs ms r.ys r.es = xs := by
    refine list_ext (by unfold inL; rw [tab_length, g1]) (fun i hi => ?_)
    unfold inL at hi ⊢
    rw [tab_length, g1] at hi
    rw [tab_at _ _ _ (by omega)]
    unfold inF
    rw [g4 i hi]
    omega
  have i1 : inB l s cs ms r.ys r.es = true := by rw [inB_mk b1 sY sE (by omega), hL]; exact b2
  have hat := inMs_at ms r.es (by omega) xs.length
  refine ⟨g1, g2, by rw [g3]; exact hat.1, ⟨i1, by unfold inV; rw [seqOr_yes i1, hL]⟩, fun i hi => ?_⟩
  rw [g3]
  exact hat.2 i hi

theorem fed_abs {cs ms : List Int} {s : Int} (hm : ∀ k, -s ≤ ms.getD k 0 ∧ ms.getD k 0 ≤ s) (k : Nat) : -(s * absUpto cs k) ≤ fedUpto cs ms k ∧ fedUpto cs ms k ≤ s * absUpto cs k := by
  induction k with
  | zero => simp [fedUpto, absUpto]
  | succ k ih =>
    have h := prod_bd (a := cs.getD k 0) (b := ms.getD k 0) (A := max (cs.getD k 0) (-(cs.getD k 0))) (B := s) (by omega) (hm k)
    rw [Int.mul_comm _ s] at h
    rw [fedUpto_succ, absUpto_succ, Int.mul_add]
    omega
theorem push_bd {ms : List Int} {s e : Int} (hs : 0 ≤ s) (hm : ∀ k, -s ≤ ms.getD k 0 ∧ ms.getD k 0 ≤ s) (he : -s ≤ e ∧ e ≤ s) (k : Nat) : -s ≤ (push ms e).getD k 0 ∧ (push ms e).getD k 0 ≤ s := by
  unfold push
  cases k with
  | zero => simpa using he
  | succ k =>
    rw [List.getD_cons_succ]
    by_cases hk : k < ms.length - 1
    · have h4 : (ms.take (ms.length - 1)).getD k 0 = ms.getD k 0 := by
        simp only [List.getD]
        rw [List.getElem?_take_of_lt hk]
      rw [h4]; exact hm k
    · rw [getD_out _ _ (by rw [List.length_take]; omega)]; omega
theorem getD_snoc_last (us : List Int) (u : Int) {k : Nat} (h : us.length = k) : (us ++ [u]).getD k 0 = u := by
  subst h; simp [List.getD]
theorem getD_snoc_lt (us : List Int) (u : Int) {i : Nat} (h : i < us.length) : (us ++ [u]).getD i 0 = us.getD i 0 := by
  simp [List.getD, List.getElem?_append_left h]
theorem safe_split0 (s l a : Int) : s * (l - a) = l * s - s * a := by rw [Int.mul_sub, Int.mul_comm s l]
theorem run_safe {l s : Int} {cs ms xs : List Int} (hm : isMem l s cs ms = true) (hms : ∀ i, -s ≤ ms.getD i 0 ∧ ms.getD i 0 ≤ s)
    (hx : ∀ i, -(s * (l - absUpto cs cs.length)) ≤ xs.getD i 0 ∧ xs.getD i 0 ≤ s * (l - absUpto cs cs.length)) : ∀ k, ∃ r, runUpto l s cs ms xs k = some r ∧ (∀ i, -s ≤ r.ms.getD i 0 ∧ r.ms.getD i 0 ≤ s) ∧
      ∀ i, i < k → (-s ≤ r.es.getD i 0 ∧ r.es.getD i 0 ≤ s) ∧ (-(l * s) ≤ r.ys.getD i 0 - r.es.getD i 0 ∧ r.ys.getD i 0 - r.es.getD i 0 ≤ l * s) ∧ (-(l * s) ≤ r.ys.getD i 0 ∧ r.ys.getD i 0 ≤ l * s) := by
  have hq := (isMod_true (isMem_true hm).1).1
  have hs := isQ_true hq
  intro k
  induction k with
  | zero => exact ⟨⟨[], [], ms⟩, rfl, hms, fun i h => absurd h (by omega)⟩
  | succ k ih =>
    obtain ⟨r, h, hr, hi⟩ := ih
    obtain ⟨a, b, c, _, _⟩ := run_ok hm _ _ h
    have hf := fed_abs (cs := cs) hr cs.length
    have hxk := hx k
    have hv : -(l * s) ≤ stV cs r.ms (xs.getD k 0) ∧ stV cs r.ms (xs.getD k 0) ≤ l * s := by
      unfold stV fed
      rw [safe_split0] at hxk
      omega
    have hmiss := lev_miss hq hv.2 hv.1
    have hix := idx_is (stV cs r.ms (xs.getD k 0)) hq
    have hlr := lev_rng hq hix.1 hix.2.1
    have he : -s ≤ stE l s cs r.ms (xs.getD k 0) ∧ stE l s cs r.ms (xs.getD k 0) ≤ s := by unfold stE stY; exact hmiss
    have hsm : sampleB (stE l s cs r.ms (xs.getD k 0)) = true := sampleB_mk (by omega) (by omega)
    refine ⟨_, run_next h hsm, push_bd (by omega) hr he, fun i hik => ?_⟩
    show (-s ≤ (r.es ++ [_]).getD i 0 ∧ _) ∧ (_ ≤ (r.ys ++ [_]).getD i 0 - (r.es ++ [_]).getD i 0 ∧ _) ∧ (_ ≤ (r.ys ++ [_]).getD i 0 ∧ _)
    by_cases e : i = k
    · subst e
      rw [getD_snoc_last _ _ a, getD_snoc_last _ _ b]
      refine ⟨he, ?_, by unfold stY; exact hlr⟩
      unfold stE
      omega
    · rw [getD_snoc_lt _ _ (by omega), getD_snoc_lt _ _ (by omega)]
      exact hi i (by omega)
theorem bounded_facts {l s S : Int} {cs ms xs : List Int} (hm : isMod l s cs = true) (hS : safeV l s cs = S) (hS0 : 0 ≤ S) (hl : ms.length = cs.length) (hms : Within ms s) (hx : Within xs S) (hn : xs.length ≤ 40) :
    runB l s cs ms xs = true ∧ (runY l s cs ms xs).length = xs.length ∧ (runE l s cs ms xs).length = xs.length ∧
    ∀ i, i < xs.length → (-s ≤ (runE l s cs ms xs).getD i 0 ∧ (runE l s cs ms xs).getD i 0 ≤ s) ∧ over l s ((runY l s cs ms xs).getD i 0 - (runE l s cs ms xs).getD i 0) = false ∧
      (-(rng l s) ≤ (runY l s cs ms xs).getD i 0 ∧ (runY l s cs ms xs).getD i 0 ≤ rng l s) := by
  have h4 := isMod_true hm
  have hq := h4.1
  have hs := isQ_true hq
  have hr := rng_bd hq
  have ha := absUpto_bd (fun k => isMod_at hm k) cs.length
  rw [safeV_yes hm] at hS
  have hT : s * (l - absUpto cs cs.length) = S := by omega
  have hsa : 0 ≤ s * absUpto cs cs.length := Int.mul_nonneg (by omega) ha.1
  have hS2 : S ≤ l * s := by rw [← hT, safe_split0]; omega
  have hseq : isSeq xs = true := hx.seq (by omega) (by omega)
  have hmem : isMem l s cs ms = true := by rw [isMem_mk hm hl]; exact hms.seq (by omega) (by omega)
  obtain ⟨r, h, _, hi⟩ := run_safe (xs := xs) hmem (fun i => hms.at_ (by omega) i) (fun i => by rw [hT]; exact hx.at_ hS0 i) xs.length
  obtain ⟨a, b, _⟩ := run_ok hmem _ _ h
  obtain ⟨hB, hR⟩ := runB_yes hmem hseq h
  obtain ⟨r2, b3, hY, hE, _, _, _⟩ := run_open hB
  rw [h] at b3
  injection b3 with b3
  subst b3
  rw [hY, hE, rng_yes hq]
  refine ⟨hB, a, b, fun i hi2 => ?_⟩
  obtain ⟨p, q, t⟩ := hi i hi2
  refine ⟨p, ?_, t⟩
  simp only [over, hq, Bool.true_and, Bool.or_eq_false_iff, decide_eq_false_iff_not]
  omega

theorem run_congr {l s : Int} {cs ms xs zs : List Int} : ∀ k, (∀ i, i < k → xs.getD i 0 = zs.getD i 0) → runUpto l s cs ms xs k = runUpto l s cs ms zs k := by
  intro k
  induction k with
  | zero => intro _; rfl
  | succ k ih =>
    intro h
    unfold runUpto
    rw [ih (fun i hi => h i (by omega)), h k (by omega)]
theorem run_app {l s : Int} {cs ms us vs : List Int} {r : RunS} (h : runUpto l s cs ms us us.length = some r) : ∀ k, runUpto l s cs ms (us ++ vs) (us.length + k) = (runUpto l s cs r.ms vs k).map (fun q => ⟨r.ys ++ q.ys, r.es ++ q.es, q.ms⟩) := by
  intro k
  induction k with
  | zero =>
    rw [Nat.add_zero, run_congr (zs := us) us.length (fun i hi => by simp [List.getD, List.getElem?_append_left hi]), h]
    simp [runUpto]
  | succ k ih =>
    have hx : (us ++ vs).getD (us.length + k) 0 = vs.getD k 0 := by
      simp only [List.getD]
      rw [List.getElem?_append_right (by omega), Nat.add_sub_cancel_left]
    rw [← Nat.add_assoc, runUpto, ih, hx]
    cases hq : runUpto l s cs r.ms vs k with
    | none => rw [run_none hq 1]; rfl
    | some q =>
      by_cases he : sampleB (stE l s cs q.ms (vs.getD k 0)) = true
      · rw [run_next hq he]
        show (if sampleB (stE l s cs q.ms (vs.getD k 0)) = true then _ else none) = _
        rw [if_pos he, Option.map_some, List.append_assoc, List.append_assoc]
      · rw [run_fail hq (by rw [Bool.not_eq_true] at he; exact he)]
        show (if sampleB (stE l s cs q.ms (vs.getD k 0)) = true then _ else none) = _
        rw [if_neg he]
        rfl
theorem cut_facts {l s : Int} {cs ms us vs : List Int} (hB : runB l s cs ms (us ++ vs) = true) :
    runB l s cs ms us = true ∧ runB l s cs (runM l s cs ms us) vs = true ∧
    runY l s cs ms (us ++ vs) = runY l s cs ms us ++ runY l s cs (runM l s cs ms us) vs ∧ runE l s cs ms (us ++ vs) = runE l s cs ms us ++ runE l s cs (runM l s cs ms us) vs ∧
    runM l s cs ms (us ++ vs) = runM l s cs (runM l s cs ms us) vs := by
  obtain ⟨R, b3, hY, hE, hM, b1, b2⟩ := run_open hB
  have hl := isSeq_len b2
  rw [List.length_append] at hl b3
  have sa : isSeq us = true := isSeq_mk (by omega) (fun x hx => isSeq_mem b2 x (List.mem_append_left _ hx))
  have sb : isSeq vs = true := isSeq_mk (by omega) (fun x hx => isSeq_mem b2 x (List.mem_append_right _ hx))
  cases ha : runUpto l s cs ms us us.length with
  | none =>
    have h0 : runUpto l s cs ms (us ++ vs) us.length = none := by
      rw [run_congr (zs := us) us.length (fun i hi => by simp [List.getD, List.getElem?_append_left hi]), ha]
    rw [run_none h0] at b3
    cases b3
  | some r =>
    obtain ⟨hB1, hR1⟩ := runB_yes b1 sa ha
    obtain ⟨r2, c3, cY, cE, cM, _, _⟩ := run_open hB1
    rw [ha] at c3
    injection c3 with c3
    subst c3
    have hmem := (run_ok b1 _ _ ha).2.2.1
    rw [run_app ha] at b3
    cases hq : runUpto l s cs r.ms vs vs.length with
    | none => rw [hq] at b3; cases b3
    | some q =>
      rw [hq] at b3
      simp only [Option.map_some, Option.some.injEq] at b3
      obtain ⟨hB2, hR2⟩ := runB_yes hmem sb hq
      obtain ⟨q2, d3, dY, dE, dM, _, _⟩ := run_open hB2
      rw [hq] at d3
      injection d3 with d3
      subst d3
      rw [cM, cY, cE, dY, dE, dM, hY, hE, hM, ← b3]
      exact ⟨hB1, hB2, rfl, rfl, rfl⟩
end Go.Proofs.Ytmgjbldnohkodaa
