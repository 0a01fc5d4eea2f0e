/- Plain laws of runs: runs that are scaled, runs that nothing is fed back to, and the steps of a run. Nothing of the program is named here. -/
import Derived.Test.YtmgjbldnohkodaaPureN
namespace Go.Proofs.Ytmgjbldnohkodaa
set_option linter.unusedVariables false

theorem lev_scale (l s k i : Int) : lev l (s * k) i = lev l s i * k := by unfold lev; rw [Int.mul_assoc, Int.mul_comm k, ← Int.mul_assoc]
theorem idx_scale {l s k : Int} (v : Int) (hq : isQ l s = true) (hq2 : isQ l (s * k) = true) (hk : 0 < k) : idx l (s * k) (v * k) = idx l s v := by
  obtain ⟨a1, a2, a3, a4⟩ := idx_is v hq
  refine (idx_of hq2 ⟨a1, a2, ?_, ?_⟩).symm
  · rcases a3 with a3 | a3
    · exact .inl a3
    · right
      rw [Int.mul_assoc, Int.mul_comm k, ← Int.mul_assoc]
      exact Int.mul_le_mul_of_nonneg_right a3 (by omega)
  · rcases a4 with a4 | a4
    · exact .inl a4
    · right
      rw [Int.mul_assoc, Int.mul_comm k, ← Int.mul_assoc]
      exact Int.mul_lt_mul_of_pos_right a4 hk
theorem scaleL_map (xs : List Int) (k : Int) : scaleL xs k = xs.map (· * k) := by
  apply List.ext_getElem
  · simp [scaleL_length]
  · intro i h1 h2
    rw [scaleL_length] at h1
    rw [← getD_at _ i (by rw [scaleL_length]; exact h1), scaleL_at _ _ _ h1, getD_at xs i h1]
    simp
theorem scaleL_all (xs : List Int) (k : Int) (i : Nat) : (scaleL xs k).getD i 0 = xs.getD i 0 * k := by
  by_cases h : i < xs.length
  · exact scaleL_at xs k i h
  · rw [getD_out _ _ (by rw [scaleL_length]; omega), getD_out _ _ (by omega)]; simp
theorem scaleL_snoc (xs : List Int) (x k : Int) : scaleL (xs ++ [x]) k = scaleL xs k ++ [x * k] := by simp [scaleL_map]
theorem push_scale (ms : List Int) (e k : Int) : push (scaleL ms k) (e * k) = scaleL (push ms e) k := by
  unfold push
  rw [scaleL_map, scaleL_map, List.map_cons, List.length_map, List.map_take]
theorem fedUpto_scale (cs ms : List Int) (k : Int) (i : Nat) : fedUpto cs (scaleL ms k) i = fedUpto cs ms i * k := by
  induction i with
  | zero => simp [fedUpto]
  | succ i ih => rw [fedUpto_succ, fedUpto_succ, ih, scaleL_all, Int.add_mul, Int.mul_assoc]
theorem stV_scale (cs ms : List Int) (x k : Int) : stV cs (scaleL ms k) (x * k) = stV cs ms x * k := by
  unfold stV fed; rw [fedUpto_scale, Int.add_mul]
theorem stY_scale {l s k : Int} (cs ms : List Int) (x : Int) (hq : isQ l s = true) (hq2 : isQ l (s * k) = true) (hk : 0 < k) : stY l (s * k) cs (scaleL ms k) (x * k) = stY l s cs ms x * k := by
  unfold stY; rw [stV_scale, idx_scale _ hq hq2 hk, lev_scale]
theorem stE_scale {l s k : Int} (cs ms : List Int) (x : Int) (hq : isQ l s = true) (hq2 : isQ l (s * k) = true) (hk : 0 < k) : stE l (s * k) cs (scaleL ms k) (x * k) = stE l s cs ms x * k := by
  unfold stE; rw [stY_scale _ _ _ hq hq2 hk, stV_scale, Int.sub_mul]
theorem run_scale {l s k : Int} {cs ms xs : List Int} (hq : isQ l s = true) (hq2 : isQ l (s * k) = true) (hk : 0 < k) : ∀ (j : Nat) (r q : RunS), runUpto l s cs ms xs j = some r →
    runUpto l (s * k) cs (scaleL ms k) (scaleL xs k) j = some q → q.ys = scaleL r.ys k ∧ q.es = scaleL r.es k ∧ q.ms = scaleL r.ms k := by
  intro j
  induction j with
  | zero =>
    intro r q h1 h2
    simp [runUpto] at h1 h2
    subst h1 h2
    exact ⟨rfl, rfl, rfl⟩
  | succ j ih =>
    intro r q h1 h2
    cases hr : runUpto l s cs ms xs j with
    | none => rw [run_none hr 1] at h1; cases h1
    | some r0 =>
      cases hq0 : runUpto l (s * k) cs (scaleL ms k) (scaleL xs k) j with
      | none => rw [run_none hq0 1] at h2; cases h2
      | some q0 =>
        obtain ⟨i1, i2, i3⟩ := ih r0 q0 hr hq0
        cases he : sampleB (stE l s cs r0.ms (xs.getD j 0)) with
        | false => rw [run_fail hr he] at h1; cases h1
        | true =>
          cases he2 : sampleB (stE l (s * k) cs q0.ms ((scaleL xs k).getD j 0)) with
          | false => rw [run_fail hq0 he2] at h2; cases h2
          | true =>
            rw [run_next hr he] at h1
            rw [run_next hq0 he2] at h2
            injection h1 with h1
            injection h2 with h2
            subst h1 h2
            simp only [i1, i2, i3, scaleL_all, stY_scale _ _ _ hq hq2 hk, stE_scale _ _ _ hq hq2 hk, scaleL_snoc, push_scale, and_self]
theorem scaled_facts {l s k : Int} {cs ms xs : List Int} (hm : isMod l s cs = true) (hs : s ≤ 64) (hl : ms.length = cs.length) (hms : Within ms s) (hx : Within xs 256) (hn : xs.length ≤ 20) (h1 : 1 ≤ k) (h50 : k ≤ 50) :
    (scaleB ms k = true ∧ scaleV ms k = scaleL ms k) ∧ (scaleB xs k = true ∧ scaleV xs k = scaleL xs k) ∧
    (runB l s cs ms xs = true → runB l (s * k) cs (scaleL ms k) (scaleL xs k) = true →
      (runY l s cs ms xs).length = xs.length ∧ (runE l s cs ms xs).length = xs.length ∧
      (scaleB (runY l s cs ms xs) k = true ∧ scaleV (runY l s cs ms xs) k = runY l (s * k) cs (scaleL ms k) (scaleL xs k)) ∧
      (scaleB (runE l s cs ms xs) k = true ∧ scaleV (runE l s cs ms xs) k = runE l (s * k) cs (scaleL ms k) (scaleL xs k))) := by
  have h4 := isMod_true hm
  have hq := h4.1
  have hqs := isQ_true hq
  have hsk : 1 * 1 ≤ s * k ∧ s * k ≤ 64 * 50 := ⟨Int.mul_le_mul hqs.2.2.1 h1 (by omega) (by omega), Int.mul_le_mul hs h50 (by omega) (by omega)⟩
  have hq2 : isQ l (s * k) = true := isQ_mk hqs.1 hqs.2.1 (by omega) (by omega)
  have hkS : sampleB k = true := sampleB_mk (by omega) (by omega)
  have A1 := scale_all (k := k) (A := 64) (K := 50) (by omega : ms.length ≤ 1000) (fun i => (hms.mono hs).at_ (by omega) i) (by omega) (by omega) (by omega) (by omega)
  have A2 := scale_all (k := k) (A := 256) (K := 50) (by omega : xs.length ≤ 1000) (fun i => hx.at_ (by omega) i) (by omega) (by omega) (by omega) (by omega)
  refine ⟨⟨A1.1, by unfold scaleV; exact seqOr_yes A1.1⟩, ⟨A2.1, by unfold scaleV; exact seqOr_yes A2.1⟩, fun hB1 hB2 => ?_⟩
  obtain ⟨r, b3, hY, hE, _, b1, b2⟩ := run_open hB1
  obtain ⟨q, c3, cY, cE, _, c1, c2⟩ := run_open hB2
  rw [scaleL_length] at c3
  obtain ⟨e1, e2, e3⟩ := run_scale hq hq2 (by omega) _ r q b3 c3
  obtain ⟨a, b, _, _, _⟩ := run_ok b1 _ _ b3
  obtain ⟨sY, sE⟩ := run_seqs b1 (by omega) b3
  obtain ⟨tY, tE⟩ := run_seqs c1 (by omega) c3
  rw [e1] at tY
  rw [e2] at tE
  have B1 : scaleB r.ys k = true := by simp [scaleB, sY, hkS, tY]
  have B2 : scaleB r.es k = true := by simp [scaleB, sE, hkS, tE]
  rw [hY, hE, cY, cE, e1, e2]
  exact ⟨a, b, ⟨B1, by unfold scaleV; exact seqOr_yes B1⟩, ⟨B2, by unfold scaleV; exact seqOr_yes B2⟩⟩

theorem fed_zero (ms : List Int) : fed [0] ms = 0 := by simp [fed, fedUpto]
theorem run_plain {l s : Int} {ms xs : List Int} (hq : isQ l s = true) (hx : ∀ i, -256 ≤ xs.getD i 0 ∧ xs.getD i 0 ≤ 256) : ∀ k, ∃ r, runUpto l s [0] ms xs k = some r ∧ r.ys = tab (qsF l s xs) k ∧ r.es = tab (esF l s xs) k := by
  intro k
  induction k with
  | zero => exact ⟨⟨[], [], ms⟩, rfl, rfl, rfl⟩
  | succ k ih =>
    obtain ⟨r, h, h1, h2⟩ := ih
    have hv : stV [0] r.ms (xs.getD k 0) = xs.getD k 0 := by unfold stV; rw [fed_zero]; omega
    have hy : stY l s [0] r.ms (xs.getD k 0) = qsF l s xs k := by unfold stY qsF; rw [hv]
    have he : stE l s [0] r.ms (xs.getD k 0) = esF l s xs k := by unfold stE esF; rw [hy, hv]
    have hb := qs_bd xs k hq
    have hxk := hx k
    have hsm : sampleB (stE l s [0] r.ms (xs.getD k 0)) = true := by rw [he]; unfold esF; exact sampleB_mk (by omega) (by omega)
    refine ⟨_, run_next h hsm, ?_, ?_⟩
    · show r.ys ++ [_] = _
      rw [hy, h1, tab_succ]
    · show r.es ++ [_] = _
      rw [he, h2, tab_succ]
theorem plain_facts {l s : Int} {xs : List Int} (hq : isQ l s = true) (hx : Within xs 256) (hn : xs.length ≤ 30) :
    isMod l s [0] = true ∧ plainV l s [0] = [0] ∧
    (runB l s [0] [0] xs = true ∧ runY l s [0] [0] xs = qsL l s xs ∧ runE l s [0] [0] xs = esL l s xs) ∧
    (qsB l s xs = true ∧ qsV l s xs = qsL l s xs ∧ esV l s xs = esL l s xs) ∧
    (btB l s (qsL l s xs) = true ∧ btV l s (qsL l s xs) = btL l s (qsL l s xs)) ∧
    (qsL l s xs).length = xs.length ∧ (esL l s xs).length = xs.length ∧ (btL l s (qsL l s xs)).length = xs.length ∧
    ∀ i, i < xs.length → (btL l s (qsL l s xs)).getD i 0 = idxV l s (xs.getD i 0) := by
  have hm : isMod l s [0] = true := by simp [isMod, hq, cofB]
  have bx := fun i => hx.at_ (by omega) i
  have hs : isSeq xs = true := hx.seq (by omega) (by omega)
  have hmem : isMem l s [0] [0] = true := by rw [isMem_mk hm rfl]; decide
  obtain ⟨r, h, h1, h2⟩ := run_plain (ms := [0]) hq bx xs.length
  obtain ⟨hB, hR⟩ := runB_yes hmem hs h
  obtain ⟨r2, b3, hY, hE, _, _, _⟩ := run_open hB
  rw [h] at b3
  injection b3 with b3
  subst b3
  have sE : isSeq (esL l s xs) = true := by
    refine isSeq_tab (by omega) (fun i hi => ?_)
    have := qs_bd xs i hq
    have := bx i
    unfold esF
    omega
  have q1 : qsB l s xs = true := by rw [qsB_mk hq hs]; exact sE
  have hidx : ∀ i, i < xs.length → idxV l s ((qsL l s xs).getD i 0) = idx l s (xs.getD i 0) := by
    intro i hi
    unfold qsL
    rw [tab_at _ _ _ hi]
    unfold qsF
    have hix := idx_is (xs.getD i 0) hq
    have hb := lev_bd hq hix.1 hix.2.1
    rw [idxV_yes hq (loud_seq (by omega)), lev_idx hq hix.1 hix.2.1]
  have t1 : btB l s (qsL l s xs) = true := btB_yes rfl hq (by rw [qsL_length]; omega) (fun i hi => by
    rw [qsL_length] at hi
    simp only [isLev, decide_eq_true_eq]
    rw [hidx i hi]
    unfold qsL
    rw [tab_at _ _ _ hi]
    rfl)
  refine ⟨hm, by unfold plainV; exact seqOr_yes hm, ⟨hB, by rw [hY, h1]; rfl, by rw [hE, h2]; rfl⟩, ⟨q1, by unfold qsV; exact seqOr_yes q1, by unfold esV; exact seqOr_yes q1⟩, ⟨t1, by unfold btV; exact seqOr_yes t1⟩, tab_length _ _, tab_length _ _, by unfold btL; rw [tab_length, qsL_length], fun i hi => ?_⟩
  unfold btL
  rw [tab_at _ _ _ (by rw [qsL_length]; exact hi)]
  unfold btF
  rw [hidx i hi, idxV_yes hq (loud_seq (by have := bx i; omega))]

/-- A run that went on holds what it held before. -/
theorem run_prefix {l s : Int} {cs ms xs : List Int} {i : Nat} {r : RunS} (h : runUpto l s cs ms xs i = some r) (hm : isMem l s cs ms = true) : ∀ (j : Nat) (q : RunS), runUpto l s cs ms xs (i + 1 + j) = some q →
    sampleB (stE l s cs r.ms (xs.getD i 0)) = true ∧ q.ys.getD i 0 = stY l s cs r.ms (xs.getD i 0) ∧ q.es.getD i 0 = stE l s cs r.ms (xs.getD i 0) := by
  obtain ⟨a, b, _⟩ := run_ok hm _ _ h
  intro j
  induction j with
  | zero =>
    intro q hq
    rw [Nat.add_zero] at hq
    cases he : sampleB (stE l s cs r.ms (xs.getD i 0)) with
    | false => rw [run_fail h he] at hq; cases hq
    | true =>
      rw [run_next h he] at hq
      injection hq with hq
      subst hq
      exact ⟨rfl, getD_snoc_last _ _ a, getD_snoc_last _ _ b⟩
  | succ j ih =>
    intro q hq
    rw [← Nat.add_assoc] at hq
    cases h0 : runUpto l s cs ms xs (i + 1 + j) with
    | none => rw [run_none h0 1] at hq; cases hq
    | some q0 =>
      obtain ⟨c1, c2, c3⟩ := ih q0 h0
      obtain ⟨a0, b0, _⟩ := run_ok hm _ _ h0
      cases he : sampleB (stE l s cs q0.ms (xs.getD (i + 1 + j) 0)) with
      | false => rw [run_fail h0 he] at hq; cases hq
      | true =>
        rw [run_next h0 he] at hq
        injection hq with hq
        subst hq
        exact ⟨c1, (getD_snoc_lt _ _ (by omega)).trans c2, (getD_snoc_lt _ _ (by omega)).trans c3⟩
/-- Step i of a run: it succeeds and adds to the run what the run holds, or the run has failed. -/
theorem steps_facts {l s : Int} {cs ms xs : List Int} {i : Nat} {r : RunS} (hm : isMem l s cs ms = true) (hs : isSeq xs = true) (hi : i < xs.length) (h : runUpto l s cs ms xs i = some r) :
    isMem l s cs r.ms = true ∧
    (stB l s cs r.ms (xs.getD i 0) = false → runB l s cs ms xs = false) ∧
    (stB l s cs r.ms (xs.getD i 0) = true → ∃ q, runUpto l s cs ms xs (i + 1) = some q ∧ q.ms = push r.ms (stE l s cs r.ms (xs.getD i 0)) ∧ isMem l s cs q.ms = true ∧
      (runB l s cs ms xs = true → (runY l s cs ms xs).getD i 0 = stY l s cs r.ms (xs.getD i 0) ∧ (runE l s cs ms xs).getD i 0 = stE l s cs r.ms (xs.getD i 0))) := by
  have hr := run_ok hm _ _ h
  have hx := isSeq_at hs i
  have hxs := sampleB_mk hx.1 hx.2
  refine ⟨hr.2.2.1, fun hb => ?_, fun hb => ?_⟩
  · cases he : sampleB (stE l s cs r.ms (xs.getD i 0)) with
    | true => rw [stB_yes hr.2.2.1 hxs he] at hb; cases hb
    | false =>
      have h0 := run_none (run_fail h he) (xs.length - (i + 1))
      rw [show i + 1 + (xs.length - (i + 1)) = xs.length from by omega] at h0
      exact runB_no (.inr (.inr h0))
  · obtain ⟨_, _, he⟩ := stB_true hb
    refine ⟨_, run_next h he, rfl, push_mem hr.2.2.1 he, fun hB => ?_⟩
    obtain ⟨R, b3, hY, hE, _⟩ := run_open hB
    rw [hY, hE]
    rw [show xs.length = i + 1 + (xs.length - (i + 1)) from by omega] at b3
    exact (run_prefix h hm _ R b3).2
theorem steps_end {l s : Int} {cs ms xs : List Int} {r : RunS} (hm : isMem l s cs ms = true) (hs : isSeq xs = true) (h : runUpto l s cs ms xs xs.length = some r) : runB l s cs ms xs = true ∧ runM l s cs ms xs = r.ms := by
  obtain ⟨hB, hR⟩ := runB_yes hm hs h
  obtain ⟨r2, b3, _, _, hM, _, _⟩ := run_open hB
  rw [h] at b3
  injection b3 with b3
  subst b3
  exact ⟨hB, hM⟩
theorem run_len {l s : Int} {cs ms xs : List Int} (hB : runB l s cs ms xs = true) : (runY l s cs ms xs).length = xs.length ∧ (runE l s cs ms xs).length = xs.length :=
  ⟨(input_facts hB).1, (input_facts hB).2.1⟩
theorem rng_small {l s : Int} {cs : List Int} (hm : isMod l s cs = true) (hl : l ≤ 6) (hs : s ≤ 64) : 2 ≤ rng l s ∧ rng l s ≤ 384 := by
  have hq := (isMod_true hm).1
  have hb := isQ_true hq
  have hr := rng_bd hq
  have hls : l * s ≤ 6 * 64 := Int.mul_le_mul hl hs (by omega) (by omega)
  rw [rng_yes hq]
  omega
theorem safe_small {l s S : Int} {cs : List Int} (hm : isMod l s cs = true) (hl : l ≤ 6) (hs : s ≤ 64) (hS : safeV l s cs = S) : -1 ≤ S ∧ S ≤ 384 := by
  have hq := (isMod_true hm).1
  have hb := isQ_true hq
  have ha := absUpto_bd (fun k => isMod_at hm k) cs.length
  have hls : l * s ≤ 6 * 64 := Int.mul_le_mul hl hs (by omega) (by omega)
  have hsa : 0 ≤ s * absUpto cs cs.length := Int.mul_nonneg (by omega) ha.1
  rw [safeV_yes hm, safe_split0] at hS
  omega
end Go.Proofs.Ytmgjbldnohkodaa
