/- Plain laws of modulators with a constant input: their memories, and when one comes again. Nothing of the program is named here. -/
import Derived.Test.YtmgjbldnohkodaaPureN2
namespace Go.Proofs.Ytmgjbldnohkodaa
set_option linter.unusedVariables false

/-- The memory behind k steps with the input x; none if a step fails. -/
def qst (l s : Int) (cs ms : List Int) (x : Int) : Nat → Option (List Int)
  | 0 => some ms
  | k + 1 => match qst l s cs ms x k with
    | none => none
    | some m => if sampleB (stE l s cs m x) = true then some (push m (stE l s cs m x)) else none
def qAt (l s : Int) (cs ms : List Int) (x : Int) (k : Nat) : List Int := (qst l s cs ms x k).getD []
section
variable {l s x : Int} {cs ms m : List Int} {k n : Nat}
theorem qst_zero : qst l s cs ms x 0 = some ms := rfl
theorem qst_next (h : qst l s cs ms x k = some m) (he : sampleB (stE l s cs m x) = true) : qst l s cs ms x (k + 1) = some (push m (stE l s cs m x)) := by
  show (match qst l s cs ms x k with | none => none | some m => _) = _
  rw [h]; exact if_pos he
theorem qst_fail (h : qst l s cs ms x k = some m) (he : sampleB (stE l s cs m x) = false) : qst l s cs ms x (k + 1) = none := by
  show (match qst l s cs ms x k with | none => none | some m => _) = _
  rw [h]; exact if_neg (by rw [he]; exact Bool.false_ne_true)
theorem qst_none (h : qst l s cs ms x k = none) (j : Nat) : qst l s cs ms x (k + j) = none := by
  induction j with
  | zero => exact h
  | succ j ih => rw [← Nat.add_assoc, qst, ih]
theorem qst_cong {j : Nat} (h : qst l s cs ms x k = qst l s cs ms x j) : qst l s cs ms x (k + 1) = qst l s cs ms x (j + 1) := by
  rw [qst, qst, h]
theorem qst_mem (hm : isMem l s cs ms = true) : ∀ k m, qst l s cs ms x k = some m → isMem l s cs m = true := by
  intro k
  induction k with
  | zero => intro m h; simp [qst] at h; subst h; exact hm
  | succ k ih =>
    intro m h
    cases h0 : qst l s cs ms x k with
    | none => rw [qst_none h0 1] at h; cases h
    | some m0 =>
      cases he : sampleB (stE l s cs m0 x) with
      | false => rw [qst_fail h0 he] at h; cases h
      | true =>
        rw [qst_next h0 he] at h
        injection h with h
        subst h
        exact push_mem (ih m0 h0) he
theorem rep_at (x : Int) {n k : Nat} (h : k < n) : (List.replicate n x).getD k 0 = x := by simp [List.getD, h]
theorem run_qst : ∀ k, k ≤ n → (runUpto l s cs ms (List.replicate n x) k).map RunS.ms = qst l s cs ms x k := by
  intro k
  induction k with
  | zero => intro _; rfl
  | succ k ih =>
    intro hk
    have h0 := ih (by omega)
    have hx := rep_at x (show k < n by omega)
    cases hr : runUpto l s cs ms (List.replicate n x) k with
    | none =>
      rw [hr] at h0
      rw [run_none hr 1, qst_none h0.symm 1]
      rfl
    | some r =>
      rw [hr] at h0
      cases he : sampleB (stE l s cs r.ms x) with
      | false => rw [run_fail hr (by rw [hx]; exact he), qst_fail h0.symm he]; rfl
      | true =>
        rw [run_next hr (by rw [hx]; exact he), qst_next h0.symm he, hx]
        rfl
theorem run_of_qst (h : qst l s cs ms x n = some m) {k : Nat} (hk : k ≤ n) : ∃ r, runUpto l s cs ms (List.replicate n x) k = some r ∧ qst l s cs ms x k = some r.ms := by
  have h1 := run_qst (l := l) (s := s) (x := x) (cs := cs) (ms := ms) (n := n) k hk
  cases hr : runUpto l s cs ms (List.replicate n x) k with
  | none =>
    rw [hr] at h1
    have := qst_none h1.symm (n - k)
    rw [show k + (n - k) = n from by omega, h] at this
    cases this
  | some r => rw [hr] at h1; exact ⟨r, rfl, h1.symm⟩
end

/-- The memory that is there behind i steps is there again behind p more. -/
def Comes (f : Nat → List Int) (n i p : Nat) : Prop := 1 ≤ p ∧ i + p ≤ n ∧ f i = f (i + p)
def IsFirst (f : Nat → List Int) (n i p : Nat) : Prop := Comes f n i p ∧ ∀ j q, (j < i ∨ (j = i ∧ q < p)) → ¬ Comes f n j q
theorem IsFirst.unique {f : Nat → List Int} {n i p j q : Nat} (h : IsFirst f n i p) (k : IsFirst f n j q) : i = j ∧ p = q := by
  rcases Nat.lt_trichotomy i j with h1 | h1 | h1
  · exact absurd h.1 (k.2 i p (.inl h1))
  · subst h1
    rcases Nat.lt_trichotomy p q with h2 | h2 | h2
    · exact absurd h.1 (k.2 i p (.inr ⟨rfl, h2⟩))
    · exact ⟨rfl, h2⟩
    · exact absurd k.1 (h.2 i q (.inr ⟨rfl, h2⟩))
  · exact absurd k.1 (h.2 j q (.inl h1))
/-- May QuietFrom look for it: the memories are there. -/
def quietOk (l s : Int) (cs ms : List Int) (x n : Int) : Prop := isMem l s cs ms = true ∧ sampleB x = true ∧ (0 ≤ n ∧ n ≤ 400) ∧ (qst l s cs ms x n.toNat).isSome = true
/-- What QuietFrom answers. -/
def QuietIs (l s : Int) (cs ms : List Int) (x n i p : Int) (b : Bool) : Prop :=
  (b = false ∧ i = 0 ∧ p = 0 ∧ (quietOk l s cs ms x n → ∀ j q, ¬ Comes (qAt l s cs ms x) n.toNat j q)) ∨
  (b = true ∧ quietOk l s cs ms x n ∧ ∃ j q : Nat, i = j ∧ p = q ∧ IsFirst (qAt l s cs ms x) n.toNat j q)
theorem QuietIs.unique {l s x n i p i2 p2 : Int} {cs ms : List Int} {b b2 : Bool} (h : QuietIs l s cs ms x n i p b) (k : QuietIs l s cs ms x n i2 p2 b2) : i = i2 ∧ p = p2 ∧ b = b2 := by
  rcases h with ⟨rfl, rfl, rfl, h⟩ | ⟨rfl, h0, j, q, rfl, rfl, h⟩
  · rcases k with ⟨rfl, rfl, rfl, k⟩ | ⟨rfl, k0, j, q, rfl, rfl, k⟩
    · exact ⟨rfl, rfl, rfl⟩
    · exact absurd k.1 (h k0 _ _)
  · rcases k with ⟨rfl, rfl, rfl, k⟩ | ⟨rfl, k0, j2, q2, rfl, rfl, k⟩
    · exact absurd h.1 (k h0 _ _)
    · obtain ⟨rfl, rfl⟩ := h.unique k
      exact ⟨rfl, rfl, rfl⟩
theorem QuietIs.no {l s x n : Int} {cs ms : List Int} (h : ¬ quietOk l s cs ms x n) : QuietIs l s cs ms x n 0 0 false := .inl ⟨rfl, rfl, rfl, fun h1 => absurd h1 h⟩

theorem qst_period {l s x : Int} {cs ms : List Int} {i p : Nat} (h : qst l s cs ms x i = qst l s cs ms x (i + p)) : ∀ d, qst l s cs ms x (i + d) = qst l s cs ms x (i + d + p) := by
  intro d
  induction d with
  | zero => exact h
  | succ d ih =>
    rw [← Nat.add_assoc, show i + d + 1 + p = i + d + p + 1 from by omega]
    exact qst_cong ih
theorem quiet_facts {l s x : Int} {cs ms : List Int} {n i p : Nat} (h0 : quietOk l s cs ms x (n : Int)) (h : IsFirst (qAt l s cs ms x) n i p) :
    1 ≤ p ∧ i + p ≤ n ∧
    runB l s cs ms (List.replicate n x) = true ∧ (runY l s cs ms (List.replicate n x)).length = n ∧
    (∀ k, i ≤ k → k + p < n → (runY l s cs ms (List.replicate n x)).getD k 0 = (runY l s cs ms (List.replicate n x)).getD (k + p) 0) ∧
    runB l s cs ms (List.replicate i x) = true ∧ runB l s cs ms (List.replicate (i + p) x) = true ∧ runM l s cs ms (List.replicate i x) = runM l s cs ms (List.replicate (i + p) x) := by
  obtain ⟨hm, hx, ⟨_, hn⟩, hq⟩ := h0
  rw [Int.toNat_natCast] at hq
  obtain ⟨m, hq⟩ := Option.isSome_iff_exists.1 hq
  obtain ⟨⟨hp, hip, he⟩, _⟩ := h
  have hs : ∀ k : Nat, k ≤ n → isSeq (List.replicate k x) = true := fun k hk => isSeq_mk (by rw [List.length_replicate]; omega) (fun y hy => by
    obtain rfl := (List.mem_replicate.1 hy).2
    exact sampleB_true hx)
  have hval : ∀ k, k ≤ n → ∃ m, qst l s cs ms x k = some m := fun k hk => by
    obtain ⟨r, _, h2⟩ := run_of_qst hq hk
    exact ⟨_, h2⟩
  have hrun : ∀ k, k ≤ n → runB l s cs ms (List.replicate k x) = true ∧ some (runM l s cs ms (List.replicate k x)) = qst l s cs ms x k := fun k hk => by
    obtain ⟨mk, hk2⟩ := hval k hk
    obtain ⟨r, h1, h2⟩ := run_of_qst hk2 (Nat.le_refl k)
    have h1' : runUpto l s cs ms (List.replicate k x) (List.replicate k x).length = some r := by rw [List.length_replicate]; exact h1
    obtain ⟨a, b⟩ := steps_end hm (hs k hk) h1'
    exact ⟨a, by rw [b, h2]⟩
  have hqe : qst l s cs ms x i = qst l s cs ms x (i + p) := by
    obtain ⟨m1, e1⟩ := hval i (by omega)
    obtain ⟨m2, e2⟩ := hval (i + p) hip
    unfold qAt at he
    rw [e1, e2] at he
    simp only [Option.getD_some] at he
    rw [e1, e2, he]
  have hY : ∀ k, k < n → ∃ m, qst l s cs ms x k = some m ∧ (runY l s cs ms (List.replicate n x)).getD k 0 = stY l s cs m x := fun k hk => by
    obtain ⟨r, h1, h2⟩ := run_of_qst hq (Nat.le_of_lt hk)
    obtain ⟨R, b3, bY, _⟩ := run_open (hrun n (Nat.le_refl _)).1
    rw [List.length_replicate, show n = k + 1 + (n - (k + 1)) from by omega] at b3
    have e : k + 1 + (n - (k + 1)) = n := by omega
    rw [e] at b3
    have h3 := run_prefix h1 hm (n - (k + 1)) R (by rw [e]; exact b3)
    rw [rep_at x hk] at h3
    exact ⟨r.ms, h2, by rw [bY]; exact h3.2.1⟩
  have hlen : (runY l s cs ms (List.replicate n x)).length = n := by
    obtain ⟨R, b3, bY, _⟩ := run_open (hrun n (Nat.le_refl _)).1
    rw [bY, (run_ok hm _ _ b3).1, List.length_replicate]
  refine ⟨hp, hip, (hrun n (Nat.le_refl _)).1, hlen, fun k hk hkn => ?_, (hrun i (by omega)).1, (hrun (i + p) hip).1, ?_⟩
  · obtain ⟨m1, e1, y1⟩ := hY k (by omega)
    obtain ⟨m2, e2, y2⟩ := hY (k + p) hkn
    have h3 := qst_period hqe (k - i)
    rw [show i + (k - i) = k from by omega, e1, e2] at h3
    injection h3 with h3
    rw [y1, y2, h3]
  · have e1 := (hrun i (by omega)).2
    have e2 := (hrun (i + p) hip).2
    rw [hqe, ← e2] at e1
    injection e1
end Go.Proofs.Ytmgjbldnohkodaa
