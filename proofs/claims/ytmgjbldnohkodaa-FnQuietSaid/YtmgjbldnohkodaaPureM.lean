/- Plain modulators: what their steps and runs compute. Nothing of the program is named here. -/
import Derived.Test.YtmgjbldnohkodaaPureS
import Derived.Test.YtmgjbldnohkodaaPureQ
namespace Go.Proofs.Ytmgjbldnohkodaa

def cofB (c : Int) : Bool := decide (-100 ≤ c) && decide (c ≤ 100)
theorem cofB_true {c : Int} (h : cofB c = true) : -100 ≤ c ∧ c ≤ 100 := by simpa [cofB] using h
theorem cofB_false {c : Int} (h : cofB c = false) : c < -100 ∨ 100 < c := by simp [cofB] at h; omega
theorem cofB_mk {c : Int} (h : -100 ≤ c ∧ c ≤ 100) : cofB c = true := by simp [cofB]; omega
def cofUpto (cs : List Int) (k : Nat) : Prop := ∀ i, i < k → cofB (cs.getD i 0) = true
theorem cofUpto_zero (cs : List Int) : cofUpto cs 0 := fun i h => absurd h (by omega)
theorem cofUpto_succ {cs : List Int} {k : Nat} (h : cofUpto cs k) (hx : cofB (cs.getD k 0) = true) : cofUpto cs (k + 1) := fun i hi => by
  by_cases e : i = k
  · subst e; exact hx
  · exact h i (by omega)
/-- A modulator. -/
def isMod (l s : Int) (cs : List Int) : Bool := cs.all cofB && (isQ l s && (decide (1 ≤ cs.length) && decide (cs.length ≤ 6)))
theorem isMod_true {l s : Int} {cs : List Int} (h : isMod l s cs = true) : isQ l s = true ∧ 1 ≤ cs.length ∧ cs.length ≤ 6 ∧ ∀ c ∈ cs, cofB c = true := by
  simp only [isMod, Bool.and_eq_true, List.all_eq_true, decide_eq_true_eq] at h
  exact ⟨h.2.1, h.2.2.1, h.2.2.2, h.1⟩
theorem isMod_at {l s : Int} {cs : List Int} (h : isMod l s cs = true) (k : Nat) : -100 ≤ cs.getD k 0 ∧ cs.getD k 0 ≤ 100 := by
  by_cases hk : k < cs.length
  · rw [getD_at cs k hk]; exact cofB_true ((isMod_true h).2.2.2 _ (List.getElem_mem hk))
  · have : cs.getD k 0 = 0 := by simp [List.getD, List.getElem?_eq_none (Nat.le_of_not_lt hk)]
    rw [this]; omega
theorem isMod_no {l s : Int} {cs : List Int} {k : Nat} (hk : k < cs.length) (h : cofB (cs.getD k 0) = false) : isMod l s cs = false := by
  rw [← Bool.not_eq_true]
  intro h1
  have := (isMod_true h1).2.2.2 _ (List.getElem_mem hk)
  rw [← getD_at cs k hk, h] at this
  cases this
theorem isMod_end {l s : Int} {cs : List Int} {n : Nat} (hl : cs.length = n) (h : cofUpto cs n) : isMod l s cs = (isQ l s && (decide (1 ≤ n) && decide (n ≤ 6))) := by
  have h1 : cs.all cofB = true := by
    rw [List.all_eq_true]
    intro x hx
    obtain ⟨i, hi, rfl⟩ := List.getElem_of_mem hx
    rw [← getD_at cs i hi]
    exact h i (by omega)
  simp [isMod, h1, hl]
/-- A memory of it. -/
def isMem (l s : Int) (cs ms : List Int) : Bool := isMod l s cs && (decide (ms.length = cs.length) && isSeq ms)
theorem isMem_true {l s : Int} {cs ms : List Int} (h : isMem l s cs ms = true) : isMod l s cs = true ∧ ms.length = cs.length ∧ isSeq ms = true := by
  simpa only [isMem, Bool.and_eq_true, decide_eq_true_eq] using h
theorem isMem_no {l s : Int} {cs ms : List Int} (h : isMod l s cs = false ∨ ms.length ≠ cs.length ∨ isSeq ms = false) : isMem l s cs ms = false := by
  rw [← Bool.not_eq_true]
  intro h1
  have h2 := isMem_true h1
  rcases h with h | h | h
  · rw [h2.1] at h; cases h
  · exact h h2.2.1
  · rw [h2.2.2] at h; cases h
theorem isMem_mk {l s : Int} {cs ms : List Int} (h1 : isMod l s cs = true) (h2 : ms.length = cs.length) : isMem l s cs ms = isSeq ms := by simp [isMem, h1, h2]

/-- The sum of the first k coefficients times the memory. -/
def fedUpto (cs ms : List Int) : Nat → Int
  | 0 => 0
  | k + 1 => fedUpto cs ms k + cs.getD k 0 * ms.getD k 0
theorem fedUpto_succ (cs ms : List Int) (k : Nat) : fedUpto cs ms (k + 1) = fedUpto cs ms k + cs.getD k 0 * ms.getD k 0 := rfl
def fed (cs ms : List Int) : Int := fedUpto cs ms cs.length
theorem prod_bd {a b A B : Int} (h1 : -A ≤ a ∧ a ≤ A) (h2 : -B ≤ b ∧ b ≤ B) : -(A * B) ≤ a * b ∧ a * b ≤ A * B := by
  have hA : 0 ≤ A := by omega
  have hB : 0 ≤ B := by omega
  rcases Int.le_total 0 a with h0 | h0
  · have h3 := mul_bd (s := a) (t := b) (M := B) h0 h2.1 h2.2
    have h4 : a * B ≤ A * B := Int.mul_le_mul_of_nonneg_right h1.2 hB
    omega
  · have h3 := mul_bd (s := -a) (t := b) (M := B) (by omega) h2.1 h2.2
    have h4 : -a * B ≤ A * B := Int.mul_le_mul_of_nonneg_right (by omega) hB
    simp only [Int.neg_mul] at h3 h4
    omega
theorem fed_step_bd {cs ms : List Int} {A B : Int} (h1 : ∀ k, -A ≤ cs.getD k 0 ∧ cs.getD k 0 ≤ A) (h2 : ∀ k, -B ≤ ms.getD k 0 ∧ ms.getD k 0 ≤ B) (k : Nat) : -(A * B * k) ≤ fedUpto cs ms k ∧ fedUpto cs ms k ≤ A * B * k := by
  induction k with
  | zero => simp [fedUpto]
  | succ k ih =>
    rw [fedUpto_succ]
    have h3 := prod_bd (h1 k) (h2 k)
    have e : A * B * ((k + 1 : Nat) : Int) = A * B * k + A * B := by rw [Int.natCast_add, Int.mul_add]; simp
    rw [e]
    omega
/-- Sums that stay within 64 bits: coefficients and a memory that are valid. -/
theorem fedUpto_le {l s : Int} {cs ms : List Int} (h : isMem l s cs ms = true) (k : Nat) (hk : k ≤ 6) : -659706976665600 ≤ fedUpto cs ms k ∧ fedUpto cs ms k ≤ 659706976665600 := by
  obtain ⟨h1, _, h3⟩ := isMem_true h
  have := fed_step_bd (A := 100) (B := 1099511627776) (fun k => isMod_at h1 k) (fun k => isSeq_at h3 k) k
  omega
theorem fed_le {l s : Int} {cs ms : List Int} (h : isMem l s cs ms = true) : -659706976665600 ≤ fed cs ms ∧ fed cs ms ≤ 659706976665600 :=
  fedUpto_le h _ (isMod_true (isMem_true h).1).2.2.1
theorem fedTerm_le {l s : Int} {cs ms : List Int} (h : isMem l s cs ms = true) (k : Nat) : -109951162777600 ≤ cs.getD k 0 * ms.getD k 0 ∧ cs.getD k 0 * ms.getD k 0 ≤ 109951162777600 := by
  obtain ⟨h1, _, h3⟩ := isMem_true h
  exact prod_bd (A := 100) (B := 1099511627776) (isMod_at h1 k) (isSeq_at h3 k)

/-- A memory behind an error. -/
def push (ms : List Int) (e : Int) : List Int := e :: ms.take (ms.length - 1)
theorem push_length {ms : List Int} (e : Int) (h : 1 ≤ ms.length) : (push ms e).length = ms.length := by
  unfold push; rw [List.length_cons, List.length_take]; omega
theorem push_mem {l s : Int} {cs ms : List Int} {e : Int} (h : isMem l s cs ms = true) (he : sampleB e = true) : isMem l s cs (push ms e) = true := by
  obtain ⟨h1, h2, h3⟩ := isMem_true h
  have h4 := isMod_true h1
  rw [isMem_mk h1 (by rw [push_length e (by omega), h2])]
  refine isSeq_mk (by rw [push_length e (by omega)]; omega) (fun x hx => ?_)
  unfold push at hx
  rcases List.mem_cons.1 hx with rfl | hx
  · exact sampleB_true he
  · exact isSeq_mem h3 x (List.mem_of_mem_take hx)
/-- What the quantiser sees, what it says, its error. -/
def stV (cs ms : List Int) (x : Int) : Int := x + fed cs ms
def stY (l s : Int) (cs ms : List Int) (x : Int) : Int := lev l s (idx l s (stV cs ms x))
def stE (l s : Int) (cs ms : List Int) (x : Int) : Int := stY l s cs ms x - stV cs ms x
def stB (l s : Int) (cs ms : List Int) (x : Int) : Bool := isMem l s cs ms && (sampleB x && sampleB (stE l s cs ms x))
def stepY (l s : Int) (cs ms : List Int) (x : Int) : Int := if stB l s cs ms x = true then stY l s cs ms x else 0
def stepM (l s : Int) (cs ms : List Int) (x : Int) : List Int := seqOr (stB l s cs ms x) (push ms (stE l s cs ms x))
theorem stV_le {l s : Int} {cs ms : List Int} {x : Int} (h : isMem l s cs ms = true) (hx : sampleB x = true) : -660806488293376 ≤ stV cs ms x ∧ stV cs ms x ≤ 660806488293376 := by
  have := fed_le h
  have := sampleB_true hx
  unfold stV
  omega
theorem stY_le {l s : Int} {cs ms : List Int} {x : Int} (h : isMod l s cs = true) : -17179869184 ≤ stY l s cs ms x ∧ stY l s cs ms x ≤ 17179869184 := by
  have hq := (isMod_true h).1
  have hi := idx_is (stV cs ms x) hq
  exact lev_bd hq hi.1 hi.2.1
theorem stB_no {l s : Int} {cs ms : List Int} {x : Int} (h : isMem l s cs ms = false ∨ sampleB x = false ∨ sampleB (stE l s cs ms x) = false) : stB l s cs ms x = false := by
  rcases h with h | h | h <;> simp [stB, h]
theorem stB_yes {l s : Int} {cs ms : List Int} {x : Int} (h1 : isMem l s cs ms = true) (h2 : sampleB x = true) (h3 : sampleB (stE l s cs ms x) = true) : stB l s cs ms x = true := by simp [stB, h1, h2, h3]
theorem stB_true {l s : Int} {cs ms : List Int} {x : Int} (h : stB l s cs ms x = true) : isMem l s cs ms = true ∧ sampleB x = true ∧ sampleB (stE l s cs ms x) = true := by simpa [stB] using h
theorem stepM_len (l s : Int) (cs ms : List Int) (x : Int) : (stepM l s cs ms x).length ≤ 1048576 :=
  seqOr_len fun h => by
    obtain ⟨h1, _⟩ := stB_true h
    obtain ⟨h2, h3, _⟩ := isMem_true h1
    have h4 := isMod_true h2
    rw [push_length _ (by omega)]
    omega

/-- A run: outputs, errors, the memory behind it; none if a step fails. -/
structure RunS where
  ys : List Int
  es : List Int
  ms : List Int
def runUpto (l s : Int) (cs ms xs : List Int) : Nat → Option RunS
  | 0 => some ⟨[], [], ms⟩
  | k + 1 => match runUpto l s cs ms xs k with
    | none => none
    | some r => if sampleB (stE l s cs r.ms (xs.getD k 0)) = true then some ⟨r.ys ++ [stY l s cs r.ms (xs.getD k 0)], r.es ++ [stE l s cs r.ms (xs.getD k 0)], push r.ms (stE l s cs r.ms (xs.getD k 0))⟩ else none
theorem run_next {l s : Int} {cs ms xs : List Int} {k : Nat} {r : RunS} (h : runUpto l s cs ms xs k = some r) (he : sampleB (stE l s cs r.ms (xs.getD k 0)) = true) :
    runUpto l s cs ms xs (k + 1) = some ⟨r.ys ++ [stY l s cs r.ms (xs.getD k 0)], r.es ++ [stE l s cs r.ms (xs.getD k 0)], push r.ms (stE l s cs r.ms (xs.getD k 0))⟩ := by
  show (match runUpto l s cs ms xs k with | none => none | some r => _) = _
  rw [h]
  exact if_pos he
theorem run_fail {l s : Int} {cs ms xs : List Int} {k : Nat} {r : RunS} (h : runUpto l s cs ms xs k = some r) (he : sampleB (stE l s cs r.ms (xs.getD k 0)) = false) : runUpto l s cs ms xs (k + 1) = none := by
  show (match runUpto l s cs ms xs k with | none => none | some r => _) = _
  rw [h]
  exact if_neg (by rw [he]; exact Bool.false_ne_true)
theorem run_none {l s : Int} {cs ms xs : List Int} {k : Nat} (h : runUpto l s cs ms xs k = none) (j : Nat) : runUpto l s cs ms xs (k + j) = none := by
  induction j with
  | zero => exact h
  | succ j ih => rw [← Nat.add_assoc, runUpto, ih]
/-- What holds of a run so far: lengths, bounds, and its memory is one. -/
theorem run_ok {l s : Int} {cs ms xs : List Int} (hm : isMem l s cs ms = true) : ∀ (k : Nat) (r : RunS), runUpto l s cs ms xs k = some r →
    r.ys.length = k ∧ r.es.length = k ∧ isMem l s cs r.ms = true ∧ (∀ x ∈ r.es, sampleB x = true) ∧ ∀ x ∈ r.ys, -17179869184 ≤ x ∧ x ≤ 17179869184 := by
  intro k
  induction k with
  | zero => intro r h; simp [runUpto] at h; subst h; exact ⟨rfl, rfl, hm, by simp, by simp⟩
  | succ k ih =>
    intro r h
    unfold runUpto at h
    cases hk : runUpto l s cs ms xs k with
    | none => rw [hk] at h; cases h
    | some r0 =>
      rw [hk] at h
      obtain ⟨a, b, c, d, f⟩ := ih r0 hk
      by_cases he : sampleB (stE l s cs r0.ms (xs.getD k 0)) = true
      · simp only [he, if_true] at h
        injection h with h
        subst h
        refine ⟨by simp [a], by simp [b], push_mem c he, ?_, ?_⟩
        · intro x hx
          simp only [List.mem_append, List.mem_singleton] at hx
          rcases hx with hx | rfl
          · exact d x hx
          · exact he
        · intro x hx
          simp only [List.mem_append, List.mem_singleton] at hx
          rcases hx with hx | rfl
          · exact f x hx
          · exact stY_le (isMem_true c).1
      · rw [Bool.not_eq_true] at he
        simp only [he] at h
        cases h
def runB (l s : Int) (cs ms xs : List Int) : Bool := isMem l s cs ms && (isSeq xs && (runUpto l s cs ms xs xs.length).isSome)
def runR (l s : Int) (cs ms xs : List Int) : RunS := (runUpto l s cs ms xs xs.length).getD ⟨[], [], []⟩
def runY (l s : Int) (cs ms xs : List Int) : List Int := seqOr (runB l s cs ms xs) (runR l s cs ms xs).ys
def runE (l s : Int) (cs ms xs : List Int) : List Int := seqOr (runB l s cs ms xs) (runR l s cs ms xs).es
def runM (l s : Int) (cs ms xs : List Int) : List Int := seqOr (runB l s cs ms xs) (runR l s cs ms xs).ms
theorem runB_no {l s : Int} {cs ms xs : List Int} (h : isMem l s cs ms = false ∨ isSeq xs = false ∨ runUpto l s cs ms xs xs.length = none) : runB l s cs ms xs = false := by
  rcases h with h | h | h <;> simp [runB, h]
theorem runB_yes {l s : Int} {cs ms xs : List Int} {r : RunS} (h1 : isMem l s cs ms = true) (h2 : isSeq xs = true) (h : runUpto l s cs ms xs xs.length = some r) : runB l s cs ms xs = true ∧ runR l s cs ms xs = r := by
  simp [runB, runR, h1, h2, h]
theorem runB_true {l s : Int} {cs ms xs : List Int} (h : runB l s cs ms xs = true) : isMem l s cs ms = true ∧ isSeq xs = true ∧ runUpto l s cs ms xs xs.length = some (runR l s cs ms xs) := by
  simp only [runB, Bool.and_eq_true, Option.isSome_iff_exists] at h
  obtain ⟨h1, h2, r, h3⟩ := h
  exact ⟨h1, h2, by rw [h3]; simp [runR, h3]⟩
theorem run_lens (l s : Int) (cs ms xs : List Int) : (runY l s cs ms xs).length ≤ 1048576 ∧ (runE l s cs ms xs).length ≤ 1048576 ∧ (runM l s cs ms xs).length ≤ 1048576 := by
  refine ⟨seqOr_len fun h => ?_, seqOr_len fun h => ?_, seqOr_len fun h => ?_⟩
  all_goals
    obtain ⟨h1, h2, h3⟩ := runB_true h
    have h4 := run_ok h1 _ _ h3
    have h5 := isSeq_len h2
    have h6 := isMem_true h4.2.2.1
    have h7 := isMod_true h6.1
    omega

/-- What the inputs of a modulator may be. -/
def absUpto (cs : List Int) : Nat → Int
  | 0 => 0
  | k + 1 => absUpto cs k + max (cs.getD k 0) (-(cs.getD k 0))
theorem absUpto_succ (cs : List Int) (k : Nat) : absUpto cs (k + 1) = absUpto cs k + max (cs.getD k 0) (-(cs.getD k 0)) := rfl
theorem absUpto_bd {cs : List Int} (h : ∀ k, -100 ≤ cs.getD k 0 ∧ cs.getD k 0 ≤ 100) (k : Nat) : 0 ≤ absUpto cs k ∧ absUpto cs k ≤ 100 * k := by
  induction k with
  | zero => simp [absUpto]
  | succ k ih => rw [absUpto_succ]; have := h k; omega
def safeV (l s : Int) (cs : List Int) : Int := if isMod l s cs = true then max (-1) (s * (l - absUpto cs cs.length)) else 0
theorem safeV_no {l s : Int} {cs : List Int} (h : isMod l s cs = false) : safeV l s cs = 0 := by simp [safeV, h]
theorem safeV_yes {l s : Int} {cs : List Int} (h : isMod l s cs = true) : safeV l s cs = max (-1) (s * (l - absUpto cs cs.length)) := by simp [safeV, h]
theorem safe_split (l s a : Int) : s * (l - a) = l * s - s * a := by rw [Int.mul_sub, Int.mul_comm s l]

/-- The shape of a modulator; its memory at first; the modulator of an order. -/
def shapeV (l s : Int) (cs : List Int) : List Int := seqOr (isMod l s cs) (1 :: cs)
def plainV (l s : Int) (cs : List Int) : List Int := seqOr (isMod l s cs) (List.replicate cs.length 0)
theorem shapeV_len (l s : Int) (cs : List Int) : (shapeV l s cs).length ≤ 1048576 :=
  seqOr_len fun h => by have := isMod_true h; rw [List.length_cons]; omega
theorem plainV_len (l s : Int) (cs : List Int) : (plainV l s cs).length ≤ 1048576 :=
  seqOr_len fun h => by have := isMod_true h; rw [List.length_replicate]; omega

/-- Outputs and errors give inputs back. -/
def inMs (ms es : List Int) : Nat → List Int
  | 0 => ms
  | k + 1 => push (inMs ms es k) (es.getD k 0)
def inF (cs ms ys es : List Int) (k : Nat) : Int := ys.getD k 0 - es.getD k 0 - fed cs (inMs ms es k)
def inL (cs ms ys es : List Int) : List Int := tab (inF cs ms ys es) ys.length
def inB (l s : Int) (cs ms ys es : List Int) : Bool := isMem l s cs ms && (isSeq ys && (isSeq es && (decide (ys.length = es.length) && isSeq (inL cs ms ys es))))
def inV (l s : Int) (cs ms ys es : List Int) : List Int := seqOr (inB l s cs ms ys es) (inL cs ms ys es)
theorem inB_no {l s : Int} {cs ms ys es : List Int} (h : isMem l s cs ms = false ∨ isSeq ys = false ∨ isSeq es = false ∨ ys.length ≠ es.length) : inB l s cs ms ys es = false := by
  rcases h with h | h | h | h <;> simp [inB, h]
theorem inB_mk {l s : Int} {cs ms ys es : List Int} (h1 : isMem l s cs ms = true) (h2 : isSeq ys = true) (h3 : isSeq es = true) (h4 : ys.length = es.length) : inB l s cs ms ys es = isSeq (inL cs ms ys es) := by
  simp [inB, h1, h2, h3, h4]
theorem inV_len (l s : Int) (cs ms ys es : List Int) : (inV l s cs ms ys es).length ≤ 1048576 :=
  seqOr_len fun h => by
    simp [inB] at h
    have := isSeq_len h.2.2.2.2
    omega
theorem inMs_mem {l s : Int} {cs ms es : List Int} (h : isMem l s cs ms = true) (he : isSeq es = true) (k : Nat) : isMem l s cs (inMs ms es k) = true := by
  induction k with
  | zero => exact h
  | succ k ih => exact push_mem ih (by have := isSeq_at he k; exact sampleB_mk this.1 this.2)
end Go.Proofs.Ytmgjbldnohkodaa
