/- Plain functions on words: mechanical words, opposites, parities, runs, sums of parts. Nothing of the program is named here. -/
import Derived.Test.YtodoebamkijalaaPureS
import Derived.Test.YtodoebamkijalaaWord
namespace Go.Proofs.Ytodoebamkijalaa

/-- The i-th element of the mechanical word of p over q with a phase. -/
def mechF (p q f : Int) (i : Nat) : Int := (((i : Int) + 1) * p + f) / q - ((i : Int) * p + f) / q
def mechB (p q f n : Int) : Bool := decide (1 ≤ q ∧ q ≤ 500 ∧ 0 ≤ p ∧ p ≤ q ∧ 0 ≤ f ∧ f < q ∧ 0 ≤ n ∧ n ≤ 1000)
def mechV (p q f n : Int) : List Int := seqOr (mechB p q f n) (tab (mechF p q f) n.toNat)
theorem mechV_len (p q f n : Int) : (mechV p q f n).length ≤ 1048576 :=
  seqOr_len fun h => by
    rw [tab_length]
    simp only [mechB, decide_eq_true_eq] at h
    omega
/-- What the walk needs of the products and quotients of a round. -/
theorem mech_bd {p q f : Int} {i : Nat} (h1 : 1 ≤ q) (h2 : q ≤ 500) (h3 : 0 ≤ p) (h4 : p ≤ q) (h5 : 0 ≤ f) (h6 : f < q) (hi : i < 1000) :
    (0 ≤ ((i : Int) + 1) * p ∧ ((i : Int) + 1) * p ≤ 500000) ∧ (0 ≤ (i : Int) * p ∧ (i : Int) * p ≤ 500000) ∧
    (0 ≤ (((i : Int) + 1) * p + f) / q ∧ (((i : Int) + 1) * p + f) / q ≤ 1000000) ∧ (0 ≤ ((i : Int) * p + f) / q ∧ ((i : Int) * p + f) / q ≤ 1000000) := by
  have a1 : 0 ≤ ((i : Int) + 1) * p := Int.mul_nonneg (by omega) h3
  have a2 : ((i : Int) + 1) * p ≤ 1000 * 500 := Int.mul_le_mul (by omega) (by omega) h3 (by omega)
  have b1 : 0 ≤ (i : Int) * p := Int.mul_nonneg (by omega) h3
  have b2 : (i : Int) * p ≤ 1000 * 500 := Int.mul_le_mul (by omega) (by omega) h3 (by omega)
  have c1 : 0 ≤ (((i : Int) + 1) * p + f) / q := Int.ediv_nonneg (by omega) (by omega)
  have c2 := Int.ediv_le_self q (show 0 ≤ ((i : Int) + 1) * p + f by omega)
  have d1 : 0 ≤ ((i : Int) * p + f) / q := Int.ediv_nonneg (by omega) (by omega)
  have d2 := Int.ediv_le_self q (show 0 ≤ (i : Int) * p + f by omega)
  omega
/-- The word of a fraction in lowest terms. -/
def gcdI (a b : Int) : Int := (Nat.gcd a.toNat b.toNat : Nat)
theorem gcdI_zero (a : Int) (h : 0 ≤ a) : gcdI a 0 = a := by unfold gcdI; rw [show (0 : Int).toNat = 0 from rfl, Nat.gcd_zero_right]; omega
theorem gcdI_step {a b : Int} (ha : 0 ≤ a) (hb : 0 ≤ b) : gcdI a b = gcdI b (a % b) := by
  obtain ⟨m, rfl⟩ := Int.eq_ofNat_of_zero_le ha
  obtain ⟨n, rfl⟩ := Int.eq_ofNat_of_zero_le hb
  unfold gcdI
  rw [← Int.natCast_emod, Int.toNat_natCast, Int.toNat_natCast, Int.toNat_natCast, Nat.gcd_comm, Nat.gcd_rec, Nat.gcd_comm]
theorem gcdI_pos {a b : Int} (hb : 1 ≤ b) : 1 ≤ gcdI a b := by
  unfold gcdI
  have := Nat.gcd_pos_of_pos_right a.toNat (show 0 < b.toNat by omega)
  omega
def chrB (p q : Int) : Bool := decide (1 ≤ q ∧ q ≤ 500 ∧ 0 ≤ p ∧ p ≤ q) && decide (gcdI p q = 1)
def chrV (p q : Int) : List Int := seqOr (chrB p q) (tab (mechF p q 0) q.toNat)
theorem chrV_len (p q : Int) : (chrV p q).length ≤ 1048576 :=
  seqOr_len fun h => by
    rw [tab_length]
    simp only [chrB, Bool.and_eq_true, decide_eq_true_eq] at h
    omega

/-- The word of the opposite elements. -/
def compF (xs : List Int) (i : Nat) : Int := 1 - xs.getD i 0
def compL (xs : List Int) : List Int := tab (compF xs) xs.length
def compV (xs : List Int) : List Int := seqOr (isWord xs) (compL xs)
theorem compV_len (xs : List Int) : (compV xs).length ≤ 1048576 :=
  seqOr_len fun h => by rw [compL, tab_length]; have := isWord_len h; omega
/-- The parities of the sums. -/
def interF (xs : List Int) (i : Nat) : Int := sumUpto xs (i + 1) % 2
def interL (xs : List Int) : List Int := tab (interF xs) xs.length
def interV (xs : List Int) : List Int := seqOr (isWord xs) (interL xs)
theorem interV_len (xs : List Int) : (interV xs).length ≤ 1048576 :=
  seqOr_len fun h => by rw [interL, tab_length]; have := isWord_len h; omega
theorem word_at {xs : List Int} (h : isWord xs = true) (k : Nat) : 0 ≤ xs.getD k 0 ∧ xs.getD k 0 ≤ 1 := by
  by_cases hk : k < xs.length
  · rw [getD_at xs k hk]
    have := bitB_true (isWord_mem h _ (List.getElem_mem hk))
    omega
  · have : xs.getD k 0 = 0 := by simp [List.getD, List.getElem?_eq_none (Nat.le_of_not_lt hk)]
    rw [this]; omega
theorem word_sum {xs : List Int} (h : isWord xs = true) (k : Nat) : 0 ≤ sumUpto xs k ∧ sumUpto xs k ≤ k := by
  induction k with
  | zero => simp [sumUpto]
  | succ k ih =>
    rw [sumUpto_succ]
    have := word_at h k
    omega
theorem inter_step (xs : List Int) (k : Nat) : (sumUpto xs k % 2 + xs.getD k 0) % 2 = interF xs k := by
  unfold interF
  rw [sumUpto_succ]
  omega

/-- The lengths of the runs of the first k elements. -/
def runsUpto (xs : List Int) : Nat → List Int
  | 0 => []
  | k + 1 => if k = 0 ∨ ¬ xs.getD (k - 1) 0 = xs.getD k 0 then runsUpto xs k ++ [1] else (runsUpto xs k).set ((runsUpto xs k).length - 1) ((runsUpto xs k).getD ((runsUpto xs k).length - 1) 0 + 1)
theorem runs_new {xs : List Int} {k : Nat} (h : k = 0 ∨ ¬ xs.getD (k - 1) 0 = xs.getD k 0) : runsUpto xs (k + 1) = runsUpto xs k ++ [1] := by
  show (if _ then _ else _) = _
  rw [if_pos h]
theorem runs_old {xs : List Int} {k : Nat} (h0 : 0 < k) (h : xs.getD (k - 1) 0 = xs.getD k 0) : runsUpto xs (k + 1) = (runsUpto xs k).set ((runsUpto xs k).length - 1) ((runsUpto xs k).getD ((runsUpto xs k).length - 1) 0 + 1) := by
  show (if _ then _ else _) = _
  rw [if_neg (by rintro (h1 | h1); omega; exact h1 h)]
theorem runs_len (xs : List Int) (k : Nat) : (runsUpto xs k).length ≤ k ∧ (0 < k → 0 < (runsUpto xs k).length) := by
  induction k with
  | zero => simp [runsUpto]
  | succ k ih =>
    by_cases h : k = 0 ∨ ¬ xs.getD (k - 1) 0 = xs.getD k 0
    · rw [runs_new h, List.length_append]
      simp only [List.length_cons, List.length_nil]
      omega
    · have h0 : 0 < k := by omega
      rw [runs_old h0 (Decidable.of_not_not fun e => h (.inr e)), List.length_set]
      omega
theorem runs_bd (xs : List Int) (k : Nat) : ∀ i, 0 ≤ (runsUpto xs k).getD i 0 ∧ (runsUpto xs k).getD i 0 ≤ k := by
  induction k with
  | zero => intro i; simp [runsUpto]
  | succ k ih =>
    intro i
    by_cases h : k = 0 ∨ ¬ xs.getD (k - 1) 0 = xs.getD k 0
    · rw [runs_new h]
      by_cases hi : i < (runsUpto xs k).length
      · have e : (runsUpto xs k ++ [1]).getD i 0 = (runsUpto xs k).getD i 0 := by simp [List.getD, List.getElem?_append_left hi]
        rw [e]; have := ih i; omega
      · have e : (runsUpto xs k ++ [1]).getD i 0 = ([1] : List Int).getD (i - (runsUpto xs k).length) 0 := by simp [List.getD, List.getElem?_append_right (Nat.le_of_not_lt hi)]
        rw [e]
        rcases (i - (runsUpto xs k).length) with _ | m
        · simp; omega
        · simp; omega
    · have h0 : 0 < k := by omega
      rw [runs_old h0 (Decidable.of_not_not fun e => h (.inr e))]
      by_cases hi : i = (runsUpto xs k).length - 1
      · subst hi
        have hl := (runs_len xs k).2 h0
        have e : ((runsUpto xs k).set ((runsUpto xs k).length - 1) ((runsUpto xs k).getD ((runsUpto xs k).length - 1) 0 + 1)).getD ((runsUpto xs k).length - 1) 0 = (runsUpto xs k).getD ((runsUpto xs k).length - 1) 0 + 1 := by
          rw [List.getD, List.getElem?_set_self (by omega)]; rfl
        rw [e]
        have := ih ((runsUpto xs k).length - 1)
        omega
      · have e : ((runsUpto xs k).set ((runsUpto xs k).length - 1) ((runsUpto xs k).getD ((runsUpto xs k).length - 1) 0 + 1)).getD i 0 = (runsUpto xs k).getD i 0 := by
          rw [List.getD, List.getElem?_set_ne (by omega)]; rfl
        rw [e]
        have := ih i
        omega
def runsV (xs : List Int) : List Int := seqOr (isWord xs) (runsUpto xs xs.length)
theorem runsV_len (xs : List Int) : (runsV xs).length ≤ 1048576 :=
  seqOr_len fun h => by have := (runs_len xs xs.length).1; have := isWord_len h; omega
/-- 'append(out, 0)' and one more in the last place. -/
theorem set_last (ys : List Int) (a : Int) : (ys ++ [0]).set ys.length a = ys ++ [a] := by
  rw [List.set_append_right _ _ (Nat.le_refl _), Nat.sub_self]; rfl
theorem last_of (ys : List Int) (a : Int) : (ys ++ [a]).getD ys.length 0 = a := by
  simp [List.getD]

/-- The sum of the n elements that end before k. -/
def winS (xs : List Int) (n k : Nat) : Int := sumUpto xs k - sumUpto xs (k - n)
/-- The least and the greatest of them, over ends n, n + 1, .., n + m. -/
def winLo (xs : List Int) (n : Nat) : Nat → Int
  | 0 => winS xs n n
  | m + 1 => min (winLo xs n m) (winS xs n (n + (m + 1)))
def winHi (xs : List Int) (n : Nat) : Nat → Int
  | 0 => winS xs n n
  | m + 1 => max (winHi xs n m) (winS xs n (n + (m + 1)))
theorem sum_between {xs : List Int} (h : isWord xs = true) (a b : Nat) : 0 ≤ sumUpto xs (a + b) - sumUpto xs a ∧ sumUpto xs (a + b) - sumUpto xs a ≤ b := by
  induction b with
  | zero => simp
  | succ b ih =>
    rw [show a + (b + 1) = (a + b) + 1 from rfl, sumUpto_succ]
    have := word_at h (a + b)
    omega
theorem winS_bd {xs : List Int} (h : isWord xs = true) (n k : Nat) : 0 ≤ winS xs n k ∧ winS xs n k ≤ n := by
  unfold winS
  rcases Nat.lt_or_ge k n with hk | hk
  · rw [show k - n = 0 from by omega]
    have := word_sum h k
    simp only [sumUpto]
    omega
  · have := sum_between h (k - n) n
    rw [show k - n + n = k from by omega] at this
    exact this
theorem winS_succ (xs : List Int) {n k : Nat} (h : n ≤ k) : winS xs n (k + 1) = winS xs n k + xs.getD k 0 - xs.getD (k - n) 0 := by
  unfold winS
  rw [sumUpto_succ, show k + 1 - n = (k - n) + 1 from by omega, sumUpto_succ]
  omega
theorem winS_small (xs : List Int) {n k : Nat} (h : k ≤ n) : winS xs n k = sumUpto xs k := by
  unfold winS
  rw [show k - n = 0 from by omega]
  simp [sumUpto]
theorem winLo_bd {xs : List Int} (h : isWord xs = true) (n m : Nat) : 0 ≤ winLo xs n m ∧ winLo xs n m ≤ n := by
  induction m with
  | zero => exact winS_bd h n n
  | succ m ih =>
    show 0 ≤ min _ _ ∧ min _ _ ≤ _
    have := winS_bd h n (n + (m + 1))
    omega
theorem winHi_bd {xs : List Int} (h : isWord xs = true) (n m : Nat) : 0 ≤ winHi xs n m ∧ winHi xs n m ≤ n := by
  induction m with
  | zero => exact winS_bd h n n
  | succ m ih =>
    show 0 ≤ max _ _ ∧ max _ _ ≤ _
    have := winS_bd h n (n + (m + 1))
    omega
def partB (xs : List Int) (n : Int) : Bool := isWord xs && (decide (1 ≤ n) && decide (n ≤ xs.length))
def partLo (xs : List Int) (n : Int) : Int := if partB xs n = true then winLo xs n.toNat (xs.length - n.toNat) else 0
def partHi (xs : List Int) (n : Int) : Int := if partB xs n = true then winHi xs n.toNat (xs.length - n.toNat) else 0
theorem partB_no {xs : List Int} {n : Int} (h : isWord xs = false ∨ n < 1 ∨ (xs.length : Int) < n) : partB xs n = false := by
  rcases h with h | h | h
  · simp [partB, h]
  · have : ¬ 1 ≤ n := by omega
    simp [partB, this]
  · have : ¬ n ≤ (xs.length : Int) := by omega
    simp [partB, this]
theorem partB_yes {xs : List Int} {n : Int} (h : isWord xs = true) (h1 : 1 ≤ n) (h2 : n ≤ xs.length) : partB xs n = true := by simp [partB, h, h1, h2]
/-- What the program's loop holds of its sums: none yet, before the first whole part. -/
def loUpto (xs : List Int) (n k : Nat) : Int := if k < n then n else winLo xs n (k - n)
def hiUpto (xs : List Int) (n k : Nat) : Int := if k < n then 0 else winHi xs n (k - n)
theorem loUpto_bd {xs : List Int} (h : isWord xs = true) (n k : Nat) : 0 ≤ loUpto xs n k ∧ loUpto xs n k ≤ n := by
  unfold loUpto
  have := winLo_bd h n (k - n)
  split <;> omega
theorem hiUpto_bd {xs : List Int} (h : isWord xs = true) (n k : Nat) : 0 ≤ hiUpto xs n k ∧ hiUpto xs n k ≤ n := by
  unfold hiUpto
  have := winHi_bd h n (k - n)
  split <;> omega
theorem lo_early (xs : List Int) {n k : Nat} (h : k + 1 < n) : loUpto xs n (k + 1) = loUpto xs n k ∧ hiUpto xs n (k + 1) = hiUpto xs n k := by
  unfold loUpto hiUpto
  rw [if_pos h, if_pos h, if_pos (by omega), if_pos (by omega)]
  exact ⟨rfl, rfl⟩
theorem lo_late {xs : List Int} (hw : isWord xs = true) {n k : Nat} (h : n ≤ k + 1) : loUpto xs n (k + 1) = min (loUpto xs n k) (winS xs n (k + 1)) ∧ hiUpto xs n (k + 1) = max (hiUpto xs n k) (winS xs n (k + 1)) := by
  unfold loUpto hiUpto
  rw [if_neg (show ¬ k + 1 < n by omega), if_neg (show ¬ k + 1 < n by omega)]
  by_cases hk : k < n
  · obtain rfl : n = k + 1 := by omega
    rw [if_pos hk, if_pos hk, Nat.sub_self]
    have := winS_bd hw (k + 1) (k + 1)
    show winS xs (k + 1) (k + 1) = _ ∧ winS xs (k + 1) (k + 1) = _
    omega
  · rw [if_neg hk, if_neg hk, show k + 1 - n = (k - n) + 1 from by omega]
    show min _ _ = _ ∧ max _ _ = _
    rw [show n + (k - n + 1) = k + 1 from by omega]
    exact ⟨rfl, rfl⟩
end Go.Proofs.Ytodoebamkijalaa
