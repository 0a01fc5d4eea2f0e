/- Plain laws of sums and convolutions of functions on the naturals. Nothing of the program is named here. -/
import Derived.Test.YtmgjbldnohkodaaPureS
namespace Go.Proofs.Ytmgjbldnohkodaa

/-- f 0 + .. + f (n - 1). -/
def sm (f : Nat → Int) : Nat → Int
  | 0 => 0
  | n + 1 => sm f n + f n
theorem sm_succ (f : Nat → Int) (n : Nat) : sm f (n + 1) = sm f n + f n := rfl
theorem sm_head (f : Nat → Int) (n : Nat) : sm f (n + 1) = f 0 + sm (fun i => f (i + 1)) n := by
  induction n with
  | zero => simp [sm]
  | succ n ih => rw [sm_succ, ih, sm_succ]; omega
theorem sm_congr {f g : Nat → Int} {n : Nat} (h : ∀ i, i < n → f i = g i) : sm f n = sm g n := by
  induction n with
  | zero => rfl
  | succ n ih => rw [sm_succ, sm_succ, ih (fun i hi => h i (by omega)), h n (by omega)]
theorem sm_add (f g : Nat → Int) (n : Nat) : sm (fun i => f i + g i) n = sm f n + sm g n := by
  induction n with
  | zero => rfl
  | succ n ih => rw [sm_succ, sm_succ, sm_succ, ih]; omega
theorem sm_mul (c : Int) (f : Nat → Int) (n : Nat) : sm (fun i => c * f i) n = c * sm f n := by
  induction n with
  | zero => simp [sm]
  | succ n ih => rw [sm_succ, sm_succ, ih, Int.mul_add]
theorem sm_zero {f : Nat → Int} {n : Nat} (h : ∀ i, i < n → f i = 0) : sm f n = 0 := by
  induction n with
  | zero => rfl
  | succ n ih => rw [sm_succ, ih (fun i hi => h i (by omega)), h n (by omega)]; rfl
theorem sm_more {f : Nat → Int} {n m : Nat} (h : ∀ i, n ≤ i → f i = 0) (hm : n ≤ m) : sm f m = sm f n := by
  obtain ⟨k, rfl⟩ : ∃ k, m = n + k := ⟨m - n, by omega⟩
  induction k with
  | zero => rfl
  | succ k ih => rw [← Nat.add_assoc, sm_succ, ih (by omega), h _ (by omega)]; omega
theorem sm_bd {f : Nat → Int} {M : Int} {n : Nat} (h : ∀ i, i < n → -M ≤ f i ∧ f i ≤ M) : -(M * n) ≤ sm f n ∧ sm f n ≤ M * n := by
  induction n with
  | zero => simp [sm]
  | succ n ih =>
    rw [sm_succ]
    have h1 := ih (fun i hi => h i (by omega))
    have h2 := h n (by omega)
    have e : M * ((n + 1 : Nat) : Int) = M * n + M := by rw [Int.natCast_add, Int.mul_add]; simp
    rw [e]
    omega

/-- The product of two rows. -/
def cv (f g : Nat → Int) (n : Nat) : Int := sm (fun i => f i * g (n - i)) (n + 1)
theorem cv_zero (f g : Nat → Int) : cv f g 0 = f 0 * g 0 := by simp [cv, sm]
theorem cv_head (f g : Nat → Int) (n : Nat) : cv f g (n + 1) = f 0 * g (n + 1) + cv (fun i => f (i + 1)) g n := by
  unfold cv
  rw [sm_head]
  congr 1
  exact sm_congr fun i _ => by rw [show n + 1 - (i + 1) = n - i from by omega]
theorem cv_addl (f f' g : Nat → Int) (n : Nat) : cv (fun i => f i + f' i) g n = cv f g n + cv f' g n := by
  unfold cv
  rw [← sm_add]
  exact sm_congr fun i _ => Int.add_mul _ _ _
theorem cv_addr (f g g' : Nat → Int) (n : Nat) : cv f (fun i => g i + g' i) n = cv f g n + cv f g' n := by
  unfold cv
  rw [← sm_add]
  exact sm_congr fun i _ => Int.mul_add _ _ _
theorem cv_mull (c : Int) (f g : Nat → Int) (n : Nat) : cv (fun i => c * f i) g n = c * cv f g n := by
  unfold cv
  rw [← sm_mul]
  exact sm_congr fun i _ => Int.mul_assoc _ _ _
theorem cv_congr {f f' g g' : Nat → Int} {n : Nat} (h1 : ∀ i, i ≤ n → f i = f' i) (h2 : ∀ i, i ≤ n → g i = g' i) : cv f g n = cv f' g' n := by
  unfold cv
  exact sm_congr fun i hi => by rw [h1 i (by omega), h2 (n - i) (by omega)]
theorem cv_assoc (n : Nat) : ∀ (f g h : Nat → Int), cv (cv f g) h n = cv f (cv g h) n := by
  induction n with
  | zero => intro f g h; rw [cv_zero, cv_zero, cv_zero, cv_zero, Int.mul_assoc]
  | succ n ih =>
    intro f g h
    rw [cv_head (cv f g), cv_head f (cv g h), cv_zero, cv_head g h, ← ih]
    have e : cv (fun i => cv f g (i + 1)) h n = f 0 * cv (fun i => g (i + 1)) h n + cv (cv (fun i => f (i + 1)) g) h n := by
      rw [← cv_mull, ← cv_addl]
      exact cv_congr (fun i _ => cv_head f g i) (fun _ _ => rfl)
    rw [e, Int.mul_add, Int.mul_assoc]
    omega
theorem cv_last (n : Nat) : ∀ (f g : Nat → Int), cv f g (n + 1) = f (n + 1) * g 0 + cv f (fun i => g (i + 1)) n := by
  intro f g
  unfold cv
  rw [sm_succ, Nat.sub_self, Int.add_comm]
  congr 1
  exact sm_congr fun i hi => by rw [show n + 1 - i = n - i + 1 from by omega]
theorem cv_comm (n : Nat) : ∀ (f g : Nat → Int), cv f g n = cv g f n := by
  induction n with
  | zero => intro f g; rw [cv_zero, cv_zero, Int.mul_comm]
  | succ n ih =>
    intro f g
    rw [cv_head, cv_last n g f, ih, Int.mul_comm]
end Go.Proofs.Ytmgjbldnohkodaa
