/- The contracts of MechanicalWord and ChristoffelWord, of the program and of the reference, and of what they call. -/
import Derived.Test.YtodoebamkijalaaPureW
namespace Go.Proofs.Ytodoebamkijalaa
open Go.RowKit
set_option linter.unusedVariables false

def shB (p q : Int) : Bool := decide (1 ≤ q ∧ q ≤ 500 ∧ 0 ≤ p ∧ p ≤ q)
theorem shB_true {p q : Int} (h : shB p q = true) : 1 ≤ q ∧ q ≤ 500 ∧ 0 ≤ p ∧ p ≤ q := by simpa [shB] using h
theorem shB_mk {p q : Int} (h1 : 1 ≤ q) (h2 : q ≤ 500) (h3 : 0 ≤ p) (h4 : p ≤ q) : shB p q = true := by simp [shB, h1, h2, h3, h4]
theorem shB_no {p q : Int} (h : ¬ (1 ≤ q ∧ q ≤ 500 ∧ 0 ≤ p ∧ p ≤ q)) : shB p q = false := by
  rw [← Bool.not_eq_true]
  intro h1
  exact h (shB_true h1)
theorem mechB_no {p q f n : Int} (h : shB p q = false ∨ f < 0 ∨ q ≤ f ∨ n < 0 ∨ 1000 < n) : mechB p q f n = false := by
  rw [← Bool.not_eq_true]
  intro h1
  simp only [mechB, decide_eq_true_eq] at h1
  rcases h with h | h
  · rw [shB_mk h1.1 h1.2.1 h1.2.2.1 h1.2.2.2.1] at h; cases h
  · omega
theorem mechB_yes {p q f n : Int} (h : shB p q = true) (h1 : 0 ≤ f) (h2 : f < q) (h3 : 0 ≤ n) (h4 : n ≤ 1000) : mechB p q f n = true := by
  have := shB_true h
  simp only [mechB, decide_eq_true_eq]
  omega
theorem chrB_no {p q : Int} (h : shB p q = false ∨ gcdI p q ≠ 1) : chrB p q = false := by
  rcases h with h | h
  · have h' : decide (1 ≤ q ∧ q ≤ 500 ∧ 0 ≤ p ∧ p ≤ q) = false := h
    simp only [chrB, h', Bool.false_and]
  · simp [chrB, h]
theorem chrB_yes {p q : Int} (h : shB p q = true) (h1 : gcdI p q = 1) : chrB p q = true := by
  have h' : decide (1 ≤ q ∧ q ≤ 500 ∧ 0 ≤ p ∧ p ≤ q) = true := h
  simp only [chrB, h', h1, Bool.true_and, decide_true]
theorem chr_mech {p q : Int} (h : chrB p q = true) : chrV p q = mechV p q 0 q ∧ mechB p q 0 q = true := by
  have h' := h
  simp only [chrB, Bool.and_eq_true, decide_eq_true_eq] at h'
  have h2 : mechB p q 0 q = true := by simp only [mechB, decide_eq_true_eq]; omega
  exact ⟨by unfold chrV mechV; rw [h, h2], h2⟩
/-- Division and the rest of a number from 0 on. -/
theorem quo_of {a b : Int} (h : 0 ≤ a) : a.tdiv b = a / b := Int.tdiv_eq_ediv_of_nonneg h
set_option maxHeartbeats 400000 in
theorem share_i (p q : Int) (w : World) : Calls Try.prog 43 #[.int .i64 p, .int .i64 q] w fun e w' => e = .returned (.bool (shB p q)) ∧ w = w' := by
  by_cases h1 : 1 ≤ q
  · by_cases h2 : q ≤ 500
    · by_cases h3 : 0 ≤ p
      · go_enter Try.func43, Try.ntmps43
        go_wp2
        go_ret
        exact ⟨ret_bool (by rw [Bool.eq_iff_iff]; simp [shB]; omega), rfl⟩
      · have hr := Lib.hid (shB_no (p := p) (q := q) (by omega))
        go_enter Try.func43, Try.ntmps43
        go_wp2
        go_ret
        exact ⟨ret_bool hr.out.symm, rfl⟩
    · have hr := Lib.hid (shB_no (p := p) (q := q) (by omega))
      go_enter Try.func43, Try.ntmps43
      go_wp2
      go_ret
      exact ⟨ret_bool hr.out.symm, rfl⟩
  · have hr := Lib.hid (shB_no (p := p) (q := q) (by omega))
    go_enter Try.func43, Try.ntmps43
    go_wp2
    go_ret
    exact ⟨ret_bool hr.out.symm, rfl⟩
set_option maxHeartbeats 400000 in
theorem common_i (a b : Int) (w : World) (ha : 0 ≤ a ∧ a ≤ 1000000) (hb : 0 ≤ b ∧ b ≤ 1000000) : Calls Try.prog 45 #[.int .i64 a, .int .i64 b] w fun e w' => e = .returned (.int .i64 (gcdI a b)) ∧ Below w.heap.size w w' := by
  go_enter Try.func45, Try.ntmps45
  go_wp2
  go_loopw [0, 1] (fun u v wr => ∃ x y : Int, 0 ≤ x ∧ x ≤ 1000000 ∧ 0 ≤ y ∧ y ≤ 1000000 ∧ u = .int .i64 x ∧ v = .int .i64 y ∧ Hid (gcdI x y = gcdI a b) ∧ Below w.heap.size w wr) (fun _ v _ => (intOf v).toNat)
  case atStart => exact ⟨a, b, ha.1, ha.2, hb.1, hb.2, rfl, rfl, rfl, Below.refl _ _⟩
  case round =>
    obtain ⟨x, y, hx0, hx1, hy0, hy1, rfl, rfl, HG, hbel⟩ := hrel
    by_cases h0 : y = 0
    · subst h0
      have HE : Hid (x = gcdI a b) := by show _ = _; rw [← HG.out, gcdI_zero x hx0]
      go_wp2_with fail
      go_ret
      exact ⟨ret_int HE.out, hbel⟩
    · have hne : (y != 0) = true := by rw [bne_iff_ne]; exact h0
      have hy : 1 ≤ y := by omega
      have HG1 : Hid (gcdI y (x % y) = gcdI a b) := by show _ = _; rw [← gcdI_step hx0 hy0]; exact HG.out
      have hm0 := Int.emod_nonneg x (show y ≠ 0 by omega)
      have hm1 := Int.emod_lt_of_pos x (show 0 < y by omega)
      have e1 : x.tmod y = x % y := Int.tmod_eq_emod_of_nonneg hx0
      go_wp2_with fail
      go_quiet (fail)
      go_wp2_with fail
      go_roundw
      case rel => exact ⟨y, x % y, hy0, hy1, hm0, by omega, rfl, rfl, HG1, below_drewN hbel _⟩
      case measure => simp [intOf]; omega
set_option maxHeartbeats 400000 in
theorem common_s (a b : Int) (w : World) (ha : 0 ≤ a ∧ a ≤ 1000000) (hb : 0 ≤ b ∧ b ≤ 1000000) : Calls Try.prog 44 #[.int .i64 a, .int .i64 b] w fun e w' => e = .returned (.int .i64 (gcdI a b)) ∧ w = w' := by
  go_enter Try.func44, Try.ntmps44
  go_wp2
  go_loop [0, 1, 5] (fun u v _ => ∃ x y : Int, 0 ≤ x ∧ x ≤ 1000000 ∧ 0 ≤ y ∧ y ≤ 1000000 ∧ u = .int .i64 x ∧ v = .int .i64 y ∧ Hid (gcdI x y = gcdI a b)) (fun _ v _ => (intOf v).toNat)
  case atStart => exact ⟨a, b, ha.1, ha.2, hb.1, hb.2, rfl, rfl, rfl⟩
  case round =>
    obtain ⟨x, y, hx0, hx1, hy0, hy1, rfl, rfl, HG⟩ := hrel
    by_cases h0 : y = 0
    · subst h0
      have HE : Hid (x = gcdI a b) := by show _ = _; rw [← HG.out, gcdI_zero x hx0]
      go_wp2_with fail
      go_ret
      exact ⟨ret_int HE.out, rfl⟩
    · have hne : (y != 0) = true := by rw [bne_iff_ne]; exact h0
      have hy : 1 ≤ y := by omega
      have HG1 : Hid (gcdI y (x % y) = gcdI a b) := by show _ = _; rw [← gcdI_step hx0 hy0]; exact HG.out
      have hm0 := Int.emod_nonneg x (show y ≠ 0 by omega)
      have hm1 := Int.emod_lt_of_pos x (show 0 < y by omega)
      go_wp2_with fail
      go_round
      case rel => exact ⟨y, x % y, hy0, hy1, hm0, by omega, rfl, rfl, HG1⟩
      case measure => simp [intOf]; omega
set_option maxHeartbeats 1600000 in
theorem mech_i (p q f n : Int) (w : World) (h0 : Wf p) (h1 : Wf q) (h2 : Wf f) (h3 : Wf n) :
    Calls Try.prog 13 #[.int .i64 p, .int .i64 q, .int .i64 f, .int .i64 n] w (RetOwnB w (mechV p q f n) (mechB p q f n)) := by
  unfold Wf at h0 h1 h2 h3
  cases hs : shB p q
  · have hr := Lib.hid (mechB_no (p := p) (q := q) (f := f) (n := n) (.inl hs))
    go_enter Try.func13, Try.ntmps13
    go_wp2_with fail
    refine (share_i _ _ _).mono ?_
    rw [hs]
    rintro e w' ⟨rfl, rfl⟩
    go_wp2_with fail
    go_ret2
    exact ret_none hr.out
  · have HS := Lib.hid hs
    obtain ⟨hq1, hq2, hp0, hp1⟩ := shB_true hs
    by_cases hc : f < 0
    · have hr := Lib.hid (mechB_no (p := p) (q := q) (f := f) (n := n) (.inr (.inl hc)))
      go_enter Try.func13, Try.ntmps13
      go_wp2_with fail
      refine (share_i _ _ _).mono ?_
      rw [hs]
      rintro e w' ⟨rfl, rfl⟩
      go_wp2_with fail
      go_ret2
      exact ret_none hr.out
    · have hc4 := hc
      clear hc
      by_cases hc : q ≤ f
      · have hr := Lib.hid (mechB_no (p := p) (q := q) (f := f) (n := n) (.inr (.inr (.inl hc))))
        go_enter Try.func13, Try.ntmps13
        go_wp2_with fail
        refine (share_i _ _ _).mono ?_
        rw [hs]
        rintro e w' ⟨rfl, rfl⟩
        go_wp2_with fail
        go_ret2
        exact ret_none hr.out
      · have hc6 := hc
        clear hc
        by_cases hc : n < 0
        · have hr := Lib.hid (mechB_no (p := p) (q := q) (f := f) (n := n) (.inr (.inr (.inr (.inl hc)))))
          go_enter Try.func13, Try.ntmps13
          go_wp2_with fail
          refine (share_i _ _ _).mono ?_
          rw [hs]
          rintro e w' ⟨rfl, rfl⟩
          go_wp2_with fail
          go_ret2
          exact ret_none hr.out
        · have hc8 := hc
          clear hc
          by_cases hc : 1000 < n
          · have hr := Lib.hid (mechB_no (p := p) (q := q) (f := f) (n := n) (.inr (.inr (.inr (.inr hc)))))
            go_enter Try.func13, Try.ntmps13
            go_wp2_with fail
            refine (share_i _ _ _).mono ?_
            rw [hs]
            rintro e w' ⟨rfl, rfl⟩
            go_wp2_with fail
            go_ret2
            exact ret_none hr.out
          · have hc10 := hc
            clear hc
            have hf0 : 0 ≤ f := by omega
            have hf1 : f < q := by omega
            have hB := mechB_yes (n := n) HS.out hf0 hf1 (by omega) (by omega)
            have HB := Lib.hid hB
            obtain ⟨m, rfl⟩ := Int.eq_ofNat_of_zero_le (show 0 ≤ n by omega)
            have hm : m ≤ 1000 := by omega
            have HV : Hid (mechV p q f (m : Int) = tab (mechF p q f) m) := by show _ = _; unfold mechV; rw [hB, seqOr_yes rfl, Int.toNat_natCast]
            clear hB
            go_enter Try.func13, Try.ntmps13
            go_wp2_with fail
            refine (share_i _ _ _).mono ?_
            rw [hs]
            rintro e w' ⟨rfl, rfl⟩
            go_wp2_with fail
            clear hs
            have o0 := Own.empty w w.heap.size (Nat.le_refl _)
            have b0 := box_below w (.cells #[] 3)
            go_loopw [10, 11, 35] (fun out _ i wr => ∃ (j g cap : Nat), j ≤ m ∧ i = .int .i64 j ∧ out = .slice (some ⟨g, 0, none⟩) j cap ∧ Own wr w.heap.size wr.heap.size (some ⟨g, 0, none⟩) j cap (tab (mechF p q f) j) ∧ Below w.heap.size w wr) (fun _ _ i _ => m - (intOf i).toNat)
            case atStart => exact ⟨0, _, 0, Nat.zero_le _, rfl, rfl, o0, b0⟩
            case round =>
              clear o0 b0
              obtain ⟨j, g, cap, hj, rfl, rfl, hown, hbel⟩ := hrel
              by_cases hlt : j < m
              · obtain ⟨⟨ha0, ha1⟩, ⟨hb0, hb1⟩, ⟨hc0, hc1⟩, hd0, hd1⟩ := mech_bd (i := j) hq1 hq2 hp0 hp1 hf0 hf1 (by omega)
                have hts : Hid (tab (mechF p q f) (j + 1) = tab (mechF p q f) j ++ [(((j : Int) + 1) * p + f) / q - ((j : Int) * p + f) / q]) := tab_succ _ _
                have hsz := hbel.size
                have e1 : IntKind.i64.wrap ((j : Int) + 1) = (j : Int) + 1 := IntWalk.i64_in _ (by omega)
                have e2 : IntKind.i64.wrap (((j : Int) + 1) * p) = ((j : Int) + 1) * p := IntWalk.i64_in _ (by omega)
                have e3 : IntKind.i64.wrap (((j : Int) + 1) * p + f) = ((j : Int) + 1) * p + f := IntWalk.i64_in _ (by omega)
                have e4 : (((j : Int) + 1) * p + f).tdiv q = (((j : Int) + 1) * p + f) / q := quo_of (by omega)
                have e5 : IntKind.i64.wrap ((((j : Int) + 1) * p + f) / q) = (((j : Int) + 1) * p + f) / q := IntWalk.i64_in _ (by omega)
                have e6 : IntKind.i64.wrap ((j : Int) * p) = (j : Int) * p := IntWalk.i64_in _ (by omega)
                have e7 : IntKind.i64.wrap ((j : Int) * p + f) = (j : Int) * p + f := IntWalk.i64_in _ (by omega)
                have e8 : ((j : Int) * p + f).tdiv q = ((j : Int) * p + f) / q := quo_of (by omega)
                have e9 : IntKind.i64.wrap (((j : Int) * p + f) / q) = ((j : Int) * p + f) / q := IntWalk.i64_in _ (by omega)
                have e10 : IntKind.i64.wrap ((((j : Int) + 1) * p + f) / q - ((j : Int) * p + f) / q) = (((j : Int) + 1) * p + f) / q - ((j : Int) * p + f) / q := IntWalk.i64_in _ (by omega)
                have e11 : (q == 0) = false := by rw [beq_eq_false_iff_ne]; omega
                have e12 : q ≠ 0 := by omega
                go_wp2_with fail
                go_region_held3 (fun _ => True) (trivial) ((refine step_one (by rfl) _ _ (by rfl) (by rfl) (hown.alloc _) wr.heap.size 1 ((((j : Int) + 1) * p + f) / q - ((j : Int) * p + f) / q) (by rfl) (by simp [go_sem]) (by omega) (by simp; omega) ?_; intro g1 cap1 w1 hown1 hg1; have hbw : Below w.heap.size w w1 := ((hbel.alloc hsz _).drew).trans (hg1.below (hown.alloc _) (by simp; omega))))
                rw [← hts.out] at hown1
                clear e1 e2 e3 e4 e5 e6 e7 e8 e9 e10 e11 e12 hown hg1
                go_wp2_with fail
                go_roundw
                case rel => exact ⟨j + 1, g1, cap1, by omega, by go_num, rfl, hown1, hbw⟩
                case measure => simp [intOf]; omega
              · have : j = m := by omega
                subst this
                go_wp2_with fail
                go_ret2
                have h := ret_list (b := mechB p q f (j : Int)) (ys := tab (mechF p q f) j) HB.out hown hbel
                rw [HV.out]
                rw [seqOr_yes HB.out] at h
                exact h
set_option maxHeartbeats 1600000 in
theorem word_s (p q f : Int) (m : Nat) (w : World) (hq1 : 1 ≤ q) (hq2 : q ≤ 500) (hp0 : 0 ≤ p) (hp1 : p ≤ q) (hf0 : 0 ≤ f) (hf1 : f < q) (hm : m ≤ 1000) :
    Calls Try.prog 42 #[.int .i64 p, .int .i64 q, .int .i64 f, .int .i64 m] w (RetOwn w (tab (mechF p q f) m)) := by
  go_enter Try.func42, Try.ntmps42
  go_wp2_with fail
  have o0 := Own.empty w w.heap.size (Nat.le_refl _)
  have b0 := box_below w (.cells #[] 3)
  go_loopw [9, 10] (fun out i wr => ∃ (j g cap : Nat), j ≤ m ∧ i = .int .i64 j ∧ out = .slice (some ⟨g, 0, none⟩) j cap ∧ Own wr w.heap.size wr.heap.size (some ⟨g, 0, none⟩) j cap (tab (mechF p q f) j) ∧ Below w.heap.size w wr) (fun _ i _ => m - (intOf i).toNat)
  case atStart => exact ⟨0, _, 0, Nat.zero_le _, rfl, rfl, o0, b0⟩
  case round =>
    clear o0 b0
    obtain ⟨j, g, cap, hj, rfl, rfl, hown, hbel⟩ := hrel
    by_cases hlt : j < m
    · obtain ⟨⟨ha0, ha1⟩, ⟨hb0, hb1⟩, ⟨hc0, hc1⟩, hd0, hd1⟩ := mech_bd (i := j) hq1 hq2 hp0 hp1 hf0 hf1 (by omega)
      have hts : Hid (tab (mechF p q f) (j + 1) = tab (mechF p q f) j ++ [(((j : Int) + 1) * p + f) / q - ((j : Int) * p + f) / q]) := tab_succ _ _
      have hsz := hbel.size
      have e1 : IntKind.i64.wrap ((j : Int) + 1) = (j : Int) + 1 := IntWalk.i64_in _ (by omega)
      have e2 : IntKind.i64.wrap (((j : Int) + 1) * p) = ((j : Int) + 1) * p := IntWalk.i64_in _ (by omega)
      have e3 : IntKind.i64.wrap (((j : Int) + 1) * p + f) = ((j : Int) + 1) * p + f := IntWalk.i64_in _ (by omega)
      have e4 : (((j : Int) + 1) * p + f).tdiv q = (((j : Int) + 1) * p + f) / q := quo_of (by omega)
      have e5 : IntKind.i64.wrap ((((j : Int) + 1) * p + f) / q) = (((j : Int) + 1) * p + f) / q := IntWalk.i64_in _ (by omega)
      have e6 : IntKind.i64.wrap ((j : Int) * p) = (j : Int) * p := IntWalk.i64_in _ (by omega)
      have e7 : IntKind.i64.wrap ((j : Int) * p + f) = (j : Int) * p + f := IntWalk.i64_in _ (by omega)
      have e8 : ((j : Int) * p + f).tdiv q = ((j : Int) * p + f) / q := quo_of (by omega)
      have e9 : IntKind.i64.wrap (((j : Int) * p + f) / q) = ((j : Int) * p + f) / q := IntWalk.i64_in _ (by omega)
      have e10 : IntKind.i64.wrap ((((j : Int) + 1) * p + f) / q - ((j : Int) * p + f) / q) = (((j : Int) + 1) * p + f) / q - ((j : Int) * p + f) / q := IntWalk.i64_in _ (by omega)
      have e11 : (q == 0) = false := by rw [beq_eq_false_iff_ne]; omega
      have e12 : q ≠ 0 := by omega
      go_wp2_with fail
      go_region_held3 (fun _ => True) (trivial) ((refine step_one (by rfl) _ _ (by rfl) (by rfl) (hown.alloc _) wr.heap.size 1 ((((j : Int) + 1) * p + f) / q - ((j : Int) * p + f) / q) (by rfl) (by simp [go_sem]) (by omega) (by simp; omega) ?_; intro g1 cap1 w1 hown1 hg1; have hbw : Below w.heap.size w w1 := ((hbel.alloc hsz _).drew).trans (hg1.below (hown.alloc _) (by simp; omega))))
      rw [← hts.out] at hown1
      clear e1 e2 e3 e4 e5 e6 e7 e8 e9 e10 e11 e12 hown hg1
      go_wp2_with fail
      go_roundw
      case rel => exact ⟨j + 1, g1, cap1, by omega, by go_num, rfl, hown1, hbw⟩
      case measure => simp [intOf]; omega
    · have : j = m := by omega
      subst this
      go_wp2_with fail
      go_ret
      exact ⟨_, _, _, rfl, hown, hbel⟩
set_option maxHeartbeats 1600000 in
theorem mech_s (p q f n : Int) (w : World) (h0 : Wf p) (h1 : Wf q) (h2 : Wf f) (h3 : Wf n) :
    Calls Try.prog 12 #[.int .i64 p, .int .i64 q, .int .i64 f, .int .i64 n] w (RetOwnB w (mechV p q f n) (mechB p q f n)) := by
  unfold Wf at h0 h1 h2 h3
  by_cases ha : 1 ≤ q ∧ q ≤ 500
  rotate_left
  · have hr := Lib.hid (mechB_no (p := p) (q := q) (f := f) (n := n) (.inl (shB_no (by omega))))
    have hf : (decide (1 ≤ q) && decide (q ≤ 500)) = false := by rw [← Bool.not_eq_true]; simp only [Bool.and_eq_true, decide_eq_true_eq]; exact ha
    go_enter Try.func12, Try.ntmps12
    go_wp2_with fail
    refine (in_s _ _ _ _).mono ?_
    rw [hf]
    rintro e w' ⟨rfl, rfl⟩
    go_wp2_with fail
    go_ret2
    exact ret_none hr.out
  have ta : (decide (1 ≤ q) && decide (q ≤ 500)) = true := by simp only [Bool.and_eq_true, decide_eq_true_eq]; exact ha
  by_cases hb : 0 ≤ p ∧ p ≤ q
  rotate_left
  · have hr := Lib.hid (mechB_no (p := p) (q := q) (f := f) (n := n) (.inl (shB_no (by omega))))
    have hf : (decide (0 ≤ p) && decide (p ≤ q)) = false := by rw [← Bool.not_eq_true]; simp only [Bool.and_eq_true, decide_eq_true_eq]; exact hb
    go_enter Try.func12, Try.ntmps12
    go_wp2_with fail
    refine (in_s _ _ _ _).mono ?_
    rw [ta]
    rintro e w' ⟨rfl, rfl⟩
    go_wp2_with fail
    refine (in_s _ _ _ _).mono ?_
    rw [hf]
    rintro e w' ⟨rfl, rfl⟩
    go_wp2_with fail
    go_ret2
    exact ret_none hr.out
  have tb : (decide (0 ≤ p) && decide (p ≤ q)) = true := by simp only [Bool.and_eq_true, decide_eq_true_eq]; exact hb
  by_cases hc : 0 ≤ f ∧ f ≤ q - 1
  rotate_left
  · have hr := Lib.hid (mechB_no (p := p) (q := q) (f := f) (n := n) (by omega))
    have hf : (decide (0 ≤ f) && decide (f ≤ q - 1)) = false := by rw [← Bool.not_eq_true]; simp only [Bool.and_eq_true, decide_eq_true_eq]; exact hc
    go_enter Try.func12, Try.ntmps12
    go_wp2_with fail
    refine (in_s _ _ _ _).mono ?_
    rw [ta]
    rintro e w' ⟨rfl, rfl⟩
    go_wp2_with fail
    refine (in_s _ _ _ _).mono ?_
    rw [tb]
    rintro e w' ⟨rfl, rfl⟩
    go_wp2_with fail
    refine (in_s _ _ _ _).mono ?_
    rw [hf]
    rintro e w' ⟨rfl, rfl⟩
    go_wp2_with fail
    go_ret2
    exact ret_none hr.out
  have tc : (decide (0 ≤ f) && decide (f ≤ q - 1)) = true := by simp only [Bool.and_eq_true, decide_eq_true_eq]; exact hc
  by_cases hd : 0 ≤ n ∧ n ≤ 1000
  rotate_left
  · have hr := Lib.hid (mechB_no (p := p) (q := q) (f := f) (n := n) (by omega))
    have hf : (decide (0 ≤ n) && decide (n ≤ 1000)) = false := by rw [← Bool.not_eq_true]; simp only [Bool.and_eq_true, decide_eq_true_eq]; exact hd
    go_enter Try.func12, Try.ntmps12
    go_wp2_with fail
    refine (in_s _ _ _ _).mono ?_
    rw [ta]
    rintro e w' ⟨rfl, rfl⟩
    go_wp2_with fail
    refine (in_s _ _ _ _).mono ?_
    rw [tb]
    rintro e w' ⟨rfl, rfl⟩
    go_wp2_with fail
    refine (in_s _ _ _ _).mono ?_
    rw [tc]
    rintro e w' ⟨rfl, rfl⟩
    go_wp2_with fail
    refine (in_s _ _ _ _).mono ?_
    rw [hf]
    rintro e w' ⟨rfl, rfl⟩
    go_wp2_with fail
    go_ret2
    exact ret_none hr.out
  have td : (decide (0 ≤ n) && decide (n ≤ 1000)) = true := by simp only [Bool.and_eq_true, decide_eq_true_eq]; exact hd
  have hB := mechB_yes (n := n) (shB_mk ha.1 ha.2 hb.1 hb.2) hc.1 (show f < q by omega) hd.1 hd.2
  have HB := Lib.hid hB
  obtain ⟨m, rfl⟩ := Int.eq_ofNat_of_zero_le (show 0 ≤ n by omega)
  have HV : Hid (mechV p q f (m : Int) = tab (mechF p q f) m) := by show _ = _; unfold mechV; rw [hB, seqOr_yes rfl, Int.toNat_natCast]
  clear hB
  go_enter Try.func12, Try.ntmps12
  go_wp2_with fail
  refine (in_s _ _ _ _).mono ?_
  rw [ta]
  rintro e w' ⟨rfl, rfl⟩
  go_wp2_with fail
  refine (in_s _ _ _ _).mono ?_
  rw [tb]
  rintro e w' ⟨rfl, rfl⟩
  go_wp2_with fail
  refine (in_s _ _ _ _).mono ?_
  rw [tc]
  rintro e w' ⟨rfl, rfl⟩
  go_wp2_with fail
  refine (in_s _ _ _ _).mono ?_
  rw [td]
  rintro e w' ⟨rfl, rfl⟩
  go_wp2_with fail
  clear ta tb tc td
  refine (word_s p q f m _ ha.1 ha.2 hb.1 hb.2 hc.1 (by omega) (by omega)).mono ?_
  rintro e w1 ⟨ao, k, cap, rfl, hown, hbel⟩
  go_wp2_with fail
  go_ret2
  have h := ret_list (b := mechB p q f (m : Int)) (ys := tab (mechF p q f) m) HB.out hown hbel
  rw [HV.out]
  rw [seqOr_yes HB.out] at h
  exact h
set_option maxHeartbeats 800000 in
theorem chr_i (p q : Int) (w : World) (h0 : Wf p) (h1 : Wf q) :
    Calls Try.prog 18 #[.int .i64 p, .int .i64 q] w (RetOwnB w (chrV p q) (chrB p q)) := by
  unfold Wf at h0 h1
  cases hs : shB p q
  · have hr := Lib.hid (chrB_no (p := p) (q := q) (.inl hs))
    go_enter Try.func18, Try.ntmps18
    go_wp2_with fail
    refine (share_i _ _ _).mono ?_
    rw [hs]
    rintro e w' ⟨rfl, rfl⟩
    go_wp2_with fail
    go_ret2
    exact ret_none hr.out
  · have HS := Lib.hid hs
    obtain ⟨hq1, hq2, hp0, hp1⟩ := shB_true hs
    obtain ⟨g, HG⟩ : ∃ g, Hid (gcdI p q = g) := ⟨_, rfl⟩
    by_cases hg : g = 1
    · have hc := chrB_yes HS.out (HG.out.trans hg)
      have HC := Lib.hid hc
      have HM := Lib.hid (chr_mech hc)
      have hne : (g != 1) = false := by rw [hg]; rfl
      clear hc hg
      go_enter Try.func18, Try.ntmps18
      go_wp2_with fail
      refine (share_i _ _ _).mono ?_
      rw [hs]
      rintro e w' ⟨rfl, rfl⟩
      clear hs
      go_wp2_with fail
      refine (common_i _ _ _ (by omega) (by omega)).mono ?_
      rw [HG.out]
      rintro e w1 ⟨rfl, b1⟩
      go_wp2_with fail
      clear hne
      refine (mech_i p q 0 q _ h0 ⟨by omega, by omega⟩ ⟨by omega, by omega⟩ ⟨by omega, by omega⟩).mono ?_
      rw [HM.out.2]
      rintro e w2 ⟨ao, k, cap, rfl, hown, hbel⟩
      go_wp2_with fail
      go_ret2
      refine ⟨ao, k, cap, by rw [HC.out]; rfl, ?_, b1.trans (hbel.mono b1.size)⟩
      rw [HM.out.1]
      exact hown.wide b1.size (Nat.le_refl _)
    · have hr := Lib.hid (chrB_no (p := p) (q := q) (.inr (by rw [HG.out]; exact hg)))
      have hne : (g != 1) = true := by rw [bne_iff_ne]; exact hg
      clear hg
      go_enter Try.func18, Try.ntmps18
      go_wp2_with fail
      refine (share_i _ _ _).mono ?_
      rw [hs]
      rintro e w' ⟨rfl, rfl⟩
      clear hs
      go_wp2_with fail
      refine (common_i _ _ _ (by omega) (by omega)).mono ?_
      rw [HG.out]
      rintro e w1 ⟨rfl, b1⟩
      go_wp2_with fail
      go_ret2
      exact ret_none' hr.out b1
set_option maxHeartbeats 800000 in
theorem chr_s (p q : Int) (w : World) (h0 : Wf p) (h1 : Wf q) :
    Calls Try.prog 17 #[.int .i64 p, .int .i64 q] w (RetOwnB w (chrV p q) (chrB p q)) := by
  unfold Wf at h0 h1
  by_cases ha : 1 ≤ q ∧ q ≤ 500
  rotate_left
  · have hr := Lib.hid (chrB_no (p := p) (q := q) (.inl (shB_no (by omega))))
    have hf : (decide (1 ≤ q) && decide (q ≤ 500)) = false := by rw [← Bool.not_eq_true]; simp only [Bool.and_eq_true, decide_eq_true_eq]; exact ha
    go_enter Try.func17, Try.ntmps17
    go_wp2_with fail
    refine (in_s _ _ _ _).mono ?_
    rw [hf]
    rintro e w' ⟨rfl, rfl⟩
    go_wp2_with fail
    go_ret2
    exact ret_none hr.out
  have ta : (decide (1 ≤ q) && decide (q ≤ 500)) = true := by simp only [Bool.and_eq_true, decide_eq_true_eq]; exact ha
  by_cases hb : 0 ≤ p ∧ p ≤ q
  rotate_left
  · have hr := Lib.hid (chrB_no (p := p) (q := q) (.inl (shB_no (by omega))))
    have hf : (decide (0 ≤ p) && decide (p ≤ q)) = false := by rw [← Bool.not_eq_true]; simp only [Bool.and_eq_true, decide_eq_true_eq]; exact hb
    go_enter Try.func17, Try.ntmps17
    go_wp2_with fail
    refine (in_s _ _ _ _).mono ?_
    rw [ta]
    rintro e w' ⟨rfl, rfl⟩
    go_wp2_with fail
    refine (in_s _ _ _ _).mono ?_
    rw [hf]
    rintro e w' ⟨rfl, rfl⟩
    go_wp2_with fail
    go_ret2
    exact ret_none hr.out
  have tb : (decide (0 ≤ p) && decide (p ≤ q)) = true := by simp only [Bool.and_eq_true, decide_eq_true_eq]; exact hb
  have HS := Lib.hid (shB_mk ha.1 ha.2 hb.1 hb.2)
  obtain ⟨hq1, hq2⟩ := ha
  obtain ⟨hp0, hp1⟩ := hb
  obtain ⟨g, HG⟩ : ∃ g, Hid (gcdI p q = g) := ⟨_, rfl⟩
  have hg0 : 1 ≤ g := by rw [← HG.out]; exact gcdI_pos (by omega)
  by_cases hg : 1 < g
  · have hr := Lib.hid (chrB_no (p := p) (q := q) (.inr (by rw [HG.out]; omega)))
    go_enter Try.func17, Try.ntmps17
    go_wp2_with fail
    refine (in_s _ _ _ _).mono ?_
    rw [ta]
    rintro e w' ⟨rfl, rfl⟩
    go_wp2_with fail
    refine (in_s _ _ _ _).mono ?_
    rw [tb]
    rintro e w' ⟨rfl, rfl⟩
    go_wp2_with fail
    clear ta tb
    refine (common_s _ _ _ (by omega) (by omega)).mono ?_
    rw [HG.out]
    rintro e w' ⟨rfl, rfl⟩
    go_wp2_with fail
    go_ret2
    exact ret_none hr.out
  · have hc := chrB_yes HS.out (HG.out.trans (show g = 1 by omega))
    have HC := Lib.hid hc
    have HV : Hid (chrV p q = tab (mechF p q 0) q.toNat) := by show _ = _; unfold chrV; rw [hc, seqOr_yes rfl]
    obtain ⟨m, HQ⟩ : ∃ m : Nat, Hid (q = (m : Int)) := Int.eq_ofNat_of_zero_le (show 0 ≤ q by omega)
    have hmq : (m : Int) ≤ 500 := by rw [← HQ.out]; exact hq2
    clear hc
    go_enter Try.func17, Try.ntmps17
    go_wp2_with fail
    refine (in_s _ _ _ _).mono ?_
    rw [ta]
    rintro e w' ⟨rfl, rfl⟩
    go_wp2_with fail
    refine (in_s _ _ _ _).mono ?_
    rw [tb]
    rintro e w' ⟨rfl, rfl⟩
    go_wp2_with fail
    clear ta tb
    refine (common_s _ _ _ (by omega) (by omega)).mono ?_
    rw [HG.out]
    rintro e w' ⟨rfl, rfl⟩
    go_wp2_with fail
    have hw := word_s p q 0 m w hq1 hq2 hp0 hp1 (by omega) (by omega) (by omega)
    rw [← HQ.out] at hw
    refine hw.mono ?_
    clear hw
    rintro e w1 ⟨ao, k, cap, rfl, hown, hbel⟩
    go_wp2_with fail
    go_ret2
    refine ⟨ao, k, cap, by rw [HC.out]; rfl, ?_, hbel⟩
    have hqm : q.toNat = m := by have := HQ.out; omega
    rw [HV.out, hqm]
    exact hown
end Go.Proofs.Ytodoebamkijalaa
