/- The contracts of the functions of quantisers, of the program and of the reference. -/
import Derived.Test.YtmgjbldnohkodaaSeq
import Derived.Test.YtmgjbldnohkodaaPureQ
import Derived.Deep.RegionHeld3
namespace Go.Proofs.Ytmgjbldnohkodaa
open Go.RowKit

set_option maxHeartbeats 400000 in
theorem toQ_any (l s : Int) (w : World) : Calls Try.prog 77 #[.agg #[.int .i64 l, .int .i64 s]] w fun e w' => e = .returned (.agg #[.int .i64 l, .int .i64 s]) ∧ Below w.heap.size w w' := by
  go_enter Try.func77, Try.ntmps77
  go_wp2
  exact bodyPost_ret (v := .agg #[.int .i64 l, .int .i64 s]) (by simp [results, Try.results77, go_sem]) rfl ⟨rfl, (((Below.refl _ _).alloc (Nat.le_refl _) _).alloc (by simp) _).alloc (by simp; omega) _⟩

set_option maxHeartbeats 400000 in
theorem isQ_i (l s : Int) (w : World) : Calls Try.prog 68 #[.agg #[.int .i64 l, .int .i64 s]] w fun e w' => e = .returned (.bool (isQ l s)) ∧ Below w.heap.size w w' := by
  by_cases h0 : 2 ≤ l
  · by_cases h1 : l ≤ 16
    · by_cases h2 : 1 ≤ s
      · by_cases h3 : s ≤ 1073741824
        · go_enter Try.func68, Try.ntmps68
          go_wp2
          go_ret
          exact ⟨ret_bool (isQ_mk h0 h1 h2 h3).symm, box_below _ _⟩
        · go_enter Try.func68, Try.ntmps68
          go_wp2
          go_ret
          exact ⟨ret_bool (by rw [isQ_no (l := l) (s := s) (by omega)] <;> (simp; omega)), box_below _ _⟩
      · go_enter Try.func68, Try.ntmps68
        go_wp2
        go_ret
        exact ⟨ret_bool (by rw [isQ_no (l := l) (s := s) (by omega)] <;> (simp; omega)), box_below _ _⟩
    · go_enter Try.func68, Try.ntmps68
      go_wp2
      go_ret
      exact ⟨ret_bool (by rw [isQ_no (l := l) (s := s) (by omega)] <;> (simp; omega)), box_below _ _⟩
  · go_enter Try.func68, Try.ntmps68
    go_wp2
    go_ret
    exact ⟨ret_bool (by rw [isQ_no (l := l) (s := s) (by omega)] <;> (simp; omega)), box_below _ _⟩
set_option maxHeartbeats 400000 in
theorem isQ_s (l s : Int) (w : World) : Calls Try.prog 75 #[.agg #[.int .i64 l, .int .i64 s]] w fun e w' => e = .returned (.bool (isQ l s)) ∧ Below w.heap.size w w' := by
  by_cases h0 : 2 ≤ l
  · by_cases h1 : l ≤ 16
    · by_cases h2 : 1 ≤ s
      · by_cases h3 : s ≤ 1073741824
        · go_enter Try.func75, Try.ntmps75
          go_wp2_with (go_at_call 59; refine (in_s _ _ _ _).mono ?_; rintro e w' ⟨rfl, rfl⟩)
          go_ret
          exact ⟨ret_bool (isQ_mk h0 h1 h2 h3).symm, box_below _ _⟩
        · go_enter Try.func75, Try.ntmps75
          go_wp2_with (go_at_call 59; refine (in_s _ _ _ _).mono ?_; rintro e w' ⟨rfl, rfl⟩)
          go_ret
          exact ⟨ret_bool (by rw [isQ_no (l := l) (s := s) (by omega)] <;> (simp; omega)), box_below _ _⟩
      · go_enter Try.func75, Try.ntmps75
        go_wp2_with (go_at_call 59; refine (in_s _ _ _ _).mono ?_; rintro e w' ⟨rfl, rfl⟩)
        go_ret
        exact ⟨ret_bool (by rw [isQ_no (l := l) (s := s) (by omega)] <;> (simp; omega)), box_below _ _⟩
    · go_enter Try.func75, Try.ntmps75
      go_wp2_with (go_at_call 59; refine (in_s _ _ _ _).mono ?_; rintro e w' ⟨rfl, rfl⟩)
      go_ret
      exact ⟨ret_bool (by rw [isQ_no (l := l) (s := s) (by omega)] <;> (simp; omega)), box_below _ _⟩
  · go_enter Try.func75, Try.ntmps75
    go_wp2_with (go_at_call 59; refine (in_s _ _ _ _).mono ?_; rintro e w' ⟨rfl, rfl⟩)
    go_ret
    exact ⟨ret_bool (by rw [isQ_no (l := l) (s := s) (by omega)] <;> (simp; omega)), box_below _ _⟩
set_option maxHeartbeats 400000 in
theorem rangeOf_i (l s : Int) (w : World) : Calls Try.prog 29 #[.agg #[.int .i64 l, .int .i64 s]] w fun e w' => e = .returned (.int .i64 (rng l s)) ∧ Below w.heap.size w w' := by
  cases hq : isQ l s
  · have hr := Lib.hid (rng_no hq)
    go_enter Try.func29, Try.ntmps29
    go_wp2_with (go_at_call 68; refine (isQ_i _ _ _).mono ?_; rintro e w1 ⟨rfl, b1⟩; have bc := bcell b1)
    go_ret
    exact ⟨ret_int hr.out.symm, box_then b1⟩
  · have hr := Lib.hid (rng_yes hq)
    have hb := rng_bd hq
    go_enter Try.func29, Try.ntmps29
    go_wp2_with (go_at_call 68; refine (isQ_i _ _ _).mono ?_; rintro e w1 ⟨rfl, b1⟩; have bc := bcell b1)
    go_ret
    exact ⟨ret_int hr.out.symm, box_then b1⟩

set_option maxHeartbeats 400000 in
theorem rangeOf_s (l s : Int) (w : World) : Calls Try.prog 38 #[.agg #[.int .i64 l, .int .i64 s]] w fun e w' => e = .returned (.int .i64 (rng l s)) ∧ Below w.heap.size w w' := by
  cases hq : isQ l s
  · have hr := Lib.hid (rng_no hq)
    go_enter Try.func38, Try.ntmps38
    go_wp2_with (go_at_call 75; refine (isQ_s _ _ _).mono ?_; rintro e w1 ⟨rfl, b1⟩; have bc := bcell b1)
    go_ret
    exact ⟨ret_int hr.out.symm, box_then b1⟩
  · have hr := Lib.hid (rng_yes hq)
    have hb := rng_bd hq
    go_enter Try.func38, Try.ntmps38
    go_wp2_with (go_at_call 75; refine (isQ_s _ _ _).mono ?_; rintro e w1 ⟨rfl, b1⟩; have bc := bcell b1)
    go_ret
    exact ⟨ret_int hr.out.symm, box_then b1⟩

theorem loud_i (v : Int) (w : World) : Calls Try.prog 67 #[.int .i64 v] w fun e w' => e = .returned (.bool (loud v)) ∧ w = w' := by
  by_cases h1 : v < -1152921504606846976
  · go_enter Try.func67, Try.ntmps67
    go_wp2
    go_ret
    exact ⟨ret_bool (by simp [loud]; omega), rfl⟩
  · go_enter Try.func67, Try.ntmps67
    go_wp2
    go_ret
    exact ⟨ret_bool (by simp [loud]; omega), rfl⟩
set_option maxHeartbeats 400000 in
theorem level_s (l s i : Int) (w : World) (hq : isQ l s = true) (h0 : 0 ≤ i) (h1 : i < l) : Calls Try.prog 84 #[.agg #[.int .i64 l, .int .i64 s], .int .i64 i] w fun e w' => e = .returned (.int .i64 (lev l s i)) ∧ Below w.heap.size w w' := by
  have hb := lev_bd hq h0 h1
  have hl := isQ_true hq
  unfold lev at hb
  clear hq
  obtain ⟨l1, l2, l3, l4⟩ := hl
  obtain ⟨b1, b2⟩ := hb
  go_enter Try.func84, Try.ntmps84
  go_wp2
  go_ret
  exact ⟨rfl, box_below _ _⟩

set_option maxHeartbeats 400000 in
theorem levelOf_i (l s i : Int) (w : World) : Calls Try.prog 26 #[.agg #[.int .i64 l, .int .i64 s], .int .i64 i] w fun e w' => e = .returned (.tuple #[.int .i64 (levV l s i), .bool (levB l s i)]) ∧ Below w.heap.size w w' := by
  by_cases hx : isQ l s = true ∧ 0 ≤ i ∧ i < l
  · obtain ⟨hq, h0, h1⟩ := hx
    have hB := levB_yes hq h0 h1
    have hr := Lib.hid (levV_yes hB)
    have HB := Lib.hid hB
    have hb := lev_bd hq h0 h1
    have hl := isQ_true hq
    unfold lev at hb
    clear hB
    obtain ⟨l1, l2, l3, l4⟩ := hl
    obtain ⟨b1, b2⟩ := hb
    go_enter Try.func26, Try.ntmps26
    go_wp2_with (go_at_call 68; refine (isQ_i _ _ _).mono ?_; rintro e w1 ⟨rfl, b3⟩; have bc := bcell b3)
    go_ret2
    exact ⟨by rw [hr.out, HB.out]; rfl, box_then b3⟩
  · have hB := levB_no (l := l) (s := s) (i := i) (by cases hq : isQ l s <;> simp [hq] at hx ⊢; omega)
    have hr := Lib.hid (levV_no hB)
    have HB := Lib.hid hB
    clear hB
    cases hq : isQ l s
    · clear hx
      go_enter Try.func26, Try.ntmps26
      go_wp2_with (go_at_call 68; refine (isQ_i _ _ _).mono ?_; rintro e w1 ⟨rfl, b3⟩; have bc := bcell b3)
      go_ret2
      exact ⟨by rw [hr.out, HB.out]; rfl, box_then b3⟩
    · simp [hq] at hx
      by_cases h0 : i < 0
      · clear hx
        go_enter Try.func26, Try.ntmps26
        go_wp2_with (go_at_call 68; refine (isQ_i _ _ _).mono ?_; rintro e w1 ⟨rfl, b3⟩; have bc := bcell b3)
        go_ret2
        exact ⟨by rw [hr.out, HB.out]; rfl, box_then b3⟩
      · have h0' : 0 ≤ i := by omega
        have h1 : l ≤ i := hx h0'
        clear hx
        go_enter Try.func26, Try.ntmps26
        go_wp2_with (go_at_call 68; refine (isQ_i _ _ _).mono ?_; rintro e w1 ⟨rfl, b3⟩; have bc := bcell b3)
        go_ret2
        exact ⟨by rw [hr.out, HB.out]; rfl, box_then b3⟩
end Go.Proofs.Ytmgjbldnohkodaa
