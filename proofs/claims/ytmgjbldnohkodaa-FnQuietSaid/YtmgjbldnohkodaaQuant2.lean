/- The contracts of Overloads, IndexOf and Quantise, of the program and of the reference. -/
import Derived.Test.YtmgjbldnohkodaaQuant
namespace Go.Proofs.Ytmgjbldnohkodaa
open Go.RowKit

set_option maxHeartbeats 400000 in
theorem over_i (l s v : Int) (w : World) : Calls Try.prog 28 #[.agg #[.int .i64 l, .int .i64 s], .int .i64 v] w fun e w' => e = .returned (.bool (over l s v)) ∧ Below w.heap.size w w' := by
  cases hq : isQ l s
  · have hr : Hid (over l s v = false) := by unfold over; rw [hq]; rfl
    go_enter Try.func28, Try.ntmps28
    go_wp2_with (go_at_call 68; refine (isQ_i _ _ _).mono ?_; rintro e w1 ⟨rfl, b3⟩; have bc := bcell b3)
    go_ret
    exact ⟨ret_bool hr.out.symm, box_then b3⟩
  · have hb := rng_bd hq
    have hR := rng_yes hq
    have hr : Hid (over l s v = (decide (l * s < v) || decide (v < -(l * s)))) := by unfold over; rw [hq]; rfl
    by_cases h1 : l * s < v
    · go_enter Try.func28, Try.ntmps28
      go_wp2_with (first | (go_at_call 68; refine (isQ_i _ _ _).mono ?_; rintro e w1 ⟨rfl, b3⟩; have bc := bcell b3) | (go_at_call 29; refine (rangeOf_i _ _ _).mono ?_; rw [hR]; rintro e w2 ⟨rfl, b4⟩; have bc2 := bcell b4))
      go_ret
      exact ⟨ret_bool (by rw [hr.out]; simp [h1]), then_then (box_then b3) b4⟩
    · go_enter Try.func28, Try.ntmps28
      go_wp2_with fail
      refine (isQ_i _ _ _).mono ?_
      rintro e w1 ⟨rfl, b3⟩
      have bc := bcell b3
      go_wp2_with fail
      refine (rangeOf_i _ _ _).mono ?_
      rw [hR]
      rintro e w2 ⟨rfl, b4⟩
      have bs := b4.size
      have bs3 := b3.size
      have bc2 : ∀ b o, b < w.heap.size + 1 → w2.cell? ⟨b, o, none⟩ = (w.alloc (.cells #[.int .i64 l, .int .i64 s] 24)).cell? ⟨b, o, none⟩ := fun b o h =>
        (b4.cell (p := ⟨b, o, none⟩) (show b < _ by simp at bs3; omega)).trans (b3.cell (p := ⟨b, o, none⟩) (by simpa using h))
      go_wp2_with fail
      refine (rangeOf_i _ _ _).mono ?_
      rw [hR]
      rintro e w3 ⟨rfl, b5⟩
      go_wp2_with fail
      go_ret
      exact ⟨ret_bool (by rw [hr.out]), then_then (then_then (box_then b3) b4) b5⟩

set_option maxHeartbeats 800000 in
theorem indexOf_i (l s v : Int) (w : World) : Calls Try.prog 25 #[.agg #[.int .i64 l, .int .i64 s], .int .i64 v] w fun e w' => e = .returned (.int .i64 (idxV l s v)) ∧ Below w.heap.size w w' := by
  cases hq : isQ l s
  · have hr := Lib.hid (idxV_no (v := v) (.inl hq))
    go_enter Try.func25, Try.ntmps25
    go_wp2_with (go_at_call 68; refine (isQ_i _ _ _).mono ?_; rintro e w1 ⟨rfl, b3⟩; have bc := bcell b3)
    go_ret
    exact ⟨ret_int hr.out.symm, box_then b3⟩
  · cases hv : loud v
    · have hr := Lib.hid (idxV_yes hq hv)
      have hvb := loud_no hv
      have HQ := Lib.hid hq
      have hl := isQ_true hq
      obtain ⟨l1, l2, l3, l4⟩ := hl
      go_enter Try.func25, Try.ntmps25
      go_wp2_with (first | (go_at_call 68; refine (isQ_i _ _ _).mono ?_; rintro e w1 ⟨rfl, b3⟩; have bc := bcell b3) | (go_at_call 67; refine (loud_i _ _).mono ?_; rintro e w' ⟨rfl, rfl⟩))
      clear hq hv
      have c0 : w1.cell? ⟨w.heap.size, 0, none⟩ = some (.int .i64 l) := (bc.1 _ _ (by simp)).trans (by simp [go_sem])
      have c1 : w1.cell? ⟨w.heap.size, 1, none⟩ = some (.int .i64 s) := (bc.1 _ _ (by simp)).trans (by simp [go_sem])
      clear bc
      go_loop [5] (fun i => ∃ k : Int, 0 ≤ k ∧ k < l ∧ (k = 0 ∨ s * (2 * k - l) ≤ v) ∧ i = .int .i64 k) (fun i => (l - intOf i).toNat)
      case atStart => exact ⟨0, by omega, by omega, .inl rfl, rfl⟩
      case round =>
        obtain ⟨k, hk0, hk1, hk2, rfl⟩ := hrel
        have Hk2 := Lib.hid hk2
        clear hk2
        by_cases h2 : k + 1 < l
        · have hm := mid_bd HQ.out (show 0 ≤ k + 1 by omega) (by omega)
          by_cases h3 : s * (2 * (k + 1) - l) ≤ v
          · have H3 := Lib.hid h3
            go_wp2
            go_round
            case rel => exact ⟨k + 1, by omega, by omega, .inr H3.out, rfl⟩
            case measure => simp [intOf]; omega
          · have H3 := Lib.hid h3
            have he := Lib.hid (idx_of HQ.out ⟨hk0, hk1, Hk2.out, .inr (by have := H3.out; omega)⟩)
            go_wp2
            go_ret
            exact ⟨ret_int (by rw [hr.out]; exact he.out), box_then b3⟩
        · have he := Lib.hid (idx_of HQ.out ⟨hk0, hk1, Hk2.out, .inl (by omega)⟩)
          go_wp2
          go_ret
          exact ⟨ret_int (by rw [hr.out]; exact he.out), box_then b3⟩
    · have hr := Lib.hid (idxV_no (l := l) (s := s) (.inr hv))
      go_enter Try.func25, Try.ntmps25
      go_wp2_with (first | (go_at_call 68; refine (isQ_i _ _ _).mono ?_; rintro e w1 ⟨rfl, b3⟩; have bc := bcell b3) | (go_at_call 67; refine (loud_i _ _).mono ?_; rintro e w' ⟨rfl, rfl⟩))
      go_ret
      exact ⟨ret_int hr.out.symm, box_then b3⟩
end Go.Proofs.Ytmgjbldnohkodaa
