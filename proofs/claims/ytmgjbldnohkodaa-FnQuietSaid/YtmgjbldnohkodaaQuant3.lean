/- The contracts of the reference's l2Index and IndexOf, and of Quantise, of the program and of the reference. -/
import Derived.Test.YtmgjbldnohkodaaQuant2
namespace Go.Proofs.Ytmgjbldnohkodaa
open Go.RowKit

theorem ifmax (a b : Int) : (if a < b then b else a) = max a b := by split <;> omega
set_option maxHeartbeats 800000 in
theorem best_s (l s v : Int) (w : World) (hq : isQ l s = true) (hv : loud v = false) :
    Calls Try.prog 85 #[.agg #[.int .i64 l, .int .i64 s], .int .i64 v] w fun e w' => e = .returned (.int .i64 (idx l s v)) ∧ Below w.heap.size w w' := by
  have hvb := loud_no hv
  have HQ := Lib.hid hq
  have hl := isQ_true hq
  obtain ⟨l1, l2, l3, l4⟩ := hl
  clear hv hq
  go_enter Try.func85, Try.ntmps85
  go_wp2_with fail
  have c0 : (w.alloc (.cells #[.int .i64 l, .int .i64 s] 24)).cell? ⟨w.heap.size, 0, none⟩ = some (.int .i64 l) := by simp [go_sem]
  have c1 : (w.alloc (.cells #[.int .i64 l, .int .i64 s] 24)).cell? ⟨w.heap.size, 1, none⟩ = some (.int .i64 s) := by simp [go_sem]
  have b0 := box_below w (.cells #[.int .i64 l, .int .i64 s] 24)
  have hz0 : w.heap.size < (w.alloc (.cells #[.int .i64 l, .int .i64 s] 24)).heap.size := by simp
  generalize w.alloc (.cells #[.int .i64 l, .int .i64 s] 24) = w0 at c0 c1 b0 hz0 ⊢
  go_loopw [5, 6, 7, 8] (fun b i _ _ wr => ∃ m k : Int, 0 ≤ m ∧ m < l ∧ IsBest l s v m k ∧ i = .int .i64 (m + 1) ∧ b = .int .i64 k ∧ Below w0.heap.size w0 wr) (fun _ i _ _ _ => (l - intOf i).toNat)
  case atStart => exact ⟨0, 0, by omega, by omega, IsBest.zero l s v, rfl, rfl, Below.refl _ _⟩
  case round =>
    obtain ⟨m, k, hm0, hm1, hbest, rfl, rfl, hb⟩ := hrel
    have c0' := (hb.cell (p := ⟨w.heap.size, 0, none⟩) hz0).trans c0
    have c1' := (hb.cell (p := ⟨w.heap.size, 1, none⟩) hz0).trans c1
    have HB := Lib.hid hbest
    have hk0 := hbest.1
    have hk1 := hbest.2.1
    clear hbest
    by_cases h2 : m + 1 < l
    · have e1 := lev_bd HQ.out hk0 (show k < l by omega)
      have e2 := lev_bd HQ.out (show 0 ≤ m + 1 by omega) h2
      have hzr := hb.size
      go_wp2_with fail
      refine (level_s _ _ _ _ HQ.out hk0 (by omega)).mono ?_
      rintro e w1 ⟨rfl, b1⟩
      have c0'' := (b1.cell (p := ⟨w.heap.size, 0, none⟩) (show w.heap.size < _ by omega)).trans c0'
      have c1'' := (b1.cell (p := ⟨w.heap.size, 1, none⟩) (show w.heap.size < _ by omega)).trans c1'
      have hb1 := hb.trans (b1.mono hzr)
      go_wp2_with fail
      refine (level_s _ _ _ _ HQ.out (by omega) (by omega)).mono ?_
      rintro e w2 ⟨rfl, b2⟩
      have hb2 := hb1.trans (b2.mono hb1.size)
      clear c0 c1 c0' c1' c0'' c1'' b0 hz0
      by_cases ht : (if lev l s (m + 1) - v < -(lev l s (m + 1) - v) then -(lev l s (m + 1) - v) else lev l s (m + 1) - v) ≤ (if lev l s k - v < -(lev l s k - v) then -(lev l s k - v) else lev l s k - v)
      · have HT := Lib.hid (HB.out.take l3 (by rw [ifmax, ifmax] at ht; exact ht))
        go_wp2_with fail
        go_roundw
        case rel => exact ⟨m + 1, m + 1, by omega, by omega, HT.out, rfl, rfl, hb2⟩
        case measure => simp [intOf]; omega
      · have HT := Lib.hid (HB.out.leave l3 (by rw [ifmax, ifmax] at ht; exact ht))
        go_wp2_with fail
        go_roundw
        case rel => exact ⟨m + 1, k, by omega, by omega, HT.out, rfl, rfl, hb2⟩
        case measure => simp [intOf]; omega
    · have hml : m = l - 1 := by omega
      have he := Lib.hid (idx_of HQ.out (IsBest.idx (by rw [← hml]; exact HB.out)))
      clear hml
      go_wp2
      go_ret
      exact ⟨ret_int he.out, then_then b0 hb⟩
set_option maxHeartbeats 800000 in
theorem quant_i (l s v : Int) (w : World) : Calls Try.prog 24 #[.agg #[.int .i64 l, .int .i64 s], .int .i64 v] w fun e w' => e = .returned (.int .i64 (quant l s v)) ∧ Below w.heap.size w w' := by
  cases hv : loud v
  · have hI : idxV l s v = idxV l s v := rfl
    have hr : Hid (levV l s (idxV l s v) = quant l s v) := by
      cases hq : isQ l s
      · rw [levV_no (levB_no (.inl hq)), quant_no (.inl hq)]; exact rfl
      · have hi := idx_is v hq
        rw [idxV_yes hq hv, quant_yes hq hv, levV_yes (levB_yes hq hi.1 hi.2.1)]; exact rfl
    clear hI
    go_enter Try.func24, Try.ntmps24
    go_wp2_with (first | (go_at_call 67; refine (loud_i _ _).mono ?_; rintro e w' ⟨rfl, rfl⟩))
    have c0 : (w.alloc (.cells #[.int .i64 l, .int .i64 s] 24)).cell? ⟨w.heap.size, 0, none⟩ = some (.int .i64 l) := by simp [go_sem]
    have c1 : (w.alloc (.cells #[.int .i64 l, .int .i64 s] 24)).cell? ⟨w.heap.size, 1, none⟩ = some (.int .i64 s) := by simp [go_sem]
    have b0 := box_below w (.cells #[.int .i64 l, .int .i64 s] 24)
    have hz0 : w.heap.size < (w.alloc (.cells #[.int .i64 l, .int .i64 s] 24)).heap.size := by simp
    generalize w.alloc (.cells #[.int .i64 l, .int .i64 s] 24) = w0 at c0 c1 b0 hz0 ⊢
    go_region_held3 (fun w' => w'.cell? ⟨w.heap.size, 0, none⟩ = some (.int .i64 l) ∧ w'.cell? ⟨w.heap.size, 1, none⟩ = some (.int .i64 s)) (go_keep)
      (first | (go_at_call 25; refine (indexOf_i _ _ _ _).mono ?_; rintro e w1 ⟨rfl, b1⟩; have c0' := (b1.cell (p := ⟨w.heap.size, 0, none⟩) hz0).trans c0; have c1' := (b1.cell (p := ⟨w.heap.size, 1, none⟩) hz0).trans c1; have hz1 : w.heap.size < w1.heap.size := Nat.lt_of_lt_of_le hz0 b1.size) | (go_at_call 26; refine (levelOf_i _ _ _ _).mono ?_; rintro e w2 ⟨rfl, b2⟩; have c0'' := (b2.cell (p := ⟨w.heap.size, 0, none⟩) hz1).trans c0'; have c1'' := (b2.cell (p := ⟨w.heap.size, 1, none⟩) hz1).trans c1'))
    go_wp2
    go_ret
    exact ⟨ret_int hr.out, then_then (then_then b0.drew b1) b2⟩
  · have hr := Lib.hid (quant_no (l := l) (s := s) (.inr hv))
    go_enter Try.func24, Try.ntmps24
    go_wp2_with (first | (go_at_call 67; refine (loud_i _ _).mono ?_; rintro e w' ⟨rfl, rfl⟩))
    go_ret
    exact ⟨ret_int hr.out.symm, box_below _ _⟩
end Go.Proofs.Ytmgjbldnohkodaa
