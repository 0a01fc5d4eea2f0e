/- The contracts of ScaleSequence, of the program and of the reference. -/
import Derived.Test.YtmgjbldnohkodaaSeqOps
namespace Go.Proofs.Ytmgjbldnohkodaa
open Go.RowKit

theorem ifmax' (a b : Int) : (if a < b then b else a) = max a b := by split <;> omega
theorem size_i (v m : Int) (w : World) (hm : Hid (m = max v (-v))) (hv : -9223372036854775807 ≤ v ∧ v ≤ 9223372036854775807) : Calls Try.prog 74 #[.int .i64 v] w fun e w' => e = .returned (.int .i64 m) ∧ w = w' := by
  by_cases hlt : v < -v
  · go_enter Try.func74, Try.ntmps74
    go_wp2
    go_ret
    exact ⟨ret_int (by have := hm.out; omega), rfl⟩
  · go_enter Try.func74, Try.ntmps74
    go_wp2
    go_ret
    exact ⟨ret_int (by have := hm.out; omega), rfl⟩
def scUpto (xs : List Int) (k : Int) (j : Nat) : Prop := ∀ i, i < j → sampleB (xs.getD i 0 * k) = true
theorem scUpto_zero (xs : List Int) (k : Int) : scUpto xs k 0 := fun i h => absurd h (by omega)
theorem scUpto_succ {xs : List Int} {k : Int} {j : Nat} (h : scUpto xs k j) (hx : sampleB (xs.getD j 0 * k) = true) : scUpto xs k (j + 1) := fun i hi => by
  by_cases e : i = j
  · subst e; exact hx
  · exact h i (by omega)
theorem quo_bd {m : Int} (h : 1 ≤ m) : 0 ≤ 1099511627776 / m ∧ 1099511627776 / m ≤ 1099511627776 :=
  ⟨Int.ediv_nonneg (by omega) (by omega), by
    have := Int.ediv_le_self m (show (0 : Int) ≤ 1099511627776 by omega)
    omega⟩

set_option maxHeartbeats 1600000 in
theorem scale_i (ao : Option Addr) (n c : Nat) (xs : List Int) (k : Int) (w : World) (ha : Sl w w.heap.size ao n c xs) (_hk : Wf k) :
    Calls Try.prog 46 #[.slice ao n c, .int .i64 k] w (RetOwnB w (scaleV xs k) (scaleB xs k)) := by
  cases hx : isSeq xs
  · have hr := Lib.hid (scaleB_no (xs := xs) (k := k) (.inl hx))
    go_enter Try.func46, Try.ntmps46
    go_wp2_with (go_at_call 63; refine (isSeq_i _ _ _ xs _ ha).mono ?_; rw [hx]; rintro e w' ⟨rfl, rfl⟩)
    go_ret2
    exact ret_none hr.out
  · cases hy : sampleB k
    · have hr := Lib.hid (scaleB_no (xs := xs) (k := k) (.inr hy))
      go_enter Try.func46, Try.ntmps46
      go_wp2_with (first | (go_at_call 63; refine (isSeq_i _ _ _ xs _ ha).mono ?_; rw [hx]; rintro e w' ⟨rfl, rfl⟩) | (go_at_call 56; refine (sample_i _ _).mono ?_; rw [hy]; rintro e w' ⟨rfl, rfl⟩))
      go_ret2
      exact ret_none hr.out
    · have hla := ha.len
      have HX := Lib.hid hx
      have HY := Lib.hid hy
      have HL : Hid (scaleL xs k = tab (scaleF xs k) n) := by unfold scaleL; rw [hla]; exact rfl
      have HLA := Lib.hid hla
      have hl1 : n ≤ 1000 := by have := isSeq_len hx; omega
      have hkb := sampleB_true hy
      clear hla
      go_enter Try.func46, Try.ntmps46
      go_wp2_with (first | (go_at_call 63; refine (isSeq_i _ _ _ xs _ ha).mono ?_; rw [hx]; rintro e w' ⟨rfl, rfl⟩) | (go_at_call 56; refine (sample_i _ _).mono ?_; rw [hy]; rintro e w' ⟨rfl, rfl⟩))
      clear hx hy
      have o0 := Own.empty w w.heap.size (Nat.le_refl _)
      have b0 := box_below w (.cells #[] 3)
      obtain ⟨mk, HMK⟩ : ∃ mk, Hid (mk = max k (-k)) := ⟨_, rfl⟩
      have hmkb : 0 ≤ mk ∧ mk ≤ 1099511627776 := by have := HMK.out; omega
      go_loopw [6, 8, 20] (fun out _ i wr => ∃ (j g cap : Nat), j ≤ n ∧ i = .int .i64 j ∧ out = .slice (some ⟨g, 0, none⟩) j cap ∧ Own wr w.heap.size wr.heap.size (some ⟨g, 0, none⟩) j cap (tab (scaleF xs k) j) ∧ Below w.heap.size w wr ∧ scUpto xs k j) (fun _ _ i _ => n - (intOf i).toNat)
      case atStart => exact ⟨0, _, 0, Nat.zero_le _, rfl, rfl, o0, b0, scUpto_zero _ _⟩
      case round =>
        clear o0 b0
        obtain ⟨j, g, cap, hj, rfl, rfl, hown, hbel, hup⟩ := hrel
        by_cases hlt : j < n
        · obtain ⟨b1, off1, rfl, hbl1, hc1⟩ := ha.at_ (by omega)
          have hcx := (hbel.cell (p := ⟨b1, off1 + j, none⟩) hbl1).trans (hc1 j hlt)
          clear hc1
          have hbx := isSeq_at HX.out j
          have hts : Hid (tab (scaleF xs k) (j + 1) = tab (scaleF xs k) j ++ [xs.getD j 0 * k]) := tab_succ _ _
          have hsz := hbel.size
          cases hbig : sampleB (xs.getD j 0 * k)
          · have hno := Lib.hid (scale_big (by rw [HLA.out]; exact hlt) hbig)
            have hnb := sampleB_false hbig
            clear hts hbig
            generalize xs.getD j 0 = x at hcx hbx hnb
            have hx0 : (x != 0) = true := by rw [bne_iff_ne]; intro h; subst h; simp at hnb
            have hx1 : x ≠ 0 := by rw [bne_iff_ne] at hx0; exact hx0
            obtain ⟨mx, HMX⟩ : ∃ mx, Hid (mx = max x (-x)) := ⟨_, rfl⟩
            have hmxb : 1 ≤ mx ∧ mx ≤ 1099511627776 := by have := HMX.out; omega
            have ht : 1099511627776 / mx < mk := by rw [HMX.out, HMK.out]; exact (abs_mul_le hx1 (by omega)).2 (by omega)
            have hq := quo_bd hmxb.1
            clear hx1 hnb
            go_wp2_with fail
            refine (size_i _ _ _ HMK (by omega)).mono ?_
            rintro e w' ⟨rfl, rfl⟩
            go_wp2_with fail
            refine (size_i _ _ _ HMX (by omega)).mono ?_
            rintro e w' ⟨rfl, rfl⟩
            go_wp2_with fail
            go_ret2
            exact ret_none' hno.out hbel
          · have hok := scUpto_succ hup hbig
            have hnb := sampleB_true hbig
            clear hbig
            generalize xs.getD j 0 = x at hcx hbx hnb hts
            by_cases hx1 : x = 0
            · subst hx1
              have hts' : Hid (tab (scaleF xs k) (j + 1) = tab (scaleF xs k) j ++ [0]) := by have := hts.out; rw [Int.zero_mul] at this; exact this
              replace hts := hts'
              clear hts'
              go_wp2_with (at_builtin; refine wpList_one rfl _ _ rfl rfl (hown.alloc _) wr.heap.size 1 0 rfl (by simp [go_sem]) (by omega) (by simp; omega) ?_)
              intro g1 cap1 w1 hown1 hg1
              have hbw : Below w.heap.size w w1 := (hbel.alloc hsz _).trans (hg1.below (hown.alloc _) (by simp; omega))
              rw [← hts.out] at hown1
              clear hcx hown hg1 hup hnb
              go_wp2_with fail
              go_roundw
              case rel => exact ⟨j + 1, g1, cap1, by omega, by go_num, rfl, hown1, hbw, hok⟩
              case measure => simp [intOf]; omega
            · have hx0 : (x != 0) = true := by rw [bne_iff_ne]; exact hx1
              obtain ⟨mx, HMX⟩ : ∃ mx, Hid (mx = max x (-x)) := ⟨_, rfl⟩
              have hmxb : 1 ≤ mx ∧ mx ≤ 1099511627776 := by have := HMX.out; omega
              have ht : ¬ 1099511627776 / mx < mk := by rw [HMX.out, HMK.out]; intro h; exact (abs_mul_le hx1 (by omega)).1 h (by omega)
              have hq := quo_bd hmxb.1
              clear hx1
              go_wp2_with fail
              refine (size_i _ _ _ HMK (by omega)).mono ?_
              rintro e w' ⟨rfl, rfl⟩
              go_wp2_with fail
              refine (size_i _ _ _ HMX (by omega)).mono ?_
              rintro e w' ⟨rfl, rfl⟩
              go_wp2_with (at_builtin; refine wpList_one rfl _ _ rfl rfl (hown.alloc _) wr.heap.size 1 (x * k) rfl (by simp [go_sem]) (by omega) (by simp; omega) ?_)
              intro g1 cap1 w1 hown1 hg1
              have hbw : Below w.heap.size w w1 := (hbel.alloc hsz _).trans (hg1.below (hown.alloc _) (by simp; omega))
              rw [← hts.out] at hown1
              clear hcx hown hg1 hup hnb ht hq hx0
              go_wp2_with fail
              go_roundw
              case rel => exact ⟨j + 1, g1, cap1, by omega, by go_num, rfl, hown1, hbw, hok⟩
              case measure => simp [intOf]; omega
        · have : j = n := by omega
          subst this
          have hB := scale_ok HX.out HY.out (fun i hi => hup i (by rw [← HLA.out]; exact hi))
          have hs := (scaleB_true hB).2.2
          have HB := Lib.hid hB
          rw [← HL.out] at hown
          clear hB
          go_wp2_with fail
          refine (asSeq_t _ _ _ _ _ (hown.sl (by omega)) hs).mono ?_
          rintro e w' ⟨rfl, rfl⟩
          go_wp2_with fail
          go_ret2
          exact ret_list HB.out hown hbel
end Go.Proofs.Ytmgjbldnohkodaa
