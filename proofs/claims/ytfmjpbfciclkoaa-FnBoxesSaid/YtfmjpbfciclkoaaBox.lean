/- The contracts of Decimate, BoxSums and Stuff, of the program and of the reference. -/
import Derived.Test.YtfmjpbfciclkoaaSeqOps
import Derived.Test.YtfmjpbfciclkoaaPureB
import Derived.Test.YtfmjpbfciclkoaaAppZ
namespace Go.Proofs.Ytfmjpbfciclkoaa
open Go.RowKit

theorem ratio_i (v : Int) (w : World) : Calls Try.prog 47 #[.int .i64 v] w fun e w' => e = .returned (.bool (ratB v)) ∧ w = w' := by
  by_cases h1 : 1 ≤ v
  · go_enter Try.func47, Try.ntmps47
    go_wp2
    go_ret
    exact ⟨ret_bool (by simp [ratB, h1]), rfl⟩
  · go_enter Try.func47, Try.ntmps47
    go_wp2
    go_ret
    exact ⟨ret_bool (by simp [ratB]; omega), rfl⟩

set_option maxHeartbeats 1600000 in
theorem decimate_i (ao : Option Addr) (n c : Nat) (xs : List Int) (r p : Int) (w : World) (ha : Sl w w.heap.size ao n c xs) (hwr : Wf r) (hwp : Wf p) :
    Calls Try.prog 28 #[.slice ao n c, .int .i64 r, .int .i64 p] w (RetOwnB w (decV xs r p) (decB xs r p)) := by
  unfold Wf at hwr hwp
  cases hx : isSeq xs
  · have hno := Lib.hid (decB_no (xs := xs) (r := r) (p := p) (.inl hx))
    go_enter Try.func28, Try.ntmps28
    go_wp2_with (go_at_call 37; refine (isSeq_i _ _ _ xs _ ha).mono ?_; rw [hx]; rintro e w' ⟨rfl, rfl⟩)
    go_ret2
    exact ret_none hno.out
  · cases hr : ratB r
    · have hno := Lib.hid (decB_no (xs := xs) (r := r) (p := p) (.inr (.inl hr)))
      go_enter Try.func28, Try.ntmps28
      go_wp2_with fail
      refine (isSeq_i _ _ _ xs _ ha).mono ?_
      rw [hx]
      rintro e w' ⟨rfl, rfl⟩
      go_wp2_with fail
      refine (ratio_i _ _).mono ?_
      rw [hr]
      rintro e w' ⟨rfl, rfl⟩
      go_wp2_with fail
      go_ret2
      exact ret_none hno.out
    · by_cases hp0 : p < 0
      · have hno := Lib.hid (decB_no (xs := xs) (r := r) (p := p) (.inr (.inr (.inl hp0))))
        go_enter Try.func28, Try.ntmps28
        go_wp2_with fail
        refine (isSeq_i _ _ _ xs _ ha).mono ?_
        rw [hx]
        rintro e w' ⟨rfl, rfl⟩
        go_wp2_with fail
        refine (ratio_i _ _).mono ?_
        rw [hr]
        rintro e w' ⟨rfl, rfl⟩
        go_wp2_with fail
        go_ret2
        exact ret_none hno.out
      · by_cases hpr : r ≤ p
        · have hno := Lib.hid (decB_no (xs := xs) (r := r) (p := p) (.inr (.inr (.inr hpr))))
          go_enter Try.func28, Try.ntmps28
          go_wp2_with fail
          refine (isSeq_i _ _ _ xs _ ha).mono ?_
          rw [hx]
          rintro e w' ⟨rfl, rfl⟩
          go_wp2_with fail
          refine (ratio_i _ _).mono ?_
          rw [hr]
          rintro e w' ⟨rfl, rfl⟩
          go_wp2_with fail
          go_ret2
          exact ret_none hno.out
        · have hp0' : 0 ≤ p := by omega
          have hpr' : p < r := by omega
          clear hp0 hpr
          have HB := Lib.hid (decB_yes hx hr hp0' hpr')
          have hrb := ratB_true hr
          have hla := ha.len
          have hl1 : n ≤ 1000 := by have := isSeq_len hx; omega
          have HL := Lib.hid hla
          clear hla
          obtain ⟨rn, rfl⟩ := Int.eq_ofNat_of_zero_le (show 0 ≤ r by omega)
          obtain ⟨pn, rfl⟩ := Int.eq_ofNat_of_zero_le hp0'
          have hd1 : decide (rn ≤ pn) = false := by simp; omega
          go_enter Try.func28, Try.ntmps28
          go_wp2_with fail
          refine (isSeq_i _ _ _ xs _ ha).mono ?_
          rw [hx]
          rintro e w' ⟨rfl, rfl⟩
          go_wp2_with fail
          refine (ratio_i _ _).mono ?_
          rw [hr]
          rintro e w' ⟨rfl, rfl⟩
          clear hx hr
          go_wp2_with fail
          have o0 := Own.empty w w.heap.size (Nat.le_refl _)
          have b0 := box_below w (.cells #[] 3)
          go_loopw [8, 9] (fun out i wr => ∃ (j q g cap : Nat), i = .int .i64 q ∧ out = .slice (some ⟨g, 0, none⟩) j cap ∧ Own wr w.heap.size wr.heap.size (some ⟨g, 0, none⟩) j cap (tab (decF xs rn pn) j) ∧ Below w.heap.size w wr ∧ Hid (q = pn + j * rn) ∧ Hid (j ≤ decN n rn pn)) (fun _ i _ => n - (intOf i).toNat)
          case atStart => exact ⟨0, pn, _, 0, rfl, rfl, o0, b0, by show pn = _; omega, Nat.zero_le _⟩
          case round =>
            clear o0 b0
            obtain ⟨j, q, g, cap, rfl, rfl, hown, hbel, HQ, HJ⟩ := hrel
            have hrn : 1 ≤ rn ∧ rn ≤ 100 := by omega
            have hpn : pn < rn := by omega
            by_cases hlt : q < n
            · have HJ1 : Hid (j + 1 ≤ decN n rn pn) := (decN_lt hrn.1 hpn).2 (by rw [← HQ.out]; exact hlt)
              obtain ⟨b1, off1, rfl, hbl1, hc1⟩ := ha.at_ (by omega)
              have hcx := (hbel.cell (p := ⟨b1, off1 + q, none⟩) hbl1).trans (hc1 q hlt)
              have hts : Hid (tab (decF xs rn pn) (j + 1) = tab (decF xs rn pn) j ++ [xs.getD q 0]) := by
                show tab (decF xs rn pn) (j + 1) = _
                rw [tab_succ, decF, HQ.out]
              have HQ1 : Hid (q + rn = pn + (j + 1) * rn) := by
                have := HQ.out
                show q + rn = _
                rw [Nat.add_mul]; omega
              clear hc1
              generalize xs.getD q 0 = x at hcx hts
              have hsz := hbel.size
              have hjn : j + 1 ≤ 1048576 := by have a := HJ1.out; have b := decN_le (n := n) (r := rn) (p := pn) hrn.1; omega
              go_wp2_with (at_builtin; refine wpList_one rfl _ _ rfl rfl (hown.alloc _) wr.heap.size 1 x rfl (by simp [go_sem]) hjn (by simp; omega) ?_)
              intro g1 cap1 w1 hown1 hg1
              have hbw : Below w.heap.size w w1 := (hbel.alloc hsz _).trans (hg1.below (hown.alloc _) (by simp; omega))
              rw [← hts.out] at hown1
              clear hcx hown hg1
              go_wp2_with fail
              go_roundw
              case rel => exact ⟨j + 1, q + rn, g1, cap1, by go_num, rfl, hown1, hbw, HQ1, HJ1⟩
              case measure => simp [intOf]; omega
            · have hj : Hid (j = decN n rn pn) := by
                have h1 : ¬ j < decN n rn pn := fun h => by
                  have := (decN_lt hrn.1 hpn).1 h
                  rw [← HQ.out] at this
                  omega
                have := HJ.out
                show j = _
                omega
              go_wp2_with fail
              go_ret2
              have e1 : tab (decF xs rn pn) j = decL xs rn pn := by unfold decL; rw [HL.out, ← hj.out]
              rw [e1] at hown
              exact ret_list HB.out hown hbel
set_option maxHeartbeats 1600000 in
theorem boxSums_i (ao : Option Addr) (n c : Nat) (xs : List Int) (r : Int) (w : World) (ha : Sl w w.heap.size ao n c xs) (hwr : Wf r) :
    Calls Try.prog 30 #[.slice ao n c, .int .i64 r] w (RetOwnB w (boxV xs r) (boxB xs r)) := by
  unfold Wf at hwr
  cases hx : isSeq xs
  · have hno := Lib.hid (boxB_no (xs := xs) (r := r) (.inl hx))
    go_enter Try.func30, Try.ntmps30
    go_wp2_with fail
    refine (isSeq_i _ _ _ xs _ ha).mono ?_
    rw [hx]
    rintro e w' ⟨rfl, rfl⟩
    go_wp2_with fail
    go_ret2
    exact ret_none hno.out
  · cases hr : ratB r
    · have hno := Lib.hid (boxB_no (xs := xs) (r := r) (.inr hr))
      go_enter Try.func30, Try.ntmps30
      go_wp2_with fail
      refine (isSeq_i _ _ _ xs _ ha).mono ?_
      rw [hx]
      rintro e w' ⟨rfl, rfl⟩
      go_wp2_with fail
      refine (ratio_i _ _).mono ?_
      rw [hr]
      rintro e w' ⟨rfl, rfl⟩
      go_wp2_with fail
      go_ret2
      exact ret_none hno.out
    · have HR := Lib.hid (boxB_mk hx hr)
      have hrb := ratB_true hr
      have hla := ha.len
      have hl1 : n ≤ 1000 := by have := isSeq_len hx; omega
      have HX := Lib.hid hx
      have HL : Hid (boxL xs r.toNat = tab (boxF xs r.toNat) n) := by unfold boxL; rw [hla]; exact rfl
      clear hla
      go_enter Try.func30, Try.ntmps30
      go_wp2_with fail
      refine (isSeq_i _ _ _ xs _ ha).mono ?_
      rw [hx]
      rintro e w' ⟨rfl, rfl⟩
      go_wp2_with fail
      refine (ratio_i _ _).mono ?_
      rw [hr]
      rintro e w' ⟨rfl, rfl⟩
      clear hx hr
      go_wp2_with fail
      obtain ⟨rn, rfl⟩ := Int.eq_ofNat_of_zero_le (show 0 ≤ r by omega)
      rw [Int.toNat_natCast] at HL HR
      have o0 := Own.empty w w.heap.size (Nat.le_refl _)
      have b0 := box_below w (.cells #[] 3)
      go_loopw [6, 7, 8, 9, 21] (fun out s _ _ i wr => ∃ (j g cap : Nat), j ≤ n ∧ i = .int .i64 j ∧ s = .int .i64 (sumUpto xs j - sumUpto xs (j - rn)) ∧ out = .slice (some ⟨g, 0, none⟩) j cap ∧ Own wr w.heap.size wr.heap.size (some ⟨g, 0, none⟩) j cap (tab (boxF xs rn) j) ∧ Below w.heap.size w wr) (fun _ _ _ _ i _ => n - (intOf i).toNat)
      case atStart => exact ⟨0, _, 0, Nat.zero_le _, rfl, by simp [sumUpto], rfl, o0, b0⟩
      case round =>
        clear o0 b0
        obtain ⟨j, g, cap, hj, rfl, rfl, rfl, hown, hbel⟩ := hrel
        have hrn : 1 ≤ rn ∧ rn ≤ 100 := by omega
        have hs1 := sumUpto_le HX.out j hj
        have hs2 := sumUpto_le (n := n) HX.out (j - rn) (by omega)
        by_cases hlt : j < n
        · obtain ⟨b1, off1, rfl, hbl1, hc1⟩ := ha.at_ (by omega)
          have hcx := (hbel.cell (p := ⟨b1, off1 + j, none⟩) hbl1).trans (hc1 j hlt)
          have hbx := isSeq_at HX.out j
          have hsz := hbel.size
          by_cases hge : rn ≤ j
          · have hcy := (hbel.cell (p := ⟨b1, off1 + (j - rn), none⟩) hbl1).trans (hc1 (j - rn) (by omega))
            have hby := isSeq_at HX.out (j - rn)
            have hv : Hid (boxF xs rn j = sumUpto xs j - sumUpto xs (j - rn) + xs.getD j 0 - xs.getD (j - rn) 0) := by
              show boxF xs rn j = _
              unfold boxF
              rw [show j + 1 - rn = (j - rn) + 1 from by omega, sumUpto_succ, sumUpto_succ]
              omega
            have hnx : Hid (sumUpto xs (j + 1) - sumUpto xs (j + 1 - rn) = sumUpto xs j - sumUpto xs (j - rn) + xs.getD j 0 - xs.getD (j - rn) 0) := hv
            have hts : Hid (tab (boxF xs rn) (j + 1) = tab (boxF xs rn) j ++ [sumUpto xs j - sumUpto xs (j - rn) + xs.getD j 0 - xs.getD (j - rn) 0]) := by
              show tab (boxF xs rn) (j + 1) = _
              rw [tab_succ, hv.out]
            clear hc1 hv
            have e1 : ((j : Int) - (rn : Int)).toNat = j - rn := by omega
            have e2 : (rn : Int) ≤ (j : Int) := by omega
            generalize xs.getD j 0 = x at hcx hbx hts hnx
            generalize xs.getD (j - rn) 0 = y at hcy hby hts hnx
            generalize sumUpto xs j = s at *
            generalize sumUpto xs (j - rn) = t at *
            go_wp2_with (at_builtin; refine wpList_one rfl _ _ rfl rfl (hown.alloc _) wr.heap.size 1 (s - t + x - y) rfl (by simp [go_sem]) (by omega) (by simp; omega) ?_)
            intro g1 cap1 w1 hown1 hg1
            have hbw : Below w.heap.size w w1 := (hbel.alloc hsz _).trans (hg1.below (hown.alloc _) (by simp; omega))
            rw [← hts.out] at hown1
            clear hcx hcy hown hg1
            go_wp2_with fail
            go_roundw
            case rel => exact ⟨j + 1, g1, cap1, by omega, by go_num, by rw [hnx.out], rfl, hown1, hbw⟩
            case measure => simp [intOf]; omega
          · have hv : Hid (boxF xs rn j = sumUpto xs j - sumUpto xs (j - rn) + xs.getD j 0) := by
              show boxF xs rn j = _
              unfold boxF
              rw [show j + 1 - rn = 0 from by omega, show j - rn = 0 from by omega, sumUpto_succ]
              simp [sumUpto]
            have hnx : Hid (sumUpto xs (j + 1) - sumUpto xs (j + 1 - rn) = sumUpto xs j - sumUpto xs (j - rn) + xs.getD j 0) := hv
            have hts : Hid (tab (boxF xs rn) (j + 1) = tab (boxF xs rn) j ++ [sumUpto xs j - sumUpto xs (j - rn) + xs.getD j 0]) := by
              show tab (boxF xs rn) (j + 1) = _
              rw [tab_succ, hv.out]
            clear hc1 hv
            have e2 : ¬ (rn : Int) ≤ (j : Int) := by omega
            generalize xs.getD j 0 = x at hcx hbx hts hnx
            generalize sumUpto xs j = s at *
            generalize sumUpto xs (j - rn) = t at *
            go_wp2_with (at_builtin; refine wpList_one rfl _ _ rfl rfl (hown.alloc _) wr.heap.size 1 (s - t + x) rfl (by simp [go_sem]) (by omega) (by simp; omega) ?_)
            intro g1 cap1 w1 hown1 hg1
            have hbw : Below w.heap.size w w1 := (hbel.alloc hsz _).trans (hg1.below (hown.alloc _) (by simp; omega))
            rw [← hts.out] at hown1
            clear hcx hown hg1
            go_wp2_with fail
            go_roundw
            case rel => exact ⟨j + 1, g1, cap1, by omega, by go_num, by rw [hnx.out], rfl, hown1, hbw⟩
            case measure => simp [intOf]; omega
        · have : j = n := by omega
          subst this
          rw [← HL.out] at hown
          cases hs : isSeq (boxL xs rn)
          · have HB := Lib.hid (HR.out.trans hs)
            go_wp2_with fail
            refine (asSeq_f _ _ _ _ _ (hown.sl (by omega)) hs).mono ?_
            rintro e w' ⟨rfl, rfl⟩
            go_wp2_with fail
            go_ret2
            exact ret_none' HB.out hbel
          · have HB := Lib.hid (HR.out.trans hs)
            go_wp2_with fail
            refine (asSeq_t _ _ _ _ _ (hown.sl (by omega)) hs).mono ?_
            rintro e w' ⟨rfl, rfl⟩
            go_wp2_with fail
            go_ret2
            exact ret_list HB.out hown hbel
set_option maxHeartbeats 1600000 in
theorem stuff_i (ao : Option Addr) (n c : Nat) (xs : List Int) (r : Int) (w : World) (ha : Sl w w.heap.size ao n c xs) (hwr : Wf r) :
    Calls Try.prog 27 #[.slice ao n c, .int .i64 r] w (RetOwnB w (stuffV xs r) (stuffB xs r)) := by
  unfold Wf at hwr
  cases hx : isSeq xs
  · have hno := Lib.hid (stuffB_no (xs := xs) (r := r) (.inl hx))
    go_enter Try.func27, Try.ntmps27
    go_wp2_with fail
    refine (isSeq_i _ _ _ xs _ ha).mono ?_
    rw [hx]
    rintro e w' ⟨rfl, rfl⟩
    go_wp2_with fail
    go_ret2
    exact ret_none hno.out
  · cases hr : ratB r
    · have hno := Lib.hid (stuffB_no (xs := xs) (r := r) (.inr hr))
      go_enter Try.func27, Try.ntmps27
      go_wp2_with fail
      refine (isSeq_i _ _ _ xs _ ha).mono ?_
      rw [hx]
      rintro e w' ⟨rfl, rfl⟩
      go_wp2_with fail
      refine (ratio_i _ _).mono ?_
      rw [hr]
      rintro e w' ⟨rfl, rfl⟩
      go_wp2_with fail
      go_ret2
      exact ret_none hno.out
    · have HR := Lib.hid (stuffB_mk hx hr)
      have hrb := ratB_true hr
      have hla := ha.len
      have hl1 : n ≤ 1000 := by have := isSeq_len hx; omega
      have HL : Hid (stuffL xs r.toNat = tab (stuffF xs r.toNat) (r.toNat * n)) := by unfold stuffL; rw [hla]; exact rfl
      have HE : Hid (tab (sfStageF xs r.toNat n) (r.toNat * n) = stuffL xs r.toNat) := by rw [← hla]; exact sfStage_end xs r.toNat
      clear hla
      obtain ⟨rn, rfl⟩ := Int.eq_ofNat_of_zero_le (show 0 ≤ r by omega)
      rw [Int.toNat_natCast] at HL HR HE
      have hrn : 1 ≤ rn ∧ rn ≤ 100 := by omega
      obtain ⟨N, HN⟩ : ∃ N, Hid (N = rn * n) := ⟨_, rfl⟩
      have hNle : N ≤ 100000 := by
        have := Nat.mul_le_mul hrn.2 hl1
        have := HN.out
        omega
      have HNi : Hid ((rn : Int) * (n : Int) = (N : Int)) := by show (rn : Int) * (n : Int) = _; rw [HN.out]; simp
      obtain ⟨i0, hi, hz0, hz1, hz2⟩ := info_parts int_info
      have hNi := HNi.out
      go_enter Try.func27, Try.ntmps27
      go_wp2_with fail
      refine (isSeq_i _ _ _ xs _ ha).mono ?_
      rw [hx]
      rintro e w' ⟨rfl, rfl⟩
      go_wp2_with fail
      refine (ratio_i _ _).mono ?_
      rw [hr]
      rintro e w' ⟨rfl, rfl⟩
      clear hx hr
      go_wp2_with (at_make; refine wpList_make_full _ rfl _ _ 22 rfl w.heap.size 3 i0 (.int .i64 0) 1 Try.underlying22 hi hz0 hz1 .i64 .i64 N N N rfl rfl rfl rfl ?c1 ?c2 ?c3 ?_)
      case c1 => rw [hz2]; omega
      case c2 => unfold maxLen; omega
      case c3 => exact Nat.le_refl _
      intro w1 hown hg1
      have hb1 : Below w.heap.size w w1 := (Below.refl _ _).grown hg1 (Nat.le_refl _) (by simp)
      have o0 : Own w1 w.heap.size w1.heap.size (some ⟨w.heap.size, 0, none⟩) N N (tab (sfStageF xs rn 0) N) := by
        refine Own.of ?_
        rw [sfStage_zero, ← made_zero N]
        exact hown
      clear hown hg1 hi hz0 hz1 hz2 hNi
      go_wp2_with fail
      go_loopw [7, 8, 24] (fun _ _ i wr => ∃ (j : Nat), j ≤ n ∧ i = .int .i64 j ∧ Own wr w.heap.size w1.heap.size (some ⟨w.heap.size, 0, none⟩) N N (tab (sfStageF xs rn j) N) ∧ Below w.heap.size w wr ∧ w1.heap.size ≤ wr.heap.size) (fun _ _ i _ => n - (intOf i).toNat)
      case atStart => exact ⟨0, Nat.zero_le _, rfl, o0, hb1, Nat.le_refl _⟩
      case round =>
        clear o0 hb1
        obtain ⟨j, hj, rfl, hown, hbel, hsz1⟩ := hrel
        by_cases hlt : j < n
        · obtain ⟨b1, off1, rfl, hbl1, hc1⟩ := ha.at_ (by omega)
          have hcx := (hbel.cell (p := ⟨b1, off1 + j, none⟩) hbl1).trans (hc1 j hlt)
          obtain ⟨q, HQ⟩ : ∃ q, Hid (q = j * rn) := ⟨_, rfl⟩
          have hqN : q < N := by
            have h1 := HQ.out
            have h2 := HN.out
            have h3 := Nat.mul_le_mul_right rn (show j + 1 ≤ n by omega)
            rw [Nat.add_mul, Nat.mul_comm n rn] at h3
            omega
          have hqi : (j : Int) * (rn : Int) = (q : Int) := by rw [HQ.out]; simp
          have hcy := hown.cellsAt q hqN
          have hfy := hown.free q
          have hset := (hown.set q (xs.getD j 0)).1
          have hbs := hbel.setCell (p := ⟨w.heap.size, q, none⟩) (Nat.le_refl _) (.int .i64 (xs.getD j 0))
          rw [show tab (sfStageF xs rn j) N = tab (sfStageF xs rn j) N from rfl] at hset
          have HS : Hid ((tab (sfStageF xs rn j) N).set q (xs.getD j 0) = tab (sfStageF xs rn (j + 1)) N) := by
            show (tab (sfStageF xs rn j) N).set q (xs.getD j 0) = _
            rw [HQ.out]
            exact sfStage_set xs rn j N hrn.1 (by rw [← HQ.out]; exact hqN)
          rw [HS.out] at hset
          clear hc1 hown hbel
          generalize xs.getD j 0 = x at hcx hset hbs
          have hq0 : (q : Int) < (N : Int) := by omega
          go_wp2_with fail
          go_roundw
          case rel => exact ⟨j + 1, by omega, by go_num, hset, hbs, by simpa [World.setCell] using hsz1⟩
          case measure => simp [intOf]; omega
        · have : j = n := by omega
          subst this
          replace hown := hown.wide (Nat.le_refl _) hsz1
          rw [HN.out, HE.out, ← HN.out] at hown
          cases hs : isSeq (stuffL xs rn)
          · have HB := Lib.hid (HR.out.trans hs)
            go_wp2_with fail
            refine (asSeq_f _ _ _ _ _ (hown.sl (by omega)) hs).mono ?_
            rintro e w' ⟨rfl, rfl⟩
            go_wp2_with fail
            go_ret2
            exact ret_none' HB.out hbel
          · have HB := Lib.hid (HR.out.trans hs)
            go_wp2_with fail
            refine (asSeq_t _ _ _ _ _ (hown.sl (by omega)) hs).mono ?_
            rintro e w' ⟨rfl, rfl⟩
            go_wp2_with fail
            go_ret2
            exact ret_list HB.out hown hbel
end Go.Proofs.Ytfmjpbfciclkoaa
