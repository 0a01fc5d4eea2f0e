/- The contracts of ComplementOf and InterleavedOf, of the program and of the reference. -/
import Derived.Test.YtodoebamkijalaaPureW
import Derived.Test.YtodoebamkijalaaPureS
namespace Go.Proofs.Ytodoebamkijalaa
open Go.RowKit

set_option maxHeartbeats 800000 in
theorem comp_i (ao : Option Addr) (n c : Nat) (xs : List Int) (w : World) (ha : Sl w w.heap.size ao n c xs) :
    Calls Try.prog 21 #[.slice ao n c] w (RetOwnB w (compV xs) (isWord xs)) := by
  cases hx : isWord xs
  · have hr := Lib.hid hx
    go_enter Try.func21, Try.ntmps21
    go_wp2_with fail
    refine (isWord_i _ _ _ xs _ ha).mono ?_
    rw [hx]
    rintro e w' ⟨rfl, rfl⟩
    go_wp2_with fail
    go_ret2
    have h := ret_none (w := w) (ys := compL xs) hr.out
    rw [hr.out] at h
    unfold compV
    rw [hr.out]
    exact h
  · have hla := ha.len
    have HX := Lib.hid hx
    have HL : Hid (compL xs = tab (compF xs) n) := by show _ = _; unfold compL; rw [hla]
    have hl1 : n ≤ 1000 := by have := isWord_len hx; omega
    clear hla
    go_enter Try.func21, Try.ntmps21
    go_wp2_with fail
    refine (isWord_i _ _ _ xs _ ha).mono ?_
    rw [hx]
    rintro e w' ⟨rfl, rfl⟩
    clear hx
    go_wp2_with fail
    have o0 := Own.empty w w.heap.size (Nat.le_refl _)
    have b0 := box_below w (.cells #[] 3)
    go_loopw [4, 6, 13] (fun out _ i wr => ∃ (j g cap : Nat), j ≤ n ∧ i = .int .i64 j ∧ out = .slice (some ⟨g, 0, none⟩) j cap ∧ Own wr w.heap.size wr.heap.size (some ⟨g, 0, none⟩) j cap (tab (compF xs) j) ∧ Below w.heap.size w wr) (fun _ _ i _ => n - (intOf i).toNat)
    case atStart => exact ⟨0, _, 0, Nat.zero_le _, rfl, rfl, o0, b0⟩
    case round =>
      clear o0 b0
      obtain ⟨j, g, cap, hj, rfl, rfl, hown, hbel⟩ := hrel
      by_cases hlt : j < n
      · obtain ⟨b1, off1, rfl, hbl1, hc1⟩ := ha.at_ (by omega)
        have hcx := (hbel.cell (p := ⟨b1, off1 + j, none⟩) hbl1).trans (hc1 j hlt)
        clear hc1
        have hbx := word_at HX.out j
        have hsz := hbel.size
        generalize hgx : xs.getD j 0 = x at hcx hbx
        have hts : Hid (tab (compF xs) (j + 1) = tab (compF xs) j ++ [1 - x]) := by show _ = _; rw [tab_succ, compF, hgx]
        clear hgx
        go_wp2_with (at_builtin; refine wpList_one rfl _ _ rfl rfl (hown.alloc _) wr.heap.size 1 (1 - x) rfl (by simp [go_sem]) (by omega) (by simp; omega) ?_)
        intro g1 cap1 w1 hown1 hg1
        have hbw : Below w.heap.size w w1 := (hbel.alloc hsz _).trans (hg1.below (hown.alloc _) (by simp; omega))
        rw [← hts.out] at hown1
        clear hcx hown hg1
        go_wp2_with fail
        go_roundw
        case rel => exact ⟨j + 1, g1, cap1, by omega, by go_num, rfl, hown1, hbw⟩
        case measure => simp [intOf]; omega
      · have : j = n := by omega
        subst this
        rw [← HL.out] at hown
        go_wp2_with fail
        go_ret2
        have h := ret_list (b := isWord xs) HX.out hown hbel
        rw [HX.out] at h
        unfold compV
        rw [HX.out]
        exact h
set_option maxHeartbeats 800000 in
theorem comp_s (ao : Option Addr) (n c : Nat) (xs : List Int) (w : World) (ha : Sl w w.heap.size ao n c xs) :
    Calls Try.prog 19 #[.slice ao n c] w (RetOwnB w (compV xs) (isWord xs)) := by
  cases hx : isWord xs
  · have hr := Lib.hid hx
    go_enter Try.func19, Try.ntmps19
    go_wp2_with fail
    refine (isWord_s _ _ _ xs _ ha).mono ?_
    rw [hx]
    rintro e w' ⟨rfl, rfl⟩
    go_wp2_with fail
    go_ret2
    have h := ret_none (w := w) (ys := compL xs) hr.out
    rw [hr.out] at h
    unfold compV
    rw [hr.out]
    exact h
  · have hla := ha.len
    have HX := Lib.hid hx
    have HL : Hid (compL xs = tab (compF xs) n) := by show _ = _; unfold compL; rw [hla]
    have hl1 : n ≤ 1000 := by have := isWord_len hx; omega
    clear hla
    go_enter Try.func19, Try.ntmps19
    go_wp2_with fail
    refine (isWord_s _ _ _ xs _ ha).mono ?_
    rw [hx]
    rintro e w' ⟨rfl, rfl⟩
    clear hx
    go_wp2_with fail
    have o0 := Own.empty w w.heap.size (Nat.le_refl _)
    have b0 := box_below w (.cells #[] 3)
    go_loopw [4, 6, 13] (fun out _ i wr => ∃ (j g cap : Nat), j ≤ n ∧ i = .int .i64 j ∧ out = .slice (some ⟨g, 0, none⟩) j cap ∧ Own wr w.heap.size wr.heap.size (some ⟨g, 0, none⟩) j cap (tab (compF xs) j) ∧ Below w.heap.size w wr) (fun _ _ i _ => n - (intOf i).toNat)
    case atStart => exact ⟨0, _, 0, Nat.zero_le _, rfl, rfl, o0, b0⟩
    case round =>
      clear o0 b0
      obtain ⟨j, g, cap, hj, rfl, rfl, hown, hbel⟩ := hrel
      by_cases hlt : j < n
      · obtain ⟨b1, off1, rfl, hbl1, hc1⟩ := ha.at_ (by omega)
        have hcx := (hbel.cell (p := ⟨b1, off1 + j, none⟩) hbl1).trans (hc1 j hlt)
        clear hc1
        have hbx := word_at HX.out j
        have hsz := hbel.size
        generalize hgx : xs.getD j 0 = x at hcx hbx
        have hts : Hid (tab (compF xs) (j + 1) = tab (compF xs) j ++ [1 - x]) := by show _ = _; rw [tab_succ, compF, hgx]
        clear hgx
        go_wp2_with (at_builtin; refine wpList_one rfl _ _ rfl rfl (hown.alloc _) wr.heap.size 1 (1 - x) rfl (by simp [go_sem]) (by omega) (by simp; omega) ?_)
        intro g1 cap1 w1 hown1 hg1
        have hbw : Below w.heap.size w w1 := (hbel.alloc hsz _).trans (hg1.below (hown.alloc _) (by simp; omega))
        rw [← hts.out] at hown1
        clear hcx hown hg1
        go_wp2_with fail
        go_roundw
        case rel => exact ⟨j + 1, g1, cap1, by omega, by go_num, rfl, hown1, hbw⟩
        case measure => simp [intOf]; omega
      · have : j = n := by omega
        subst this
        rw [← HL.out] at hown
        go_wp2_with fail
        go_ret2
        have h := ret_list (b := isWord xs) HX.out hown hbel
        rw [HX.out] at h
        unfold compV
        rw [HX.out]
        exact h
set_option maxHeartbeats 800000 in
theorem inter_i (ao : Option Addr) (n c : Nat) (xs : List Int) (w : World) (ha : Sl w w.heap.size ao n c xs) :
    Calls Try.prog 25 #[.slice ao n c] w (RetOwnB w (interV xs) (isWord xs)) := by
  cases hx : isWord xs
  · have hr := Lib.hid hx
    go_enter Try.func25, Try.ntmps25
    go_wp2_with fail
    refine (isWord_i _ _ _ xs _ ha).mono ?_
    rw [hx]
    rintro e w' ⟨rfl, rfl⟩
    go_wp2_with fail
    go_ret2
    have h := ret_none (w := w) (ys := interL xs) hr.out
    rw [hr.out] at h
    unfold interV
    rw [hr.out]
    exact h
  · have hla := ha.len
    have HX := Lib.hid hx
    have HL : Hid (interL xs = tab (interF xs) n) := by show _ = _; unfold interL; rw [hla]
    have hl1 : n ≤ 1000 := by have := isWord_len hx; omega
    clear hla
    go_enter Try.func25, Try.ntmps25
    go_wp2_with fail
    refine (isWord_i _ _ _ xs _ ha).mono ?_
    rw [hx]
    rintro e w' ⟨rfl, rfl⟩
    clear hx
    go_wp2_with fail
    have o0 := Own.empty w w.heap.size (Nat.le_refl _)
    have b0 := box_below w (.cells #[] 3)
    go_loopw [4, 5, 7, 14] (fun out sl _ i wr => ∃ (j g cap : Nat), j ≤ n ∧ i = .int .i64 j ∧ out = .slice (some ⟨g, 0, none⟩) j cap ∧ Own wr w.heap.size wr.heap.size (some ⟨g, 0, none⟩) j cap (tab (interF xs) j) ∧ Below w.heap.size w wr ∧ sl = .int .i64 (sumUpto xs j)) (fun _ _ _ i _ => n - (intOf i).toNat)
    case atStart => exact ⟨0, _, 0, Nat.zero_le _, rfl, rfl, o0, b0, rfl⟩
    case round =>
      clear o0 b0
      obtain ⟨j, g, cap, hj, rfl, rfl, hown, hbel, rfl⟩ := hrel
      by_cases hlt : j < n
      · obtain ⟨b1, off1, rfl, hbl1, hc1⟩ := ha.at_ (by omega)
        have hcx := (hbel.cell (p := ⟨b1, off1 + j, none⟩) hbl1).trans (hc1 j hlt)
        clear hc1
        have hbx := word_at HX.out j
        have hsz := hbel.size
        have hs := word_sum HX.out j
        have hss := Lib.hid (sumUpto_succ xs j)
        generalize xs.getD j 0 = x at hcx hbx hss
        have HV : Hid (interF xs j = (sumUpto xs j + x) % 2) := by show _ = _; unfold interF; rw [hss.out]
        have hts : Hid (tab (interF xs) (j + 1) = tab (interF xs) j ++ [(sumUpto xs j + x) % 2]) := by show _ = _; rw [tab_succ, HV.out]

        go_wp2_with (at_builtin; refine wpList_one rfl _ _ rfl rfl (hown.alloc _) wr.heap.size 1 ((sumUpto xs j + x) % 2) rfl (by simp [go_sem]) (by omega) (by simp; omega) ?_)
        intro g1 cap1 w1 hown1 hg1
        have hbw : Below w.heap.size w w1 := (hbel.alloc hsz _).trans (hg1.below (hown.alloc _) (by simp; omega))
        rw [← hts.out] at hown1
        clear hcx hown hg1
        go_wp2_with fail
        go_roundw
        case rel => exact ⟨j + 1, g1, cap1, by omega, by go_num, rfl, hown1, hbw, by rw [hss.out]⟩
        case measure => simp [intOf]; omega
      · have : j = n := by omega
        subst this
        rw [← HL.out] at hown
        go_wp2_with fail
        go_ret2
        have h := ret_list (b := isWord xs) HX.out hown hbel
        rw [HX.out] at h
        unfold interV
        rw [HX.out]
        exact h
set_option maxHeartbeats 800000 in
theorem inter_s (ao : Option Addr) (n c : Nat) (xs : List Int) (w : World) (ha : Sl w w.heap.size ao n c xs) :
    Calls Try.prog 24 #[.slice ao n c] w (RetOwnB w (interV xs) (isWord xs)) := by
  cases hx : isWord xs
  · have hr := Lib.hid hx
    go_enter Try.func24, Try.ntmps24
    go_wp2_with fail
    refine (isWord_s _ _ _ xs _ ha).mono ?_
    rw [hx]
    rintro e w' ⟨rfl, rfl⟩
    go_wp2_with fail
    go_ret2
    have h := ret_none (w := w) (ys := interL xs) hr.out
    rw [hr.out] at h
    unfold interV
    rw [hr.out]
    exact h
  · have hla := ha.len
    have HX := Lib.hid hx
    have HL : Hid (interL xs = tab (interF xs) n) := by show _ = _; unfold interL; rw [hla]
    have hl1 : n ≤ 1000 := by have := isWord_len hx; omega
    clear hla
    go_enter Try.func24, Try.ntmps24
    go_wp2_with fail
    refine (isWord_s _ _ _ xs _ ha).mono ?_
    rw [hx]
    rintro e w' ⟨rfl, rfl⟩
    clear hx
    go_wp2_with fail
    have o0 := Own.empty w w.heap.size (Nat.le_refl _)
    have b0 := box_below w (.cells #[] 3)
    go_loopw [4, 5, 7, 14] (fun out sl _ i wr => ∃ (j g cap : Nat), j ≤ n ∧ i = .int .i64 j ∧ out = .slice (some ⟨g, 0, none⟩) j cap ∧ Own wr w.heap.size wr.heap.size (some ⟨g, 0, none⟩) j cap (tab (interF xs) j) ∧ Below w.heap.size w wr ∧ ∃ q : Int, Hid (q = sumUpto xs j % 2) ∧ 0 ≤ q ∧ q ≤ 1 ∧ sl = .int .i64 q) (fun _ _ _ i _ => n - (intOf i).toNat)
    case atStart => exact ⟨0, _, 0, Nat.zero_le _, rfl, rfl, o0, b0, 0, rfl, by omega, by omega, rfl⟩
    case round =>
      clear o0 b0
      obtain ⟨j, g, cap, hj, rfl, rfl, hown, hbel, q, HQ, hq0, hq1, rfl⟩ := hrel
      by_cases hlt : j < n
      · obtain ⟨b1, off1, rfl, hbl1, hc1⟩ := ha.at_ (by omega)
        have hcx := (hbel.cell (p := ⟨b1, off1 + j, none⟩) hbl1).trans (hc1 j hlt)
        clear hc1
        have hbx := word_at HX.out j
        have hsz := hbel.size
        have hss := Lib.hid (inter_step xs j)
        have hsn := Lib.hid (sumUpto_succ xs j)
        generalize xs.getD j 0 = x at hcx hbx hss hsn
        have HV : Hid (interF xs j = (q + x) % 2) := by show _ = _; rw [HQ.out, hss.out]
        have HQ1 : Hid ((q + x) % 2 = sumUpto xs (j + 1) % 2) := HV.out.symm
        have hts : Hid (tab (interF xs) (j + 1) = tab (interF xs) j ++ [(q + x) % 2]) := by show _ = _; rw [tab_succ, HV.out]

        go_wp2_with (at_builtin; refine wpList_one rfl _ _ rfl rfl (hown.alloc _) wr.heap.size 1 ((q + x) % 2) rfl (by simp [go_sem]) (by omega) (by simp; omega) ?_)
        intro g1 cap1 w1 hown1 hg1
        have hbw : Below w.heap.size w w1 := (hbel.alloc hsz _).trans (hg1.below (hown.alloc _) (by simp; omega))
        rw [← hts.out] at hown1
        clear hcx hown hg1
        go_wp2_with fail
        go_roundw
        case rel => exact ⟨j + 1, g1, cap1, by omega, by go_num, rfl, hown1, hbw, (q + x) % 2, HQ1, by omega, by omega, rfl⟩
        case measure => simp [intOf]; omega
      · have : j = n := by omega
        subst this
        rw [← HL.out] at hown
        go_wp2_with fail
        go_ret2
        have h := ret_list (b := isWord xs) HX.out hown hbel
        rw [HX.out] at h
        unfold interV
        rw [HX.out]
        exact h
end Go.Proofs.Ytodoebamkijalaa
