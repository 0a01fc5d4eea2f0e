/- The contracts of PartSums, of the program and of the reference. -/
import Derived.Test.YtodoebamkijalaaPureW
import Derived.Test.YtodoebamkijalaaCut
import Derived.Deep.QuietTactic
namespace Go.Proofs.Ytodoebamkijalaa
open Go.RowKit
set_option linter.unusedVariables false

theorem ifmin (a b : Int) : (if b < a then b else a) = min a b := by split <;> omega
theorem ifmax2 (a b : Int) : (if a < b then b else a) = max a b := by split <;> omega
theorem part_no {xs : List Int} {n : Int} (h : partB xs n = false) : partLo xs n = 0 ∧ partHi xs n = 0 := by simp [partLo, partHi, h]
theorem part_yes {xs : List Int} {n : Int} {m L : Nat} (h : partB xs n = true) (hn : n = (m : Int)) (hl : xs.length = L) : partLo xs n = winLo xs m (L - m) ∧ partHi xs n = winHi xs m (L - m) := by
  subst hn hl
  simp [partLo, partHi, h]
/-- What both hand back. -/
def RetPart (xs : List Int) (n : Int) (w : World) (e : Ending) (w' : World) : Prop := e = .returned (.tuple #[.int .i64 (partLo xs n), .int .i64 (partHi xs n), .bool (partB xs n)]) ∧ Below w.heap.size w w'
theorem ret_part_no {xs : List Int} {n : Int} {w w' : World} (h : partB xs n = false) (hb : Below w.heap.size w w') : RetPart xs n w (.returned (.tuple #[.int .i64 0, .int .i64 0, .bool false])) w' := by
  refine ⟨?_, hb⟩
  rw [h, (part_no h).1, (part_no h).2]
theorem ret_part_yes {xs : List Int} {n lo hi : Int} {w w' : World} (h : partB xs n = true) (h1 : lo = partLo xs n) (h2 : hi = partHi xs n) (hb : Below w.heap.size w w') : RetPart xs n w (.returned (.tuple #[.int .i64 lo, .int .i64 hi, .bool true])) w' := by
  refine ⟨?_, hb⟩
  rw [h, h1, h2]
set_option maxHeartbeats 1600000 in
theorem part_i (ao : Option Addr) (L c : Nat) (xs : List Int) (n : Int) (w : World) (ha : Sl w w.heap.size ao L c xs) (h1 : Wf n) :
    Calls Try.prog 23 #[.slice ao L c, .int .i64 n] w (RetPart xs n w) := by
  unfold Wf at h1
  have hla := ha.len
  cases hx : isWord xs
  · have hr := Lib.hid (partB_no (xs := xs) (n := n) (.inl hx))
    clear hla
    go_enter Try.func23, Try.ntmps23
    go_wp2_with fail
    refine (isWord_i _ _ _ xs _ ha).mono ?_
    rw [hx]
    rintro e w' ⟨rfl, rfl⟩
    go_wp2_with fail
    go_ret3
    exact ret_part_no hr.out (Below.refl _ _)
  · have hl1 : L ≤ 1000 := by have := isWord_len hx; omega
    by_cases hn1 : n < 1
    · have hr := Lib.hid (partB_no (xs := xs) (n := n) (.inr (.inl hn1)))
      clear hla
      go_enter Try.func23, Try.ntmps23
      go_wp2_with fail
      refine (isWord_i _ _ _ xs _ ha).mono ?_
      rw [hx]
      rintro e w' ⟨rfl, rfl⟩
      go_wp2_with fail
      go_ret3
      exact ret_part_no hr.out (Below.refl _ _)
    · by_cases hn2 : (L : Int) < n
      · have hr := Lib.hid (partB_no (xs := xs) (n := n) (.inr (.inr (by rw [hla]; exact hn2))))
        clear hla
        go_enter Try.func23, Try.ntmps23
        go_wp2_with fail
        refine (isWord_i _ _ _ xs _ ha).mono ?_
        rw [hx]
        rintro e w' ⟨rfl, rfl⟩
        go_wp2_with fail
        go_ret3
        exact ret_part_no hr.out (Below.refl _ _)
      · obtain ⟨m, rfl⟩ := Int.eq_ofNat_of_zero_le (show 0 ≤ n by omega)
        have hm1 : 1 ≤ m := by omega
        have hm2 : m ≤ L := by omega
        have hB := partB_yes (xs := xs) (n := (m : Int)) hx (by omega) (by rw [hla]; omega)
        have HE := Lib.hid (part_yes hB rfl hla)
        have HB := Lib.hid hB
        have HX := Lib.hid hx
        clear hB hla hn1 hn2
        go_enter Try.func23, Try.ntmps23
        go_wp2_with fail
        refine (isWord_i _ _ _ xs _ ha).mono ?_
        rw [hx]
        rintro e w' ⟨rfl, rfl⟩
        clear hx
        go_wp2_with fail
        go_loopw [7, 8, 9, 10, 11, 28] (fun s lo hi _ _ i wr => ∃ (j : Nat) (sv lv hv : Int), j ≤ L ∧ i = .int .i64 j ∧ s = .int .i64 sv ∧ lo = .int .i64 lv ∧ hi = .int .i64 hv ∧ Hid (sv = winS xs m j ∧ lv = loUpto xs m j ∧ hv = hiUpto xs m j) ∧ Below w.heap.size w wr) (fun _ _ _ _ _ i _ => L - (intOf i).toNat)
        case atStart => exact ⟨0, 0, m, 0, Nat.zero_le _, rfl, rfl, rfl, rfl, ⟨by simp [winS, sumUpto], by unfold loUpto; rw [if_pos (by omega)], by unfold hiUpto; rw [if_pos (by omega)]⟩, Below.refl _ _⟩
        case round =>
          obtain ⟨j, sv, lv, hv, hj, rfl, rfl, rfl, rfl, HR, hbel⟩ := hrel
          have hb1 := winS_bd HX.out m j
          have hb2 := loUpto_bd HX.out m j
          have hb3 := hiUpto_bd HX.out m j
          rw [← HR.out.1] at hb1
          rw [← HR.out.2.1] at hb2
          rw [← HR.out.2.2] at hb3
          by_cases hlt : j < L
          · obtain ⟨b1, off1, rfl, hbl1, hc1⟩ := ha.at_ (by omega)
            have hcx := (hbel.cell (p := ⟨b1, off1 + j, none⟩) hbl1).trans (hc1 j hlt)
            have hbx := word_at HX.out j
            have hbn := winS_bd HX.out m (j + 1)
            by_cases hjm : j < m
            · -- no element leaves yet
              have hs : Hid (winS xs m (j + 1) = sv + xs.getD j 0) := by show _ = _; rw [winS_small xs (by omega), sumUpto_succ, HR.out.1, winS_small xs (by omega)]
              clear hc1
              generalize xs.getD j 0 = x at hcx hbx hs
              by_cases hjl : j + 1 < m
              · obtain ⟨hl, hh⟩ := lo_early xs hjl
                have HL := Lib.hid hl
                have HH := Lib.hid hh
                clear hl hh
                have c1 : ¬ ((m : Int) ≤ (j : Int)) := by omega
                have c2 : ¬ ((m : Int) - 1 ≤ (j : Int)) := by omega
                go_wp2_with fail
                go_roundw
                case rel => exact ⟨j + 1, _, _, _, by omega, by go_num, rfl, rfl, rfl, ⟨hs.out.symm, by rw [HL.out]; exact HR.out.2.1, by rw [HH.out]; exact HR.out.2.2⟩, hbel⟩
                case measure => simp [intOf]; omega
              · obtain ⟨hl, hh⟩ := lo_late HX.out (n := m) (k := j) (by omega)
                have HL : Hid (loUpto xs m (j + 1) = min lv (sv + x)) := by show _ = _; rw [hl, hs.out, HR.out.2.1]
                have HH : Hid (hiUpto xs m (j + 1) = max hv (sv + x)) := by show _ = _; rw [hh, hs.out, HR.out.2.2]
                clear hl hh
                have c1 : ¬ ((m : Int) ≤ (j : Int)) := by omega
                have c2 : (m : Int) - 1 ≤ (j : Int) := by omega
                go_wp2_with fail
                go_roundw
                case rel => exact ⟨j + 1, _, _, _, by omega, by go_num, rfl, rfl, rfl, ⟨hs.out.symm, by rw [HL.out]; first | rfl | exact ifmin _ _, by rw [HH.out]; first | rfl | exact ifmax2 _ _⟩, hbel⟩
                case measure => simp [intOf]; omega
            · have hcy := (hbel.cell (p := ⟨b1, off1 + (j - m), none⟩) hbl1).trans (hc1 (j - m) (by omega))
              have hs : Hid (winS xs m (j + 1) = sv + xs.getD j 0 - xs.getD (j - m) 0) := by show _ = _; rw [winS_succ xs (by omega), HR.out.1]
              have hby := word_at HX.out (j - m)
              clear hc1
              generalize xs.getD j 0 = x at hcx hbx hs
              generalize xs.getD (j - m) 0 = y at hcy hby hs
              obtain ⟨hl, hh⟩ := lo_late HX.out (n := m) (k := j) (by omega)
              have HL : Hid (loUpto xs m (j + 1) = min lv (sv + x - y)) := by show _ = _; rw [hl, hs.out, HR.out.2.1]
              have HH : Hid (hiUpto xs m (j + 1) = max hv (sv + x - y)) := by show _ = _; rw [hh, hs.out, HR.out.2.2]
              clear hl hh
              have c1 : (m : Int) ≤ (j : Int) := by omega
              have c2 : (m : Int) - 1 ≤ (j : Int) := by omega
              have e1 : ((j : Int) - (m : Int)).toNat = j - m := by omega
              go_wp2_with fail
              go_roundw
              case rel => exact ⟨j + 1, _, _, _, by omega, by go_num, rfl, rfl, rfl, ⟨hs.out.symm, by rw [HL.out]; first | rfl | exact ifmin _ _, by rw [HH.out]; first | rfl | exact ifmax2 _ _⟩, hbel⟩
              case measure => simp [intOf]; omega
          · have : j = L := by omega
            subst this
            have HF : Hid (lv = partLo xs (m : Int) ∧ hv = partHi xs (m : Int)) := by
              show _ ∧ _
              rw [HE.out.1, HE.out.2, HR.out.2.1, HR.out.2.2]
              unfold loUpto hiUpto
              rw [if_neg (show ¬ j < m by omega), if_neg (show ¬ j < m by omega)]
              exact ⟨rfl, rfl⟩
            go_wp2_with fail
            go_ret3
            exact ret_part_yes HB.out HF.out.1 HF.out.2 hbel
/-- The least and the greatest sum. -/
def RetSums (xs : List Int) (m L : Nat) (w : World) (e : Ending) (w' : World) : Prop := e = .returned (.tuple #[.int .i64 (winLo xs m (L - m)), .int .i64 (winHi xs m (L - m))]) ∧ Below w.heap.size w w'
theorem ret_sums {xs : List Int} {m L : Nat} {lo hi : Int} {w w' : World} (h1 : lo = winLo xs m (L - m)) (h2 : hi = winHi xs m (L - m)) (hb : Below w.heap.size w w') : RetSums xs m L w (.returned (.tuple #[.int .i64 lo, .int .i64 hi])) w' := by
  refine ⟨?_, hb⟩
  rw [h1, h2]
set_option maxHeartbeats 1600000 in
theorem sums_s (ao : Option Addr) (L c m : Nat) (xs : List Int) (w : World) (ha : Sl w w.heap.size ao L c xs) (hx : isWord xs = true) (hm1 : 1 ≤ m) (hm2 : m ≤ L) :
    Calls Try.prog 48 #[.slice ao L c, .int .i64 m] w (RetSums xs m L w) := by
  have hla := ha.len
  have hlc := ha.2.1
  have hl1 : L ≤ 1000 := by have := isWord_len hx; omega
  have HX := Lib.hid hx
  clear hla hx
  have hr2 := fun W => run_upto W ao L c (m : Int) (by omega) (by omega)
  have em : ((m : Int)).toNat = m := Int.toNat_natCast m
  rw [em] at hr2
  clear em
  go_enter Try.func48, Try.ntmps48
  go_wp2_with fail
  clear hr2
  go_loop [6, 8, 16] (fun s _ i => ∃ j : Nat, j ≤ m ∧ i = .int .i64 j ∧ s = .int .i64 (sumUpto xs j)) (fun _ _ i => m - (intOf i).toNat)
  case atStart => exact ⟨0, Nat.zero_le _, rfl, rfl⟩
  case round =>
    obtain ⟨j, hj, rfl, rfl⟩ := hrel
    have hsb := word_sum HX.out j
    by_cases hlt : j < m
    · obtain ⟨b1, off1, rfl, hbl1, hc1⟩ := ha.at_ (by omega)
      have hcx := hc1 j (by omega)
      have hbx := word_at HX.out j
      have hs := Lib.hid (sumUpto_succ xs j)
      clear hc1
      generalize xs.getD j 0 = x at hcx hbx hs
      go_wp2_with fail
      go_round
      case rel => exact ⟨j + 1, by omega, by go_num, by rw [hs.out]⟩
      case measure => simp [intOf]; omega
    · have hjm : j = m := by omega
      subst hjm
      have H0 : Hid (sumUpto xs j = winS xs j j) := by show _ = _; rw [winS_small xs (Nat.le_refl _)]
      generalize sumUpto xs j = s0 at hsb H0
      go_wp2_with fail
      go_loopw [6, 9, 10, 11] (fun s lo hi i wr => ∃ (k : Nat) (sv lv hv : Int), j ≤ k ∧ k ≤ L ∧ i = .int .i64 k ∧ s = .int .i64 sv ∧ lo = .int .i64 lv ∧ hi = .int .i64 hv ∧ Hid (sv = winS xs j k ∧ lv = winLo xs j (k - j) ∧ hv = winHi xs j (k - j)) ∧ Below w.heap.size w wr) (fun _ _ _ i _ => L - (intOf i).toNat)
      case atStart => exact ⟨j, s0, s0, s0, Nat.le_refl _, hm2, rfl, rfl, rfl, rfl, ⟨H0.out, by rw [Nat.sub_self]; exact H0.out, by rw [Nat.sub_self]; exact H0.out⟩, Below.refl _ _⟩
      case round =>
        clear hsb H0
        obtain ⟨k, sv, lv, hv, hjk, hk, rfl, rfl, rfl, rfl, HR, hbel⟩ := hrel
        have hb1 := winS_bd HX.out j k
        have hb2 := winLo_bd HX.out j (k - j)
        have hb3 := winHi_bd HX.out j (k - j)
        rw [← HR.out.1] at hb1
        rw [← HR.out.2.1] at hb2
        rw [← HR.out.2.2] at hb3
        by_cases hlt : k < L
        · obtain ⟨b1, off1, rfl, hbl1, hc1⟩ := ha.at_ (by omega)
          have hcx := (hbel.cell (p := ⟨b1, off1 + k, none⟩) hbl1).trans (hc1 k hlt)
          have hcy := (hbel.cell (p := ⟨b1, off1 + (k - j), none⟩) hbl1).trans (hc1 (k - j) (by omega))
          have hbx := word_at HX.out k
          have hby := word_at HX.out (k - j)
          have hs : Hid (winS xs j (k + 1) = sv + xs.getD k 0 - xs.getD (k - j) 0) := by show _ = _; rw [winS_succ xs hjk, HR.out.1]
          have HL : Hid (winLo xs j (k + 1 - j) = min lv (winS xs j (k + 1))) := by
            show _ = _
            rw [HR.out.2.1, show k + 1 - j = (k - j) + 1 from by omega]
            show min _ (winS xs j (j + (k - j + 1))) = _
            rw [show j + (k - j + 1) = k + 1 from by omega]
          have HH : Hid (winHi xs j (k + 1 - j) = max hv (winS xs j (k + 1))) := by
            show _ = _
            rw [HR.out.2.2, show k + 1 - j = (k - j) + 1 from by omega]
            show max _ (winS xs j (j + (k - j + 1))) = _
            rw [show j + (k - j + 1) = k + 1 from by omega]
          clear hc1
          generalize xs.getD k 0 = x at hcx hbx hs
          generalize xs.getD (k - j) 0 = y at hcy hby hs
          have e1 : ((k : Int) - (j : Int)).toNat = k - j := by omega
          have e2 : IntKind.i64.wrap ((k : Int) - (j : Int)) = (k : Int) - (j : Int) := IntWalk.i64_in _ (by omega)
          have e3 : (0 : Int) ≤ (k : Int) - (j : Int) := by omega
          have e4 : (k : Int) - (j : Int) < (L : Int) := by omega
          have e5 : (k : Int) < (L : Int) := by omega
          have e6 : IntKind.i64.wrap (sv + x) = sv + x := IntWalk.i64_in _ (by omega)
          have e7 : IntKind.i64.wrap (sv + x - y) = sv + x - y := IntWalk.i64_in _ (by omega)
          go_wp2_with fail
          go_quiet (fail)
          clear e1 e2 e3 e4 e5 e6 e7
          go_wp2_with fail
          go_roundw
          case rel => exact ⟨k + 1, _, _, _, by omega, by omega, by go_num, rfl, rfl, rfl, ⟨hs.out.symm, by rw [HL.out, hs.out]; first | rfl | exact ifmin _ _, by rw [HH.out, hs.out]; first | rfl | exact ifmax2 _ _⟩, below_drewN hbel _⟩
          case measure => simp [intOf]; omega
        · have hke : k = L := by omega
          subst hke
          go_wp2_with fail
          go_ret2
          exact ret_sums HR.out.2.1 HR.out.2.2 hbel
set_option maxHeartbeats 1600000 in
theorem part_s (ao : Option Addr) (L c : Nat) (xs : List Int) (n : Int) (w : World) (ha : Sl w w.heap.size ao L c xs) (h1 : Wf n) :
    Calls Try.prog 22 #[.slice ao L c, .int .i64 n] w (RetPart xs n w) := by
  unfold Wf at h1
  have hla := ha.len
  cases hx : isWord xs
  · have hr := Lib.hid (partB_no (xs := xs) (n := n) (.inl hx))
    clear hla
    go_enter Try.func22, Try.ntmps22
    go_wp2_with fail
    refine (isWord_s _ _ _ xs _ ha).mono ?_
    rw [hx]
    rintro e w' ⟨rfl, rfl⟩
    go_wp2_with fail
    go_ret3
    exact ret_part_no hr.out (Below.refl _ _)
  · have hl1 : L ≤ 1000 := by have := isWord_len hx; omega
    by_cases hn : 1 ≤ n ∧ n ≤ (L : Int)
    · obtain ⟨m, rfl⟩ := Int.eq_ofNat_of_zero_le (show 0 ≤ n by omega)
      have hm1 : 1 ≤ m := by omega
      have hm2 : m ≤ L := by omega
      have hB := partB_yes (xs := xs) (n := (m : Int)) hx (by omega) (by rw [hla]; omega)
      have HE := Lib.hid (part_yes hB rfl hla)
      have HB := Lib.hid hB
      have HX := Lib.hid hx
      have ht : (decide (1 ≤ (m : Int)) && decide ((m : Int) ≤ (L : Int))) = true := by simp only [Bool.and_eq_true, decide_eq_true_eq]; exact hn
      clear hB hla
      go_enter Try.func22, Try.ntmps22
      go_wp2_with fail
      refine (isWord_s _ _ _ xs _ ha).mono ?_
      rw [hx]
      rintro e w' ⟨rfl, rfl⟩
      clear hx
      go_wp2_with fail
      refine (in_s _ _ _ _).mono ?_
      rw [ht]
      rintro e w' ⟨rfl, rfl⟩
      clear ht
      go_wp2_with fail
      refine (sums_s _ _ _ m xs _ ha HX.out hm1 hm2).mono ?_
      rintro e w' ⟨rfl, hb⟩
      go_wp2_with fail
      go_ret3
      exact ret_part_yes HB.out HE.out.1.symm HE.out.2.symm hb
    · have hr := Lib.hid (partB_no (xs := xs) (n := n) (by rw [hla]; omega))
      have hf : (decide (1 ≤ n) && decide (n ≤ (L : Int))) = false := by rw [← Bool.not_eq_true]; simp only [Bool.and_eq_true, decide_eq_true_eq]; exact hn
      clear hla
      go_enter Try.func22, Try.ntmps22
      go_wp2_with fail
      refine (isWord_s _ _ _ xs _ ha).mono ?_
      rw [hx]
      rintro e w' ⟨rfl, rfl⟩
      go_wp2_with fail
      refine (in_s _ _ _ _).mono ?_
      rw [hf]
      rintro e w' ⟨rfl, rfl⟩
      go_wp2_with fail
      go_ret3
      exact ret_part_no hr.out (Below.refl _ _)
end Go.Proofs.Ytodoebamkijalaa
