/- RepeatSequence, of the program and of the reference. -/
import Derived.Test.YtfmjpbfciclkoaaRep
namespace Go.Proofs.Ytfmjpbfciclkoaa
open Go.RowKit

theorem repV_nil {xs : List Int} {t : Int} (h : xs.length = 0) : repV xs t = [] := by
  obtain rfl : xs = [] := List.eq_nil_of_length_eq_zero h
  unfold repV seqOr repL
  simp [tab]
theorem rep_lt {n T : Nat} (hn : 0 < n) : 1000 / (n : Int) < (T : Int) ↔ 1000 < n * T := by
  rw [Int.ediv_lt_iff_lt_mul (by omega)]
  rw [Int.mul_comm, ← Int.natCast_mul]
  omega
set_option maxHeartbeats 1600000 in
theorem repeat_i (ao : Option Addr) (n c : Nat) (xs : List Int) (t : Int) (w : World) (ha : Sl w w.heap.size ao n c xs) (_hk : Wf t) :
    Calls Try.prog 13 #[.slice ao n c, .int .i64 t] w (RetOwnB w (repV xs t) (repB xs t)) := by
  cases hx : isSeq xs
  · have hr := Lib.hid (repB_no (xs := xs) (t := t) (.inl hx))
    go_enter Try.func13, Try.ntmps13
    go_wp2_with (go_at_call 37; refine (isSeq_i _ _ _ xs _ ha).mono ?_; rw [hx]; rintro e w' ⟨rfl, rfl⟩)
    go_ret2
    exact ret_none hr.out
  · by_cases ht : t < 0
    · have hr := Lib.hid (repB_no (xs := xs) (t := t) (.inr (.inl ht)))
      go_enter Try.func13, Try.ntmps13
      go_wp2_with (go_at_call 37; refine (isSeq_i _ _ _ xs _ ha).mono ?_; rw [hx]; rintro e w' ⟨rfl, rfl⟩)
      go_ret2
      exact ret_none hr.out
    · obtain ⟨T, rfl⟩ := Int.eq_ofNat_of_zero_le (show 0 ≤ t by omega)
      have hla := ha.len
      have hl1 : n ≤ 1000 := by have := isSeq_len hx; omega
      by_cases hn : n = 0
      · have hr := Lib.hid (repB_yes (t := (T : Int)) hx (by omega) (by rw [hla, hn]; simp))
        have hv := Lib.hid (repV_nil (xs := xs) (t := (T : Int)) (by rw [hla, hn]))
        have e0 : ((n : Int) == 0) = true := by rw [beq_iff_eq]; omega
        clear hla hn
        go_enter Try.func13, Try.ntmps13
        go_wp2_with (go_at_call 37; refine (isSeq_i _ _ _ xs _ ha).mono ?_; rw [hx]; rintro e w' ⟨rfl, rfl⟩)
        go_ret2
        rw [hv.out, hr.out]
        exact ⟨none, 0, 0, rfl, Own.nil, Below.refl _ _⟩
      · have e0 : ((n : Int) == 0) = false := by rw [beq_eq_false_iff_ne]; omega
        have e1 : ¬ ((n : Int) = 0) := by omega
        have hq : 0 ≤ 1000 / (n : Int) ∧ 1000 / (n : Int) ≤ 1000 := ⟨Int.ediv_nonneg (by omega) (by omega), Int.ediv_le_self _ (by omega)⟩
        have hlt := rep_lt (n := n) (T := T) (by omega)
        by_cases hbig : 1000 / (n : Int) < (T : Int)
        · have hb := hlt.1 hbig
          have hr := Lib.hid (repB_no (xs := xs) (t := (T : Int)) (.inr (.inr (by rw [hla, ← Int.natCast_mul]; omega))))
          clear hla hlt hb
          go_enter Try.func13, Try.ntmps13
          go_wp2_with (go_at_call 37; refine (isSeq_i _ _ _ xs _ ha).mono ?_; rw [hx]; rintro e w' ⟨rfl, rfl⟩)
          go_ret2
          exact ret_none hr.out
        · have hb : n * T ≤ 1000 := by
            rcases Nat.lt_or_ge 1000 (n * T) with h | h
            · exact absurd (hlt.2 h) hbig
            · exact h
          have hr := Lib.hid (repB_yes (t := (T : Int)) hx (by omega) (by rw [hla, ← Int.natCast_mul]; omega))
          have hT : T ≤ 1000 := by omega
          have hP : Hid (n * T ≤ 1000) := hb
          clear hla hlt hb
          go_enter Try.func13, Try.ntmps13
          go_wp2_with (go_at_call 37; refine (isSeq_i _ _ _ xs _ ha).mono ?_; rw [hx]; rintro e w' ⟨rfl, rfl⟩)
          refine (repeat_any ao n c T xs _ ha (by omega) hP.out (by rcases Nat.eq_zero_or_pos T with h | h; exact .inl h; exact .inr (Nat.le_mul_of_pos_right _ h))).mono ?_
          rintro e w' ⟨a1, c1, rfl, o1, b1⟩
          go_wp2_with fail
          go_ret2
          have hv : repV xs (T : Int) = repL xs T := by unfold repV; rw [hr.out, Int.toNat_natCast]; rfl
          rw [hv, hr.out]
          exact ⟨_, _, _, rfl, o1, b1⟩
set_option maxHeartbeats 1600000 in
theorem repeat_s (ao : Option Addr) (n c : Nat) (xs : List Int) (t : Int) (w : World) (ha : Sl w w.heap.size ao n c xs) (_hk : Wf t) :
    Calls Try.prog 11 #[.slice ao n c, .int .i64 t] w (RetOwnB w (repV xs t) (repB xs t)) := by
  cases hx : isSeq xs
  · have hr := Lib.hid (repB_no (xs := xs) (t := t) (.inl hx))
    go_enter Try.func11, Try.ntmps11
    go_wp2_with (go_at_call 35; refine (isSeq_s _ _ _ xs _ ha).mono ?_; rw [hx]; rintro e w' ⟨rfl, rfl⟩)
    go_ret2
    exact ret_none hr.out
  · by_cases ht : t < 0
    · have hr := Lib.hid (repB_no (xs := xs) (t := t) (.inr (.inl ht)))
      go_enter Try.func11, Try.ntmps11
      go_wp2_with (go_at_call 35; refine (isSeq_s _ _ _ xs _ ha).mono ?_; rw [hx]; rintro e w' ⟨rfl, rfl⟩)
      go_ret2
      exact ret_none hr.out
    · obtain ⟨T, rfl⟩ := Int.eq_ofNat_of_zero_le (show 0 ≤ t by omega)
      have hla := ha.len
      have hl1 : n ≤ 1000 := by have := isSeq_len hx; omega
      have HX := Lib.hid hx
      by_cases hn : n = 0
      · have hr := Lib.hid (repB_yes (t := (T : Int)) hx (by omega) (by rw [hla, hn]; simp))
        have hv := Lib.hid (repV_nil (xs := xs) (t := (T : Int)) (by rw [hla, hn]))
        have e0 : ¬ ((0 : Int) < (n : Int)) := by omega
        have o0 := Own.empty w w.heap.size (Nat.le_refl _)
        have b0 := box_below w (.cells #[] 3)
        clear hla hn
        go_enter Try.func11, Try.ntmps11
        go_wp2_with (go_at_call 35; refine (isSeq_s _ _ _ xs _ ha).mono ?_; rw [hx]; rintro e w' ⟨rfl, rfl⟩)
        go_loopw [6, 7] (fun out i wr => out = .slice (some ⟨w.heap.size, 0, none⟩) 0 0 ∧ i = .int .i64 0 ∧ wr = w.alloc (.cells #[] 3)) (fun _ _ _ => 0)
        case atStart => exact ⟨rfl, rfl, rfl⟩
        case round =>
          obtain ⟨rfl, rfl, rfl⟩ := hrel
          have hn20 : (0 : Nat) ≤ 1048576 := by omega
          have sl0 := o0.sl hn20
          go_wp2_with (go_at_call 36; refine (done_t _ _ _ [] _ sl0 rfl).mono ?_; rintro e w' ⟨rfl, rfl⟩)
          all_goals
            go_ret2
            rw [hv.out, hr.out]
            exact ⟨_, _, _, rfl, o0, b0⟩
      · have e0 : (0 : Int) < (n : Int) := by omega
        by_cases hbig : 1000 < T
        · have hT : (1000 : Int) < (T : Int) := by omega
          have hb : 1000 < n * T := Nat.lt_of_lt_of_le hbig (Nat.le_mul_of_pos_left _ (by omega))
          have hr := Lib.hid (repB_no (xs := xs) (t := (T : Int)) (.inr (.inr (by rw [hla, ← Int.natCast_mul]; omega))))
          clear hla hb
          go_enter Try.func11, Try.ntmps11
          go_wp2_with (go_at_call 35; refine (isSeq_s _ _ _ xs _ ha).mono ?_; rw [hx]; rintro e w' ⟨rfl, rfl⟩)
          go_ret2
          exact ret_none hr.out
        · have hT : (T : Int) ≤ 1000 := by omega
          have hs := repL_seq (xs := xs) T hx
          rw [hla] at hs
          have HS := Lib.hid hs
          have HB : Hid (repB xs (T : Int) = decide (n * T ≤ 1000)) := by
            show _ = _
            by_cases h : n * T ≤ 1000
            · rw [repB_yes hx (by omega) (by rw [hla, ← Int.natCast_mul]; omega), decide_eq_true h]
            · rw [repB_no (.inr (.inr (by rw [hla, ← Int.natCast_mul]; omega))), decide_eq_false h]
          have HV : Hid (repV xs (T : Int) = seqOr (repB xs (T : Int)) (repL xs T)) := by show _ = _; unfold repV; rw [Int.toNat_natCast]
          have HL := Lib.hid (fun j => repL_length xs j)
          rw [hla] at HL
          have HS1 := Lib.hid (fun j => repL_succ xs j)
          have o0 := Own.empty w w.heap.size (Nat.le_refl _)
          have b0 := box_below w (.cells #[] 3)
          rw [← repL_zero xs] at o0
          have hn20 := ha.2.2.1
          have hTn : T ≤ 1000 := by omega
          clear hla hs hbig
          go_enter Try.func11, Try.ntmps11
          go_wp2_with (go_at_call 35; refine (isSeq_s _ _ _ xs _ ha).mono ?_; rw [hx]; rintro e w' ⟨rfl, rfl⟩)
          clear hx
          go_loopw [6, 7] (fun out i wr => ∃ j m g cap : Nat, j ≤ T ∧ m ≤ 1000 * j ∧ out = .slice (some ⟨g, 0, none⟩) m cap ∧ i = .int .i64 j ∧ Own wr w.heap.size wr.heap.size (some ⟨g, 0, none⟩) m cap (repL xs j) ∧ Below w.heap.size w wr) (fun _ i _ => T - (intOf i).toNat)
          case atStart => exact ⟨0, 0, _, 0, Nat.zero_le _, Nat.le_refl _, rfl, rfl, o0, b0⟩
          case round =>
            clear o0 b0
            obtain ⟨j, m, g, cap, hj, hm, rfl, rfl, hown, hbel⟩ := hrel
            by_cases hlt : j < T
            · have e1 : (j : Int) < (T : Int) := by omega
              have hsl := ha.keep hbel
              have hsz := hbel.size
              go_wp2_with (at_builtin; refine wpList_many rfl _ _ rfl rfl hown ao n c w.heap.size xs rfl hsl (by omega) hsz (Nat.le_refl _) ?_)
              intro a1 c1 w1 o1 g1
              obtain ⟨g2, rfl⟩ : ∃ g2, a1 = some ⟨g2, 0, none⟩ := by
                rcases o1.form with ⟨_, h, _⟩ | ⟨g2, h, _⟩
                · omega
                · exact ⟨g2, h⟩
              have hg : wr.grownBy w1 (some g) := g1
              have hgb : w.heap.size ≤ g := by
                rcases hown.form with ⟨h, _⟩ | ⟨g3, h, hb3, _⟩
                · cases h
                · injection h with h; injection h with h; omega
              have hb1 : Below w.heap.size w w1 := hbel.trans ⟨hg.os, hg.tape, hg.output, hg.size, fun k hk => hg.block k (by omega) (by simp; omega)⟩
              rw [← HS1.out j] at o1
              clear hown hbel hsl hg g1 hsz
              go_wp2_with fail
              go_roundw
              case rel => exact ⟨j + 1, m + n, g2, c1, by omega, by omega, rfl, by go_num, o1, hb1⟩
              case measure => simp [intOf]; omega
            · obtain rfl : T = j := by omega
              have hml : m = n * T := by rw [← hown.len, HL.out]
              have HM := Lib.hid hml
              have hm2 : m ≤ 1048576 := by omega
              have hsl := hown.sl hm2
              clear hml
              cases hq : decide (n * T ≤ 1000)
              · have hs := HS.out
                have hb := HB.out
                rw [hq] at hs hb
                have HS2 := Lib.hid hs
                have HB2 := Lib.hid hb
                clear hq hs hb HS HB HM
                go_wp2_with (go_at_call 36; refine (done_f _ _ _ _ _ hsl HS2.out).mono ?_; rintro e w' ⟨rfl, rfl⟩)
                go_ret2
                rw [HV.out]
                exact ret_none' HB2.out hbel
              · have hs := HS.out
                have hb := HB.out
                rw [hq] at hs hb
                have HS2 := Lib.hid hs
                have HB2 := Lib.hid hb
                clear hq hs hb HS HB HM
                go_wp2_with (go_at_call 36; refine (done_t _ _ _ _ _ hsl HS2.out).mono ?_; rintro e w' ⟨rfl, rfl⟩)
                go_ret2
                rw [HV.out]
                exact ret_list HB2.out hown hbel
end Go.Proofs.Ytfmjpbfciclkoaa
