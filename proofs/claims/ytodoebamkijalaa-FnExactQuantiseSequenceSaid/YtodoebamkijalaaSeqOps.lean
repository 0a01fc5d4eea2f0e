/- The contracts of AddSequences, SubSequences and ScaleSequence, of the program and of the reference. -/
import Derived.Test.YtodoebamkijalaaPureS
namespace Go.Proofs.Ytodoebamkijalaa
open Go.RowKit

set_option maxHeartbeats 800000 in
theorem sub_s (ao bo : Option Addr) (n m c d : Nat) (xs ys : List Int) (w : World) (ha : Sl w w.heap.size ao n c xs) (hb : Sl w w.heap.size bo m d ys) :
    Calls Try.prog 58 #[.slice ao n c, .slice bo m d] w (RetOwnB w (mixV xs ys (-1)) (mixB xs ys (-1))) := by
  cases hx : isSeq xs
  · have hr := Lib.hid (mixB_no (xs := xs) (ys := ys) (k := (-1)) (.inl hx))
    go_enter Try.func58, Try.ntmps58
    go_wp2_with (go_at_call 57; refine (isSeq_s _ _ _ xs _ ha).mono ?_; rw [hx]; rintro e w' ⟨rfl, rfl⟩)
    go_ret2
    exact ret_none hr.out
  · cases hy : isSeq ys
    · have hr := Lib.hid (mixB_no (xs := xs) (ys := ys) (k := (-1)) (.inr (.inl hy)))
      go_enter Try.func58, Try.ntmps58
      go_wp2_with fail
      refine (isSeq_s _ _ _ xs _ ha).mono ?_
      rw [hx]
      rintro e w' ⟨rfl, rfl⟩
      go_wp2_with fail
      refine (isSeq_s _ _ _ ys _ hb).mono ?_
      rw [hy]
      rintro e w' ⟨rfl, rfl⟩
      go_wp2_with fail
      go_ret2
      exact ret_none hr.out
    · by_cases hnm : n = m
      · subst hnm
        have hla := ha.len
        have hlb := hb.len
        have HR := Lib.hid (mixB_mk (k := (-1)) hx hy (by rw [hla, hlb]))
        have HX := Lib.hid hx
        have HY := Lib.hid hy
        have hne : (((n : Nat) : Int) != ((n : Nat) : Int)) = false := by simp
        have HL : Hid (mixL xs ys (-1) = tab (mixF xs ys (-1)) n) := by unfold mixL; rw [hla]; exact rfl
        have hl1 : n ≤ 1000 := by have := isSeq_len hx; omega
        clear hla hlb
        go_enter Try.func58, Try.ntmps58
        go_wp2_with fail
        refine (isSeq_s _ _ _ xs _ ha).mono ?_
        rw [hx]
        rintro e w' ⟨rfl, rfl⟩
        go_wp2_with fail
        refine (isSeq_s _ _ _ ys _ hb).mono ?_
        rw [hy]
        rintro e w' ⟨rfl, rfl⟩
        clear hx hy
        go_wp2_with fail
        clear hne
        have o0 := Own.empty w w.heap.size (Nat.le_refl _)
        have b0 := box_below w (.cells #[] 3)
        go_loopw [6, 7, 8, 27] (fun out _ _ i wr => ∃ (j g cap : Nat), j ≤ n ∧ i = .int .i64 j ∧ out = .slice (some ⟨g, 0, none⟩) j cap ∧ Own wr w.heap.size wr.heap.size (some ⟨g, 0, none⟩) j cap (tab (mixF xs ys (-1)) j) ∧ Below w.heap.size w wr) (fun _ _ _ i _ => n - (intOf i).toNat)
        case atStart => exact ⟨0, _, 0, Nat.zero_le _, rfl, rfl, o0, b0⟩
        case round =>
          clear o0 b0
          obtain ⟨j, g, cap, hj, rfl, rfl, hown, hbel⟩ := hrel
          by_cases hlt : j < n
          · obtain ⟨b1, off1, rfl, hbl1, hc1⟩ := ha.at_ (by omega)
            obtain ⟨b2, off2, rfl, hbl2, hc2⟩ := hb.at_ (by omega)
            have hcx := (hbel.cell (p := ⟨b1, off1 + j, none⟩) hbl1).trans (hc1 j hlt)
            have hcy := (hbel.cell (p := ⟨b2, off2 + j, none⟩) hbl2).trans (hc2 j hlt)
            clear hc1 hc2
            have hbx := isSeq_at HX.out j
            have hby := isSeq_at HY.out j
            have hts : Hid (tab (mixF xs ys (-1)) (j + 1) = tab (mixF xs ys (-1)) j ++ [xs.getD j 0 - ys.getD j 0]) := by
              show tab (mixF xs ys (-1)) (j + 1) = _
              rw [tab_succ]; unfold mixF; rw [Int.neg_one_mul]; exact congrArg (fun t => tab _ _ ++ [t]) (by omega)
            generalize xs.getD j 0 = x at hcx hbx hts
            generalize ys.getD j 0 = y at hcy hby hts
            have hsz := hbel.size
            go_wp2_with (at_builtin; refine wpList_one rfl _ _ rfl rfl (hown.alloc _) wr.heap.size 1 (x - y) rfl (by simp [go_sem]) (by omega) (by simp; omega) ?_)
            intro g1 cap1 w1 hown1 hg1
            have hbw : Below w.heap.size w w1 := (hbel.alloc hsz _).trans (hg1.below (hown.alloc _) (by simp; omega))
            rw [← hts.out] at hown1
            clear hcx hcy hown hg1
            go_wp2_with fail
            go_roundw
            case rel => exact ⟨j + 1, g1, cap1, by omega, by go_num, rfl, hown1, hbw⟩
            case measure => simp [intOf]; omega
          · have : j = n := by omega
            subst this
            rw [← HL.out] at hown
            cases hs : isSeq (mixL xs ys (-1))
            · have HB := Lib.hid (HR.out.trans hs)
              go_wp2_with fail
              refine (done_f _ _ _ _ _ (hown.sl (by omega)) hs).mono ?_
              rintro e w' ⟨rfl, rfl⟩
              go_wp2_with fail
              go_ret2
              exact ret_none' HB.out hbel
            · have HB := Lib.hid (HR.out.trans hs)
              go_wp2_with fail
              refine (done_t _ _ _ _ _ (hown.sl (by omega)) hs).mono ?_
              rintro e w' ⟨rfl, rfl⟩
              go_wp2_with fail
              go_ret2
              exact ret_list HB.out hown hbel
      · have hla := ha.len
        have hlb := hb.len
        have hr := Lib.hid (mixB_no (xs := xs) (ys := ys) (k := (-1)) (.inr (.inr (.inl (by omega)))))
        have hne : (((n : Nat) : Int) != ((m : Nat) : Int)) = true := by rw [bne_iff_ne]; omega
        clear hla hlb
        go_enter Try.func58, Try.ntmps58
        go_wp2_with fail
        refine (isSeq_s _ _ _ xs _ ha).mono ?_
        rw [hx]
        rintro e w' ⟨rfl, rfl⟩
        go_wp2_with fail
        refine (isSeq_s _ _ _ ys _ hb).mono ?_
        rw [hy]
        rintro e w' ⟨rfl, rfl⟩
        go_wp2_with fail
        go_ret2
        exact ret_none hr.out
end Go.Proofs.Ytodoebamkijalaa
