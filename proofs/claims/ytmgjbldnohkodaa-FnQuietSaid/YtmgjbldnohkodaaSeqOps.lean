/- The contracts of AddSequences, SubSequences and ScaleSequence, of the program and of the reference. -/
import Derived.Test.YtmgjbldnohkodaaPureS
namespace Go.Proofs.Ytmgjbldnohkodaa
open Go.RowKit

set_option maxHeartbeats 800000 in
theorem mixed_i (ao bo : Option Addr) (n m c d : Nat) (xs ys : List Int) (k : Int) (w : World) (ha : Sl w w.heap.size ao n c xs) (hb : Sl w w.heap.size bo m d ys) (hk : k = 1 ∨ k = -1) :
    Calls Try.prog 80 #[.slice ao n c, .slice bo m d, .int .i64 k] w (RetOwnB w (mixV xs ys k) (mixB xs ys k)) := by
  cases hx : isSeq xs
  · have hr := Lib.hid (mixB_no (xs := xs) (ys := ys) (k := k) (.inl hx))
    go_enter Try.func80, Try.ntmps80
    go_wp2_with (go_at_call 63; refine (isSeq_i _ _ _ xs _ ha).mono ?_; rw [hx]; rintro e w' ⟨rfl, rfl⟩)
    go_ret2
    exact ret_none hr.out
  · cases hy : isSeq ys
    · have hr := Lib.hid (mixB_no (xs := xs) (ys := ys) (k := k) (.inr (.inl hy)))
      go_enter Try.func80, Try.ntmps80
      go_wp2_with fail
      refine (isSeq_i _ _ _ xs _ ha).mono ?_
      rw [hx]
      rintro e w' ⟨rfl, rfl⟩
      go_wp2_with fail
      refine (isSeq_i _ _ _ ys _ hb).mono ?_
      rw [hy]
      rintro e w' ⟨rfl, rfl⟩
      go_wp2_with fail
      go_ret2
      exact ret_none hr.out
    · by_cases hnm : n = m
      · subst hnm
        have hla := ha.len
        have hlb := hb.len
        have HR := Lib.hid (mixB_mk (k := k) hx hy (by rw [hla, hlb]))
        have HX := Lib.hid hx
        have HY := Lib.hid hy
        have hne : (((n : Nat) : Int) != ((n : Nat) : Int)) = false := by simp
        have HL : Hid (mixL xs ys k = tab (mixF xs ys k) n) := by unfold mixL; rw [hla]; exact rfl
        have hl1 : n ≤ 1000 := by have := isSeq_len hx; omega
        clear hla hlb
        have HK := Lib.hid hk
        clear hk
        go_enter Try.func80, Try.ntmps80
        go_wp2_with fail
        refine (isSeq_i _ _ _ xs _ ha).mono ?_
        rw [hx]
        rintro e w' ⟨rfl, rfl⟩
        go_wp2_with fail
        refine (isSeq_i _ _ _ ys _ hb).mono ?_
        rw [hy]
        rintro e w' ⟨rfl, rfl⟩
        clear hx hy
        go_wp2_with fail
        clear hne
        have o0 := Own.empty w w.heap.size (Nat.le_refl _)
        have b0 := box_below w (.cells #[] 3)
        go_loopw [8, 9, 28] (fun out _ i wr => ∃ (j g cap : Nat), j ≤ n ∧ i = .int .i64 j ∧ out = .slice (some ⟨g, 0, none⟩) j cap ∧ Own wr w.heap.size wr.heap.size (some ⟨g, 0, none⟩) j cap (tab (mixF xs ys k) j) ∧ Below w.heap.size w wr) (fun _ _ i _ => n - (intOf i).toNat)
        case atStart => exact ⟨0, _, 0, Nat.zero_le _, rfl, rfl, o0, b0⟩
        case round =>
          clear o0 b0
          obtain ⟨j, g, cap, hj, rfl, rfl, hown, hbel⟩ := hrel
          by_cases hlt : j < n
          · obtain ⟨b1, off1, rfl, hbl1, hc1⟩ := ha.at_ (by omega)
            obtain ⟨b2, off2, rfl, hbl2, hc2⟩ := hb.at_ (by omega)
            have hcx := (hbel.cell (p := ⟨b1, off1 + j, none⟩) hbl1).trans (hc1 j hlt)
            have hcy := (hbel.cell (p := ⟨b2, off2 + j, none⟩) hbl2).trans (hc2 j hlt)
            have Hc1 := Lib.hid (hc1 j hlt)
            have Hc2 := Lib.hid (hc2 j hlt)
            clear hc1 hc2
            have hbx := isSeq_at HX.out j
            have hby := isSeq_at HY.out j
            have hts : Hid (tab (mixF xs ys k) (j + 1) = tab (mixF xs ys k) j ++ [xs.getD j 0 + k * ys.getD j 0]) := tab_succ _ _
            generalize xs.getD j 0 = x at hcx hbx hts Hc1
            generalize ys.getD j 0 = y at hcy hby hts Hc2
            have hky : -1099511627776 ≤ k * y ∧ k * y ≤ 1099511627776 := by rcases HK.out with h | h <;> subst h <;> omega
            have hsz := hbel.size
            have e1 : IntKind.i64.wrap (k * y) = k * y := IntWalk.i64_in _ (by omega)
            have e2 : IntKind.i64.wrap (x + k * y) = x + k * y := IntWalk.i64_in _ (by omega)
            have hj0 : (0 : Int) ≤ (j : Int) := Int.natCast_nonneg _
            have hj1 : (j : Int) < (n : Int) := by omega
            go_wp2_with fail
            go_region_held3 (fun w' => w'.cell? ⟨b1, off1 + j, none⟩ = some (.int .i64 x) ∧ w'.cell? ⟨b2, off2 + j, none⟩ = some (.int .i64 y)) (go_keep)
              ((refine step_one (by rfl) _ _ (by rfl) (by rfl) (hown.alloc _) wr.heap.size 1 (x + k * y) (by rfl) (by simp [go_sem]) (by omega) (by simp; omega) ?_; intro g1 cap1 w1 hown1 hg1; have hbw : Below w.heap.size w w1 := ((hbel.alloc hsz _).drew).trans (hg1.below (hown.alloc _) (by simp; omega)); have hcx' := (hbw.cell (p := ⟨b1, off1 + j, none⟩) hbl1).trans Hc1.out; have hcy' := (hbw.cell (p := ⟨b2, off2 + j, none⟩) hbl2).trans Hc2.out))
            rw [← hts.out] at hown1
            clear hcx hcy hcx' hcy' e1 e2 hown hg1
            go_wp2_with fail
            go_roundw
            case rel => exact ⟨j + 1, g1, cap1, by omega, by go_num, rfl, hown1, hbw⟩
            case measure => simp [intOf]; omega
          · have : j = n := by omega
            subst this
            rw [← HL.out] at hown
            cases hs : isSeq (mixL xs ys k)
            · have HB := Lib.hid (HR.out.trans hs)
              go_wp2_with fail
              refine (asSeq_f _ _ _ _ _ (hown.sl (by omega)) hs).mono ?_
              rintro e w' ⟨rfl, rfl⟩
              go_wp2_with fail
              go_ret2
              exact ret_none' HB.out hbel
            · have HB := Lib.hid (HR.out.trans hs)
              go_wp2_with fail
              refine (asSeq_t _ _ _ _ _ (hown.sl (by omega)) hs).mono ?_
              rintro e w' ⟨rfl, rfl⟩
              go_wp2_with fail
              go_ret2
              exact ret_list HB.out hown hbel
      · have hla := ha.len
        have hlb := hb.len
        have hr := Lib.hid (mixB_no (xs := xs) (ys := ys) (k := k) (.inr (.inr (.inl (by omega)))))
        have hne : (((n : Nat) : Int) != ((m : Nat) : Int)) = true := by rw [bne_iff_ne]; omega
        clear hla hlb
        go_enter Try.func80, Try.ntmps80
        go_wp2_with fail
        refine (isSeq_i _ _ _ xs _ ha).mono ?_
        rw [hx]
        rintro e w' ⟨rfl, rfl⟩
        go_wp2_with fail
        refine (isSeq_i _ _ _ ys _ hb).mono ?_
        rw [hy]
        rintro e w' ⟨rfl, rfl⟩
        go_wp2_with fail
        go_ret2
        exact ret_none hr.out
set_option maxHeartbeats 400000 in
theorem sub_i (ao bo : Option Addr) (n m c d : Nat) (xs ys : List Int) (w : World) (ha : Sl w w.heap.size ao n c xs) (hb : Sl w w.heap.size bo m d ys) :
    Calls Try.prog 48 #[.slice ao n c, .slice bo m d] w (RetOwnB w (mixV xs ys (-1)) (mixB xs ys (-1))) := by
  go_enter Try.func48, Try.ntmps48
  go_wp2_with fail
  refine (mixed_i _ _ _ _ _ _ xs ys _ _ ha hb (by omega)).mono ?_
  rintro e w1 ⟨ao1, n1, c1, rfl, o1, b1⟩
  go_wp2_with fail
  go_ret2
  exact ⟨ao1, n1, c1, rfl, o1, b1⟩
end Go.Proofs.Ytmgjbldnohkodaa
