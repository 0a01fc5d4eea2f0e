/- The contracts of Convolve, of the program and of the reference. -/
import Derived.Test.YtmgjbldnohkodaaSeqOps2
import Derived.Test.YtmgjbldnohkodaaPureC
namespace Go.Proofs.Ytmgjbldnohkodaa
open Go.RowKit

set_option maxHeartbeats 3200000 in
set_option maxRecDepth 100000 in
theorem conv_i (ao bo : Option Addr) (n m c d : Nat) (xs hs : List Int) (w : World) (ha : Sl w w.heap.size ao n c xs) (hb : Sl w w.heap.size bo m d hs) :
    Calls Try.prog 49 #[.slice ao n c, .slice bo m d] w (RetOwnB w (cvV xs hs) (cvB xs hs)) := by
  cases hx : isSeq xs
  · have hr := Lib.hid (cvB_no (xs := xs) (hs := hs) (.inl hx))
    go_enter Try.func49, Try.ntmps49
    go_wp2_with fail
    refine (isSeq_i _ _ _ xs _ ha).mono ?_
    rw [hx]
    rintro e w' ⟨rfl, rfl⟩
    go_wp2_with fail
    go_ret2
    exact ret_none hr.out
  · by_cases hm : m ≤ 100
    · have hla := ha.len
      have hlb := hb.len
      have hl1 : n ≤ 1000 := by have := isSeq_len hx; omega
      have HX := Lib.hid hx
      have HA := Lib.hid hla
      have HB := Lib.hid hlb
      clear hla hlb
      go_enter Try.func49, Try.ntmps49
      go_wp2_with fail
      refine (isSeq_i _ _ _ xs _ ha).mono ?_
      rw [hx]
      rintro e w' ⟨rfl, rfl⟩
      clear hx
      go_wp2_with fail
      go_loop [7, 23] (fun _ i => ∃ k : Nat, k ≤ m ∧ i = .int .i64 k ∧ coUpto hs k) (fun _ i => m - (intOf i).toNat)
      case atStart => exact ⟨0, Nat.zero_le _, rfl, coUpto_zero _⟩
      case round =>
        obtain ⟨k, hk, rfl, hok⟩ := hrel
        by_cases hlt : k < m
        · obtain ⟨b1, off1, rfl, hbl1, hc1⟩ := hb.at_ (by omega)
          have hcx := hc1 k hlt
          clear hc1
          cases hs1 : coB (hs.getD k 0)
          · have hno := Lib.hid (cvB_no (xs := xs) (.inr (coAll_no (by rw [HB.out]; exact hlt) hs1)))
            have hbd := coB_false hs1
            clear hs1
            generalize hs.getD k 0 = x at hcx hbd
            by_cases hx1 : x < -1000000
            · go_wp2_with fail
              go_ret2
              exact ret_none hno.out
            · have hx2 : 1000000 < x := by omega
              clear hbd
              go_wp2_with fail
              go_ret2
              exact ret_none hno.out
          · have hok1 := coUpto_succ hok hs1
            have hbd := coB_true hs1
            clear hs1
            generalize hs.getD k 0 = x at hcx hbd
            go_wp2_with fail
            go_round
            case rel => exact ⟨k + 1, by omega, by go_num, hok1⟩
            case measure => simp [intOf]; omega
        · have hkm : k = m := by omega
          subst hkm
          have HC : Hid (coAll hs = true) := coAll_yes HB.out hm hok
          clear hok
          have HR := Lib.hid (cvB_mk HX.out HC.out)
          have HL : Hid (cvL xs hs = tab (cvF xs hs) n) := by show cvL xs hs = _; unfold cvL; rw [HA.out]
          go_wp2_with fail
          have o0 := Own.empty w w.heap.size (Nat.le_refl _)
          have b0 := box_below w (.cells #[] 3)
          go_loopw [8, 9, 10, 11, 12, 37] (fun out _ _ _ _ i wr => ∃ (j g cap : Nat), j ≤ n ∧ i = .int .i64 j ∧ out = .slice (some ⟨g, 0, none⟩) j cap ∧ Own wr w.heap.size wr.heap.size (some ⟨g, 0, none⟩) j cap (tab (cvF xs hs) j) ∧ Below w.heap.size w wr) (fun _ _ _ _ _ i _ => n - (intOf i).toNat)
          case atStart => exact ⟨0, _, 0, Nat.zero_le _, rfl, rfl, o0, b0⟩
          case round =>
            clear o0 b0
            obtain ⟨j, g, cap, hj, rfl, rfl, hown, hbel⟩ := hrel
            by_cases hjn : j < n
            · obtain ⟨wo, rfl⟩ : ∃ wo : World, wo = wr := ⟨_, rfl⟩
              go_wp2_with fail
              go_loopw [10, 11, 12] (fun hi lo i wr => ∃ q : Nat, q ≤ k ∧ i = .int .i64 q ∧ hi = .int .i64 (ptUpto hiI xs hs j q) ∧ lo = .int .i64 (ptUpto loI xs hs j q) ∧ (q ≤ j + 1) ∧ Own wr w.heap.size wo.heap.size (some ⟨g, 0, none⟩) j cap (tab (cvF xs hs) j) ∧ Below w.heap.size w wr ∧ wo.heap.size ≤ wr.heap.size) (fun _ _ i _ => k - (intOf i).toNat)
              case atStart => exact ⟨0, Nat.zero_le _, rfl, rfl, rfl, by omega, hown, hbel, Nat.le_refl _⟩
              case round =>
                clear hown hbel
                obtain ⟨q, hqk, rfl, rfl, rfl, hqj, hown, hbel, hsz1⟩ := hrel
                have bh := ptUpto_bd (f := hiI) (xs := xs) (fun i => by have := partI_bd (isSeq_at HX.out i); omega) HC.out j q
                have bl := ptUpto_bd (f := loI) (xs := xs) (fun i => by have := partI_bd (isSeq_at HX.out i); omega) HC.out j q
                by_cases hq : q < k
                · by_cases hqn : q ≤ j
                  · obtain ⟨b1, off1, rfl, hbl1, hc1⟩ := ha.at_ (by omega)
                    obtain ⟨b2, off2, rfl, hbl2, hc2⟩ := hb.at_ (by omega)
                    have hcx := (hbel.cell (p := ⟨b1, off1 + (j - q), none⟩) hbl1).trans (hc1 (j - q) (by omega))
                    have hch := (hbel.cell (p := ⟨b2, off2 + q, none⟩) hbl2).trans (hc2 q hq)
                    clear hc1 hc2
                    have tl := ptT_bd (f := loI) (xs := xs) (fun i => by have := partI_bd (isSeq_at HX.out i); omega) HC.out j q
                    have th := ptT_bd (f := hiI) (xs := xs) (fun i => by have := partI_bd (isSeq_at HX.out i); omega) HC.out j q
                    have nl : Hid (ptUpto loI xs hs j (q + 1) = ptUpto loI xs hs j q + hs.getD q 0 * loI (xs.getD (j - q) 0)) := by
                      show ptUpto loI xs hs j (q + 1) = _
                      rw [ptUpto_succ, ptT, if_pos hqn]
                    have nh : Hid (ptUpto hiI xs hs j (q + 1) = ptUpto hiI xs hs j q + hs.getD q 0 * hiI (xs.getD (j - q) 0)) := by
                      show ptUpto hiI xs hs j (q + 1) = _
                      rw [ptUpto_succ, ptT, if_pos hqn]
                    rw [ptT, if_pos hqn] at tl th
                    have bx := partI_bd (isSeq_at HX.out (j - q))
                    have bxx := isSeq_at HX.out (j - q)
                    generalize xs.getD (j - q) 0 = x at hcx tl th nl nh bx bxx
                    generalize hs.getD q 0 = h at hch tl th nl nh
                    generalize ptUpto loI xs hs j q = L at bl nl
                    generalize ptUpto hiI xs hs j q = H at bh nh
                    unfold loI at tl
                    unfold hiI at th
                    have nl2 : Hid (ptUpto loI xs hs j (q + 1) = L + h * x.tmod 1048576) := nl
                    have nh2 : Hid (ptUpto hiI xs hs j (q + 1) = H + h * x.tdiv 1048576) := nh
                    clear nl nh
                    unfold loI hiI at bx
                    have e1 : IntKind.i64.wrap ((j : Int) - (q : Int)) = (j : Int) - (q : Int) := IntWalk.i64_in _ (by omega)
                    have e2 : ((j : Int) - (q : Int)).toNat = j - q := by omega
                    have e3 : (0 : Int) ≤ (j : Int) - (q : Int) := by omega
                    have e4 : (j : Int) - (q : Int) < (n : Int) := by omega
                    have e5 : (q : Int) < (k : Int) := by omega
                    have t1 : IntKind.i64.wrap (x.tmod 1048576) = x.tmod 1048576 := IntWalk.i64_in _ (by omega)
                    have t2 : IntKind.i64.wrap (x.tdiv 1048576) = x.tdiv 1048576 := IntWalk.i64_in _ (by omega)
                    have p1 : IntKind.i64.wrap (h * x.tmod 1048576) = h * x.tmod 1048576 := IntWalk.i64_in _ (by omega)
                    have p2 : IntKind.i64.wrap (h * x.tdiv 1048576) = h * x.tdiv 1048576 := IntWalk.i64_in _ (by omega)
                    have s1 : IntKind.i64.wrap (L + h * x.tmod 1048576) = L + h * x.tmod 1048576 := IntWalk.i64_in _ (by omega)
                    have s2 : IntKind.i64.wrap (H + h * x.tdiv 1048576) = H + h * x.tdiv 1048576 := IntWalk.i64_in _ (by omega)
                    have hd1 : decide (q ≤ j) = true := by simp; omega
                    go_wp2_with fail
                    go_quiet (fail)
                    go_wp2_with fail
                    go_quiet (fail)
                    go_wp2_with fail
                    go_roundw
                    case rel => exact ⟨q + 1, by omega, by go_num, by rw [nh2.out], by rw [nl2.out], by omega, hown.drewN _, below_drewN hbel _, hsz1⟩
                    case measure => simp [intOf]; omega
                  · have hfin : ∀ f : Int → Int, ptUpto f xs hs j k = ptUpto f xs hs j q := fun f => by
                      rcases Nat.lt_or_ge q k with h | h
                      · rw [show k = q + (k - q) from by omega]; exact ptUpto_stop f xs hs j q (by omega) _
                      · rw [show k = q from by omega]
                    have hsum : Hid (ptUpto hiI xs hs j q * 1048576 + ptUpto loI xs hs j q = cvF xs hs j) := by
                      show _ = cvF xs hs j
                      unfold cvF
                      rw [HB.out, ← pt_join partI j k, hfin, hfin]
                    have hts : Hid (tab (cvF xs hs) (j + 1) = tab (cvF xs hs) j ++ [cvF xs hs j]) := tab_succ _ _
                    have hcl := Lib.hid (cvB_big (xs := xs) (hs := hs) (n := j) (by rw [HA.out]; exact hjn))
                    clear hfin
                    generalize ptUpto hiI xs hs j q = H at bh hsum
                    generalize ptUpto loI xs hs j q = L at bl hsum
                    generalize cvF xs hs j = V at hsum hts hcl
                    have hL := Int.tmod_add_mul_tdiv L 1048576
                    have hLb : -105906176 ≤ L.tdiv 1048576 ∧ L.tdiv 1048576 ≤ 105906176 ∧ -1048576 ≤ L.tmod 1048576 ∧ L.tmod 1048576 ≤ 1048576 := by
                      have h1 : (-L).tmod 1048576 = -(L.tmod 1048576) := Int.neg_tmod ..
                      have h2 := Int.tmod_lt_of_pos L (show (0 : Int) < 1048576 by omega)
                      have h3 := Int.tmod_lt_of_pos (-L) (show (0 : Int) < 1048576 by omega)
                      omega
                    have hV : Hid (V = (H + L.tdiv 1048576) * 1048576 + L.tmod 1048576) := by have := hsum.out; show V = _; omega
                    clear hL
                    have hHb : -104857600000000 ≤ H ∧ H ≤ 104857600000000 := by omega
                    clear bh bl
                    obtain ⟨mh, HM⟩ : ∃ mh, Hid (mh = max (H + L.tdiv 1048576) (-(H + L.tdiv 1048576))) := ⟨_, rfl⟩
                    have hmh : 0 ≤ mh := by have := HM.out; omega
                    by_cases hbig : 2097152 < mh
                    · have hno := Lib.hid (hcl.out (sampleB_no (by have := hV.out; have := HM.out; omega)))
                      go_wp2_with fail
                      refine (size_i _ _ _ HM (by omega)).mono ?_
                      rintro e w' ⟨rfl, rfl⟩
                      go_wp2_with fail
                      go_ret2
                      exact ret_none' hno.out hbel
                    · have hHL : -2097152 ≤ H + L.tdiv 1048576 ∧ H + L.tdiv 1048576 ≤ 2097152 := by have := HM.out; omega
                      have hsz := hbel.size
                      go_wp2_with fail
                      refine (size_i _ _ _ HM (by omega)).mono ?_
                      rintro e w' ⟨rfl, rfl⟩
                      go_wp2_with (at_builtin; refine wpList_one rfl _ _ rfl rfl ((hown.wide (Nat.le_refl _) hsz1).alloc _) wr.heap.size 1 ((H + L.tdiv 1048576) * 1048576 + L.tmod 1048576) rfl (by simp [go_sem]) (by omega) (by simp; omega) ?_)
                      intro g1 cap1 w1 hown1 hg1
                      have hbw : Below w.heap.size w w1 := (hbel.alloc hsz _).trans (hg1.below ((hown.wide (Nat.le_refl _) hsz1).alloc _) (by simp; omega))
                      rw [← hV.out, ← hts.out] at hown1
                      clear hown hg1 hmh hbig hLb hHL hHb HM hcl hV hts hsum
                      go_wp2_with fail
                      go_roundw
                      case rel => exact ⟨j + 1, g1, cap1, by omega, by go_num, rfl, hown1, hbw⟩
                      case measure => simp [intOf]; omega
                · have hfin : ∀ f : Int → Int, ptUpto f xs hs j k = ptUpto f xs hs j q := fun f => by
                    rcases Nat.lt_or_ge q k with h | h
                    · rw [show k = q + (k - q) from by omega]; exact ptUpto_stop f xs hs j q (by omega) _
                    · rw [show k = q from by omega]
                  have hsum : Hid (ptUpto hiI xs hs j q * 1048576 + ptUpto loI xs hs j q = cvF xs hs j) := by
                    show _ = cvF xs hs j
                    unfold cvF
                    rw [HB.out, ← pt_join partI j k, hfin, hfin]
                  have hts : Hid (tab (cvF xs hs) (j + 1) = tab (cvF xs hs) j ++ [cvF xs hs j]) := tab_succ _ _
                  have hcl := Lib.hid (cvB_big (xs := xs) (hs := hs) (n := j) (by rw [HA.out]; exact hjn))
                  clear hfin
                  generalize ptUpto hiI xs hs j q = H at bh hsum
                  generalize ptUpto loI xs hs j q = L at bl hsum
                  generalize cvF xs hs j = V at hsum hts hcl
                  have hL := Int.tmod_add_mul_tdiv L 1048576
                  have hLb : -105906176 ≤ L.tdiv 1048576 ∧ L.tdiv 1048576 ≤ 105906176 ∧ -1048576 ≤ L.tmod 1048576 ∧ L.tmod 1048576 ≤ 1048576 := by
                    have h1 : (-L).tmod 1048576 = -(L.tmod 1048576) := Int.neg_tmod ..
                    have h2 := Int.tmod_lt_of_pos L (show (0 : Int) < 1048576 by omega)
                    have h3 := Int.tmod_lt_of_pos (-L) (show (0 : Int) < 1048576 by omega)
                    omega
                  have hV : Hid (V = (H + L.tdiv 1048576) * 1048576 + L.tmod 1048576) := by have := hsum.out; show V = _; omega
                  clear hL
                  have hHb : -104857600000000 ≤ H ∧ H ≤ 104857600000000 := by omega
                  clear bh bl
                  obtain ⟨mh, HM⟩ : ∃ mh, Hid (mh = max (H + L.tdiv 1048576) (-(H + L.tdiv 1048576))) := ⟨_, rfl⟩
                  have hmh : 0 ≤ mh := by have := HM.out; omega
                  by_cases hbig : 2097152 < mh
                  · have hno := Lib.hid (hcl.out (sampleB_no (by have := hV.out; have := HM.out; omega)))
                    go_wp2_with fail
                    refine (size_i _ _ _ HM (by omega)).mono ?_
                    rintro e w' ⟨rfl, rfl⟩
                    go_wp2_with fail
                    go_ret2
                    exact ret_none' hno.out hbel
                  · have hHL : -2097152 ≤ H + L.tdiv 1048576 ∧ H + L.tdiv 1048576 ≤ 2097152 := by have := HM.out; omega
                    have hsz := hbel.size
                    go_wp2_with fail
                    refine (size_i _ _ _ HM (by omega)).mono ?_
                    rintro e w' ⟨rfl, rfl⟩
                    go_wp2_with (at_builtin; refine wpList_one rfl _ _ rfl rfl ((hown.wide (Nat.le_refl _) hsz1).alloc _) wr.heap.size 1 ((H + L.tdiv 1048576) * 1048576 + L.tmod 1048576) rfl (by simp [go_sem]) (by omega) (by simp; omega) ?_)
                    intro g1 cap1 w1 hown1 hg1
                    have hbw : Below w.heap.size w w1 := (hbel.alloc hsz _).trans (hg1.below ((hown.wide (Nat.le_refl _) hsz1).alloc _) (by simp; omega))
                    rw [← hV.out, ← hts.out] at hown1
                    clear hown hg1 hmh hbig hLb hHL hHb HM hcl hV hts hsum
                    go_wp2_with fail
                    go_roundw
                    case rel => exact ⟨j + 1, g1, cap1, by omega, by go_num, rfl, hown1, hbw⟩
                    case measure => simp [intOf]; omega
            · have hjn2 : j = n := by omega
              subst hjn2
              rw [← HL.out] at hown
              cases hs2 : isSeq (cvL xs hs)
              · have HBB := Lib.hid (HR.out.trans hs2)
                go_wp2_with fail
                refine (asSeq_f _ _ _ _ _ (hown.sl (by omega)) hs2).mono ?_
                rintro e w' ⟨rfl, rfl⟩
                go_wp2_with fail
                go_ret2
                exact ret_none' HBB.out hbel
              · have HBB := Lib.hid (HR.out.trans hs2)
                go_wp2_with fail
                refine (asSeq_t _ _ _ _ _ (hown.sl (by omega)) hs2).mono ?_
                rintro e w' ⟨rfl, rfl⟩
                go_wp2_with fail
                go_ret2
                exact ret_list HBB.out hown hbel
    · have hr := Lib.hid (cvB_no (xs := xs) (hs := hs) (.inr (by
        rw [← Bool.not_eq_true]; intro h; have := coAll_len h; have := hb.len; omega)))
      go_enter Try.func49, Try.ntmps49
      go_wp2_with fail
      refine (isSeq_i _ _ _ xs _ ha).mono ?_
      rw [hx]
      rintro e w' ⟨rfl, rfl⟩
      go_wp2_with fail
      go_ret2
      exact ret_none hr.out


end Go.Proofs.Ytmgjbldnohkodaa
