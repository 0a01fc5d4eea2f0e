/- The contracts of RunsOf, of the program and of the reference. -/
import Derived.Test.YtodoebamkijalaaPureW
import Derived.Deep.QuietTactic
namespace Go.Proofs.Ytodoebamkijalaa
open Go.RowKit
set_option linter.unusedVariables false

theorem ret_own {w w' : World} {ao : Option Addr} {n cap : Nat} {ys : List Int} (ho : Own w' w.heap.size w'.heap.size ao n cap ys) (hw : Below w.heap.size w w') : RetOwn w ys (.returned (.slice ao n cap)) w' := ⟨ao, n, cap, rfl, ho, hw⟩
theorem runsV_no {xs : List Int} (h : isWord xs = false) : runsV xs = [] := by unfold runsV; rw [h, seqOr_no rfl]
theorem runsV_yes {xs : List Int} {n : Nat} (h : isWord xs = true) (hl : xs.length = n) : runsV xs = runsUpto xs n := by unfold runsV; rw [h, seqOr_yes rfl, hl]
/-- The last run grows by one. -/
theorem runs_grow {xs : List Int} {k m : Nat} (h0 : 0 < k) (h : xs.getD (k - 1) 0 = xs.getD k 0) (hm : (runsUpto xs k).length = m) :
    runsUpto xs (k + 1) = (runsUpto xs k).set (m - 1) ((runsUpto xs k).getD (m - 1) 0 + 1) ∧ (runsUpto xs (k + 1)).length = m := by
  rw [runs_old h0 h, hm, List.length_set]
  exact ⟨rfl, hm⟩
theorem runs_start {xs : List Int} {k m : Nat} (h : k = 0 ∨ ¬ xs.getD (k - 1) 0 = xs.getD k 0) (hm : (runsUpto xs k).length = m) :
    runsUpto xs (k + 1) = runsUpto xs k ++ [1] ∧ (runsUpto xs (k + 1)).length = m + 1 := by
  rw [runs_new h, List.length_append, hm]
  exact ⟨rfl, rfl⟩
theorem runs_start0 {xs : List Int} {k m : Nat} (h : k = 0 ∨ ¬ xs.getD (k - 1) 0 = xs.getD k 0) (hm : (runsUpto xs k).length = m) :
    (runsUpto xs k ++ [0]).set m 1 = runsUpto xs (k + 1) ∧ (runsUpto xs k ++ [0]).getD m 0 = 0 := by
  rw [runs_new h, ← hm]
  exact ⟨set_last _ _, last_of _ _⟩

set_option maxHeartbeats 1600000 in
theorem runs_i (ao : Option Addr) (n c : Nat) (xs : List Int) (w : World) (ha : Sl w w.heap.size ao n c xs) :
    Calls Try.prog 27 #[.slice ao n c] w (RetOwn w (runsV xs)) := by
  cases hx : isWord xs
  · have hr := Lib.hid (runsV_no hx)
    go_enter Try.func27, Try.ntmps27
    go_wp2_with fail
    refine (isWord_i _ _ _ xs _ ((ha.keep (box_below w (.cells #[] 3))).more (by simp))).mono ?_
    rw [hx]
    rintro e w' ⟨rfl, rfl⟩
    go_wp2_with fail
    go_ret
    rw [hr.out]
    exact ret_own (Own.empty w w.heap.size (Nat.le_refl _)) (box_below w _)
  · have hla := ha.len
    have HX := Lib.hid hx
    have HL := Lib.hid (runsV_yes hx hla)
    have HLA := Lib.hid hla
    have hl1 : n ≤ 1000 := by have := isWord_len hx; omega
    clear hla
    go_enter Try.func27, Try.ntmps27
    go_wp2_with fail
    refine (isWord_i _ _ _ xs _ ((ha.keep (box_below w (.cells #[] 3))).more (by simp))).mono ?_
    rw [hx]
    rintro e w' ⟨rfl, rfl⟩
    clear hx
    go_wp2_with fail
    have o0 := Own.empty w w.heap.size (Nat.le_refl _)
    have b0 := box_below w (.cells #[] 3)
    go_loopw [3, 4, 5, 13] (fun out _ _ i wr => ∃ (j g m cap : Nat), j ≤ n ∧ i = .int .i64 j ∧ out = .slice (some ⟨g, 0, none⟩) m cap ∧ Own wr w.heap.size wr.heap.size (some ⟨g, 0, none⟩) m cap (runsUpto xs j) ∧ Below w.heap.size w wr) (fun _ _ _ i _ => n - (intOf i).toNat)
    case atStart => exact ⟨0, _, 0, 0, Nat.zero_le _, rfl, rfl, o0, b0⟩
    case round =>
      clear o0 b0
      obtain ⟨j, g, m, cap, hj, rfl, rfl, hown, hbel⟩ := hrel
      have hml := Lib.hid hown.len
      have hm1 := (runs_len xs j).1
      have hm2 := (runs_len xs j).2
      rw [hml.out] at hm1 hm2
      have hsz := hbel.size
      by_cases hlt : j < n
      · obtain ⟨b1, off1, rfl, hbl1, hc1⟩ := ha.at_ (by omega)
        have hcx := (hbel.cell (p := ⟨b1, off1 + j, none⟩) hbl1).trans (hc1 j hlt)
        by_cases hj0 : j = 0
        · -- the first element
          obtain ⟨hs1, hs2⟩ := runs_start (xs := xs) (.inl hj0) hml.out
          obtain ⟨hz1, hz2⟩ := runs_start0 (xs := xs) (.inl hj0) hml.out
          have HS1 := Lib.hid hs1
          have HZ1 := Lib.hid hz1
          have HZ2 := Lib.hid hz2
          clear hs1 hs2 hz1 hz2 hc1
          have hje : ((j : Int) == 0) = true := by rw [beq_iff_eq]; omega
          have hjp : ¬ 0 < j := by omega
          clear hj0
          generalize xs.getD j 0 = x at hcx
          go_wp2_with (at_builtin; refine wpList_one rfl _ _ rfl rfl (hown.alloc _) wr.heap.size 1 0 rfl (by simp [go_sem]) (by omega) (by simp; omega) ?_)
          intro g1 cap1 w1 hown1 hg1
          have hbw : Below w.heap.size w w1 := (hbel.alloc hsz _).trans (hg1.below (hown.alloc _) (by simp; omega))
          clear hown hg1
          have hcz := hown1.cellsAt m (by omega)
          rw [HZ2.out] at hcz
          have hfz := hown1.free m
          have hset := (hown1.set m 1).1
          rw [HZ1.out] at hset
          have hbs := hbw.setCell (p := ⟨g1, m, none⟩) (by rcases hown1.form with ⟨h, _⟩ | ⟨g', h, hB, _⟩; cases h; injection h with h; injection h with h; subst h; exact hB) (.int .i64 1)
          have em : (m : Int) + 1 - 1 = (m : Int) := by omega
          clear hown1
          go_wp2_with fail
          go_roundw
          case rel => exact ⟨j + 1, g1, m + 1, cap1, by omega, by go_num, rfl, hset.wide (Nat.le_refl _) (by simp [World.setCell]), hbs⟩
          case measure => simp [intOf]; omega
        · have hcy := (hbel.cell (p := ⟨b1, off1 + (j - 1), none⟩) hbl1).trans (hc1 (j - 1) (by omega))
          clear hc1
          have hje : ((j : Int) == 0) = false := by rw [beq_eq_false_iff_ne]; omega
          have hjp : 0 < j := by omega
          have e1 : ((j : Int) - 1).toNat = j - 1 := by omega
          have e2 : IntKind.i64.wrap ((j : Int) - 1) = (j : Int) - 1 := IntWalk.i64_in _ (by omega)
          have e3 : (0 : Int) ≤ (j : Int) - 1 := by omega
          have e4 : (j : Int) - 1 < (n : Int) := by omega
          by_cases hxy : xs.getD (j - 1) 0 = xs.getD j 0
          · obtain ⟨hg1, hg2⟩ := runs_grow (by omega) hxy hml.out
            have HG1 := Lib.hid hg1
            have hmp : 0 < m := hm2 (by omega)
            have hcz := hown.cellsAt (m - 1) (by omega)
            have hfz := hown.free (m - 1)
            have hbz := runs_bd xs j (m - 1)
            have hset := hown.set (m - 1) ((runsUpto xs j).getD (m - 1) 0 + 1)
            rw [← HG1.out] at hset
            clear hg1 hg2
            rw [hxy] at hcy
            generalize xs.getD j 0 = x at hcx hcy
            clear hxy
            generalize (runsUpto xs j).getD (m - 1) 0 = z at hcz hbz hset HG1
            have hgB : w.heap.size ≤ g := by rcases hown.form with ⟨h, _⟩ | ⟨g', h, hB, _⟩; cases h; injection h with h; injection h with h; subst h; exact hB
            have hbs := hbel.setCell (p := ⟨g, m - 1, none⟩) hgB (.int .i64 (z + 1))
            have hee : (x != x) = false := by simp
            have f1 : ((m : Int) - 1).toNat = m - 1 := by omega
            have f3 : (0 : Int) ≤ (m : Int) - 1 := by omega
            have f4 : (m : Int) - 1 < (m : Int) := by omega
            clear hown
            go_wp2_with fail
            go_roundw
            case rel => exact ⟨j + 1, g, m, cap, by omega, by go_num, rfl, hset.1.wide (Nat.le_refl _) (by simp [World.setCell]), hbs⟩
            case measure => simp [intOf]; omega
          · obtain ⟨hs1, hs2⟩ := runs_start (xs := xs) (.inr hxy) hml.out
            obtain ⟨hz1, hz2⟩ := runs_start0 (xs := xs) (.inr hxy) hml.out
            have HS1 := Lib.hid hs1
            have HZ1 := Lib.hid hz1
            have HZ2 := Lib.hid hz2
            clear hs1 hs2 hz1 hz2
            have hee : (xs.getD (j - 1) 0 != xs.getD j 0) = true := by rw [bne_iff_ne]; exact hxy
            generalize xs.getD j 0 = x at hcx hee
            generalize xs.getD (j - 1) 0 = y at hcy hee
            clear hxy
            go_wp2_with (at_builtin; refine wpList_one rfl _ _ rfl rfl (hown.alloc _) wr.heap.size 1 0 rfl (by simp [go_sem]) (by omega) (by simp; omega) ?_)
            intro g1 cap1 w1 hown1 hg1
            have hbw : Below w.heap.size w w1 := (hbel.alloc hsz _).trans (hg1.below (hown.alloc _) (by simp; omega))
            clear hown hg1
            have hcz := hown1.cellsAt m (by omega)
            rw [HZ2.out] at hcz
            have hfz := hown1.free m
            have hset := (hown1.set m 1).1
            rw [HZ1.out] at hset
            have hbs := hbw.setCell (p := ⟨g1, m, none⟩) (by rcases hown1.form with ⟨h, _⟩ | ⟨g', h, hB, _⟩; cases h; injection h with h; injection h with h; subst h; exact hB) (.int .i64 1)
            have em : (m : Int) + 1 - 1 = (m : Int) := by omega
            clear hown1
            go_wp2_with fail
            go_roundw
            case rel => exact ⟨j + 1, g1, m + 1, cap1, by omega, by go_num, rfl, hset.wide (Nat.le_refl _) (by simp [World.setCell]), hbs⟩
            case measure => simp [intOf]; omega
      · have : j = n := by omega
        subst this
        rw [← HL.out] at hown
        go_wp2_with fail
        go_ret
        exact ret_own hown hbel
set_option maxHeartbeats 1600000 in
theorem runs_s (ao : Option Addr) (n c : Nat) (xs : List Int) (w : World) (ha : Sl w w.heap.size ao n c xs) :
    Calls Try.prog 26 #[.slice ao n c] w (RetOwn w (runsV xs)) := by
  cases hx : isWord xs
  · have hr := Lib.hid (runsV_no hx)
    go_enter Try.func26, Try.ntmps26
    go_wp2_with fail
    refine (isWord_s _ _ _ xs _ ha).mono ?_
    rw [hx]
    rintro e w' ⟨rfl, rfl⟩
    go_wp2_with fail
    go_ret
    rw [hr.out]
    exact ⟨none, 0, 0, rfl, Own.nil, Below.refl _ _⟩
  · have hla := ha.len
    have HX := Lib.hid hx
    have HL := Lib.hid (runsV_yes hx hla)
    have HLA := Lib.hid hla
    have hl1 : n ≤ 1000 := by have := isWord_len hx; omega
    clear hla
    go_enter Try.func26, Try.ntmps26
    go_wp2_with fail
    refine (isWord_s _ _ _ xs _ ha).mono ?_
    rw [hx]
    rintro e w' ⟨rfl, rfl⟩
    clear hx
    go_wp2_with fail
    have o0 := Own.empty w w.heap.size (Nat.le_refl _)
    have b0 := box_below w (.cells #[] 3)
    go_loopw [3, 4, 5, 12] (fun out _ _ i wr => ∃ (j g m cap : Nat), j ≤ n ∧ i = .int .i64 j ∧ out = .slice (some ⟨g, 0, none⟩) m cap ∧ Own wr w.heap.size wr.heap.size (some ⟨g, 0, none⟩) m cap (runsUpto xs j) ∧ Below w.heap.size w wr) (fun _ _ _ i _ => n - (intOf i).toNat)
    case atStart => exact ⟨0, _, 0, 0, Nat.zero_le _, rfl, rfl, o0, b0⟩
    case round =>
      clear o0 b0
      obtain ⟨j, g, m, cap, hj, rfl, rfl, hown, hbel⟩ := hrel
      have hml := Lib.hid hown.len
      have hm1 := (runs_len xs j).1
      have hm2 := (runs_len xs j).2
      rw [hml.out] at hm1 hm2
      have hsz := hbel.size
      by_cases hlt : j < n
      · obtain ⟨b1, off1, rfl, hbl1, hc1⟩ := ha.at_ (by omega)
        have hcx := (hbel.cell (p := ⟨b1, off1 + j, none⟩) hbl1).trans (hc1 j hlt)
        by_cases hj0 : j = 0
        · -- the first element
          obtain ⟨hs1, hs2⟩ := runs_start (xs := xs) (.inl hj0) hml.out
          obtain ⟨hz1, hz2⟩ := runs_start0 (xs := xs) (.inl hj0) hml.out
          have HS1 := Lib.hid hs1
          have HZ1 := Lib.hid hz1
          have HZ2 := Lib.hid hz2
          clear hs1 hs2 hz1 hz2 hc1
          have hje : ((j : Int) == 0) = true := by rw [beq_iff_eq]; omega
          have hjp : ¬ 0 < j := by omega
          clear hj0
          generalize xs.getD j 0 = x at hcx
          go_wp2_with (at_builtin; refine wpList_one rfl _ _ rfl rfl (hown.alloc _) wr.heap.size 1 1 rfl (by simp [go_sem]) (by omega) (by simp; omega) ?_)
          intro g1 cap1 w1 hown1 hg1
          have hbw : Below w.heap.size w w1 := (hbel.alloc hsz _).trans (hg1.below (hown.alloc _) (by simp; omega))
          clear hown hg1
          rw [← HS1.out] at hown1
          go_wp2_with fail
          go_roundw
          case rel => exact ⟨j + 1, g1, m + 1, cap1, by omega, by go_num, rfl, hown1, hbw⟩
          case measure => simp [intOf]; omega
        · have hcy := (hbel.cell (p := ⟨b1, off1 + (j - 1), none⟩) hbl1).trans (hc1 (j - 1) (by omega))
          clear hc1
          have hje : ((j : Int) == 0) = false := by rw [beq_eq_false_iff_ne]; omega
          have hjp : 0 < j := by omega
          have e1 : ((j : Int) - 1).toNat = j - 1 := by omega
          have e2 : IntKind.i64.wrap ((j : Int) - 1) = (j : Int) - 1 := IntWalk.i64_in _ (by omega)
          have e3 : (0 : Int) ≤ (j : Int) - 1 := by omega
          have e4 : (j : Int) - 1 < (n : Int) := by omega
          by_cases hxy : xs.getD (j - 1) 0 = xs.getD j 0
          · obtain ⟨hg1, hg2⟩ := runs_grow (by omega) hxy hml.out
            have HG1 := Lib.hid hg1
            have hmp : 0 < m := hm2 (by omega)
            have hcz := hown.cellsAt (m - 1) (by omega)
            have hfz := hown.free (m - 1)
            have hbz := runs_bd xs j (m - 1)
            have hset := hown.set (m - 1) ((runsUpto xs j).getD (m - 1) 0 + 1)
            rw [← HG1.out] at hset
            clear hg1 hg2
            rw [hxy] at hcy
            generalize xs.getD j 0 = x at hcx hcy
            clear hxy
            generalize (runsUpto xs j).getD (m - 1) 0 = z at hcz hbz hset HG1
            have hgB : w.heap.size ≤ g := by rcases hown.form with ⟨h, _⟩ | ⟨g', h, hB, _⟩; cases h; injection h with h; injection h with h; subst h; exact hB
            have hbs := hbel.setCell (p := ⟨g, m - 1, none⟩) hgB (.int .i64 (z + 1))
            have hee : (x == x) = true := by simp
            have f1 : ((m : Int) - 1).toNat = m - 1 := by omega
            have f3 : (0 : Int) ≤ (m : Int) - 1 := by omega
            have f4 : (m : Int) - 1 < (m : Int) := by omega
            clear hown
            go_wp2_with fail
            go_roundw
            case rel => exact ⟨j + 1, g, m, cap, by omega, by go_num, rfl, hset.1.wide (Nat.le_refl _) (by simp [World.setCell]), hbs⟩
            case measure => simp [intOf]; omega
          · obtain ⟨hs1, hs2⟩ := runs_start (xs := xs) (.inr hxy) hml.out
            obtain ⟨hz1, hz2⟩ := runs_start0 (xs := xs) (.inr hxy) hml.out
            have HS1 := Lib.hid hs1
            have HZ1 := Lib.hid hz1
            have HZ2 := Lib.hid hz2
            clear hs1 hs2 hz1 hz2
            have hee : (xs.getD j 0 == xs.getD (j - 1) 0) = false := by rw [beq_eq_false_iff_ne]; exact Ne.symm hxy
            generalize xs.getD j 0 = x at hcx hee
            generalize xs.getD (j - 1) 0 = y at hcy hee
            clear hxy
            go_wp2_with (at_builtin; refine wpList_one rfl _ _ rfl rfl (hown.alloc _) wr.heap.size 1 1 rfl (by simp [go_sem]) (by omega) (by simp; omega) ?_)
            intro g1 cap1 w1 hown1 hg1
            have hbw : Below w.heap.size w w1 := (hbel.alloc hsz _).trans (hg1.below (hown.alloc _) (by simp; omega))
            clear hown hg1
            rw [← HS1.out] at hown1
            go_wp2_with fail
            go_roundw
            case rel => exact ⟨j + 1, g1, m + 1, cap1, by omega, by go_num, rfl, hown1, hbw⟩
            case measure => simp [intOf]; omega
      · have : j = n := by omega
        subst this
        rw [← HL.out] at hown
        go_wp2_with fail
        go_ret
        exact ret_own hown hbel
end Go.Proofs.Ytodoebamkijalaa
