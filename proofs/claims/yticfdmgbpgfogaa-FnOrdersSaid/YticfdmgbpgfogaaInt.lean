/- The contracts of IntegralsOf, of the program and of the reference. -/
import Derived.Test.YticfdmgbpgfogaaDiff
namespace Go.Proofs.Yticfdmgbpgfogaa
open Go.RowKit

def IntAt (xs : List Int) (j : Nat) (ys : List Int) : Prop := intg xs j = some ys

set_option maxHeartbeats 1600000 in
theorem int_i (ao : Option Addr) (n c : Nat) (xs : List Int) (k : Int) (w : World) (ha : Sl w w.heap.size ao n c xs) (_hk : Wf k) :
    Calls Try.prog 42 #[.slice ao n c, .int .i64 k] w (RetOwnB w (intV xs k) (intB xs k)) := by
  cases hx : isSeq xs
  · have hr := Lib.hid (intB_no (xs := xs) (k := k) (.inl hx))
    go_enter Try.func42, Try.ntmps42
    go_wp2_with fail
    refine (isSeq_i _ _ _ xs _ ha).mono ?_
    rw [hx]
    rintro e w' ⟨rfl, rfl⟩
    go_wp2_with fail
    go_ret2
    exact ret_none hr.out
  · cases hy : ordB k
    · have hr := Lib.hid (intB_no (xs := xs) (k := k) (.inr hy))
      go_enter Try.func42, Try.ntmps42
      go_wp2_with fail
      refine (isSeq_i _ _ _ xs _ ha).mono ?_
      rw [hx]
      rintro e w' ⟨rfl, rfl⟩
      go_wp2_with fail
      refine (order_i _ _).mono ?_
      rw [hy]
      rintro e w' ⟨rfl, rfl⟩
      go_wp2_with fail
      go_ret2
      exact ret_none hr.out
    · have hk := ordB_true hy
      obtain ⟨kn, rfl⟩ := Int.eq_ofNat_of_zero_le hk.1
      have HYes : Hid (∀ ys, IntAt xs kn ys → intB xs (kn : Int) = true ∧ (intg xs (kn : Int).toNat).getD [] = ys) := fun ys h => by
        unfold IntAt at h
        have h2 : intg xs (kn : Int).toNat = some ys := by rw [Int.toNat_natCast]; exact h
        exact ⟨intB_yes hx hy h2, by rw [h2]; rfl⟩
      have HNo : Hid (∀ j, j ≤ kn → intg xs j = none → intB xs (kn : Int) = false) := fun j hj h => intB_fail (by
        rw [Int.toNat_natCast, show kn = j + (kn - j) from by omega]
        exact intg_none h _)
      have hl1 := isSeq_len hx
      have hla := ha.len
      have Hl := Lib.hid hla
      have HX := Lib.hid hx
      have hk6 : kn ≤ 6 := by omega
      clear _hk hk
      go_enter Try.func42, Try.ntmps42
      go_wp2_with fail
      refine (isSeq_i _ _ _ xs _ ha).mono ?_
      rw [hx]
      rintro e w' ⟨rfl, rfl⟩
      go_wp2_with fail
      refine (order_i _ _).mono ?_
      rw [hy]
      rintro e w' ⟨rfl, rfl⟩
      have hn : n ≤ 1000 := by omega
      clear hx hy hla
      go_wp2_with fail
      refine (clone_any _ _ _ xs _ ha).mono ?_
      rintro e w1 ⟨a1, c1, rfl, o1, b1⟩
      clear ha
      have hi0 : IntAt xs 0 xs := rfl
      go_wp2_with fail
      go_loopw [7, 19] (fun _ i wr => ∃ (j : Nat) (ys : List Int), j ≤ kn ∧ i = .int .i64 j ∧ IntAt xs j ys ∧ Own wr w.heap.size w1.heap.size a1 n c1 ys ∧ Below w.heap.size w wr ∧ w1.heap.size ≤ wr.heap.size) (fun _ i _ => kn - (intOf i).toNat)
      case atStart => exact ⟨0, xs, Nat.zero_le _, rfl, hi0, o1, b1, Nat.le_refl _⟩
      case round =>
        clear b1 hi0
        obtain ⟨j, ys, hj, rfl, hat, hown, hbel, hsz1⟩ := hrel
        by_cases hlt : j < kn
        · have hyq : Hid (isSeq ys = true) := (intg_seq hat HX.out).1
          have hyl : Hid (ys.length = n) := (intg_seq hat HX.out).2.trans Hl.out
          obtain ⟨wo, rfl⟩ : ∃ wo : World, wo = wr := ⟨_, rfl⟩
          have o2 : Own wo w.heap.size w1.heap.size a1 n c1 (iStage ys 1) := by rw [iStage_start]; exact hown
          clear hown
          go_wp2_with fail
          go_loopw [7] (fun i wr => ∃ m : Nat, 1 ≤ m ∧ (m ≤ n ∨ m = 1) ∧ i = .int .i64 m ∧ Own wr w.heap.size w1.heap.size a1 n c1 (iStage ys m) ∧ Below w.heap.size w wr ∧ w1.heap.size ≤ wr.heap.size) (fun i _ => n - (intOf i).toNat)
          case atStart => exact ⟨1, Nat.le_refl _, .inr rfl, rfl, o2, hbel, hsz1⟩
          case round =>
            clear o2 hbel hsz1
            obtain ⟨m, hm0, hm1, rfl, hown, hbel, hsz1⟩ := hrel
            by_cases hmn : m < n
            · obtain ⟨g, rfl, hBg⟩ : ∃ g, a1 = some ⟨g, 0, none⟩ ∧ w.heap.size ≤ g := by
                rcases o1.form with ⟨_, h0, _⟩ | ⟨g, hg, hB, _⟩
                · omega
                · exact ⟨g, hg, hB⟩
              have hcx := hown.cellsAt m hmn
              have hcy := hown.cellsAt (m - 1) (by omega)
              rw [iStage_here ys m (by rw [hyl.out]; exact hmn)] at hcx
              rw [iStage_before ys m hm0 (by rw [hyl.out]; exact hmn)] at hcy
              have hfy := hown.free m
              have bx := isSeq_at hyq.out m
              have by_ := sumUpto_le hyq.out m (Nat.le_refl _)
              have hset := (hown.set m (ys.getD m 0 + sumUpto ys m)).1
              rw [iStage_set ys m (by rw [hyl.out]; exact hmn)] at hset
              have hbs := hbel.setCell (p := ⟨g, m, none⟩) hBg (.int .i64 (ys.getD m 0 + sumUpto ys m))
              generalize ys.getD m 0 = x at hcx bx hset hbs
              generalize sumUpto ys m = y at hcy by_ hset hbs
              clear hown hbel hm1 hat
              have hm2 : (m : Int) < (n : Int) := by omega
              have e1 : IntKind.i64.wrap ((m : Int) - 1) = (m : Int) - 1 := IntWalk.i64_in _ (by omega)
              have e2 : IntKind.i64.wrap (x + y) = x + y := IntWalk.i64_in _ (by omega)
              have e3 : ((m : Int) - 1).toNat = m - 1 := by omega
              have e4 : (0 : Int) ≤ (m : Int) - 1 := by omega
              have e5 : (m : Int) - 1 < (n : Int) := by omega
              go_wp2_with fail
              go_region
              go_wp2_with fail
              go_roundw
              case rel => exact ⟨m + 1, by omega, .inl (by omega), by go_num, hset.drew, hbs.drew, by simpa [World.setCell] using hsz1⟩
              case measure => simp [intOf]; omega
            · have h3 : Hid (iStage ys m = int1 ys) := iStage_end ys m (by rw [hyl.out]; omega)
              rw [h3.out] at hown
              have hnar := hown
              replace hown := hown.wide (Nat.le_refl _) hsz1
              cases hs : isSeq (int1 ys)
              · have HB := Lib.hid (HNo.out (j + 1) (by omega) (intg_fail hat hs))
                go_wp2_with fail
                refine (isSeq_i _ _ _ _ _ (hown.sl (by omega))).mono ?_
                rw [hs]
                rintro e w' ⟨rfl, rfl⟩
                go_wp2_with fail
                go_ret2
                exact ret_none' HB.out hbel
              · have hat1 : IntAt xs (j + 1) (int1 ys) := intg_next hat hs
                go_wp2_with fail
                refine (isSeq_i _ _ _ _ _ (hown.sl (by omega))).mono ?_
                rw [hs]
                rintro e w' ⟨rfl, rfl⟩
                go_wp2_with fail
                go_roundw
                case rel => exact ⟨j + 1, int1 ys, by omega, by go_num, hat1, hnar, hbel, hsz1⟩
                case measure => simp [intOf]; omega
        · have : j = kn := by omega
          subst this
          have HB := Lib.hid (HYes.out ys hat).1
          have HL := Lib.hid (HYes.out ys hat).2
          replace hown := hown.wide (Nat.le_refl _) hsz1
          go_wp2_with fail
          go_ret2
          refine ret_list HB.out ?_ hbel
          rw [HL.out]
          exact hown

set_option maxHeartbeats 1600000 in
theorem int_s (ao : Option Addr) (n c : Nat) (xs : List Int) (k : Int) (w : World) (ha : Sl w w.heap.size ao n c xs) (_hk : Wf k) :
    Calls Try.prog 43 #[.slice ao n c, .int .i64 k] w (RetOwnB w (intV xs k) (intB xs k)) := by
  cases hx : isSeq xs
  · have hr := Lib.hid (intB_no (xs := xs) (k := k) (.inl hx))
    go_enter Try.func43, Try.ntmps43
    go_wp2_with fail
    refine (isSeq_s _ _ _ xs _ ha).mono ?_
    rw [hx]
    rintro e w' ⟨rfl, rfl⟩
    go_wp2_with fail
    go_ret2
    exact ret_none hr.out
  · cases hy : ordB k
    · have hr := Lib.hid (intB_no (xs := xs) (k := k) (.inr hy))
      unfold ordB at hy
      go_enter Try.func43, Try.ntmps43
      go_wp2_with fail
      refine (isSeq_s _ _ _ xs _ ha).mono ?_
      rw [hx]
      rintro e w' ⟨rfl, rfl⟩
      go_wp2_with fail
      refine (in_s _ _ _ _).mono ?_
      rw [hy]
      rintro e w' ⟨rfl, rfl⟩
      go_wp2_with fail
      go_ret2
      exact ret_none hr.out
    · have hk := ordB_true hy
      obtain ⟨kn, rfl⟩ := Int.eq_ofNat_of_zero_le hk.1
      have HYes : Hid (∀ ys, IntAt xs kn ys → intB xs (kn : Int) = true ∧ (intg xs (kn : Int).toNat).getD [] = ys) := fun ys h => by
        unfold IntAt at h
        have h2 : intg xs (kn : Int).toNat = some ys := by rw [Int.toNat_natCast]; exact h
        exact ⟨intB_yes hx hy h2, by rw [h2]; rfl⟩
      have HNo : Hid (∀ j, j ≤ kn → intg xs j = none → intB xs (kn : Int) = false) := fun j hj h => intB_fail (by
        rw [Int.toNat_natCast, show kn = j + (kn - j) from by omega]
        exact intg_none h _)
      have hl1 := isSeq_len hx
      have hla := ha.len
      have Hl := Lib.hid hla
      have HX := Lib.hid hx
      have hk6 : kn ≤ 6 := by omega
      unfold ordB at hy
      clear _hk hk
      go_enter Try.func43, Try.ntmps43
      go_wp2_with fail
      refine (isSeq_s _ _ _ xs _ ha).mono ?_
      rw [hx]
      rintro e w' ⟨rfl, rfl⟩
      go_wp2_with fail
      refine (in_s _ _ _ _).mono ?_
      rw [hy]
      rintro e w' ⟨rfl, rfl⟩
      have hn : n ≤ 1000 := by omega
      clear hx hy hla
      go_wp2_with fail
      refine (copy_s _ _ _ xs _ ha).mono ?_
      rintro e w1 ⟨a1, c1, rfl, o1, b1⟩
      clear ha
      have hi0 : IntAt xs 0 xs := rfl
      go_wp2_with fail
      go_loopw [1, 7] (fun i _ wr => ∃ (j : Nat) (ys : List Int), j ≤ kn ∧ i = .int .i64 ((kn : Int) - (j : Int)) ∧ IntAt xs j ys ∧ Own wr w.heap.size w1.heap.size a1 n c1 ys ∧ Below w.heap.size w wr ∧ w1.heap.size ≤ wr.heap.size) (fun i _ _ => (intOf i).toNat)
      case atStart => exact ⟨0, xs, Nat.zero_le _, by go_num, hi0, o1, b1, Nat.le_refl _⟩
      case round =>
        clear b1 hi0
        obtain ⟨j, ys, hj, rfl, hat, hown, hbel, hsz1⟩ := hrel
        by_cases hlt : j < kn
        · have hyq : Hid (isSeq ys = true) := (intg_seq hat HX.out).1
          have hyl : Hid (ys.length = n) := (intg_seq hat HX.out).2.trans Hl.out
          obtain ⟨wo, rfl⟩ : ∃ wo : World, wo = wr := ⟨_, rfl⟩
          have o2 : Own wo w.heap.size w1.heap.size a1 n c1 (iStage ys 1) := by rw [iStage_start]; exact hown
          clear hown
          go_wp2_with fail
          go_loopw [7] (fun i wr => ∃ m : Nat, 1 ≤ m ∧ (m ≤ n ∨ m = 1) ∧ i = .int .i64 m ∧ Own wr w.heap.size w1.heap.size a1 n c1 (iStage ys m) ∧ Below w.heap.size w wr ∧ w1.heap.size ≤ wr.heap.size) (fun i _ => n - (intOf i).toNat)
          case atStart => exact ⟨1, Nat.le_refl _, .inr rfl, rfl, o2, hbel, hsz1⟩
          case round =>
            clear o2 hbel hsz1
            obtain ⟨m, hm0, hm1, rfl, hown, hbel, hsz1⟩ := hrel
            by_cases hmn : m < n
            · obtain ⟨g, rfl, hBg⟩ : ∃ g, a1 = some ⟨g, 0, none⟩ ∧ w.heap.size ≤ g := by
                rcases o1.form with ⟨_, h0, _⟩ | ⟨g, hg, hB, _⟩
                · omega
                · exact ⟨g, hg, hB⟩
              have hcx := hown.cellsAt m hmn
              have hcy := hown.cellsAt (m - 1) (by omega)
              rw [iStage_here ys m (by rw [hyl.out]; exact hmn)] at hcx
              rw [iStage_before ys m hm0 (by rw [hyl.out]; exact hmn)] at hcy
              have hfy := hown.free m
              have bx := isSeq_at hyq.out m
              have by_ := sumUpto_le hyq.out m (Nat.le_refl _)
              have hset := (hown.set m (ys.getD m 0 + sumUpto ys m)).1
              rw [iStage_set ys m (by rw [hyl.out]; exact hmn)] at hset
              have hbs := hbel.setCell (p := ⟨g, m, none⟩) hBg (.int .i64 (ys.getD m 0 + sumUpto ys m))
              generalize ys.getD m 0 = x at hcx bx hset hbs
              generalize sumUpto ys m = y at hcy by_ hset hbs
              clear hown hbel hm1 hat
              have hm2 : (m : Int) < (n : Int) := by omega
              have e1 : IntKind.i64.wrap ((m : Int) - 1) = (m : Int) - 1 := IntWalk.i64_in _ (by omega)
              have e2 : IntKind.i64.wrap (x + y) = x + y := IntWalk.i64_in _ (by omega)
              have e3 : ((m : Int) - 1).toNat = m - 1 := by omega
              have e4 : (0 : Int) ≤ (m : Int) - 1 := by omega
              have e5 : (m : Int) - 1 < (n : Int) := by omega
              go_wp2_with fail
              go_region
              go_wp2_with fail
              go_roundw
              case rel => exact ⟨m + 1, by omega, .inl (by omega), by go_num, hset.drew, hbs.drew, by simpa [World.setCell] using hsz1⟩
              case measure => simp [intOf]; omega
            · have h3 : Hid (iStage ys m = int1 ys) := iStage_end ys m (by rw [hyl.out]; omega)
              rw [h3.out] at hown
              have hnar := hown
              replace hown := hown.wide (Nat.le_refl _) hsz1
              cases hs : isSeq (int1 ys)
              · have HB := Lib.hid (HNo.out (j + 1) (by omega) (intg_fail hat hs))
                go_wp2_with fail
                refine (isSeq_s _ _ _ _ _ (hown.sl (by omega))).mono ?_
                rw [hs]
                rintro e w' ⟨rfl, rfl⟩
                go_wp2_with fail
                go_ret2
                exact ret_none' HB.out hbel
              · have hat1 : IntAt xs (j + 1) (int1 ys) := intg_next hat hs
                go_wp2_with fail
                refine (isSeq_s _ _ _ _ _ (hown.sl (by omega))).mono ?_
                rw [hs]
                rintro e w' ⟨rfl, rfl⟩
                go_wp2_with fail
                go_roundw
                case rel => exact ⟨j + 1, int1 ys, by omega, by go_num, hat1, hnar, hbel, hsz1⟩
                case measure => simp [intOf]; omega
        · have : j = kn := by omega
          subst this
          have HB := Lib.hid (HYes.out ys hat).1
          have HL := Lib.hid (HYes.out ys hat).2
          replace hown := hown.wide (Nat.le_refl _) hsz1
          go_wp2_with fail
          go_ret2
          refine ret_list HB.out ?_ hbel
          rw [HL.out]
          exact hown

end Go.Proofs.Yticfdmgbpgfogaa
