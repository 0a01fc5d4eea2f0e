/- The contracts of IsModulator, IsMemory, of the sum that is fed back and of the memory behind an error, of the program and of the reference. -/
import Derived.Test.YtmgjbldnohkodaaPureM
import Derived.Test.YtmgjbldnohkodaaQuant3
import Derived.Test.YtmgjbldnohkodaaCut
import Derived.Test.YtmgjbldnohkodaaTwo
namespace Go.Proofs.Ytmgjbldnohkodaa
open Go.RowKit
set_option linter.unusedVariables false

/-- A modulator lies in block C. -/
def MBox (w : World) (C : Nat) (l s : Int) (ao : Option Addr) (n c : Nat) : Prop :=
  w.cell? ⟨C, 0, none⟩ = some (.int .i64 l) ∧ w.cell? ⟨C, 1, none⟩ = some (.int .i64 s) ∧ w.cell? ⟨C, 2, none⟩ = some (.slice ao n c) ∧ C < w.heap.size
section
variable {w w' : World} {C D n c : Nat} {l s : Int} {ao : Option Addr}
theorem MBox.keep (h : MBox w C l s ao n c) (hb : Below D w w') (hD : C < D) : MBox w' C l s ao n c :=
  ⟨(hb.cell (p := ⟨C, 0, none⟩) hD).trans h.1, (hb.cell (p := ⟨C, 1, none⟩) hD).trans h.2.1, (hb.cell (p := ⟨C, 2, none⟩) hD).trans h.2.2.1, Nat.lt_of_lt_of_le h.2.2.2 hb.size⟩
theorem MBox.next (h : MBox w C l s ao n c) (hb : Below w.heap.size w w') : MBox w' C l s ao n c := h.keep hb h.2.2.2
theorem MBox.alloc (h : MBox w C l s ao n c) (o : Obj) : MBox (w.alloc o) C l s ao n c := h.next (box_below w o)
theorem MBox.grew {bo : Option Addr} {g1 : Nat} (h : MBox w C l s ao n c) (hg : Grew w w' bo g1) (hne : ∀ a, bo = some a → a.block ≠ C) : MBox w' C l s ao n c := by
  have hb := hg.by_.block C h.2.2.2 (fun e => by
    cases bo with
    | none => cases e
    | some a => simp at e; exact hne a rfl e.symm)
  exact ⟨(World.cell?_of_block hb).trans h.1, (World.cell?_of_block hb).trans h.2.1, (World.cell?_of_block hb).trans h.2.2.1, Nat.lt_of_lt_of_le h.2.2.2 hg.by_.size⟩
end
theorem mbox_new (w : World) (l s : Int) (ao : Option Addr) (n c : Nat) (T : TypeId) : MBox (w.alloc (.cells #[.int .i64 l, .int .i64 s, .slice ao n c] T)) w.heap.size l s ao n c := by
  refine ⟨by simp [go_sem], by simp [go_sem], by simp [go_sem], by simp⟩

set_option maxHeartbeats 1600000 in
theorem isMod_i (l s : Int) (ao : Option Addr) (n c : Nat) (cs : List Int) (w : World) (ha : Sl w w.heap.size ao n c cs) :
    Calls Try.prog 70 #[.agg #[.int .i64 l, .int .i64 s, .slice ao n c]] w fun e w' => e = .returned (.bool (isMod l s cs)) ∧ Below w.heap.size w w' := by
  have hla := Lib.hid ha.len
  have hn20 := ha.2.2.1
  go_enter Try.func70, Try.ntmps70
  have b0 := box_below w (.cells #[.int .i64 l, .int .i64 s, .slice ao n c] 27)
  have q0 := mbox_new w l s ao n c 27
  have h0 := ha.keep b0
  obtain ⟨c0, c1, c2, cz⟩ := q0
  go_wp2_with fail
  generalize w.alloc (.cells #[.int .i64 l, .int .i64 s, .slice ao n c] 27) = w0 at b0 c0 c1 c2 cz h0 ⊢
  go_loop [4, 8] (fun _ i => ∃ k : Nat, k ≤ n ∧ i = .int .i64 k ∧ cofUpto cs k) (fun _ i => n - (intOf i).toNat)
  case atStart => exact ⟨0, Nat.zero_le _, rfl, cofUpto_zero _⟩
  case round =>
    obtain ⟨k, hk, rfl, hok⟩ := hrel
    by_cases hlt : k < n
    · obtain ⟨b1, off1, rfl, hbl1, hc1⟩ := h0.at_ (by omega)
      have hcx := hc1 k hlt
      clear hc1
      cases hv : cofB (cs.getD k 0)
      · have hno := Lib.hid (isMod_no (l := l) (s := s) (by rw [hla.out]; exact hlt) hv)
        have hb := cofB_false hv
        clear hv
        generalize cs.getD k 0 = x at hcx hb
        by_cases hx : x < -100
        all_goals
          go_wp2_with fail
          go_ret
          exact ⟨ret_bool hno.out.symm, b0⟩
      · have hok1 := cofUpto_succ hok hv
        have hb := cofB_true hv
        clear hv
        generalize cs.getD k 0 = x at hcx hb
        go_wp2_with fail
        go_round
        case rel => exact ⟨k + 1, by omega, by go_num, hok1⟩
        case measure => simp [intOf]; omega
    · have : k = n := by omega
      subst this
      have HE := Lib.hid (isMod_end (l := l) (s := s) hla.out hok)
      cases hq : isQ l s
      · go_wp2_with fail
        refine (isQ_i _ _ _).mono ?_
        rw [hq]
        rintro e w1 ⟨rfl, b1⟩
        go_wp2_with fail
        go_ret
        exact ⟨ret_bool (by rw [HE.out, hq]; rfl), then_then b0 b1⟩
      · by_cases hk1 : 1 ≤ k
        all_goals
          go_wp2_with fail
          refine (isQ_i _ _ _).mono ?_
          rw [hq]
          rintro e w1 ⟨rfl, b1⟩
          have d2 := (b1.cell (p := ⟨w.heap.size, 2, none⟩) cz).trans c2
          go_wp2_with fail
          go_ret
          exact ⟨ret_bool (by rw [HE.out, hq, Bool.eq_iff_iff]; simp; omega), then_then b0 b1⟩
set_option maxHeartbeats 1600000 in
theorem isMod_s (l s : Int) (ao : Option Addr) (n c : Nat) (cs : List Int) (w : World) (ha : Sl w w.heap.size ao n c cs) :
    Calls Try.prog 73 #[.agg #[.int .i64 l, .int .i64 s, .slice ao n c]] w fun e w' => e = .returned (.bool (isMod l s cs)) ∧ Below w.heap.size w w' := by
  have hla := Lib.hid ha.len
  have hn20 := ha.2.2.1
  go_enter Try.func73, Try.ntmps73
  have b0 := box_below w (.cells #[.int .i64 l, .int .i64 s, .slice ao n c] 27)
  have q0 := mbox_new w l s ao n c 27
  have h0 := ha.keep b0
  obtain ⟨c0, c1, c2, cz⟩ := q0
  go_wp2_with fail
  generalize w.alloc (.cells #[.int .i64 l, .int .i64 s, .slice ao n c] 27) = w0 at b0 c0 c1 c2 cz h0 ⊢
  go_loop [4, 8] (fun _ i => ∃ k : Nat, k ≤ n ∧ i = .int .i64 k ∧ cofUpto cs k) (fun _ i => n - (intOf i).toNat)
  case atStart => exact ⟨0, Nat.zero_le _, rfl, cofUpto_zero _⟩
  case round =>
    obtain ⟨k, hk, rfl, hok⟩ := hrel
    by_cases hlt : k < n
    · obtain ⟨b1, off1, rfl, hbl1, hc1⟩ := h0.at_ (by omega)
      have hcx := hc1 k hlt
      clear hc1
      cases hv : cofB (cs.getD k 0)
      · have hno := Lib.hid (isMod_no (l := l) (s := s) (by rw [hla.out]; exact hlt) hv)
        have ht : Hid ((decide (-100 ≤ cs.getD k 0) && decide (cs.getD k 0 ≤ 100)) = false) := hv
        clear hv
        generalize cs.getD k 0 = x at hcx ht
        go_wp2_with fail
        refine (in_s _ _ _ _).mono ?_
        rw [ht.out]
        rintro e w' ⟨rfl, rfl⟩
        go_wp2_with fail
        go_ret
        exact ⟨ret_bool hno.out.symm, b0⟩
      · have hok1 := cofUpto_succ hok hv
        have ht : Hid ((decide (-100 ≤ cs.getD k 0) && decide (cs.getD k 0 ≤ 100)) = true) := hv
        clear hv
        generalize cs.getD k 0 = x at hcx ht
        go_wp2_with fail
        refine (in_s _ _ _ _).mono ?_
        rw [ht.out]
        rintro e w' ⟨rfl, rfl⟩
        go_wp2_with fail
        go_round
        case rel => exact ⟨k + 1, by omega, by go_num, hok1⟩
        case measure => simp [intOf]; omega
    · have : k = n := by omega
      subst this
      have HE := Lib.hid (isMod_end (l := l) (s := s) hla.out hok)
      cases hq : isQ l s
      · go_wp2_with fail
        refine (isQ_s _ _ _).mono ?_
        rw [hq]
        rintro e w1 ⟨rfl, b1⟩
        go_wp2_with fail
        go_ret
        exact ⟨ret_bool (by rw [HE.out, hq]; rfl), then_then b0 b1⟩
      · go_wp2_with fail
        refine (isQ_s _ _ _).mono ?_
        rw [hq]
        rintro e w1 ⟨rfl, b1⟩
        have d2 := (b1.cell (p := ⟨w.heap.size, 2, none⟩) cz).trans c2
        go_wp2_with fail
        refine (in_s _ _ _ _).mono ?_
        rintro e w' ⟨rfl, rfl⟩
        go_wp2_with fail
        go_ret
        exact ⟨ret_bool (by rw [HE.out, hq, Bool.eq_iff_iff]; simp; omega), then_then b0 b1⟩
end Go.Proofs.Ytmgjbldnohkodaa
