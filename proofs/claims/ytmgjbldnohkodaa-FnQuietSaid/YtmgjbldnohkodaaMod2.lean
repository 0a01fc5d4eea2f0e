/- The contracts of IsMemory, of the sum that is fed back, of the memory behind an error, and of a step, of the program and of the reference. -/
import Derived.Test.YtmgjbldnohkodaaMod
namespace Go.Proofs.Ytmgjbldnohkodaa
open Go.RowKit
set_option linter.unusedVariables false

set_option maxHeartbeats 800000 in
theorem isMem_i (l s : Int) (ao bo : Option Addr) (n c m d : Nat) (cs ms : List Int) (w : World) (ha : Sl w w.heap.size ao n c cs) (hb : Sl w w.heap.size bo m d ms) :
    Calls Try.prog 55 #[.agg #[.int .i64 l, .int .i64 s, .slice ao n c], .slice bo m d] w fun e w' => e = .returned (.bool (isMem l s cs ms)) ∧ Below w.heap.size w w' := by
  have hla := ha.len
  have hlb := hb.len
  have hn20 := ha.2.2.1
  have hm20 := hb.2.2.1
  cases hm : isMod l s cs
  · have hno := Lib.hid (isMem_no (l := l) (s := s) (cs := cs) (ms := ms) (.inl hm))
    clear hla hlb
    go_enter Try.func55, Try.ntmps55
    have b0 := box_below w (.cells #[.int .i64 l, .int .i64 s, .slice ao n c] 27)
    have q0 := mbox_new w l s ao n c 27
    have h0 := ha.next b0
    have g0 := hb.next b0
    obtain ⟨c0, c1, c2, cz⟩ := q0
    go_wp2_with fail
    generalize w.alloc (.cells #[.int .i64 l, .int .i64 s, .slice ao n c] 27) = w0 at b0 c0 c1 c2 cz h0 g0 ⊢
    refine (isMod_i _ _ _ _ _ cs _ h0).mono ?_
    rw [hm]
    rintro e w1 ⟨rfl, b1⟩
    have d2 := (b1.cell (p := ⟨w.heap.size, 2, none⟩) cz).trans c2
    have b2 := then_then b0 b1
    have g1 := g0.next b1
    clear b0 b1 c0 c1 c2 cz h0 g0
    go_wp2_with fail
    go_ret
    exact ⟨ret_bool hno.out.symm, b2⟩
  · by_cases hmn : m = n
    · have HE := Lib.hid (isMem_mk (ms := ms) hm (by rw [hlb, hla]; exact hmn))
      have hee : ((m : Int) == (n : Int)) = true := by rw [beq_iff_eq, hmn]
      clear hla hlb hmn
      go_enter Try.func55, Try.ntmps55
      have b0 := box_below w (.cells #[.int .i64 l, .int .i64 s, .slice ao n c] 27)
      have q0 := mbox_new w l s ao n c 27
      have h0 := ha.next b0
      have g0 := hb.next b0
      obtain ⟨c0, c1, c2, cz⟩ := q0
      go_wp2_with fail
      generalize w.alloc (.cells #[.int .i64 l, .int .i64 s, .slice ao n c] 27) = w0 at b0 c0 c1 c2 cz h0 g0 ⊢
      refine (isMod_i _ _ _ _ _ cs _ h0).mono ?_
      rw [hm]
      rintro e w1 ⟨rfl, b1⟩
      have d2 := (b1.cell (p := ⟨w.heap.size, 2, none⟩) cz).trans c2
      have b2 := then_then b0 b1
      have g1 := g0.next b1
      clear b0 b1 c0 c1 c2 cz h0 g0
      go_wp2_with fail
      refine (isSeq_i _ _ _ ms _ g1).mono ?_
      rintro e w' ⟨rfl, rfl⟩
      go_wp2_with fail
      go_ret
      exact ⟨ret_bool HE.out.symm, b2⟩
    · have hno := Lib.hid (isMem_no (l := l) (s := s) (cs := cs) (ms := ms) (.inr (.inl (by rw [hlb, hla]; exact hmn))))
      have hee : ((m : Int) == (n : Int)) = false := by rw [beq_eq_false_iff_ne]; omega
      clear hla hlb
      go_enter Try.func55, Try.ntmps55
      have b0 := box_below w (.cells #[.int .i64 l, .int .i64 s, .slice ao n c] 27)
      have q0 := mbox_new w l s ao n c 27
      have h0 := ha.next b0
      have g0 := hb.next b0
      obtain ⟨c0, c1, c2, cz⟩ := q0
      go_wp2_with fail
      generalize w.alloc (.cells #[.int .i64 l, .int .i64 s, .slice ao n c] 27) = w0 at b0 c0 c1 c2 cz h0 g0 ⊢
      refine (isMod_i _ _ _ _ _ cs _ h0).mono ?_
      rw [hm]
      rintro e w1 ⟨rfl, b1⟩
      have d2 := (b1.cell (p := ⟨w.heap.size, 2, none⟩) cz).trans c2
      have b2 := then_then b0 b1
      have g1 := g0.next b1
      clear b0 b1 c0 c1 c2 cz h0 g0
      go_wp2_with fail
      go_ret
      exact ⟨ret_bool hno.out.symm, b2⟩
set_option maxHeartbeats 800000 in
theorem isMem_s (l s : Int) (ao bo : Option Addr) (n c m d : Nat) (cs ms : List Int) (w : World) (ha : Sl w w.heap.size ao n c cs) (hb : Sl w w.heap.size bo m d ms) :
    Calls Try.prog 35 #[.agg #[.int .i64 l, .int .i64 s, .slice ao n c], .slice bo m d] w fun e w' => e = .returned (.bool (isMem l s cs ms)) ∧ Below w.heap.size w w' := by
  have hla := ha.len
  have hlb := hb.len
  have hn20 := ha.2.2.1
  have hm20 := hb.2.2.1
  cases hm : isMod l s cs
  · have hno := Lib.hid (isMem_no (l := l) (s := s) (cs := cs) (ms := ms) (.inl hm))
    clear hla hlb
    go_enter Try.func35, Try.ntmps35
    have b0 := box_below w (.cells #[.int .i64 l, .int .i64 s, .slice ao n c] 27)
    have q0 := mbox_new w l s ao n c 27
    have h0 := ha.next b0
    have g0 := hb.next b0
    obtain ⟨c0, c1, c2, cz⟩ := q0
    go_wp2_with fail
    generalize w.alloc (.cells #[.int .i64 l, .int .i64 s, .slice ao n c] 27) = w0 at b0 c0 c1 c2 cz h0 g0 ⊢
    refine (isMod_s _ _ _ _ _ cs _ h0).mono ?_
    rw [hm]
    rintro e w1 ⟨rfl, b1⟩
    have d2 := (b1.cell (p := ⟨w.heap.size, 2, none⟩) cz).trans c2
    have b2 := then_then b0 b1
    have g1 := g0.next b1
    clear b0 b1 c0 c1 c2 cz h0 g0
    go_wp2_with fail
    go_ret
    exact ⟨ret_bool hno.out.symm, b2⟩
  · by_cases hmn : m = n
    · have HE := Lib.hid (isMem_mk (ms := ms) hm (by rw [hlb, hla]; exact hmn))
      have hee : ((m : Int) == (n : Int)) = true := by rw [beq_iff_eq, hmn]
      clear hla hlb hmn
      go_enter Try.func35, Try.ntmps35
      have b0 := box_below w (.cells #[.int .i64 l, .int .i64 s, .slice ao n c] 27)
      have q0 := mbox_new w l s ao n c 27
      have h0 := ha.next b0
      have g0 := hb.next b0
      obtain ⟨c0, c1, c2, cz⟩ := q0
      go_wp2_with fail
      generalize w.alloc (.cells #[.int .i64 l, .int .i64 s, .slice ao n c] 27) = w0 at b0 c0 c1 c2 cz h0 g0 ⊢
      refine (isMod_s _ _ _ _ _ cs _ h0).mono ?_
      rw [hm]
      rintro e w1 ⟨rfl, b1⟩
      have d2 := (b1.cell (p := ⟨w.heap.size, 2, none⟩) cz).trans c2
      have b2 := then_then b0 b1
      have g1 := g0.next b1
      clear b0 b1 c0 c1 c2 cz h0 g0
      go_wp2_with fail
      refine (isSeq_s _ _ _ ms _ g1).mono ?_
      rintro e w' ⟨rfl, rfl⟩
      go_wp2_with fail
      go_ret
      exact ⟨ret_bool HE.out.symm, b2⟩
    · have hno := Lib.hid (isMem_no (l := l) (s := s) (cs := cs) (ms := ms) (.inr (.inl (by rw [hlb, hla]; exact hmn))))
      have hee : ((m : Int) == (n : Int)) = false := by rw [beq_eq_false_iff_ne]; omega
      clear hla hlb
      go_enter Try.func35, Try.ntmps35
      have b0 := box_below w (.cells #[.int .i64 l, .int .i64 s, .slice ao n c] 27)
      have q0 := mbox_new w l s ao n c 27
      have h0 := ha.next b0
      have g0 := hb.next b0
      obtain ⟨c0, c1, c2, cz⟩ := q0
      go_wp2_with fail
      generalize w.alloc (.cells #[.int .i64 l, .int .i64 s, .slice ao n c] 27) = w0 at b0 c0 c1 c2 cz h0 g0 ⊢
      refine (isMod_s _ _ _ _ _ cs _ h0).mono ?_
      rw [hm]
      rintro e w1 ⟨rfl, b1⟩
      have d2 := (b1.cell (p := ⟨w.heap.size, 2, none⟩) cz).trans c2
      have b2 := then_then b0 b1
      have g1 := g0.next b1
      clear b0 b1 c0 c1 c2 cz h0 g0
      go_wp2_with fail
      go_ret
      exact ⟨ret_bool hno.out.symm, b2⟩
set_option maxHeartbeats 800000 in
theorem fed_i (l s : Int) (ao bo : Option Addr) (n c d : Nat) (cs ms : List Int) (w : World) (ha : Sl w w.heap.size ao n c cs) (hb : Sl w w.heap.size bo n d ms) (hm : isMem l s cs ms = true) :
    Calls Try.prog 71 #[.agg #[.int .i64 l, .int .i64 s, .slice ao n c], .slice bo n d] w fun e w' => e = .returned (.int .i64 (fed cs ms)) ∧ Below w.heap.size w w' := by
  have HLA := Lib.hid ha.len
  have HM := Lib.hid hm
  have hn6 : n ≤ 6 := by have := (isMod_true (isMem_true hm).1).2.2.1; have := ha.len; omega
  clear hm
  go_enter Try.func71, Try.ntmps71
  have b0 := box_below w (.cells #[.int .i64 l, .int .i64 s, .slice ao n c] 27)
  have q0 := mbox_new w l s ao n c 27
  have h0 := ha.next b0
  have g0 := hb.next b0
  obtain ⟨c0, c1, c2, cz⟩ := q0
  go_wp2_with fail
  generalize w.alloc (.cells #[.int .i64 l, .int .i64 s, .slice ao n c] 27) = w0 at b0 c0 c1 c2 cz h0 g0 ⊢
  go_loop [5, 6, 7, 11] (fun q _ _ i => ∃ k : Nat, k ≤ n ∧ i = .int .i64 k ∧ q = .int .i64 (fedUpto cs ms k)) (fun _ _ _ i => n - (intOf i).toNat)
  case atStart => exact ⟨0, Nat.zero_le _, rfl, rfl⟩
  case round =>
    obtain ⟨k, hk, rfl, rfl⟩ := hrel
    have hsb := fedUpto_le HM.out k (by omega)
    by_cases hlt : k < n
    · obtain ⟨b1, off1, rfl, hbl1, hc1⟩ := h0.at_ (by omega)
      obtain ⟨b2, off2, rfl, hbl2, hc2⟩ := g0.at_ (by omega)
      have hcx := hc1 k hlt
      have hcy := hc2 k hlt
      have hpb := fedTerm_le HM.out k
      have hss := Lib.hid (fedUpto_succ cs ms k)
      clear hc1 hc2
      generalize cs.getD k 0 = x at hcx hpb hss
      generalize ms.getD k 0 = y at hcy hpb hss
      go_wp2_with fail
      go_round
      case rel => exact ⟨k + 1, by omega, by go_num, by rw [hss.out]⟩
      case measure => simp [intOf]; omega
    · have : k = n := by omega
      subst this
      have HE : Hid (fedUpto cs ms k = fed cs ms) := by show _ = _; unfold fed; rw [HLA.out]
      go_wp2_with fail
      go_ret
      exact ⟨ret_int HE.out, b0⟩
set_option maxHeartbeats 800000 in
theorem fed_s (l s : Int) (ao bo : Option Addr) (n c d : Nat) (cs ms : List Int) (w : World) (ha : Sl w w.heap.size ao n c cs) (hb : Sl w w.heap.size bo n d ms) (hm : isMem l s cs ms = true) :
    Calls Try.prog 83 #[.agg #[.int .i64 l, .int .i64 s, .slice ao n c], .slice bo n d] w fun e w' => e = .returned (.int .i64 (fed cs ms)) ∧ Below w.heap.size w w' := by
  have HLA := Lib.hid ha.len
  have HM := Lib.hid hm
  have hn6 : n ≤ 6 := by have := (isMod_true (isMem_true hm).1).2.2.1; have := ha.len; omega
  clear hm
  go_enter Try.func83, Try.ntmps83
  have b0 := box_below w (.cells #[.int .i64 l, .int .i64 s, .slice ao n c] 27)
  have q0 := mbox_new w l s ao n c 27
  have h0 := ha.next b0
  have g0 := hb.next b0
  obtain ⟨c0, c1, c2, cz⟩ := q0
  go_wp2_with fail
  generalize w.alloc (.cells #[.int .i64 l, .int .i64 s, .slice ao n c] 27) = w0 at b0 c0 c1 c2 cz h0 g0 ⊢
  go_loop [5, 6, 7, 11] (fun q _ _ i => ∃ k : Nat, k ≤ n ∧ i = .int .i64 k ∧ q = .int .i64 (fedUpto cs ms k)) (fun _ _ _ i => n - (intOf i).toNat)
  case atStart => exact ⟨0, Nat.zero_le _, rfl, rfl⟩
  case round =>
    obtain ⟨k, hk, rfl, rfl⟩ := hrel
    have hsb := fedUpto_le HM.out k (by omega)
    by_cases hlt : k < n
    · obtain ⟨b1, off1, rfl, hbl1, hc1⟩ := h0.at_ (by omega)
      obtain ⟨b2, off2, rfl, hbl2, hc2⟩ := g0.at_ (by omega)
      have hcx := hc1 k hlt
      have hcy := hc2 k hlt
      have hpb := fedTerm_le HM.out k
      have hss := Lib.hid (fedUpto_succ cs ms k)
      clear hc1 hc2
      generalize cs.getD k 0 = x at hcx hpb hss
      generalize ms.getD k 0 = y at hcy hpb hss
      go_wp2_with fail
      go_round
      case rel => exact ⟨k + 1, by omega, by go_num, by rw [hss.out]⟩
      case measure => simp [intOf]; omega
    · have : k = n := by omega
      subst this
      have HE : Hid (fedUpto cs ms k = fed cs ms) := by show _ = _; unfold fed; rw [HLA.out]
      go_wp2_with fail
      go_ret
      exact ⟨ret_int HE.out, b0⟩
set_option maxHeartbeats 800000 in
theorem push_i (bo : Option Addr) (n d : Nat) (ms : List Int) (v : Int) (w : World) (hb : Sl w w.heap.size bo n d ms) (hn : 1 ≤ n) (hn6 : n ≤ 1000) :
    Calls Try.prog 72 #[.slice bo n d, .int .i64 v] w (RetN w n (push ms v)) := by
  have hlb := hb.len
  have hd := hb.2.1
  have HP : Hid (v :: ms.take (n - 1) = push ms v) := by show _ = _; unfold push; rw [hlb]
  have hup := hb.upto (show n - 1 ≤ n by omega)
  have hr2 := fun W => run_upto W bo n d ((n : Int) - 1) (by omega) (by omega)
  have em : ((n : Int) - 1).toNat = n - 1 := by omega
  rw [em] at hr2
  have o1 : Own (w.alloc (.cells #[.int .i64 v] 3)) w.heap.size (w.alloc (.cells #[.int .i64 v] 3)).heap.size (some ⟨w.heap.size, 0, none⟩) 1 1 [v] :=
    Own.of ⟨by simp [Ints], .inr ⟨w.heap.size, 1, #[.int .i64 v], rfl, Nat.le_refl _, heap_alloc_new w _, Nat.le_refl _, by unfold maxLen; omega, rfl, rfl⟩⟩
  have hup1 := hup.keep (box_below w (.cells #[.int .i64 v] 3))
  have b1 := box_below w (.cells #[.int .i64 v] 3)
  clear hlb em
  go_enter Try.func72, Try.ntmps72
  go_wp2_with (at_builtin; refine wpList_many rfl _ _ rfl rfl o1 bo (n - 1) d w.heap.size (ms.take (n - 1)) rfl hup1 (by omega) (by simp) (Nat.le_refl _) ?_)
  intro a2 c2 w2 o2 g2
  have b2 := b1.trans (show Below w.heap.size (w.alloc (.cells #[.int .i64 v] 3)) w2 from ⟨g2.os, g2.tape, g2.output, g2.size, fun k hk => g2.block k (by simp; omega) (fun e => by injection e with e; omega)⟩)
  rw [HP.out] at o2
  clear hr2 o1 g2
  go_wp2_with fail
  go_ret
  exact ⟨a2, c2, rfl, o2, b2⟩
set_option maxHeartbeats 800000 in
theorem push_s (bo : Option Addr) (n d : Nat) (ms : List Int) (v : Int) (w : World) (hb : Sl w w.heap.size bo n d ms) (hn : 1 ≤ n) (hn6 : n ≤ 1000) :
    Calls Try.prog 86 #[.slice bo n d, .int .i64 v] w (RetN w n (push ms v)) := by
  have hlb := hb.len
  have hd := hb.2.1
  have HP : Hid (v :: ms.take (n - 1) = push ms v) := by show _ = _; unfold push; rw [hlb]
  have hup := hb.upto (show n - 1 ≤ n by omega)
  have hr2 := fun W => run_upto W bo n d ((n : Int) - 1) (by omega) (by omega)
  have em : ((n : Int) - 1).toNat = n - 1 := by omega
  rw [em] at hr2
  have o1 : Own (w.alloc (.cells #[.int .i64 v] 3)) w.heap.size (w.alloc (.cells #[.int .i64 v] 3)).heap.size (some ⟨w.heap.size, 0, none⟩) 1 1 [v] :=
    Own.of ⟨by simp [Ints], .inr ⟨w.heap.size, 1, #[.int .i64 v], rfl, Nat.le_refl _, heap_alloc_new w _, Nat.le_refl _, by unfold maxLen; omega, rfl, rfl⟩⟩
  have hup1 := hup.keep (box_below w (.cells #[.int .i64 v] 3))
  have b1 := box_below w (.cells #[.int .i64 v] 3)
  clear hlb em
  go_enter Try.func86, Try.ntmps86
  go_wp2_with (at_builtin; refine wpList_many rfl _ _ rfl rfl o1 bo (n - 1) d w.heap.size (ms.take (n - 1)) rfl hup1 (by omega) (by simp) (Nat.le_refl _) ?_)
  intro a2 c2 w2 o2 g2
  have b2 := b1.trans (show Below w.heap.size (w.alloc (.cells #[.int .i64 v] 3)) w2 from ⟨g2.os, g2.tape, g2.output, g2.size, fun k hk => g2.block k (by simp; omega) (fun e => by injection e with e; omega)⟩)
  rw [HP.out] at o2
  clear hr2 o1 g2
  go_wp2_with fail
  go_ret
  exact ⟨a2, c2, rfl, o2, b2⟩
end Go.Proofs.Ytmgjbldnohkodaa
