/- The contracts of SafeInput, PlainMemory and ShapeOf, of the program and of the reference. -/
import Derived.Test.YtmgjbldnohkodaaMod2
namespace Go.Proofs.Ytmgjbldnohkodaa
open Go.RowKit
set_option linter.unusedVariables false
theorem ifmax3 (a b : Int) : (if a < b then b else a) = max a b := by split <;> omega
theorem size_m (v m : Int) (w : World) (hm : Hid (m = max v (-v))) (hv : -9223372036854775807 ≤ v ∧ v ≤ 9223372036854775807) : Calls Try.prog 74 #[.int .i64 v] w fun e w' => e = .returned (.int .i64 m) ∧ w = w' := by
  by_cases hlt : v < -v
  · go_enter Try.func74, Try.ntmps74
    go_wp2
    go_ret
    exact ⟨ret_int (by have := hm.out; omega), rfl⟩
  · go_enter Try.func74, Try.ntmps74
    go_wp2
    go_ret
    exact ⟨ret_int (by have := hm.out; omega), rfl⟩
theorem safe_bd {l s a : Int} (hq : isQ l s = true) (h0 : 0 ≤ a) (h1 : a ≤ 600) : 0 ≤ s * a ∧ s * a ≤ 644245094400 ∧ -644245094400 ≤ s * (l - a) ∧ s * (l - a) ≤ 17179869184 := by
  have hb := isQ_true hq
  have c1 : 0 ≤ s * a := Int.mul_nonneg (by omega) h0
  have c2 : s * a ≤ 1073741824 * 600 := Int.mul_le_mul (by omega) h1 h0 (by omega)
  have e := safe_split l s a
  have c3 := rng_bd hq
  omega

set_option maxHeartbeats 1600000 in
theorem safe_i (l s : Int) (ao : Option Addr) (n c : Nat) (cs : List Int) (w : World) (ha : Sl w w.heap.size ao n c cs) :
    Calls Try.prog 36 #[.agg #[.int .i64 l, .int .i64 s, .slice ao n c]] w fun e w' => e = .returned (.int .i64 (safeV l s cs)) ∧ Below w.heap.size w w' := by
  have hla := ha.len
  cases hm : isMod l s cs
  · have hno := Lib.hid (safeV_no hm)
    clear hla
    go_enter Try.func36, Try.ntmps36
    have b0 := box_below w (.cells #[.int .i64 l, .int .i64 s, .slice ao n c] 27)
    have q0 := mbox_new w l s ao n c 27
    have h0 := ha.next b0
    obtain ⟨c0, c1, c2, cz⟩ := q0
    go_wp2_with fail
    generalize w.alloc (.cells #[.int .i64 l, .int .i64 s, .slice ao n c] 27) = w0 at b0 c0 c1 c2 cz h0 ⊢
    refine (isMod_i _ _ _ _ _ cs _ h0).mono ?_
    rw [hm]
    rintro e w1 ⟨rfl, b⟩
    replace c0 := (b.cell (p := ⟨w.heap.size, 0, none⟩) cz).trans c0
    replace c1 := (b.cell (p := ⟨w.heap.size, 1, none⟩) cz).trans c1
    replace c2 := (b.cell (p := ⟨w.heap.size, 2, none⟩) cz).trans c2
    replace h0 := h0.next b
    replace b0 := then_then b0 b
    replace cz := Nat.lt_of_lt_of_le cz b.size
    clear b
    go_wp2_with fail
    go_ret
    exact ⟨ret_int hno.out.symm, b0⟩
  · have HM := Lib.hid hm
    have HQ := Lib.hid (isMod_true hm).1
    have hn6 : n ≤ 6 := by have := (isMod_true hm).2.2.1; omega
    have HS : Hid (safeV l s cs = max (-1) (s * (l - absUpto cs n))) := by show _ = _; rw [safeV_yes hm, hla]
    have hlb := isQ_true HQ.out
    clear hla
    go_enter Try.func36, Try.ntmps36
    have b0 := box_below w (.cells #[.int .i64 l, .int .i64 s, .slice ao n c] 27)
    have q0 := mbox_new w l s ao n c 27
    have h0 := ha.next b0
    obtain ⟨c0, c1, c2, cz⟩ := q0
    go_wp2_with fail
    generalize w.alloc (.cells #[.int .i64 l, .int .i64 s, .slice ao n c] 27) = w0 at b0 c0 c1 c2 cz h0 ⊢
    refine (isMod_i _ _ _ _ _ cs _ h0).mono ?_
    rw [hm]
    rintro e w1 ⟨rfl, b⟩
    replace c0 := (b.cell (p := ⟨w.heap.size, 0, none⟩) cz).trans c0
    replace c1 := (b.cell (p := ⟨w.heap.size, 1, none⟩) cz).trans c1
    replace c2 := (b.cell (p := ⟨w.heap.size, 2, none⟩) cz).trans c2
    replace h0 := h0.next b
    replace b0 := then_then b0 b
    replace cz := Nat.lt_of_lt_of_le cz b.size
    clear b
    clear hm
    go_wp2_with fail
    go_loop [3, 5, 12] (fun q _ i => ∃ k : Nat, k ≤ n ∧ i = .int .i64 k ∧ q = .int .i64 (absUpto cs k)) (fun _ _ i => n - (intOf i).toNat)
    case atStart => exact ⟨0, Nat.zero_le _, rfl, rfl⟩
    case round =>
      obtain ⟨k, hk, rfl, rfl⟩ := hrel
      have hab := absUpto_bd (fun i => isMod_at HM.out i) k
      by_cases hlt : k < n
      · obtain ⟨b1, off1, rfl, hbl1, hc1⟩ := h0.at_ (by omega)
        have hcx := hc1 k hlt
        have hxb := isMod_at HM.out k
        have hss := Lib.hid (absUpto_succ cs k)
        clear hc1
        generalize cs.getD k 0 = x at hcx hxb hss
        obtain ⟨p, HP⟩ : ∃ p, Hid (p = max x (-x)) := ⟨_, rfl⟩
        rw [← HP.out] at hss
        have hpb : 0 ≤ p ∧ p ≤ 100 := by have := HP.out; omega
        go_wp2_with fail
        refine (size_m _ _ _ HP (by omega)).mono ?_
        rintro e w' ⟨rfl, rfl⟩
        go_wp2_with fail
        go_round
        case rel => exact ⟨k + 1, by omega, by go_num, by rw [hss.out]⟩
        case measure => simp [intOf]; omega
      · have : k = n := by omega
        subst this
        obtain ⟨q, hq⟩ : ∃ q, absUpto cs k = q := ⟨_, rfl⟩
        rw [hq] at HS hab ⊢
        clear hq
        obtain ⟨d0, d1, d2, d3⟩ := safe_bd HQ.out hab.1 (show q ≤ 600 by omega)
        have e1 : IntKind.i64.wrap (s * q) = s * q := IntWalk.i64_in _ (by omega)
        have hr : Hid (rng l s = l * s) := rng_yes HQ.out
        have hrb := rng_bd HQ.out
        obtain ⟨r, hre⟩ : ∃ r, Hid (rng l s = r) := ⟨_, rfl⟩
        have hrb2 : 2 ≤ r ∧ r ≤ 17179869184 := by rw [← hre.out, hr.out]; exact hrb
        have e2 : IntKind.i64.wrap (r - s * q) = r - s * q := IntWalk.i64_in _ (by omega)
        have HV : Hid (max (-1) (r - s * q) = safeV l s cs) := by show _ = _; rw [HS.out, safe_split, ← hr.out, hre.out]
        replace b0 := b0.drew
        go_wp2_with fail
        go_region_held3 (fun w' => w'.cell? ⟨w.heap.size, 0, none⟩ = some (.int .i64 l) ∧ w'.cell? ⟨w.heap.size, 1, none⟩ = some (.int .i64 s)) (go_keep)
          (first | (go_at_call 29; refine (rangeOf_i _ _ _).mono ?_; rw [hre.out]; rintro e w3 ⟨rfl, b⟩; replace c0 := (b.cell (p := ⟨w.heap.size, 0, none⟩) cz).trans c0; replace c1 := (b.cell (p := ⟨w.heap.size, 1, none⟩) cz).trans c1; replace b0 := then_then b0 b; clear b))
        go_wp2_with fail
        all_goals
          go_ret
          exact ⟨ret_int (by rw [← HV.out]; omega), b0⟩
set_option maxHeartbeats 1600000 in
theorem safe_s (l s : Int) (ao : Option Addr) (n c : Nat) (cs : List Int) (w : World) (ha : Sl w w.heap.size ao n c cs) :
    Calls Try.prog 37 #[.agg #[.int .i64 l, .int .i64 s, .slice ao n c]] w fun e w' => e = .returned (.int .i64 (safeV l s cs)) ∧ Below w.heap.size w w' := by
  have hla := ha.len
  cases hm : isMod l s cs
  · have hno := Lib.hid (safeV_no hm)
    clear hla
    go_enter Try.func37, Try.ntmps37
    have b0 := box_below w (.cells #[.int .i64 l, .int .i64 s, .slice ao n c] 27)
    have q0 := mbox_new w l s ao n c 27
    have h0 := ha.next b0
    obtain ⟨c0, c1, c2, cz⟩ := q0
    go_wp2_with fail
    generalize w.alloc (.cells #[.int .i64 l, .int .i64 s, .slice ao n c] 27) = w0 at b0 c0 c1 c2 cz h0 ⊢
    refine (isMod_s _ _ _ _ _ cs _ h0).mono ?_
    rw [hm]
    rintro e w1 ⟨rfl, b⟩
    replace c0 := (b.cell (p := ⟨w.heap.size, 0, none⟩) cz).trans c0
    replace c1 := (b.cell (p := ⟨w.heap.size, 1, none⟩) cz).trans c1
    replace c2 := (b.cell (p := ⟨w.heap.size, 2, none⟩) cz).trans c2
    replace h0 := h0.next b
    replace b0 := then_then b0 b
    replace cz := Nat.lt_of_lt_of_le cz b.size
    clear b
    go_wp2_with fail
    go_ret
    exact ⟨ret_int hno.out.symm, b0⟩
  · have HM := Lib.hid hm
    have HQ := Lib.hid (isMod_true hm).1
    have hn6 : n ≤ 6 := by have := (isMod_true hm).2.2.1; omega
    have HS : Hid (safeV l s cs = max (-1) (s * (l - absUpto cs n))) := by show _ = _; rw [safeV_yes hm, hla]
    have hlb := isQ_true HQ.out
    clear hla
    go_enter Try.func37, Try.ntmps37
    have b0 := box_below w (.cells #[.int .i64 l, .int .i64 s, .slice ao n c] 27)
    have q0 := mbox_new w l s ao n c 27
    have h0 := ha.next b0
    obtain ⟨c0, c1, c2, cz⟩ := q0
    go_wp2_with fail
    generalize w.alloc (.cells #[.int .i64 l, .int .i64 s, .slice ao n c] 27) = w0 at b0 c0 c1 c2 cz h0 ⊢
    refine (isMod_s _ _ _ _ _ cs _ h0).mono ?_
    rw [hm]
    rintro e w1 ⟨rfl, b⟩
    replace c0 := (b.cell (p := ⟨w.heap.size, 0, none⟩) cz).trans c0
    replace c1 := (b.cell (p := ⟨w.heap.size, 1, none⟩) cz).trans c1
    replace c2 := (b.cell (p := ⟨w.heap.size, 2, none⟩) cz).trans c2
    replace h0 := h0.next b
    replace b0 := then_then b0 b
    replace cz := Nat.lt_of_lt_of_le cz b.size
    clear b
    clear hm
    go_wp2_with fail
    go_loop [3, 5, 12] (fun q _ i => ∃ k : Nat, k ≤ n ∧ i = .int .i64 k ∧ q = .int .i64 (absUpto cs k)) (fun _ _ i => n - (intOf i).toNat)
    case atStart => exact ⟨0, Nat.zero_le _, rfl, rfl⟩
    case round =>
      obtain ⟨k, hk, rfl, rfl⟩ := hrel
      have hab := absUpto_bd (fun i => isMod_at HM.out i) k
      by_cases hlt : k < n
      · obtain ⟨b1, off1, rfl, hbl1, hc1⟩ := h0.at_ (by omega)
        have hcx := hc1 k hlt
        have hxb := isMod_at HM.out k
        have hss := Lib.hid (absUpto_succ cs k)
        clear hc1
        generalize cs.getD k 0 = x at hcx hxb hss
        obtain ⟨p, HP⟩ : ∃ p, Hid (p = max x (-x)) := ⟨_, rfl⟩
        rw [← HP.out] at hss
        have hpb : 0 ≤ p ∧ p ≤ 100 := by have := HP.out; omega
        have hpx : (if x < -x then -x else x) = p := by rw [ifmax3, HP.out]
        go_wp2_with fail
        go_round
        case rel => exact ⟨k + 1, by omega, by go_num, by rw [hss.out]⟩
        case measure => simp [intOf]; omega
      · have : k = n := by omega
        subst this
        obtain ⟨q, hq⟩ : ∃ q, absUpto cs k = q := ⟨_, rfl⟩
        rw [hq] at HS hab ⊢
        clear hq
        obtain ⟨d0, d1, d2, d3⟩ := safe_bd HQ.out hab.1 (show q ≤ 600 by omega)
        have HV : Hid (max (-1) (s * (l - q)) = safeV l s cs) := HS.out.symm
        go_wp2_with fail
        all_goals
          go_ret
          exact ⟨ret_int (by rw [← HV.out]; omega), b0⟩
set_option maxHeartbeats 800000 in
theorem plain_i (l s : Int) (ao : Option Addr) (n c : Nat) (cs : List Int) (w : World) (ha : Sl w w.heap.size ao n c cs) :
    Calls Try.prog 31 #[.agg #[.int .i64 l, .int .i64 s, .slice ao n c]] w (RetOwn w (plainV l s cs)) := by
  have hla := ha.len
  cases hm : isMod l s cs
  · have hno : Hid (plainV l s cs = []) := by show _ = _; unfold plainV; rw [hm]; rfl
    clear hla
    go_enter Try.func31, Try.ntmps31
    have b0 := box_below w (.cells #[.int .i64 l, .int .i64 s, .slice ao n c] 27)
    have q0 := mbox_new w l s ao n c 27
    have h0 := ha.next b0
    obtain ⟨c0, c1, c2, cz⟩ := q0
    go_wp2_with fail
    generalize w.alloc (.cells #[.int .i64 l, .int .i64 s, .slice ao n c] 27) = w0 at b0 c0 c1 c2 cz h0 ⊢
    refine (isMod_i _ _ _ _ _ cs _ h0).mono ?_
    rw [hm]
    rintro e w1 ⟨rfl, b⟩
    replace c0 := (b.cell (p := ⟨w.heap.size, 0, none⟩) cz).trans c0
    replace c1 := (b.cell (p := ⟨w.heap.size, 1, none⟩) cz).trans c1
    replace c2 := (b.cell (p := ⟨w.heap.size, 2, none⟩) cz).trans c2
    replace h0 := h0.next b
    replace b0 := then_then b0 b
    replace cz := Nat.lt_of_lt_of_le cz b.size
    clear b
    go_wp2_with fail
    go_ret
    exact ⟨none, 0, 0, rfl, by rw [hno.out]; exact Own.nil, b0⟩
  · have HV : Hid (plainV l s cs = List.replicate n 0) := by show _ = _; unfold plainV; rw [hm, hla]; rfl
    have hn6 : n ≤ 6 := by have := (isMod_true hm).2.2.1; omega
    clear hla
    obtain ⟨i0, hi, hz0, hz1, hz2⟩ := info_parts int_info
    go_enter Try.func31, Try.ntmps31
    have b0 := box_below w (.cells #[.int .i64 l, .int .i64 s, .slice ao n c] 27)
    have q0 := mbox_new w l s ao n c 27
    have h0 := ha.next b0
    obtain ⟨c0, c1, c2, cz⟩ := q0
    go_wp2_with fail
    generalize w.alloc (.cells #[.int .i64 l, .int .i64 s, .slice ao n c] 27) = w0 at b0 c0 c1 c2 cz h0 ⊢
    refine (isMod_i _ _ _ _ _ cs _ h0).mono ?_
    rw [hm]
    rintro e w1 ⟨rfl, b⟩
    replace c0 := (b.cell (p := ⟨w.heap.size, 0, none⟩) cz).trans c0
    replace c1 := (b.cell (p := ⟨w.heap.size, 1, none⟩) cz).trans c1
    replace c2 := (b.cell (p := ⟨w.heap.size, 2, none⟩) cz).trans c2
    replace h0 := h0.next b
    replace b0 := then_then b0 b
    replace cz := Nat.lt_of_lt_of_le cz b.size
    clear b
    clear hm
    go_wp2_with (at_make; refine wpList_make_full _ rfl _ _ 25 rfl w.heap.size 3 i0 (.int .i64 0) 1 Try.underlying25 hi hz0 hz1 .i64 .i64 n n n rfl rfl rfl rfl ?c1 ?c2 ?c3 ?_)
    case c1 => rw [hz2]; omega
    case c2 => unfold maxLen; omega
    case c3 => exact b0.size
    intro w2 hown hg1
    have b2 : Below w.heap.size w w2 := b0.grown hg1 b0.size (by simp)
    have o2 : Own w2 w.heap.size w2.heap.size (some ⟨w1.heap.size, 0, none⟩) n n (List.replicate n 0) := by
      refine Own.of ?_
      rw [← made_zero n]
      exact hown
    clear hown hg1
    go_wp2_with fail
    go_ret
    exact ⟨_, _, _, rfl, by rw [HV.out]; exact o2, b2⟩
set_option maxHeartbeats 800000 in
theorem plain_s (l s : Int) (ao : Option Addr) (n c : Nat) (cs : List Int) (w : World) (ha : Sl w w.heap.size ao n c cs) :
    Calls Try.prog 47 #[.agg #[.int .i64 l, .int .i64 s, .slice ao n c]] w (RetOwn w (plainV l s cs)) := by
  have hla := ha.len
  cases hm : isMod l s cs
  · have hno : Hid (plainV l s cs = []) := by show _ = _; unfold plainV; rw [hm]; rfl
    clear hla
    go_enter Try.func47, Try.ntmps47
    have b0 := box_below w (.cells #[.int .i64 l, .int .i64 s, .slice ao n c] 27)
    have q0 := mbox_new w l s ao n c 27
    have h0 := ha.next b0
    obtain ⟨c0, c1, c2, cz⟩ := q0
    go_wp2_with fail
    generalize w.alloc (.cells #[.int .i64 l, .int .i64 s, .slice ao n c] 27) = w0 at b0 c0 c1 c2 cz h0 ⊢
    refine (isMod_s _ _ _ _ _ cs _ h0).mono ?_
    rw [hm]
    rintro e w1 ⟨rfl, b⟩
    replace c0 := (b.cell (p := ⟨w.heap.size, 0, none⟩) cz).trans c0
    replace c1 := (b.cell (p := ⟨w.heap.size, 1, none⟩) cz).trans c1
    replace c2 := (b.cell (p := ⟨w.heap.size, 2, none⟩) cz).trans c2
    replace h0 := h0.next b
    replace b0 := then_then b0 b
    replace cz := Nat.lt_of_lt_of_le cz b.size
    clear b
    go_wp2_with fail
    go_ret
    exact ⟨none, 0, 0, rfl, by rw [hno.out]; exact Own.nil, b0⟩
  · have HV : Hid (plainV l s cs = List.replicate n 0) := by show _ = _; unfold plainV; rw [hm, hla]; rfl
    have hn6 : n ≤ 6 := by have := (isMod_true hm).2.2.1; omega
    clear hla
    obtain ⟨i0, hi, hz0, hz1, hz2⟩ := info_parts int_info
    go_enter Try.func47, Try.ntmps47
    have b0 := box_below w (.cells #[.int .i64 l, .int .i64 s, .slice ao n c] 27)
    have q0 := mbox_new w l s ao n c 27
    have h0 := ha.next b0
    obtain ⟨c0, c1, c2, cz⟩ := q0
    go_wp2_with fail
    generalize w.alloc (.cells #[.int .i64 l, .int .i64 s, .slice ao n c] 27) = w0 at b0 c0 c1 c2 cz h0 ⊢
    refine (isMod_s _ _ _ _ _ cs _ h0).mono ?_
    rw [hm]
    rintro e w1 ⟨rfl, b⟩
    replace c0 := (b.cell (p := ⟨w.heap.size, 0, none⟩) cz).trans c0
    replace c1 := (b.cell (p := ⟨w.heap.size, 1, none⟩) cz).trans c1
    replace c2 := (b.cell (p := ⟨w.heap.size, 2, none⟩) cz).trans c2
    replace h0 := h0.next b
    replace b0 := then_then b0 b
    replace cz := Nat.lt_of_lt_of_le cz b.size
    clear b
    clear hm
    go_wp2_with (at_make; refine wpList_make_full _ rfl _ _ 25 rfl w.heap.size 3 i0 (.int .i64 0) 1 Try.underlying25 hi hz0 hz1 .i64 .i64 n n n rfl rfl rfl rfl ?c1 ?c2 ?c3 ?_)
    case c1 => rw [hz2]; omega
    case c2 => unfold maxLen; omega
    case c3 => exact b0.size
    intro w2 hown hg1
    have b2 : Below w.heap.size w w2 := b0.grown hg1 b0.size (by simp)
    have o2 : Own w2 w.heap.size w2.heap.size (some ⟨w1.heap.size, 0, none⟩) n n (List.replicate n 0) := by
      refine Own.of ?_
      rw [← made_zero n]
      exact hown
    clear hown hg1
    go_wp2_with fail
    go_ret
    exact ⟨_, _, _, rfl, by rw [HV.out]; exact o2, b2⟩
set_option maxHeartbeats 800000 in
theorem shape_i (l s : Int) (ao : Option Addr) (n c : Nat) (cs : List Int) (w : World) (ha : Sl w w.heap.size ao n c cs) :
    Calls Try.prog 50 #[.agg #[.int .i64 l, .int .i64 s, .slice ao n c]] w (RetOwn w (shapeV l s cs)) := by
  cases hm : isMod l s cs
  · have hno : Hid (shapeV l s cs = []) := by show _ = _; unfold shapeV; rw [hm]; rfl
    go_enter Try.func50, Try.ntmps50
    have b0 := box_below w (.cells #[.int .i64 l, .int .i64 s, .slice ao n c] 27)
    have q0 := mbox_new w l s ao n c 27
    have h0 := ha.next b0
    obtain ⟨c0, c1, c2, cz⟩ := q0
    go_wp2_with fail
    generalize w.alloc (.cells #[.int .i64 l, .int .i64 s, .slice ao n c] 27) = w0 at b0 c0 c1 c2 cz h0 ⊢
    refine (isMod_i _ _ _ _ _ cs _ h0).mono ?_
    rw [hm]
    rintro e w1 ⟨rfl, b⟩
    replace c0 := (b.cell (p := ⟨w.heap.size, 0, none⟩) cz).trans c0
    replace c1 := (b.cell (p := ⟨w.heap.size, 1, none⟩) cz).trans c1
    replace c2 := (b.cell (p := ⟨w.heap.size, 2, none⟩) cz).trans c2
    replace h0 := h0.next b
    replace b0 := then_then b0 b
    replace cz := Nat.lt_of_lt_of_le cz b.size
    clear b
    go_wp2_with fail
    go_ret
    exact ⟨none, 0, 0, rfl, by rw [hno.out]; exact Own.nil, b0⟩
  · have HV : Hid (1 :: cs = shapeV l s cs) := by show _ = _; unfold shapeV; rw [hm]; rfl
    have hn6 : n ≤ 6 := by have := (isMod_true hm).2.2.1; have := ha.len; omega
    go_enter Try.func50, Try.ntmps50
    have b0 := box_below w (.cells #[.int .i64 l, .int .i64 s, .slice ao n c] 27)
    have q0 := mbox_new w l s ao n c 27
    have h0 := ha.next b0
    obtain ⟨c0, c1, c2, cz⟩ := q0
    go_wp2_with fail
    generalize w.alloc (.cells #[.int .i64 l, .int .i64 s, .slice ao n c] 27) = w0 at b0 c0 c1 c2 cz h0 ⊢
    refine (isMod_i _ _ _ _ _ cs _ h0).mono ?_
    rw [hm]
    rintro e w1 ⟨rfl, b⟩
    replace c0 := (b.cell (p := ⟨w.heap.size, 0, none⟩) cz).trans c0
    replace c1 := (b.cell (p := ⟨w.heap.size, 1, none⟩) cz).trans c1
    replace c2 := (b.cell (p := ⟨w.heap.size, 2, none⟩) cz).trans c2
    replace h0 := h0.next b
    replace b0 := then_then b0 b
    replace cz := Nat.lt_of_lt_of_le cz b.size
    clear b
    clear hm
    have o1 : Own (w1.alloc (.cells #[.int .i64 1] 3)) w.heap.size (w1.alloc (.cells #[.int .i64 1] 3)).heap.size (some ⟨w1.heap.size, 0, none⟩) 1 1 [1] :=
      Own.of ⟨by simp [Ints], .inr ⟨w1.heap.size, 1, #[.int .i64 1], rfl, b0.size, heap_alloc_new w1 _, Nat.le_refl _, by unfold maxLen; omega, rfl, rfl⟩⟩
    have h1 := (h0.next (box_below w1 (.cells #[.int .i64 1] 3)))
    have b1 := b0.alloc b0.size (.cells #[.int .i64 1] 3)
    have d2 := ((box_below w1 (.cells #[.int .i64 1] 3)).cell (p := ⟨w.heap.size, 2, none⟩) cz).trans c2
    have hsz := b0.size
    go_wp2_with (at_builtin; refine wpList_many rfl _ _ rfl rfl o1 ao n c _ cs rfl h1 (by omega) (by simp; omega) (Nat.le_refl _) ?_)
    intro a2 k2 w2 o2 g2
    have b2 : Below w.heap.size w w2 := b1.trans (show Below w.heap.size (w1.alloc (.cells #[.int .i64 1] 3)) w2 from ⟨g2.os, g2.tape, g2.output, g2.size, fun k hk => g2.block k (by simp; omega) (fun e => by injection e with e; omega)⟩)
    have o2' : Own w2 w.heap.size w2.heap.size a2 (1 + n) k2 (shapeV l s cs) := by rw [← HV.out]; exact o2
    clear o2 g2 o1 h1 b1
    go_wp2_with fail
    go_ret
    exact ⟨a2, 1 + n, k2, rfl, o2', b2⟩
end Go.Proofs.Ytmgjbldnohkodaa
