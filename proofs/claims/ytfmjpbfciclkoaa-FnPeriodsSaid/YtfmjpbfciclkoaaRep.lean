/- The contracts of math/bits.Mul at small numbers, slices.Repeat, and RepeatSequence of the program and of the reference. -/
import Derived.Test.YtfmjpbfciclkoaaSeqOps2
import Derived.Laws.CopyOwn
import Derived.Laws.BitsLemmas
import Derived.Laws.Bits64
import Derived.Deep.RegionLaw
import Derived.StillTailTactics
namespace Go.Proofs.Ytfmjpbfciclkoaa
open Go.RowKit

theorem wraps_63 (n : Int) (h₀ : 0 ≤ n) (h₁ : n < 2 ^ 63) : IntKind.u64.wrap n = n := by rw [IntKind.wrap_u64]; omega
theorem mask32 {x : Int} (h0 : 0 ≤ x) (h1 : x ≤ 4294967295) : bits .and .u64 x 4294967295 = x := by
  have h := bits_mask .u64 63 (by decide) wraps_63 32 (by decide) x h0 (by omega)
  have e : ((2 : Int) ^ 32 - 1) = 4294967295 := by decide
  have e2 : ((2 : Int) ^ 32) = 4294967296 := by decide
  rw [e, e2] at h
  rw [h]
  omega

theorem getD_left (xs ys : List Int) (i : Nat) (h : i < xs.length) : (xs ++ ys).getD i 0 = xs.getD i 0 := by
  simp [List.getD, List.getElem?_append_left h]
theorem getD_right (xs ys : List Int) (i : Nat) (h : xs.length ≤ i) : (xs ++ ys).getD i 0 = ys.getD (i - xs.length) 0 := by
  simp [List.getD, List.getElem?_append_right h]
/-- The sequence t times over. -/
def repF (xs : List Int) (i : Nat) : Int := xs.getD (i % xs.length) 0
def repL (xs : List Int) (t : Nat) : List Int := tab (repF xs) (xs.length * t)
def repB (xs : List Int) (t : Int) : Bool := isSeq xs && (decide (0 ≤ t) && decide ((xs.length : Int) * t ≤ 1000))
def repV (xs : List Int) (t : Int) : List Int := seqOr (repB xs t) (repL xs t.toNat)
theorem repL_zero (xs : List Int) : repL xs 0 = [] := by simp [repL, tab]
theorem repL_length (xs : List Int) (t : Nat) : (repL xs t).length = xs.length * t := tab_length _ _
theorem repL_succ (xs : List Int) (t : Nat) : repL xs (t + 1) = repL xs t ++ xs := by
  refine list_ext ?_ ?_
  · rw [List.length_append, repL_length, repL_length, Nat.mul_add, Nat.mul_one]
  · intro i hi
    rw [repL_length] at hi
    rw [Nat.mul_add, Nat.mul_one] at hi
    have h1 : (repL xs (t + 1)).getD i 0 = repF xs i := tab_at _ _ _ (by rw [Nat.mul_add, Nat.mul_one]; exact hi)
    rw [h1]
    by_cases h : i < xs.length * t
    · rw [getD_left _ _ _ (by rw [repL_length]; exact h)]
      exact (tab_at _ _ _ h).symm
    · rw [getD_right _ _ _ (by rw [repL_length]; omega), repL_length]
      unfold repF
      have : i % xs.length = i - xs.length * t := by
        have e : i = (i - xs.length * t) + xs.length * t := by omega
        generalize hq : i - xs.length * t = q at e
        have hql : q < xs.length := by omega
        rw [e, Nat.add_mul_mod_self_left, Nat.mod_eq_of_lt hql]
      rw [this]
theorem repL_seq {xs : List Int} (t : Nat) (hx : isSeq xs = true) : isSeq (repL xs t) = decide (xs.length * t ≤ 1000) := by
  by_cases h : xs.length * t ≤ 1000
  · rw [decide_eq_true h]
    refine isSeq_mk (by rw [repL_length]; exact h) ?_
    intro x hxm
    obtain ⟨i, _, rfl⟩ := tab_mem hxm
    have := isSeq_at hx (i % xs.length)
    exact this
  · rw [decide_eq_false h, ← Bool.not_eq_true]
    intro e
    have := isSeq_len e
    rw [repL_length] at this
    exact h this
theorem repB_no {xs : List Int} {t : Int} (h : isSeq xs = false ∨ t < 0 ∨ (xs.length : Int) * t > 1000) : repB xs t = false := by
  rcases h with h | h | h
  · simp [repB, h]
  · have : ¬ 0 ≤ t := by omega
    simp [repB, this]
  · have : ¬ (xs.length : Int) * t ≤ 1000 := by omega
    simp [repB, this]
theorem repB_yes {xs : List Int} {t : Int} (h : isSeq xs = true) (h0 : 0 ≤ t) (h1 : (xs.length : Int) * t ≤ 1000) : repB xs t = true := by simp [repB, h, h0, h1]
theorem repV_len (xs : List Int) (t : Int) : (repV xs t).length ≤ 1048576 :=
  seqOr_len fun h => by
    simp [repB] at h
    rw [repL_length]
    obtain ⟨_, h0, h1⟩ := h
    obtain ⟨k, rfl⟩ := Int.eq_ofNat_of_zero_le h0
    rw [Int.toNat_natCast]
    have : ((xs.length * k : Nat) : Int) ≤ 1000 := by rw [Int.natCast_mul]; exact h1
    omega
/-- A row of N of which k are laid. -/
def padT (xs : List Int) (k N : Nat) : List Int := tab (fun i => if i < k then repF xs i else 0) N
theorem padT_length (xs : List Int) (k N : Nat) : (padT xs k N).length = N := tab_length _ _
theorem padT_zero (xs : List Int) (N : Nat) : padT xs 0 N = List.replicate N 0 := by
  refine list_ext (by rw [padT_length, List.length_replicate]) ?_
  intro i hi
  rw [padT_length] at hi
  unfold padT
  rw [tab_at _ _ _ hi]
  simp [List.getD, hi]
theorem padT_full (xs : List Int) (N : Nat) : padT xs N N = tab (repF xs) N := tab_congr fun i hi => by simp [hi]
theorem Ints_splice (L : List Int) (off : Nat) (cs : List Int) : splice (Ints L) off (Ints cs) = Ints (splice L off cs) := by
  simp [splice, Ints, List.map_take, List.map_drop]
theorem splice_at (L : List Int) (off : Nat) (cs : List Int) (h : off + cs.length ≤ L.length) (i : Nat) :
    (splice L off cs).getD i 0 = if i < off then L.getD i 0 else if i < off + cs.length then cs.getD (i - off) 0 else L.getD i 0 := by
  unfold splice
  by_cases h1 : i < off
  · rw [if_pos h1, getD_left _ _ _ (by rw [List.length_take]; omega)]
    simp [List.getD, h1]
  · rw [if_neg h1, getD_right _ _ _ (by rw [List.length_take]; omega), List.length_take]
    rw [show min off L.length = off from by omega]
    by_cases h2 : i < off + cs.length
    · rw [if_pos h2, getD_left _ _ _ (by omega)]
    · rw [if_neg h2, getD_right _ _ _ (by omega)]
      simp only [List.getD, List.getElem?_drop]
      rw [show off + cs.length + (i - off - cs.length) = i from by omega]
/-- A splice of the first m behind the first k, where k is a multiple of the length: k + m are laid. -/
theorem padT_splice (xs : List Int) (k m N : Nat) (hk : k % xs.length = 0) (hm : k + m ≤ N) : splice (padT xs k N) k (tab (repF xs) m) = padT xs (k + m) N := by
  refine list_ext ?_ ?_
  · rw [length_splice _ _ _ (by rw [tab_length, padT_length]; exact hm), padT_length, padT_length]
  · intro i hi
    rw [length_splice _ _ _ (by rw [tab_length, padT_length]; exact hm), padT_length] at hi
    rw [splice_at _ _ _ (by rw [tab_length, padT_length]; exact hm), tab_length]
    unfold padT
    rw [tab_at _ _ _ hi, tab_at _ _ _ hi]
    by_cases h1 : i < k
    · rw [if_pos h1, if_pos h1, if_pos (by omega)]
    · rw [if_neg h1, if_neg h1]
      by_cases h2 : i < k + m
      · rw [if_pos h2, if_pos h2, tab_at _ _ _ (by omega)]
        unfold repF
        have : (i - k) % xs.length = i % xs.length := by
          have e : i = (i - k) + k := by omega
          generalize i - k = q at e
          rw [e, Nat.add_mod, hk, Nat.add_zero, Nat.mod_mod]
        rw [this]
      · rw [if_neg h2, if_neg h2]

set_option maxHeartbeats 800000 in
theorem mul64_any (x y p : Int) (w : World) (hx : 0 ≤ x ∧ x ≤ 1048576) (hy : 0 ≤ y ∧ y ≤ 1048576) (hp : Hid (x * y = p)) (hpb : 0 ≤ p ∧ p ≤ 4294967295) :
    Calls Try.prog 56 #[.int .u64 x, .int .u64 y] w fun e w' => e = .returned (.tuple #[.int .u64 0, .int .u64 p]) ∧ w = w' := by
  have hxy : x * y = p := hp
  have x1 : x / 4294967296 = 0 := by omega
  have y1 : y / 4294967296 = 0 := by omega
  have p1 : p / 4294967296 = 0 := by omega
  have w1 : IntKind.u64.wrap p = p := IntWalk.u64_in _ (by omega)
  have m1 := mask32 (x := x) (by omega) (by omega)
  have m2 := mask32 (x := y) (by omega) (by omega)
  have m3 := mask32 (x := 0) (by omega) (by omega)
  go_enter Try.func56, Try.ntmps56
  go_wp2_with fail
  go_ret2
  exact ⟨rfl, rfl⟩
set_option maxHeartbeats 800000 in
theorem mul_any (x y p : Int) (w : World) (hx : 0 ≤ x ∧ x ≤ 1048576) (hy : 0 ≤ y ∧ y ≤ 1048576) (hp : Hid (x * y = p)) (hpb : 0 ≤ p ∧ p ≤ 4294967295) :
    Calls Try.prog 53 #[.int .u64 x, .int .u64 y] w fun e w' => e = .returned (.tuple #[.int .u64 0, .int .u64 p]) ∧ w = w' := by
  go_enter Try.func53, Try.ntmps53
  go_wp2_with fail
  refine (mul64_any x y p _ hx hy hp hpb).mono ?_
  rintro e w' ⟨rfl, rfl⟩
  go_wp2_with fail
  go_ret2
  exact ⟨rfl, rfl⟩
/-- A row that fills its array. -/
theorem row_full {w : World} {B g N : Nat} {L : List Int} (h : w.ownsRow B 3 1 (.slice (some ⟨g, 0, none⟩) N N) N (Ints L)) :
    w.heap[g]? = some (.cells (Ints L).toArray 3 (0, 0)) ∧ B ≤ g ∧ g < w.heap.size := by
  have hl := h.1
  have hlt := (h.lt g rfl).2
  rcases h.2 with ⟨hv, _⟩ | ⟨g1, c1, cur, hv, hbg, hg, hnc, hcm, hcs, htake⟩
  · cases hv
  · injection hv with e1 e2 e3
    injection e1 with e1
    injection e1 with e1
    subst e1
    refine ⟨?_, hbg, hlt⟩
    have : cur.toList = Ints L := by
      rw [Nat.mul_one] at htake
      rw [← htake, List.take_of_length_le]
      rw [Array.length_toList, hcs]
      omega
    rw [hg, ← this]
theorem row_own {w : World} {B g N : Nat} {L : List Int} (hl : L.length = N) (hN : N ≤ 1048576) (hB : B ≤ g) (h : w.heap[g]? = some (.cells (Ints L).toArray 3 (0, 0))) :
    Own w B w.heap.size (some ⟨g, 0, none⟩) N N L := by
  refine Own.of ⟨?_, .inr ⟨g, N, _, rfl, hB, h, Nat.le_refl _, ?_, ?_, ?_⟩⟩
  · rw [Ints_length]; omega
  · unfold maxLen; omega
  · simp [Ints_length]; omega
  · rw [Nat.mul_one]
    exact List.take_of_length_le (by simp [Ints_length]; omega)
theorem row_cell {w : World} {g N : Nat} {L : List Int} (hl : L.length = N) (h : w.heap[g]? = some (.cells (Ints L).toArray 3 (0, 0))) (i : Nat) (hi : i < N) :
    w.cell? ⟨g, i, none⟩ = some (.int .i64 (L.getD i 0)) := by
  unfold World.cell?
  rw [h]
  simp only [Option.isSome_none, Bool.false_eq_true, if_false]
  rw [List.getElem?_toArray]
  exact Ints_get _ _ (by omega)
set_option maxHeartbeats 1600000 in
theorem repeat_any (ao : Option Addr) (n c t : Nat) (xs : List Int) (w : World) (ha : Sl w w.heap.size ao n c xs) (ht : t ≤ 1048576) (hp : n * t ≤ 1000) (hnt : t = 0 ∨ n ≤ n * t) :
    Calls Try.prog 38 #[.slice ao n c, .int .i64 t] w (RetN w (n * t) (repL xs t)) := by
  obtain ⟨i0, hi, hz0, hz1, hz2⟩ := info_parts int_info
  have hi1 : (Try.prog.info? 3).map (·.size) = some 1 := by rw [hi]; simp [hz1]
  have hla := ha.len
  have hn20 := ha.2.2.1
  obtain ⟨N, HN⟩ : ∃ N, Hid (N = n * t) := ⟨_, rfl⟩
  have HL : Hid (repL xs t = tab (repF xs) N) := by show _ = _; unfold repL; rw [hla, HN.out]
  have HM : Hid (t ≠ 0 → N % n = 0) := fun _ => by rw [HN.out]; exact Nat.mul_mod_right _ _
  have HT : Hid (t = 0 → N = 0) := fun h => by rw [HN.out, h, Nat.mul_zero]
  have hNt : N = 0 ∨ n ≤ N := by
    rcases hnt with h | h
    · left; rw [HN.out, h, Nat.mul_zero]
    · right; rw [HN.out]; exact h
  have hN : N ≤ 1000 := by rw [HN.out]; exact hp
  have hmul : Hid ((n : Int) * (t : Int) = (N : Int)) := by show _ = _; rw [HN.out, Int.natCast_mul]
  rw [show n * t = N from HN.out.symm]
  have HA := Lib.hid hla
  clear hla hp hnt HN
  have c1 : IntKind.u64.wrap (n : Int) = (n : Int) := IntWalk.u64_in _ (by omega)
  have c2 : IntKind.u64.wrap (t : Int) = (t : Int) := IntWalk.u64_in _ (by omega)
  have c3 : IntKind.i64.wrap (N : Int) = (N : Int) := IntWalk.i64_in _ (by omega)
  go_enter Try.func38, Try.ntmps38
  go_wp2_with fail
  refine (mul_any (n : Int) (t : Int) (N : Int) _ (by omega) (by omega) hmul (by omega)).mono ?_
  rintro e w' ⟨rfl, rfl⟩
  go_wp2_with (at_make; refine wpList_make_full _ rfl _ _ 22 rfl w.heap.size 3 i0 (.int .i64 0) 1 Try.underlying22 hi hz0 hz1 .i64 .i64 N N N rfl rfl rfl rfl ?c1 ?c2 ?c3 ?_)
  case c1 => rw [hz2]; omega
  case c2 => unfold maxLen; omega
  case c3 => exact Nat.le_refl _
  intro w1 hown hg1
  have hb1 : Below w.heap.size w w1 := ⟨hg1.os, hg1.tape, hg1.output, hg1.size, fun k hk => hg1.block k hk (by simp)⟩
  have hrow : w1.ownsRow w.heap.size 3 1 (.slice (some ⟨w.heap.size, 0, none⟩) N N) N (Ints (padT xs 0 N)) := by
    rw [padT_zero, ← made_zero N]
    exact hown
  obtain ⟨r1, r2, r3⟩ := row_full hrow
  have R1 := Lib.hid r1
  have sa := ha.keep hb1
  clear hown hg1 hrow r1 r2
  obtain ⟨m0, hm0, hm1, hm2⟩ : ∃ m0, Hid (m0 = Nat.min n N) ∧ m0 ≤ n ∧ m0 ≤ N := ⟨_, rfl, Nat.min_le_left _ _, Nat.min_le_right _ _⟩
  obtain ⟨X, hX⟩ : ∃ X, Hid (Ints (tab (repF xs) m0) = X) := ⟨_, rfl⟩
  obtain ⟨C, hC⟩ : ∃ C, Hid (Ints (padT xs 0 N) = C) := ⟨_, rfl⟩
  rw [hC.out] at R1
  have hXl : X.length = m0 := by rw [← hX.out, Ints_length, tab_length]
  have hCl : C.length = N := by rw [← hC.out, Ints_length, padT_length]
  have HXL := Lib.hid hXl
  have HCL := Lib.hid hCl
  clear hXl hCl
  go_wp2_with (refine wpList_copy_splice rfl (.tmp 31) (.tmp 32) 22 22 rfl 3 Try.underlying22 hi1 (some ⟨w.heap.size, 0, none⟩) ao N N n c rfl rfl w.heap.size 0 C 3 R1.out X ?d1 ?d2 ?d3 ?d4 w.heap.size w hb1 (Nat.le_refl _) ?_)
  case d1 => rw [HXL.out, hm0.out]
  case d2 =>
    intro h0
    rw [HXL.out] at h0
    obtain ⟨b, off, rfl, hb, hc⟩ := sa.at_ (by omega)
    refine ⟨⟨b, off, none⟩, rfl, ?_⟩
    intro j v hj
    rw [← hX.out] at hj
    have hjl : j < m0 := by
      rcases Nat.lt_or_ge j m0 with h | h
      · exact h
      · rw [List.getElem?_eq_none (by rw [Ints_length, tab_length]; exact h)] at hj; cases hj
    rw [Ints_get _ _ (by rw [tab_length]; exact hjl), tab_at _ _ _ hjl] at hj
    rw [← Option.some.inj hj, Addr.add_lit, hc j (by omega)]
    unfold repF
    rw [HA.out, Nat.mod_eq_of_lt (by omega)]
  case d3 => rw [HXL.out, HCL.out]; omega
  case d4 => rw [← hX.out]; exact Ints_one _
  intro w2 R2 hb2
  have r2 := R2.out
  rw [← hC.out, ← hX.out, Ints_splice, padT_splice xs 0 m0 N (Nat.zero_mod _) (by omega), Nat.zero_add] at r2
  have R3 := Lib.hid r2
  rw [HXL.out]
  have HK : Hid (m0 % n = 0) := by
    show _ = _
    have := hm0.out
    rcases hNt with h | h
    · rw [show m0 = 0 by omega]; exact Nat.zero_mod _
    · rw [show m0 = n by rw [this]; exact Nat.min_eq_left h]; exact Nat.mod_self _
  have HP : Hid (0 < N → 0 < m0) := fun h => by
    have := hm0.out
    rcases hNt with h1 | h1
    · omega
    · rw [show m0 = n by rw [this]; exact Nat.min_eq_left h1]
      rcases Nat.eq_zero_or_pos n with h2 | h2
      · exfalso
        have h3 := hmul.out
        rw [h2] at h3
        omega
      · exact h2
  clear R1 R2 r2 hC hX HXL HCL sa hb1 hm0
  go_wp2_with fail
  go_loopw [8] (fun v wr => ∃ k : Nat, k ≤ N ∧ v = .int .i64 k ∧ Hid (wr.heap[w.heap.size]? = some (.cells (Ints (padT xs k N)).toArray 3 (0, 0))) ∧ Hid (k % n = 0) ∧ Hid (0 < N → 0 < k) ∧ Below w.heap.size w wr) (fun v _ => N - (intOf v).toNat)
  case atStart => exact ⟨m0, hm2, rfl, R3, HK, HP, hb2⟩
  case round =>
    obtain ⟨k, hk, rfl, R, HKr, HPr, hbel⟩ := hrel
    clear R3 HK HP hb2
    by_cases hlt : k < N
    · have e1 : (k : Int) < (N : Int) := by omega
      have hk0 : 0 < k := HPr.out (by omega)
      obtain ⟨m, hm, hm3, hm4⟩ : ∃ m, Hid (m = Nat.min k (N - k)) ∧ m ≤ k ∧ k + m ≤ N := ⟨_, rfl, Nat.min_le_left _ _, by have : k.min (N - k) ≤ N - k := Nat.min_le_right k (N - k); omega⟩
      go_wp2_with fail
      have e2 : ((k : Int) ≤ (N : Int)) := by omega
      have hNk : ¬ N = k := by omega
      obtain ⟨X, hX⟩ : ∃ X, Hid (Ints (tab (repF xs) m) = X) := ⟨_, rfl⟩
      obtain ⟨C, hC⟩ : ∃ C, Hid (Ints (padT xs k N) = C) := ⟨_, rfl⟩
      have RC := R.out
      have hsrc : Hid (∀ j v, X[j]? = some v → wr.cell? ((⟨w.heap.size, 0, none⟩ : Addr).add j) = some v) := by
        intro j v hj
        rw [← hX.out] at hj
        have hjl : j < m := by
          rcases Nat.lt_or_ge j m with h | h
          · exact h
          · rw [List.getElem?_eq_none (by rw [Ints_length, tab_length]; exact h)] at hj; cases hj
        rw [Ints_get _ _ (by rw [tab_length]; exact hjl), tab_at _ _ _ hjl] at hj
        rw [← Option.some.inj hj, Addr.add_lit, Nat.zero_add, row_cell (padT_length _ _ _) RC j (by omega)]
        unfold padT
        rw [tab_at _ _ _ (by omega), if_pos (by omega)]
      rw [hC.out] at RC
      have R4 := Lib.hid RC
      have HXL : Hid (X.length = m) := by show _ = _; rw [← hX.out, Ints_length, tab_length]
      have HCL : Hid (C.length = N) := by show _ = _; rw [← hC.out, Ints_length, padT_length]
      have HX1 : Hid (∀ v ∈ X, v.oneCell' = true) := by show ∀ v ∈ X, _; rw [← hX.out]; exact Ints_one _
      clear RC
      go_region_law ((refine step_copy_splice rfl (.tmp 41) (.tmp 44) 22 22 rfl 3 Try.underlying22 hi1 (some ⟨w.heap.size, k, none⟩) (some ⟨w.heap.size, 0, none⟩) (N - k) (N - k) k N (by simp [Act.eval, Act.put]) (by simp [Act.eval, Act.put]) w.heap.size k C 3 R4.out X (HXL.out.trans hm.out) (fun _ => ⟨rfl, _, rfl, hsrc.out⟩) (by rw [HXL.out, HCL.out]; exact hm4) HX1.out w.heap.size w ⟨hbel.os, hbel.tape, hbel.output, hbel.size, hbel.block⟩ (Nat.le_refl _) ?_; intro w4 hg4 hb4))
      all_goals
        have r4 := hg4.out
        rw [← hC.out, ← hX.out, Ints_splice, padT_splice xs k m N (by rw [HA.out]; exact HKr.out) hm4] at r4
        have R5 := Lib.hid r4
        have HK5 : Hid ((k + m) % n = 0) := by
          show _ = _
          have h1 := hm.out
          rcases Nat.le_total k (N - k) with h | h
          · rw [show m = k by rw [h1]; exact Nat.min_eq_left h, Nat.add_mod, HKr.out]; exact Nat.zero_mod _
          · rw [show m = N - k by rw [h1]; exact Nat.min_eq_right h, show k + (N - k) = N by omega]
            exact HM.out (fun h0 => by have := HT.out h0; omega)
        have hlm : 1 ≤ m := by have h1 := hm.out; have := Nat.le_min.2 ⟨hk0, (show 1 ≤ N - k by omega)⟩; rw [h1]; exact this
        clear r4 hg4 hX hC hsrc R4 HX1 hm R
        rw [HXL.out]
        have ew : IntKind.i64.wrap ((k : Int) + (m : Int)) = (k : Int) + (m : Int) := IntWalk.i64_in _ (by omega)
        simp [Act.put, ew]
        go_wp2_with fail
        go_roundw
        case rel => exact ⟨k + m, hm4, by go_num, R5, HK5, Lib.hid (fun _ => by omega), hb4⟩
        case measure => simp [intOf]; omega
    · obtain rfl : N = k := by omega
      go_wp2_with fail
      go_ret
      refine ⟨_, _, rfl, ?_, hbel⟩
      rw [HL.out, ← padT_full]
      exact row_own (padT_length _ _ _) (by omega) (Nat.le_refl _) R.out
end Go.Proofs.Ytfmjpbfciclkoaa
