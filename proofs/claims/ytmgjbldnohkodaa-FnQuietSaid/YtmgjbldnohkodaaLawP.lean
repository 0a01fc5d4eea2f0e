/- The contracts of the laws' helpers fresh, ints, constant. -/
import Derived.Test.YtmgjbldnohkodaaGen
namespace Go.Proofs.Ytmgjbldnohkodaa
open Go.RowKit
set_option linter.unusedVariables false

set_option maxHeartbeats 400000 in
theorem ints_true (ao bo : Option Addr) (n c d : Nat) (xs : List Int) (w : World) (ha : Sl w w.heap.size ao n c xs) (hb : Sl w w.heap.size bo n d xs) :
    Calls Try.prog 22 #[.slice ao n c, .slice bo n d] w fun e w' => e = .returned (.bool true) ∧ Below w.heap.size w w' := by
  obtain ⟨_, _, hn, ha⟩ := ha
  obtain ⟨_, _, _, hb⟩ := hb
  have hne : (((n : Nat) : Int) != ((n : Nat) : Int)) = false := by simp
  go_enter Try.func22, Try.ntmps22
  go_wp2
  go_loopw [5, 13] (fun _ i wr => ∃ k : Nat, k ≤ n ∧ i = .int .i64 k ∧ Below w.heap.size w wr) (fun _ i _ => n - (intOf i).toNat)
  case atStart => exact ⟨0, Nat.zero_le _, rfl, Below.refl _ _⟩
  case round =>
    obtain ⟨k, hk, rfl, hbel⟩ := hrel
    by_cases hlt : k < n
    · obtain ⟨b, off, rfl, hbl, hc⟩ := ha (by omega)
      obtain ⟨b2, off2, rfl, hbl2, hc2⟩ := hb (by omega)
      have hcx := (hbel.cell (p := ⟨b, off + k, none⟩) hbl).trans (hc k hlt)
      have hcy := (hbel.cell (p := ⟨b2, off2 + k, none⟩) hbl2).trans (hc2 k hlt)
      clear ha hb hc hc2 hne
      generalize xs.getD k 0 = x at hcx hcy
      have hne : (x != x) = false := by simp
      have e1 : (0 : Int) ≤ (k : Int) := by omega
      have e2 : (k : Int) < (n : Int) := by omega
      go_wp2
      go_quiet (fail)
      go_wp2
      go_roundw
      case rel => exact ⟨k + 1, by omega, by go_num, below_drewN hbel _⟩
      case measure => simp [intOf]; omega
    · have : k = n := by omega
      subst this
      go_wp2
      go_ret
      exact ⟨rfl, hbel⟩
theorem tab_const (v : Int) (n : Nat) : tab (fun _ => v) n = List.replicate n v := by
  apply List.ext_getElem
  · simp [tab]
  · intro i h1 h2; simp [tab]
theorem rep_snoc (v : Int) (n : Nat) : List.replicate (n + 1) v = List.replicate n v ++ [v] := List.replicate_succ'
set_option maxHeartbeats 800000 in
theorem constant_any (v : Int) (n : Nat) (w : World) (hn : n ≤ 1000) :
    Calls Try.prog 20 #[.int .i64 v, .int .i64 n] w (RetN w n (List.replicate n v)) := by
  go_enter Try.func20, Try.ntmps20
  go_wp2_with fail
  have o0 := Own.empty w w.heap.size (Nat.le_refl _)
  have b0 := box_below w (.cells #[] 3)
  go_loopw [5, 6] (fun out i wr => ∃ (j g cap : Nat), j ≤ n ∧ i = .int .i64 j ∧ out = .slice (some ⟨g, 0, none⟩) j cap ∧ Own wr w.heap.size wr.heap.size (some ⟨g, 0, none⟩) j cap (List.replicate j v) ∧ Below w.heap.size w wr) (fun _ i _ => n - (intOf i).toNat)
  case atStart => exact ⟨0, _, 0, Nat.zero_le _, rfl, rfl, o0, b0⟩
  case round =>
    clear o0 b0
    obtain ⟨j, g, cap, hj, rfl, rfl, hown, hbel⟩ := hrel
    by_cases hlt : j < n
    · have hsz := hbel.size
      have HR := Lib.hid (rep_snoc v j)
      go_wp2_with (at_builtin; refine wpList_one rfl _ _ rfl rfl (hown.alloc _) wr.heap.size 1 v rfl (by simp [go_sem]) (by omega) (by simp; omega) ?_)
      intro g1 cap1 w1 hown1 hg1
      have hbw : Below w.heap.size w w1 := (hbel.alloc hsz _).trans (hg1.below (hown.alloc _) (by simp; omega))
      rw [← HR.out] at hown1
      clear hown hg1
      go_wp2_with fail
      go_roundw
      case rel => exact ⟨j + 1, g1, cap1, by omega, by go_num, rfl, hown1, hbw⟩
      case measure => simp [intOf]; omega
    · have : j = n := by omega
      subst this
      go_wp2_with fail
      go_ret
      exact ⟨_, _, rfl, hown, hbel⟩
theorem u8_info : (Try.prog.info? 5).map (fun i => (i.zero, i.size, i.bytes)) = some (some (.int .u8 0), 1, 1) := by kernel_rfl
/-- A row of bytes of the call's own. -/
def OwnB (w : World) (B : Nat) (g n cap : Nat) : Prop := ∃ bs : List Int, w.ownsRow B 5 1 (.slice (some ⟨g, 0, none⟩) n cap) n (bs.map (Value.int .u8)) ∧ ∀ b ∈ bs, 0 ≤ b ∧ b ≤ 255
theorem OwnB.bsl {w : World} {B g n cap : Nat} (h : OwnB w B g n cap) (hn : n ≤ 1048576) : BSl w w.heap.size (some ⟨g, 0, none⟩) n cap := by
  obtain ⟨bs, h, hb⟩ := h
  have hl : bs.length = n := by have := h.1; simp at this; omega
  have hlt := (h.lt g rfl).2
  have hc : n ≤ cap := by
    rcases h.2 with ⟨h, _⟩ | ⟨g', c, cur, hv, _, _, hnc, _⟩
    · cases h
    · injection hv with h1 h2 h3; omega
  refine ⟨hc, hn, fun hp => ⟨g, 0, rfl, hlt, fun i hi => ?_⟩⟩
  have h1 := World.ownsRow.cellAt h i (by omega)
  rw [Nat.zero_add]
  refine ⟨bs[i]'(by omega), (hb _ (List.getElem_mem _)).1, (hb _ (List.getElem_mem _)).2, ?_⟩
  rw [h1]
  simp [List.getElem?_eq_getElem (show i < bs.length by omega)]
theorem OwnB.one (w : World) (B : Nat) (x : Int) (hB : B ≤ w.heap.size) (h0 : 0 ≤ x) (h1 : x ≤ 255) : OwnB (w.alloc (.cells #[.int .u8 x] 5)) B w.heap.size 1 1 :=
  ⟨[x], ⟨by simp, .inr ⟨w.heap.size, 1, #[.int .u8 x], rfl, hB, heap_alloc_new w _, Nat.le_refl _, by unfold maxLen; omega, rfl, rfl⟩⟩, fun b hb => by obtain rfl := List.mem_singleton.1 hb; exact ⟨h0, h1⟩⟩
theorem OwnB.alloc {w : World} {B g n cap : Nat} (h : OwnB w B g n cap) (o : Obj) : OwnB (w.alloc o) B g n cap := by
  obtain ⟨bs, h, hb⟩ := h
  exact ⟨bs, World.ownsRow.alloc h o, hb⟩
theorem wpListB_one {w : World} {o : Oper} {a : Act} {ops : Array Oper} {rest : List Oper} {Q : Exit → Act → World → Prop} {B n cap g : Nat} (hgd : o.guard = none) (s y : Operand) (ho : o.op = .call { callee := .builtin .append, args := #[s, y], argTypes := #[22, 22] })
    (hs : a.eval s = .slice (some ⟨g, 0, none⟩) n cap) (hown : OwnB w B g n cap) (H c : Nat) (x : Int) (hy : a.eval y = .slice (some ⟨H, 0, none⟩) 1 c)
    (hx : w.cell? ⟨H, 0, none⟩ = some (.int .u8 x)) (h0 : 0 ≤ x) (h1 : x ≤ 255) (hn : n + 1 ≤ 1048576) (hB : B ≤ w.heap.size)
    (h : ∀ g1 cap' w', OwnB w' B g1 (n + 1) cap' → w.grownBy w' (some g) → B ≤ g → wpList Try.prog ops Q rest (a.put o.dst (.slice (some ⟨g1, 0, none⟩) (n + 1) cap')) w') :
    wpList Try.prog ops Q (o :: rest) a w := by
  obtain ⟨i0, hi, hz0, hz1, hz2⟩ := info_parts u8_info
  obtain ⟨bs, hrow, hb⟩ := hown
  have hBg : B ≤ g := by
    rcases hrow.2 with ⟨h, _⟩ | ⟨g', c, cur, hv, hb2, _⟩
    · cases h
    · injection hv with h1 h2 h3
      injection h1 with h1
      injection h1 with h1
      omega
  refine wpList_plain hgd fun K hK => wp_append_lies w s y 22 ho B 5 i0 (.int .u8 0) 1 1 Try.underlying22 hi hz0 hz1 hz2 rfl (by omega) (.slice (some ⟨g, 0, none⟩) n cap) n (bs.map (Value.int .u8)) hs hrow ⟨H, 0, none⟩ 1 c [.int .u8 x] hy rfl
    ?_ (fun u hu => by obtain rfl := List.mem_singleton.1 hu; rfl) (by omega) (by unfold maxLen; omega) (by omega) hB w.heap.size rfl ?_
  · intro j u hu
    rcases j with _ | j
    · simp at hu
      subst hu
      simpa [Addr.add] using hx
    · simp at hu
  · intro g1 cap' w' h1' h2 h3 h4
    refine hK _ _ (h g1 cap' w' ⟨bs ++ [x], by rw [List.map_append]; exact h1', fun b hb' => ?_⟩ h2 hBg)
    rcases List.mem_append.1 hb' with hb' | hb'
    · exact hb b hb'
    · obtain rfl := List.mem_singleton.1 hb'; exact ⟨h0, h1⟩
/-- Bytes in memory of the call's own. -/
def RetBytes (w : World) (e : Ending) (w' : World) : Prop := ∃ ao n cap, e = .returned (.slice ao n cap) ∧ BSl w' w'.heap.size ao n cap ∧ Below w.heap.size w w'
set_option maxRecDepth 100000 in
set_option maxHeartbeats 1600000 in
theorem fresh_any (ao : Option Addr) (n cap : Nat) (salt : Nat) (w : World) (h : BSl w w.heap.size ao n cap) (hs : salt ≤ 100) :
    Calls Try.prog 15 #[.slice ao n cap, .int .i64 salt] w (RetBytes w) := by
  have hn20 := h.2.1
  go_enter Try.func15, Try.ntmps15
  go_wp2_with fail
  have o0 := OwnB.one w w.heap.size (salt : Int) (Nat.le_refl _) (by omega) (by omega)
  have b0 := box_below w (.cells #[.int .u8 (salt : Int)] 5)
  go_loopw [5, 6] (fun out i wr => ∃ (j g cap : Nat), j ≤ n ∧ j ≤ 600 ∧ i = .int .i64 j ∧ out = .slice (some ⟨g, 0, none⟩) (j + 1) cap ∧ OwnB wr w.heap.size g (j + 1) cap ∧ Below w.heap.size w wr) (fun _ i _ => n - (intOf i).toNat)
  case atStart => exact ⟨0, _, 1, Nat.zero_le _, by omega, rfl, rfl, o0, b0⟩
  case round =>
    clear o0 b0
    obtain ⟨j, g, cap, hj, hj6, rfl, rfl, hown, hbel⟩ := hrel
    have hfin := hown.bsl (by omega)
    by_cases hlt : j < n
    · by_cases h6 : j < 600
      · obtain ⟨b, off, rfl, hbD, hcs⟩ := h.2.2 (by omega)
        obtain ⟨y, hy0, hy1, hcy0⟩ := hcs j hlt
        have hcy := (hbel.cell (p := ⟨b, off + j, none⟩) hbD).trans hcy0
        clear hcs hcy0 hfin
        have h6' : (j : Int) < 600 := by omega
        have hsz := hbel.size
        have hm0 := Int.emod_nonneg (j : Int) (show (7 : Int) ≠ 0 by omega)
        have hm1 := Int.emod_lt_of_pos (j : Int) (show (0 : Int) < 7 by omega)
        have hp0 : 0 ≤ (salt : Int) * ((j : Int) % 7 + 1) := Int.mul_nonneg (by omega) (by omega)
        have hp1 : (salt : Int) * ((j : Int) % 7 + 1) ≤ 100 * 7 := Int.mul_le_mul (by omega) (by omega) (by omega) (by omega)
        have hv0 := Int.emod_nonneg (y * 3 + (salt : Int) * ((j : Int) % 7 + 1)) (show (256 : Int) ≠ 0 by omega)
        have hv1 := Int.emod_lt_of_pos (y * 3 + (salt : Int) * ((j : Int) % 7 + 1)) (show (0 : Int) < 256 by omega)
        go_wp2_with (at_builtin; refine wpListB_one rfl _ _ rfl rfl (hown.alloc _) wr.heap.size 1 ((y * 3 + (salt : Int) * ((j : Int) % 7 + 1)) % 256) rfl (by simp [go_sem]) hv0 (by omega) (by omega) (by simp; omega) ?_)
        intro g1 cap1 w1 hown1 hg1 hBg
        have hbw : Below w.heap.size w w1 := (hbel.alloc hsz _).trans ⟨hg1.os, hg1.tape, hg1.output, hg1.size, fun k hk => hg1.block k (by simp; omega) (fun e => by injection e with e; omega)⟩
        clear hown hg1 hcy
        go_wp2_with fail
        go_roundw
        case rel => exact ⟨j + 1, g1, cap1, by omega, by omega, by go_num, rfl, hown1, hbw⟩
        case measure => simp [intOf]; omega
      · have h6' : ¬ (j : Int) < 600 := by omega
        go_wp2_with fail
        go_ret
        exact ⟨_, _, _, rfl, hfin, hbel⟩
    · go_wp2_with fail
      go_ret
      exact ⟨_, _, _, rfl, hfin, hbel⟩
end Go.Proofs.Ytmgjbldnohkodaa
