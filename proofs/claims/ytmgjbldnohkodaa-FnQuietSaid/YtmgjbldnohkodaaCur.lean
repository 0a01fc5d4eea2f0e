/- A cursor over the bytes of a draw: a struct in memory. The contracts of l01New, l01Byte, l01Below, l01Int; of 'at', 'fresh'. What they return is not told, only its bounds. -/
import Derived.Test.YtmgjbldnohkodaaBlk
import Derived.Laws.BitsLemmas
import Derived.Laws.Bits64
namespace Go.Proofs.Ytmgjbldnohkodaa
open Go.RowKit
set_option linter.unusedVariables false

theorem and_mask (x : Int) (m : Nat) (hm : m < 4611686018427387904) : 0 ≤ bits .and .i64 x (m : Int) ∧ bits .and .i64 x (m : Int) ≤ m := by
  have h : bits .and .i64 x (m : Int) = IntKind.i64.wrap ((((BitVec.ofInt 64 x).toNat &&& m : Nat)) : Int) := by
    have e : m % 2 ^ 64 = m := Nat.mod_eq_of_lt (by omega)
    show IntKind.i64.wrap (((BitVec.ofInt 64 x &&& BitVec.ofInt 64 (m : Int)).toNat : Nat) : Int) = _
    rw [BitVec.toNat_and, BitVec.ofInt_natCast, BitVec.toNat_ofNat, e]
  have h2 : (BitVec.ofInt 64 x).toNat &&& m ≤ m := Nat.and_le_right
  rw [h, IntKind.wrap_i64]
  omega

/-- A slice of bytes; it lies below block C. -/
def BSl (w : World) (C : Nat) (ao : Option Addr) (n cap : Nat) : Prop :=
  n ≤ cap ∧ n ≤ 1048576 ∧ (0 < n → ∃ b off, ao = some ⟨b, off, none⟩ ∧ b < C ∧ ∀ i, i < n → ∃ x : Int, 0 ≤ x ∧ x ≤ 255 ∧ w.cell? ⟨b, off + i, none⟩ = some (.int .u8 x))
section
variable {w w' : World} {C n cap : Nat} {ao : Option Addr}
theorem BSl.keep (h : BSl w C ao n cap) (hk : Below C w w') : BSl w' C ao n cap :=
  ⟨h.1, h.2.1, fun hn => by
    obtain ⟨b, off, e, hb, hc⟩ := h.2.2 hn
    refine ⟨b, off, e, hb, fun i hi => ?_⟩
    obtain ⟨x, h0, h1, h2⟩ := hc i hi
    exact ⟨x, h0, h1, (hk.cell (p := ⟨b, off + i, none⟩) hb).trans h2⟩⟩
theorem BSl.more {C' : Nat} (h : BSl w C ao n cap) (hC : C ≤ C') : BSl w C' ao n cap :=
  ⟨h.1, h.2.1, fun hn => by
    obtain ⟨b, off, e, hb, hc⟩ := h.2.2 hn
    exact ⟨b, off, e, by omega, hc⟩⟩
end
theorem IsRow.bsl {w : World} {a : Option Addr} {len cap : Nat} {zs : List Int} (h : IsRow .u8 w a len cap zs) (hn : len ≤ 1048576) : BSl w w.heap.size a len cap := by
  rcases h with ⟨rfl, rfl, rfl, rfl⟩ | ⟨x, rfl, h1, h2, hz, hc, hw⟩
  · exact ⟨Nat.le_refl _, by omega, fun h => absurd h (by omega)⟩
  · refine ⟨h1, hn, fun hp => ?_⟩
    obtain ⟨b, off, spot⟩ := x
    have h0 := hc 0 (by omega)
    have hspot : spot = none := by simpa [Addr.add] using World.cell?_spot h0
    subst hspot
    have hb := World.block_lt_of_cell? w _ h0
    refine ⟨b, off, rfl, by simpa [Addr.add] using hb, fun i hi => ?_⟩
    have h3 := hc i (by omega)
    rw [Addr.add_lit] at h3
    have hil : i < zs.length := by omega
    have hm := hw _ (List.getElem_mem hil)
    have e : zs.getD i 0 = zs[i] := by simp [List.getD, List.getElem?_eq_getElem hil]
    have hm2 := bounds_u8 hm
    exact ⟨zs.getD i 0, by omega, by omega, h3⟩

/-- The cursor lies in block g; its bytes lie below D. -/
def Cur (w : World) (g D : Nat) : Prop := ∃ ao n cap i, ∃ h : Int, Blk w g 90 #[.slice ao n cap, .int .i64 (i : Nat), .int .i64 h] ∧ BSl w D ao n cap ∧ D ≤ g ∧ i ≤ n
/-- Only block g has turned, and there are new ones. -/
abbrev Only (w w' : World) (g : Nat) : Prop := w.grownBy w' (some g)
theorem only_trans {w w1 w2 : World} {g : Nat} (h : Only w w1 g) (k : Only w1 w2 g) : Only w w2 g :=
  ⟨k.os.trans h.os, k.tape.trans h.tape, k.output.trans h.output, Nat.le_trans h.size k.size, fun i hi hne => (k.block i (Nat.lt_of_lt_of_le hi h.size) hne).trans (h.block i hi hne)⟩
theorem only_below {w w' : World} {g B : Nat} (h : Only w w' g) (hB : B ≤ g) (hw : B ≤ w.heap.size) : Below B w w' :=
  ⟨h.os, h.tape, h.output, h.size, fun k hk => h.block k (by omega) (fun e => by injection e with e; omega)⟩
theorem below_only {w w' : World} {g : Nat} (h : Below w.heap.size w w') : Only w w' g := ⟨h.os, h.tape, h.output, h.size, fun k hk _ => h.block k hk⟩
theorem only_set (w : World) (g i : Nat) (u : Value) : Only w (w.setCell ⟨g, i, none⟩ u) g :=
  ⟨rfl, rfl, rfl, by simp [World.setCell], fun k _ hne => Below.heap_setCell w ⟨g, i, none⟩ u k (fun e => hne (by subst e; rfl))⟩
theorem only_drewN (w : World) (n g : Nat) : Only w (w.drewN n) g := ⟨rfl, rfl, rfl, Nat.le_refl _, fun _ _ _ => rfl⟩
theorem only_drew (w : World) (g : Nat) : Only w w.drew g := ⟨rfl, rfl, rfl, Nat.le_refl _, fun _ _ _ => rfl⟩

/-- An int within bounds; the cursor is one still. -/
def RetCur (g D : Nat) (lo hi : Int) (w : World) (e : Ending) (w' : World) : Prop := ∃ x : Int, lo ≤ x ∧ x ≤ hi ∧ e = .returned (.int .i64 x) ∧ Cur w' g D ∧ Only w w' g

theorem cur_end {w w1 : World} {g D n cap i : Nat} {ao : Option Addr} {H : Int} (o1 : Only w w1 g) (hb : Blk w1 g 90 #[.slice ao n cap, .int .i64 (i : Nat), .int .i64 H]) (hs : BSl w1 D ao n cap) (hD : D ≤ g) (hi : i < n) (k : Nat) :
    Cur ((w1.drewN k).setCell ⟨g, 1, none⟩ (.int .i64 ((i : Int) + 1))) g D ∧ Only w ((w1.drewN k).setCell ⟨g, 1, none⟩ (.int .i64 ((i : Int) + 1))) g := by
  have o2 := only_trans (only_drewN w1 k g) (only_set _ g 1 (.int .i64 ((i : Int) + 1)))
  have hb1 := (hb.drewN k).set_ 1 (.int .i64 ((i : Int) + 1))
  simp at hb1
  exact ⟨⟨ao, n, cap, i + 1, H, by rw [Int.natCast_add]; exact hb1, hs.keep (only_below o2 hD (by have := hb.lt; omega)), hD, hi⟩, only_trans o1 o2⟩
theorem cur_drawn {w w1 : World} {g D n cap i : Nat} {ao : Option Addr} {H : Int} (o1 : Only w w1 g) (hb : Blk w1 g 90 #[.slice ao n cap, .int .i64 (i : Nat), .int .i64 H]) (hs : BSl w1 D ao n cap) (hD : D ≤ g) (hi : i ≤ n) (k : Nat) :
    Cur (w1.drewN k) g D ∧ Only w (w1.drewN k) g :=
  ⟨⟨ao, n, cap, i, H, hb.drewN k, hs.keep (drewN_below D w1 k), hD, hi⟩, only_trans o1 (only_drewN w1 k g)⟩
set_option maxHeartbeats 800000 in
theorem byte_any (g D : Nat) (w : World) (hc : Cur w g D) :
    Calls Try.prog 82 #[.pointer (some ⟨g, 0, none⟩)] w (RetCur g D 0 255 w) := by
  obtain ⟨ao, n, cap, i, h, hb, hs, hD, hi⟩ := hc
  have c2 := hb.cell 2
  have f2 := hb.frozen 2
  simp at c2
  go_enter Try.func82, Try.ntmps82
  go_wp2_with fail
  go_quiet (fail)
  go_wp2_with fail
  clear c2 f2
  generalize wrap64 (wrap64 (h * 6364136223846793005) + 1442695040888963407) = H
  have hx := and_mask (bits .xor .i64 (H / 8589934592) (H / 35184372088832)) 255 (by omega)
  rw [show ((255 : Nat) : Int) = 255 from rfl] at hx
  generalize bits .and .i64 (bits .xor .i64 (H / 8589934592) (H / 35184372088832)) 255 = X at hx ⊢
  have hb1 := (hb.set_ 2 (.int .i64 H)).drewN nq
  simp at hb1
  have o1 := only_trans (only_set w g 2 (.int .i64 H)) (only_drewN _ nq g)
  have k1 := only_below o1 hD (by have := hb.lt; omega)
  generalize (w.setCell ⟨g, 2, none⟩ (.int .i64 H)).drewN nq = w1 at hb1 o1 k1 ⊢
  have hs1 := hs.keep k1
  clear hb hs k1
  have c0 := hb1.cell 0
  have c1 := hb1.cell 1
  have f1 := hb1.frozen 1
  simp at c0 c1
  by_cases hlt : i < n
  · obtain ⟨b, off, rfl, hbD, hcs⟩ := hs1.2.2 (by omega)
    obtain ⟨y, hy0, hy1, hcy⟩ := hcs i hlt
    have HS := Lib.hid hs1
    have hn20 := hs1.2.1
    clear hcs hs1
    have e1 : (0 : Int) ≤ (i : Int) := by omega
    have e2 : (i : Int) < (n : Int) := by omega
    have e3 : IntKind.i64.wrap (X + y) = X + y := IntWalk.i64_in _ (by omega)
    go_quiet (fail)
    go_wp2_with fail
    go_quiet (fail)
    go_wp2_with fail
    go_ret
    have hy := and_mask (X + y) 255 (by omega)
    rw [show ((255 : Nat) : Int) = 255 from rfl] at hy
    obtain ⟨r1, r2⟩ := cur_end o1 hb1 HS.out hD hlt (_)
    exact ⟨_, hy.1, hy.2, rfl, r1, r2⟩
  · have HS := Lib.hid hs1
    clear hs1
    go_quiet (fail)
    go_wp2_with fail
    go_ret
    obtain ⟨r1, r2⟩ := cur_drawn o1 hb1 HS.out hD hi (_)
    exact ⟨_, hx.1, hx.2, rfl, r1, r2⟩

set_option maxHeartbeats 1600000 in
theorem below_any (g D : Nat) (n : Int) (w : World) (hc : Cur w g D) (h1 : 1 ≤ n) (h2 : n ≤ 4294967296) :
    Calls Try.prog 54 #[.pointer (some ⟨g, 0, none⟩), .int .i64 n] w (RetCur g D 0 (n - 1) w) := by
  by_cases hs : n ≤ 256
  · go_enter Try.func54, Try.ntmps54
    go_wp2_with fail
    refine (byte_any g D _ hc).mono ?_
    rintro e w1 ⟨x, hx0, hx1, rfl, k1, o1⟩
    have hm0 := Int.emod_nonneg x (show n ≠ 0 by omega)
    have hm1 := Int.emod_lt_of_pos x (show 0 < n by omega)
    go_wp2_with fail
    go_ret
    exact ⟨x % n, hm0, by omega, rfl, k1, o1⟩
  · go_enter Try.func54, Try.ntmps54
    go_wp2_with fail
    refine (byte_any g D _ hc).mono ?_
    rintro e w1 ⟨x, hx0, hx1, rfl, k1, o1⟩
    go_wp2_with fail
    refine (byte_any g D _ k1).mono ?_
    rintro e w2 ⟨y, hy0, hy1, rfl, k2, o2⟩
    go_wp2_with fail
    refine (byte_any g D _ k2).mono ?_
    rintro e w3 ⟨z, hz0, hz1, rfl, k3, o3⟩
    go_wp2_with fail
    refine (byte_any g D _ k3).mono ?_
    rintro e w4 ⟨u, hu0, hu1, rfl, k4, o4⟩
    have hm0 := Int.emod_nonneg (x * 16777216 + y * 65536 + z * 256 + u) (show n ≠ 0 by omega)
    have hm1 := Int.emod_lt_of_pos (x * 16777216 + y * 65536 + z * 256 + u) (show 0 < n by omega)
    go_wp2_with fail
    go_ret
    exact ⟨_, hm0, by omega, rfl, k4, only_trans (only_trans (only_trans o1 o2) o3) o4⟩

/-- One of the numbers of a list. -/
def RetCurIn (g D : Nat) (xs : List Int) (w : World) (e : Ending) (w' : World) : Prop := ∃ x : Int, x ∈ xs ∧ e = .returned (.int .i64 x) ∧ Cur w' g D ∧ Only w w' g
set_option maxHeartbeats 800000 in
theorem pick_any (g D b n cap : Nat) (xs : List Int) (w : World) (hc : Cur w g D) (hl : xs.length = n) (hn : 1 ≤ n ∧ n ≤ 256) (hb : b ≠ g) (hlt : b < w.heap.size) (hcs : ∀ i, i < n → w.cell? ⟨b, i, none⟩ = some (.int .i64 (xs.getD i 0))) :
    Calls Try.prog 66 #[.pointer (some ⟨g, 0, none⟩), .slice (some ⟨b, 0, none⟩) n cap] w (RetCurIn g D xs w) := by
  have HL := Lib.hid hl
  have HC := Lib.hid hcs
  clear hl hcs
  go_enter Try.func66, Try.ntmps66
  go_wp2_with fail
  refine (below_any g D (n : Int) _ hc (by omega) (by omega)).mono ?_
  rintro e w1 ⟨x, hx0, hx1, rfl, k1, o1⟩
  obtain ⟨k, rfl⟩ := Int.eq_ofNat_of_zero_le hx0
  have hk : k < n := by omega
  have hcx := (World.cell?_of_block (a := ⟨b, k, none⟩) (o1.block b hlt (fun e => by injection e with e; exact hb e))).trans (HC.out k hk)
  have HM : Hid (xs.getD k 0 ∈ xs) := by show _ ∈ _; rw [getD_at xs k (by rw [HL.out]; exact hk)]; exact List.getElem_mem _
  generalize xs.getD k 0 = x at hcx HM
  go_wp2_with fail
  go_ret
  exact ⟨x, HM.out, rfl, k1, o1⟩
/-- A new cursor. -/
def RetNew (w : World) (D : Nat) (e : Ending) (w' : World) : Prop := e = .returned (.pointer (some ⟨w.heap.size, 0, none⟩)) ∧ Cur w' w.heap.size D ∧ Below w.heap.size w w'
set_option maxHeartbeats 800000 in
theorem cur_new (ao : Option Addr) (n cap D : Nat) (w : World) (h : BSl w D ao n cap) (hD : D ≤ w.heap.size) :
    Calls Try.prog 51 #[.slice ao n cap] w (RetNew w D) := by
  have hn20 := h.2.1
  go_enter Try.func51, Try.ntmps51
  go_wp2_with fail
  go_loop [3, 4] (fun h i => ∃ (k : Nat) (H : Int), k ≤ n ∧ i = .int .i64 k ∧ h = .int .i64 H ∧ 0 ≤ H ∧ H ≤ 1073741824) (fun _ i => n - (intOf i).toNat)
  case atStart => exact ⟨0, _, Nat.zero_le _, rfl, rfl, by omega, by omega⟩
  case round =>
    obtain ⟨k, H, hk, rfl, rfl, hH0, hH1⟩ := hrel
    by_cases hlt : k < n
    · by_cases h4 : k < 4000
      · obtain ⟨b, off, rfl, hbD, hcs⟩ := h.2.2 (by omega)
        obtain ⟨y, hy0, hy1, hcy⟩ := hcs k hlt
        have hm := and_mask (H * 1103 + y + 7) 1073741823 (by omega)
        rw [show ((1073741823 : Nat) : Int) = 1073741823 from rfl] at hm
        clear hcs
        have h4' : (k : Int) < 4000 := by omega
        go_wp2_with fail
        go_round
        case rel => exact ⟨k + 1, _, by omega, by go_num, rfl, hm.1, by omega⟩
        case measure => simp [intOf]; omega
      · have h4' : ¬ (k : Int) < 4000 := by omega
        go_wp2_with fail
        go_ret
        exact ⟨rfl, ⟨ao, n, cap, 0, H, Blk.new _ _ _, h.keep ((box_below w _).mono hD), hD, Nat.zero_le _⟩, box_below w _⟩
    · go_wp2_with fail
      go_ret
      exact ⟨rfl, ⟨ao, n, cap, 0, H, Blk.new _ _ _, h.keep ((box_below w _).mono hD), hD, Nat.zero_le _⟩, box_below w _⟩

/-- A byte of the code, or a number that follows from it. -/
def RetAt (w : World) (e : Ending) (w' : World) : Prop := ∃ x : Int, 0 ≤ x ∧ x ≤ 255 ∧ e = .returned (.int .i64 x) ∧ w = w'
set_option maxHeartbeats 400000 in
theorem at_any (ao : Option Addr) (n cap D : Nat) (i : Nat) (w : World) (h : BSl w D ao n cap) (hi : i ≤ 1000) :
    Calls Try.prog 16 #[.slice ao n cap, .int .i64 i] w (RetAt w) := by
  have hn20 := h.2.1
  by_cases hlt : i < n
  · obtain ⟨b, off, rfl, hbD, hcs⟩ := h.2.2 (by omega)
    obtain ⟨y, hy0, hy1, hcy⟩ := hcs i hlt
    clear hcs
    go_enter Try.func16, Try.ntmps16
    go_wp2_with fail
    go_ret
    exact ⟨y, hy0, hy1, rfl, rfl⟩
  · have hm0 := Int.emod_nonneg ((i : Int) * 37 + (n : Int) * 11) (show (256 : Int) ≠ 0 by omega)
    have hm1 := Int.emod_lt_of_pos ((i : Int) * 37 + (n : Int) * 11) (show (0 : Int) < 256 by omega)
    go_enter Try.func16, Try.ntmps16
    go_wp2_with fail
    go_ret
    exact ⟨_, hm0, by omega, rfl, rfl⟩
end Go.Proofs.Ytmgjbldnohkodaa
