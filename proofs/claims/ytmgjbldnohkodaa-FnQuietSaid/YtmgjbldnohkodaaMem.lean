/- Words on memory: a slice of ints that reads as a list ('Sl'), a row of the call's own ('Own'), and what keeps them. Nothing is proved of the program here. -/
import Derived.Test.YtmgjbldnohkodaaRows
import Derived.WalkKit
import Derived.WalkLawsBesides
import Derived.WalkSpells
import Derived.BigQuiet
import Derived.Deep.QuietTactic
import Derived.Lib.Hide
import Derived.Deep.Draws
import Derived.OpenShut
import Derived.Maps.AppendAt
namespace Go.Proofs.Ytmgjbldnohkodaa
open Go.RowKit

/-- The ints of a list, as values. -/
def Ints (xs : List Int) : List Value := xs.map (Value.int .i64)
theorem Ints_length (xs : List Int) : (Ints xs).length = xs.length := by simp [Ints]
theorem Ints_get (xs : List Int) (k : Nat) (h : k < xs.length) : (Ints xs)[k]? = some (.int .i64 (xs.getD k 0)) := by
  simp [Ints, List.getD, List.getElem?_eq_getElem h]
theorem Ints_append (xs ys : List Int) : Ints (xs ++ ys) = Ints xs ++ Ints ys := by simp [Ints]
theorem Ints_one (xs : List Int) : ∀ u ∈ Ints xs, u.oneCell' = true := ints_oneCell _ _
theorem Ints_set (xs : List Int) (k : Nat) (x : Int) : (Ints xs).set k (.int .i64 x) = Ints (xs.set k x) := by
  unfold Ints; rw [List.map_set]

/-- The slice value reads as the list; it lies below block C; its length is at most 2^20. -/
def Sl (w : World) (C : Nat) (ao : Option Addr) (n cap : Nat) (xs : List Int) : Prop :=
  xs.length = n ∧ n ≤ cap ∧ n ≤ 1048576 ∧
  (0 < n → ∃ b off, ao = some ⟨b, off, none⟩ ∧ b < C ∧ ∀ i, i < n → w.cell? ⟨b, off + i, none⟩ = some (.int .i64 (xs.getD i 0)))

/-- A row of the call's own, in a block from B on and below C. -/
def Own (w : World) (B C : Nat) (ao : Option Addr) (n cap : Nat) (xs : List Int) : Prop :=
  w.ownsRow B 3 1 (.slice ao n cap) n (Ints xs) ∧ ∀ a, ao = some a → a.block < C

theorem below_grownBy {C : Nat} {w w' : World} (hk : Below C w w') (hC : w.heap.size ≤ C) : w.grownBy w' none := ⟨hk.os, hk.tape, hk.output, hk.size, fun k hlt _ => hk.block k (by omega)⟩
theorem below_drewN {B : Nat} {a w : World} (h : Below B a w) (n : Nat) : Below B a (w.drewN n) := ⟨h.os, h.tape, h.output, h.size, h.block⟩
theorem drewN_below (B : Nat) (w : World) (n : Nat) : Below B w (w.drewN n) := ⟨rfl, rfl, rfl, Nat.le_refl _, fun _ _ => rfl⟩

section
variable {w w' : World} {B C n cap : Nat} {ao : Option Addr} {xs : List Int}
theorem Sl.nil : Sl w C none 0 0 [] := ⟨rfl, Nat.le_refl _, by omega, fun h => absurd h (by omega)⟩
theorem Sl.len (h : Sl w C ao n cap xs) : xs.length = n := h.1
theorem Sl.at_ (h : Sl w C ao n cap xs) (hn : 0 < n) : ∃ b off, ao = some ⟨b, off, none⟩ ∧ b < C ∧ ∀ i, i < n → w.cell? ⟨b, off + i, none⟩ = some (.int .i64 (xs.getD i 0)) := h.2.2.2 hn
theorem Sl.keep (h : Sl w C ao n cap xs) (hk : Below C w w') : Sl w' C ao n cap xs :=
  ⟨h.1, h.2.1, h.2.2.1, fun hn => by
    obtain ⟨b, off, e, hb, hc⟩ := h.2.2.2 hn
    exact ⟨b, off, e, hb, fun i hi => (hk.cell (p := ⟨b, off + i, none⟩) hb).trans (hc i hi)⟩⟩
theorem Sl.more {C' : Nat} (h : Sl w C ao n cap xs) (hC : C ≤ C') : Sl w C' ao n cap xs :=
  ⟨h.1, h.2.1, h.2.2.1, fun hn => by
    obtain ⟨b, off, e, hb, hc⟩ := h.2.2.2 hn
    exact ⟨b, off, e, by omega, hc⟩⟩
/-- Kept behind a write to block g, where it lies below g. -/
theorem Sl.far {g : Nat} (h : Sl w C ao n cap xs) (hg : w.grownBy w' (some g)) (hC : C ≤ g) (hw : C ≤ w.heap.size) : Sl w' C ao n cap xs :=
  h.keep ⟨hg.os, hg.tape, hg.output, hg.size, fun k hk => hg.block k (by omega) (fun e => by injection e with e; omega)⟩

theorem Own.len (h : Own w B C ao n cap xs) : xs.length = n := by have := h.1.1; rw [Ints_length] at this; omega
theorem Own.form (h : Own w B C ao n cap xs) : (ao = none ∧ n = 0 ∧ cap = 0 ∧ xs = []) ∨ ∃ g, ao = some ⟨g, 0, none⟩ ∧ B ≤ g ∧ g < C ∧ g < w.heap.size ∧ n ≤ cap ∧ cap ≤ maxLen := by
  have hl := h.len
  obtain ⟨h1, hC⟩ := h
  rcases h1.2 with ⟨hv, hn⟩ | ⟨g, c, cur, hv, hb, hg, hnc, hcm, _⟩
  · injection hv with h1 h2 h3
    subst h1 h2 h3
    exact .inl ⟨rfl, rfl, rfl, List.eq_nil_of_length_eq_zero hl⟩
  · injection hv with h1 h2 h3
    subst h1 h3
    exact .inr ⟨g, rfl, hb, hC _ rfl, (Array.getElem?_eq_some_iff.1 hg).1, hnc, hcm⟩
theorem Own.cellsAt {g : Nat} (h : Own w B C (some ⟨g, 0, none⟩) n cap xs) (i : Nat) (hi : i < n) : w.cell? ⟨g, i, none⟩ = some (.int .i64 (xs.getD i 0)) := by
  have h1 := World.ownsRow.cellAt h.1 i (by omega)
  rw [h1, Ints_get xs i (by rw [h.len]; exact hi)]
theorem Own.free {g : Nat} (h : Own w B C (some ⟨g, 0, none⟩) n cap xs) (i : Nat) : w.frozen? ⟨g, i, none⟩ = false := World.ownsRow.frozenAt h.1 i
theorem Own.sl (h : Own w B C ao n cap xs) (hn : n ≤ 1048576) : Sl w C ao n cap xs := by
  rcases h.form with ⟨rfl, rfl, rfl, rfl⟩ | ⟨g, rfl, _, hC, hg, hc, _⟩
  · exact Sl.nil
  · exact ⟨h.len, hc, hn, fun _ => ⟨g, 0, rfl, hC, fun i hi => by rw [Nat.zero_add]; exact h.cellsAt i hi⟩⟩
theorem Own.keptBy {row : Option Nat} (h : Own w B C ao n cap xs) (hg : w.grownBy w' row) (hr : ∀ g, row = some g → g < B ∨ C ≤ g) : Own w' B C ao n cap xs := by
  have h0 := h
  obtain ⟨h1, hC⟩ := h
  refine ⟨World.ownsRow.kept h1 hg ?_, hC⟩
  rcases h0.form with ⟨rfl, _⟩ | ⟨g, rfl, hB, hlt, _⟩
  · exact .inl rfl
  · refine .inr (fun e => ?_)
    have := hr g (by rw [← e]; rfl)
    omega
theorem Own.keep {D : Nat} (h : Own w B C ao n cap xs) (hk : Below D w w') (hD : C ≤ D) : Own w' B C ao n cap xs := by
  obtain ⟨h1, hC⟩ := h
  refine ⟨⟨h1.1, ?_⟩, hC⟩
  rcases h1.2 with h2 | ⟨g, c, cur, hv, hb, hg, r⟩
  · exact .inl h2
  · have hgC : g < C := by
      injection hv with e1 e2 e3
      exact hC ⟨g, 0, none⟩ e1
    exact .inr ⟨g, c, cur, hv, hb, by rw [hk.block g (by omega)]; exact hg, r⟩
theorem Own.wide {B' C' : Nat} (h : Own w B C ao n cap xs) (hB : B' ≤ B) (hC : C ≤ C') : Own w B' C' ao n cap xs := by
  obtain ⟨h1, h2⟩ := h
  refine ⟨⟨h1.1, ?_⟩, fun a e => Nat.lt_of_lt_of_le (h2 a e) hC⟩
  rcases h1.2 with h2 | ⟨g, c, cur, hv, hb, r⟩
  · exact .inl h2
  · exact .inr ⟨g, c, cur, hv, by omega, r⟩
theorem Own.nil : Own w B C none 0 0 [] := ⟨⟨by simp [Ints], .inl ⟨rfl, rfl⟩⟩, fun _ e => by cases e⟩
theorem Own.set {g : Nat} (h : Own w B C (some ⟨g, 0, none⟩) n cap xs) (i : Nat) (x : Int) :
    Own (w.setCell ⟨g, i, none⟩ (.int .i64 x)) B C (some ⟨g, 0, none⟩) n cap (xs.set i x) ∧ w.grownBy (w.setCell ⟨g, i, none⟩ (.int .i64 x)) (some g) := by
  have h1 := World.ownsRow.stored h.1 i (.int .i64 x)
  rw [Ints_set] at h1
  exact ⟨⟨h1.1, h.2⟩, h1.2⟩
theorem Own.drew (h : Own w B C ao n cap xs) : Own w.drew B C ao n cap xs := h
theorem Own.drewN (h : Own w B C ao n cap xs) (k : Nat) : Own (w.drewN k) B C ao n cap xs := h
theorem Sl.drew (h : Sl w C ao n cap xs) : Sl w.drew C ao n cap xs := h
theorem Sl.drewN (h : Sl w C ao n cap xs) (k : Nat) : Sl (w.drewN k) C ao n cap xs := h
/-- A row that an append or a make has left. -/
theorem Own.of (h : w.ownsRow B 3 1 (.slice ao n cap) n (Ints xs)) : Own w B w.heap.size ao n cap xs :=
  ⟨h, fun a e => by subst e; exact (h.lt a.block rfl).2⟩
end

/-- An int fits its 64 bits. -/
def Wf (x : Int) : Prop := -9223372036854775808 ≤ x ∧ x ≤ 9223372036854775807
theorem wf_bounds {x : Int} (h : (Lit.int .i64 x).wf = true) : Wf x := by
  exact bounds_i64 h
/-- What the walk is told of a slice of integers that came in. -/
def IsRow (k : IntKind) (w : World) (a : Option Addr) (len cap : Nat) (zs : List Int) : Prop :=
  (a = none ∧ len = 0 ∧ cap = 0 ∧ zs = []) ∨
  ∃ x, a = some x ∧ len ≤ cap ∧ cap ≤ maxLen ∧ zs.length = cap ∧ (∀ i, i < zs.length → w.cell? (x.add i) = some (.int k (zs.getD i 0))) ∧ ∀ n ∈ zs, (Lit.int k n).wf = true
theorem IsRow.le {k : IntKind} {w : World} {a : Option Addr} {len cap : Nat} {zs : List Int} (h : IsRow k w a len cap zs) : len ≤ 9223372036854775807 := by
  rcases h with ⟨_, rfl, _⟩ | ⟨_, _, h1, h2, _⟩
  · omega
  · unfold maxLen at h2; omega
theorem IsRow.sl {w : World} {a : Option Addr} {len cap : Nat} {zs : List Int} (h : IsRow .i64 w a len cap zs) (hn : len ≤ 1048576) : Sl w w.heap.size a len cap (zs.take len) := by
  rcases h with ⟨rfl, rfl, rfl, rfl⟩ | ⟨x, rfl, h1, h2, hz, hc, _⟩
  · exact Sl.nil
  · refine ⟨by rw [List.length_take]; omega, h1, hn, fun hp => ?_⟩
    obtain ⟨b, off, spot⟩ := x
    have h0 := hc 0 (by omega)
    have hspot : spot = none := by simpa [Addr.add] using World.cell?_spot h0
    subst hspot
    have hb := World.block_lt_of_cell? w _ h0
    refine ⟨b, off, rfl, by simpa [Addr.add] using hb, fun i hi => ?_⟩
    have h3 := hc i (by omega)
    rw [Addr.add_lit] at h3
    rw [h3]
    simp [List.getD, hi]

/-- What a function hands back that returns one slice in memory of its own. -/
def RetOwn (w : World) (ys : List Int) (e : Ending) (w' : World) : Prop :=
  ∃ ao n cap, e = .returned (.slice ao n cap) ∧ Own w' w.heap.size w'.heap.size ao n cap ys ∧ Below w.heap.size w w'
/-- .. of a known length. -/
def RetN (w : World) (n : Nat) (ys : List Int) (e : Ending) (w' : World) : Prop :=
  ∃ ao cap, e = .returned (.slice ao n cap) ∧ Own w' w.heap.size w'.heap.size ao n cap ys ∧ Below w.heap.size w w'
/-- .. a slice and a bool. -/
def RetOwnB (w : World) (ys : List Int) (b : Bool) (e : Ending) (w' : World) : Prop :=
  ∃ ao n cap, e = .returned (.tuple #[.slice ao n cap, .bool b]) ∧ Own w' w.heap.size w'.heap.size ao n cap ys ∧ Below w.heap.size w w'

theorem int_info : (Try.prog.info? 3).map (fun i => (i.zero, i.size, i.bytes)) = some (some (.int .i64 0), 1, 8) := by kernel_rfl
theorem made_zero (n : Nat) : (madeCells #[Value.int .i64 0] n).toList = Ints (List.replicate n 0) := by
  apply List.ext_getElem?
  intro i
  simp only [madeCells, Ints, List.getElem?_replicate, Array.toList_map, Array.toList_range, List.getElem?_map, List.map_replicate]
  by_cases h : i < n
  · rw [if_pos h, List.getElem?_range h]; simp [Nat.mod_one]
  · rw [if_neg h, List.getElem?_eq_none (by simpa using h)]; rfl
theorem pad_at (xs : List Int) (n k : Nat) (h : xs.length = n) (hk : k < n) : (xs.take k ++ List.replicate (n - k) 0).set k (xs.getD k 0) = xs.take (k + 1) ++ List.replicate (n - (k + 1)) 0 := by
  have hl : k < xs.length := by omega
  have h1 : (xs.take k).length = k := by rw [List.length_take]; omega
  rw [List.set_append_right _ _ (by omega), h1, Nat.sub_self]
  have h2 : n - k = (n - (k + 1)) + 1 := by omega
  have h3 : xs.getD k 0 = xs[k] := by simp [List.getD, List.getElem?_eq_getElem hl]
  rw [h2, List.replicate_succ, List.set_cons_zero, List.take_succ_eq_append_getElem hl, List.append_assoc, h3]
  rfl
/-- k, k + 1 and so on, n numbers. -/
def seqFrom (k : Int) (n : Nat) : List Int := (List.range n).map (fun (i : Nat) => k + (i : Int))
theorem seqFrom_length (k : Int) (n : Nat) : (seqFrom k n).length = n := by simp [seqFrom]
theorem seqFrom_at (k : Int) (n i : Nat) (h : i < n) : (seqFrom k n).getD i 0 = k + (i : Int) := by
  simp [seqFrom, List.getD, List.getElem?_map, List.getElem?_range h]
theorem mark_at (xs : List Int) (a : Int) (n k : Nat) (h : xs.length = n) (hk : k < n) : (seqFrom a k ++ xs.drop k).set k (a + (k : Int)) = seqFrom a (k + 1) ++ xs.drop (k + 1) := by
  have h1 : (seqFrom a k).length = k := seqFrom_length a k
  rw [List.set_append_right _ _ (by omega), h1, Nat.sub_self]
  have h2 : xs.drop k = xs[k]'(by omega) :: xs.drop (k + 1) := List.drop_eq_getElem_cons (by omega)
  rw [h2, List.set_cons_zero]
  unfold seqFrom
  rw [List.range_succ, List.map_append, List.append_assoc]
  rfl
end Go.Proofs.Ytmgjbldnohkodaa
