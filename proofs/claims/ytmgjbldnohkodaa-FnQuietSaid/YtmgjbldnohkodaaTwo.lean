/- Functions that return two or three slices in memory of their own: the slices lie in different blocks. -/
import Derived.Test.YtmgjbldnohkodaaApp
namespace Go.Proofs.Ytmgjbldnohkodaa
open Go.RowKit

section
variable {w w' : World} {B C B1 C1 B2 C2 n cap m d : Nat} {ao bo : Option Addr} {xs ys : List Int}
/-- Two slices do not lie in one block. -/
def Apart (ao bo : Option Addr) : Prop := ∀ a b, ao = some a → bo = some b → a.block ≠ b.block
theorem Apart.symm (h : Apart ao bo) : Apart bo ao := fun a b h1 h2 => Ne.symm (h b a h2 h1)
theorem Apart.none_l : Apart none bo := fun a b h => by cases h
theorem Apart.none_r : Apart ao none := fun a b _ h => by cases h
theorem Apart.of (h : ao = some ⟨m, 0, none⟩) (h' : bo = some ⟨n, 0, none⟩) (hne : m ≠ n) : Apart ao bo := fun a b h1 h2 => by
  rw [h] at h1; rw [h'] at h2
  injection h1 with h1; injection h2 with h2
  subst h1 h2
  exact hne
theorem MarkW.ownApart (mk : MarkW B C w w') (h : Own w B2 C2 ao n cap xs) (hD : C ≤ B2 ∨ C2 ≤ B) : Own w' B2 C2 ao n cap xs := by
  rcases hD with h1 | h1
  · exact mk.ownHigh h h1
  · exact mk.ownLow h h1
/-- The narrowest bounds of a row: its block, or none. -/
def pinB (ao : Option Addr) (B : Nat) : Nat := match ao with
  | none => B
  | some a => a.block
def pinC (ao : Option Addr) (B : Nat) : Nat := match ao with
  | none => B
  | some a => a.block + 1
theorem Own.pin (h : Own w B C ao n cap xs) (hBC : B ≤ C) : Own w (pinB ao B) (pinC ao B) ao n cap xs ∧ B ≤ pinB ao B ∧ pinB ao B ≤ pinC ao B ∧ pinC ao B ≤ C := by
  rcases h.form with ⟨rfl, rfl, rfl, rfl⟩ | ⟨g, rfl, hB, hC, hg, hnc, hcm⟩
  · exact ⟨Own.nil, Nat.le_refl _, Nat.le_refl _, hBC⟩
  · refine ⟨?_, hB, Nat.le_succ _, hC⟩
    obtain ⟨h1, h2⟩ := h
    refine ⟨⟨h1.1, ?_⟩, fun a e => by injection e with e; subst e; exact Nat.lt_succ_self _⟩
    rcases h1.2 with h3 | ⟨g', c, cur, hv, hb, r⟩
    · exact .inl h3
    · have e1 : g' = g := by
        have e2 := hv
        injection e2 with e2
        injection e2 with e2
        injection e2 with e2
        exact e2.symm
      subst e1
      exact .inr ⟨g', c, cur, hv, Nat.le_refl _, r⟩
theorem Own.at_ {g : Nat} (h : Own w B C (some ⟨g, 0, none⟩) n cap xs) : B ≤ g ∧ g < w.heap.size ∧ g < C := by
  rcases h.form with ⟨h, _⟩ | ⟨g', h, hB, hC, hg, _⟩
  · cases h
  · injection h with h
    injection h with h
    subst h
    exact ⟨hB, hg, hC⟩
theorem grew_ne {g g' g1 : Nat} (hg : Grew w w' (some ⟨g, 0, none⟩) g1) (hne : g ≠ g') (hlt : g' < w.heap.size) : g1 ≠ g' := by
  rcases hg.lies with ⟨a, h, h2⟩ | h
  · injection h with h
    subst h
    simp at h2
    omega
  · omega
theorem apart_of {g g' : Nat} (hne : g ≠ g') : ∀ a b : Addr, some (⟨g, 0, none⟩ : Addr) = some a → some (⟨g', 0, none⟩ : Addr) = some b → a.block ≠ b.block := fun a b h1 h2 => by
  injection h1 with h1; injection h2 with h2
  subst h1 h2
  exact hne
theorem pin_apart (h1 : Own w B C ao n cap xs) (h2 : Own w B C bo m d ys) (hne : Apart ao bo) : pinC ao B ≤ pinB bo B ∨ pinC bo B ≤ pinB ao B := by
  rcases h1.form with ⟨rfl, _⟩ | ⟨g, rfl, hB, _⟩
  · left
    rcases h2.form with ⟨rfl, _⟩ | ⟨g', rfl, hB', _⟩
    · exact Nat.le_refl _
    · exact hB'
  · rcases h2.form with ⟨rfl, _⟩ | ⟨g', rfl, hB', _⟩
    · right; exact hB
    · have := hne _ _ rfl rfl
      show g + 1 ≤ g' ∨ g' + 1 ≤ g
      simp at this
      omega
end
/-- Two slices and a bool. -/
def RetOwn2B (w : World) (ys zs : List Int) (b : Bool) (e : Ending) (w' : World) : Prop :=
  ∃ ao n cap bo m d, e = .returned (.tuple #[.slice ao n cap, .slice bo m d, .bool b]) ∧ Own w' w.heap.size w'.heap.size ao n cap ys ∧ Own w' w.heap.size w'.heap.size bo m d zs ∧ Apart ao bo ∧ Below w.heap.size w w'
/-- Three slices and a bool. -/
def RetOwn3B (w : World) (ys zs us : List Int) (b : Bool) (e : Ending) (w' : World) : Prop :=
  ∃ ao n cap bo m d co k f, e = .returned (.tuple #[.slice ao n cap, .slice bo m d, .slice co k f, .bool b]) ∧ Own w' w.heap.size w'.heap.size ao n cap ys ∧ Own w' w.heap.size w'.heap.size bo m d zs ∧ Own w' w.heap.size w'.heap.size co k f us ∧
    Apart ao bo ∧ Apart ao co ∧ Apart bo co ∧ Below w.heap.size w w'
theorem ret2_none {w w' : World} {ys zs : List Int} {b : Bool} (hb : b = false) (hw : Below w.heap.size w w') : RetOwn2B w (seqOr b ys) (seqOr b zs) b (.returned (.tuple #[.slice none 0 0, .slice none 0 0, .bool false])) w' :=
  ⟨none, 0, 0, none, 0, 0, by rw [hb], by rw [seqOr_no hb]; exact Own.nil, by rw [seqOr_no hb]; exact Own.nil, Apart.none_l, hw⟩
theorem ret2_list {w w' : World} {g n cap g' m d : Nat} {ys zs : List Int} {b : Bool} (hb : b = true) (h1 : Own w' w.heap.size w'.heap.size (some ⟨g, 0, none⟩) n cap ys) (h2 : Own w' w.heap.size w'.heap.size (some ⟨g', 0, none⟩) m d zs) (hne : g ≠ g') (hw : Below w.heap.size w w') :
    RetOwn2B w (seqOr b ys) (seqOr b zs) b (.returned (.tuple #[.slice (some ⟨g, 0, none⟩) n cap, .slice (some ⟨g', 0, none⟩) m d, .bool true])) w' :=
  ⟨_, n, cap, _, m, d, by rw [hb], by rw [seqOr_yes hb]; exact h1, by rw [seqOr_yes hb]; exact h2, Apart.of rfl rfl hne, hw⟩
theorem ret3_none {w w' : World} {ys zs us : List Int} {b : Bool} (hb : b = false) (hw : Below w.heap.size w w') : RetOwn3B w (seqOr b ys) (seqOr b zs) (seqOr b us) b (.returned (.tuple #[.slice none 0 0, .slice none 0 0, .slice none 0 0, .bool false])) w' :=
  ⟨none, 0, 0, none, 0, 0, none, 0, 0, by rw [hb], by rw [seqOr_no hb]; exact Own.nil, by rw [seqOr_no hb]; exact Own.nil, by rw [seqOr_no hb]; exact Own.nil, Apart.none_l, Apart.none_l, Apart.none_l, hw⟩
end Go.Proofs.Ytmgjbldnohkodaa
