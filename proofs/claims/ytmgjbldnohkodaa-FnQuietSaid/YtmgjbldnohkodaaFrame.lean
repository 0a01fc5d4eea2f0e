/- What the frames of the laws share: arguments opened by their types. -/
import Derived.Test.YtmgjbldnohkodaaMem
import Derived.ProofKit
import Derived.OpenShut
import Derived.ShutString
import Derived.ChangeOld
import Derived.Carry
import Derived.Lib.SmallJoins
import Derived.JoinedOf
namespace Go.Proofs.Ytmgjbldnohkodaa
open Go.ChangeShapes Go.WideShapes Go.ChangeAt Go.RowKit

theorem own : ownKnob Try.prog.godebug = none := by kernel_rfl
theorem laidOut : laidOutB Try.prog = true := by kernel_rfl
theorem p_mapsRowed : mapsRowed Try.prog = true := by kernel_rfl
theorem p_stops : (Try.prog.stops == []) = true := by kernel_rfl
theorem p_knobs : (Try.prog.stopKnobs == []) = true := by kernel_rfl
theorem p_heard : Try.prog.stopsHeard = true := by kernel_rfl
/-- The signs of the word that opens the translation, as numbers: the kernel reads a list faster than a string. -/
def signs : List Nat := [104, 97, 114, 110, 101, 115, 115, 32, 55, 48, 100, 48, 57, 53, 54, 97, 51, 97, 54, 49, 98, 48, 98, 55, 48, 51, 57, 56, 50, 56, 55, 51, 50, 54, 100, 49, 52, 54, 102, 52, 50, 99, 50, 53, 54, 50, 51, 51, 99, 56, 51, 52, 53, 99, 101, 53, 57, 48, 98, 99, 48, 51, 98, 56, 56, 50, 99, 97, 55, 52, 54, 99, 32, 99, 117, 116, 32, 97, 116, 32, 108, 111, 111, 112, 46, 101, 120, 97, 109, 112, 108, 101, 47, 103, 48, 51, 50, 50, 56, 47, 108, 97, 119, 115, 46, 70, 110, 81, 117, 105, 101, 116, 32, 108, 111, 111, 112, 46, 101, 120, 97, 109, 112, 108, 101, 47, 103, 48, 51, 50, 50, 56, 47, 108, 97, 119, 115, 46, 70, 110, 76, 101, 118, 101, 108, 115, 32, 108, 111, 111, 112, 46, 101, 120, 97, 109, 112, 108, 101, 47, 103, 48, 51, 50, 50, 56, 47, 108, 97, 119, 115, 46, 70, 110, 80, 108, 97, 105, 110, 32, 108, 111, 111, 112, 46, 101, 120, 97, 109, 112, 108, 101, 47, 103, 48, 51, 50, 50, 56, 47, 108, 97, 119, 115, 46, 70, 110, 83, 116, 101, 112, 115, 32, 108, 111, 111, 112, 46, 101, 120, 97, 109, 112, 108, 101, 47, 103, 48, 51, 50, 50, 56, 47, 108, 97, 119, 115, 46, 70, 110, 66, 111, 117, 110, 100, 101, 100, 32, 108, 111, 111, 112, 46, 101, 120, 97, 109, 112, 108, 101, 47, 103, 48, 51, 50, 50, 56, 47, 108, 97, 119, 115, 46, 70, 110, 69, 120, 97, 99, 116, 81, 117, 105, 101, 116, 70, 114, 111, 109, 32, 108, 111, 111, 112, 46, 101, 120, 97, 109, 112, 108, 101, 47, 103, 48, 51, 50, 50, 56, 47, 108, 97, 119, 115, 46, 70, 110, 67, 117, 116, 32, 108, 111, 111, 112, 46, 101, 120, 97, 109, 112, 108, 101, 47, 103, 48, 51, 50, 50, 56, 47, 108, 97, 119, 115, 46, 70, 110, 73, 110, 112, 117, 116, 32, 108, 111, 111, 112, 46, 101, 120, 97, 109, 112, 108, 101, 47, 103, 48, 51, 50, 50, 56, 47, 108, 97, 119, 115, 46, 70, 110, 83, 99, 97, 108, 101, 100, 32, 108, 111, 111, 112, 46, 101, 120, 97, 109, 112, 108, 101, 47, 103, 48, 51, 50, 50, 56, 47, 108, 97, 119, 115, 46, 70, 110, 83, 104, 97, 112, 101, 100]
set_option maxRecDepth 100000 in
theorem io0 : Try.prog.initOrder = String.ofList (signs.map Char.ofNat) := by kernel_rfl
theorem io : Try.prog.initOrder.toList = signs.map Char.ofNat := by rw [io0, String.toList_ofList]
theorem headSigns : (behindMainWord (wordsSigns (signs.map Char.ofNat))).head? = some "cut".toList := by kernel_rfl
theorem headCut : ∃ rest, behindMainWord (wordsSigns Try.prog.initOrder.toList) = "cut".toList :: rest := by
  rw [io]
  have h := headSigns
  cases hX : behindMainWord (wordsSigns (signs.map Char.ofNat)) with
  | nil => rw [hX] at h; cases h
  | cons c rest =>
    rw [hX] at h
    injection h with h
    subst h
    exact ⟨rest, rfl⟩
section
variable {P : Program} {rest : List (List Char)}
theorem strip : stripLifts liftWords ("cut".toList :: rest) = ([], "cut".toList :: rest) := by kernel_rfl
theorem enter_of (h : behindMainWord (wordsSigns P.initOrder.toList) = "cut".toList :: rest) (h1 : P.laysLater = false) (h2 : P.bearsReflect = false) (h3 : P.doorFits [] = true) : P.mayEnter = true := by
  unfold Program.mayEnter
  rw [h]
  simp only [strip]
  simp [h1, h2, h3]
theorem head_of (h : behindMainWord (wordsSigns P.initOrder.toList) = "cut".toList :: rest) : P.headLifts = [] := by
  unfold Program.headLifts
  rw [h]
  simp only [strip]
  simp
theorem lifts_of (h : behindMainWord (wordsSigns P.initOrder.toList) = "cut".toList :: rest) : P.liftsFinal = false := by
  unfold Program.liftsFinal
  rw [h, head_of h]
  simp
theorem make_of (h : behindMainWord (wordsSigns P.initOrder.toList) = "cut".toList :: rest) : P.make = some .cut := by
  unfold Program.make
  rw [h]
  simp
end
theorem p_lays : Try.prog.laysLater = false := by kernel_rfl
theorem p_refl : Try.prog.bearsReflect = false := by kernel_rfl
theorem p_door : Try.prog.doorFits [] = true := by kernel_rfl
theorem p_enter : Try.prog.mayEnter = true := by
  obtain ⟨rest, h⟩ := headCut
  exact enter_of h p_lays p_refl p_door
theorem p_lifts : Try.prog.liftsFinal = false := by
  obtain ⟨rest, h⟩ := headCut
  exact lifts_of h
theorem p_make : Try.prog.make = some .cut := by
  obtain ⟨rest, h⟩ := headCut
  exact make_of h

section
variable {H : Type} {enc : TypeId × Value → H} {W : World} {base : Nat} {v : Value} {d : DataW H} {p : List MemPlace}
theorem opened_int (hv : Value.okWide Try.prog W .any base 3 v) (h : DataW.Trod enc Try.prog W 0 (fun _ => true) true 3 v d p) :
    ∃ x : Int, v = .int .i64 x ∧ Wf x := by
  obtain ⟨x, rfl, _, _, wx⟩ := open_int Try.underlying3 hv h
  exact ⟨x, rfl, wf_bounds wx⟩
theorem row_of {k : IntKind} {T E : TypeId} (hT : Try.prog.underlying T = some (.slice E)) (hE : Try.prog.underlying E = some (.int k)) (hC : Try.prog.cellsOf E = 1)
    {a : Option Addr} {len cap fuel : Nat} {x : DataW H × List MemPlace} (hf : DataW.trod enc Try.prog W 0 (fun _ => true) true fuel T [.slice a len cap] = some x) :
    ∃ zs, IsRow k W a len cap zs := by
  rcases open_ints hT hE hC hf with ⟨hcs, _⟩ | ⟨x, l, c, zs, hcs, _, hl, hm, hz, _, hcell, hwz⟩
  · simp at hcs
    obtain ⟨rfl, rfl, rfl⟩ := hcs
    exact ⟨[], .inl ⟨rfl, rfl, rfl, rfl⟩⟩
  · simp at hcs
    obtain ⟨rfl, rfl, rfl⟩ := hcs
    exact ⟨zs, .inr ⟨_, rfl, hl, hm, by simpa using hz, hcell, hwz⟩⟩
theorem opened_ints (hv : Value.okWide Try.prog W .any base 25 v) (h : DataW.Trod enc Try.prog W 0 (fun _ => true) true 25 v d p) :
    ∃ (a : Option Addr) (len cap : Nat) (zs : List Int), v = .slice a len cap ∧ IsRow .i64 W a len cap zs := by
  obtain ⟨a, len, cap, rfl⟩ := okWide_slice Try.underlying25 hv
  obtain ⟨fuel, hf⟩ := h
  obtain ⟨zs, hz⟩ := row_of Try.underlying25 Try.underlying3 (by kernel_rfl) (by simpa [Value.cells] using hf)
  exact ⟨a, len, cap, zs, rfl, hz⟩
theorem opened_bytes (hv : Value.okWide Try.prog W .any base 22 v) (h : DataW.Trod enc Try.prog W 0 (fun _ => true) true 22 v d p) :
    ∃ (a : Option Addr) (len cap : Nat) (zs : List Int), v = .slice a len cap ∧ IsRow .u8 W a len cap zs := by
  obtain ⟨a, len, cap, rfl⟩ := okWide_slice Try.underlying22 hv
  obtain ⟨fuel, hf⟩ := h
  obtain ⟨zs, hz⟩ := row_of Try.underlying22 Try.underlying5 (by kernel_rfl) (by simpa [Value.cells] using hf)
  exact ⟨a, len, cap, zs, rfl, hz⟩
theorem opened_q (hv : Value.okWide Try.prog W .any base 56 v) (h : DataW.Trod enc Try.prog W 0 (fun _ => true) true 56 v d p) :
    ∃ l s : Int, v = .agg #[.int .i64 l, .int .i64 s] ∧ Wf l ∧ Wf s := by
  obtain ⟨c0, c1, y0, y1, m, rfl, _, _, hy0, hy1⟩ := Go.Joins.open_agg2 Try.underlying56 (by kernel_rfl) (by kernel_rfl) hv h
  obtain ⟨l, e0, _, w0⟩ := DataW.trod_int Try.underlying3 hy0
  obtain ⟨s, e1, _, w1⟩ := DataW.trod_int Try.underlying3 hy1
  simp at e0 e1
  subst e0 e1
  exact ⟨l, s, rfl, wf_bounds w0, wf_bounds w1⟩
theorem row_any {k : IntKind} {T E : TypeId} (hT : Try.prog.underlying T = some (.slice E)) (hE : Try.prog.underlying E = some (.int k)) (hC : Try.prog.cellsOf E = 1)
    {u : Value} {fuel : Nat} {x : DataW H × List MemPlace} (hf : DataW.trod enc Try.prog W 0 (fun _ => true) true fuel T [u] = some x) :
    ∃ a len cap zs, u = .slice a len cap ∧ IsRow k W a len cap zs := by
  rcases open_ints hT hE hC hf with ⟨hcs, _⟩ | ⟨x, l, c, zs, hcs, _, hl, hm, hz, _, hcell, hwz⟩
  · simp at hcs
    subst hcs
    exact ⟨none, 0, 0, [], rfl, .inl ⟨rfl, rfl, rfl, rfl⟩⟩
  · simp at hcs
    subst hcs
    exact ⟨some x, l, c, zs, rfl, .inr ⟨_, rfl, hl, hm, by simpa using hz, hcell, hwz⟩⟩
theorem opened_m (hv : Value.okWide Try.prog W .any base 58 v) (h : DataW.Trod enc Try.prog W 0 (fun _ => true) true 58 v d p) :
    ∃ (l s : Int) (a : Option Addr) (len cap : Nat) (zs : List Int), v = .agg #[.int .i64 l, .int .i64 s, .slice a len cap] ∧ (Wf l ∧ Wf s) ∧ IsRow .i64 W a len cap zs := by
  obtain ⟨cs, rfl, hsz⟩ := okWide_struct Try.underlying58 hv
  obtain ⟨c0, c1, c2, rfl⟩ := Go.Joins.array3 (hsz.trans (by kernel_rfl))
  obtain ⟨fuel, hf⟩ := h
  obtain ⟨xs, n, _, _, _, hl, hg⟩ := DataW.trod_struct Try.underlying58 hf
  have g0 := hg 0 _ rfl
  have g1 := hg 1 _ rfl
  have kq : Try.prog.cellsOf 56 = 2 := by kernel_rfl
  have ks : Try.prog.cellsOf 25 = 1 := by kernel_rfl
  have ki : Try.prog.cellsOf 3 = 1 := by kernel_rfl
  have l0 : xs[0]? = some (xs[0]'(by rw [hl]; decide)) := List.getElem?_eq_getElem _
  have l1 : xs[1]? = some (xs[1]'(by rw [hl]; decide)) := List.getElem?_eq_getElem _
  rw [l0] at g0
  rw [l1] at g1
  simp [kq] at g0
  simp [ks] at g1
  obtain ⟨ys, m, _, _, _, hyl, hyg⟩ := DataW.trod_struct Try.underlying56 g0
  have y0 := hyg 0 _ rfl
  have y1 := hyg 1 _ rfl
  have m0 : ys[0]? = some (ys[0]'(by rw [hyl]; decide)) := List.getElem?_eq_getElem _
  have m1 : ys[1]? = some (ys[1]'(by rw [hyl]; decide)) := List.getElem?_eq_getElem _
  rw [m0] at y0
  rw [m1] at y1
  simp [ki] at y0
  simp [ki] at y1
  obtain ⟨l, e0, _, w0⟩ := DataW.trod_int Try.underlying3 y0
  obtain ⟨s, e1, _, w1⟩ := DataW.trod_int Try.underlying3 y1
  obtain ⟨a, len, cap, zs, rfl, hz⟩ := row_any Try.underlying25 Try.underlying3 (by kernel_rfl) g1
  simp [Value.cells] at e0 e1
  subst e0 e1
  exact ⟨l, s, a, len, cap, zs, rfl, ⟨wf_bounds w0, wf_bounds w1⟩, hz⟩
end
end Go.Proofs.Ytmgjbldnohkodaa
