/- What the frames of the laws share: arguments opened by their types. -/
import Derived.Test.YticfdmgbpgfogaaMem
import Derived.ProofKit
import Derived.OpenShut
import Derived.ShutString
import Derived.ChangeOld
import Derived.Carry
import Derived.Lib.SmallJoins
import Derived.JoinedOf
namespace Go.Proofs.Yticfdmgbpgfogaa
open Go.ChangeShapes Go.WideShapes Go.ChangeAt Go.RowKit

theorem own : ownKnob Try.prog.godebug = none := by kernel_rfl
theorem laidOut : laidOutB Try.prog = true := by kernel_rfl
theorem p_mapsRowed : mapsRowed Try.prog = true := by kernel_rfl
theorem p_stops : (Try.prog.stops == []) = true := by kernel_rfl
theorem p_knobs : (Try.prog.stopKnobs == []) = true := by kernel_rfl
theorem p_heard : Try.prog.stopsHeard = true := by kernel_rfl
/-- The signs of the word that opens the translation, as numbers: the kernel reads a list faster than a string. -/
def signs : List Nat := [104, 97, 114, 110, 101, 115, 115, 32, 97, 52, 57, 53, 97, 57, 99, 99, 52, 48, 56, 99, 102, 56, 56, 51, 57, 100, 98, 53, 99, 101, 99, 101, 49, 102, 54, 52, 98, 49, 52, 48, 51, 53, 102, 97, 57, 50, 100, 101, 54, 48, 56, 53, 98, 56, 56, 102, 50, 48, 52, 57, 97, 99, 54, 97, 49, 53, 49, 97, 50, 49, 98, 52, 32, 99, 117, 116, 32, 97, 116, 32, 108, 111, 111, 112, 46, 101, 120, 97, 109, 112, 108, 101, 47, 103, 48, 51, 50, 50, 56, 47, 108, 97, 119, 115, 46, 70, 110, 81, 117, 105, 101, 116, 32, 108, 111, 111, 112, 46, 101, 120, 97, 109, 112, 108, 101, 47, 103, 48, 51, 50, 50, 56, 47, 108, 97, 119, 115, 46, 70, 110, 80, 108, 97, 105, 110, 32, 108, 111, 111, 112, 46, 101, 120, 97, 109, 112, 108, 101, 47, 103, 48, 51, 50, 50, 56, 47, 108, 97, 119, 115, 46, 70, 110, 83, 116, 101, 112, 115, 32, 108, 111, 111, 112, 46, 101, 120, 97, 109, 112, 108, 101, 47, 103, 48, 51, 50, 50, 56, 47, 108, 97, 119, 115, 46, 70, 110, 66, 111, 117, 110, 100, 101, 100, 32, 108, 111, 111, 112, 46, 101, 120, 97, 109, 112, 108, 101, 47, 103, 48, 51, 50, 50, 56, 47, 108, 97, 119, 115, 46, 70, 110, 67, 117, 116, 32, 108, 111, 111, 112, 46, 101, 120, 97, 109, 112, 108, 101, 47, 103, 48, 51, 50, 50, 56, 47, 108, 97, 119, 115, 46, 70, 110, 73, 110, 112, 117, 116, 32, 108, 111, 111, 112, 46, 101, 120, 97, 109, 112, 108, 101, 47, 103, 48, 51, 50, 50, 56, 47, 108, 97, 119, 115, 46, 70, 110, 83, 99, 97, 108, 101, 100, 32, 108, 111, 111, 112, 46, 101, 120, 97, 109, 112, 108, 101, 47, 103, 48, 51, 50, 50, 56, 47, 108, 97, 119, 115, 46, 70, 110, 79, 114, 100, 101, 114, 115, 32, 108, 111, 111, 112, 46, 101, 120, 97, 109, 112, 108, 101, 47, 103, 48, 51, 50, 50, 56, 47, 108, 97, 119, 115, 46, 70, 110, 83, 104, 97, 112, 101, 100]
set_option maxRecDepth 100000 in
theorem io0 : Try.prog.initOrder = String.ofList (signs.map Char.ofNat) := by kernel_rfl
theorem io : Try.prog.initOrder.toList = signs.map Char.ofNat := by rw [io0, String.toList_ofList]
theorem headSigns : (behindMainWord (wordsSigns (signs.map Char.ofNat))).head? = some "cut".toList := by kernel_rfl
theorem headCut : ∃ rest, behindMainWord (wordsSigns Try.prog.initOrder.toList) = "cut".toList :: rest := by
  rw [io]
  have h := headSigns
  cases hX : behindMainWord (wordsSigns (signs.map Char.ofNat)) with
  | nil => rw [hX] at h; cases h
  | cons c rest =>
    rw [hX] at h
    injection h with h
    subst h
    exact ⟨rest, rfl⟩
section
variable {P : Program} {rest : List (List Char)}
theorem strip : stripLifts liftWords ("cut".toList :: rest) = ([], "cut".toList :: rest) := by kernel_rfl
theorem enter_of (h : behindMainWord (wordsSigns P.initOrder.toList) = "cut".toList :: rest) (h1 : P.laysLater = false) (h2 : P.bearsReflect = false) (h3 : P.doorFits [] = true) : P.mayEnter = true := by
  unfold Program.mayEnter
  rw [h]
  simp only [strip]
  simp [h1, h2, h3]
theorem head_of (h : behindMainWord (wordsSigns P.initOrder.toList) = "cut".toList :: rest) : P.headLifts = [] := by
  unfold Program.headLifts
  rw [h]
  simp only [strip]
  simp
theorem lifts_of (h : behindMainWord (wordsSigns P.initOrder.toList) = "cut".toList :: rest) : P.liftsFinal = false := by
  unfold Program.liftsFinal
  rw [h, head_of h]
  simp
theorem make_of (h : behindMainWord (wordsSigns P.initOrder.toList) = "cut".toList :: rest) : P.make = some .cut := by
  unfold Program.make
  rw [h]
  simp
end
theorem p_lays : Try.prog.laysLater = false := by kernel_rfl
theorem p_refl : Try.prog.bearsReflect = false := by kernel_rfl
theorem p_door : Try.prog.doorFits [] = true := by kernel_rfl
theorem p_enter : Try.prog.mayEnter = true := by
  obtain ⟨rest, h⟩ := headCut
  exact enter_of h p_lays p_refl p_door
theorem p_lifts : Try.prog.liftsFinal = false := by
  obtain ⟨rest, h⟩ := headCut
  exact lifts_of h
theorem p_make : Try.prog.make = some .cut := by
  obtain ⟨rest, h⟩ := headCut
  exact make_of h

section
variable {H : Type} {enc : TypeId × Value → H} {W : World} {base : Nat} {v : Value} {d : DataW H} {p : List MemPlace}
theorem opened_int (hv : Value.okWide Try.prog W .any base 3 v) (h : DataW.Trod enc Try.prog W 0 (fun _ => true) true 3 v d p) :
    ∃ x : Int, v = .int .i64 x ∧ Wf x := by
  obtain ⟨x, rfl, _, _, wx⟩ := open_int Try.underlying3 hv h
  exact ⟨x, rfl, wf_bounds wx⟩
theorem row_of {k : IntKind} {T E : TypeId} (hT : Try.prog.underlying T = some (.slice E)) (hE : Try.prog.underlying E = some (.int k)) (hC : Try.prog.cellsOf E = 1)
    {a : Option Addr} {len cap fuel : Nat} {x : DataW H × List MemPlace} (hf : DataW.trod enc Try.prog W 0 (fun _ => true) true fuel T [.slice a len cap] = some x) :
    ∃ zs, IsRow k W a len cap zs := by
  rcases open_ints hT hE hC hf with ⟨hcs, _⟩ | ⟨x, l, c, zs, hcs, _, hl, hm, hz, _, hcell, hwz⟩
  · simp at hcs
    obtain ⟨rfl, rfl, rfl⟩ := hcs
    exact ⟨[], .inl ⟨rfl, rfl, rfl, rfl⟩⟩
  · simp at hcs
    obtain ⟨rfl, rfl, rfl⟩ := hcs
    exact ⟨zs, .inr ⟨_, rfl, hl, hm, by simpa using hz, hcell, hwz⟩⟩
theorem opened_ints (hv : Value.okWide Try.prog W .any base 25 v) (h : DataW.Trod enc Try.prog W 0 (fun _ => true) true 25 v d p) :
    ∃ (a : Option Addr) (len cap : Nat) (zs : List Int), v = .slice a len cap ∧ IsRow .i64 W a len cap zs := by
  obtain ⟨a, len, cap, rfl⟩ := okWide_slice Try.underlying25 hv
  obtain ⟨fuel, hf⟩ := h
  obtain ⟨zs, hz⟩ := row_of Try.underlying25 Try.underlying3 (by kernel_rfl) (by simpa [Value.cells] using hf)
  exact ⟨a, len, cap, zs, rfl, hz⟩
theorem opened_bytes (hv : Value.okWide Try.prog W .any base 22 v) (h : DataW.Trod enc Try.prog W 0 (fun _ => true) true 22 v d p) :
    ∃ (a : Option Addr) (len cap : Nat) (zs : List Int), v = .slice a len cap ∧ IsRow .u8 W a len cap zs := by
  obtain ⟨a, len, cap, rfl⟩ := okWide_slice Try.underlying22 hv
  obtain ⟨fuel, hf⟩ := h
  obtain ⟨zs, hz⟩ := row_of Try.underlying22 Try.underlying5 (by kernel_rfl) (by simpa [Value.cells] using hf)
  exact ⟨a, len, cap, zs, rfl, hz⟩
theorem row_any {k : IntKind} {T E : TypeId} (hT : Try.prog.underlying T = some (.slice E)) (hE : Try.prog.underlying E = some (.int k)) (hC : Try.prog.cellsOf E = 1)
    {u : Value} {fuel : Nat} {x : DataW H × List MemPlace} (hf : DataW.trod enc Try.prog W 0 (fun _ => true) true fuel T [u] = some x) :
    ∃ a len cap zs, u = .slice a len cap ∧ IsRow k W a len cap zs := by
  rcases open_ints hT hE hC hf with ⟨hcs, _⟩ | ⟨x, l, c, zs, hcs, _, hl, hm, hz, _, hcell, hwz⟩
  · simp at hcs
    subst hcs
    exact ⟨none, 0, 0, [], rfl, .inl ⟨rfl, rfl, rfl, rfl⟩⟩
  · simp at hcs
    subst hcs
    exact ⟨some x, l, c, zs, rfl, .inr ⟨_, rfl, hl, hm, by simpa using hz, hcell, hwz⟩⟩
end
end Go.Proofs.Yticfdmgbpgfogaa
