/- Slices that are cut: what the cut's run gives, and what it reads as. -/
import Derived.Test.YtmgjbldnohkodaaApp
namespace Go.Proofs.Ytmgjbldnohkodaa
open Go.RowKit

/-- Where a slice lies that is cut at p: its address, under one name. -/
def cutAt (a : Option Addr) (c p : Nat) : Option Addr := if c = p then a else a.map (·.add p)
theorem run_cut (W : World) (a : Option Addr) (n c p : Nat) (h : p ≤ n) :
    (Instr.slice 25 (.slice a n c) (some (.int .i64 (p : Int))) none none).run Try.prog W = .ok (.slice (cutAt a c p) (n - p) (c - p)) W := by
  obtain ⟨i0, hi, hz0, hz1, hz2⟩ := info_parts int_info
  have he : Try.prog.elem 25 = 3 := by kernel_rfl
  rw [run_slice_l W 25 a n c (by rw [he]; exact Try.underlying25) .i64 (p : Int) (by omega) (by omega), he]
  simp [sizeOf, typeInfo, hi, hz1, sliced, cutAt]
theorem run_upto (W : World) (a : Option Addr) (n c : Nat) (m : Int) (h0 : 0 ≤ m) (h : m ≤ (c : Int)) :
    (Instr.slice 25 (.slice a n c) none (some (.int .i64 m)) none).run Try.prog W = .ok (.slice a m.toNat c) W := by
  obtain ⟨i0, hi, hz0, hz1, hz2⟩ := info_parts int_info
  have he : Try.prog.elem 25 = 3 := by kernel_rfl
  rw [run_slice_h W 25 a n c (by rw [he]; exact Try.underlying25) .i64 m h0 h, he]
  simp [sizeOf, typeInfo, hi, hz1, sliced]
  intro _
  cases a with
  | none => rfl
  | some x => simp [Addr.add]
/-- What a cut of a slice reads as. -/
theorem Sl.cut {w : World} {C n cap p : Nat} {ao : Option Addr} {xs : List Int} (h : Sl w C ao n cap xs) (hp : p ≤ n) : Sl w C (cutAt ao cap p) (n - p) (cap - p) (xs.drop p) := by
  refine ⟨by rw [List.length_drop, h.len], by have := h.2.1; omega, by have := h.2.2.1; omega, fun hn => ?_⟩
  obtain ⟨b, off, rfl, hb, hc⟩ := h.at_ (by omega)
  unfold cutAt
  rw [if_neg (by have := h.2.1; omega)]
  refine ⟨b, off + p, by simp [Addr.add_lit], hb, fun i hi => ?_⟩
  rw [show off + p + i = off + (p + i) from by omega, hc (p + i) (by omega)]
  simp [List.getD, List.getElem?_drop]
theorem Sl.upto {w : World} {C n cap m : Nat} {ao : Option Addr} {xs : List Int} (h : Sl w C ao n cap xs) (hm : m ≤ n) : Sl w C ao m cap (xs.take m) := by
  refine ⟨by rw [List.length_take, h.len]; omega, by have := h.2.1; omega, by have := h.2.2.1; omega, fun hn => ?_⟩
  obtain ⟨b, off, rfl, hb, hc⟩ := h.at_ (by omega)
  refine ⟨b, off, rfl, hb, fun i hi => ?_⟩
  rw [hc i (by omega)]
  simp [List.getD, hi]

end Go.Proofs.Ytmgjbldnohkodaa
