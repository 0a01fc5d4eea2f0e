/- The contracts of OrderModulator, of the program and of the reference. -/
import Derived.Test.YtmgjbldnohkodaaMod
import Derived.Test.YtmgjbldnohkodaaBlk
import Derived.Test.YtmgjbldnohkodaaDiff2
namespace Go.Proofs.Ytmgjbldnohkodaa
open Go.RowKit
set_option linter.unusedVariables false

def omB (l s k : Int) : Bool := isQ l s && (decide (1 ≤ k) && decide (k ≤ 6))
def omL (l s k : Int) : Int := if omB l s k = true then l else 0
def omS (l s k : Int) : Int := if omB l s k = true then s else 0
def omC (l s k : Int) : List Int := seqOr (omB l s k) ((coefs k).drop 1)
def RetMod (w : World) (l s k : Int) (e : Ending) (w' : World) : Prop :=
  ∃ a n c, e = .returned (.tuple #[.agg #[.int .i64 (omL l s k), .int .i64 (omS l s k), .slice a n c], .bool (omB l s k)]) ∧ Own w' w.heap.size w'.heap.size a n c (omC l s k) ∧ Below w.heap.size w w'
theorem ret_mod_no {w w' : World} {l s k : Int} (h : omB l s k = false) (hw : Below w.heap.size w w') :
    RetMod w l s k (.returned (.tuple #[.agg #[.int .i64 0, .int .i64 0, .slice none 0 0], .bool false])) w' :=
  ⟨none, 0, 0, by simp [omL, omS, h], by unfold omC; rw [seqOr_no h]; exact Own.nil, hw⟩
theorem ret_mod_yes {w w' : World} {l s k : Int} {a : Option Addr} {n c : Nat} (h : omB l s k = true) (ho : Own w' w.heap.size w'.heap.size a n c ((coefs k).drop 1)) (hw : Below w.heap.size w w') :
    RetMod w l s k (.returned (.tuple #[.agg #[.int .i64 l, .int .i64 s, .slice a n c], .bool true])) w' :=
  ⟨a, n, c, by simp [omL, omS, h], by unfold omC; rw [seqOr_yes h]; exact ho, hw⟩
theorem omC_len (l s k : Int) : (omC l s k).length ≤ 1048576 := seqOr_len fun h => by
  have := coefs_len k
  rw [List.length_drop]
  omega
theorem coefs_length {k : Int} (h0 : 0 ≤ k) (h6 : k ≤ 6) : (coefs k).length = k.toNat + 1 := by
  have ho : ordB k = true := by simp [ordB]; omega
  rw [coefs_yes ho, diffs_length, oneL_length]
theorem om_isMod {l s k : Int} (h1 : 1 ≤ k) (h6 : k ≤ 6) : isMod l s ((coefs k).drop 1) = isQ l s := by
  have hc : k = 1 ∨ k = 2 ∨ k = 3 ∨ k = 4 ∨ k = 5 ∨ k = 6 := by omega
  have key : ∀ L : List Int, L.all cofB = true → 1 ≤ L.length → L.length ≤ 6 → isMod l s L = isQ l s := by
    intro L h1 h2 h3
    unfold isMod
    rw [h1, decide_eq_true h2, decide_eq_true h3]
    simp
  rcases hc with rfl | rfl | rfl | rfl | rfl | rfl <;> exact key _ (by decide) (by decide) (by decide)
theorem om_nil (l s : Int) : isMod l s [] = false := by simp [isMod]

/-- A modulator is stored into its block. -/
theorem mod_put {w w4 : World} {R n c : Nat} {t : TypeId} {v0 v1 v2 : Value} {l s : Int} {a : Option Addr} (r : Blk w4 R t #[v0, v1, v2]) (b : Below w.heap.size w w4) (hR : w.heap.size ≤ R) :
    Blk (((w4.setCell ⟨R, 0, none⟩ (.int .i64 l)).setCell ⟨R, 1, none⟩ (.int .i64 s)).setCell ⟨R, 2, none⟩ (.slice a n c)) R t #[.int .i64 l, .int .i64 s, .slice a n c] ∧
    Below w.heap.size w (((w4.setCell ⟨R, 0, none⟩ (.int .i64 l)).setCell ⟨R, 1, none⟩ (.int .i64 s)).setCell ⟨R, 2, none⟩ (.slice a n c)) ∧
    (((w4.setCell ⟨R, 0, none⟩ (.int .i64 l)).setCell ⟨R, 1, none⟩ (.int .i64 s)).setCell ⟨R, 2, none⟩ (.slice a n c)).heap.size = w4.heap.size ∧
    ∀ B C ao m d xs, Own w4 B C ao m d xs → R < B ∨ C ≤ R → Own (((w4.setCell ⟨R, 0, none⟩ (.int .i64 l)).setCell ⟨R, 1, none⟩ (.int .i64 s)).setCell ⟨R, 2, none⟩ (.slice a n c)) B C ao m d xs := by
  have r7 := ((r.set_ 0 (.int .i64 l)).set_ 1 (.int .i64 s)).set_ 2 (.slice a n c)
  simp at r7
  refine ⟨r7, ((b.setCell (p := ⟨R, 0, none⟩) hR (.int .i64 l)).setCell (p := ⟨R, 1, none⟩) hR (.int .i64 s)).setCell (p := ⟨R, 2, none⟩) hR (.slice a n c), by simp [World.setCell], ?_⟩
  intro B C ao m d xs h hd
  exact ((h.setFar R 0 (.int .i64 l) hd).setFar R 1 (.int .i64 s) hd).setFar R 2 (.slice a n c) hd
set_option maxHeartbeats 1600000 in
theorem order_mod_s (l s k : Int) (w : World) (hk : Wf k) :
    Calls Try.prog 53 #[.agg #[.int .i64 l, .int .i64 s], .int .i64 k] w (RetMod w l s k) := by
  have b2 := (box_below w (.cells #[.int .i64 l, .int .i64 s] 24)).alloc (by simp) (.cells #[.int .i64 0, .int .i64 0, .slice none 0 0] 27)
  have q2 := (Blk.new w 24 #[.int .i64 l, .int .i64 s]).alloc (.cells #[.int .i64 0, .int .i64 0, .slice none 0 0] 27)
  have r2 := Blk.new (w.alloc (.cells #[.int .i64 l, .int .i64 s] 24)) 27 #[.int .i64 0, .int .i64 0, .slice none 0 0]
  have z1 : (w.alloc (.cells #[.int .i64 l, .int .i64 s] 24)).heap.size = w.heap.size + 1 := by simp
  rw [z1] at r2
  go_enter Try.func53, Try.ntmps53
  go_wp2_with fail
  generalize (w.alloc (.cells #[.int .i64 l, .int .i64 s] 24)).alloc (.cells #[.int .i64 0, .int .i64 0, .slice none 0 0] 27) = w2 at b2 q2 r2 ⊢
  refine (coefs_s k _ hk).mono ?_
  rintro e w3 ⟨a, n, c, rfl, o3, b⟩
  have b3 := b2.trans (b.mono b2.size)
  have q3 := q2.below b q2.lt
  have r3 := r2.below b r2.lt
  have hn : n ≤ 8 := by
    rw [← o3.len]
    cases hy : ordB k
    · rw [coefs_no hy]; simp
    · have := ordB_true hy; rw [coefs_length this.1 this.2]; omega
  have sl3 := o3.sl (by omega)
  have hS3 := b.size
  have hq2 := q2.lt
  have hr2 := r2.lt
  clear b b2 q2 r2 z1
  have c0 := q3.cell 0
  have c1 := q3.cell 1
  simp at c0 c1
  cases hq : isQ l s
  · have hno := Lib.hid (show omB l s k = false by simp [omB, hq])
    go_wp2_with fail
    refine (isQ_s _ _ _).mono ?_
    rw [hq]
    rintro e w4 ⟨rfl, b⟩
    have b4 := b3.trans (b.mono b3.size)
    have r4 := r3.below b r3.lt
    clear b hq c0 c1 q3 r3 b3 sl3 o3
    have d0 := r4.cell 0
    have d1 := r4.cell 1
    have d2 := r4.cell 2
    have g0 := r4.frozen 0
    have g1 := r4.frozen 1
    have g2 := r4.frozen 2
    simp at d0 d1 d2
    go_wp2_with fail
    obtain ⟨r7, b7, z7, _⟩ := mod_put (l := 0) (s := 0) (a := none) (n := 0) (c := 0) r4 b4 (by omega)
    generalize ((w4.setCell ⟨w.heap.size + 1, 0, none⟩ (.int .i64 0)).setCell ⟨w.heap.size + 1, 1, none⟩ (.int .i64 0)).setCell ⟨w.heap.size + 1, 2, none⟩ (.slice none 0 0) = w7 at r7 b7 ⊢
    have e0 := r7.cell 0
    have e1 := r7.cell 1
    have e2 := r7.cell 2
    simp at e0 e1 e2
    exact bodyPost_ret (v := .tuple #[.agg #[.int .i64 0, .int .i64 0, .slice none 0 0], .bool false]) (by simp [results, Try.results53, go_sem, e0, e1, e2]) rfl (ret_mod_no hno.out b7)
  · by_cases hk6 : 1 ≤ k ∧ k ≤ 6
    · have hyes := Lib.hid (show omB l s k = true by simp [omB, hq]; omega)
      have hn2 : 2 ≤ n := by rw [← o3.len, coefs_length (by omega) hk6.2]; omega
      have hge : ¬ ((n : Int) < 2) := by omega
      go_wp2_with fail
      refine (isQ_s _ _ _).mono ?_
      rw [hq]
      rintro e w4 ⟨rfl, b⟩
      have b4 := b3.trans (b.mono b3.size)
      have r4 := r3.below b r3.lt
      have q4 := q3.below b q3.lt
      have sl4 := (sl3.keep b).more b.size
      have hS4 := b.size
      clear b hq c0 c1 q3 r3 b3 sl3 o3
      have hcut := sl4.cut (p := 1) (by omega)
      have hr1 : ∀ W, (Instr.slice 25 (.slice a n c) (some (.int .i64 1)) none none).run Try.prog W = .ok (.slice (cutAt a c 1) (n - 1) (c - 1)) W := fun W => run_cut W a n c 1 (by omega)
      have c0 := q4.cell 0
      have c1 := q4.cell 1
      simp at c0 c1
      have d0 := r4.cell 0
      have d1 := r4.cell 1
      have d2 := r4.cell 2
      have g0 := r4.frozen 0
      have g1 := r4.frozen 1
      have g2 := r4.frozen 2
      simp at d0 d1 d2
      have hq4 := q4.lt
      have hr4 := r4.lt
      go_wp2_with fail
      go_region_with (first | (go_at_call 60; refine (copy_s _ _ _ ((coefs k).drop 1) w4.drew hcut).mono ?_; rintro e w5 ⟨a5, d5, rfl, o5, b⟩; have b5 := b4.drew.trans (b.mono b4.drew.size); have r5 := r4.drew.below b r4.lt; have q5 := q4.drew.below b q4.lt; have hS5 := b.size; have c0' := q5.cell 0; have c1' := q5.cell 1; have d0' := r5.cell 0; have d1' := r5.cell 1; have d2' := r5.cell 2; have g0' := r5.frozen 0; have g1' := r5.frozen 1; have g2' := r5.frozen 2; simp at c0' c1' d0' d1' d2'))
      all_goals
        obtain ⟨r7, b7, z7, hown⟩ := mod_put (l := l) (s := s) (a := a5) (n := n - 1) (c := d5) r5 b5 (by omega)
        have o7 := hown _ _ _ _ _ _ o5 (.inl hr4)
        have hdr : w4.drew.heap.size = w4.heap.size := rfl
        clear c0' c1' d0' d1' d2' g0' g1' g2' c0 c1 d0 d1 d2 g0 g1 g2 hown
        generalize ((w5.setCell ⟨w.heap.size + 1, 0, none⟩ (.int .i64 l)).setCell ⟨w.heap.size + 1, 1, none⟩ (.int .i64 s)).setCell ⟨w.heap.size + 1, 2, none⟩ (.slice a5 (n - 1) d5) = w7 at r7 b7 z7 o7 ⊢
        have e0 := r7.cell 0
        have e1 := r7.cell 1
        have e2 := r7.cell 2
        simp at e0 e1 e2
        simp [Act.put]
        go_wp2_with fail
        exact bodyPost_ret (v := .tuple #[.agg #[.int .i64 l, .int .i64 s, .slice a5 (n - 1) d5], .bool true]) (by simp [results, Try.results53, go_sem, e0, e1, e2]) rfl (ret_mod_yes hyes.out (o7.wide (by omega) (by omega)) b7)
    · have hno := Lib.hid (show omB l s k = false by simp [omB, hq]; omega)
      have hn2 : n ≤ 1 := by
        rw [← o3.len]
        cases hy : ordB k
        · rw [coefs_no hy]; simp
        · have := ordB_true hy; rw [coefs_length this.1 this.2]; omega
      have hge : ((n : Int) < 2) := by omega
      go_wp2_with fail
      refine (isQ_s _ _ _).mono ?_
      rw [hq]
      rintro e w4 ⟨rfl, b⟩
      have b4 := b3.trans (b.mono b3.size)
      have r4 := r3.below b r3.lt
      have q4 := q3.below b q3.lt
      have sl4 := (sl3.keep b).more b.size
      have hS4 := b.size
      clear b hq c0 c1 q3 r3 b3 sl3 o3
      have d0 := r4.cell 0
      have d1 := r4.cell 1
      have d2 := r4.cell 2
      have g0 := r4.frozen 0
      have g1 := r4.frozen 1
      have g2 := r4.frozen 2
      simp at d0 d1 d2
      go_wp2_with fail
      obtain ⟨r7, b7, z7, _⟩ := mod_put (l := 0) (s := 0) (a := none) (n := 0) (c := 0) r4 b4 (by omega)
      generalize ((w4.setCell ⟨w.heap.size + 1, 0, none⟩ (.int .i64 0)).setCell ⟨w.heap.size + 1, 1, none⟩ (.int .i64 0)).setCell ⟨w.heap.size + 1, 2, none⟩ (.slice none 0 0) = w7 at r7 b7 ⊢
      have e0 := r7.cell 0
      have e1 := r7.cell 1
      have e2 := r7.cell 2
      simp at e0 e1 e2
      exact bodyPost_ret (v := .tuple #[.agg #[.int .i64 0, .int .i64 0, .slice none 0 0], .bool false]) (by simp [results, Try.results53, go_sem, e0, e1, e2]) rfl (ret_mod_no hno.out b7)
end Go.Proofs.Ytmgjbldnohkodaa
