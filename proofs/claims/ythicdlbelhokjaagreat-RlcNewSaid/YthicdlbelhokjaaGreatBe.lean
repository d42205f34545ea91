/- am: the state of a new entity. -/
import Derived.Test.YthicdlbelhokjaaGreatBd
namespace Go.Proofs.YthicdlbelhokjaaGreat
open Go.RowKit Go.Shelf
attribute [local go_sem] Oper.semAt_some

theorem acked_any (g : Nat) (k : Int) (x y : Value) (w : World) (hg : Blk w g 67 #[.int .i64 k, x, y]) (hk : (k == 0) = false) : Calls Tryz.prog 37 #[.pointer (some ⟨g, 0, none⟩)] w fun e w' => e = .returned y ∧ w = w' := by
  have hno := none_any g k _ _ w hg
  rw [hk] at hno
  have x2 := hg.cell 2
  simp at x2
  have HN := Lib.hid hno
  clear hno hg
  go_enter Tryz.func37, Tryz.ntmps37
  go_wp2_with (go_at_call 36; refine HN.out.mono ?_; rintro e1 w1 ⟨rfl, rfl⟩)
  go_ret
  exact ⟨rfl, rfl⟩
theorem next_new (s : Nat) (a0 a1 a2 a3 a4 a5 a6 : Int) (w : World) (h : SndB w s a0 a1 a2 a3 a4 a5 a6) : Calls Tryz.prog 61 #[.pointer (some ⟨s, 0, none⟩)] w fun e w' => e = .returned (.int .i64 0) ∧ ∃ q, w.drewN q = w' := by
  obtain ⟨y0, y1, y2, y3, y4, y5, y6, y7, y8, y9, y10⟩ := k8_of h
  have hw0 : IntKind.i64.wrap 0 = 0 := by decide
  have hb0 : bits BinOp.and IntKind.i64 0 1023 = 0 := by decide
  clear h
  go_enter Tryz.func61, Tryz.ntmps61
  go_wp2_with fail
  go_quiet (fail)
  go_wp2_with fail
  go_ret
  exact ⟨rfl, _, rfl⟩
theorem s7_of {W : World} {s : Nat} {a0 a1 a2 a3 a4 a5 a6 : Int} (b : SndB W s a0 a1 a2 a3 a4 a5 a6) : W.cell? ⟨s, 8, none⟩ = some (.int .i64 0) ∧ W.cell? ⟨s, 11, none⟩ = some (.int .i64 0) ∧ W.cell? ⟨s, 13, none⟩ = some (.int .i64 0) ∧ W.cell? ⟨s, 14, none⟩ = some (.int .i64 0) ∧ W.cell? ⟨s, 16, none⟩ = some (.bool false) ∧ W.cell? ⟨s, 18, none⟩ = some (.bool false) ∧ W.cell? ⟨s, 19, none⟩ = some (.bool false) :=
  ⟨b.cell 8, b.cell 11, b.cell 13, b.cell 14, b.cell 16, b.cell 18, b.cell 19⟩
/-- the state of a new sender -/
abbrev st0 : Array Value := #[.int .i64 0, .int .i64 0, .int .i64 0, .int .i64 0, .int .i64 0, .bool false, .int .i64 0, .bool false, .int .i64 0, .bool false]
def StOut (w : World) (e : Ending) (w' : World) : Prop := e = .returned (.agg st0) ∧ Below w.heap.size w w'
set_option maxRecDepth 100000 in
set_option maxHeartbeats 1000000 in
theorem state_new (s : Nat) (a0 a1 a2 a3 a4 a5 a6 : Int) (w : World) (h : SndB w s a0 a1 a2 a3 a4 a5 a6) (h2 : (a2 == 0) = false) : Calls Tryz.prog 54 #[.pointer (some ⟨s, 0, none⟩)] w (StOut w) := by
  have hA := h.alloc (.cells st0 126)
  have hch := check_new s a0 a1 a2 a3 a4 a5 a6 _ hA h2
  have hnx := fun W (hW : SndB W s a0 a1 a2 a3 a4 a5 a6) => next_new s a0 a1 a2 a3 a4 a5 a6 W hW
  obtain ⟨y0, y1, y2, y3, y4, y5, y6, y7, y8, y9, y10⟩ := k8_of hA
  have hsl := h.lt
  have HC := Lib.hid hch
  have HX := Lib.hid hnx
  have HB := Lib.hid ((Below.refl w.heap.size w).alloc (Nat.le_refl _) (.cells st0 126))
  have HT := Lib.hid (Blk.new w 126 st0)
  clear hch hnx h
  unfold st0 at *
  go_enter Tryz.func54, Tryz.ntmps54
  go_wp2_with (go_at_call 55; refine HC.out.mono ?_; rintro e1 w1 ⟨rfl, rfl⟩)
  have hz : (w.alloc (.cells #[.int .i64 0, .int .i64 0, .int .i64 0, .int .i64 0, .int .i64 0, .bool false, .int .i64 0, .bool false, .int .i64 0, .bool false] 126)).heap.size = w.heap.size + 1 := World.size_alloc _ _
  generalize w.alloc (.cells #[.int .i64 0, .int .i64 0, .int .i64 0, .int .i64 0, .int .i64 0, .bool false, .int .i64 0, .bool false, .int .i64 0, .bool false] 126) = w0 at *
  have hne : s ≠ w0.heap.size := by omega
  have hne' : s ≠ w.heap.size + 1 := by omega
  go_region_held3 (fun w' => w'.cell? ⟨s, 8, none⟩ = some (.int .i64 0) ∧ w'.cell? ⟨s, 11, none⟩ = some (.int .i64 0) ∧ w'.cell? ⟨s, 13, none⟩ = some (.int .i64 0) ∧ w'.cell? ⟨s, 14, none⟩ = some (.int .i64 0) ∧ w'.cell? ⟨s, 16, none⟩ = some (.bool false) ∧ w'.cell? ⟨s, 18, none⟩ = some (.bool false) ∧ w'.cell? ⟨s, 19, none⟩ = some (.bool false))
    (with_reducible (refine s7_of (a0 := a0) (a1 := a1) (a2 := a2) (a3 := a3) (a4 := a4) (a5 := a5) (a6 := a6) ?_; (repeat first | refine Blk.far ?_ hne' _ | refine Blk.drewN ?_ _ | refine Blk.drew ?_ | refine Blk.alloc ?_ _); exact hA))
    ((go_at_call 61; refine (HX.out _ (by first | exact hA | exact hA.alloc _)).mono ?_; rintro e1 w1 ⟨rfl, q, rfl⟩))
  · have b3 := Blk.new (w0.drewN (1 + q)) 126 #[.int .i64 0, .int .i64 0, .int .i64 0, .int .i64 0, .int .i64 0, .bool false, .int .i64 0, .bool false, .int .i64 0, .bool false]
    rw [show (w0.drewN (1 + q)).heap.size = w.heap.size + 1 from hz] at b3
    have b2 : Blk ((w0.drewN (1 + q)).alloc (.cells #[.int .i64 0, .int .i64 0, .int .i64 0, .int .i64 0, .int .i64 0, .bool false, .int .i64 0, .bool false, .int .i64 0, .bool false] 126)) w.heap.size 126 #[.int .i64 0, .int .i64 0, .int .i64 0, .int .i64 0, .int .i64 0, .bool false, .int .i64 0, .bool false, .int .i64 0, .bool false] := (HT.out.drewN (1 + q)).alloc _
    have bs : SndB ((w0.drewN (1 + q)).alloc (.cells #[.int .i64 0, .int .i64 0, .int .i64 0, .int .i64 0, .int .i64 0, .bool false, .int .i64 0, .bool false, .int .i64 0, .bool false] 126)) s a0 a1 a2 a3 a4 a5 a6 := (hA.drewN (1 + q)).alloc _
    have hB : Below w.heap.size w ((w0.drewN (1 + q)).alloc (.cells #[.int .i64 0, .int .i64 0, .int .i64 0, .int .i64 0, .int .i64 0, .bool false, .int .i64 0, .bool false, .int .i64 0, .bool false] 126)) := (HB.out.drewN (1 + q)).alloc (by show w.heap.size ≤ w0.heap.size; omega) _
    generalize ((w0.drewN (1 + q)).alloc (.cells #[.int .i64 0, .int .i64 0, .int .i64 0, .int .i64 0, .int .i64 0, .bool false, .int .i64 0, .bool false, .int .i64 0, .bool false] 126)) = W at *
    clear HT HB hA y0 y1 y2 y3 y4 y5 y6 y7 y8 y9 y10
    have ys := (k8_of bs).2.2.2.2.2.2.2.2.1
    have c0 := b3.cell 0
    have c1 := b3.cell 1
    have c2 := b3.cell 2
    have c3 := b3.cell 3
    have c4 := b3.cell 4
    have c5 := b3.cell 5
    have c6 := b3.cell 6
    have c7 := b3.cell 7
    have c8 := b3.cell 8
    have c9 := b3.cell 9
    have d0 := b2.cell 0
    have d1 := b2.cell 1
    have d2 := b2.cell 2
    have d3 := b2.cell 3
    have d4 := b2.cell 4
    have d5 := b2.cell 5
    have d6 := b2.cell 6
    have d7 := b2.cell 7
    have d8 := b2.cell 8
    have d9 := b2.cell 9
    have f0 := b2.frozen 0
    have f1 := b2.frozen 1
    have f2 := b2.frozen 2
    have f3 := b2.frozen 3
    have f4 := b2.frozen 4
    have f5 := b2.frozen 5
    have f6 := b2.frozen 6
    have f7 := b2.frozen 7
    have f8 := b2.frozen 8
    have f9 := b2.frozen 9
    simp at c0 c1 c2 c3 c4 c5 c6 c7 c8 c9 d0 d1 d2 d3 d4 d5 d6 d7 d8 d9
    have HB2 := Lib.hid b2
    have HBB := Lib.hid hB
    clear b2 b3 bs hB
    go_wp2
    have b9 := ((((((((((HB2.out.set_ 0 (.int .i64 0)).set_ 1 (.int .i64 0)).set_ 2 (.int .i64 0)).set_ 3 (.int .i64 0)).set_ 4 (.int .i64 0)).set_ 5 (.bool false)).set_ 6 (.int .i64 0)).set_ 7 (.bool false)).set_ 8 (.int .i64 0)).set_ 9 (.bool false))
    simp only [List.setIfInBounds_toArray, List.set_cons_zero, List.set_cons_succ] at b9
    have q0 := b9.cell 0
    have q1 := b9.cell 1
    have q2 := b9.cell 2
    have q3 := b9.cell 3
    have q4 := b9.cell 4
    have q5 := b9.cell 5
    have q6 := b9.cell 6
    have q7 := b9.cell 7
    have q8 := b9.cell 8
    have q9 := b9.cell 9
    simp only [List.getElem?_toArray, List.getElem?_cons_zero, List.getElem?_cons_succ] at q0 q1 q2 q3 q4 q5 q6 q7 q8 q9
    have hB9 := ((((((((((HBB.out.setCell (p := ⟨w.heap.size, 0, none⟩) (Nat.le_refl _) (.int .i64 0)).setCell (p := ⟨w.heap.size, 1, none⟩) (Nat.le_refl _) (.int .i64 0)).setCell (p := ⟨w.heap.size, 2, none⟩) (Nat.le_refl _) (.int .i64 0)).setCell (p := ⟨w.heap.size, 3, none⟩) (Nat.le_refl _) (.int .i64 0)).setCell (p := ⟨w.heap.size, 4, none⟩) (Nat.le_refl _) (.int .i64 0)).setCell (p := ⟨w.heap.size, 5, none⟩) (Nat.le_refl _) (.bool false)).setCell (p := ⟨w.heap.size, 6, none⟩) (Nat.le_refl _) (.int .i64 0)).setCell (p := ⟨w.heap.size, 7, none⟩) (Nat.le_refl _) (.bool false)).setCell (p := ⟨w.heap.size, 8, none⟩) (Nat.le_refl _) (.int .i64 0)).setCell (p := ⟨w.heap.size, 9, none⟩) (Nat.le_refl _) (.bool false))
    refine ⟨rfl, .agg #[.int .i64 0, .int .i64 0, .int .i64 0, .int .i64 0, .int .i64 0, .bool false, .int .i64 0, .bool false, .int .i64 0, .bool false], ?_, rfl, hB9⟩
    simp [results, Tryz.results54, go_sem, q0, q1, q2, q3, q4, q5, q6, q7, q8, q9]
  · have b0 := Blk.new w0 126 #[.int .i64 0, .int .i64 0, .int .i64 0, .int .i64 0, .int .i64 0, .bool false, .int .i64 0, .bool false, .int .i64 0, .bool false]
    rw [hz] at b0
    have hn2 : w.heap.size ≠ w.heap.size + 1 := by omega
    have hz1 : w.heap.size ≤ w.heap.size + 1 := by omega
    have hzle : w.heap.size ≤ w0.heap.size := by omega
    have b3 : Blk ((((((((((((w0.alloc (.cells #[.int .i64 0, .int .i64 0, .int .i64 0, .int .i64 0, .int .i64 0, .bool false, .int .i64 0, .bool false, .int .i64 0, .bool false] 126)).drewN (1 + q)).setCell ⟨w.heap.size + 1, 0, none⟩ (.int .i64 0)).setCell ⟨w.heap.size + 1, 1, none⟩ (.int .i64 0)).setCell ⟨w.heap.size + 1, 2, none⟩ (.int .i64 0)).setCell ⟨w.heap.size + 1, 3, none⟩ (.int .i64 0)).setCell ⟨w.heap.size + 1, 4, none⟩ (.int .i64 0)).setCell ⟨w.heap.size + 1, 5, none⟩ (.bool false)).setCell ⟨w.heap.size + 1, 6, none⟩ (.int .i64 0)).setCell ⟨w.heap.size + 1, 7, none⟩ (.bool false)).setCell ⟨w.heap.size + 1, 8, none⟩ (.int .i64 0)).setCell ⟨w.heap.size + 1, 9, none⟩ (.bool false)) (w.heap.size + 1) 126 #[.int .i64 0, .int .i64 0, .int .i64 0, .int .i64 0, .int .i64 0, .bool false, .int .i64 0, .bool false, .int .i64 0, .bool false] := by
      have b := ((((((((((((b0).drewN (1 + q)).set_ 0 (.int .i64 0)).set_ 1 (.int .i64 0)).set_ 2 (.int .i64 0)).set_ 3 (.int .i64 0)).set_ 4 (.int .i64 0)).set_ 5 (.bool false)).set_ 6 (.int .i64 0)).set_ 7 (.bool false)).set_ 8 (.int .i64 0)).set_ 9 (.bool false))
      simp only [List.setIfInBounds_toArray, List.set_cons_zero, List.set_cons_succ] at b
      exact b
    have b2 : Blk ((((((((((((w0.alloc (.cells #[.int .i64 0, .int .i64 0, .int .i64 0, .int .i64 0, .int .i64 0, .bool false, .int .i64 0, .bool false, .int .i64 0, .bool false] 126)).drewN (1 + q)).setCell ⟨w.heap.size + 1, 0, none⟩ (.int .i64 0)).setCell ⟨w.heap.size + 1, 1, none⟩ (.int .i64 0)).setCell ⟨w.heap.size + 1, 2, none⟩ (.int .i64 0)).setCell ⟨w.heap.size + 1, 3, none⟩ (.int .i64 0)).setCell ⟨w.heap.size + 1, 4, none⟩ (.int .i64 0)).setCell ⟨w.heap.size + 1, 5, none⟩ (.bool false)).setCell ⟨w.heap.size + 1, 6, none⟩ (.int .i64 0)).setCell ⟨w.heap.size + 1, 7, none⟩ (.bool false)).setCell ⟨w.heap.size + 1, 8, none⟩ (.int .i64 0)).setCell ⟨w.heap.size + 1, 9, none⟩ (.bool false)) w.heap.size 126 #[.int .i64 0, .int .i64 0, .int .i64 0, .int .i64 0, .int .i64 0, .bool false, .int .i64 0, .bool false, .int .i64 0, .bool false] := ((((((((((((HT.out.alloc _).drewN (1 + q)).far (p := ⟨w.heap.size + 1, 0, none⟩) hn2 _).far (p := ⟨w.heap.size + 1, 1, none⟩) hn2 _).far (p := ⟨w.heap.size + 1, 2, none⟩) hn2 _).far (p := ⟨w.heap.size + 1, 3, none⟩) hn2 _).far (p := ⟨w.heap.size + 1, 4, none⟩) hn2 _).far (p := ⟨w.heap.size + 1, 5, none⟩) hn2 _).far (p := ⟨w.heap.size + 1, 6, none⟩) hn2 _).far (p := ⟨w.heap.size + 1, 7, none⟩) hn2 _).far (p := ⟨w.heap.size + 1, 8, none⟩) hn2 _).far (p := ⟨w.heap.size + 1, 9, none⟩) hn2 _)
    have bs : SndB ((((((((((((w0.alloc (.cells #[.int .i64 0, .int .i64 0, .int .i64 0, .int .i64 0, .int .i64 0, .bool false, .int .i64 0, .bool false, .int .i64 0, .bool false] 126)).drewN (1 + q)).setCell ⟨w.heap.size + 1, 0, none⟩ (.int .i64 0)).setCell ⟨w.heap.size + 1, 1, none⟩ (.int .i64 0)).setCell ⟨w.heap.size + 1, 2, none⟩ (.int .i64 0)).setCell ⟨w.heap.size + 1, 3, none⟩ (.int .i64 0)).setCell ⟨w.heap.size + 1, 4, none⟩ (.int .i64 0)).setCell ⟨w.heap.size + 1, 5, none⟩ (.bool false)).setCell ⟨w.heap.size + 1, 6, none⟩ (.int .i64 0)).setCell ⟨w.heap.size + 1, 7, none⟩ (.bool false)).setCell ⟨w.heap.size + 1, 8, none⟩ (.int .i64 0)).setCell ⟨w.heap.size + 1, 9, none⟩ (.bool false)) s a0 a1 a2 a3 a4 a5 a6 := ((((((((((((hA.alloc _).drewN (1 + q)).far (p := ⟨w.heap.size + 1, 0, none⟩) hne' _).far (p := ⟨w.heap.size + 1, 1, none⟩) hne' _).far (p := ⟨w.heap.size + 1, 2, none⟩) hne' _).far (p := ⟨w.heap.size + 1, 3, none⟩) hne' _).far (p := ⟨w.heap.size + 1, 4, none⟩) hne' _).far (p := ⟨w.heap.size + 1, 5, none⟩) hne' _).far (p := ⟨w.heap.size + 1, 6, none⟩) hne' _).far (p := ⟨w.heap.size + 1, 7, none⟩) hne' _).far (p := ⟨w.heap.size + 1, 8, none⟩) hne' _).far (p := ⟨w.heap.size + 1, 9, none⟩) hne' _)
    have hB : Below w.heap.size w ((((((((((((w0.alloc (.cells #[.int .i64 0, .int .i64 0, .int .i64 0, .int .i64 0, .int .i64 0, .bool false, .int .i64 0, .bool false, .int .i64 0, .bool false] 126)).drewN (1 + q)).setCell ⟨w.heap.size + 1, 0, none⟩ (.int .i64 0)).setCell ⟨w.heap.size + 1, 1, none⟩ (.int .i64 0)).setCell ⟨w.heap.size + 1, 2, none⟩ (.int .i64 0)).setCell ⟨w.heap.size + 1, 3, none⟩ (.int .i64 0)).setCell ⟨w.heap.size + 1, 4, none⟩ (.int .i64 0)).setCell ⟨w.heap.size + 1, 5, none⟩ (.bool false)).setCell ⟨w.heap.size + 1, 6, none⟩ (.int .i64 0)).setCell ⟨w.heap.size + 1, 7, none⟩ (.bool false)).setCell ⟨w.heap.size + 1, 8, none⟩ (.int .i64 0)).setCell ⟨w.heap.size + 1, 9, none⟩ (.bool false)) := ((((((((((((HB.out.alloc hzle _).drewN (1 + q)).setCell (p := ⟨w.heap.size + 1, 0, none⟩) hz1 _).setCell (p := ⟨w.heap.size + 1, 1, none⟩) hz1 _).setCell (p := ⟨w.heap.size + 1, 2, none⟩) hz1 _).setCell (p := ⟨w.heap.size + 1, 3, none⟩) hz1 _).setCell (p := ⟨w.heap.size + 1, 4, none⟩) hz1 _).setCell (p := ⟨w.heap.size + 1, 5, none⟩) hz1 _).setCell (p := ⟨w.heap.size + 1, 6, none⟩) hz1 _).setCell (p := ⟨w.heap.size + 1, 7, none⟩) hz1 _).setCell (p := ⟨w.heap.size + 1, 8, none⟩) hz1 _).setCell (p := ⟨w.heap.size + 1, 9, none⟩) hz1 _)
    generalize ((((((((((((w0.alloc (.cells #[.int .i64 0, .int .i64 0, .int .i64 0, .int .i64 0, .int .i64 0, .bool false, .int .i64 0, .bool false, .int .i64 0, .bool false] 126)).drewN (1 + q)).setCell ⟨w.heap.size + 1, 0, none⟩ (.int .i64 0)).setCell ⟨w.heap.size + 1, 1, none⟩ (.int .i64 0)).setCell ⟨w.heap.size + 1, 2, none⟩ (.int .i64 0)).setCell ⟨w.heap.size + 1, 3, none⟩ (.int .i64 0)).setCell ⟨w.heap.size + 1, 4, none⟩ (.int .i64 0)).setCell ⟨w.heap.size + 1, 5, none⟩ (.bool false)).setCell ⟨w.heap.size + 1, 6, none⟩ (.int .i64 0)).setCell ⟨w.heap.size + 1, 7, none⟩ (.bool false)).setCell ⟨w.heap.size + 1, 8, none⟩ (.int .i64 0)).setCell ⟨w.heap.size + 1, 9, none⟩ (.bool false)) = W at *
    clear HT HB hA y0 y1 y2 y3 y4 y5 y6 y7 y8 y9 y10 b0
    have ys := (k8_of bs).2.2.2.2.2.2.2.2.1
    have c0 := b3.cell 0
    have c1 := b3.cell 1
    have c2 := b3.cell 2
    have c3 := b3.cell 3
    have c4 := b3.cell 4
    have c5 := b3.cell 5
    have c6 := b3.cell 6
    have c7 := b3.cell 7
    have c8 := b3.cell 8
    have c9 := b3.cell 9
    have d0 := b2.cell 0
    have d1 := b2.cell 1
    have d2 := b2.cell 2
    have d3 := b2.cell 3
    have d4 := b2.cell 4
    have d5 := b2.cell 5
    have d6 := b2.cell 6
    have d7 := b2.cell 7
    have d8 := b2.cell 8
    have d9 := b2.cell 9
    have f0 := b2.frozen 0
    have f1 := b2.frozen 1
    have f2 := b2.frozen 2
    have f3 := b2.frozen 3
    have f4 := b2.frozen 4
    have f5 := b2.frozen 5
    have f6 := b2.frozen 6
    have f7 := b2.frozen 7
    have f8 := b2.frozen 8
    have f9 := b2.frozen 9
    simp at c0 c1 c2 c3 c4 c5 c6 c7 c8 c9 d0 d1 d2 d3 d4 d5 d6 d7 d8 d9
    have HB2 := Lib.hid b2
    have HBB := Lib.hid hB
    clear b2 b3 bs hB
    go_wp2
    have b9 := ((((((((((HB2.out.set_ 0 (.int .i64 0)).set_ 1 (.int .i64 0)).set_ 2 (.int .i64 0)).set_ 3 (.int .i64 0)).set_ 4 (.int .i64 0)).set_ 5 (.bool false)).set_ 6 (.int .i64 0)).set_ 7 (.bool false)).set_ 8 (.int .i64 0)).set_ 9 (.bool false))
    simp only [List.setIfInBounds_toArray, List.set_cons_zero, List.set_cons_succ] at b9
    have q0 := b9.cell 0
    have q1 := b9.cell 1
    have q2 := b9.cell 2
    have q3 := b9.cell 3
    have q4 := b9.cell 4
    have q5 := b9.cell 5
    have q6 := b9.cell 6
    have q7 := b9.cell 7
    have q8 := b9.cell 8
    have q9 := b9.cell 9
    simp only [List.getElem?_toArray, List.getElem?_cons_zero, List.getElem?_cons_succ] at q0 q1 q2 q3 q4 q5 q6 q7 q8 q9
    have hB9 := ((((((((((HBB.out.setCell (p := ⟨w.heap.size, 0, none⟩) (Nat.le_refl _) (.int .i64 0)).setCell (p := ⟨w.heap.size, 1, none⟩) (Nat.le_refl _) (.int .i64 0)).setCell (p := ⟨w.heap.size, 2, none⟩) (Nat.le_refl _) (.int .i64 0)).setCell (p := ⟨w.heap.size, 3, none⟩) (Nat.le_refl _) (.int .i64 0)).setCell (p := ⟨w.heap.size, 4, none⟩) (Nat.le_refl _) (.int .i64 0)).setCell (p := ⟨w.heap.size, 5, none⟩) (Nat.le_refl _) (.bool false)).setCell (p := ⟨w.heap.size, 6, none⟩) (Nat.le_refl _) (.int .i64 0)).setCell (p := ⟨w.heap.size, 7, none⟩) (Nat.le_refl _) (.bool false)).setCell (p := ⟨w.heap.size, 8, none⟩) (Nat.le_refl _) (.int .i64 0)).setCell (p := ⟨w.heap.size, 9, none⟩) (Nat.le_refl _) (.bool false))
    refine ⟨rfl, .agg #[.int .i64 0, .int .i64 0, .int .i64 0, .int .i64 0, .int .i64 0, .bool false, .int .i64 0, .bool false, .int .i64 0, .bool false], ?_, rfl, hB9⟩
    simp [results, Tryz.results54, go_sem, q0, q1, q2, q3, q4, q5, q6, q7, q8, q9]
end Go.Proofs.YthicdlbelhokjaaGreat
