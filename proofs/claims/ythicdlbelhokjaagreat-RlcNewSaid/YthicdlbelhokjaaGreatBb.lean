/- umsend: Buffered of a new sender. -/
import Derived.Test.YthicdlbelhokjaaGreatBa
namespace Go.Proofs.YthicdlbelhokjaaGreat
open Go.RowKit Go.Shelf
attribute [local go_sem] Oper.semAt_some

/-- a new sender of umsend -/
abbrev snd4 (c : Int) : Array Value := #[.slice none 0 0, .int .i64 0, .int .i64 c, .int .i64 0]
theorem usnone_any (s : Nat) (c : Int) (w : World) (hs : Blk w s 82 (snd4 c)) (h1 : 1 ≤ c) : Calls Tryz.prog 256 #[.pointer (some ⟨s, 0, none⟩)] w fun e w' => e = .returned (.bool false) ∧ w = w' := by
  have x2 := hs.cell 2
  simp [snd4] at x2
  have h0 : (c == 0) = false := by simp; omega
  clear hs
  go_enter Tryz.func256, Tryz.ntmps256
  go_wp2
  go_ret
  exact ⟨rfl, rfl⟩
theorem clone_nil (w : World) : Calls Tryz.prog 106 #[.slice none 0 0] w fun e w' => e = .returned (.slice none 0 0) ∧ w = w' := by
  have hnil := fun (W : World) => Lib.run_eql_slice_nil (P := Tryz.prog) W 43 51 none 0 0 0 0 und43
  go_enter Tryz.func106, Tryz.ntmps106
  go_wp2
  go_ret
  exact ⟨rfl, rfl⟩
theorem cell_two_other (w : World) {g k : Nat} (hne : g ≠ k) (i : Nat) (u0 u1 : Value) : ((w.setCell ⟨k, 0, none⟩ u0).setCell ⟨k, 1, none⟩ u1).cell? ⟨g, i, none⟩ = w.cell? ⟨g, i, none⟩ :=
  (World.cell?_setCell_other _ ⟨k, 1, none⟩ ⟨g, i, none⟩ _ (fun e => hne (by cases e; rfl))).trans (World.cell?_setCell_other _ ⟨k, 0, none⟩ ⟨g, i, none⟩ _ (fun e => hne (by cases e; rfl)))
/-- what Unsent gives -/
def UnsentOut (w : World) (e : Ending) (w' : World) : Prop :=
  ∃ G, e = .returned (.func (.func 257) #[] #[.pointer (some ⟨G, 0, none⟩)]) ∧ w.heap.size ≤ G ∧ Blk w' G 80 #[.slice none 0 0, .int .i64 0] ∧ Below w.heap.size w w'
set_option maxRecDepth 10000 in
set_option maxHeartbeats 1000000 in
theorem unsent_new (s : Nat) (c : Int) (w : World) (hs : Blk w s 82 (snd4 c)) (h1 : 1 ≤ c) : Calls Tryz.prog 249 #[.pointer (some ⟨s, 0, none⟩)] w (UnsentOut w) := by
  have hno := usnone_any s c _ (hs.alloc (.cells #[.slice none 0 0, .int .i64 0] 80)) h1
  have hsl := hs.lt
  have hA := hs.alloc (.cells #[.slice none 0 0, .int .i64 0] 80)
  have x0 := hA.cell 0
  have x1 := hA.cell 1
  simp only [snd4, List.getElem?_toArray, List.getElem?_cons_zero, List.getElem?_cons_succ] at x0 x1
  have bG := Blk.new w 80 #[.slice none 0 0, .int .i64 0]
  have g0 := bG.frozen 0
  have g1 := bG.frozen 1
  have q0 := bG.cell 0
  have q1 := bG.cell 1
  simp only [List.getElem?_toArray, List.getElem?_cons_zero, List.getElem?_cons_succ] at q0 q1
  have hB := (Below.refl w.heap.size w).alloc (Nat.le_refl _) (.cells #[.slice none 0 0, .int .i64 0] 80)
  have hne : s ≠ w.heap.size := by omega
  have HN := Lib.hid hno
  have HB := Lib.hid hB
  have HG := Lib.hid bG
  clear hno hB bG hA hs
  go_enter Tryz.func249, Tryz.ntmps249
  go_wp2_with (go_at_call 256; refine HN.out.mono ?_; rintro e1 w1 ⟨rfl, rfl⟩)
  generalize w.alloc (.cells #[.slice none 0 0, .int .i64 0] 80) = w0 at *
  go_region_held_law (fun w' => w'.cell? ⟨s, 0, none⟩ = some (.slice none 0 0) ∧ w'.cell? ⟨s, 1, none⟩ = some (.int .i64 0))
    (first | exact ⟨x0, x1⟩ | (exact ⟨(cell_two_other w0 hne 0 _ _).trans x0, (cell_two_other w0 hne 1 _ _).trans x1⟩) | go_keep)
    ((go_at_call 106; refine (clone_nil _).mono ?_; rintro e1 w1 ⟨rfl, rfl⟩))
  all_goals
    go_wp2
    go_ret
    refine ⟨w.heap.size, rfl, Nat.le_refl _, ?_, ?_⟩
    · have b := (HG.out.set_ 0 (.slice none 0 0)).set_ 1 (.int .i64 0)
      simp at b
      exact b.drew
    · exact (HB.out.drew.setCell (p := ⟨w.heap.size, 0, none⟩) (Nat.le_refl _) _).setCell (p := ⟨w.heap.size, 1, none⟩) (Nat.le_refl _) _

theorem wpInW_scope {n : Nat} {P : Program} {c : Code} {Q : Exit → Act → World → Prop} {a : Act} {w : World} (h : c.wpIn Fence.wide n P (Exit.noGoto Q) a w) : (Code.scope c).wpIn Fence.wide n P Q a w :=
  wpIn_wide.2 (wp_scope_straight (wpIn_wide.1 h))
/-- no element -/
def noVals (_ : Nat) : Array Value := #[.int .i64 0, .int .i64 0]
set_option maxRecDepth 100000 in
set_option maxHeartbeats 2000000 in
theorem unsent1_none (n : Nat) (hn : 1 ≤ n) (G : Nat) (w : World) (hg : Blk w G 80 #[.slice none 0 0, .int .i64 0]) :
    SeqIdx Fence.wide n Tryz.prog 257 #[.pointer (some ⟨G, 0, none⟩)] noVals 0 (fun _ _ => True) w := fun l J W hW _ _ h0 => by
  have hg' := hg.below hW hg.lt
  refine callsIn_of_wp Tryz.func257 rfl trivial ?_ rfl
  simp only [Tryz.ntmps257, List.size_toArray, List.length_cons, List.length_nil, Nat.reduceAdd, Nat.reduceSub, Array.replicate_succ, Array.replicate_zero, List.push_toArray, List.append_toArray, List.nil_append, List.cons_append]
  have hcw := hg'.cell 0
  have hcw1 := hg'.cell 1
  simp at hcw hcw1
  refine wpInW_scope ?_
  gi_wp2
  refine wpIn_label ?_
  gi_wp2
  gi_loopw [3, 11] (fun s i wr => i = .int .i64 0 ∧ s = .int .i64 0 ∧ J 0 wr) (fun _ i _ => 0)
  case atStart => exact ⟨rfl, rfl, h0⟩
  case round =>
    obtain ⟨rfl, rfl, hJs⟩ := hrel
    gi_wp2
    first
      | go_end0
      | (rw [Exit.noGoto_normal]; go_end0)
    exact ⟨⟨_, rfl⟩, hJs⟩
/-- a number, in more memory -/
def NumB (x : Int) (w : World) (e : Ending) (w' : World) : Prop := e = .returned (.int .i64 x) ∧ Below w.heap.size w w'
set_option maxRecDepth 100000 in
set_option maxHeartbeats 2000000 in
theorem ubuffered_new (s : Nat) (c : Int) (w : World) (hs : Blk w s 82 (snd4 c)) (h1 : 1 ≤ c) : Calls Tryz.prog 78 #[.pointer (some ⟨s, 0, none⟩)] w (NumB 0 w) := by
  refine (callsIn_wide (n := 5)).1 ?_
  have hun := unsent_new s c _ (hs.alloc (.cells #[.int .i64 0] 3)) h1
  have bn := Blk.new w 3 #[.int .i64 0]
  have hB := (Below.refl w.heap.size w).alloc (Nat.le_refl _) (.cells #[.int .i64 0] 3)
  have HUN := Lib.hid hun
  have HB := Lib.hid hB
  have HN := Lib.hid bn
  clear hun hB bn hs
  refine callsIn_of_wp_marks Tryz.func78 rfl trivial ?_ rfl
  simp only [Tryz.ntmps78, List.size_toArray, List.length_cons, List.length_nil, Nat.reduceAdd, Nat.reduceSub, Array.replicate_succ, Array.replicate_zero, List.push_toArray, List.append_toArray, List.nil_append, List.cons_append]
  refine wpIn_wide.2 ?_
  go_wp2_with fail
  refine HUN.out.mono ?_
  rintro e1 w1 ⟨G, rfl, hG, bG, hb1⟩
  have bn1 := HN.out.below hb1 HN.out.lt
  have hB1 := HB.out.trans (hb1.mono HB.out.size)
  simp only [World.size_alloc] at hG
  go_wp2_with fail
  have hnl := bn1.lt
  apply wpIn_wide (n := 5).1
  apply wpIn_range_idx (gf := 257) (lb := #[.pointer (some ⟨G, 0, none⟩)]) rfl (by omega) rfl trivial (enters_of Tryz.func257 (by kernel_rfl) rfl)
    (unsent1_none _ (by omega) G w1 bG) (fun _ _ => trivial) (fun _ _ _ _ _ _ _ _ => trivial) (Below.refl _ _) (fun _ => rfl)
    (fun _ W => Below w1.heap.size w1 W) (fun _k X _Y _row hs hg hr => hs.grown hg hs.size (fun r e => (hr r e).1)) (Below.refl _ _)
  case hassign =>
    intro l k W K hK
    simp only [noVals]
    gi_wp2
    exact hK
  case hbody =>
    intro l k W hk hI
    exact absurd hk (Nat.not_lt_zero _)
  case hdone =>
    intro D W hD hI hDef
    have bk := bn1.below hI hnl
    have hBW : Below w.heap.size w W := hB1.trans (hI.mono hB1.size)
    have y0 := bk.cell 0
    have yf := bk.frozen 0
    simp at y0
    have bk2 := bk.set_ 0 (.int .i64 0)
    simp at bk2
    have hDef2 : (W.setCell ⟨w.heap.size, 0, none⟩ (.int .i64 0)).heap[D]? = some (.deferred (some [])) := (KeepsOthers.setCell W ⟨w.heap.size, 0, none⟩ (.int .i64 0)).same D _ hDef rfl
    have hr : ∀ r, some D = some r → ∃ o : Obj, (W.setCell ⟨w.heap.size, 0, none⟩ (.int .i64 0)).heap[r]? = some o ∧ o.isCells = false := fun r e => by cases e; exact ⟨_, hDef2, rfl⟩
    have bk3 := blk_quiet' bk2 (grownBy_putObj' _ D (.deferred none)) hr
    have hBW2 := (hBW.setCell (p := ⟨w.heap.size, 0, none⟩) (Nat.le_refl _) (.int .i64 0)).grown (grownBy_putObj' _ D (.deferred none)) (by have := hBW.size; simp [World.setCell]; omega) (fun j hj => by cases hj; have := hB1.size; omega)
    have HR := Lib.hid hDef2
    have H3 := Lib.hid bk3
    have HB2 := Lib.hid hBW2
    clear hDef2 hr bk2 bk3 hBW2 hBW hDef
    gi_wp2
    go_wp2
    have q0 := H3.out.cell 0
    refine ⟨by simp, .inl ⟨_, _, rfl, run_takeDeferred HR.out, ?_⟩⟩
    exact ⟨.int .i64 0, by simp [results, Tryz.results78, go_sem, q0], rfl, HB2.out⟩
end Go.Proofs.YthicdlbelhokjaaGreat
