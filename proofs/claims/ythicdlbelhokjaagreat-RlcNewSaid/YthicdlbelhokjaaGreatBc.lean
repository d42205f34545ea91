/- am: Buffered of a new entity. -/
import Derived.Test.YthicdlbelhokjaaGreatBb
namespace Go.Proofs.YthicdlbelhokjaaGreat
open Go.RowKit Go.Shelf
attribute [local go_sem] Oper.semAt_some

/-- a new sender, and what its cells hold -/
abbrev SndB (W : World) (s : Nat) (a0 a1 a2 a3 a4 a5 a6 : Int) : Prop := Blk W s 121 (snd21 a0 a1 a2 a3 a4 a5 a6)
def K8 (W : World) (s : Nat) (a2 : Int) : Prop :=
  W.cell? ⟨s, 2, none⟩ = some (.int .i64 a2) ∧ W.cell? ⟨s, 7, none⟩ = some (.slice none 0 0) ∧ W.cell? ⟨s, 8, none⟩ = some (.int .i64 0) ∧ W.cell? ⟨s, 10, none⟩ = some (.int .i64 0) ∧ W.cell? ⟨s, 11, none⟩ = some (.int .i64 0) ∧ W.cell? ⟨s, 12, none⟩ = some (.slice none 0 0) ∧ W.cell? ⟨s, 13, none⟩ = some (.int .i64 0) ∧
  W.cell? ⟨s, 14, none⟩ = some (.int .i64 0) ∧ W.cell? ⟨s, 16, none⟩ = some (.bool false) ∧ W.cell? ⟨s, 18, none⟩ = some (.bool false) ∧ W.cell? ⟨s, 19, none⟩ = some (.bool false)
theorem k8_of {W : World} {s : Nat} {a0 a1 a2 a3 a4 a5 a6 : Int} (b : SndB W s a0 a1 a2 a3 a4 a5 a6) : K8 W s a2 :=
  ⟨b.cell 2, b.cell 7, b.cell 8, b.cell 10, b.cell 11, b.cell 12, b.cell 13, b.cell 14, b.cell 16, b.cell 18, b.cell 19⟩
theorem amnone_any (a s r : Nat) (w : World) (h : Blk w a 101 #[.pointer (some ⟨s, 0, none⟩), .pointer (some ⟨r, 0, none⟩)]) : Calls Tryz.prog 49 #[.pointer (some ⟨a, 0, none⟩)] w fun e w' => e = .returned (.bool false) ∧ w = w' := by
  have x1 := h.cell 1
  simp at x1
  clear h
  go_enter Tryz.func49, Tryz.ntmps49
  go_wp2
  go_ret
  exact ⟨rfl, rfl⟩
theorem check_new (s : Nat) (a0 a1 a2 a3 a4 a5 a6 : Int) (w : World) (h : SndB w s a0 a1 a2 a3 a4 a5 a6) (h2 : (a2 == 0) = false) : Calls Tryz.prog 55 #[.pointer (some ⟨s, 0, none⟩)] w fun e w' => e = .returned (.int .i64 0) ∧ w = w' := by
  obtain ⟨y0, y1, y2, y3, y4, y5, y6, y7, y8, y9, y10⟩ := k8_of h
  clear h
  go_enter Tryz.func55, Tryz.ntmps55
  go_wp2
  go_ret
  exact ⟨rfl, rfl⟩
theorem held_new (s : Nat) (a0 a1 a2 a3 a4 a5 a6 : Int) (w : World) (h : SndB w s a0 a1 a2 a3 a4 a5 a6) : Calls Tryz.prog 104 #[.pointer (some ⟨s, 0, none⟩)] w fun e w' => e = .returned (.int .i64 0) ∧ w = w' := by
  obtain ⟨y0, y1, y2, y3, y4, y5, y6, y7, y8, y9, y10⟩ := k8_of h
  clear h
  go_enter Tryz.func104, Tryz.ntmps104
  go_wp2
  go_loop [2, 10] (fun s i => s = .int .i64 0 ∧ i = .int .i64 0) (fun _ _ => 0)
  case atStart => exact ⟨rfl, rfl⟩
  case round =>
    obtain ⟨rfl, rfl⟩ := hrel
    go_wp2
    go_ret
    exact ⟨rfl, rfl⟩
/-- what Pending gives -/
def PendOut (w : World) (e : Ending) (w' : World) : Prop :=
  ∃ G, e = .returned (.func (.func 132) #[] #[.pointer (some ⟨G, 0, none⟩)]) ∧ Blk w' G 166 #[.slice none 0 0] ∧ Below w.heap.size w w'
set_option maxRecDepth 10000 in
set_option maxHeartbeats 1000000 in
theorem pending_new (s : Nat) (a0 a1 a2 a3 a4 a5 a6 : Int) (w : World) (h : SndB w s a0 a1 a2 a3 a4 a5 a6) (h2 : (a2 == 0) = false) : Calls Tryz.prog 105 #[.pointer (some ⟨s, 0, none⟩)] w (PendOut w) := by
  have hA := h.alloc (.cells #[.slice none 0 0] 166)
  have hch := check_new s a0 a1 a2 a3 a4 a5 a6 _ hA h2
  obtain ⟨y0, y1, y2, y3, y4, y5, y6, y7, y8, y9, y10⟩ := k8_of hA
  have bG := Blk.new w 166 #[.slice none 0 0]
  have hB := (Below.refl w.heap.size w).alloc (Nat.le_refl _) (.cells #[.slice none 0 0] 166)
  have HC := Lib.hid hch
  have HG := Lib.hid bG
  have HB := Lib.hid hB
  clear hA h hch bG hB
  go_enter Tryz.func105, Tryz.ntmps105
  go_wp2_with (go_at_call 55; refine HC.out.mono ?_; rintro e1 w1 ⟨rfl, rfl⟩)
  generalize w.alloc (.cells #[.slice none 0 0] 166) = w0 at *
  go_loop [17] (fun i => i = .int .i64 0) (fun _ => 0)
  case atStart => rfl
  case round =>
    subst hrel
    go_wp2
    go_ret
    exact ⟨_, rfl, HG.out, HB.out⟩
set_option maxRecDepth 100000 in
set_option maxHeartbeats 2000000 in
theorem pending1_none (n : Nat) (hn : 1 ≤ n) (G : Nat) (w : World) (hg : Blk w G 166 #[.slice none 0 0]) :
    SeqIdx Fence.wide n Tryz.prog 132 #[.pointer (some ⟨G, 0, none⟩)] noVals 0 (fun _ _ => True) w := fun l J W hW _ _ h0 => by
  have hg' := hg.below hW hg.lt
  refine callsIn_of_wp Tryz.func132 rfl trivial ?_ rfl
  simp only [Tryz.ntmps132, List.size_toArray, List.length_cons, List.length_nil, Nat.reduceAdd, Nat.reduceSub, Array.replicate_succ, Array.replicate_zero, List.push_toArray, List.append_toArray, List.nil_append, List.cons_append]
  have hcw := hg'.cell 0
  simp at hcw
  refine wpInW_scope ?_
  gi_wp2
  refine wpIn_label ?_
  gi_wp2
  gi_loopw [7] (fun i wr => i = .int .i64 0 ∧ J 0 wr) (fun _ _ => 0)
  case atStart => exact ⟨rfl, h0⟩
  case round =>
    obtain ⟨rfl, hJs⟩ := hrel
    gi_wp2
    first
      | go_end0
      | (rw [Exit.noGoto_normal]; go_end0)
    exact ⟨⟨_, rfl⟩, hJs⟩
end Go.Proofs.YthicdlbelhokjaaGreat
