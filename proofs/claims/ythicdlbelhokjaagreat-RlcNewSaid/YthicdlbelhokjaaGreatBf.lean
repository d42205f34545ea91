/- am, rlc: Failed, Confirmed, Unconfirmed of a new entity. -/
import Derived.Test.YthicdlbelhokjaaGreatBe
namespace Go.Proofs.YthicdlbelhokjaaGreat
open Go.RowKit Go.Shelf
attribute [local go_sem] Oper.semAt_some

set_option maxRecDepth 100000 in
set_option maxHeartbeats 1000000 in
theorem sending_new (a s r : Nat) (a0 a1 a2 a3 a4 a5 a6 : Int) (w : World) (ha : Blk w a 101 #[.pointer (some ⟨s, 0, none⟩), .pointer (some ⟨r, 0, none⟩)]) (h : SndB w s a0 a1 a2 a3 a4 a5 a6) (h2 : (a2 == 0) = false) : Calls Tryz.prog 48 #[.pointer (some ⟨a, 0, none⟩)] w (StOut w) := by
  have hA := ha.alloc (.cells st0 126)
  have hn := amnone_any a s r _ hA
  have hst := state_new s a0 a1 a2 a3 a4 a5 a6 _ (h.alloc (.cells st0 126)) h2
  have x0 := hA.cell 0
  simp only [List.getElem?_toArray, List.getElem?_cons_zero] at x0
  have HN := Lib.hid hn
  have HS := Lib.hid hst
  have HB := Lib.hid ((Below.refl w.heap.size w).alloc (Nat.le_refl _) (.cells st0 126))
  have HT := Lib.hid (Blk.new w 126 st0)
  clear hn hst hA ha h
  unfold st0 at *
  go_enter Tryz.func48, Tryz.ntmps48
  go_wp2_with (go_at_call 49; refine HN.out.mono ?_; rintro e1 w1 ⟨rfl, rfl⟩)
  refine HS.out.mono ?_
  rintro e1 W ⟨rfl, hk⟩
  have hB := HB.out.trans (hk.mono HB.out.size)
  have b2 := HT.out.below hk HT.out.lt
  have d0 := b2.cell 0
  have d1 := b2.cell 1
  have d2 := b2.cell 2
  have d3 := b2.cell 3
  have d4 := b2.cell 4
  have d5 := b2.cell 5
  have d6 := b2.cell 6
  have d7 := b2.cell 7
  have d8 := b2.cell 8
  have d9 := b2.cell 9
  have f0 := b2.frozen 0
  have f1 := b2.frozen 1
  have f2 := b2.frozen 2
  have f3 := b2.frozen 3
  have f4 := b2.frozen 4
  have f5 := b2.frozen 5
  have f6 := b2.frozen 6
  have f7 := b2.frozen 7
  have f8 := b2.frozen 8
  have f9 := b2.frozen 9
  simp at d0 d1 d2 d3 d4 d5 d6 d7 d8 d9
  have HB2 := Lib.hid b2
  have HBB := Lib.hid hB
  clear b2 hB hk HS HB HT
  unfold st0
  go_wp2
  have b9 := ((((((((((HB2.out.set_ 0 (.int .i64 0)).set_ 1 (.int .i64 0)).set_ 2 (.int .i64 0)).set_ 3 (.int .i64 0)).set_ 4 (.int .i64 0)).set_ 5 (.bool false)).set_ 6 (.int .i64 0)).set_ 7 (.bool false)).set_ 8 (.int .i64 0)).set_ 9 (.bool false))
  simp only [List.setIfInBounds_toArray, List.set_cons_zero, List.set_cons_succ] at b9
  have q0 := b9.cell 0
  have q1 := b9.cell 1
  have q2 := b9.cell 2
  have q3 := b9.cell 3
  have q4 := b9.cell 4
  have q5 := b9.cell 5
  have q6 := b9.cell 6
  have q7 := b9.cell 7
  have q8 := b9.cell 8
  have q9 := b9.cell 9
  simp only [List.getElem?_toArray, List.getElem?_cons_zero, List.getElem?_cons_succ] at q0 q1 q2 q3 q4 q5 q6 q7 q8 q9
  have hB9 := ((((((((((HBB.out.setCell (p := ⟨w.heap.size, 0, none⟩) (Nat.le_refl _) (.int .i64 0)).setCell (p := ⟨w.heap.size, 1, none⟩) (Nat.le_refl _) (.int .i64 0)).setCell (p := ⟨w.heap.size, 2, none⟩) (Nat.le_refl _) (.int .i64 0)).setCell (p := ⟨w.heap.size, 3, none⟩) (Nat.le_refl _) (.int .i64 0)).setCell (p := ⟨w.heap.size, 4, none⟩) (Nat.le_refl _) (.int .i64 0)).setCell (p := ⟨w.heap.size, 5, none⟩) (Nat.le_refl _) (.bool false)).setCell (p := ⟨w.heap.size, 6, none⟩) (Nat.le_refl _) (.int .i64 0)).setCell (p := ⟨w.heap.size, 7, none⟩) (Nat.le_refl _) (.bool false)).setCell (p := ⟨w.heap.size, 8, none⟩) (Nat.le_refl _) (.int .i64 0)).setCell (p := ⟨w.heap.size, 9, none⟩) (Nat.le_refl _) (.bool false))
  refine ⟨rfl, .agg #[.int .i64 0, .int .i64 0, .int .i64 0, .int .i64 0, .int .i64 0, .bool false, .int .i64 0, .bool false, .int .i64 0, .bool false], ?_, rfl, hB9⟩
  simp [results, Tryz.results48, go_sem, q0, q1, q2, q3, q4, q5, q6, q7, q8, q9]
theorem field_9 (W : World) : (Instr.field 126 (.agg #[.int .i64 0, .int .i64 0, .int .i64 0, .int .i64 0, .int .i64 0, .bool false, .int .i64 0, .bool false, .int .i64 0, .bool false]) 9).run Tryz.prog W = .ok (.bool false) W := by kernel_rfl
theorem field_8 (W : World) : (Instr.field 126 (.agg #[.int .i64 0, .int .i64 0, .int .i64 0, .int .i64 0, .int .i64 0, .bool false, .int .i64 0, .bool false, .int .i64 0, .bool false]) 8).run Tryz.prog W = .ok (.int .i64 0) W := by kernel_rfl
set_option maxRecDepth 100000 in
theorem amfailed_new (a s r : Nat) (a0 a1 a2 a3 a4 a5 a6 : Int) (w : World) (ha : Blk w a 101 #[.pointer (some ⟨s, 0, none⟩), .pointer (some ⟨r, 0, none⟩)]) (h : SndB w s a0 a1 a2 a3 a4 a5 a6) (h2 : (a2 == 0) = false) : Calls Tryz.prog 38 #[.pointer (some ⟨a, 0, none⟩)] w fun e w' => e = .returned (.bool false) ∧ Below w.heap.size w w' := by
  have HS := Lib.hid (sending_new a s r a0 a1 a2 a3 a4 a5 a6 w ha h h2)
  unfold StOut st0 at HS
  have hf9 := field_9
  have hf8 := field_8
  clear ha h
  go_enter Tryz.func38, Tryz.ntmps38
  go_wp2_with (go_at_call 48; refine HS.out.mono ?_; rintro e1 w1 ⟨rfl, hb⟩)
  go_ret
  exact ⟨rfl, hb⟩
set_option maxRecDepth 100000 in
theorem amconfirmed_new (a s r : Nat) (a0 a1 a2 a3 a4 a5 a6 : Int) (w : World) (ha : Blk w a 101 #[.pointer (some ⟨s, 0, none⟩), .pointer (some ⟨r, 0, none⟩)]) (h : SndB w s a0 a1 a2 a3 a4 a5 a6) (h2 : (a2 == 0) = false) : Calls Tryz.prog 39 #[.pointer (some ⟨a, 0, none⟩)] w (NumB 0 w) := by
  have HS := Lib.hid (sending_new a s r a0 a1 a2 a3 a4 a5 a6 w ha h h2)
  unfold StOut st0 at HS
  have hf9 := field_9
  have hf8 := field_8
  clear ha h
  go_enter Tryz.func39, Tryz.ntmps39
  go_wp2_with (go_at_call 48; refine HS.out.mono ?_; rintro e1 w1 ⟨rfl, hb⟩)
  go_ret
  exact ⟨rfl, hb⟩
theorem sunconf_new (s : Nat) (a0 a1 a2 a3 a4 a5 a6 : Int) (w : World) (h : SndB w s a0 a1 a2 a3 a4 a5 a6) (h2 : (a2 == 0) = false) : Calls Tryz.prog 50 #[.pointer (some ⟨s, 0, none⟩)] w fun e w' => e = .returned (.slice none 0 0) ∧ w' = w := by
  have HC := Lib.hid (check_new s a0 a1 a2 a3 a4 a5 a6 w h h2)
  obtain ⟨y0, y1, y2, y3, y4, y5, y6, y7, y8, y9, y10⟩ := k8_of h
  clear h
  go_enter Tryz.func50, Tryz.ntmps50
  go_wp2_with (go_at_call 55; refine HC.out.mono ?_; rintro e1 w1 ⟨rfl, rfl⟩)
  go_loop [2, 13] (fun l i => l = .slice none 0 0 ∧ i = .int .i64 0) (fun _ _ => 0)
  case atStart => exact ⟨rfl, rfl⟩
  case round =>
    obtain ⟨rfl, rfl⟩ := hrel
    go_wp2
    go_ret
    exact ⟨rfl, rfl⟩
theorem amunconf_new (a s r : Nat) (a0 a1 a2 a3 a4 a5 a6 : Int) (w : World) (ha : Blk w a 101 #[.pointer (some ⟨s, 0, none⟩), .pointer (some ⟨r, 0, none⟩)]) (h : SndB w s a0 a1 a2 a3 a4 a5 a6) (h2 : (a2 == 0) = false) : Calls Tryz.prog 40 #[.pointer (some ⟨a, 0, none⟩)] w fun e w' => e = .returned (.slice none 0 0) ∧ w' = w := by
  have HN := Lib.hid (amnone_any a s r w ha)
  have HU := Lib.hid (sunconf_new s a0 a1 a2 a3 a4 a5 a6 w h h2)
  have x0 := ha.cell 0
  simp only [List.getElem?_toArray, List.getElem?_cons_zero] at x0
  clear ha h
  go_enter Tryz.func40, Tryz.ntmps40
  go_wp2_with (first | (go_at_call 49; refine HN.out.mono ?_; rintro e1 w1 ⟨rfl, rfl⟩) | (go_at_call 50; refine HU.out.mono ?_; rintro e1 w1 ⟨rfl, rfl⟩))
  go_ret
  exact ⟨rfl, rfl⟩
end Go.Proofs.YthicdlbelhokjaaGreat
