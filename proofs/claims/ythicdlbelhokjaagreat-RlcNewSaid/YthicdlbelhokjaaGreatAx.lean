/- rlc.New of any configuration: the walk. -/
import Derived.Test.YthicdlbelhokjaaGreatAw
namespace Go.Proofs.YthicdlbelhokjaaGreat
open Go.RowKit
attribute [local go_sem] Oper.semAt_some

/-- rlc.New's answer -/
def RNew (w : World) (m c r a0 a1 a2 a3 a4 a5 a6 : Int) (e : Ending) (w' : World) : Prop :=
  Below w.heap.size w w' ∧ ((∃ g, e = .returned (.tuple #[.pointer (some ⟨g, 0, none⟩), .int .i64 0]) ∧ validB m c r a0 a1 a2 a3 a4 a5 a6 = true ∧ Made w m m c a0 a1 a2 a3 a4 a5 a6 g w') ∨ (e = .returned (.tuple #[.pointer none, .int .i64 2]) ∧ validB m c r a0 a1 a2 a3 a4 a5 a6 = false))
set_option maxRecDepth 100000 in
set_option maxHeartbeats 1000000 in
theorem rnew_mode (m c r a0 a1 a2 a3 a4 a5 a6 : Int) (f : FuncId) (h : (m = 1 ∧ f = 42) ∨ (m = 2 ∧ f = 43) ∨ (m = 3 ∧ f = 44)) (w : World) : Calls Tryz.prog 6 #[.agg (cfg m c r a0 a1 a2 a3 a4 a5 a6)] w (RNew w m c r a0 a1 a2 a3 a4 a5 a6) := by
  have hm := fun W => mk_any m c r a0 a1 a2 a3 a4 a5 a6 f h W
  have hget := fun W : World => map_get (W.alloc (.map mk3 3)).drew W.heap.size m (heap_new W _) f h
  rcases h with ⟨-, rfl⟩ | ⟨-, rfl⟩ | ⟨-, rfl⟩
  all_goals
    unfold cfg at *
    have HM := Lib.hid hm
    have b0 := Blk.new w 26 #[.int .i64 m, .int .i64 c, .int .i64 r, .int .i64 a0, .int .i64 a1, .int .i64 a2, .int .i64 a3, .int .i64 a4, .int .i64 a5, .int .i64 a6]
    have x0 := b0.ten.1
    have hw0 := (Below.refl w.heap.size w).alloc (Nat.le_refl _) (.cells #[.int .i64 m, .int .i64 c, .int .i64 r, .int .i64 a0, .int .i64 a1, .int .i64 a2, .int .i64 a3, .int .i64 a4, .int .i64 a5, .int .i64 a6] 26)
    have HB := Lib.hid b0
    have HW := Lib.hid hw0
    clear hm b0 hw0
    go_enter Tryz.func6, Tryz.ntmps6
    go_wp2_with fail
    generalize w.alloc (.cells #[.int .i64 m, .int .i64 c, .int .i64 r, .int .i64 a0, .int .i64 a1, .int .i64 a2, .int .i64 a3, .int .i64 a4, .int .i64 a5, .int .i64 a6] 26) = w0 at *
    have hbl : w.heap.size < w0.drew.heap.size := HB.out.lt
    go_region_held3 (fun w' => w'.cell? ⟨w.heap.size, 0, none⟩ = some (.int .i64 m))
      (first | (exact (World.cell?_alloc_lt _ _ ⟨w.heap.size, 0, none⟩ hbl).trans x0) | go_keep)
      ((go_at_call 28; refine (makers_any _).mono ?_; rintro e1 w1 ⟨rfl, rfl⟩))
    clear hget
    have b1 := (HB.out.alloc (.map mk3 3)).drew
    obtain ⟨y0, y1, y2, y3, y4, y5, y6, y7, y8, y9⟩ := b1.ten
    have hW1 := (HW.out.alloc HW.out.size (.map mk3 3)).drew
    have hl1 : w.heap.size < w0.heap.size := HB.out.lt
    generalize (w0.alloc (.map mk3 3)).drew = w1 at *
    go_wp2_with fail
    refine (HM.out _).mono ?_
    rintro e2 w2 ⟨hb2, g, h2⟩
    have hz := hW1.size
    have hbw := hW1.trans (hb2.mono hz)
    have b2 := b1.below hb2 b1.lt
    have hm0 := b2.ten.1
    rcases h2 with ⟨rfl, hv, hmd⟩ | ⟨rfl, hv⟩
    · have hmd' : Made w m 0 c a0 a1 a2 a3 a4 a5 a6 g w2 := by
        rcases hmd with ⟨hm, t, h1, h2, h3, h4⟩ | ⟨hm, u, s, q, h1, h2, h3, h4, h5, h6⟩ | ⟨hm, u, a, s, r, h1, h2, h3, h5, h4, h6, h7, h8⟩
        · exact .inl ⟨hm, t, h1, h2, by omega, by omega⟩
        · exact .inr (.inl ⟨hm, u, s, q, h1, h2, h3, by omega, by omega, by omega⟩)
        · exact .inr (.inr ⟨hm, u, a, s, r, h1, h2, h3, h5, by omega, by omega, by omega, by omega⟩)
      obtain ⟨x, y, hg, hgl⟩ := hmd'.head
      have g0 := hg.cell 0
      simp at g0
      have f0 := hg.frozen 0
      have HMD := Lib.hid hmd'
      have HBW := Lib.hid hbw
      clear hmd hmd' hg HM y0 y1 y2 y3 y4 y5 y6 y7 y8 y9 b1 b2 hb2 hbw
      go_wp2
      go_ret2
      exact ⟨HBW.out.setCell (p := ⟨g, 0, none⟩) hgl _, .inl ⟨g, rfl, hv, HMD.out.put m⟩⟩
    · have HBW := Lib.hid hbw
      clear HM y0 y1 y2 y3 y4 y5 y6 y7 y8 y9 b1 b2 hb2 hbw
      go_wp2
      go_ret2
      exact ⟨HBW.out, .inr ⟨rfl, hv⟩⟩
set_option maxRecDepth 100000 in
set_option maxHeartbeats 1000000 in
theorem rnew_bad (m c r a0 a1 a2 a3 a4 a5 a6 : Int) (h : m < 1 ∨ 3 < m) (w : World) : Calls Tryz.prog 6 #[.agg (cfg m c r a0 a1 a2 a3 a4 a5 a6)] w (RNew w m c r a0 a1 a2 a3 a4 a5 a6) := by
  have hv : validB m c r a0 a1 a2 a3 a4 a5 a6 = false := by
    unfold validB
    rw [if_neg (by omega), if_neg (by omega), if_neg (by omega)]
  have hget := fun W : World => map_not (W.alloc (.map mk3 3)).drew W.heap.size m (heap_new W _) h
  unfold cfg at *
  have b0 := Blk.new w 26 #[.int .i64 m, .int .i64 c, .int .i64 r, .int .i64 a0, .int .i64 a1, .int .i64 a2, .int .i64 a3, .int .i64 a4, .int .i64 a5, .int .i64 a6]
  have x0 := b0.ten.1
  have hw0 := (Below.refl w.heap.size w).alloc (Nat.le_refl _) (.cells #[.int .i64 m, .int .i64 c, .int .i64 r, .int .i64 a0, .int .i64 a1, .int .i64 a2, .int .i64 a3, .int .i64 a4, .int .i64 a5, .int .i64 a6] 26)
  have HB := Lib.hid b0
  have HW := Lib.hid hw0
  have HV := Lib.hid hv
  clear b0 hw0 h hv
  go_enter Tryz.func6, Tryz.ntmps6
  go_wp2_with fail
  generalize w.alloc (.cells #[.int .i64 m, .int .i64 c, .int .i64 r, .int .i64 a0, .int .i64 a1, .int .i64 a2, .int .i64 a3, .int .i64 a4, .int .i64 a5, .int .i64 a6] 26) = w0 at *
  have hbl : w.heap.size < w0.drew.heap.size := HB.out.lt
  go_region_held3 (fun w' => w'.cell? ⟨w.heap.size, 0, none⟩ = some (.int .i64 m))
    (first | (exact (World.cell?_alloc_lt _ _ ⟨w.heap.size, 0, none⟩ hbl).trans x0) | go_keep)
    ((go_at_call 28; refine (makers_any _).mono ?_; rintro e1 w1 ⟨rfl, rfl⟩))
  clear hget
  have hW1 := (HW.out.alloc HW.out.size (.map mk3 3)).drew
  have HW1 := Lib.hid hW1
  clear hW1
  go_wp2_with fail
  go_ret2
  exact ⟨HW1.out, .inr ⟨rfl, HV.out⟩⟩
theorem rnew_any (m c r a0 a1 a2 a3 a4 a5 a6 : Int) (w : World) : Calls Tryz.prog 6 #[.agg (cfg m c r a0 a1 a2 a3 a4 a5 a6)] w (RNew w m c r a0 a1 a2 a3 a4 a5 a6) := by
  by_cases h : m < 1 ∨ 3 < m
  · exact rnew_bad m c r a0 a1 a2 a3 a4 a5 a6 h w
  · obtain h | h | h : m = 1 ∨ m = 2 ∨ m = 3 := by omega
    · exact rnew_mode m c r a0 a1 a2 a3 a4 a5 a6 42 (.inl ⟨h, rfl⟩) w
    · exact rnew_mode m c r a0 a1 a2 a3 a4 a5 a6 43 (.inr (.inl ⟨h, rfl⟩)) w
    · exact rnew_mode m c r a0 a1 a2 a3 a4 a5 a6 44 (.inr (.inr ⟨h, rfl⟩)) w
end Go.Proofs.YthicdlbelhokjaaGreat
