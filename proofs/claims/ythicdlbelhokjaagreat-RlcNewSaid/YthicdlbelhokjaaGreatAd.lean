/- rlc: the constructor of transparent mode, New. -/
import Derived.Test.YthicdlbelhokjaaGreatAc
namespace Go.Proofs.YthicdlbelhokjaaGreat
open Go.RowKit
attribute [local go_sem] Oper.semAt_some

/-- a configuration's cells -/
def cfg (m c r a0 a1 a2 a3 a4 a5 a6 : Int) : Array Value := #[.int .i64 m, .int .i64 c, .int .i64 r, .int .i64 a0, .int .i64 a1, .int .i64 a2, .int .i64 a3, .int .i64 a4, .int .i64 a5, .int .i64 a6]
/-- a new entity of transparent mode -/
def NewT (w : World) (k c : Int) (g t : Nat) (w' : World) : Prop :=
  Blk w' g 67 #[.int .i64 k, .iface 108 (.pointer (some ⟨t, 0, none⟩)), .pointer none] ∧ Blk w' t 112 #[.slice none 0 0, .int .i64 c] ∧ w.heap.size ≤ g ∧ w.heap.size ≤ t ∧ g ≠ t ∧ Below w.heap.size w w'
def Mk1Out (w : World) (c : Int) (ok : Bool) (e : Ending) (w' : World) : Prop := ∃ g t, e = .returned (.tuple #[.pointer (some ⟨g, 0, none⟩), .bool ok]) ∧ NewT w 0 c g t w'
set_option maxHeartbeats 1000000 in
theorem mk1_any (m c r a0 a1 a2 a3 a4 a5 a6 : Int) (w : World) : Calls Tryz.prog 42 #[.agg (cfg m c r a0 a1 a2 a3 a4 a5 a6)] w (Mk1Out w c (decide (1 ≤ c) && decide (c ≤ 1048576))) := by
  unfold cfg
  by_cases h1 : 1 ≤ c
  · have d : (decide (1 ≤ c) && decide (c ≤ 1048576)) = decide (c ≤ 1048576) := by simp [h1]
    have HD := Lib.hid d
    clear d
    go_enter Tryz.func42, Tryz.ntmps42
    go_wp2
    go_region
    all_goals
      go_wp2_with fail
      go_ret2
      refine ⟨w.heap.size + 1 + 1, w.heap.size + 1, by rw [HD.out]; rfl, ?_, ?_, by omega, by omega, by omega, ?_⟩
      · have b := Blk.new ((w.alloc (.cells #[.int .i64 m, .int .i64 c, .int .i64 r, .int .i64 a0, .int .i64 a1, .int .i64 a2, .int .i64 a3, .int .i64 a4, .int .i64 a5, .int .i64 a6] 26)).alloc (.cells #[.slice none 0 0, .int .i64 c] 112)) 67 #[.int .i64 0, .iface 108 (.pointer (some ⟨w.heap.size + 1, 0, none⟩)), .pointer none]
        simp only [World.size_alloc] at b
        exact b.drew
      · have b := (Blk.new (w.alloc (.cells #[.int .i64 m, .int .i64 c, .int .i64 r, .int .i64 a0, .int .i64 a1, .int .i64 a2, .int .i64 a3, .int .i64 a4, .int .i64 a5, .int .i64 a6] 26)) 112 #[.slice none 0 0, .int .i64 c]).alloc (.cells #[.int .i64 0, .iface 108 (.pointer (some ⟨w.heap.size + 1, 0, none⟩)), .pointer none] 67)
        simp only [World.size_alloc] at b
        exact b.drew
      · exact ((((Below.refl w.heap.size w).alloc (Nat.le_refl _) _).alloc (by simp) _).alloc (by simp; omega) _).drew
  · have d : (decide (1 ≤ c) && decide (c ≤ 1048576)) = false := by simp [h1]
    have HD := Lib.hid d
    have h1' : decide ((1 : Int) ≤ c) = false := by simpa using h1
    clear d h1
    go_enter Tryz.func42, Tryz.ntmps42
    go_wp2
    go_region
    all_goals
      go_wp2_with fail
      go_ret2
      refine ⟨w.heap.size + 1 + 1, w.heap.size + 1, by rw [HD.out]; rfl, ?_, ?_, by omega, by omega, by omega, ?_⟩
      · have b := Blk.new ((w.alloc (.cells #[.int .i64 m, .int .i64 c, .int .i64 r, .int .i64 a0, .int .i64 a1, .int .i64 a2, .int .i64 a3, .int .i64 a4, .int .i64 a5, .int .i64 a6] 26)).alloc (.cells #[.slice none 0 0, .int .i64 c] 112)) 67 #[.int .i64 0, .iface 108 (.pointer (some ⟨w.heap.size + 1, 0, none⟩)), .pointer none]
        simp only [World.size_alloc] at b
        exact b.drew
      · have b := (Blk.new (w.alloc (.cells #[.int .i64 m, .int .i64 c, .int .i64 r, .int .i64 a0, .int .i64 a1, .int .i64 a2, .int .i64 a3, .int .i64 a4, .int .i64 a5, .int .i64 a6] 26)) 112 #[.slice none 0 0, .int .i64 c]).alloc (.cells #[.int .i64 0, .iface 108 (.pointer (some ⟨w.heap.size + 1, 0, none⟩)), .pointer none] 67)
        simp only [World.size_alloc] at b
        exact b.drew
      · exact ((((Below.refl w.heap.size w).alloc (Nat.le_refl _) _).alloc (by simp) _).alloc (by simp; omega) _).drew

theorem Blk.ten {w : World} {g : Nat} {t : TypeId} {x0 x1 x2 x3 x4 x5 x6 x7 x8 x9 : Value} (b : Blk w g t #[x0, x1, x2, x3, x4, x5, x6, x7, x8, x9]) : w.cell? ⟨g, 0, none⟩ = some x0 ∧ w.cell? ⟨g, 1, none⟩ = some x1 ∧ w.cell? ⟨g, 2, none⟩ = some x2 ∧ w.cell? ⟨g, 3, none⟩ = some x3 ∧ w.cell? ⟨g, 4, none⟩ = some x4 ∧ w.cell? ⟨g, 5, none⟩ = some x5 ∧ w.cell? ⟨g, 6, none⟩ = some x6 ∧ w.cell? ⟨g, 7, none⟩ = some x7 ∧ w.cell? ⟨g, 8, none⟩ = some x8 ∧ w.cell? ⟨g, 9, none⟩ = some x9 :=
  ⟨b.cell 0, b.cell 1, b.cell 2, b.cell 3, b.cell 4, b.cell 5, b.cell 6, b.cell 7, b.cell 8, b.cell 9⟩
def NewOut (w : World) (m c : Int) (e : Ending) (w' : World) : Prop := ∃ g t, e = .returned (.tuple #[.pointer (some ⟨g, 0, none⟩), .int .i64 0]) ∧ NewT w m c g t w'
set_option maxRecDepth 100000 in
set_option maxHeartbeats 1000000 in
theorem rnew_ok (c r a0 a1 a2 a3 a4 a5 a6 : Int) (w : World) (h1 : 1 ≤ c) (h2 : c ≤ 1048576) : Calls Tryz.prog 6 #[.agg (cfg 1 c r a0 a1 a2 a3 a4 a5 a6)] w (NewOut w 1 c) := by
  have hm := fun W => mk1_any 1 c r a0 a1 a2 a3 a4 a5 a6 W
  have d : (decide (1 ≤ c) && decide (c ≤ 1048576)) = true := by simp [h1, h2]
  rw [d] at hm
  have hget := fun W : World => map_get (W.alloc (.map mk3 3)).drew W.heap.size 1 (heap_new W _) 42 (.inl ⟨rfl, rfl⟩)
  unfold cfg at *
  have HM := Lib.hid hm
  have b0 := Blk.new w 26 #[.int .i64 1, .int .i64 c, .int .i64 r, .int .i64 a0, .int .i64 a1, .int .i64 a2, .int .i64 a3, .int .i64 a4, .int .i64 a5, .int .i64 a6]
  have x0 := b0.ten.1
  have hw0 := (Below.refl w.heap.size w).alloc (Nat.le_refl _) (.cells #[.int .i64 1, .int .i64 c, .int .i64 r, .int .i64 a0, .int .i64 a1, .int .i64 a2, .int .i64 a3, .int .i64 a4, .int .i64 a5, .int .i64 a6] 26)
  have HB := Lib.hid b0
  have HW := Lib.hid hw0
  clear hm d b0 hw0
  go_enter Tryz.func6, Tryz.ntmps6
  go_wp2_with fail
  generalize w.alloc (.cells #[.int .i64 1, .int .i64 c, .int .i64 r, .int .i64 a0, .int .i64 a1, .int .i64 a2, .int .i64 a3, .int .i64 a4, .int .i64 a5, .int .i64 a6] 26) = w0 at *
  have hbl : w.heap.size < w0.drew.heap.size := HB.out.lt
  go_region_held3 (fun w' => w'.cell? ⟨w.heap.size, 0, none⟩ = some (.int .i64 1))
    (first | (exact (World.cell?_alloc_lt _ _ ⟨w.heap.size, 0, none⟩ hbl).trans x0) | go_keep)
    ((go_at_call 28; refine (makers_any _).mono ?_; rintro e1 w1 ⟨rfl, rfl⟩))
  clear hget
  have b1 := (HB.out.alloc (.map mk3 3)).drew
  obtain ⟨y0, y1, y2, y3, y4, y5, y6, y7, y8, y9⟩ := b1.ten
  have hW1 := (HW.out.alloc HW.out.size (.map mk3 3)).drew
  have hl1 : w.heap.size < w0.heap.size := HB.out.lt
  generalize (w0.alloc (.map mk3 3)).drew = w1 at *
  go_wp2_with fail
  refine (HM.out _).mono ?_
  rintro e2 w2 ⟨g, t, rfl, hg, ht, hg1, ht1, hne, hb2⟩
  have b2 := b1.below hb2 b1.lt
  have hm0 := b2.ten.1
  obtain ⟨g0, g1, g2⟩ : w2.cell? ⟨g, 0, none⟩ = some (.int .i64 0) ∧ w2.cell? ⟨g, 1, none⟩ = some (.iface 108 (.pointer (some ⟨t, 0, none⟩))) ∧ w2.cell? ⟨g, 2, none⟩ = some (.pointer none) := ⟨hg.cell 0, hg.cell 1, hg.cell 2⟩
  have f0 := hg.frozen 0
  have HG := Lib.hid hg
  have HT := Lib.hid ht
  have HB2 := Lib.hid hb2
  have hz := hW1.size
  have hgl : w.heap.size ≤ g := by omega
  have htl : w.heap.size ≤ t := by omega
  clear hg ht hb2 HM y0 y1 y2 y3 y4 y5 y6 y7 y8 y9 b1 b2
  go_wp2
  go_ret2
  exact ⟨g, t, rfl, by simpa using HG.out.set_ 0 (.int .i64 1), HT.out.far (by simpa using fun e => hne e.symm) _, hgl, htl, hne, (hW1.trans (HB2.out.mono hz)).setCell (p := ⟨g, 0, none⟩) hgl _⟩
end Go.Proofs.YthicdlbelhokjaaGreat
