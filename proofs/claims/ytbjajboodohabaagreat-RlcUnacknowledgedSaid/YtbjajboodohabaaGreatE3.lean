/- rlc: none, the constructors, a new entity of transparent mode. -/
import Derived.Test.YtbjajboodohabaaGreatJ9
import Derived.Outline
import Derived.MapKept
namespace Go.Proofs.YtbjajboodohabaaGreat.Tm
open Go.RowKit
attribute [local go_sem] Oper.semAt_some

theorem none_nil (w : World) : Calls Tryz.prog 24 #[.pointer none] w fun e w' => e = .returned (.bool true) ∧ w = w' := by
  go_enter Tryz.func24, Tryz.ntmps24
  go_wp2
  go_ret
  exact ⟨rfl, rfl⟩
theorem none_any (g : Nat) (k : Int) (x y : Value) (w : World) (hb : Blk w g 64 #[.int .i64 k, x, y]) : Calls Tryz.prog 24 #[.pointer (some ⟨g, 0, none⟩)] w fun e w' => e = .returned (.bool (k == 0)) ∧ w = w' := by
  have x0 := hb.cell 0
  simp at x0
  go_enter Tryz.func24, Tryz.ntmps24
  go_wp2
  go_ret
  exact ⟨rfl, rfl⟩

theorem und76 : Tryz.prog.underlying 57 = some (.map 29 55) := by kernel_rfl
theorem und22 : Tryz.prog.underlying 29 = some (.int .i64) := by kernel_rfl
theorem heap_set (w : World) (o o' : Obj) : (w.alloc o).heap.setIfInBounds w.heap.size o' = (w.alloc o').heap := by
  show (w.heap.push o).setIfInBounds w.heap.size o' = w.heap.push o'
  apply Array.ext_getElem?
  intro i
  rw [Array.getElem?_setIfInBounds]
  by_cases h : w.heap.size = i
  · subst h
    simp
  · have h' : ¬ i = w.heap.size := fun e => h e.symm
    simp [h, h', Array.getElem?_push]
theorem alloc_set (w : World) (o o' : Obj) : ({ heap := (w.alloc o).heap.setIfInBounds w.heap.size o', tape := w.tape, drawn := w.drawn, os := (w.alloc o).os, output := (w.alloc o).output } : World) = w.alloc o' := by
  rw [heap_set]
  rfl
/-- an entry put into a map that was just made -/
theorem map_put (w : World) (es : Array MapEntry) (clock : Nat) (key : Int) (val : Value) (hf : Instr.findNow (.int .i64) (.int .i64 key) es.toList 0 = some none) :
    (Instr.mapUpdate 57 (.map (some w.heap.size)) (.int .i64 key) val).run Tryz.prog (w.alloc (.map es clock)) = .ok () (w.alloc (.map (es.push { key := .int .i64 key, val := val, born := clock }) (clock + 1))) := by
  have hb : (w.alloc (.map es clock)).heap[w.heap.size]? = some (.map es clock) := heap_new w _
  have hc : (Instr.checkKey false 10000 29 (.int .i64 key)).run Tryz.prog (w.alloc (.map es clock)) = .ok () (w.alloc (.map es clock)) := MapKept.run_checkKey (k := .int .i64 key) und22 (by simp [MapKept.IsKey]) false 9999
  simp [Instr.mapUpdate, run_underlying und76, MapKept.run_getObj_map hb, hc, MapKept.run_findKey und22 hf, MapKept.run_setObj_map _ hb, Result.andThen, alloc_set]
/-- the table of the constructors -/
def mk3 : Array MapEntry := #[{ key := .int .i64 1, val := .func (.func 44) #[] #[], born := 0 }, { key := .int .i64 2, val := .func (.func 45) #[] #[], born := 1 }, { key := .int .i64 3, val := .func (.func 46) #[] #[], born := 2 }]
theorem makers_any (w : World) : Calls Tryz.prog 23 #[] w fun e w' => e = .returned (.map (some w.heap.size)) ∧ w.alloc (.map mk3 3) = w' := by
  have hmm := @run_makeMap Tryz.prog
  have h1 := map_put w #[] 0 1 (.func (.func 44) #[] #[]) rfl
  have h2 := map_put w #[{ key := .int .i64 1, val := .func (.func 44) #[] #[], born := 0 }] 1 2 (.func (.func 45) #[] #[]) rfl
  have h3 := map_put w #[{ key := .int .i64 1, val := .func (.func 44) #[] #[], born := 0 }, { key := .int .i64 2, val := .func (.func 45) #[] #[], born := 1 }] 2 3 (.func (.func 46) #[] #[]) rfl
  simp at h1 h2 h3
  go_enter Tryz.func23, Tryz.ntmps23
  go_wp2
  go_ret
  exact ⟨rfl, rfl⟩
theorem map_get (w : World) (m : Nat) (k : Int) (hb : w.heap[m]? = some (.map mk3 3)) (f : FuncId) (h : (k = 1 ∧ f = 44) ∨ (k = 2 ∧ f = 45) ∨ (k = 3 ∧ f = 46)) :
    (Instr.lookup 57 (.map (some m)) (.int .i64 k) true).run Tryz.prog w = .ok (.tuple #[.func (.func f) #[] #[], .bool true]) w := by
  have hc : (Instr.checkKey false 10000 29 (.int .i64 k)).run Tryz.prog w = .ok () w := MapKept.run_checkKey (k := .int .i64 k) und22 (by simp [MapKept.IsKey]) false 9999
  have hf : ∃ i, Instr.findNow (.int .i64) (.int .i64 k) mk3.toList 0 = some (some (i, .func (.func f) #[] #[])) := by
    rcases h with ⟨rfl, rfl⟩ | ⟨rfl, rfl⟩ | ⟨rfl, rfl⟩
    · exact ⟨0, rfl⟩
    · exact ⟨1, rfl⟩
    · exact ⟨2, rfl⟩
  obtain ⟨i, hf⟩ := hf
  have he : mk3.isEmpty = false := rfl
  simp [Instr.lookup, run_underlying und76, MapKept.run_getObj_map hb, he, hc, MapKept.run_findKey und22 hf, Result.andThen]
theorem map_not (w : World) (m : Nat) (k : Int) (hb : w.heap[m]? = some (.map mk3 3)) (h : k < 1 ∨ 3 < k) :
    (Instr.lookup 57 (.map (some m)) (.int .i64 k) true).run Tryz.prog w = .ok (.tuple #[.nilFunc, .bool false]) w := by
  have hc : (Instr.checkKey false 10000 29 (.int .i64 k)).run Tryz.prog w = .ok () w := MapKept.run_checkKey (k := .int .i64 k) und22 (by simp [MapKept.IsKey]) false 9999
  have hf : Instr.findNow (.int .i64) (.int .i64 k) mk3.toList 0 = some none := by
    have h1 : (k == 1) = false := by simp; omega
    have h2 : (k == 2) = false := by simp; omega
    have h3 : (k == 3) = false := by simp; omega
    simp [mk3, Instr.findNow, Instr.sameNow, h1, h2, h3]
  have hz : (zeroValue 55).run Tryz.prog w = .ok .nilFunc w := by kernel_rfl
  have he : mk3.isEmpty = false := rfl
  simp [Instr.lookup, run_underlying und76, MapKept.run_getObj_map hb, he, hc, MapKept.run_findKey und22 hf, hz, Result.andThen]
end Go.Proofs.YtbjajboodohabaaGreat.Tm
namespace Go.Proofs.YtbjajboodohabaaGreat.Tm
open Go.RowKit
attribute [local go_sem] Oper.semAt_some

/-- a configuration's cells -/
def cfg (m c r a0 a1 a2 a3 a4 a5 a6 : Int) : Array Value := #[.int .i64 m, .int .i64 c, .int .i64 r, .int .i64 a0, .int .i64 a1, .int .i64 a2, .int .i64 a3, .int .i64 a4, .int .i64 a5, .int .i64 a6]
/-- a new entity of transparent mode -/
def NewT (w : World) (k c : Int) (g t : Nat) (w' : World) : Prop :=
  Blk w' g 64 #[.int .i64 k, .iface 92 (.pointer (some ⟨t, 0, none⟩)), .pointer none] ∧ Blk w' t 96 #[.slice none 0 0, .int .i64 c] ∧ w.heap.size ≤ g ∧ w.heap.size ≤ t ∧ g ≠ t ∧ Below w.heap.size w w'
def Mk1Out (w : World) (c : Int) (ok : Bool) (e : Ending) (w' : World) : Prop := ∃ g t, e = .returned (.tuple #[.pointer (some ⟨g, 0, none⟩), .bool ok]) ∧ NewT w 0 c g t w'
set_option maxHeartbeats 1000000 in
theorem mk1_any (m c r a0 a1 a2 a3 a4 a5 a6 : Int) (w : World) : Calls Tryz.prog 44 #[.agg (cfg m c r a0 a1 a2 a3 a4 a5 a6)] w (Mk1Out w c (decide (1 ≤ c) && decide (c ≤ 1048576))) := by
  unfold cfg
  by_cases h1 : 1 ≤ c
  · have d : (decide (1 ≤ c) && decide (c ≤ 1048576)) = decide (c ≤ 1048576) := by simp [h1]
    have HD := Lib.hid d
    clear d
    go_enter Tryz.func44, Tryz.ntmps44
    go_wp2
    go_region
    all_goals
      go_wp2_with fail
      go_ret2
      refine ⟨w.heap.size + 1 + 1, w.heap.size + 1, by rw [HD.out]; rfl, ?_, ?_, by omega, by omega, by omega, ?_⟩
      · have b := Blk.new ((w.alloc (.cells #[.int .i64 m, .int .i64 c, .int .i64 r, .int .i64 a0, .int .i64 a1, .int .i64 a2, .int .i64 a3, .int .i64 a4, .int .i64 a5, .int .i64 a6] 33)).alloc (.cells #[.slice none 0 0, .int .i64 c] 96)) 64 #[.int .i64 0, .iface 92 (.pointer (some ⟨w.heap.size + 1, 0, none⟩)), .pointer none]
        simp only [World.size_alloc] at b
        exact b.drew
      · have b := (Blk.new (w.alloc (.cells #[.int .i64 m, .int .i64 c, .int .i64 r, .int .i64 a0, .int .i64 a1, .int .i64 a2, .int .i64 a3, .int .i64 a4, .int .i64 a5, .int .i64 a6] 33)) 96 #[.slice none 0 0, .int .i64 c]).alloc (.cells #[.int .i64 0, .iface 92 (.pointer (some ⟨w.heap.size + 1, 0, none⟩)), .pointer none] 64)
        simp only [World.size_alloc] at b
        exact b.drew
      · exact ((((Below.refl w.heap.size w).alloc (Nat.le_refl _) _).alloc (by simp) _).alloc (by simp; omega) _).drew
  · have d : (decide (1 ≤ c) && decide (c ≤ 1048576)) = false := by simp [h1]
    have HD := Lib.hid d
    have h1' : decide ((1 : Int) ≤ c) = false := by simpa using h1
    clear d h1
    go_enter Tryz.func44, Tryz.ntmps44
    go_wp2
    go_region
    all_goals
      go_wp2_with fail
      go_ret2
      refine ⟨w.heap.size + 1 + 1, w.heap.size + 1, by rw [HD.out]; rfl, ?_, ?_, by omega, by omega, by omega, ?_⟩
      · have b := Blk.new ((w.alloc (.cells #[.int .i64 m, .int .i64 c, .int .i64 r, .int .i64 a0, .int .i64 a1, .int .i64 a2, .int .i64 a3, .int .i64 a4, .int .i64 a5, .int .i64 a6] 33)).alloc (.cells #[.slice none 0 0, .int .i64 c] 96)) 64 #[.int .i64 0, .iface 92 (.pointer (some ⟨w.heap.size + 1, 0, none⟩)), .pointer none]
        simp only [World.size_alloc] at b
        exact b.drew
      · have b := (Blk.new (w.alloc (.cells #[.int .i64 m, .int .i64 c, .int .i64 r, .int .i64 a0, .int .i64 a1, .int .i64 a2, .int .i64 a3, .int .i64 a4, .int .i64 a5, .int .i64 a6] 33)) 96 #[.slice none 0 0, .int .i64 c]).alloc (.cells #[.int .i64 0, .iface 92 (.pointer (some ⟨w.heap.size + 1, 0, none⟩)), .pointer none] 64)
        simp only [World.size_alloc] at b
        exact b.drew
      · exact ((((Below.refl w.heap.size w).alloc (Nat.le_refl _) _).alloc (by simp) _).alloc (by simp; omega) _).drew

theorem _root_.Go.Proofs.YtbjajboodohabaaGreat.Blk.ten {w : World} {g : Nat} {t : TypeId} {x0 x1 x2 x3 x4 x5 x6 x7 x8 x9 : Value} (b : Blk w g t #[x0, x1, x2, x3, x4, x5, x6, x7, x8, x9]) : w.cell? ⟨g, 0, none⟩ = some x0 ∧ w.cell? ⟨g, 1, none⟩ = some x1 ∧ w.cell? ⟨g, 2, none⟩ = some x2 ∧ w.cell? ⟨g, 3, none⟩ = some x3 ∧ w.cell? ⟨g, 4, none⟩ = some x4 ∧ w.cell? ⟨g, 5, none⟩ = some x5 ∧ w.cell? ⟨g, 6, none⟩ = some x6 ∧ w.cell? ⟨g, 7, none⟩ = some x7 ∧ w.cell? ⟨g, 8, none⟩ = some x8 ∧ w.cell? ⟨g, 9, none⟩ = some x9 :=
  ⟨b.cell 0, b.cell 1, b.cell 2, b.cell 3, b.cell 4, b.cell 5, b.cell 6, b.cell 7, b.cell 8, b.cell 9⟩
def NewOut (w : World) (m c : Int) (e : Ending) (w' : World) : Prop := ∃ g t, e = .returned (.tuple #[.pointer (some ⟨g, 0, none⟩), .int .i64 0]) ∧ NewT w m c g t w'
set_option maxRecDepth 100000 in
set_option maxHeartbeats 1000000 in
theorem rnew_ok (c r a0 a1 a2 a3 a4 a5 a6 : Int) (w : World) (h1 : 1 ≤ c) (h2 : c ≤ 1048576) : Calls Tryz.prog 6 #[.agg (cfg 1 c r a0 a1 a2 a3 a4 a5 a6)] w (NewOut w 1 c) := by
  have hm := fun W => mk1_any 1 c r a0 a1 a2 a3 a4 a5 a6 W
  have d : (decide (1 ≤ c) && decide (c ≤ 1048576)) = true := by simp [h1, h2]
  rw [d] at hm
  have hget := fun W : World => map_get (W.alloc (.map mk3 3)).drew W.heap.size 1 (heap_new W _) 44 (.inl ⟨rfl, rfl⟩)
  unfold cfg at *
  have HM := Lib.hid hm
  have b0 := Blk.new w 33 #[.int .i64 1, .int .i64 c, .int .i64 r, .int .i64 a0, .int .i64 a1, .int .i64 a2, .int .i64 a3, .int .i64 a4, .int .i64 a5, .int .i64 a6]
  have x0 := b0.ten.1
  have hw0 := (Below.refl w.heap.size w).alloc (Nat.le_refl _) (.cells #[.int .i64 1, .int .i64 c, .int .i64 r, .int .i64 a0, .int .i64 a1, .int .i64 a2, .int .i64 a3, .int .i64 a4, .int .i64 a5, .int .i64 a6] 33)
  have HB := Lib.hid b0
  have HW := Lib.hid hw0
  clear hm d b0 hw0
  go_enter Tryz.func6, Tryz.ntmps6
  go_wp2_with fail
  generalize w.alloc (.cells #[.int .i64 1, .int .i64 c, .int .i64 r, .int .i64 a0, .int .i64 a1, .int .i64 a2, .int .i64 a3, .int .i64 a4, .int .i64 a5, .int .i64 a6] 33) = w0 at *
  have hbl : w.heap.size < w0.drew.heap.size := HB.out.lt
  go_region_held3 (fun w' => w'.cell? ⟨w.heap.size, 0, none⟩ = some (.int .i64 1))
    (first | (exact (World.cell?_alloc_lt _ _ ⟨w.heap.size, 0, none⟩ hbl).trans x0) | go_keep)
    ((go_at_call 23; refine (makers_any _).mono ?_; rintro e1 w1 ⟨rfl, rfl⟩))
  clear hget
  have b1 := (HB.out.alloc (.map mk3 3)).drew
  obtain ⟨y0, y1, y2, y3, y4, y5, y6, y7, y8, y9⟩ := b1.ten
  have hW1 := (HW.out.alloc HW.out.size (.map mk3 3)).drew
  have hl1 : w.heap.size < w0.heap.size := HB.out.lt
  generalize (w0.alloc (.map mk3 3)).drew = w1 at *
  go_wp2_with fail
  refine (HM.out _).mono ?_
  rintro e2 w2 ⟨g, t, rfl, hg, ht, hg1, ht1, hne, hb2⟩
  have b2 := b1.below hb2 b1.lt
  have hm0 := b2.ten.1
  obtain ⟨g0, g1, g2⟩ : w2.cell? ⟨g, 0, none⟩ = some (.int .i64 0) ∧ w2.cell? ⟨g, 1, none⟩ = some (.iface 92 (.pointer (some ⟨t, 0, none⟩))) ∧ w2.cell? ⟨g, 2, none⟩ = some (.pointer none) := ⟨hg.cell 0, hg.cell 1, hg.cell 2⟩
  have f0 := hg.frozen 0
  have HG := Lib.hid hg
  have HT := Lib.hid ht
  have HB2 := Lib.hid hb2
  have hz := hW1.size
  have hgl : w.heap.size ≤ g := by omega
  have htl : w.heap.size ≤ t := by omega
  clear hg ht hb2 HM y0 y1 y2 y3 y4 y5 y6 y7 y8 y9 b1 b2
  go_wp2
  go_ret2
  exact ⟨g, t, rfl, by simpa using HG.out.set_ 0 (.int .i64 1), HT.out.far (by simpa using fun e => hne e.symm) _, hgl, htl, hne, (hW1.trans (HB2.out.mono hz)).setCell (p := ⟨g, 0, none⟩) hgl _⟩
end Go.Proofs.YtbjajboodohabaaGreat.Tm
