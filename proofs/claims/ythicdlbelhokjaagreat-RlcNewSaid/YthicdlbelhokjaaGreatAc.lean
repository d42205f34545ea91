/- rlc: none, the constructors' table. -/
import Derived.Test.YthicdlbelhokjaaGreatAb
import Derived.Outline
import Derived.MapKept
namespace Go.Proofs.YthicdlbelhokjaaGreat
open Go.RowKit
attribute [local go_sem] Oper.semAt_some

theorem none_nil (w : World) : Calls Tryz.prog 36 #[.pointer none] w fun e w' => e = .returned (.bool true) ∧ w = w' := by
  go_enter Tryz.func36, Tryz.ntmps36
  go_wp2
  go_ret
  exact ⟨rfl, rfl⟩
theorem none_any (g : Nat) (k : Int) (x y : Value) (w : World) (hb : Blk w g 67 #[.int .i64 k, x, y]) : Calls Tryz.prog 36 #[.pointer (some ⟨g, 0, none⟩)] w fun e w' => e = .returned (.bool (k == 0)) ∧ w = w' := by
  have x0 := hb.cell 0
  simp at x0
  go_enter Tryz.func36, Tryz.ntmps36
  go_wp2
  go_ret
  exact ⟨rfl, rfl⟩

theorem und76 : Tryz.prog.underlying 76 = some (.map 22 74) := by kernel_rfl
theorem und22 : Tryz.prog.underlying 22 = some (.int .i64) := by kernel_rfl
theorem heap_set (w : World) (o o' : Obj) : (w.alloc o).heap.setIfInBounds w.heap.size o' = (w.alloc o').heap := by
  show (w.heap.push o).setIfInBounds w.heap.size o' = w.heap.push o'
  apply Array.ext_getElem?
  intro i
  rw [Array.getElem?_setIfInBounds]
  by_cases h : w.heap.size = i
  · subst h
    simp
  · have h' : ¬ i = w.heap.size := fun e => h e.symm
    simp [h, h', Array.getElem?_push]
theorem alloc_set (w : World) (o o' : Obj) : ({ heap := (w.alloc o).heap.setIfInBounds w.heap.size o', tape := w.tape, drawn := w.drawn, os := (w.alloc o).os, output := (w.alloc o).output } : World) = w.alloc o' := by
  rw [heap_set]
  rfl
/-- an entry put into a map that was just made -/
theorem map_put (w : World) (es : Array MapEntry) (clock : Nat) (key : Int) (val : Value) (hf : Instr.findNow (.int .i64) (.int .i64 key) es.toList 0 = some none) :
    (Instr.mapUpdate 76 (.map (some w.heap.size)) (.int .i64 key) val).run Tryz.prog (w.alloc (.map es clock)) = .ok () (w.alloc (.map (es.push { key := .int .i64 key, val := val, born := clock }) (clock + 1))) := by
  have hb : (w.alloc (.map es clock)).heap[w.heap.size]? = some (.map es clock) := heap_new w _
  have hc : (Instr.checkKey false 10000 22 (.int .i64 key)).run Tryz.prog (w.alloc (.map es clock)) = .ok () (w.alloc (.map es clock)) := MapKept.run_checkKey (k := .int .i64 key) und22 (by simp [MapKept.IsKey]) false 9999
  simp [Instr.mapUpdate, run_underlying und76, MapKept.run_getObj_map hb, hc, MapKept.run_findKey und22 hf, MapKept.run_setObj_map _ hb, Result.andThen, alloc_set]
/-- the table of the constructors -/
def mk3 : Array MapEntry := #[{ key := .int .i64 1, val := .func (.func 42) #[] #[], born := 0 }, { key := .int .i64 2, val := .func (.func 43) #[] #[], born := 1 }, { key := .int .i64 3, val := .func (.func 44) #[] #[], born := 2 }]
theorem makers_any (w : World) : Calls Tryz.prog 28 #[] w fun e w' => e = .returned (.map (some w.heap.size)) ∧ w.alloc (.map mk3 3) = w' := by
  have hmm := @run_makeMap Tryz.prog
  have h1 := map_put w #[] 0 1 (.func (.func 42) #[] #[]) rfl
  have h2 := map_put w #[{ key := .int .i64 1, val := .func (.func 42) #[] #[], born := 0 }] 1 2 (.func (.func 43) #[] #[]) rfl
  have h3 := map_put w #[{ key := .int .i64 1, val := .func (.func 42) #[] #[], born := 0 }, { key := .int .i64 2, val := .func (.func 43) #[] #[], born := 1 }] 2 3 (.func (.func 44) #[] #[]) rfl
  simp at h1 h2 h3
  go_enter Tryz.func28, Tryz.ntmps28
  go_wp2
  go_ret
  exact ⟨rfl, rfl⟩
theorem map_get (w : World) (m : Nat) (k : Int) (hb : w.heap[m]? = some (.map mk3 3)) (f : FuncId) (h : (k = 1 ∧ f = 42) ∨ (k = 2 ∧ f = 43) ∨ (k = 3 ∧ f = 44)) :
    (Instr.lookup 76 (.map (some m)) (.int .i64 k) true).run Tryz.prog w = .ok (.tuple #[.func (.func f) #[] #[], .bool true]) w := by
  have hc : (Instr.checkKey false 10000 22 (.int .i64 k)).run Tryz.prog w = .ok () w := MapKept.run_checkKey (k := .int .i64 k) und22 (by simp [MapKept.IsKey]) false 9999
  have hf : ∃ i, Instr.findNow (.int .i64) (.int .i64 k) mk3.toList 0 = some (some (i, .func (.func f) #[] #[])) := by
    rcases h with ⟨rfl, rfl⟩ | ⟨rfl, rfl⟩ | ⟨rfl, rfl⟩
    · exact ⟨0, rfl⟩
    · exact ⟨1, rfl⟩
    · exact ⟨2, rfl⟩
  obtain ⟨i, hf⟩ := hf
  have he : mk3.isEmpty = false := rfl
  simp [Instr.lookup, run_underlying und76, MapKept.run_getObj_map hb, he, hc, MapKept.run_findKey und22 hf, Result.andThen]
theorem map_not (w : World) (m : Nat) (k : Int) (hb : w.heap[m]? = some (.map mk3 3)) (h : k < 1 ∨ 3 < k) :
    (Instr.lookup 76 (.map (some m)) (.int .i64 k) true).run Tryz.prog w = .ok (.tuple #[.nilFunc, .bool false]) w := by
  have hc : (Instr.checkKey false 10000 22 (.int .i64 k)).run Tryz.prog w = .ok () w := MapKept.run_checkKey (k := .int .i64 k) und22 (by simp [MapKept.IsKey]) false 9999
  have hf : Instr.findNow (.int .i64) (.int .i64 k) mk3.toList 0 = some none := by
    have h1 : (k == 1) = false := by simp; omega
    have h2 : (k == 2) = false := by simp; omega
    have h3 : (k == 3) = false := by simp; omega
    simp [mk3, Instr.findNow, Instr.sameNow, h1, h2, h3]
  have hz : (zeroValue 74).run Tryz.prog w = .ok .nilFunc w := by kernel_rfl
  have he : mk3.isEmpty = false := rfl
  simp [Instr.lookup, run_underlying und76, MapKept.run_getObj_map hb, he, hc, MapKept.run_findKey und22 hf, hz, Result.andThen]
end Go.Proofs.YthicdlbelhokjaaGreat
