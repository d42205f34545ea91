/- law32: over of no receiver. -/
import Derived.Test.YtchlbpfeiamieaaSy
import Derived.Test.YtchlbpfeiamieaaZa
import Derived.Sort.CutIn
namespace Go.Proofs.Ytchlbpfeiamieaa
open Go.RowKit Go.Shelf
attribute [local go_sem] Oper.semAt_some

set_option maxRecDepth 100000 in
set_option maxHeartbeats 2000000 in
theorem all174_none (n : Nat) (G : Nat) (w : World) (hg : Blk w G 160 #[.slice none 0 0]) :
    SeqNone Fence.wide n Try.prog 174 #[.pointer (some ⟨G, 0, none⟩)] w := fun l J W hW _ h0 => by
  have hg' := hg.below hW hg.lt
  refine callsIn_of_wp Try.func174 rfl trivial ?_ rfl
  simp only [Try.ntmps174, List.size_toArray, List.length_cons, List.length_nil, Nat.reduceAdd, Nat.reduceSub, Array.replicate_succ, Array.replicate_zero, List.push_toArray, List.append_toArray, List.nil_append, List.cons_append]
  have hcw := hg'.cell 0
  simp at hcw
  gi_wp2
  gi_loopw [7] (fun i wr => i = .int .i64 0 ∧ J wr) (fun _ _ => 0)
  case atStart => exact ⟨rfl, h0⟩
  case round =>
    obtain ⟨rfl, hJs⟩ := hrel
    gi_wp2
    first
      | go_end0
      | (rw [Exit.noGoto_normal]; go_end0)
    exact ⟨⟨_, rfl⟩, hJs⟩
theorem all158 (w : World) : Calls Try.prog 158 #[.slice none 0 0] w fun e w' => ∃ G, e = .returned (.func (.func 174) #[] #[.pointer (some ⟨G, 0, none⟩)]) ∧ w.heap.size ≤ G ∧ Blk w' G 160 #[.slice none 0 0] ∧ w' = w.alloc (.cells #[.slice none 0 0] 160) := by
  have hb := Blk.new w 160 #[.slice none 0 0]
  have HB := Lib.hid hb
  clear hb
  go_enter Try.func158, Try.ntmps158
  go_wp2
  go_ret
  exact ⟨w.heap.size, rfl, Nat.le_refl _, HB.out, rfl⟩
set_option maxRecDepth 100000 in
set_option maxHeartbeats 2000000 in
theorem held157_none (n : Nat) (hn : 3 ≤ n) (G : Nat) (w : World) (hg : Blk w G 160 #[.slice none 0 0]) :
    SeqNone Fence.wide n Try.prog 157 #[.pointer (some ⟨G, 0, none⟩)] w := fun l J W hW hJ h0 => by
  have hg' := hg.below hW hg.lt
  have hg1 := hg'.alloc (.cells #[.func (.yield l) #[] #[]] 195)
  have hall := all158 (W.alloc (.cells #[.func (.yield l) #[] #[]] 195))
  have HALL := Lib.hid hall
  refine callsIn_of_wp_marks Try.func157 rfl trivial ?_ rfl
  simp only [Try.ntmps157, List.size_toArray, List.length_cons, List.length_nil, Nat.reduceAdd, Nat.reduceSub, Array.replicate_succ, Array.replicate_zero, List.push_toArray, List.append_toArray, List.nil_append, List.cons_append]
  have hcw : (W.alloc (.cells #[.func (.yield l) #[] #[]] 195)).cell? ⟨G, 0, none⟩ = some (.slice none 0 0) := hg1.cell 0
  clear hall
  gi_wp2
  refine wpInW_scope ?_
  gi_wp2
  refine wpIn_label ?_
  gi_wp2
  refine ⟨trivial, fun _ => by omega, callsIn_wide.2 (HALL.out.mono ?_)⟩
  rintro e1 w1 ⟨G2, rfl, hG2, hB2, rfl⟩
  gi_wp2
  apply wpIn_range_none (gf := 174) (lb := #[.pointer (some ⟨G2, 0, none⟩)]) rfl (by omega) rfl trivial (enters_of Try.func174 (by kernel_rfl) rfl)
    (all174_none _ G2 _ hB2) (Below.refl _ _) (fun X => J X ∧ Below W.heap.size W X)
  case hI => exact fun s X Y row hs hg hr => ⟨hJ () X Y row hs.1 hg (fun r e => ⟨by have := (hr r e).1; simp at this; omega, (hr r e).2⟩), hs.2.grown hg hs.2.size (fun r e => by have := (hr r e).1; simp at this; omega)⟩
  case h0 => exact ⟨hJ.alloc (s := ()) _ (hJ.alloc (s := ()) _ h0), ((Below.refl _ W).alloc (Nat.le_refl _) _).alloc (by simp) _⟩
  case hdone =>
    intro D W3 hD hI hDef
    simp at hD
    have hJ3 : J (W3.putObj D (.deferred none)) := hJ.putObj (s := ()) _ hI.1 (by omega) hDef rfl
    have HR := Lib.hid hDef
    have HJ3 := Lib.hid hJ3
    clear hJ3 hDef hI
    gi_wp2
    rw [Exit.noGoto_normal]
    go_wp2
    refine ⟨by simp, .inl ⟨_, _, rfl, run_takeDeferred HR.out, ?_⟩⟩
    exact ⟨.tuple #[], by simp [results, Try.results157, go_sem], ⟨_, rfl⟩, HJ3.out⟩
theorem eq149 (lb : Array Value) (w : World) : (binOp .eql 149 (.func (.func 157) #[] lb) .nilFunc).run Try.prog w = .ok (.bool false) w := by kernel_rfl
/-- the boolean true, in more memory -/
def TrueB (w : World) (e : Ending) (w' : World) : Prop := e = .returned (.bool true) ∧ Below w.heap.size w w'
set_option maxRecDepth 100000 in
set_option maxHeartbeats 2000000 in
theorem over_no {v : Value} {w : World} (h : NoRcv w v) : Calls Try.prog 36 #[v, .slice none 0 0, .int .i64 9] w (TrueB w) := by
  refine (callsIn_wide (n := 7)).1 ?_
  have hba : Below w.heap.size w (((w.alloc (.cells #[.slice none 0 0] 160)).alloc (.cells #[.int .i64 9] 3)).alloc (.cells #[.bool false] 4)) := (((Below.refl _ w).alloc (Nat.le_refl _) _).alloc (by simp) _).alloc (by simp; omega) _
  have hN : NoRcv (((w.alloc (.cells #[.slice none 0 0] 160)).alloc (.cells #[.int .i64 9] 3)).alloc (.cells #[.bool false] 4)) v := by
    rcases h with rfl | ⟨g, rfl, h⟩
    · exact .inl rfl
    · exact .inr ⟨g, rfl, (hba.cell (p := ⟨g, 4, none⟩) (World.block_lt_of_cell? w _ h)).trans h⟩
  have hhe := rheld_no hN
  have b4 : Blk (((w.alloc (.cells #[.slice none 0 0] 160)).alloc (.cells #[.int .i64 9] 3)).alloc (.cells #[.bool false] 4)) w.heap.size 160 #[.slice none 0 0] := ((Blk.new w 160 _).alloc _).alloc _
  have b5 : Blk (((w.alloc (.cells #[.slice none 0 0] 160)).alloc (.cells #[.int .i64 9] 3)).alloc (.cells #[.bool false] 4)) (w.heap.size + 1) 3 #[.int .i64 9] := by
    have := (Blk.new (w.alloc (.cells #[.slice none 0 0] 160)) 3 #[.int .i64 9]).alloc (.cells #[.bool false] 4)
    simpa using this
  have b6 : Blk (((w.alloc (.cells #[.slice none 0 0] 160)).alloc (.cells #[.int .i64 9] 3)).alloc (.cells #[.bool false] 4)) (w.heap.size + 2) 4 #[.bool false] := by
    have := Blk.new ((w.alloc (.cells #[.slice none 0 0] 160)).alloc (.cells #[.int .i64 9] 3)) 4 #[.bool false]
    simpa using this
  have q149 := eq149
  have HHE := Lib.hid hhe
  have HBA := Lib.hid hba
  have H4 := Lib.hid b4
  have H5 := Lib.hid b5
  have H6 := Lib.hid b6
  clear hhe hba b4 b5 b6 h hN
  refine callsIn_of_wp_marks Try.func36 rfl trivial ?_ rfl
  simp only [Try.ntmps36, List.size_toArray, List.length_cons, List.length_nil, Nat.reduceAdd, Nat.reduceSub, Array.replicate_succ, Array.replicate_zero, List.push_toArray, List.append_toArray, List.nil_append, List.cons_append]
  refine wpIn_wide.2 ?_
  go_wp2_with (go_at_call 111; refine HHE.out.mono ?_; rintro e1 w1 ⟨G, rfl, hG, hGb, hb1⟩)
  have hsz1 := hb1.size
  simp at hsz1 hG
  have b8 := Blk.new w1 3 #[.int .i64 0]
  have hB8 : Below w.heap.size w (w1.alloc (.cells #[.int .i64 0] 3)) := (HBA.out.trans (hb1.mono HBA.out.size)).alloc (by omega) _
  have c4 := (H4.out.below hb1 H4.out.lt).alloc (.cells #[.int .i64 0] 3)
  have c5 := (H5.out.below hb1 H5.out.lt).alloc (.cells #[.int .i64 0] 3)
  have c6 := (H6.out.below hb1 H6.out.lt).alloc (.cells #[.int .i64 0] 3)
  have K4 := Lib.hid c4
  have K5 := Lib.hid c5
  have K6 := Lib.hid c6
  have K8 := Lib.hid b8
  have KB := Lib.hid hB8
  have HG := Lib.hid hGb
  clear c4 c5 c6 b8 hB8 H4 H5 H6 HBA hb1 hGb
  apply (wpIn_wide (n := 7)).1
  apply wpIn_range_none (gf := 157) (lb := #[.pointer (some ⟨G, 0, none⟩)]) rfl (by omega) rfl trivial (enters_of Try.func157 (by kernel_rfl) rfl)
    (held157_none _ (by omega) G w1 HG.out) ((Below.refl _ w1).alloc (Nat.le_refl _) _) (fun X => Below (w1.alloc (.cells #[.int .i64 0] 3)).heap.size (w1.alloc (.cells #[.int .i64 0] 3)) X)
  case hI => exact fun s X Y row hs hg hr => hs.grown hg hs.size (fun r e => (hr r e).1)
  case h0 => exact Below.refl _ _
  case hdone =>
    intro D W3 hD hI hDef
    simp at hD
    have d4 := K4.out.below hI K4.out.lt
    have d5 := K5.out.below hI K5.out.lt
    have d6 := K6.out.below hI K6.out.lt
    have d8 := K8.out.below hI K8.out.lt
    have x4 := d4.cell 0
    have x5 := d5.cell 0
    have x6 := d6.cell 0
    have x8 := d8.cell 0
    have f6 := d6.frozen 0
    simp at x4 x5 x6 x8
    have hB3 : Below w.heap.size w W3 := KB.out.trans (hI.mono KB.out.size)
    have d6b := d6.set_ 0 (.bool true)
    simp at d6b
    have hDef2 : (W3.setCell ⟨w.heap.size + 2, 0, none⟩ (.bool true)).heap[D]? = some (.deferred (some [])) := (Below.heap_setCell W3 ⟨w.heap.size + 2, 0, none⟩ (.bool true) D (by simp; omega)).trans hDef
    have d6c := d6b.grown (grownBy_putObj' (W3.setCell ⟨w.heap.size + 2, 0, none⟩ (.bool true)) D (.deferred none)) (by simp; omega)
    have hB4 := (hB3.setCell (p := ⟨w.heap.size + 2, 0, none⟩) (by simp) (.bool true)).grown (grownBy_putObj' (W3.setCell ⟨w.heap.size + 2, 0, none⟩ (.bool true)) D (.deferred none)) (by have := hB3.size; simp [World.setCell]; omega) (fun j hj => by cases hj; omega)
    have HR := Lib.hid hDef2
    have H6C := Lib.hid d6c
    have HB4 := Lib.hid hB4
    clear d4 d5 d6 d8 hB3 d6b hDef2 d6c hB4 hDef hI
    gi_wp2
    go_wp2
    have q0 : ((W3.setCell ⟨w.heap.size + 1 + 1, 0, none⟩ (.bool true)).putObj D (.deferred none)).cell? ⟨w.heap.size + 1 + 1, 0, none⟩ = some (.bool true) := H6C.out.cell 0
    refine ⟨by simp, .inl ⟨_, _, rfl, run_takeDeferred HR.out, ?_⟩⟩
    exact ⟨.bool true, by simp [results, Try.results36, go_sem, q0], rfl, HB4.out⟩
end Go.Proofs.Ytchlbpfeiamieaa
