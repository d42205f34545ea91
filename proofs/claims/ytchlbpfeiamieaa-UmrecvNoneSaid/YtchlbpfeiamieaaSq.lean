/- umrecv: Receive: its memory, gather. -/
import Derived.Test.YtchlbpfeiamieaaSp
namespace Go.Proofs.Ytchlbpfeiamieaa
open Go.RowKit Go.Shelf
attribute [local go_sem] Oper.semAt_some

theorem Rcv.hiMono {w : World} {lo hi hi' g M n : Nat} {vb : Value} {st : Rs} (h : Rcv w lo hi g M n vb st) (h1 : hi ≤ hi') (h2 : hi' ≤ w.heap.size) : Rcv w lo hi' g M n vb st := by
  obtain ⟨F, hF, hFm⟩ := h.mp
  exact ⟨h.blk, h.row, ⟨F, hF, fun k => ⟨(hFm k).1, fun p hp => let ⟨vo, e, ho, hj⟩ := (hFm k).2 p hp; ⟨vo, e, ho, fun j hj' => Nat.lt_of_lt_of_le (hj j hj') h1⟩⟩⟩, h.hg, h.hM, h.ne, h.hlo, h2⟩
theorem PartsOut.lt' {w : World} {base : Nat} {vo : Value} {ps : List (List UInt8)} (h : PartsOut w base vo ps) {k : Nat} (hk : vo.ownBlock = some k) : base ≤ k ∧ k < w.heap.size := by
  obtain ⟨vs, g, cap, data, h1, h2, h3⟩ := h
  exact h1.lt k hk
/-- the memory within Receive: B: the heap's size behind Decode -/
structure RvAt (w1 : World) (lo g M n : Nat) (p : Pd) (vo : Value) (vb : Value) (st : Rs) (ob : Nat) (v4 : Value) (outs : List (List UInt8)) (wr : World) : Prop where
  rc : Rcv wr lo w1.heap.size g M n vb st
  bx : Blk wr w1.heap.size 26 #[.int .i64 p.sn, .bool p.s, .bool p.en, vo]
  obx : Blk wr ob 22 #[v4]
  out : OutIs wr w1.heap.size lo v4 outs
  kept : Kept (MR g M) w1 wr
  hob : w1.heap.size ≤ ob
  hl : lo ≤ w1.heap.size
section
variable {w1 wr w2 : World} {lo g M n : Nat} {p : Pd} {vo vb vb' v4 : Value} {st st' : Rs} {ob : Nat} {outs : List (List UInt8)}
theorem RvAt.call {n' : Nat} (h : RvAt w1 lo g M n p vo vb st ob v4 outs wr) (hr : Rcv w2 lo w1.heap.size g M n' vb' st') (hk : Kept (MR g M) wr w2) : RvAt w1 lo g M n' p vo vb' st' ob v4 outs w2 := by
  have hg := h.rc.hg
  have hM := h.rc.hM
  have hl := h.hl
  have hob := h.hob
  exact ⟨hr, h.bx.kept hk (by rintro (e | e) <;> omega), h.obx.kept hk (by rintro (e | e) <;> omega), h.out.keptR hl hk hg hM, h.kept.trans hk, hob, hl⟩
theorem RvAt.below (h : RvAt w1 lo g M n p vo vb st ob v4 outs wr) (hb : Below wr.heap.size wr w2) : RvAt w1 lo g M n p vo vb st ob v4 outs w2 :=
  h.call (h.rc.below hb) ((Kept.of_below hb).mono_at fun k o ho hm => by have := lt_of_heap ho; omega)
theorem RvAt.drew (h : RvAt w1 lo g M n p vo vb st ob v4 outs wr) : RvAt w1 lo g M n p vo vb st ob v4 outs wr.drew := h.below ((Below.refl _ wr).drew)
theorem RvAt.drewN (h : RvAt w1 lo g M n p vo vb st ob v4 outs wr) (q : Nat) : RvAt w1 lo g M n p vo vb st ob v4 outs (wr.drewN q) := h.below ((Below.refl _ wr).drewN q)
theorem RvAt.alloc (h : RvAt w1 lo g M n p vo vb st ob v4 outs wr) (o : Obj) : RvAt w1 lo g M n p vo vb st ob v4 outs (wr.alloc o) := h.below ((Below.refl _ wr).alloc (Nat.le_refl _) o)
/-- a cell of the receiver is written -/
theorem RvAt.put (h : RvAt w1 lo g M n p vo vb st ob v4 outs wr) (i : Nat) (u : Value) (he : (rcv vb M st).setIfInBounds i u = rcv vb M st') (hm : st'.m = st.m) (hb : st'.b = st.b) : RvAt w1 lo g M n p vo vb st' ob v4 outs (wr.setCell ⟨g, i, none⟩ u) :=
  h.call (h.rc.put i u he hm (by rw [hb]; exact h.rc.row)) ((Kept.refl _ wr).setCell (p := ⟨g, i, none⟩) (fun _ _ => .inl rfl) u)
/-- another block is written -/
theorem Rcv.setFar {w : World} {hi b i : Nat} {cs : Array Value} (h : Rcv w lo hi g M n vb st) (hb : Blk w b 22 cs) (hlb : lo ≤ b) (u : Value) : Rcv (w.setCell ⟨b, i, none⟩ u) lo hi g M n vb st := by
  obtain ⟨F, hF, hFm⟩ := h.mp
  have hg := h.hg
  have hM := h.hM
  refine ⟨h.blk.far (by simp; omega) u, own_store h.row hb (by decide) u, ⟨F, hF.same (Below.heap_setCell w ⟨b, i, none⟩ u M (by simp; omega)), fun k => ⟨(hFm k).1, fun q hq => ?_⟩⟩, hg, hM, h.ne, by simpa [World.setCell] using h.hlo, by simpa [World.setCell] using h.hhi⟩
  obtain ⟨vo, e, ⟨vs, gg, cap, data, a1, a2, a3⟩, hj⟩ := (hFm k).2 q hq
  exact ⟨vo, e, ⟨vs, gg, cap, data, own_store a1 hb (by decide) u, own_store a2 hb (by decide) u, a3⟩, hj⟩
set_option maxRecDepth 100000 in
theorem rgather_any {b2 : Nat} {v2 : Value} {outs2 : List (List UInt8)} (h : RvAt w1 lo g M n p vo vb st ob v4 outs wr) (h2 : OutIs wr b2 lo v2 outs2) (hlen : outs.length + outs2.length ≤ 1000000) :
    Calls Try.prog 105 #[v2, .pointer (some ⟨ob, 0, none⟩)] wr fun e w' => e = .returned (.tuple #[]) ∧ ∃ v5, RvAt w1 lo g M n p vo vb st ob v5 (outs ++ outs2) w' := by
  obtain ⟨j0, hj0, hm0, hm1, hm2⟩ := info_parts sl_info
  obtain ⟨A4, c4, vs4, rfl, hc4, hm4, hrow4, _, _, heach4⟩ := h.out.one
  obtain ⟨A2, c2, vs2, rfl, hc2, hm2', hrow2, hsl2, hone2, heach2⟩ := h2.one
  have x0 : wr.cell? ⟨ob, 0, none⟩ = some (.slice A4 outs.length c4) := h.obx.cell 0
  have HH := Lib.hid h
  clear h h2
  go_enter Try.func105, Try.ntmps105
  go_wp2_with (at_builtin; refine wpList_append_sl _ rfl (.tmp 3) (.tmp 4) 22 rfl w1.heap.size 29 j0 (.slice none 0 0) 24 und22 hj0 hm0 hm1 hm2 rfl _ outs.length vs4 rfl hrow4 _ A2 outs2.length c2 vs2 rfl hsl2 hone2 ?c2 ?c3 ?c4 ?_)
  case c2 => unfold maxLen; omega
  case c3 => omega
  case c4 => exact HH.out.kept.size
  intro v6 w6 hown6 hgrow6 _
  obtain ⟨A6, c6, rfl, _⟩ := own_sl hown6
  have hB6 := HH.out.obx.grown hgrow6 (fun e => own_blk_ne hrow4 HH.out.obx (by decide) e.symm)
  have hX6 := HH.out.bx.grown hgrow6 (fun e => own_blk_ne hrow4 HH.out.bx (by decide) e.symm)
  have hR6 := HH.out.rc.rowGrown hrow4 (Nat.le_refl _) hgrow6
  have hO6 := OutIs.app hrow4 heach4 hrow2 heach2 hown6 hgrow6
  have hK6 := HH.out.kept.row hrow4 hgrow6
  have y0 : w6.cell? ⟨ob, 0, none⟩ = some (.slice A4 outs.length c4) := hB6.cell 0
  have f0 := hB6.frozen 0
  have hlo := HH.out.hl
  have hob := HH.out.hob
  have hne : ¬ w1.heap.size = ob := fun e => by
    have a := HH.out.bx
    have b := HH.out.obx
    unfold Blk at a b
    rw [e, b] at a
    cases a
  have hfin : RvAt w1 lo g M n p vo vb st ob (.slice A6 (outs.length + outs2.length) c6) (outs ++ outs2) (w6.setCell ⟨ob, 0, none⟩ (.slice A6 (outs.length + outs2.length) c6)) := by
    refine ⟨hR6.setFar hB6 (by omega) _, hX6.far (by simp; omega) _, by simpa using hB6.set_ 0 (.slice A6 (outs.length + outs2.length) c6), ?_, hK6.setCell (p := ⟨ob, 0, none⟩) (fun o ho => ?_) _, hob, hlo⟩
    · obtain ⟨vs, a1, a2⟩ := hO6
      exact ⟨vs, own_store a1 hB6 (by decide) _, fun i q hi => let ⟨vi, e, ho⟩ := a2 i q hi; ⟨vi, e, own_store ho hB6 (by decide) _⟩⟩
    · have hlt : ob < w1.heap.size := lt_of_heap ho
      omega
  have HFIN := Lib.hid hfin
  clear hB6 hX6 hR6 hO6 hK6 hfin hrow4 heach4 hrow2 heach2 hown6 hgrow6 hsl2 hone2 x0
  go_wp2
  go_end0
  exact ⟨rfl, _, HFIN.out⟩
end
end Go.Proofs.Ytchlbpfeiamieaa
