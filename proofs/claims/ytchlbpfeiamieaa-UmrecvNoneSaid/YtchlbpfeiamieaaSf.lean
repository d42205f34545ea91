/- umrecv: deliver: the memory of its rounds. -/
import Derived.Test.YtchlbpfeiamieaaSc
import Derived.Test.YtchlbpfeiamieaaSd
namespace Go.Proofs.Ytchlbpfeiamieaa
open Go.RowKit Go.Shelf
attribute [local go_sem] Oper.semAt_some

/-- a part, in this memory and in all that keep what lies from base on -/
theorem PartsOut.get2 {w : World} {base : Nat} {vo : Value} {ps : List (List UInt8)} (h : PartsOut w base vo ps) {i : Nat} {q : List UInt8} (hi : ps[i]? = some q) :
    ∃ (ad : Addr) (c : Nat) (Ai : Option Addr) (ci : Nat), vo = .slice (some ad) ps.length c ∧ ps.length ≤ c ∧ c ≤ 9223372036854775807 ∧ w.cell? (ad.add i) = some (.slice Ai q.length ci) ∧ q.length ≤ ci ∧ ci ≤ 9223372036854775807 ∧
      ∀ w' : World, (∀ j o, base ≤ j → w.heap[j]? = some o → w'.heap[j]? = some o) → Sl w' w'.heap.size Ai q.length ci (bvs q) := by
  obtain ⟨A, c, vs, e, hs, _, heach⟩ := h.sls
  obtain ⟨vs2, g, cap, data, h1, h2, h3⟩ := h
  have hlt := (List.getElem?_eq_some_iff.1 hi).1
  obtain ⟨A3, c3, e3, hs3, _⟩ := own_sl h1
  obtain ⟨ad, rfl, _, hcell⟩ := hs3.at_ (by omega)
  obtain ⟨off, ci, e2, hc1, hc2, hp⟩ := h3 i q hi
  refine ⟨ad, c3, some ⟨g, off, none⟩, ci, e3, hs3.cap, hs3.mx, hcell i _ e2, hc1, hc2, fun w' hk => ?_⟩
  have h2' := own_from h2 hk
  refine ⟨by simp, hc1, hc2, fun hpos => ⟨_, rfl, (h2'.lt g rfl).2, fun j u hu => ?_⟩⟩
  have hj : j < q.length := by
    have := (List.getElem?_eq_some_iff.1 hu).1
    simpa using this
  have hcell := h2'.cells (g := g) rfl (off + j) u (by
    unfold bvs at hu ⊢
    rw [List.getElem?_map] at hu ⊢
    rw [hp, List.getElem?_take, if_pos hj, List.getElem?_drop] at hu
    exact hu)
  have e2 : (⟨g, off, none⟩ : Addr).add j = (⟨g, 0, none⟩ : Addr).add (off + j) := by
    unfold Addr.add
    by_cases hj0 : j = 0
    · subst hj0
      by_cases ho : off = 0
      · simp [ho]
      · simp [ho]
    · simp [hj0]
  rw [e2]
  exact hcell
/-- what a call that delivers gives -/
def DlvOut (w : World) (lo hi g M n : Nat) (R : Rs × List (List UInt8)) (e : Ending) (w' : World) : Prop :=
  ∃ vb' vo', e = .returned vo' ∧ Rcv w' lo hi g M n vb' R.1 ∧ OutIs w' w.heap.size lo vo' R.2 ∧ Kept (MR g M) w w'
/-- the state within deliver -/
def stAt (st : Rs) (b : List UInt8) (sm : Bool) (last : Int) : Rs := { st with b := b, sm := sm, last := last }
/-- the memory within deliver -/
structure DlvAt (w : World) (lo g M n : Nat) (st : Rs) (p : Pd) (vo : Value) (b : List UInt8) (sm : Bool) (last : Int) (outs : List (List UInt8)) (vb s4 : Value) (wr : World) : Prop where
  blk : Blk wr g 57 (rcv vb M (stAt st b sm last))
  row : wr.ownsRow lo 5 1 vb b.length (bvs b)
  box : Blk wr w.heap.size 26 #[.int .i64 p.sn, .bool p.s, .bool p.en, vo]
  out : OutIs wr w.heap.size lo s4 outs
  kept : Kept (fun k _ => k = g) w wr
section
variable {w wr w2 : World} {lo hi g M n : Nat} {st : Rs} {p : Pd} {vo : Value} {b : List UInt8} {sm : Bool} {last : Int} {outs : List (List UInt8)} {vb s4 vb0 : Value} {st0 : Rs}
theorem own_set {base : Nat} {e : TypeId} {v : Value} {k i : Nat} {xs : List Value} (h : wr.ownsRow base e 1 v k xs) (hg : g < base) (u : Value) : (wr.setCell ⟨g, i, none⟩ u).ownsRow base e 1 v k xs :=
  own_from h fun j o hj ho => (Below.heap_setCell wr ⟨g, i, none⟩ u j (fun e => by have e2 : j = g := e; omega)).trans ho
theorem OutIs.set {base : Nat} {v : Value} (h : OutIs wr base lo v outs) (hbl : lo ≤ base) (hg : g < lo) (i : Nat) (u : Value) : OutIs (wr.setCell ⟨g, i, none⟩ u) base lo v outs :=
  h.kept hbl fun j o hj ho => (Below.heap_setCell wr ⟨g, i, none⟩ u j (fun e => by have e2 : j = g := e; omega)).trans ho
theorem DlvAt.start (h : Rcv w lo hi g M n vb st) : DlvAt w lo g M n st p vo st.b st.sm st.last [] vb (.slice none 0 0) (w.alloc (.cells #[.int .i64 p.sn, .bool p.s, .bool p.en, vo] 26)) :=
  ⟨(h.alloc _).blk, (h.alloc _).row, Blk.new w 26 _, OutIs.nil _ _ _, (Kept.refl _ w).alloc _⟩
/-- a cell of the receiver is written -/
theorem DlvAt.put (h : DlvAt w lo g M n st p vo b sm last outs vb s4 wr) (hr : Rcv w lo hi g M n vb0 st0) (i : Nat) (u : Value) {b' : List UInt8} {sm' : Bool} {last' : Int} {vb' : Value}
    (he : (rcv vb M (stAt st b sm last)).setIfInBounds i u = rcv vb' M (stAt st b' sm' last')) (hrow : wr.ownsRow lo 5 1 vb' b'.length (bvs b')) : DlvAt w lo g M n st p vo b' sm' last' outs vb' s4 (wr.setCell ⟨g, i, none⟩ u) := by
  have hgw : g < w.heap.size := Nat.lt_of_lt_of_le hr.hg hr.hlo
  refine ⟨?_, own_set hrow hr.hg u, h.box.far (by simp; omega) _, h.out.set hr.hlo hr.hg i u, h.kept.setCell (p := ⟨g, i, none⟩) (fun _ _ => rfl) u⟩
  have := h.blk.set_ i u
  rw [he] at this
  exact this
theorem DlvAt.cells (h : DlvAt w lo g M n st p vo b sm last outs vb s4 wr) : wr.cell? ⟨g, 0, none⟩ = some vb ∧ wr.cell? ⟨g, 1, none⟩ = some (.bool sm) ∧ wr.cell? ⟨g, 2, none⟩ = some (.int .i64 last) ∧ wr.frozen? ⟨g, 0, none⟩ = false ∧ wr.frozen? ⟨g, 1, none⟩ = false ∧ wr.frozen? ⟨g, 2, none⟩ = false :=
  ⟨h.blk.cell 0, h.blk.cell 1, h.blk.cell 2, h.blk.frozen 0, h.blk.frozen 1, h.blk.frozen 2⟩
theorem DlvAt.boxes (h : DlvAt w lo g M n st p vo b sm last outs vb s4 wr) : wr.cell? ⟨w.heap.size, 0, none⟩ = some (.int .i64 p.sn) ∧ wr.cell? ⟨w.heap.size, 1, none⟩ = some (.bool p.s) ∧ wr.cell? ⟨w.heap.size, 2, none⟩ = some (.bool p.en) ∧ wr.cell? ⟨w.heap.size, 3, none⟩ = some vo :=
  ⟨h.box.cell 0, h.box.cell 1, h.box.cell 2, h.box.cell 3⟩
theorem DlvAt.drop (h : DlvAt w lo g M n st p vo b sm last outs vb s4 wr) (hr : Rcv w lo hi g M n vb0 st0) : DlvAt w lo g M n st p vo [] false last outs (.slice none 0 0) s4 ((wr.setCell ⟨g, 0, none⟩ (.slice none 0 0)).setCell ⟨g, 1, none⟩ (.bool false)) :=
  (h.put hr 0 (.slice none 0 0) (b' := []) (sm' := sm) (last' := last) (vb' := .slice none 0 0) rfl (World.ownsRow_nil _ _ _ _)).put hr 1 (.bool false) rfl (World.ownsRow_nil _ _ _ _)
theorem DlvAt.open_ (h : DlvAt w lo g M n st p vo b sm last outs vb s4 wr) (hr : Rcv w lo hi g M n vb0 st0) : DlvAt w lo g M n st p vo [] true last outs (.slice none 0 0) s4 ((wr.setCell ⟨g, 0, none⟩ (.slice none 0 0)).setCell ⟨g, 1, none⟩ (.bool true)) :=
  (h.put hr 0 (.slice none 0 0) (b' := []) (sm' := sm) (last' := last) (vb' := .slice none 0 0) rfl (World.ownsRow_nil _ _ _ _)).put hr 1 (.bool true) rfl (World.ownsRow_nil _ _ _ _)
theorem DlvAt.lastSet (h : DlvAt w lo g M n st p vo b sm last outs vb s4 wr) (hr : Rcv w lo hi g M n vb0 st0) (l : Int) : DlvAt w lo g M n st p vo b sm l outs vb s4 (wr.setCell ⟨g, 2, none⟩ (.int .i64 l)) :=
  h.put hr 2 (.int .i64 l) rfl h.row
theorem DlvAt.drew (h : DlvAt w lo g M n st p vo b sm last outs vb s4 wr) : DlvAt w lo g M n st p vo b sm last outs vb s4 wr.drew :=
  ⟨h.blk, h.row, h.box, h.out, h.kept.drew⟩
theorem DlvAt.drewN (h : DlvAt w lo g M n st p vo b sm last outs vb s4 wr) (q : Nat) : DlvAt w lo g M n st p vo b sm last outs vb s4 (wr.drewN q) :=
  ⟨h.blk, h.row, h.box, h.out, h.kept.drewN q⟩
/-- nothing that was there turns -/
theorem DlvAt.below (h : DlvAt w lo g M n st p vo b sm last outs vb s4 wr) (hr : Rcv w lo hi g M n vb0 st0) (hb : Below wr.heap.size wr w2) : DlvAt w lo g M n st p vo b sm last outs vb s4 w2 := by
  have hk : ∀ j o, wr.heap[j]? = some o → w2.heap[j]? = some o := fun j o hj => (hb.block j (lt_of_heap hj)).trans hj
  exact ⟨h.blk.below hb h.blk.lt, own_from h.row (fun j o _ hj => hk j o hj), h.box.below hb h.box.lt, h.out.kept hr.hlo (fun j o _ hj => hk j o hj), h.kept.trans ((Kept.of_below hb).mono_at fun k o ho hm => by have := lt_of_heap ho; omega)⟩
theorem grown_below {W W2 : World} (h : W.grownBy W2 none) : Below W.heap.size W W2 := ⟨h.os, h.tape, h.output, h.size, fun k hk => h.block k hk (by simp)⟩
/-- a part is added to the open SDU -/
theorem DlvAt.app (h : DlvAt w lo g M n st p vo b sm last outs vb s4 wr) (hr : Rcv w lo hi g M n vb0 st0) {q : List UInt8} {v' : Value} (hg : wr.grownBy w2 none) (hown : w2.ownsRow wr.heap.size 5 1 v' (b.length + q.length) (bvs b ++ bvs q)) :
    DlvAt w lo g M n st p vo (b ++ q) sm last outs v' s4 (w2.setCell ⟨g, 0, none⟩ v') := by
  refine (h.below hr (grown_below hg)).put hr 0 v' rfl ?_
  have := own_base hown (Nat.le_trans hr.hlo h.kept.size)
  rw [List.length_append]
  unfold bvs at this ⊢
  rw [List.map_append]
  exact this
/-- the open SDU is returned -/
theorem DlvAt.push (h : DlvAt w lo g M n st p vo b sm last outs vb s4 wr) (hr : Rcv w lo hi g M n vb0 st0) {v5 : Value} {vs : List Value} (hvs : wr.ownsRow w.heap.size 29 1 s4 outs.length vs) (heach : ∀ (i : Nat) (q : List UInt8), outs[i]? = some q → ∃ vi, vs[i]? = some vi ∧ wr.ownsRow lo 5 1 vi q.length (bvs q))
    (hown : w2.ownsRow w.heap.size 29 1 v5 (outs.length + 1) (vs ++ [vb])) (hg : (wr.alloc (.cells #[vb] 29)).grownBy w2 s4.ownBlock) :
    DlvAt w lo g M n st p vo b sm last (outs ++ [b]) vb v5 w2 := by
  have hgw : g < w.heap.size := Nat.lt_of_lt_of_le hr.hg hr.hlo
  have hs4 := hvs.alloc (.cells #[vb] 29)
  have h5 : ∀ {k : Nat} {v : Value} {xs : List Value}, wr.ownsRow lo 5 1 v k xs → w2.ownsRow lo 5 1 v k xs := fun hx => own_grown_ne _ (hx.alloc _) hs4 (by decide) hg
  have hb2 := (h.blk.alloc (.cells #[vb] 29)).grown hg (fun e => own_blk_ne hs4 (h.blk.alloc _) (by decide) e.symm)
  have hx2 := (h.box.alloc (.cells #[vb] 29)).grown hg (fun e => own_blk_ne hs4 (h.box.alloc _) (by decide) e.symm)
  refine ⟨hb2, h5 h.row, hx2, ⟨vs ++ [vb], by simpa using hown, fun i q hi => ?_⟩, ?_⟩
  · rcases Nat.lt_or_ge i outs.length with hlt | hge
    · rw [List.getElem?_append_left hlt] at hi
      obtain ⟨vi, e, ho⟩ := heach i q hi
      exact ⟨vi, by rw [List.getElem?_append_left (by have := hvs.1; omega)]; exact e, h5 ho⟩
    · have hi0 : i = outs.length := by
        have := (List.getElem?_eq_some_iff.1 hi).1
        simp at this
        omega
      subst hi0
      simp at hi
      subst hi
      exact ⟨vb, by have := hvs.1; rw [List.getElem?_append_right (by omega)]; simp [show outs.length - vs.length = 0 by omega], h5 h.row⟩
  · refine (h.kept.alloc _).grown hg fun k hk o ho => ?_
    obtain ⟨_, _, _, hb⟩ := own_isRow hs4 hk
    have := lt_of_heap ho
    omega
/-- deliver's end -/
theorem DlvAt.end_ (h : DlvAt w lo g M n st p vo b sm last outs vb s4 wr) (hr : Rcv w lo hi g M n vb0 st) : Rcv wr lo hi g M n vb (stAt st b sm last) ∧ OutIs wr w.heap.size lo s4 outs ∧ Kept (MR g M) w wr := by
  have hk : ∀ j o, lo ≤ j → w.heap[j]? = some o → wr.heap[j]? = some o := fun j o hj ho => h.kept.same j o ho (by have := hr.hg; omega)
  have hM : wr.heap[M]? = w.heap[M]? := by
    have hl : M < w.heap.size := Nat.lt_of_lt_of_le hr.hM hr.hlo
    have e : w.heap[M]? = some w.heap[M] := Array.getElem?_eq_getElem hl
    rw [e]
    exact h.kept.same M _ e (fun e => hr.ne e.symm)
  exact ⟨⟨h.blk, h.row, hr.mp.kept hk hM, hr.hg, hr.hM, hr.ne, Nat.le_trans hr.hlo h.kept.size, Nat.le_trans hr.hhi h.kept.size⟩, h.out, h.kept.mono fun _ _ e => .inl e⟩
end
/-- the relation of deliver's loop -/
def DlvRel (w : World) (lo g M n : Nat) (st : Rs) (p : Pd) (vo : Value) (FIN : List UInt8 × Bool × List (List UInt8)) (gk : Nat) (s4 s39 : Value) (wr : World) : Prop :=
  ∃ (i : Nat) (r : List (List UInt8)) (b : List UInt8) (sm : Bool) (outs : List (List UInt8)) (vb v4 : Value), v4 = s4 ∧ s39 = .int .i64 i ∧ gk = r.length ∧ r = p.ps.drop i ∧ i + r.length = p.ps.length ∧ DlvAt w lo g M n st p vo b sm p.sn outs vb v4 wr ∧
    FIN = ((partsFrom p.s p.en p.ps.length i r b sm).1, (partsFrom p.s p.en p.ps.length i r b sm).2.1, outs ++ (partsFrom p.s p.en p.ps.length i r b sm).2.2) ∧ b.length ≤ 9000 ∧ outs.length ≤ i
theorem rdrop_any (g : Nat) (w : World) (x0 x1 : Value) (h0 : w.cell? ⟨g, 0, none⟩ = some x0) (h1 : w.cell? ⟨g, 1, none⟩ = some x1) (f0 : w.frozen? ⟨g, 0, none⟩ = false) (f1 : w.frozen? ⟨g, 1, none⟩ = false) :
    Calls Try.prog 178 #[.pointer (some ⟨g, 0, none⟩)] w fun e w' => e = .returned (.tuple #[]) ∧ w' = (w.setCell ⟨g, 0, none⟩ (.slice none 0 0)).setCell ⟨g, 1, none⟩ (.bool false) := by
  go_enter Try.func178, Try.ntmps178
  go_wp2
  go_end0
  exact ⟨rfl, rfl⟩
end Go.Proofs.Ytchlbpfeiamieaa
