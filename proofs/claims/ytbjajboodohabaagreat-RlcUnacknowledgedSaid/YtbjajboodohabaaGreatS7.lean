/- umrecv: deliver: the memory of its rounds. umrecv: deliver. -/
import Derived.Test.YtbjajboodohabaaGreatSc
import Derived.Test.YtbjajboodohabaaGreatSd
import Derived.Deep.RegionLaw
import Derived.Deep.DeepCutAuto
namespace Go.Proofs.YtbjajboodohabaaGreat
open Go.RowKit Go.Shelf
attribute [local go_sem] Oper.semAt_some

/-- a part, in this memory and in all that keep what lies from base on -/
theorem PartsOut.get2 {w : World} {base : Nat} {vo : Value} {ps : List (List UInt8)} (h : PartsOut w base vo ps) {i : Nat} {q : List UInt8} (hi : ps[i]? = some q) :
    ∃ (ad : Addr) (c : Nat) (Ai : Option Addr) (ci : Nat), vo = .slice (some ad) ps.length c ∧ ps.length ≤ c ∧ c ≤ 9223372036854775807 ∧ w.cell? (ad.add i) = some (.slice Ai q.length ci) ∧ q.length ≤ ci ∧ ci ≤ 9223372036854775807 ∧
      ∀ w' : World, (∀ j o, base ≤ j → w.heap[j]? = some o → w'.heap[j]? = some o) → Sl w' w'.heap.size Ai q.length ci (bvs q) := by
  obtain ⟨A, c, vs, e, hs, _, heach⟩ := h.sls
  obtain ⟨vs2, g, cap, data, h1, h2, h3⟩ := h
  have hlt := (List.getElem?_eq_some_iff.1 hi).1
  obtain ⟨A3, c3, e3, hs3, _⟩ := own_sl h1
  obtain ⟨ad, rfl, _, hcell⟩ := hs3.at_ (by omega)
  obtain ⟨off, ci, e2, hc1, hc2, hp⟩ := h3 i q hi
  refine ⟨ad, c3, some ⟨g, off, none⟩, ci, e3, hs3.cap, hs3.mx, hcell i _ e2, hc1, hc2, fun w' hk => ?_⟩
  have h2' := own_from h2 hk
  refine ⟨by simp, hc1, hc2, fun hpos => ⟨_, rfl, (h2'.lt g rfl).2, fun j u hu => ?_⟩⟩
  have hj : j < q.length := by
    have := (List.getElem?_eq_some_iff.1 hu).1
    simpa using this
  have hcell := h2'.cells (g := g) rfl (off + j) u (by
    unfold bvs at hu ⊢
    rw [List.getElem?_map] at hu ⊢
    rw [hp, List.getElem?_take, if_pos hj, List.getElem?_drop] at hu
    exact hu)
  have e2 : (⟨g, off, none⟩ : Addr).add j = (⟨g, 0, none⟩ : Addr).add (off + j) := by
    unfold Addr.add
    by_cases hj0 : j = 0
    · subst hj0
      by_cases ho : off = 0
      · simp [ho]
      · simp [ho]
    · simp [hj0]
  rw [e2]
  exact hcell
/-- what a call that delivers gives -/
def DlvOut (w : World) (lo : Nat) (hi : Nat → Prop) (g M n : Nat) (R : Rs × List (List UInt8)) (e : Ending) (w' : World) : Prop :=
  ∃ vb' vo', e = .returned vo' ∧ Rcv w' lo hi g M n vb' R.1 ∧ OutIs w' w.heap.size lo vo' R.2 ∧ Kept (MR g M) w w'
/-- the state within deliver -/
def stAt (st : Rs) (b : List UInt8) (sm : Bool) (last : Int) : Rs := { st with b := b, sm := sm, last := last }
/-- the memory within deliver -/
structure DlvAt (w : World) (lo g M n : Nat) (st : Rs) (p : Pd) (vo : Value) (b : List UInt8) (sm : Bool) (last : Int) (outs : List (List UInt8)) (vb s4 : Value) (wr : World) : Prop where
  blk : Blk wr g 73 (rcv vb M (stAt st b sm last))
  row : wr.ownsRow lo 5 1 vb b.length (bvs b)
  box : Blk wr w.heap.size 80 #[.int .i64 p.sn, .bool p.s, .bool p.en, vo]
  out : OutIs wr w.heap.size lo s4 outs
  kept : Kept (fun k _ => k = g) w wr
section
variable {w wr w2 : World} {lo : Nat} {hi : Nat → Prop} {g M n : Nat} {st : Rs} {p : Pd} {vo : Value} {b : List UInt8} {sm : Bool} {last : Int} {outs : List (List UInt8)} {vb s4 vb0 : Value} {st0 : Rs}
theorem own_set {base : Nat} {e : TypeId} {v : Value} {k i : Nat} {xs : List Value} (h : wr.ownsRow base e 1 v k xs) (hg : g < base) (u : Value) : (wr.setCell ⟨g, i, none⟩ u).ownsRow base e 1 v k xs :=
  own_from h fun j o hj ho => (Below.heap_setCell wr ⟨g, i, none⟩ u j (fun e => by have e2 : j = g := e; omega)).trans ho
theorem OutIs.set {base : Nat} {v : Value} (h : OutIs wr base lo v outs) (hbl : lo ≤ base) (hg : g < lo) (i : Nat) (u : Value) : OutIs (wr.setCell ⟨g, i, none⟩ u) base lo v outs :=
  h.kept hbl fun j o hj ho => (Below.heap_setCell wr ⟨g, i, none⟩ u j (fun e => by have e2 : j = g := e; omega)).trans ho
theorem DlvAt.start (h : Rcv w lo hi g M n vb st) : DlvAt w lo g M n st p vo st.b st.sm st.last [] vb (.slice none 0 0) (w.alloc (.cells #[.int .i64 p.sn, .bool p.s, .bool p.en, vo] 80)) :=
  ⟨(h.alloc _).blk, (h.alloc _).row, Blk.new w 80 _, OutIs.nil _ _ _, (Kept.refl _ w).alloc _⟩
/-- a cell of the receiver is written -/
theorem DlvAt.put (h : DlvAt w lo g M n st p vo b sm last outs vb s4 wr) (hr : Rcv w lo hi g M n vb0 st0) (i : Nat) (u : Value) {b' : List UInt8} {sm' : Bool} {last' : Int} {vb' : Value}
    (he : (rcv vb M (stAt st b sm last)).setIfInBounds i u = rcv vb' M (stAt st b' sm' last')) (hrow : wr.ownsRow lo 5 1 vb' b'.length (bvs b')) : DlvAt w lo g M n st p vo b' sm' last' outs vb' s4 (wr.setCell ⟨g, i, none⟩ u) := by
  have hgw : g < w.heap.size := Nat.lt_of_lt_of_le hr.hg hr.hlo
  refine ⟨?_, own_set hrow hr.hg u, h.box.far (by simp; omega) _, h.out.set hr.hlo hr.hg i u, h.kept.setCell (p := ⟨g, i, none⟩) (fun _ _ => rfl) u⟩
  have := h.blk.set_ i u
  rw [he] at this
  exact this
theorem DlvAt.cells (h : DlvAt w lo g M n st p vo b sm last outs vb s4 wr) : wr.cell? ⟨g, 0, none⟩ = some vb ∧ wr.cell? ⟨g, 1, none⟩ = some (.bool sm) ∧ wr.cell? ⟨g, 2, none⟩ = some (.int .i64 last) ∧ wr.frozen? ⟨g, 0, none⟩ = false ∧ wr.frozen? ⟨g, 1, none⟩ = false ∧ wr.frozen? ⟨g, 2, none⟩ = false :=
  ⟨h.blk.cell 0, h.blk.cell 1, h.blk.cell 2, h.blk.frozen 0, h.blk.frozen 1, h.blk.frozen 2⟩
theorem DlvAt.boxes (h : DlvAt w lo g M n st p vo b sm last outs vb s4 wr) : wr.cell? ⟨w.heap.size, 0, none⟩ = some (.int .i64 p.sn) ∧ wr.cell? ⟨w.heap.size, 1, none⟩ = some (.bool p.s) ∧ wr.cell? ⟨w.heap.size, 2, none⟩ = some (.bool p.en) ∧ wr.cell? ⟨w.heap.size, 3, none⟩ = some vo :=
  ⟨h.box.cell 0, h.box.cell 1, h.box.cell 2, h.box.cell 3⟩
theorem DlvAt.drop (h : DlvAt w lo g M n st p vo b sm last outs vb s4 wr) (hr : Rcv w lo hi g M n vb0 st0) : DlvAt w lo g M n st p vo [] false last outs (.slice none 0 0) s4 ((wr.setCell ⟨g, 0, none⟩ (.slice none 0 0)).setCell ⟨g, 1, none⟩ (.bool false)) :=
  (h.put hr 0 (.slice none 0 0) (b' := []) (sm' := sm) (last' := last) (vb' := .slice none 0 0) rfl (World.ownsRow_nil _ _ _ _)).put hr 1 (.bool false) rfl (World.ownsRow_nil _ _ _ _)
theorem DlvAt.open_ (h : DlvAt w lo g M n st p vo b sm last outs vb s4 wr) (hr : Rcv w lo hi g M n vb0 st0) : DlvAt w lo g M n st p vo [] true last outs (.slice none 0 0) s4 ((wr.setCell ⟨g, 0, none⟩ (.slice none 0 0)).setCell ⟨g, 1, none⟩ (.bool true)) :=
  (h.put hr 0 (.slice none 0 0) (b' := []) (sm' := sm) (last' := last) (vb' := .slice none 0 0) rfl (World.ownsRow_nil _ _ _ _)).put hr 1 (.bool true) rfl (World.ownsRow_nil _ _ _ _)
theorem DlvAt.lastSet (h : DlvAt w lo g M n st p vo b sm last outs vb s4 wr) (hr : Rcv w lo hi g M n vb0 st0) (l : Int) : DlvAt w lo g M n st p vo b sm l outs vb s4 (wr.setCell ⟨g, 2, none⟩ (.int .i64 l)) :=
  h.put hr 2 (.int .i64 l) rfl h.row
theorem DlvAt.drew (h : DlvAt w lo g M n st p vo b sm last outs vb s4 wr) : DlvAt w lo g M n st p vo b sm last outs vb s4 wr.drew :=
  ⟨h.blk, h.row, h.box, h.out, h.kept.drew⟩
theorem DlvAt.drewN (h : DlvAt w lo g M n st p vo b sm last outs vb s4 wr) (q : Nat) : DlvAt w lo g M n st p vo b sm last outs vb s4 (wr.drewN q) :=
  ⟨h.blk, h.row, h.box, h.out, h.kept.drewN q⟩
/-- nothing that was there turns -/
theorem DlvAt.below (h : DlvAt w lo g M n st p vo b sm last outs vb s4 wr) (hr : Rcv w lo hi g M n vb0 st0) (hb : Below wr.heap.size wr w2) : DlvAt w lo g M n st p vo b sm last outs vb s4 w2 := by
  have hk : ∀ j o, wr.heap[j]? = some o → w2.heap[j]? = some o := fun j o hj => (hb.block j (lt_of_heap hj)).trans hj
  exact ⟨h.blk.below hb h.blk.lt, own_from h.row (fun j o _ hj => hk j o hj), h.box.below hb h.box.lt, h.out.kept hr.hlo (fun j o _ hj => hk j o hj), h.kept.trans ((Kept.of_below hb).mono_at fun k o ho hm => by have := lt_of_heap ho; omega)⟩
theorem grown_below {W W2 : World} (h : W.grownBy W2 none) : Below W.heap.size W W2 := ⟨h.os, h.tape, h.output, h.size, fun k hk => h.block k hk (by simp)⟩
/-- a part is added to the open SDU -/
theorem DlvAt.app (h : DlvAt w lo g M n st p vo b sm last outs vb s4 wr) (hr : Rcv w lo hi g M n vb0 st0) {q : List UInt8} {v' : Value} (hg : wr.grownBy w2 none) (hown : w2.ownsRow wr.heap.size 5 1 v' (b.length + q.length) (bvs b ++ bvs q)) :
    DlvAt w lo g M n st p vo (b ++ q) sm last outs v' s4 (w2.setCell ⟨g, 0, none⟩ v') := by
  refine (h.below hr (grown_below hg)).put hr 0 v' rfl ?_
  have := own_base hown (Nat.le_trans hr.hlo h.kept.size)
  rw [List.length_append]
  unfold bvs at this ⊢
  rw [List.map_append]
  exact this
/-- the open SDU is returned -/
theorem DlvAt.push (h : DlvAt w lo g M n st p vo b sm last outs vb s4 wr) (hr : Rcv w lo hi g M n vb0 st0) {v5 : Value} {vs : List Value} (hvs : wr.ownsRow w.heap.size 40 1 s4 outs.length vs) (heach : ∀ (i : Nat) (q : List UInt8), outs[i]? = some q → ∃ vi, vs[i]? = some vi ∧ wr.ownsRow lo 5 1 vi q.length (bvs q))
    (hown : w2.ownsRow w.heap.size 40 1 v5 (outs.length + 1) (vs ++ [vb])) (hg : (wr.alloc (.cells #[vb] 40)).grownBy w2 s4.ownBlock) :
    DlvAt w lo g M n st p vo b sm last (outs ++ [b]) vb v5 w2 := by
  have hgw : g < w.heap.size := Nat.lt_of_lt_of_le hr.hg hr.hlo
  have hs4 := hvs.alloc (.cells #[vb] 40)
  have h5 : ∀ {k : Nat} {v : Value} {xs : List Value}, wr.ownsRow lo 5 1 v k xs → w2.ownsRow lo 5 1 v k xs := fun hx => own_grown_ne _ (hx.alloc _) hs4 (by decide) hg
  have hb2 := (h.blk.alloc (.cells #[vb] 40)).grown hg (fun e => own_blk_ne hs4 (h.blk.alloc _) (by decide) e.symm)
  have hx2 := (h.box.alloc (.cells #[vb] 40)).grown hg (fun e => own_blk_ne hs4 (h.box.alloc _) (by decide) e.symm)
  refine ⟨hb2, h5 h.row, hx2, ⟨vs ++ [vb], by simpa using hown, fun i q hi => ?_⟩, ?_⟩
  · rcases Nat.lt_or_ge i outs.length with hlt | hge
    · rw [List.getElem?_append_left hlt] at hi
      obtain ⟨vi, e, ho⟩ := heach i q hi
      exact ⟨vi, by rw [List.getElem?_append_left (by have := hvs.1; omega)]; exact e, h5 ho⟩
    · have hi0 : i = outs.length := by
        have := (List.getElem?_eq_some_iff.1 hi).1
        simp at this
        omega
      subst hi0
      simp at hi
      subst hi
      exact ⟨vb, by have := hvs.1; rw [List.getElem?_append_right (by omega)]; simp [show outs.length - vs.length = 0 by omega], h5 h.row⟩
  · refine (h.kept.alloc _).grown hg fun k hk o ho => ?_
    obtain ⟨_, _, _, hb⟩ := own_isRow hs4 hk
    have := lt_of_heap ho
    omega
/-- deliver's end -/
theorem DlvAt.end_ (h : DlvAt w lo g M n st p vo b sm last outs vb s4 wr) (hr : Rcv w lo hi g M n vb0 st) : Rcv wr lo hi g M n vb (stAt st b sm last) ∧ OutIs wr w.heap.size lo s4 outs ∧ Kept (MR g M) w wr := by
  have hk : ∀ j o, lo ≤ j → w.heap[j]? = some o → wr.heap[j]? = some o := fun j o hj ho => h.kept.same j o ho (by have := hr.hg; omega)
  have hM : wr.heap[M]? = w.heap[M]? := by
    have hl : M < w.heap.size := Nat.lt_of_lt_of_le hr.hM hr.hlo
    have e : w.heap[M]? = some w.heap[M] := Array.getElem?_eq_getElem hl
    rw [e]
    exact h.kept.same M _ e (fun e => hr.ne e.symm)
  exact ⟨⟨h.blk, h.row, hr.mp.kept hk hM, hr.hg, hr.hM, hr.ne, Nat.le_trans hr.hlo h.kept.size, fun j hj => Nat.lt_of_lt_of_le (hr.hhi j hj) h.kept.size⟩, h.out, h.kept.mono fun _ _ e => .inl e⟩
end
/-- the relation of deliver's loop -/
def DlvRel (w : World) (lo g M n : Nat) (st : Rs) (p : Pd) (vo : Value) (FIN : List UInt8 × Bool × List (List UInt8)) (gk : Nat) (s4 s39 : Value) (wr : World) : Prop :=
  ∃ (i : Nat) (r : List (List UInt8)) (b : List UInt8) (sm : Bool) (outs : List (List UInt8)) (vb v4 : Value), v4 = s4 ∧ s39 = .int .i64 i ∧ gk = r.length ∧ r = p.ps.drop i ∧ i + r.length = p.ps.length ∧ DlvAt w lo g M n st p vo b sm p.sn outs vb v4 wr ∧
    FIN = ((partsFrom p.s p.en p.ps.length i r b sm).1, (partsFrom p.s p.en p.ps.length i r b sm).2.1, outs ++ (partsFrom p.s p.en p.ps.length i r b sm).2.2) ∧ b.length ≤ 9000 ∧ outs.length ≤ i
theorem rdrop_any (g : Nat) (w : World) (x0 x1 : Value) (h0 : w.cell? ⟨g, 0, none⟩ = some x0) (h1 : w.cell? ⟨g, 1, none⟩ = some x1) (f0 : w.frozen? ⟨g, 0, none⟩ = false) (f1 : w.frozen? ⟨g, 1, none⟩ = false) :
    Calls Tryz.prog 112 #[.pointer (some ⟨g, 0, none⟩)] w fun e w' => e = .returned (.tuple #[]) ∧ w' = (w.setCell ⟨g, 0, none⟩ (.slice none 0 0)).setCell ⟨g, 1, none⟩ (.bool false) := by
  go_enter Tryz.func112, Tryz.ntmps112
  go_wp2
  go_end0
  exact ⟨rfl, rfl⟩
end Go.Proofs.YtbjajboodohabaaGreat
namespace Go.Proofs.YtbjajboodohabaaGreat
open Go.RowKit Go.Shelf
attribute [local go_sem] Oper.semAt_some

theorem PartsOut.kept2 {w w' : World} {lo g : Nat} {vo : Value} {ps : List (List UInt8)} (h : PartsOut w lo vo ps) (hg : g < lo) (hk : Kept (fun k _ => k = g) w w') : PartsOut w' lo vo ps :=
  h.kept fun j o hj ho => hk.same j o ho (by omega)
set_option maxRecDepth 100000 in
set_option maxHeartbeats 4000000 in
theorem rdeliver_any (lo : Nat) (hi : Nat → Prop) (g M n : Nat) (vb : Value) (st : Rs) (p : Pd) (vo : Value) (w : World) (h : Rcv w lo hi g M n vb st) (ho : StOk st) (hp : PdOk p) (hv : PartsOut w lo vo p.ps) :
    Calls Tryz.prog 98 #[.pointer (some ⟨g, 0, none⟩), pdv p vo] w (DlvOut w lo hi g M n (dlv st p)) := by
  have HR := Lib.hid h
  have HV := Lib.hid hv
  have hD0 := DlvAt.start (p := p) (vo := vo) h
  have hlast1 := ho.last1
  have hlast2 := ho.last2
  have hb9 := ho.b
  have hand : bits BinOp.and IntKind.i64 (st.last + 1) 1023 = (st.last + 1) % 1024 := and1023 _
  obtain ⟨FIN, hF⟩ : ∃ FIN, FIN = dlvB st p := ⟨_, rfl⟩
  have hgl := h.blk.lt
  unfold pdv
  have hout : DlvOut w lo hi g M n (dlv st p) = DlvOut w lo hi g M n (stAt st FIN.1 FIN.2.1 p.sn, FIN.2.2) := by rw [hF]; rfl
  rw [hout]
  have HF := Lib.hid hF
  have HHP := Lib.hid hp
  have HB9 := Lib.hid hb9
  clear h hv ho hF hout hp hb9
  go_enter Tryz.func98, Tryz.ntmps98
  go_upto_region 1 with (fail)
  generalize w.alloc (.cells #[.int .i64 p.sn, .bool p.s, .bool p.en, vo] 80) = w0 at *
  obtain ⟨c1, hc1⟩ : ∃ c1 : Bool, c1 = decide (st.last < 0 ∨ (p.sn : Int) ≠ (st.last + 1) % 1024) := ⟨_, rfl⟩
  have HC1 := Lib.hid hc1
  clear hc1
  go_cut [23] (fun s23 wx => s23 = .bool c1 ∧ ∃ q, wx = w0.drewN q)
  case first =>
    obtain ⟨x0, x1, x2, f0, f1, f2⟩ := hD0.cells
    obtain ⟨z0, z1, z2, z3⟩ := hD0.boxes
    by_cases hA : st.last < 0
    · have d1 : decide (st.last < 0) = true := by simpa using hA
      go_quiet (fail)
      go_wp2_with fail
      go_meet
      exact ⟨by rw [HC1.out]; simp [hA], _, rfl⟩
    · have d1 : decide (st.last < 0) = false := by simpa using hA
      by_cases hB : (p.sn : Int) = (st.last + 1) % 1024
      · have d2 : ((p.sn : Int) != (st.last + 1) % 1024) = false := by simpa using hB
        have HBQ := Lib.hid hB
        clear hB
        go_quiet (fail)
        go_wp2_with fail
        go_meet
        exact ⟨by rw [HC1.out]; simp [hA, HBQ.out], _, rfl⟩
      · have d2 : ((p.sn : Int) != (st.last + 1) % 1024) = true := by simpa using hB
        go_quiet (fail)
        go_wp2_with fail
        go_meet
        exact ⟨by rw [HC1.out]; simp [hB], _, rfl⟩
  case rest =>
  obtain ⟨rfl, q, rfl⟩ := hcut
  have hD := hD0.drewN q
  generalize w0.drewN q = W at *
  clear hD0
  go_upto_if 23 with (fail)
  go_cut [] (fun wx => ∃ b0 sm0 vb0, DlvAt w lo g M n st p vo b0 sm0 st.last [] vb0 (.slice none 0 0) wx ∧ FIN = partsFrom p.s p.en p.ps.length 0 p.ps b0 sm0 ∧ b0.length ≤ 9000)
  case first =>
    obtain ⟨x0, x1, x2, f0, f1, f2⟩ := hD.cells
    have hF := HF.out
    unfold dlvB at hF
    cases c1 with
    | true =>
      rw [if_pos (by have := HC1.out; simpa using this.symm)] at hF
      have HF2 := Lib.hid hF
      clear hF
      go_wp2_with (go_at_call 112; refine (rdrop_any g _ _ _ x0 x1 f0 f1).mono ?_; rintro e1 w1 ⟨rfl, rfl⟩)
      go_meet
      exact ⟨[], false, .slice none 0 0, hD.drop HR.out, HF2.out, by simp⟩
    | false =>
      rw [if_neg (by have := HC1.out; simpa using this.symm)] at hF
      have HF2 := Lib.hid hF
      clear hF
      go_wp2_with fail
      go_meet
      exact ⟨st.b, st.sm, vb, hD, HF2.out, HB9.out⟩
  case rest =>
  obtain ⟨b0, sm0, vb0, hD1, hF, hb0⟩ := hcut
  clear hD HF HB9 hand HC1 hlast1 hlast2
  have HF := Lib.hid hF
  have HB0 := Lib.hid hb0
  clear hF hb0
  obtain ⟨A, c, vs, rfl, hsl0⟩ := HV.out.sls
  have hcap := hsl0.sl.cap
  have hmx := hsl0.sl.mx
  obtain ⟨x0, x1, x2, f0, f1, f2⟩ := hD1.cells
  obtain ⟨z0, z1, z2, z3⟩ := hD1.boxes
  have hD2 := hD1.lastSet HR.out p.sn
  obtain ⟨x0', x1', x2', f0', f1', f2'⟩ := hD2.cells
  obtain ⟨z0', z1', z2', z3'⟩ := hD2.boxes
  go_upto_region 4 with (fail)
  generalize wc.setCell ⟨g, 2, none⟩ (.int .i64 p.sn) = W2 at *
  clear x0 x1 x2 f0 f1 f2 z0 z1 z2 z3 hD1 x0' x1' x2' f0' f1' f2' hsl0
  go_wp2_with fail
  have HD2 := Lib.hid hD2
  clear hD2 z0' z1' z2' z3'
  go_loopg [4, 39] p.ps.length (fun gk s4 s39 wr => DlvRel w lo g M n st p (.slice A p.ps.length c) FIN gk s4 s39 wr)
  case atStart => exact ⟨0, p.ps, b0, sm0, [], vb0, _, rfl, rfl, rfl, rfl, by omega, HD2.out, by rw [HF.out]; rfl, HB0.out, Nat.zero_le _⟩
  case round =>
    obtain ⟨i, r, b, sm, outs, vb1, v4, rfl, rfl, hgk, hr, hir, hD, hfin, hb9, hol⟩ := hrel
    clear HF HB0 HD2
    have HGK := Lib.hid hgk
    have HB := Lib.hid hb9
    have HOL := Lib.hid hol
    have HRD := Lib.hid hr
    clear hgk hb9 hol hr
    obtain ⟨x0, x1, x2, f0, f1, f2⟩ := hD.cells
    obtain ⟨z0, z1, z2, z3⟩ := hD.boxes
    cases r with
    | nil =>
      have hR : FIN = (b, sm, outs) := by rw [hfin]; simp [partsFrom]
      have HRR := Lib.hid hR
      have hlen : i = p.ps.length := by simpa using hir
      have HD := Lib.hid hD
      clear hfin hR hD hir
      go_wp2
      go_ret
      rw [HRR.out]
      obtain ⟨e1, e2, e3⟩ := HD.out.end_ HR.out
      exact ⟨_, _, rfl, e1, e2, e3⟩
    | cons q r =>
      simp only [List.length_cons] at hir
      have hlt : i < p.ps.length := by omega
      have hq0 : p.ps[i]? = some q := by
        have := HRD.out
        have h2 : (p.ps.drop i)[0]? = some q := by rw [← this]; rfl
        rw [List.getElem?_drop] at h2
        simpa using h2
      have hr1 : r = p.ps.drop (i + 1) := by
        have h2 : (p.ps.drop i).tail = r := by rw [← HRD.out]; rfl
        rw [← h2, List.tail_drop]
      have hqm : q ∈ p.ps := List.mem_of_getElem? hq0
      obtain ⟨hq1, hq2⟩ := HHP.out.2.2 q hqm
      obtain ⟨ad, cc1, Ai, ci, e1, hcap1, hmx1, hcell, hcapq, hmxq, hq⟩ := (HV.out.kept2 HR.out.hg hD.kept).get2 hq0
      cases e1
      rw [partsFrom] at hfin
      dsimp only at hfin
      have HFIN := Lib.hid hfin
      have HR1 := Lib.hid hr1
      have HQ := Lib.hid hq
      have HIR := Lib.hid hir
      obtain ⟨c2, hc2⟩ : ∃ c2 : Bool, c2 = decide (0 < i ∨ p.s = true) := ⟨_, rfl⟩
      have HC2 := Lib.hid hc2
      clear hfin hr1 hq hqm hq0 HRD hc2 hir
      go_upto_region 8 with (fail)
      go_cut [50] (fun s50 wx => s50 = .bool c2 ∧ wx = wr)
      case first =>
        by_cases h0 : 0 < i
        · have d0 : decide ((0 : Int) < i) = true := by simpa using h0
          go_wp2_with fail
          go_meet
          exact ⟨by rw [HC2.out]; simp [h0], rfl⟩
        · have d0 : decide ((0 : Int) < i) = false := by simpa using h0
          go_wp2_with fail
          go_meet
          exact ⟨by rw [HC2.out]; simp [h0], rfl⟩
      case rest =>
      obtain ⟨rfl, rfl⟩ := hcut
      by_cases hskip : c2 = false ∧ sm = false
      · obtain ⟨rfl, rfl⟩ := hskip
        have hst : partStep p.s p.en p.ps.length i q b false = (b, false, []) := by
          unfold partStep
          rw [if_neg (by have := HC2.out; simpa using this.symm), if_pos rfl]
        have HST := Lib.hid hst
        have HD := Lib.hid hD
        clear hst hD
        go_wp2_with fail
        go_roundg r.length
        case measure => rw [HGK.out]; simp
        case rel =>
          refine ⟨i + 1, r, b, false, outs, vb1, _, rfl, by go_num, rfl, HR1.out, by have := HIR.out; omega, HD.out, ?_, HB.out, by have := HOL.out; omega⟩
          rw [HFIN.out, HST.out]
          simp
      go_upto_if 50 with (fail)
      go_cut [] (fun wx => ∃ b1 vb2, DlvAt w lo g M n st p (.slice (some ad) p.ps.length c) b1 true p.sn outs vb2 v4 wx ∧ partStep p.s p.en p.ps.length i q b sm = tailStep p.en p.ps.length i q b1 ∧ b1.length ≤ 9000 ∧ Kept (fun k _ => k = g) wc wx)
      case first =>
        cases c2 with
        | true =>
          have hst : partStep p.s p.en p.ps.length i q b sm = tailStep p.en p.ps.length i q [] := by
            unfold partStep
            rw [if_pos (by have := HC2.out; simpa using this.symm)]
          have HST := Lib.hid hst
          clear hst
          go_wp2_with fail
          go_meet
          exact ⟨[], .slice none 0 0, hD.open_ HR.out, HST.out, by simp, ((Kept.refl _ _).setCell (p := ⟨g, 0, none⟩) (fun _ _ => rfl) _).setCell (p := ⟨g, 1, none⟩) (fun _ _ => rfl) _⟩
        | false =>
          cases sm with
          | false => exact absurd ⟨rfl, rfl⟩ hskip
          | true =>
            have hst : partStep p.s p.en p.ps.length i q b true = tailStep p.en p.ps.length i q b := by
              unfold partStep
              rw [if_neg (by have := HC2.out; simpa using this.symm), if_neg (by simp)]
            have HST := Lib.hid hst
            clear hst
            go_wp2_with fail
            go_meet
            exact ⟨b, vb1, hD, HST.out, HB.out, Kept.refl _ _⟩
      case rest =>
      obtain ⟨b1, vb2, hD1, hst, hb1, hk1⟩ := hcut
      have hsq := HQ.out _ (fun j o hj ho => hk1.same j o ho (by have := HR.out.hg; omega))
      obtain ⟨i0, hi, hz0, hz1, hz2⟩ := info_parts u8_info
      obtain ⟨Ab, cb, rfl, hsb, _⟩ := own_sl hD1.row
      have hcapb := hsb.cap
      have hmxb := hsb.mx
      have HST := Lib.hid hst
      clear x0 x1 x2 f0 f1 f2 z0 z1 z2 z3 hD hk1 hst hsb hskip hcell
      obtain ⟨x0, x1, x2, f0, f1, f2⟩ := hD1.cells
      obtain ⟨z0, z1, z2, z3⟩ := hD1.boxes
      go_upto_region 11 with (fail)
      go_cut [] (fun wx => ∃ A5 c5, DlvAt w lo g M n st p (.slice (some ad) p.ps.length c) (b1 ++ q) true p.sn outs (.slice A5 (b1.length + q.length) c5) v4 wx ∧ b1.length + q.length ≤ c5 ∧ c5 ≤ 9223372036854775807)
      case first =>
        go_region_law ((refine step_append_full _ (by rfl) _ _ 40 (by rfl) lo 5 i0 (.int .u8 0) 1 und29 hi hz0 hz1 hz2 rfl Ab b1.length cb (bvs b1) (by rfl) (World.ownsRow.drew' hD1.row) _ Ai q.length ci (bvs q) (by rfl) hsq.drew hq1 (one_bvs q) (by unfold maxLen; omega) (by omega) ?_; intro v5 w5 hown5 hgrow5; obtain ⟨A5, c5, rfl, hs5, _⟩ := own_sl hown5; have hD4 := hD1.drew.below HR.out (grown_below hgrow5); obtain ⟨q2, _, _, q3, _, _⟩ := hD4.cells; have hD5 := hD1.drew.app HR.out hgrow5 hown5))
        all_goals
          go_wp2_with fail
          go_meet
          exact ⟨A5, c5, hD5, hs5.cap, hs5.mx⟩
      case rest =>
      obtain ⟨A5, c5, hD5, hcap5, hmx5⟩ := hcut
      clear x0 x1 x2 f0 f1 f2 z0 z1 z2 z3 hD1 hsq hi hz0 hz1 hz2
      obtain ⟨x0, x1, x2, f0, f1, f2⟩ := hD5.cells
      obtain ⟨z0, z1, z2, z3⟩ := hD5.boxes
      have hst := HST.out
      unfold tailStep at hst
      by_cases hbig : 9000 < b1.length + q.length
      · rw [if_pos hbig] at hst
        have d9 : decide ((9000 : Int) < (b1.length : Int) + (q.length : Int)) = true := by simp; omega
        have HD6 := Lib.hid (hD5.drop HR.out)
        have HS2 := Lib.hid hst
        clear hst hbig hD5
        go_wp2_with (go_at_call 112; refine (rdrop_any g _ _ _ x0 x1 f0 f1).mono ?_; rintro e1 w1 ⟨rfl, rfl⟩)
        go_roundg r.length
        case measure => rw [HGK.out]; simp
        case rel =>
          refine ⟨i + 1, r, [], false, outs, .slice none 0 0, _, rfl, by go_num, rfl, HR1.out, by have := HIR.out; omega, HD6.out, ?_, by simp, by have := HOL.out; omega⟩
          rw [HFIN.out, HS2.out]
          simp
      · rw [if_neg hbig] at hst
        have hle : b1.length + q.length ≤ 9000 := by omega
        have d9 : decide ((9000 : Int) < (b1.length : Int) + (q.length : Int)) = false := by simp; omega
        have HLE := Lib.hid hle
        have HS2 := Lib.hid hst
        have HD5 := Lib.hid hD5
        obtain ⟨c3, hc3⟩ : ∃ c3 : Bool, c3 = decide (i + 1 < p.ps.length ∨ p.en = true) := ⟨_, rfl⟩
        have HC3 := Lib.hid hc3
        clear hst hbig hle hD5 hc3
        go_upto_region 14 with (fail)
        go_cut [98] (fun s98 wx => s98 = .bool c3 ∧ wx = wc)
        case first =>
          by_cases h0 : i + 1 < p.ps.length
          · have d0 : decide ((i : Int) + 1 < (p.ps.length : Int)) = true := by simp; omega
            go_wp2_with fail
            go_meet
            exact ⟨by rw [HC3.out]; simp [h0], rfl⟩
          · have d0 : decide ((i : Int) + 1 < (p.ps.length : Int)) = false := by simp; omega
            go_wp2_with fail
            go_meet
            exact ⟨by rw [HC3.out]; simp [h0], rfl⟩
        case rest =>
        obtain ⟨rfl, rfl⟩ := hcut
        cases c3 with
        | false =>
          have hS3 := HS2.out
          rw [if_neg (by have := HC3.out; simpa using this.symm)] at hS3
          have HS3 := Lib.hid hS3
          clear hS3
          go_wp2_with fail
          go_roundg r.length
          case measure => rw [HGK.out]; simp
          case rel =>
            refine ⟨i + 1, r, b1 ++ q, true, outs, _, _, rfl, by go_num, rfl, HR1.out, by have := HIR.out; omega, HD5.out, ?_, by rw [List.length_append]; exact HLE.out, by have := HOL.out; omega⟩
            rw [HFIN.out, HS3.out]
            simp
        | true =>
          have hS3 := HS2.out
          rw [if_pos (by have := HC3.out; simpa using this.symm)] at hS3
          have HS3 := Lib.hid hS3
          clear hS3
          obtain ⟨vs4, hvs, heach⟩ := HD5.out.out
          obtain ⟨Ao, co, rfl, hso, _⟩ := own_sl hvs
          have hcapo := hso.cap
          have hmxo := hso.mx
          have HOL2 := HOL.out
          have hln := HHP.out.2.1
          obtain ⟨j0, hj0, hm0, hm1, hm2⟩ := info_parts sl_info
          have HEACH := Lib.hid heach
          clear hso heach
          go_wp2_with (at_builtin; refine wpList_append_sl _ rfl (.tmp 99) (.tmp 104) 47 rfl w.heap.size 40 j0 (.slice none 0 0) 24 und22 hj0 hm0 hm1 hm2 rfl _ outs.length vs4 rfl (hvs.alloc _) _ _ 1 1 [.slice A5 (b1.length + q.length) c5] rfl (sl_new0 wc _ 40) ?c1 ?c2 ?c3 ?c4 ?_)
          case c1 => simp [Value.oneCell']
          case c2 => unfold maxLen; omega
          case c3 => omega
          case c4 => have := HD5.out.kept.size; simp; omega
          intro v6 w6 hown6 hgrow6 _
          obtain ⟨A6, c6, rfl, hs6, _⟩ := own_sl hown6
          have hcap6 := hs6.cap
          have hmx6 := hs6.mx
          have hD6 := HD5.out.push HR.out hvs HEACH.out hown6 hgrow6
          have HD7 := Lib.hid (hD6.drop HR.out)
          clear x0 x1 x2 f0 f1 f2 z0 z1 z2 z3 hs6 hvs hown6 hgrow6 hj0 hm0 hm1 hm2
          obtain ⟨x0, x1, x2, f0, f1, f2⟩ := hD6.cells
          clear hD6
          go_wp2_with (go_at_call 112; refine (rdrop_any g _ _ _ x0 x1 f0 f1).mono ?_; rintro e1 w1 ⟨rfl, rfl⟩)
          go_roundg r.length
          case measure => rw [HGK.out]; simp
          case rel =>
            refine ⟨i + 1, r, [], false, outs ++ [b1 ++ q], .slice none 0 0, _, rfl, by go_num, rfl, HR1.out, by have := HIR.out; omega, HD7.out, ?_, by simp, by rw [List.length_append]; simp; omega⟩
            rw [HFIN.out, HS3.out]
            simp
end Go.Proofs.YtbjajboodohabaaGreat
