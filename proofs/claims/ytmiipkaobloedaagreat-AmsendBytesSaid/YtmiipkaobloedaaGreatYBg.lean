/- amsend: advance. -/
import Derived.Test.YtmiipkaobloedaaGreatZa
import Derived.Test.YtmiipkaobloedaaGreatZb
import Derived.Test.YtmiipkaobloedaaGreatZl
import Derived.Deep.DeepCutAuto
import Derived.Deep.CutBlock
import Derived.Deep.LoopGhost
import Derived.BigRegion
namespace Go.Proofs.YtmiipkaobloedaaGreat
open Go.RowKit Go.Shelf
attribute [local go_sem] Oper.semAt_some

/-- the first outstanding PDU leaves -/
def stepO (st : Sd) (x : Ou) (r : List Ou) : Sd := { st with out := r, front := st.front + sizeO x, first := (st.first + 1) % 1024 }
/-- the first SDU leaves -/
def stepQ (st : Sd) (x : List UInt8) (r : List (List UInt8)) : Sd := { st with queue := r, front := st.front - x.length, taken := st.taken - x.length, done := st.done + 1 }
theorem adv_stepO {st : Sd} {x : Ou} {r : List Ou} (h : st.out = x :: r) (ha : x.acked = true) : advS (stepO st x r) = advS st := by
  unfold advS stepO
  simp only [h, advOut, if_pos ha]
  have e1 : (st.first + 1) % 1024 + (advOut r).1 = (st.first + 1) % 1024 + (advOut r).1 := rfl
  have e2 : ((st.first + 1) % 1024 + (advOut r).1) % 1024 = (st.first + ((advOut r).1 + 1)) % 1024 := by omega
  have e3 : st.front + sizeO x + (advOut r).2.1 = st.front + ((advOut r).2.1 + sizeO x) := by omega
  rw [e2, e3]
theorem advOut_stop {l : List Ou} (h : ∀ x r, l = x :: r → x.acked = false) : advOut l = (0, 0, l) := by
  cases l with
  | nil => rfl
  | cons x r =>
    have := h x r rfl
    simp [advOut, this]
theorem adv_stepQ {st : Sd} {x : List UInt8} {r : List (List UInt8)} (h : st.queue = x :: r) (hf : x.length ≤ st.front) (ho : advOut st.out = (0, 0, st.out)) (_hfi : st.first < 1024) : advS (stepQ st x r) = advS st := by
  unfold advS stepQ
  simp only [h, ho, Nat.add_zero]
  have e : advQ (x :: r) st.front = ((advQ r (st.front - x.length)).1 + 1, (advQ r (st.front - x.length)).2.1 + x.length, (advQ r (st.front - x.length)).2.2.1, (advQ r (st.front - x.length)).2.2.2) := by
    rw [advQ, if_pos hf]
  rw [e]
  simp only
  have e1 : st.taken - x.length - (advQ r (st.front - x.length)).2.1 = st.taken - ((advQ r (st.front - x.length)).2.1 + x.length) := by omega
  have e2 : st.done + 1 + (advQ r (st.front - x.length)).1 = st.done + ((advQ r (st.front - x.length)).1 + 1) := by omega
  rw [e1, e2]
theorem adv_stop {st : Sd} (ho : advOut st.out = (0, 0, st.out)) (hq : ∀ x r, st.queue = x :: r → st.front < x.length) (hfi : st.first < 1024) : advS st = st := by
  unfold advS
  simp only [ho, Nat.add_zero]
  have e : advQ st.queue st.front = (0, 0, st.front, st.queue) := by
    cases hqq : st.queue with
    | nil => rfl
    | cons x r =>
      have := hq x r hqq
      rw [advQ, if_neg (by omega)]
  rw [e]
  simp only [Nat.sub_zero, Nat.add_zero, Nat.mod_eq_of_lt hfi]
section
variable {D F : Nat → Prop} {g : Nat} {c : Cf} {st : Sd} {vq vo : Value} {vs os : List Value} {w : World}
/-- the first outstanding PDU's pointer is left out -/
theorem AmS.tailO (h : AmS w D F g c st vq vs vo os) {x : Ou} {r : List Ou} {v : Value} {os' : List Value} {vo' : Value} (ho : st.out = x :: r) (hos : os = v :: os') (hq : OwnQ w 0 75 vo' r.length os') (hb : ∀ k, qBlock vo' = some k → D k) :
    AmS (w.setCell ⟨g, 12, none⟩ vo') D F g c { st with out := r } vq vs vo' os' := by
  subst hos
  have hbk := h.blk.set_ 12 vo'
  have hlt : ∀ k, F k → k < (w.setCell ⟨g, 12, none⟩ vo').heap.size := fun k hk => by
    have := h.lt k hk
    simpa [World.setCell] using this
  refine ⟨hbk, h.gd, h.sub, hlt, h.qr.store h.blk (by decide) _, h.qd, fun i p hi => ?_, hq.store h.blk (by decide) _, hb, fun i y hi => ?_, fun i j u hi hj => ?_⟩
  · obtain ⟨A, cc, e, hs, hf⟩ := h.qe i p hi
    exact ⟨A, cc, e, hs.stay fun ad ea => heap_far (fun e2 => (hf ad ea).2 (by
      have e3 : ad.block = g := e2
      rw [e3]; exact h.gd)), hf⟩
  · obtain ⟨p, Ap, cp, vp, Ar, cr, e, hx⟩ := h.oe (i + 1) y (by rw [ho]; simpa using hi)
    exact ⟨p, Ap, cp, vp, Ar, cr, by simpa using e, hx.far h.gd (fun e => h.blk.off hx.blk (by decide) e) 12 vo'⟩
  · have := h.inj (i + 1) (j + 1) u (by simpa using hi) (by simpa using hj)
    omega
/-- the first SDU is left out -/
theorem AmS.tailQ (h : AmS w D F g c st vq vs vo os) {x : List UInt8} {r : List (List UInt8)} {v : Value} {vs' : List Value} {vq' : Value} (ho : st.queue = x :: r) (hos : vs = v :: vs') (hq : OwnQ w 0 31 vq' r.length vs') (hb : ∀ k, qBlock vq' = some k → D k) :
    AmS (w.setCell ⟨g, 7, none⟩ vq') D F g c { st with queue := r } vq' vs' vo os := by
  subst hos
  have hbk := h.blk.set_ 7 vq'
  have hlt : ∀ k, F k → k < (w.setCell ⟨g, 7, none⟩ vq').heap.size := fun k hk => by
    have := h.lt k hk
    simpa [World.setCell] using this
  refine ⟨hbk, h.gd, h.sub, hlt, hq.store h.blk (by decide) _, hb, fun i p hi => ?_, h.or_.store h.blk (by decide) _, h.od, fun i y hi => ?_, h.inj⟩
  · obtain ⟨A, cc, e, hs, hf⟩ := h.qe (i + 1) p (by rw [ho]; simpa using hi)
    exact ⟨A, cc, by simpa using e, hs.stay fun ad ea => heap_far (fun e2 => (hf ad ea).2 (by
      have e3 : ad.block = g := e2
      rw [e3]; exact h.gd)), hf⟩
  · obtain ⟨p, Ap, cp, vp, Ar, cr, e, hx⟩ := h.oe i y hi
    exact ⟨p, Ap, cp, vp, Ar, cr, e, hx.far h.gd (fun e => h.blk.off hx.blk (by decide) e) 7 vq'⟩
/-- where the first loop stands -/
def AdvO (w : World) (D F : Nat → Prop) (g : Nat) (c : Cf) (st : Sd) (vq : Value) (vs : List Value) (E : Sd → Prop) (gk : Nat) (wr : World) : Prop :=
  ∃ st' vo' os', gk = st'.out.length ∧ AmS wr D F g c st' vq vs vo' os' ∧ Kept (fun k _ => D k) w wr ∧ advS st' = advS st ∧ st'.taken = st'.front + sizes st'.out ∧ st'.taken ≤ 1048576 ∧ st'.queue = st.queue ∧ st'.first < 1024 ∧ st'.done = st.done ∧ st'.out.length ≤ 512 ∧ E st'
/-- where the second loop stands -/
def AdvQ (w : World) (D F : Nat → Prop) (g : Nat) (c : Cf) (st : Sd) (vo : Value) (os : List Value) (gk : Nat) (wr : World) : Prop :=
  ∃ st' vq' vs', gk = st'.queue.length ∧ AmS wr D F g c st' vq' vs' vo os ∧ Kept (fun k _ => D k) w wr ∧ advS st' = advS st ∧ st'.front ≤ st'.taken ∧ st'.taken ≤ 1048576 ∧ st'.first < 1024 ∧ advOut st'.out = (0, 0, st'.out) ∧ st'.done + st'.queue.length ≤ 9000000000000 ∧ (∀ s ∈ st'.queue, s.length ≤ 9000)
set_option maxRecDepth 100000 in
set_option maxHeartbeats 4000000 in
theorem sadvance_any (h : AmS w D F g c st vq vs vo os) (hI : st.taken = st.front + sizes st.out) (ht : st.taken ≤ 1048576) (hf : st.first < 1024) (hw : st.out.length ≤ 512) (hd : st.done ≤ 1000000000000) (hql : st.queue.length ≤ 1048576) (hsd : ∀ s ∈ st.queue, s.length ≤ 9000) :
    Calls Tryz.prog 44 #[.pointer (some ⟨g, 0, none⟩)] w fun e w' => e = .returned (.tuple #[]) ∧ ∃ vq' vs' vo' os', AmS w' D F g c (advS st) vq' vs' vo' os' ∧ Kept (fun k _ => D k) w w' := by
  have HH := Lib.hid h
  have HI := Lib.hid hI
  have HSD := Lib.hid hsd
  clear h hI hsd
  go_enter Tryz.func44, Tryz.ntmps44
  go_upto_block 0 with (fail)
  go_cut [] (fun wx => ∃ gk, AdvO w D F g c st vq vs (fun s => advOut s.out = (0, 0, s.out)) gk wx)
  case first =>
    go_wp2_with fail
    go_loopg [] st.out.length (fun gk wr => AdvO w D F g c st vq vs (fun _ => True) gk wr)
    case atStart => exact ⟨st, vo, os, rfl, HH.out, Kept.refl _ w, rfl, HI.out, ht, rfl, hf, rfl, hw, trivial⟩
    case round =>
      obtain ⟨s1, vo1, os1, rfl, hA, hk, had, htk, htl, hqq, hfi, hdn, hol, -⟩ := hrel
      have y12 := hA.blk.cell 12
      simp [sndC] at y12
      cases hout : s1.out with
      | nil =>
        have hR : AdvO w D F g c st vq vs (fun s => advOut s.out = (0, 0, s.out)) s1.out.length wr := ⟨s1, vo1, os1, rfl, hA, hk, had, htk, htl, hqq, hfi, hdn, hol, by show advOut s1.out = (0, 0, s1.out); rw [hout]; rfl⟩
        have HR := Lib.hid hR
        obtain ⟨A, cc, rfl, hs⟩ := hA.osl
        have hc1 := hs.cap
        have hc2 := hs.mx
        rw [hout] at hc1 y12
        simp only [List.length_nil] at hc1 y12
        clear hA hk had htk hqq hdn hR hs hout
        go_wp2
        go_meet
        exact ⟨_, HR.out⟩
      | cons x r =>
        obtain ⟨p, Ap, cp, vp, Ar, cr, he, ho⟩ := hA.oe 0 x (by rw [hout]; rfl)
        obtain ⟨z0, z7, z8, z9, z10, z11⟩ := ho.cells
        have hq := hA.or_
        rw [hout] at hq
        simp only [List.length_cons] at hq
        obtain ⟨v, os2, hos⟩ : ∃ v os2, os1 = v :: os2 := by
          cases hos : os1 with
          | nil => rw [hos] at he; simp at he
          | cons v t => exact ⟨v, t, rfl⟩
        subst hos
        simp only [List.getElem?_cons_zero, Option.some.injEq] at he
        subst he
        obtain ⟨q, oo, cap, rfl, hcap1, hcap2⟩ : ∃ q oo cap, vo1 = .slice (some ⟨q, oo, none⟩) (r.length + 1) cap ∧ r.length + 1 ≤ cap ∧ cap ≤ 9223372036854775807 := by
          rcases hq.2 with ⟨_, h0⟩ | ⟨q, oo, cap, cur, e, _, _, h1, h2, _⟩
          · omega
          · exact ⟨q, oo, cap, e, h1, by unfold maxLen at h2; omega⟩
        have yq := hq.cells 0 _ rfl
        simp only [Nat.add_zero] at yq
        cases hac : x.acked with
        | false =>
          rw [hac] at z9
          have hR : AdvO w D F g c st vq vs (fun s => advOut s.out = (0, 0, s.out)) s1.out.length wr := ⟨s1, _, _, rfl, hA, hk, had, htk, htl, hqq, hfi, hdn, hol, by show advOut s1.out = (0, 0, s1.out); rw [hout]; exact advOut_stop fun y t e => by cases e; exact hac⟩
          have HR := Lib.hid hR
          clear hA hk had htk hqq hdn hR hq hout hac ho z0 z7 z8 z10 z11
          go_wp2
          go_meet
          exact ⟨_, HR.out⟩
        | true =>
          rw [hac] at z9
          have hsz : sizes s1.out = sizeO x + sizes r := by rw [hout, sizes_cons]
          have hfs : s1.front + sizeO x ≤ 1048576 := by omega
          have y9 := hA.blk.cell 9
          have e9 := hA.blk.frozen 9
          simp [sndC] at y9
          have hA1 := hA.setG 9 (.int .i64 ((s1.front : Int) + (sizeO x : Nat))) (st' := { s1 with front := s1.front + sizeO x }) (by simp [sndC]) rfl rfl
          have hk1 := hk.setCell (p := ⟨g, 9, none⟩) (fun _ _ => hA.gd) (.int .i64 ((s1.front : Int) + (sizeO x : Nat)))
          have HA1 := Lib.hid hA1.drew
          have HK1 := Lib.hid hk1.drew
          have HQ := Lib.hid hq
          have HOUT := Lib.hid hout
          have HSZ := Lib.hid hsz
          have HAC := Lib.hid hac
          have HAD := Lib.hid had
          have HQQ := Lib.hid hqq
          have HDN := Lib.hid hdn
          have HTK := Lib.hid htk
          clear hA hk hA1 hk1 hq hout hsz hac had hqq hdn htk ho z0 z7 z10 z11
          have hand : bits BinOp.and IntKind.i64 ((s1.first : Int) + 1) 1023 = (((s1.first + 1) % 1024 : Nat) : Int) := by rw [and1023]; omega
          go_wp2_with fail
          go_region
          generalize (wr.setCell ⟨g, 9, none⟩ (.int .i64 ((s1.front : Int) + (sizeO x : Nat)))).drew = w1 at *
          clear y9 y12 e9 yq z8 z9
          have y12 := HA1.out.blk.cell 12
          have e12 := HA1.out.blk.frozen 12
          simp [sndC] at y12
          have hq1 := HA1.out.or_
          have hlo : ({ s1 with front := s1.front + sizeO x } : Sd).out.length = r.length + 1 := by show s1.out.length = _; rw [HOUT.out]; rfl
          rw [hlo] at hq1
          have HQ := Lib.hid hq1
          clear hq1 hlo
          by_cases hc1 : cap = 1
          · subst hc1
            obtain rfl : r = [] := List.eq_nil_of_length_eq_zero (by omega)
            simp only [List.length_nil, Nat.zero_add] at *
            have hqt : OwnQ w1 0 75 (.slice (some ⟨q, oo, none⟩) 0 0) 0 os2 := by
              have := HQ.out.tail
              rw [if_pos rfl] at this
              exact this
            have hA2 := HA1.out.tailO (x := x) (r := []) (v := .pointer (some ⟨p, 0, none⟩)) (os' := os2) (vo' := .slice (some ⟨q, oo, none⟩) 0 0) HOUT.out rfl hqt (fun k hk => HA1.out.od k hk)
            have y11 := hA2.blk.cell 11
            have e11 := hA2.blk.frozen 11
            simp [sndC] at y11
            have hA3 := hA2.setG 11 (.int .i64 (((s1.first + 1) % 1024 : Nat) : Int)) (st' := stepO s1 x []) (by simp [sndC, stepO]) rfl rfl
            have hk3 := (HK1.out.setCell (p := ⟨g, 12, none⟩) (fun _ _ => HA1.out.gd) (.slice (some ⟨q, oo, none⟩) 0 0)).setCell (p := ⟨g, 11, none⟩) (fun _ _ => HA1.out.gd) (.int .i64 (((s1.first + 1) % 1024 : Nat) : Int))
            have HA3 := Lib.hid hA3
            have HK3 := Lib.hid hk3
            have HAND := Lib.hid hand
            clear hqt hA2 hA3 hk3 hand
            go_upto_region 3 with (fail)
            generalize w1.setCell ⟨g, 12, none⟩ (.slice (some ⟨q, oo, none⟩) 0 0) = w2 at *
            have hand := HAND.out
            go_wp2
            go_roundg 0
            case measure => have := HOUT.out; simp [this]
            case rel =>
              exact ⟨stepO s1 x [], _, os2, rfl, HA3.out, HK3.out, (adv_stepO HOUT.out HAC.out).trans HAD.out, by have := HTK.out; have := HSZ.out; simp only [stepO]; omega, htl, HQQ.out, Nat.mod_lt _ (by decide), HDN.out, by simp [stepO], trivial⟩
          · have hc2 : ¬ cap = 1 := hc1
            have hqt : OwnQ w1 0 75 (.slice (some ⟨q, oo + 1, none⟩) r.length (cap - 1)) r.length os2 := by
              have := HQ.out.tail
              rw [if_neg hc2] at this
              exact this
            have hA2 := HA1.out.tailO (x := x) (r := r) (v := .pointer (some ⟨p, 0, none⟩)) (os' := os2) (vo' := .slice (some ⟨q, oo + 1, none⟩) r.length (cap - 1)) HOUT.out rfl hqt (fun k hk => HA1.out.od k hk)
            have y11 := hA2.blk.cell 11
            have e11 := hA2.blk.frozen 11
            simp [sndC] at y11
            have hA3 := hA2.setG 11 (.int .i64 (((s1.first + 1) % 1024 : Nat) : Int)) (st' := stepO s1 x r) (by simp [sndC, stepO]) rfl rfl
            have hk3 := (HK1.out.setCell (p := ⟨g, 12, none⟩) (fun _ _ => HA1.out.gd) (.slice (some ⟨q, oo + 1, none⟩) r.length (cap - 1))).setCell (p := ⟨g, 11, none⟩) (fun _ _ => HA1.out.gd) (.int .i64 (((s1.first + 1) % 1024 : Nat) : Int))
            have HA3 := Lib.hid hA3
            have HK3 := Lib.hid hk3
            have HAND := Lib.hid hand
            clear hqt hA2 hA3 hk3 hand
            go_upto_region 3 with (fail)
            generalize w1.setCell ⟨g, 12, none⟩ (.slice (some ⟨q, oo + 1, none⟩) r.length (cap - 1)) = w2 at *
            have hand := HAND.out
            go_wp2
            go_roundg r.length
            case measure => have := HOUT.out; simp [this]
            case rel =>
              exact ⟨stepO s1 x r, _, os2, rfl, HA3.out, HK3.out, (adv_stepO HOUT.out HAC.out).trans HAD.out, by have := HTK.out; have := HSZ.out; simp only [stepO]; omega, htl, HQQ.out, Nat.mod_lt _ (by decide), HDN.out, by have := HOUT.out; rw [this] at hol; simp at hol; simp only [stepO]; omega, trivial⟩
  case rest =>
  obtain ⟨gk0, st1, vo1, os1, -, hA1, hk1, had1, htk1, htl1, hqq1, hfi1, hdn1, hol1, hao1⟩ := hcut
  have H1 : AdvQ w D F g c st vo1 os1 st1.queue.length wc := ⟨st1, vq, vs, rfl, hA1, hk1, had1, by omega, htl1, hfi1, hao1, by rw [hqq1, hdn1]; omega, fun s hs => HSD.out s (by rw [← hqq1]; exact hs)⟩
  have H1H := Lib.hid H1
  clear hA1 hk1 had1 htk1 htl1 hqq1 hfi1 hdn1 hol1 hao1 H1 HH HI HSD hw hd hql ht hf
  go_wp2_with fail
  go_loopg [] st1.queue.length (fun gk wr => AdvQ w D F g c st vo1 os1 gk wr)
  case atStart => exact H1H.out
  case round =>
    obtain ⟨s1, vq1, vs1, rfl, hA, hk, had, hft, htl, hfi, hao, hdn, hsd⟩ := hrel
    have y7 := hA.blk.cell 7
    have y9 := hA.blk.cell 9
    simp [sndC] at y7 y9
    clear H1H
    cases hout : s1.queue with
    | nil =>
      have hR : advS st = s1 := by rw [← had]; exact adv_stop hao (fun x r e => by rw [hout] at e; cases e) hfi
      have HR := Lib.hid hR
      have HA := Lib.hid hA
      have HK := Lib.hid hk
      obtain ⟨A, cc, rfl, hs⟩ := hA.sls
      have hc1 := hs.sl.cap
      have hc2 := hs.sl.mx
      rw [hout] at hc1 y7
      simp only [List.length_nil] at hc1 y7
      clear hA hk had hR hs hout hao
      go_wp2
      go_quiet (fail)
      go_wp2
      go_end0
      rw [HR.out]
      exact ⟨rfl, _, _, _, _, HA.out.drewN _, HK.out.drewN' _⟩
    | cons x r =>
      have hq := hA.qr
      rw [hout] at hq
      simp only [List.length_cons] at hq
      obtain ⟨v, vs2, hos⟩ : ∃ v vs2, vs1 = v :: vs2 := by
        cases hos : vs1 with
        | nil => rw [hos] at hq; have := hq.1; simp at this
        | cons v t => exact ⟨v, t, rfl⟩
      subst hos
      obtain ⟨Ax, cx, hex, hsx, _⟩ := hA.qe 0 x (by rw [hout]; rfl)
      simp only [List.getElem?_cons_zero, Option.some.injEq] at hex
      subst hex
      have hxc := hsx.cap
      have hxm := hsx.mx
      have hx9 := hsd x (by rw [hout]; simp)
      obtain ⟨q, oo, cap, rfl, hcap1, hcap2⟩ : ∃ q oo cap, vq1 = .slice (some ⟨q, oo, none⟩) (r.length + 1) cap ∧ r.length + 1 ≤ cap ∧ cap ≤ 9223372036854775807 := by
        rcases hq.2 with ⟨_, h0⟩ | ⟨q, oo, cap, cur, e, _, _, h1, h2, _⟩
        · omega
        · exact ⟨q, oo, cap, e, h1, by unfold maxLen at h2; omega⟩
      have yq := hq.cells 0 _ rfl
      simp only [Nat.add_zero] at yq
      by_cases hge : x.length ≤ s1.front
      · have d1 : decide (x.length ≤ s1.front) = true := decide_eq_true hge
        have HAO := Lib.hid hao
        have HAD := Lib.hid had
        have HSD1 := Lib.hid hsd
        have HOUT := Lib.hid hout
        have HDN := Lib.hid hdn
        have hdn2 : s1.done + (r.length + 1) ≤ 9000000000000 := by rw [hout] at hdn; simpa using hdn
        have HA := Lib.hid hA
        have HK := Lib.hid hk
        clear hA hk had hao hsd hout hdn hq hsx
        go_wp2_with fail
        go_quiet (fail)
        go_wp2_with fail
        have hA0 := HA.out.drewN nq
        have hk0 := HK.out.drewN' nq
        clear y7 y9 yq
        generalize wr.drewN nq = w0 at *
        have y9 := hA0.blk.cell 9
        have y10 := hA0.blk.cell 10
        have e9 := hA0.blk.frozen 9
        have e10 := hA0.blk.frozen 10
        simp [sndC] at y9 y10
        have hA1 := ((hA0.setG 9 (.int .i64 ((s1.front : Int) - (x.length : Nat))) (st' := { s1 with front := s1.front - x.length }) (by simp [sndC]; omega) rfl rfl).setG 10 (.int .i64 ((s1.taken : Int) - (x.length : Nat))) (st' := { s1 with front := s1.front - x.length, taken := s1.taken - x.length }) (by simp [sndC]; omega) rfl rfl).drew
        have hk1 := ((hk0.setCell (p := ⟨g, 9, none⟩) (fun _ _ => hA0.gd) (.int .i64 ((s1.front : Int) - (x.length : Nat)))).setCell (p := ⟨g, 10, none⟩) (fun _ _ => hA0.gd) (.int .i64 ((s1.taken : Int) - (x.length : Nat)))).drew
        have HA1 := Lib.hid hA1
        have HK1 := Lib.hid hk1
        clear hA0 hk0 hA1 hk1 HA HK
        refine wp_region_E (fun w' => w'.cell? ⟨g, 9, none⟩ = some (.int .i64 (s1.front : Nat)) ∧ w'.cell? ⟨g, 10, none⟩ = some (.int .i64 (s1.taken : Nat))) [16, 19] (by kernel_rfl) ?_
        have hHeld : w0.drew.cell? ⟨g, 9, none⟩ = some (.int .i64 (s1.front : Nat)) ∧ w0.drew.cell? ⟨g, 10, none⟩ = some (.int .i64 (s1.taken : Nat)) := ⟨y9, y10⟩
        refine wpAnyE_takeY (i := 0) (v := ?_) rfl (by kernel_rfl) (by kernel_rfl) (by kernel_rfl) (by kernel_rfl) (fun _ _ _ h => h) (Or.inl ⟨by rfl, ?_⟩) hHeld ?_
        rotate_left
        · intro w' hSw
          go_simp
          try with_reducible rfl
        try simp only [Act.put, List.getElem_toArray, List.getElem_cons_zero, List.setIfInBounds_toArray, List.set_cons_zero, List.set_cons_succ]
        refine wpAnyE_takeY (i := 1) (v := ?_) rfl (by kernel_rfl) (by kernel_rfl) (by kernel_rfl) (by kernel_rfl) (fun _ _ _ h => h) (Or.inl ⟨by rfl, ?_⟩) hHeld ?_
        rotate_left
        · intro w' hSw
          go_simp
          try with_reducible rfl
        try simp only [Act.put, List.getElem_toArray, List.getElem_cons_zero, List.getElem_cons_succ, List.setIfInBounds_toArray, List.set_cons_zero, List.set_cons_succ]
        refine wpAnyE_takeY (i := 2) (v := ?_) rfl (by kernel_rfl) (by kernel_rfl) (by kernel_rfl) (by kernel_rfl) (fun _ _ _ h => h) (Or.inl ⟨by rfl, ?_⟩) hHeld ?_
        rotate_left
        · intro w' hSw
          go_simp
          try with_reducible rfl
        try simp only [Act.put, List.getElem_toArray, List.getElem_cons_zero, List.getElem_cons_succ, List.setIfInBounds_toArray, List.set_cons_zero, List.set_cons_succ]
        refine wpAnyE_takeY (i := 3) (v := ?_) rfl (by kernel_rfl) (by kernel_rfl) (by kernel_rfl) (by kernel_rfl) (fun _ _ _ h => h) (Or.inl ⟨by rfl, ?_⟩) hHeld ?_
        rotate_left
        · intro w' hSw
          go_simp
          try with_reducible rfl
        try simp only [Act.put, List.getElem_toArray, List.getElem_cons_zero, List.getElem_cons_succ, List.setIfInBounds_toArray, List.set_cons_zero, List.set_cons_succ]
        refine wpAnyE_takeY (i := 4) (v := ?_) rfl (by kernel_rfl) (by kernel_rfl) (by kernel_rfl) (by kernel_rfl) (fun _ _ _ h => h) (Or.inl ⟨by rfl, ?_⟩) hHeld ?_
        rotate_left
        · intro w' hSw
          go_simp
          try with_reducible rfl
        try simp only [Act.put, List.getElem_toArray, List.getElem_cons_zero, List.getElem_cons_succ, List.setIfInBounds_toArray, List.set_cons_zero, List.set_cons_succ]
        refine wpAnyE_take [16, 19] (i := 5) (v := ?_) rfl (by kernel_rfl) (by kernel_rfl) (by kernel_rfl) (by kernel_rfl) (fun _ _ _ h => h) (Or.inl ⟨by rfl, ?_⟩) hHeld ?_
        rotate_left
        · intro w' hSw
          obtain ⟨hS1, hS2⟩ := hSw
          go_simp
          try with_reducible rfl
        try simp only [Act.put, List.getElem_toArray, List.getElem_cons_zero, List.getElem_cons_succ, List.setIfInBounds_toArray, List.set_cons_zero, List.set_cons_succ]
        refine wpAnyE_takeY (i := 6) (v := ?_) rfl (by kernel_rfl) (by kernel_rfl) (by kernel_rfl) (by kernel_rfl) (fun _ _ _ h => h) (Or.inl ⟨by rfl, ?_⟩) hHeld ?_
        rotate_left
        · intro w' hSw
          go_simp
          try with_reducible rfl
        try simp only [Act.put, List.getElem_toArray, List.getElem_cons_zero, List.getElem_cons_succ, List.setIfInBounds_toArray, List.set_cons_zero, List.set_cons_succ]
        refine wpAnyE_takeY (i := 7) (v := ?_) rfl (by kernel_rfl) (by kernel_rfl) (by kernel_rfl) (by kernel_rfl) (fun _ _ _ h => h) (Or.inl ⟨by rfl, ?_⟩) hHeld ?_
        rotate_left
        · intro w' hSw
          go_simp
          try with_reducible rfl
        try simp only [Act.put, List.getElem_toArray, List.getElem_cons_zero, List.getElem_cons_succ, List.setIfInBounds_toArray, List.set_cons_zero, List.set_cons_succ]
        refine wpAnyE_takeY (i := 8) (v := ?_) rfl (by kernel_rfl) (by kernel_rfl) (by kernel_rfl) (by kernel_rfl) (fun _ _ _ h => h) (Or.inl ⟨by rfl, ?_⟩) hHeld ?_
        rotate_left
        · intro w' hSw
          go_simp
          try with_reducible rfl
        try simp only [Act.put, List.getElem_toArray, List.getElem_cons_zero, List.getElem_cons_succ, List.setIfInBounds_toArray, List.set_cons_zero, List.set_cons_succ]
        refine wpAnyE_takeY (i := 9) (v := ?_) rfl (by kernel_rfl) (by kernel_rfl) (by kernel_rfl) (by kernel_rfl) (fun _ _ _ h => h) (Or.inl ⟨by rfl, ?_⟩) hHeld ?_
        rotate_left
        · intro w' hSw
          go_simp
          try with_reducible rfl
        try simp only [Act.put, List.getElem_toArray, List.getElem_cons_zero, List.getElem_cons_succ, List.setIfInBounds_toArray, List.set_cons_zero, List.set_cons_succ]
        refine wpAnyE_takeY (i := 10) (v := ?_) rfl (by kernel_rfl) (by kernel_rfl) (by kernel_rfl) (by kernel_rfl) (fun _ _ _ h => h) (Or.inl ⟨by rfl, ?_⟩) hHeld ?_
        rotate_left
        · intro w' hSw
          go_simp
          try with_reducible rfl
        try simp only [Act.put, List.getElem_toArray, List.getElem_cons_zero, List.getElem_cons_succ, List.setIfInBounds_toArray, List.set_cons_zero, List.set_cons_succ]
        refine wpAnyE_take [16, 19] (i := 11) (v := ?_) rfl (by kernel_rfl) (by kernel_rfl) (by kernel_rfl) (by kernel_rfl) (fun _ _ _ h => h) (Or.inl ⟨by rfl, ?_⟩) hHeld ?_
        rotate_left
        · intro w' hSw
          obtain ⟨hS1, hS2⟩ := hSw
          go_simp
          try with_reducible rfl
        try simp only [Act.put, List.getElem_toArray, List.getElem_cons_zero, List.getElem_cons_succ, List.setIfInBounds_toArray, List.set_cons_zero, List.set_cons_succ]
        refine wpAnyE_takeY (i := 12) (v := ?_) rfl (by kernel_rfl) (by kernel_rfl) (by kernel_rfl) (by kernel_rfl) (fun _ _ _ h => h) (Or.inl ⟨by rfl, ?_⟩) hHeld ?_
        rotate_left
        · intro w' hSw
          go_simp
          try with_reducible rfl
        try simp only [Act.put, List.getElem_toArray, List.getElem_cons_zero, List.getElem_cons_succ, List.setIfInBounds_toArray, List.set_cons_zero, List.set_cons_succ]
        refine wpAnyE_takeY (i := 13) (v := ?_) rfl (by kernel_rfl) (by kernel_rfl) (by kernel_rfl) (by kernel_rfl) (fun _ _ _ h => h) (Or.inl ⟨by rfl, ?_⟩) hHeld ?_
        rotate_left
        · intro w' hSw
          go_simp
          try with_reducible rfl
        try simp only [Act.put, List.getElem_toArray, List.getElem_cons_zero, List.getElem_cons_succ, List.setIfInBounds_toArray, List.set_cons_zero, List.set_cons_succ]
        refine wpAnyE_takeY (i := 14) (v := ?_) rfl (by kernel_rfl) (by kernel_rfl) (by kernel_rfl) (by kernel_rfl) (fun _ _ _ h => h) (Or.inl ⟨by rfl, ?_⟩) hHeld ?_
        rotate_left
        · intro w' hSw
          go_simp
          try with_reducible rfl
        try simp only [Act.put, List.getElem_toArray, List.getElem_cons_zero, List.getElem_cons_succ, List.setIfInBounds_toArray, List.set_cons_zero, List.set_cons_succ]
        refine wpAnyE_takeY (i := 15) (v := ?_) rfl (by kernel_rfl) (by kernel_rfl) (by kernel_rfl) (by kernel_rfl) (fun _ _ _ h => h) (Or.inl ⟨by rfl, ?_⟩) hHeld ?_
        rotate_left
        · intro w' hSw
          go_simp
          try with_reducible rfl
        try simp only [Act.put, List.getElem_toArray, List.getElem_cons_zero, List.getElem_cons_succ, List.setIfInBounds_toArray, List.set_cons_zero, List.set_cons_succ]
        refine wpAnyE_one (i := 16) rfl (by kernel_rfl) (by kernel_rfl) (by rfl) (fun K hK => ?_)
        go_simp
        refine hK _ _ ?_
        clear hK K
        try simp only [Act.put, List.getElem_toArray, List.getElem_cons_zero, List.getElem_cons_succ, List.setIfInBounds_toArray, List.set_cons_zero, List.set_cons_succ]
        refine wpAnyE_takeZ (i := 17) (v := ?_) rfl (by kernel_rfl) (by kernel_rfl) (by kernel_rfl) (by kernel_rfl) (fun _ _ _ h => h) (Or.inl ⟨by rfl, ?_⟩) ?_
        rotate_left
        · intro w' hSw
          go_simp
          try with_reducible rfl
        try simp only [Act.put, List.getElem_toArray, List.getElem_cons_zero, List.getElem_cons_succ, List.setIfInBounds_toArray, List.set_cons_zero, List.set_cons_succ]
        refine wpAnyE_takeZ (i := 18) (v := ?_) rfl (by kernel_rfl) (by kernel_rfl) (by kernel_rfl) (by kernel_rfl) (fun _ _ _ h => h) (Or.inl ⟨by rfl, ?_⟩) ?_
        rotate_left
        · intro w' hSw
          go_simp
          try with_reducible rfl
        try simp only [Act.put, List.getElem_toArray, List.getElem_cons_zero, List.getElem_cons_succ, List.setIfInBounds_toArray, List.set_cons_zero, List.set_cons_succ]
        refine wpAnyE_one (i := 19) rfl (by kernel_rfl) (by kernel_rfl) (by rfl) (fun K hK => ?_)
        go_simp
        refine hK _ _ ?_
        clear hK K
        try simp only [Act.put, List.getElem_toArray, List.getElem_cons_zero, List.getElem_cons_succ, List.setIfInBounds_toArray, List.set_cons_zero, List.set_cons_succ]
        refine wpAnyE_done (by kernel_rfl) ?_ _
        rw [IntWalk.i64_in ((s1.front : Int) - (x.length : Nat)) (by omega), IntWalk.i64_in ((s1.taken : Int) - (x.length : Nat)) (by omega)]
        generalize ((w0.setCell ⟨g, 9, none⟩ (.int .i64 ((s1.front : Int) - (x.length : Nat)))).setCell ⟨g, 10, none⟩ (.int .i64 ((s1.taken : Int) - (x.length : Nat)))).drew = w1 at *
        clear y9 y10 e9 e10 hHeld
        have y7 := HA1.out.blk.cell 7
        have e7 := HA1.out.blk.frozen 7
        simp [sndC] at y7
        have hq1 := HA1.out.qr
        have hlo : ({ s1 with front := s1.front - x.length, taken := s1.taken - x.length } : Sd).queue.length = r.length + 1 := by show s1.queue.length = _; rw [HOUT.out]; rfl
        rw [hlo] at hq1
        have HQ := Lib.hid hq1
        clear hq1 hlo
        by_cases hc1 : cap = 1
        · subst hc1
          obtain rfl : r = [] := List.eq_nil_of_length_eq_zero (by omega)
          simp only [List.length_nil, Nat.zero_add] at *
          have hqt : OwnQ w1 0 31 (.slice (some ⟨q, oo, none⟩) 0 0) 0 vs2 := by
            have := HQ.out.tail
            rw [if_pos rfl] at this
            exact this
          have hA2 := HA1.out.tailQ (x := x) (r := []) (v := .slice Ax x.length cx) (vs' := vs2) (vq' := .slice (some ⟨q, oo, none⟩) 0 0) HOUT.out rfl hqt (fun k hk => HA1.out.qd k hk)
          have y8 := hA2.blk.cell 8
          have e8 := hA2.blk.frozen 8
          simp [sndC] at y8
          have hA3 := hA2.setG 8 (.int .i64 ((s1.done : Int) + 1)) (st' := stepQ s1 x []) (by simp [sndC, stepQ]) rfl rfl
          have hk3 := (HK1.out.setCell (p := ⟨g, 7, none⟩) (fun _ _ => HA1.out.gd) (.slice (some ⟨q, oo, none⟩) 0 0)).setCell (p := ⟨g, 8, none⟩) (fun _ _ => HA1.out.gd) (.int .i64 ((s1.done : Int) + 1))
          have HA3 := Lib.hid hA3
          have HK3 := Lib.hid hk3
          clear hqt hA2 hA3 hk3
          go_upto_region 8 with (fail)
          generalize w1.setCell ⟨g, 7, none⟩ (.slice (some ⟨q, oo, none⟩) 0 0) = w2 at *
          go_wp2
          go_roundg 0
          case measure => have := HOUT.out; simp [this]
          case rel =>
            exact ⟨stepQ s1 x [], _, vs2, rfl, HA3.out, HK3.out, (adv_stepQ HOUT.out hge HAO.out hfi).trans HAD.out, by simp only [stepQ]; omega, by simp only [stepQ]; omega, hfi, HAO.out, by show s1.done + 1 + 0 ≤ _; omega, fun s hs => by simp [stepQ] at hs⟩
        · have hc2 : ¬ cap = 1 := hc1
          have hqt : OwnQ w1 0 31 (.slice (some ⟨q, oo + 1, none⟩) r.length (cap - 1)) r.length vs2 := by
            have := HQ.out.tail
            rw [if_neg hc2] at this
            exact this
          have hA2 := HA1.out.tailQ (x := x) (r := r) (v := .slice Ax x.length cx) (vs' := vs2) (vq' := .slice (some ⟨q, oo + 1, none⟩) r.length (cap - 1)) HOUT.out rfl hqt (fun k hk => HA1.out.qd k hk)
          have y8 := hA2.blk.cell 8
          have e8 := hA2.blk.frozen 8
          simp [sndC] at y8
          have hA3 := hA2.setG 8 (.int .i64 ((s1.done : Int) + 1)) (st' := stepQ s1 x r) (by simp [sndC, stepQ]) rfl rfl
          have hk3 := (HK1.out.setCell (p := ⟨g, 7, none⟩) (fun _ _ => HA1.out.gd) (.slice (some ⟨q, oo + 1, none⟩) r.length (cap - 1))).setCell (p := ⟨g, 8, none⟩) (fun _ _ => HA1.out.gd) (.int .i64 ((s1.done : Int) + 1))
          have HA3 := Lib.hid hA3
          have HK3 := Lib.hid hk3
          clear hqt hA2 hA3 hk3
          go_upto_region 8 with (fail)
          generalize w1.setCell ⟨g, 7, none⟩ (.slice (some ⟨q, oo + 1, none⟩) r.length (cap - 1)) = w2 at *
          go_wp2
          go_roundg r.length
          case measure => have := HOUT.out; simp [this]
          case rel =>
            exact ⟨stepQ s1 x r, _, vs2, rfl, HA3.out, HK3.out, (adv_stepQ HOUT.out hge HAO.out hfi).trans HAD.out, by simp only [stepQ]; omega, by simp only [stepQ]; omega, hfi, HAO.out, by show s1.done + 1 + r.length ≤ _; omega, fun s hs => HSD1.out s (by rw [HOUT.out]; exact List.mem_cons_of_mem _ hs)⟩
      · have d1 : decide (x.length ≤ s1.front) = false := decide_eq_false hge
        have hR : advS st = s1 := by rw [← had]; exact adv_stop hao (fun y t e => by rw [hout] at e; cases e; omega) hfi
        have HR := Lib.hid hR
        have HA := Lib.hid hA
        have HK := Lib.hid hk
        clear hA hk had hR hout hao hq hsx
        go_wp2_with fail
        go_quiet (fail)
        go_wp2
        go_end0
        rw [HR.out]
        exact ⟨rfl, _, _, _, _, HA.out.drewN _, HK.out.drewN' _⟩
end
end Go.Proofs.YtmiipkaobloedaaGreat
