/- umrecv: none, place, base, waits, take. umrecv: rows that grow beside a receiver; span, advance. umrecv: span. umrecv: span, advance. -/
import Derived.Test.YtbjajboodohabaaGreatS7
import Derived.WalkSpells
import Derived.BigRegion
import Derived.Test.YtbjajboodohabaaGreatSe
namespace Go.Proofs.YtbjajboodohabaaGreat
open Go.RowKit Go.Shelf
attribute [local go_sem] Oper.semAt_some

set_option maxRecDepth 100000 in
theorem rnone_any (lo : Nat) (hi : Nat → Prop) (g M n : Nat) (vb : Value) (st : Rs) (w : World) (h : Rcv w lo hi g M n vb st) : Calls Tryz.prog 30 #[.pointer (some ⟨g, 0, none⟩)] w fun e w' => e = .returned (.bool false) ∧ w = w' := by
  obtain ⟨x0, x1, x2, x3, x4, x5, x6, x7, x8, x9, x10⟩ := h.cells
  have q : ∀ (w : World) (r : Option Nat), (binOp .eql 69 (.map r) (.map none)).run Tryz.prog w = .ok (.bool r.isNone) w := fun w r => run_eql_map_nil w _ _ _ r undMap
  clear h
  go_enter Tryz.func30, Tryz.ntmps30
  go_wp2
  go_ret
  exact ⟨rfl, rfl⟩
theorem rnone_nil (w : World) : Calls Tryz.prog 30 #[.pointer none] w fun e w' => e = .returned (.bool true) ∧ w = w' := by
  go_enter Tryz.func30, Tryz.ntmps30
  go_wp2
  go_ret
  exact ⟨rfl, rfl⟩
set_option maxRecDepth 100000 in
theorem rnone_zero (g : Nat) (w : World) (h : w.cell? ⟨g, 4, none⟩ = some (.map none)) : Calls Tryz.prog 30 #[.pointer (some ⟨g, 0, none⟩)] w fun e w' => e = .returned (.bool true) ∧ w = w' := by
  have q : ∀ (w : World) (r : Option Nat), (binOp .eql 69 (.map r) (.map none)).run Tryz.prog w = .ok (.bool r.isNone) w := fun w r => run_eql_map_nil w _ _ _ r undMap
  go_enter Tryz.func30, Tryz.ntmps30
  go_wp2
  go_ret
  exact ⟨rfl, rfl⟩
theorem rplace_any (g high sn : Nat) (w : World) (h : w.cell? ⟨g, 6, none⟩ = some (.int .i64 high)) (hh : high ≤ 1023) (hs : sn ≤ 1023) :
    Calls Tryz.prog 34 #[.pointer (some ⟨g, 0, none⟩), .int .i64 sn] w fun e w' => e = .returned (.int .i64 (placeP high sn)) ∧ w = w' := by
  have hand : bits BinOp.and IntKind.i64 ((sn : Int) - high + 512) 1023 = ((placeP high sn : Nat) : Int) := by rw [and1023]; unfold placeP; omega
  go_enter Tryz.func34, Tryz.ntmps34
  go_wp2
  go_ret
  exact ⟨rfl, rfl⟩
theorem rbase_any (g high : Nat) (w : World) (h : w.cell? ⟨g, 6, none⟩ = some (.int .i64 high)) (hh : high ≤ 1023) :
    Calls Tryz.prog 35 #[.pointer (some ⟨g, 0, none⟩)] w fun e w' => e = .returned (.int .i64 (baseP high)) ∧ w = w' := by
  have hand : bits BinOp.and IntKind.i64 ((high : Int) - 512) 1023 = ((baseP high : Nat) : Int) := by rw [and1023]; unfold baseP; omega
  go_enter Tryz.func35, Tryz.ntmps35
  go_wp2
  go_ret
  exact ⟨rfl, rfl⟩
set_option maxRecDepth 100000 in
set_option maxHeartbeats 1000000 in
theorem rwaits_any (lo : Nat) (hi : Nat → Prop) (g M n : Nat) (vb : Value) (st : Rs) (w : World) (h : Rcv w lo hi g M n vb st) (ho : StOk st) :
    Calls Tryz.prog 38 #[.pointer (some ⟨g, 0, none⟩)] w fun e w' => e = .returned (.tuple #[]) ∧ Rcv w' lo hi g M n vb (waitsP st) ∧ Kept (MR g M) w w' := by
  obtain ⟨x0, x1, x2, x3, x4, x5, x6, x7, x8, x9, x10⟩ := h.cells
  have f7 := h.blk.frozen 7
  have f8 := h.blk.frozen 8
  have f9 := h.blk.frozen 9
  have hn1 := ho.now1
  have hn2 := ho.now2
  have hd1 := ho.dur1
  have hd2 := ho.dur2
  have HH := Lib.hid h
  clear h ho
  unfold waitsP
  cases hro : st.ro with
  | true =>
    rw [hro] at x7
    rw [if_neg (by simp)]
    have HRO := Lib.hid hro
    clear hro
    go_enter Tryz.func38, Tryz.ntmps38
    go_wp2_with fail
    go_quiet (fail)
    go_wp2_with fail
    go_end0
    exact ⟨rfl, HH.out.drewN nq, (Kept.refl _ w).drewN nq⟩
  | false =>
    rw [hro] at x7
    have HRO := Lib.hid hro
    clear hro
    by_cases he : st.high = st.next
    · rw [if_neg (by simp [he])]
      have d1 : ((st.high : Int) != (st.next : Int)) = false := by simp [he]
      have HE := Lib.hid he
      clear he
      go_enter Tryz.func38, Tryz.ntmps38
      go_wp2_with fail
      go_quiet (fail)
      go_wp2_with fail
      go_end0
      exact ⟨rfl, HH.out.drewN nq, (Kept.refl _ w).drewN nq⟩
    · rw [if_pos ⟨rfl, he⟩]
      have d1 : ((st.high : Int) != (st.next : Int)) = true := by simp; omega
      have HE := Lib.hid he
      clear he
      go_enter Tryz.func38, Tryz.ntmps38
      go_wp2_with fail
      go_quiet (fail)
      have hR := HH.out.drewN nq
      have hK : Kept (MR g M) w (w.drewN nq) := (Kept.refl _ w).drewN nq
      generalize w.drewN nq = W at *
      have HR := Lib.hid hR
      have HK := Lib.hid hK
      clear x0 x1 x2 x3 x4 x5 x6 x7 x8 x9 x10 f7 f8 f9
      obtain ⟨x0, x1, x2, x3, x4, x5, x6, x7, x8, x9, x10⟩ := hR.cells
      have f7 := hR.blk.frozen 7
      have f8 := hR.blk.frozen 8
      have f9 := hR.blk.frozen 9
      clear hR hK
      go_wp2_with fail
      go_region
      all_goals
        go_wp2_with fail
        go_end0
        have h7 := HR.out.put 7 (.bool true) (vb' := vb) (st' := { st with ro := true }) rfl rfl HR.out.row
        have h8 := h7.put 8 (.int .i64 st.high) (vb' := vb) (st' := { st with ro := true, trig := st.high }) rfl rfl h7.row
        have h9 := h8.put 9 (.int .i64 (IntKind.i64.wrap (st.now + st.dur))) (vb' := vb) (st' := { st with ro := true, trig := st.high, exp := IntKind.i64.wrap (st.now + st.dur) }) rfl rfl h8.row
        rw [show wrap64 (st.now + st.dur) = IntKind.i64.wrap (st.now + st.dur) by rw [IntKind.wrap_i64]; unfold wrap64; rfl]
        exact ⟨rfl, h9.drew, (((HK.out.setCell (p := ⟨g, 7, none⟩) (fun _ _ => .inl rfl) _).setCell (p := ⟨g, 8, none⟩) (fun _ _ => .inl rfl) _).setCell (p := ⟨g, 9, none⟩) (fun _ _ => .inl rfl) _).drew⟩
/-- what take gives -/
def TakeOut (w : World) (lo : Nat) (hi : Nat → Prop) (g M n : Nat) (R : Rs × List (List UInt8)) (b : Bool) (e : Ending) (w' : World) : Prop :=
  ∃ vb' vo', e = .returned (.tuple #[vo', .bool b]) ∧ Rcv w' lo hi g M n vb' R.1 ∧ OutIs w' w.heap.size lo vo' R.2 ∧ Kept (MR g M) w w'
theorem zero26 (w : World) : (zeroValue 80).run Tryz.prog w = .ok (.agg #[.int .i64 0, .bool false, .bool false, .slice none 0 0]) w := by kernel_rfl
theorem Kept.out {w w1 w2 : World} {g M : Nat} (h : Kept (MR g M) w w1) (hb : Below w1.heap.size w1 w2) : Kept (MR g M) w w2 :=
  h.trans ((Kept.of_below hb).mono_at fun k o ho hm => by have := lt_of_heap ho; omega)
/-- the map is written -/
theorem Rcv.mapTurn {w w2 : World} {lo : Nat} {hi : Nat → Prop} {g M n n2 : Nat} {vb : Value} {st : Rs} {F2 : Nat → Option Value} {m' : Nat → Option Pd} (h : Rcv w lo hi g M n vb st) (hg : w.grownBy w2 (some M)) (hF2 : MapIs Tryz.prog 3 w2 M n2 F2)
    (hm : ∀ k, (m' k = none → F2 k = none) ∧ ∀ p, m' k = some p → ∃ vo, F2 k = some (pdv p vo) ∧ PartsOut w lo vo p.ps ∧ ∀ j, vo.ownBlock = some j → hi j) : Rcv w2 lo hi g M n2 vb { st with m := m' } := by
  have hk : ∀ j o, lo ≤ j → w.heap[j]? = some o → w2.heap[j]? = some o := fun j o hj ho => (hg.block j (lt_of_heap ho) (by have := h.hM; simp; omega)).trans ho
  exact ⟨h.blk.grown hg (by have := h.ne; simpa using this), own_from h.row hk, ⟨F2, hF2, fun k => ⟨(hm k).1, fun p hp => let ⟨vo, e, ho, hj⟩ := (hm k).2 p hp; ⟨vo, e, ho.kept hk, hj⟩⟩⟩, h.hg, h.hM, h.ne, Nat.le_trans h.hlo hg.size, fun j hj => Nat.lt_of_lt_of_le (h.hhi j hj) hg.size⟩
set_option maxRecDepth 100000 in
set_option maxHeartbeats 1000000 in
theorem rtake_any (lo : Nat) (hi : Nat → Prop) (g M n sn : Nat) (vb : Value) (st : Rs) (w : World) (h : Rcv w lo hi g M n vb st) (ho : StOk st) (hs : sn ≤ 1023) :
    Calls Tryz.prog 68 #[.pointer (some ⟨g, 0, none⟩), .int .i64 sn] w (TakeOut w lo hi g M n (takeP st sn) (st.m sn).isSome) := by
  obtain ⟨F, hF, hFm⟩ := h.mp
  have HH := Lib.hid h
  have HO := Lib.hid ho
  obtain ⟨x0, x1, x2, x3, x4, x5, x6, x7, x8, x9, x10⟩ := h.cells
  unfold takeP
  cases hm : st.m sn with
  | none =>
    have hFn := (hFm sn).1 hm
    clear h ho hFm hm
    go_enter Tryz.func68, Tryz.ntmps68
    go_wp2_with (at_lookup; refine wpList_look_map _ rfl _ _ 69 rfl 3 80 undKey undMap (zero26 _) M n F rfl hF sn rfl (by omega) ?_; rw [hFn])
    go_ret2
    exact ⟨vb, .slice none 0 0, rfl, HH.out.alloc _, OutIs.nil _ _ _, (Kept.refl _ w).alloc _⟩
  | some p =>
    obtain ⟨vo, hFs, hpo, _⟩ := (hFm sn).2 p hm
    obtain ⟨Ap, cp, vsp, rfl, hslp⟩ := hpo.sls
    unfold pdv at hFs
    have hpd := (ho.pd sn p hm).1
    have HFM := Lib.hid hFm
    clear h ho hm hslp hFm
    go_enter Tryz.func68, Tryz.ntmps68
    have hgl := HH.out.blk.lt
    have HW1 := Lib.hid (HH.out.alloc (.cells #[.int .i64 p.sn, .bool p.s, .bool p.en, .slice Ap p.ps.length cp] 80))
    have hF1 := hF.same (w' := w.alloc (.cells #[.int .i64 p.sn, .bool p.s, .bool p.en, .slice Ap p.ps.length cp] 80)) (Below.heap_alloc w _ M hF.lt)
    go_wp2_with (first
      | (at_lookup; refine wpList_look_map _ rfl _ _ 69 rfl 3 80 undKey undMap (zero26 _) M n F rfl hF sn rfl (by omega) ?_; rw [hFs])
      | (at_delete; refine wpList_delete_map _ rfl _ _ 69 3 rfl 80 undKey undMap M n F rfl hF1 sn rfl (by omega) ?_; intro w2 hF2 hg2))
    have hR2 : Rcv w2 lo hi g M n vb { st with m := mPut st.m sn none } := by
      refine HW1.out.mapTurn hg2 hF2 fun k => ?_
      have hkk := HFM.out k
      unfold mPut fPut
      by_cases e : k = sn
      · simp [e]
      · rw [if_neg e, if_neg e]
        exact ⟨hkk.1, fun q hq => let ⟨vo, e1, e2, e3⟩ := hkk.2 q hq; ⟨vo, e1, e2.kept (fun j o _ hj => (Below.heap_alloc w _ j (lt_of_heap hj)).trans hj), e3⟩⟩
    have hbx : Blk w2 w.heap.size 80 #[.int .i64 p.sn, .bool p.s, .bool p.en, .slice Ap p.ps.length cp] := (Blk.new w 80 _).grown hg2 (by have := HH.out.hM; have := HH.out.hlo; simp; omega)
    have hsz2 : w.heap.size ≤ w2.heap.size := Nat.le_trans (by simp) hg2.size
    have hpo2 : PartsOut w2 lo (.slice Ap p.ps.length cp) p.ps := hpo.kept fun j o hj ho => (hg2.block j (Nat.lt_of_lt_of_le (lt_of_heap ho) (by simp)) (by have := HH.out.hM; simp; omega)).trans ((Below.heap_alloc w _ j (lt_of_heap ho)).trans ho)
    have hK2 : Kept (MR g M) w w2 := ((Kept.refl _ w).alloc _).grown hg2 (fun k e o _ => .inr (by simpa using e.symm))
    have hdl : Calls Tryz.prog 98 #[.pointer (some ⟨g, 0, none⟩), .agg #[.int .i64 p.sn, .bool p.s, .bool p.en, .slice Ap p.ps.length cp]] w2.drew (DlvOut w2.drew lo hi g M n (dlv { st with m := mPut st.m sn none } p)) :=
      rdeliver_any lo hi g M n vb _ p _ w2.drew hR2.drew (HO.out.mPut sn) hpd hpo2
    have HDL := Lib.hid hdl
    have HSZ := Lib.hid hsz2
    have HK2 := Lib.hid hK2
    obtain ⟨z0, z1, z2, z3⟩ : w2.cell? ⟨w.heap.size, 0, none⟩ = some (.int .i64 p.sn) ∧ w2.cell? ⟨w.heap.size, 1, none⟩ = some (.bool p.s) ∧ w2.cell? ⟨w.heap.size, 2, none⟩ = some (.bool p.en) ∧ w2.cell? ⟨w.heap.size, 3, none⟩ = some (.slice Ap p.ps.length cp) := ⟨hbx.cell 0, hbx.cell 1, hbx.cell 2, hbx.cell 3⟩
    clear hR2 hbx hsz2 hpo2 hK2 hdl hF2 hg2 hF1 hF hFs hpo hpd x0 x1 x2 x3 x4 x5 x6 x7 x8 x9 x10 hgl
    go_wp2_with fail
    go_region_law ((go_simp; (with_reducible refine HDL.out.mono ?_); rintro e3 w3 ⟨vb', vo', rfl, hR3, hO3, hK3⟩))
    all_goals
      go_wp2_with fail
      go_ret2
      exact ⟨vb', vo', rfl, hR3, hO3.base_ HSZ.out, HK2.out.drew.trans hK3⟩
end Go.Proofs.YtbjajboodohabaaGreat
namespace Go.Proofs.YtbjajboodohabaaGreat
open Go.RowKit Go.Shelf
attribute [local go_sem] Oper.semAt_some

section
variable {w w2 : World} {base lo : Nat} {hi : Nat → Prop} {g M n : Nat} {vb v : Value} {st : Rs} {k : Nat} {xs : List Value}
/-- parts stay while a row of slices behind them is appended to -/
theorem PartsOut.rowGrown {vo : Value} {ps : List (List UInt8)} (h : PartsOut w lo vo ps) (hv : w.ownsRow base 40 1 v k xs) (hb : ∀ j, base ≤ j → v.ownBlock = some j → vo.ownBlock ≠ some j) (hg : w.grownBy w2 v.ownBlock) : PartsOut w2 lo vo ps := by
  obtain ⟨vs, g, cap, data, h1, h2, h3⟩ := h
  refine ⟨vs, g, cap, data, h1.kept hg ?_, own_grown_ne _ h2 hv (by decide) hg, h3⟩
  rcases hvb : vo.ownBlock with _ | j
  · exact .inl rfl
  · refine .inr (fun e => ?_)
    obtain ⟨_, _, _, hb2⟩ := own_isRow hv e.symm
    exact hb j hb2 e.symm hvb
theorem Rcv.rowGrown (h : Rcv w lo hi g M n vb st) (hv : w.ownsRow base 40 1 v k xs) (hb : ∀ j, base ≤ j → v.ownBlock = some j → ¬ hi j) (hg : w.grownBy w2 v.ownBlock) : Rcv w2 lo hi g M n vb st := by
  obtain ⟨F, hF, hFm⟩ := h.mp
  refine ⟨h.blk.grown hg (fun e => own_blk_ne hv h.blk (by decide) e.symm), own_grown_ne _ h.row hv (by decide) hg, ⟨F, hF.grown hg ?_, fun j => ⟨(hFm j).1, fun p hp => ?_⟩⟩, h.hg, h.hM, h.ne, Nat.le_trans h.hlo hg.size, fun j hj => Nat.lt_of_lt_of_le (h.hhi j hj) hg.size⟩
  · intro e
    obtain ⟨o, ho, ⟨cs, fr, rfl⟩, _⟩ := own_isRow hv e.symm
    obtain ⟨es, clock, hm⟩ := hF.notCells
    rw [hm] at ho
    cases ho
  · obtain ⟨vo, e, ho, hj⟩ := (hFm j).2 p hp
    exact ⟨vo, e, ho.rowGrown hv (fun i hbi hvi hvo => hb i hbi hvi (hj i hvo)) hg, hj⟩
/-- SDUs are added to those that are returned -/
theorem OutIs.app {lo' b2 : Nat} {v2 v5 : Value} {outs outs2 : List (List UInt8)} {vs vs2 : List Value} (hvs : w.ownsRow base 40 1 v outs.length vs) (h1 : ∀ (i : Nat) (q : List UInt8), outs[i]? = some q → ∃ vi, vs[i]? = some vi ∧ w.ownsRow lo' 5 1 vi q.length (bvs q))
    (_hvs2 : w.ownsRow b2 40 1 v2 outs2.length vs2) (h2 : ∀ (i : Nat) (q : List UInt8), outs2[i]? = some q → ∃ vi, vs2[i]? = some vi ∧ w.ownsRow lo' 5 1 vi q.length (bvs q))
    (hown : w2.ownsRow base 40 1 v5 (outs.length + outs2.length) (vs ++ vs2)) (hg : w.grownBy w2 v.ownBlock) : OutIs w2 base lo' v5 (outs ++ outs2) := by
  refine ⟨vs ++ vs2, by simpa using hown, fun i q hi => ?_⟩
  have hl := hvs.1
  rcases Nat.lt_or_ge i outs.length with hlt | hge
  · rw [List.getElem?_append_left hlt] at hi
    obtain ⟨vi, e, ho⟩ := h1 i q hi
    exact ⟨vi, by rw [List.getElem?_append_left (by omega)]; exact e, own_grown_ne _ ho hvs (by decide) hg⟩
  · rw [List.getElem?_append_right hge] at hi
    obtain ⟨vi, e, ho⟩ := h2 _ q hi
    exact ⟨vi, by rw [List.getElem?_append_right (by omega), show i - vs.length = i - outs.length by omega]; exact e, own_grown_ne _ ho hvs (by decide) hg⟩
theorem OutIs.one {vo : Value} {outs : List (List UInt8)} (h : OutIs w base lo vo outs) : ∃ A c vs, vo = .slice A outs.length c ∧ outs.length ≤ c ∧ c ≤ 9223372036854775807 ∧ w.ownsRow base 40 1 (.slice A outs.length c) outs.length vs ∧ Sl w w.heap.size A outs.length c vs ∧ (∀ u ∈ vs, u.oneCell' = true) ∧
    ∀ (i : Nat) (q : List UInt8), outs[i]? = some q → ∃ vi, vs[i]? = some vi ∧ w.ownsRow lo 5 1 vi q.length (bvs q) := by
  obtain ⟨vs, h1, h2⟩ := h
  obtain ⟨A, c, rfl, hs, _⟩ := own_sl h1
  refine ⟨A, c, vs, rfl, hs.cap, hs.mx, h1, hs, fun u hu => ?_, h2⟩
  obtain ⟨i, hi⟩ := List.mem_iff_getElem?.1 hu
  have hl := h1.1
  have hlt := (List.getElem?_eq_some_iff.1 hi).1
  obtain ⟨vi, e, ho⟩ := h2 i _ (List.getElem?_eq_getElem (by omega : i < outs.length))
  rw [hi] at e
  cases e
  obtain ⟨A2, c2, rfl, _⟩ := own_sl ho
  rfl
end
/-- the closure's two captured variables -/
def SpanBox (w : World) (b1 b2 g sn : Nat) : Prop := w.heap[b1]? = some (.cells #[.pointer (some ⟨g, 0, none⟩)] 37 (0, 0)) ∧ w.heap[b2]? = some (.cells #[.int .i64 sn] 3 (0, 0))
theorem SpanBox.kept {w w' : World} {b1 b2 g sn lo M : Nat} (h : SpanBox w b1 b2 g sn) (hk : Kept (MR g M) w w') (hg : g < lo) (hM : M < lo) (h1 : lo ≤ b1) (h2 : lo ≤ b2) : SpanBox w' b1 b2 g sn :=
  ⟨hk.same _ _ h.1 (by rintro (e | e) <;> omega), hk.same _ _ h.2 (by rintro (e | e) <;> omega)⟩
set_option maxRecDepth 100000 in
theorem rspan1_any (lo : Nat) (hi : Nat → Prop) (g M n sn i b1 b2 : Nat) (vb : Value) (st : Rs) (w : World) (h : Rcv w lo hi g M n vb st) (ho : StOk st) (hs : sn ≤ 100000) (hi' : i ≤ 100000) (hb : SpanBox w b1 b2 g sn) :
    Calls Tryz.prog 67 #[.int .i64 i, .pointer (some ⟨b1, 0, none⟩), .pointer (some ⟨b2, 0, none⟩)] w (DlvOut w lo hi g M n (takeP st ((sn + i) % 1024))) := by
  have x0 : w.cell? ⟨b1, 0, none⟩ = some (.pointer (some ⟨g, 0, none⟩)) := by rw [cell_of_row w b1 0 _ 37 (0, 0) hb.1]; rfl
  have x1 : w.cell? ⟨b2, 0, none⟩ = some (.int .i64 sn) := by rw [cell_of_row w b2 0 _ 3 (0, 0) hb.2]; rfl
  have hand : bits BinOp.and IntKind.i64 ((sn : Int) + i) 1023 = (((sn + i) % 1024 : Nat) : Int) := by rw [and1023]; omega
  have htk := rtake_any lo hi g M n ((sn + i) % 1024) vb st w h ho (by omega)
  have HT := Lib.hid htk
  clear htk h ho
  generalize (sn + i) % 1024 = k at *
  go_enter Tryz.func67, Tryz.ntmps67
  go_wp2_with (go_at_call 68; refine HT.out.mono ?_; rintro e1 w1 ⟨vb', vo', rfl, hR, hO, hK⟩)
  go_ret
  exact ⟨vb', vo', rfl, hR, hO, hK⟩
end Go.Proofs.YtbjajboodohabaaGreat
namespace Go.Proofs.YtbjajboodohabaaGreat
open Go.RowKit Go.Shelf
attribute [local go_sem] Oper.semAt_some

/-- the relation of joined's loop -/
def JoinRel (w : World) (lo : Nat) (hi : Nat → Prop) (g M n sn cnt : Nat) (FIN : Rs × List (List UInt8)) (gk : Nat) (s4 s7 : Value) (wr : World) : Prop :=
  ∃ (i r : Nat) (st : Rs) (outs : List (List UInt8)) (vb v4 : Value), v4 = s4 ∧ s7 = .int .i64 i ∧ gk = r ∧ i + r = cnt ∧ Rcv wr lo hi g M n vb st ∧ StOk st ∧ OutIs wr w.heap.size lo v4 outs ∧ Kept (MR g M) w wr ∧
    FIN = ((spanP (sn + i) r st).1, outs ++ (spanP (sn + i) r st).2) ∧ outs.length ≤ 64 * i
theorem Kept.row {w w1 w2 : World} {g M k : Nat} {v : Value} {xs : List Value} (h : Kept (MR g M) w w1) (hv : w1.ownsRow w.heap.size 40 1 v k xs) (hg : w1.grownBy w2 v.ownBlock) : Kept (MR g M) w w2 :=
  h.grown hg fun j e o ho => by
    obtain ⟨_, _, _, hb⟩ := own_isRow hv e
    have := lt_of_heap ho
    omega
set_option maxRecDepth 100000 in
set_option maxHeartbeats 1000000 in
theorem rjoined_any (lo : Nat) (hi : Nat → Prop) (g M n sn cnt b1 b2 : Nat) (vb : Value) (st : Rs) (w : World) (h : Rcv w lo hi g M n vb st) (ho : StOk st) (hs : sn ≤ 1023) (hc : cnt ≤ 1024) (hb : SpanBox w b1 b2 g sn) (h1 : lo ≤ b1) (h2 : lo ≤ b2) :
    Calls Tryz.prog 66 #[.int .i64 cnt, .func (.func 67) #[] #[.pointer (some ⟨b1, 0, none⟩), .pointer (some ⟨b2, 0, none⟩)]] w (DlvOut w lo hi g M n (spanP sn cnt st)) := by
  obtain ⟨j0, hj0, hm0, hm1, hm2⟩ := info_parts sl_info
  obtain ⟨FIN, hF⟩ : ∃ FIN, FIN = spanP sn cnt st := ⟨_, rfl⟩
  rw [← hF]
  have HH := Lib.hid h
  have HO := Lib.hid ho
  have HF := Lib.hid hF
  have HB := Lib.hid hb
  have HC := Lib.hid hc
  have HS := Lib.hid hs
  have H1 := Lib.hid h1
  have H2 := Lib.hid h2
  clear h ho hF hb h1 h2
  go_enter Tryz.func66, Tryz.ntmps66
  go_wp2
  go_loopg [4, 7] cnt (fun gk s4 s7 wr => JoinRel w lo hi g M n sn cnt FIN gk s4 s7 wr)
  case atStart => exact ⟨0, cnt, st, [], vb, _, rfl, rfl, rfl, by omega, HH.out, HO.out, OutIs.nil _ _ _, Kept.refl _ _, by rw [HF.out]; rfl, by simp⟩
  case round =>
    obtain ⟨i, r, st1, outs, vb1, v4, rfl, rfl, hgk, hir, hR, hok, hO, hK, hfin, hol⟩ := hrel
    clear HF HO
    have HGK := Lib.hid hgk
    have HR := Lib.hid hR
    have HOK := Lib.hid hok
    have HK := Lib.hid hK
    clear hgk hR hok hK
    cases r with
    | zero =>
      have hlt : decide (i < cnt) = false := by simp; omega
      have hR2 : FIN = (st1, outs) := by rw [hfin]; simp [spanP]
      have HFF := Lib.hid hR2
      have HOO := Lib.hid hO
      clear hfin hR2 hO
      go_wp2
      go_ret
      rw [HFF.out]
      exact ⟨_, _, rfl, HR.out, HOO.out, HK.out⟩
    | succ r =>
      have hlt : decide (i < cnt) = true := by simp; omega
      have hcl := rspan1_any lo hi g M n sn i b1 b2 vb1 st1 wr HR.out HOK.out (by omega) (by omega) (HB.out.kept HK.out HH.out.hg HH.out.hM H1.out H2.out)
      have htk := HOK.out.take ((sn + i) % 1024)
      have HCL := Lib.hid hcl
      have HTK := Lib.hid htk
      have HFIN := Lib.hid hfin
      have HIR := Lib.hid hir
      have htl := htk.2
      have hib : i ≤ 1024 := by have := HC.out; omega
      have HOL := Lib.hid hol
      have HTL : Hid ((takeP st1 ((sn + i) % 1024)).2.length ≤ 64) := Lib.hid htl
      clear hcl htk hfin hir
      obtain ⟨R, hRR⟩ : ∃ R, R = takeP st1 ((sn + i) % 1024) := ⟨_, rfl⟩
      rw [← hRR] at HCL HTL
      clear htl
      have HRR := Lib.hid hRR
      clear hRR
      obtain ⟨A4, c4, vs4, rfl, hc4, hm4, _⟩ := hO.one
      go_wp2_with (first
        | (go_at_call 67; refine HCL.out.mono ?_; rintro e1 w1 ⟨vb', vo', rfl, hR1, hO1, hK1⟩; obtain ⟨A2, c2, vs2, rfl, hc2, hm2', hrow2, hsl2, hone2, heach2⟩ := hO1.one; obtain ⟨A5, c5, vs5, e5, _, _, hrow5, _, _, heach5⟩ := (hO.keptR HH.out.hlo hK1 HH.out.hg HH.out.hM).one; cases e5)
        | (at_builtin; refine wpList_append_sl _ rfl (.tmp 10) (.tmp 13) 47 rfl w.heap.size 40 j0 (.slice none 0 0) 24 und22 hj0 hm0 hm1 hm2 rfl _ outs.length vs5 rfl hrow5 _ A2 R.2.length c2 vs2 rfl hsl2 hone2 ?c2 ?c3 ?c4 ?_))
      case c2 => have := HOL.out; have := HTL.out; unfold maxLen; omega
      case c3 => have := HOL.out; have := HTL.out; omega
      case c4 => exact HK.out.trans hK1 |>.size
      intro v6 w6 hown6 hgrow6 _
      have hR6 := hR1.rowGrown hrow5 (fun j hj _ hh => by have := HH.out.hhi j hh; omega) hgrow6
      have hO6 := OutIs.app hrow5 heach5 hrow2 heach2 hown6 hgrow6
      have hK6 := (HK.out.trans hK1).row hrow5 hgrow6
      have H6 := Lib.hid hR6
      have HO6 := Lib.hid hO6
      have HK6 := Lib.hid hK6
      clear hR6 hO6 hK6 hrow5 heach5 hrow2 heach2 hown6 hgrow6 hsl2 hone2 hR1 hO1 hK1 hO
      go_wp2
      go_roundg r
      case measure => rw [HGK.out]; omega
      case rel =>
        have e := HTK.out.1
        rw [← HRR.out] at e
        refine ⟨i + 1, r, R.1, outs ++ R.2, vb', _, rfl, by go_num, rfl, by have := HIR.out; omega, H6.out, e, HO6.out, HK6.out, ?_, by have := HOL.out; have := HTL.out; rw [List.length_append]; omega⟩
        rw [HFIN.out, spanP, ← HRR.out]
        simp [Nat.add_assoc]
end Go.Proofs.YtbjajboodohabaaGreat
namespace Go.Proofs.YtbjajboodohabaaGreat
open Go.RowKit Go.Shelf
attribute [local go_sem] Oper.semAt_some

set_option maxRecDepth 100000 in
theorem rspan_any (lo : Nat) (hi : Nat → Prop) (g M n sn cnt : Nat) (vb : Value) (st : Rs) (w : World) (h : Rcv w lo hi g M n vb st) (ho : StOk st) (hs : sn ≤ 1023) (hc : cnt ≤ 1024) :
    Calls Tryz.prog 36 #[.pointer (some ⟨g, 0, none⟩), .int .i64 sn, .int .i64 cnt] w (DlvOut w lo hi g M n (spanP sn cnt st)) := by
  have hlo := h.hlo
  have h2 := (h.alloc (.cells #[.pointer (some ⟨g, 0, none⟩)] 37)).alloc (.cells #[.int .i64 sn] 3)
  have hb : SpanBox ((w.alloc (.cells #[.pointer (some ⟨g, 0, none⟩)] 37)).alloc (.cells #[.int .i64 sn] 3)) w.heap.size (w.heap.size + 1) g sn := by
    refine ⟨?_, ?_⟩
    · rw [Below.heap_alloc _ _ _ (by simp)]
      exact heap_alloc_new w _
    · have := heap_alloc_new (w.alloc (.cells #[.pointer (some ⟨g, 0, none⟩)] 37)) (.cells #[.int .i64 sn] 3)
      simpa using this
  have hj := rjoined_any lo hi g M n sn cnt w.heap.size (w.heap.size + 1) vb st _ h2 ho hs hc hb hlo (by omega)
  have hk : Kept (MR g M) w ((w.alloc (.cells #[.pointer (some ⟨g, 0, none⟩)] 37)).alloc (.cells #[.int .i64 sn] 3)) := ((Kept.refl _ w).alloc _).alloc _
  have HJ := Lib.hid hj
  have HK := Lib.hid hk
  clear h h2 ho hb hj hk
  go_enter Tryz.func36, Tryz.ntmps36
  go_wp2_with (go_at_call 66; refine HJ.out.mono ?_; rintro e1 w1 ⟨vb', vo', rfl, hR, hO, hK⟩)
  go_ret
  exact ⟨vb', vo', rfl, hR, hO.base_ (by simp; omega), HK.out.trans hK⟩
/-- the relation of advance's loop -/
def AdvRel (w : World) (lo : Nat) (hi : Nat → Prop) (g M n : Nat) (FIN : Rs × List (List UInt8)) (gk : Nat) (s2 : Value) (wr : World) : Prop :=
  ∃ (f j : Nat) (st : Rs) (outs : List (List UInt8)) (vb v2 : Value), v2 = s2 ∧ gk = f ∧ Rcv wr lo hi g M n vb st ∧ StOk st ∧ OutIs wr w.heap.size lo v2 outs ∧ Kept (MR g M) w wr ∧
    FIN = ((advP f st).1, outs ++ (advP f st).2) ∧ outs.length + 64 * f ≤ 65536 ∧ j ≤ f ∧ st.m ((st.next + j) % 1024) = none
theorem advP_stop {f : Nat} {st : Rs} (h : st.m st.next = none) : advP f st = (st, []) := by
  cases f with
  | zero => rfl
  | succ f => rw [advP, if_neg (by simp [h])]
set_option maxRecDepth 100000 in
set_option maxHeartbeats 1000000 in
theorem radv_any (lo : Nat) (hi : Nat → Prop) (g M n : Nat) (vb : Value) (st : Rs) (w : World) (h : Rcv w lo hi g M n vb st) (ho : StOk st) (he : Ends st) :
    Calls Tryz.prog 37 #[.pointer (some ⟨g, 0, none⟩)] w (DlvOut w lo hi g M n (advP 1024 st)) := by
  obtain ⟨j0, hj0, hm0, hm1, hm2⟩ := info_parts sl_info
  obtain ⟨FIN, hF⟩ : ∃ FIN, FIN = advP 1024 st := ⟨_, rfl⟩
  rw [← hF]
  have HH := Lib.hid h
  have HO := Lib.hid ho
  have HF := Lib.hid hF
  have HE := Lib.hid he
  clear h ho hF he
  go_enter Tryz.func37, Tryz.ntmps37
  go_wp2
  go_loopg [2] 1024 (fun gk s2 wr => AdvRel w lo hi g M n FIN gk s2 wr)
  case atStart =>
    obtain ⟨j, hj, hn⟩ := HE.out
    exact ⟨1024, j, st, [], vb, _, rfl, rfl, HH.out, HO.out, OutIs.nil _ _ _, Kept.refl _ _, by rw [HF.out]; rfl, by simp, hj, hn⟩
  case round =>
    obtain ⟨f, j, st1, outs, vb1, v2, rfl, hgk, hR, hok, hO, hK, hfin, hol, hjf, hjn⟩ := hrel
    clear HF HO HE
    have HGK := Lib.hid hgk
    have HK := Lib.hid hK
    have HOK := Lib.hid hok
    have HR := Lib.hid hR
    have HJN := Lib.hid hjn
    have hnx := hok.next
    have htk := rtake_any lo hi g M n st1.next vb1 st1 wr hR hok hnx
    have htl := hok.take st1.next
    obtain ⟨x0, x1, x2, x3, x4, x5, x6, x7, x8, x9, x10⟩ := hR.cells
    have HTK := Lib.hid htk
    have HTL := Lib.hid htl
    have HFIN := Lib.hid hfin
    have HJF := Lib.hid hjf
    have HOL := Lib.hid hol
    clear hgk hK hok hR hjn htk htl hfin x0 x1 x2 x3 x4 x6 x7 x8 x9 x10 hjf hol
    cases hm : st1.m st1.next with
    | none =>
      have htk := HTK.out
      rw [hm] at htk
      have hst : takeP st1 st1.next = (st1, []) := by unfold takeP; rw [hm]
      rw [hst] at htk
      have hR2 : FIN = (st1, outs) := by rw [HFIN.out, advP_stop hm]; simp
      have HT2 := Lib.hid htk
      have HFF := Lib.hid hR2
      have HOO := Lib.hid hO
      clear htk hst hR2 hm hO
      go_wp2_with (go_at_call 68; refine HT2.out.mono ?_; rintro e1 w1 ⟨vb', vo', rfl, hR1, hO1, hK1⟩)
      go_ret
      rw [HFF.out]
      exact ⟨_, _, rfl, hR1, HOO.out.keptR HH.out.hlo hK1 HH.out.hg HH.out.hM, HK.out.trans hK1⟩
    | some p =>
      have htk := HTK.out
      rw [hm] at htk
      simp only [Option.isSome_some] at htk
      have HT2 := Lib.hid htk
      have hfj : 1 ≤ f := by
        have h1 := HJF.out
        have h2 := HJN.out
        rcases Nat.eq_zero_or_pos j with h0 | h0
        · rw [h0, Nat.add_zero, Nat.mod_eq_of_lt (by omega), hm] at h2
          cases h2
        · omega
      obtain ⟨f', rfl⟩ : ∃ f', f = f' + 1 := ⟨f - 1, by omega⟩
      have hfin := HFIN.out
      rw [advP, if_pos (by simp [hm])] at hfin
      have HFI := Lib.hid hfin
      have hjn := HJN.out
      have hj1 : 1 ≤ j := by
        rcases Nat.eq_zero_or_pos j with h0 | h0
        · rw [h0, Nat.add_zero, Nat.mod_eq_of_lt (by omega), hm] at hjn
          cases hjn
        · exact h0
      have hf := take_f st1 st1.next
      have hjn2 : (nextUp (takeP st1 st1.next).1).m (((nextUp (takeP st1 st1.next).1).next + (j - 1)) % 1024) = none := by
        have e1 : (nextUp (takeP st1 st1.next).1).next = (st1.next + 1) % 1024 := by simp only [nextUp, hf.1]
        rw [e1, show ((st1.next + 1) % 1024 + (j - 1)) % 1024 = (st1.next + j) % 1024 by omega]
        show (takeP st1 st1.next).1.m _ = none
        rw [take_m]
        split
        · rfl
        · exact hjn
      have hnext := hf.1
      obtain ⟨R, hRR⟩ : ∃ R, R = takeP st1 st1.next := ⟨_, rfl⟩
      rw [← hRR] at HT2 HTL HFI hjn2 hnext
      have HJ2 := Lib.hid hjn2
      have HJ1 := Lib.hid hj1
      have HNX := Lib.hid hnext
      have hand : bits BinOp.and IntKind.i64 ((st1.next : Int) + 1) 1023 = (((st1.next + 1) % 1024 : Nat) : Int) := by rw [and1023]; omega
      clear htk hfin hjn hf hjn2 hm hRR HTK HFIN HJN hfj hj1 hnext
      obtain ⟨A4, c4, vs4, rfl, hc4, hm4, _⟩ := hO.one
      generalize hnn : (st1.next + 1) % 1024 = nn at *
      have HNN := Lib.hid hnn
      clear hnn
      go_wp2_with (first
        | (go_at_call 68; refine HT2.out.mono ?_; rintro e1 w1 ⟨vb', vo', rfl, hR1, hO1, hK1⟩; obtain ⟨A2, c2, vs2, rfl, hc2, hm2', hrow2, hsl2, hone2, heach2⟩ := hO1.one; obtain ⟨A5, c5, vs5, e5, _, _, hrow5, _, _, heach5⟩ := (hO.keptR HH.out.hlo hK1 HH.out.hg HH.out.hM).one; cases e5)
        | (at_builtin; refine wpList_append_sl _ rfl (.tmp 17) (.tmp 18) 47 rfl w.heap.size 40 j0 (.slice none 0 0) 24 und22 hj0 hm0 hm1 hm2 rfl _ outs.length vs5 rfl hrow5 _ A2 R.2.length c2 vs2 rfl hsl2 hone2 ?c2 ?c3 ?c4 ?_))
      case c2 => have := HOL.out; have := HTL.out.2; unfold maxLen; omega
      case c3 => have := HOL.out; have := HTL.out.2; omega
      case c4 => exact HK.out.trans hK1 |>.size
      intro v6 w6 hown6 hgrow6 _
      have hR6 := hR1.rowGrown hrow5 (fun j hj _ hh => by have := HH.out.hhi j hh; omega) hgrow6
      have hO6 := OutIs.app hrow5 heach5 hrow2 heach2 hown6 hgrow6
      have hK6 := (HK.out.trans hK1).row hrow5 hgrow6
      obtain ⟨x0, x1, x2, x3, x4, x5', x6, x7, x8, x9, x10⟩ := hR6.cells
      rw [HNX.out] at x5'
      have f5 := hR6.blk.frozen 5
      have hR7 := hR6.put 5 (.int .i64 nn) (vb' := vb') (st' := nextUp R.1) (by unfold nextUp; rw [HNX.out, HNN.out]; rfl) rfl hR6.row
      have hO7 := hO6.set HH.out.hlo HH.out.hg 5 (.int .i64 nn)
      have hK7 := hK6.setCell (p := ⟨g, 5, none⟩) (fun _ _ => .inl rfl) (.int .i64 nn)
      have HR7 := Lib.hid hR7
      have HO7 := Lib.hid hO7
      have HK7 := Lib.hid hK7
      clear hR6 hO6 hK6 hR7 hO7 hK7 hrow5 heach5 hrow2 heach2 hown6 hgrow6 hsl2 hone2 hR1 hO1 hK1 hO x0 x1 x2 x3 x4 x6 x7 x8 x9 x10 x5
      go_wp2
      go_roundg f'
      case measure => rw [HGK.out]; omega
      case rel =>
        refine ⟨f', j - 1, nextUp R.1, outs ++ R.2, vb', _, rfl, rfl, HR7.out, HTL.out.1.nextUp, HO7.out, HK7.out, ?_, by have := HOL.out; have := HTL.out.2; rw [List.length_append]; omega, by have := HJF.out; have := HJ1.out; omega, HJ2.out⟩
        rw [HFI.out]
        simp
end Go.Proofs.YtbjajboodohabaaGreat
