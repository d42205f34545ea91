/- umrecv: none, place, base, waits, take. -/
import Derived.Test.YtchlbpfeiamieaaSg
import Derived.WalkSpells
import Derived.BigRegion
namespace Go.Proofs.Ytchlbpfeiamieaa
open Go.RowKit Go.Shelf
attribute [local go_sem] Oper.semAt_some

set_option maxRecDepth 100000 in
theorem rnone_any (lo hi g M n : Nat) (vb : Value) (st : Rs) (w : World) (h : Rcv w lo hi g M n vb st) : Calls Try.prog 103 #[.pointer (some ⟨g, 0, none⟩)] w fun e w' => e = .returned (.bool false) ∧ w = w' := by
  obtain ⟨x0, x1, x2, x3, x4, x5, x6, x7, x8, x9, x10⟩ := h.cells
  have q : ∀ (w : World) (r : Option Nat), (binOp .eql 55 (.map r) (.map none)).run Try.prog w = .ok (.bool r.isNone) w := fun w r => run_eql_map_nil w _ _ _ r undMap
  clear h
  go_enter Try.func103, Try.ntmps103
  go_wp2
  go_ret
  exact ⟨rfl, rfl⟩
theorem rnone_nil (w : World) : Calls Try.prog 103 #[.pointer none] w fun e w' => e = .returned (.bool true) ∧ w = w' := by
  go_enter Try.func103, Try.ntmps103
  go_wp2
  go_ret
  exact ⟨rfl, rfl⟩
set_option maxRecDepth 100000 in
theorem rnone_zero (g : Nat) (w : World) (h : w.cell? ⟨g, 4, none⟩ = some (.map none)) : Calls Try.prog 103 #[.pointer (some ⟨g, 0, none⟩)] w fun e w' => e = .returned (.bool true) ∧ w = w' := by
  have q : ∀ (w : World) (r : Option Nat), (binOp .eql 55 (.map r) (.map none)).run Try.prog w = .ok (.bool r.isNone) w := fun w r => run_eql_map_nil w _ _ _ r undMap
  go_enter Try.func103, Try.ntmps103
  go_wp2
  go_ret
  exact ⟨rfl, rfl⟩
theorem rplace_any (g high sn : Nat) (w : World) (h : w.cell? ⟨g, 6, none⟩ = some (.int .i64 high)) (hh : high ≤ 1023) (hs : sn ≤ 1023) :
    Calls Try.prog 106 #[.pointer (some ⟨g, 0, none⟩), .int .i64 sn] w fun e w' => e = .returned (.int .i64 (placeP high sn)) ∧ w = w' := by
  have hand : bits BinOp.and IntKind.i64 ((sn : Int) - high + 512) 1023 = ((placeP high sn : Nat) : Int) := by rw [and1023]; unfold placeP; omega
  go_enter Try.func106, Try.ntmps106
  go_wp2
  go_ret
  exact ⟨rfl, rfl⟩
theorem rbase_any (g high : Nat) (w : World) (h : w.cell? ⟨g, 6, none⟩ = some (.int .i64 high)) (hh : high ≤ 1023) :
    Calls Try.prog 107 #[.pointer (some ⟨g, 0, none⟩)] w fun e w' => e = .returned (.int .i64 (baseP high)) ∧ w = w' := by
  have hand : bits BinOp.and IntKind.i64 ((high : Int) - 512) 1023 = ((baseP high : Nat) : Int) := by rw [and1023]; unfold baseP; omega
  go_enter Try.func107, Try.ntmps107
  go_wp2
  go_ret
  exact ⟨rfl, rfl⟩
set_option maxRecDepth 100000 in
set_option maxHeartbeats 1000000 in
theorem rwaits_any (lo hi g M n : Nat) (vb : Value) (st : Rs) (w : World) (h : Rcv w lo hi g M n vb st) (ho : StOk st) :
    Calls Try.prog 110 #[.pointer (some ⟨g, 0, none⟩)] w fun e w' => e = .returned (.tuple #[]) ∧ Rcv w' lo hi g M n vb (waitsP st) ∧ Kept (MR g M) w w' := by
  obtain ⟨x0, x1, x2, x3, x4, x5, x6, x7, x8, x9, x10⟩ := h.cells
  have f7 := h.blk.frozen 7
  have f8 := h.blk.frozen 8
  have f9 := h.blk.frozen 9
  have hn1 := ho.now1
  have hn2 := ho.now2
  have hd1 := ho.dur1
  have hd2 := ho.dur2
  have HH := Lib.hid h
  clear h ho
  unfold waitsP
  cases hro : st.ro with
  | true =>
    rw [hro] at x7
    rw [if_neg (by simp)]
    have HRO := Lib.hid hro
    clear hro
    go_enter Try.func110, Try.ntmps110
    go_wp2_with fail
    go_quiet (fail)
    go_wp2_with fail
    go_end0
    exact ⟨rfl, HH.out.drewN nq, (Kept.refl _ w).drewN nq⟩
  | false =>
    rw [hro] at x7
    have HRO := Lib.hid hro
    clear hro
    by_cases he : st.high = st.next
    · rw [if_neg (by simp [he])]
      have d1 : ((st.high : Int) != (st.next : Int)) = false := by simp [he]
      have HE := Lib.hid he
      clear he
      go_enter Try.func110, Try.ntmps110
      go_wp2_with fail
      go_quiet (fail)
      go_wp2_with fail
      go_end0
      exact ⟨rfl, HH.out.drewN nq, (Kept.refl _ w).drewN nq⟩
    · rw [if_pos ⟨rfl, he⟩]
      have d1 : ((st.high : Int) != (st.next : Int)) = true := by simp; omega
      have HE := Lib.hid he
      clear he
      go_enter Try.func110, Try.ntmps110
      go_wp2_with fail
      go_quiet (fail)
      have hR := HH.out.drewN nq
      have hK : Kept (MR g M) w (w.drewN nq) := (Kept.refl _ w).drewN nq
      generalize w.drewN nq = W at *
      have HR := Lib.hid hR
      have HK := Lib.hid hK
      clear x0 x1 x2 x3 x4 x5 x6 x7 x8 x9 x10 f7 f8 f9
      obtain ⟨x0, x1, x2, x3, x4, x5, x6, x7, x8, x9, x10⟩ := hR.cells
      have f7 := hR.blk.frozen 7
      have f8 := hR.blk.frozen 8
      have f9 := hR.blk.frozen 9
      clear hR hK
      go_wp2_with fail
      go_region
      all_goals
        go_wp2_with fail
        go_end0
        have h7 := HR.out.put 7 (.bool true) (vb' := vb) (st' := { st with ro := true }) rfl rfl HR.out.row
        have h8 := h7.put 8 (.int .i64 st.high) (vb' := vb) (st' := { st with ro := true, trig := st.high }) rfl rfl h7.row
        have h9 := h8.put 9 (.int .i64 (st.now + st.dur)) (vb' := vb) (st' := { st with ro := true, trig := st.high, exp := st.now + st.dur }) rfl rfl h8.row
        exact ⟨rfl, h9.drew, (((HK.out.setCell (p := ⟨g, 7, none⟩) (fun _ _ => .inl rfl) _).setCell (p := ⟨g, 8, none⟩) (fun _ _ => .inl rfl) _).setCell (p := ⟨g, 9, none⟩) (fun _ _ => .inl rfl) _).drew⟩
/-- what take gives -/
def TakeOut (w : World) (lo hi g M n : Nat) (R : Rs × List (List UInt8)) (b : Bool) (e : Ending) (w' : World) : Prop :=
  ∃ vb' vo', e = .returned (.tuple #[vo', .bool b]) ∧ Rcv w' lo hi g M n vb' R.1 ∧ OutIs w' w.heap.size lo vo' R.2 ∧ Kept (MR g M) w w'
theorem zero26 (w : World) : (zeroValue 26).run Try.prog w = .ok (.agg #[.int .i64 0, .bool false, .bool false, .slice none 0 0]) w := by kernel_rfl
theorem Kept.out {w w1 w2 : World} {g M : Nat} (h : Kept (MR g M) w w1) (hb : Below w1.heap.size w1 w2) : Kept (MR g M) w w2 :=
  h.trans ((Kept.of_below hb).mono_at fun k o ho hm => by have := lt_of_heap ho; omega)
/-- the map is written -/
theorem Rcv.mapTurn {w w2 : World} {lo hi g M n n2 : Nat} {vb : Value} {st : Rs} {F2 : Nat → Option Value} {m' : Nat → Option Pd} (h : Rcv w lo hi g M n vb st) (hg : w.grownBy w2 (some M)) (hF2 : MapIs Try.prog 3 w2 M n2 F2)
    (hm : ∀ k, (m' k = none → F2 k = none) ∧ ∀ p, m' k = some p → ∃ vo, F2 k = some (pdv p vo) ∧ PartsOut w lo vo p.ps ∧ ∀ j, vo.ownBlock = some j → j < hi) : Rcv w2 lo hi g M n2 vb { st with m := m' } := by
  have hk : ∀ j o, lo ≤ j → w.heap[j]? = some o → w2.heap[j]? = some o := fun j o hj ho => (hg.block j (lt_of_heap ho) (by have := h.hM; simp; omega)).trans ho
  exact ⟨h.blk.grown hg (by have := h.ne; simpa using this), own_from h.row hk, ⟨F2, hF2, fun k => ⟨(hm k).1, fun p hp => let ⟨vo, e, ho, hj⟩ := (hm k).2 p hp; ⟨vo, e, ho.kept hk, hj⟩⟩⟩, h.hg, h.hM, h.ne, Nat.le_trans h.hlo hg.size, Nat.le_trans h.hhi hg.size⟩
set_option maxRecDepth 100000 in
set_option maxHeartbeats 1000000 in
theorem rtake_any (lo hi g M n sn : Nat) (vb : Value) (st : Rs) (w : World) (h : Rcv w lo hi g M n vb st) (ho : StOk st) (hs : sn ≤ 1023) :
    Calls Try.prog 156 #[.pointer (some ⟨g, 0, none⟩), .int .i64 sn] w (TakeOut w lo hi g M n (takeP st sn) (st.m sn).isSome) := by
  obtain ⟨F, hF, hFm⟩ := h.mp
  have HH := Lib.hid h
  have HO := Lib.hid ho
  obtain ⟨x0, x1, x2, x3, x4, x5, x6, x7, x8, x9, x10⟩ := h.cells
  unfold takeP
  cases hm : st.m sn with
  | none =>
    have hFn := (hFm sn).1 hm
    clear h ho hFm hm
    go_enter Try.func156, Try.ntmps156
    go_wp2_with (at_lookup; refine wpList_look_map _ rfl _ _ 55 rfl 3 26 undKey undMap (zero26 _) M n F rfl hF sn rfl (by omega) ?_; rw [hFn])
    go_ret2
    exact ⟨vb, .slice none 0 0, rfl, HH.out.alloc _, OutIs.nil _ _ _, (Kept.refl _ w).alloc _⟩
  | some p =>
    obtain ⟨vo, hFs, hpo, _⟩ := (hFm sn).2 p hm
    obtain ⟨Ap, cp, vsp, rfl, hslp⟩ := hpo.sls
    unfold pdv at hFs
    have hpd := (ho.pd sn p hm).1
    have HFM := Lib.hid hFm
    clear h ho hm hslp hFm
    go_enter Try.func156, Try.ntmps156
    have hgl := HH.out.blk.lt
    have HW1 := Lib.hid (HH.out.alloc (.cells #[.int .i64 p.sn, .bool p.s, .bool p.en, .slice Ap p.ps.length cp] 26))
    have hF1 := hF.same (w' := w.alloc (.cells #[.int .i64 p.sn, .bool p.s, .bool p.en, .slice Ap p.ps.length cp] 26)) (Below.heap_alloc w _ M hF.lt)
    go_wp2_with (first
      | (at_lookup; refine wpList_look_map _ rfl _ _ 55 rfl 3 26 undKey undMap (zero26 _) M n F rfl hF sn rfl (by omega) ?_; rw [hFs])
      | (at_delete; refine wpList_delete_map _ rfl _ _ 55 3 rfl 26 undKey undMap M n F rfl hF1 sn rfl (by omega) ?_; intro w2 hF2 hg2))
    have hR2 : Rcv w2 lo hi g M n vb { st with m := mPut st.m sn none } := by
      refine HW1.out.mapTurn hg2 hF2 fun k => ?_
      have hkk := HFM.out k
      unfold mPut fPut
      by_cases e : k = sn
      · simp [e]
      · rw [if_neg e, if_neg e]
        exact ⟨hkk.1, fun q hq => let ⟨vo, e1, e2, e3⟩ := hkk.2 q hq; ⟨vo, e1, e2.kept (fun j o _ hj => (Below.heap_alloc w _ j (lt_of_heap hj)).trans hj), e3⟩⟩
    have hbx : Blk w2 w.heap.size 26 #[.int .i64 p.sn, .bool p.s, .bool p.en, .slice Ap p.ps.length cp] := (Blk.new w 26 _).grown hg2 (by have := HH.out.hM; have := HH.out.hlo; simp; omega)
    have hsz2 : w.heap.size ≤ w2.heap.size := Nat.le_trans (by simp) hg2.size
    have hpo2 : PartsOut w2 lo (.slice Ap p.ps.length cp) p.ps := hpo.kept fun j o hj ho => (hg2.block j (Nat.lt_of_lt_of_le (lt_of_heap ho) (by simp)) (by have := HH.out.hM; simp; omega)).trans ((Below.heap_alloc w _ j (lt_of_heap ho)).trans ho)
    have hK2 : Kept (MR g M) w w2 := ((Kept.refl _ w).alloc _).grown hg2 (fun k e o _ => .inr (by simpa using e.symm))
    have hdl : Calls Try.prog 173 #[.pointer (some ⟨g, 0, none⟩), .agg #[.int .i64 p.sn, .bool p.s, .bool p.en, .slice Ap p.ps.length cp]] w2.drew (DlvOut w2.drew lo hi g M n (dlv { st with m := mPut st.m sn none } p)) :=
      rdeliver_any lo hi g M n vb _ p _ w2.drew hR2.drew (HO.out.mPut sn) hpd hpo2
    have HDL := Lib.hid hdl
    have HSZ := Lib.hid hsz2
    have HK2 := Lib.hid hK2
    obtain ⟨z0, z1, z2, z3⟩ : w2.cell? ⟨w.heap.size, 0, none⟩ = some (.int .i64 p.sn) ∧ w2.cell? ⟨w.heap.size, 1, none⟩ = some (.bool p.s) ∧ w2.cell? ⟨w.heap.size, 2, none⟩ = some (.bool p.en) ∧ w2.cell? ⟨w.heap.size, 3, none⟩ = some (.slice Ap p.ps.length cp) := ⟨hbx.cell 0, hbx.cell 1, hbx.cell 2, hbx.cell 3⟩
    clear hR2 hbx hsz2 hpo2 hK2 hdl hF2 hg2 hF1 hF hFs hpo hpd x0 x1 x2 x3 x4 x5 x6 x7 x8 x9 x10 hgl
    go_wp2_with fail
    go_region_law ((go_simp; (with_reducible refine HDL.out.mono ?_); rintro e3 w3 ⟨vb', vo', rfl, hR3, hO3, hK3⟩))
    all_goals
      go_wp2_with fail
      go_ret2
      exact ⟨vb', vo', rfl, hR3, hO3.base_ HSZ.out, HK2.out.drew.trans hK3⟩
end Go.Proofs.Ytchlbpfeiamieaa
