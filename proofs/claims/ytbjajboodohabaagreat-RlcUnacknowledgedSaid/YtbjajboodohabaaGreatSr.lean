/- umrecv: Receive of a PDU that is one. -/
import Derived.Test.YtbjajboodohabaaGreatS8
namespace Go.Proofs.YtbjajboodohabaaGreat
open Go.RowKit Go.Shelf
attribute [local go_sem] Oper.semAt_some

/-- what Receive gives of a PDU -/
def RecvOut (w : World) (lo : Nat) (hi : Nat → Prop) (g M n : Nat) (R : Rs × List (List UInt8)) (e : Ending) (w' : World) : Prop :=
  ∃ vb' vo', e = .returned (.tuple #[vo', .int .i64 0]) ∧ Rcv w' lo (fun j => hi j ∨ (w.heap.size ≤ j ∧ j < w'.heap.size)) g M n vb' R.1 ∧ OutIs w' w.heap.size lo vo' R.2 ∧ Kept (MR g M) w w'
/-- a PDU lies behind the window -/
def Ahead (h a : Nat) : Prop := 512 ≤ placeP h a
theorem sub511 {a : Nat} (h : 512 ≤ a) : (a : Int) - 512 + 1 = ((a - 511 : Nat) : Int) := by omega
set_option maxRecDepth 100000 in
set_option maxHeartbeats 4000000 in
theorem rrecv_ok (lo : Nat) (hi : Nat → Prop) (g M n : Nat) (vb : Value) (st : Rs) (now : Int) (A : Option Addr) (nn c : Nat) (bs : List UInt8) (w : World) (p : Pd) (h : Rcv w lo hi g M n vb st) (ho : StOk st) (hw : Win st) (hn : now ≤ 9223372036854775807)
    (hs : Sl w w.heap.size A nn c (bvs bs)) (hnn : nn ≤ 1000000) (hd : decU bs = .inr (p.sn, p.s, p.en, p.ps)) (hp : PdOk p) (hroom : n < 9223372036854775807) :
    Calls Tryz.prog 14 #[.pointer (some ⟨g, 0, none⟩), .int .i64 now, .slice A nn c] w (RecvOut w lo hi g M (n + 1) (recvP st now p)) := by
  have hno := rnone_any lo hi g M n vb st w h
  have hdec := decode_any A nn c bs w hs hnn
  rw [hd] at hdec
  have hdec : Calls Tryz.prog 31 #[.slice A nn c] w fun e w1 => ∃ Ap cp, e = .returned (.tuple #[.agg #[.int .i64 p.sn, .bool p.s, .bool p.en, .slice Ap p.ps.length cp], .int .i64 0]) ∧ PartsOut w1 w.heap.size (.slice Ap p.ps.length cp) p.ps ∧ Below w.heap.size w w1 := by
    refine hdec.mono fun e w1 hh => ?_
    obtain ⟨hb1, ⟨er, he, _⟩ | ⟨sn', s', en', ps', vo, he, rfl, hvo⟩⟩ := hh
    · cases he
    · cases he
      obtain ⟨Ap, cp, vsp, rfl, _⟩ := hvo.sls
      exact ⟨Ap, cp, rfl, hvo, hb1⟩
  have HNO := Lib.hid hno
  have HDEC := Lib.hid hdec
  have HH := Lib.hid h
  have HO := Lib.hid ho
  have HW := Lib.hid hw
  have HN := Lib.hid hn
  have HP := Lib.hid hp
  clear hno hdec hd h ho hw hs hnn hp hn
  go_enter Tryz.func14, Tryz.ntmps14
  go_upto_region 6 with (first
    | (go_at_call 30; refine HNO.out.mono ?_; rintro e1 w1 ⟨rfl, rfl⟩)
    | (go_at_call 31; refine HDEC.out.mono ?_; rintro e1 w1 ⟨Ap, cp, rfl, hvo, hb1⟩))
  obtain ⟨hi1, hhi1⟩ : ∃ hi1 : Nat → Prop, hi1 = fun j => hi j ∨ (w.heap.size ≤ j ∧ j < w1.heap.size) := ⟨_, rfl⟩
  have hih1 : ∀ j, hi1 j → j < w1.heap.size := fun j hj => by
    rw [hhi1] at hj
    rcases hj with e | e
    · exact Nat.lt_of_lt_of_le (HH.out.hhi j e) hb1.size
    · exact e.2
  have hvj : ∀ j, (Value.slice Ap p.ps.length cp).ownBlock = some j → hi1 j := fun j hj => by
    rw [hhi1]
    exact .inr (hvo.lt' hj)
  have HVJ := Lib.hid hvj
  have hsub : ∀ n : Nat, w1.heap.size ≤ n → ∀ j, hi1 j → (hi j ∨ (w.heap.size ≤ j ∧ j < n)) := fun n hn j hj => by
    rw [hhi1] at hj
    rcases hj with e | e
    · exact .inl e
    · exact .inr ⟨e.1, by omega⟩
  have hsup : ∀ n : Nat, w1.heap.size ≤ n → ∀ j, (hi j ∨ (w.heap.size ≤ j ∧ j < n)) → j < n := fun n hn j hj => by
    rcases hj with e | e
    · have := HH.out.hhi j e
      have := hb1.size
      omega
    · exact e.2
  have HSUB := Lib.hid hsub
  have HSUP := Lib.hid hsup
  clear hsub hsup
  have HIH := Lib.hid hih1
  have HI1 := Lib.hid hhi1
  have hR1 := (HH.out.below hb1).hiMono (hi' := hi1) (fun j hj => by rw [hhi1]; exact .inl hj) hih1
  clear hvj hih1 hhi1
  have hvo1 := hvo.base (Nat.le_trans HH.out.hlo (Nat.le_refl _))
  have hbx := Blk.new w1 80 #[.int .i64 p.sn, .bool p.s, .bool p.en, .slice Ap p.ps.length cp]
  have hR2 := hR1.alloc (.cells #[.int .i64 p.sn, .bool p.s, .bool p.en, .slice Ap p.ps.length cp] 80)
  have hgo := rgoes_any lo hi1 g M n vb st now _ hR2 HO.out HW.out HN.out
  have hgs := HO.out.goes HN.out
  have hgw := HW.out.goes HO.out HN.out
  have HB1 := Lib.hid hb1
  have HVO := Lib.hid hvo1
  have HBX := Lib.hid hbx
  have HR2 := Lib.hid hR2
  have HGO := Lib.hid hgo
  have HGS := Lib.hid hgs
  have HGW := Lib.hid hgw
  clear hb1 hvo hvo1 hbx hR1 hR2 hgo hgs hgw
  generalize hW2 : w1.alloc (.cells #[.int .i64 p.sn, .bool p.s, .bool p.en, .slice Ap p.ps.length cp] 80) = w2 at *
  have HW2 := Lib.hid hW2
  clear hW2
  go_upto_region 8 with (go_at_call 32; refine HGO.out.mono ?_; rintro e2 w3 ⟨vb3, vo3, rfl, hR3, hO3, hK3⟩; obtain ⟨A3, c3, vs3, rfl, hcc3, hcm3, _⟩ := hO3.one)
  have hl1 : lo ≤ w1.heap.size := Nat.le_trans HH.out.hlo HB1.out.size
  have hw12 : w1.heap.size ≤ w2.heap.size := by rw [← HW2.out]; simp
  have hV : RvAt w1 hi1 lo g M n p (.slice Ap p.ps.length cp) vb3 (goesP st now).1 w3.heap.size (.slice A3 (goesP st now).2.length c3) (goesP st now).2 (w3.alloc (.cells #[.slice A3 (goesP st now).2.length c3] 47)) := by
    have hbx := HBX.out
    have hgM := HH.out.hg
    have hMM := HH.out.hM
    refine ⟨hR3.alloc _, HIH.out, ((hbx.kept hK3 (by rintro (e | e) <;> omega)).alloc _), Blk.new w3 47 _, ?_, ?_, Nat.le_trans hw12 hK3.size, hl1⟩
    · exact (hO3.base_ hw12).kept hl1 (fun j o _ hj => (Below.heap_alloc w3 _ j (lt_of_heap hj)).trans hj)
    · have : Kept (MR g M) w1 w2 := by rw [← HW2.out]; exact (Kept.refl _ w1).alloc _
      exact (this.trans hK3).alloc _
  have hob : w3.heap.size < (w3.alloc (.cells #[.slice A3 (goesP st now).2.length c3] 47)).heap.size := by simp
  have HV := Lib.hid hV
  clear hV hR3 hO3 hK3 hl1 hw12 HGO
  generalize w3.alloc (.cells #[.slice A3 (goesP st now).2.length c3] 47) = w4 at *
  generalize w3.heap.size = ob at *
  have hrecv : recvP st now p = ((newP (goesP st now).1 p).1, (goesP st now).2 ++ (newP (goesP st now).1 p).2) := rfl
  have HREC := Lib.hid hrecv
  clear hrecv
  generalize goesP st now = R1 at *
  obtain ⟨s1, outs1⟩ := R1
  dsimp only at HV HGS HGW hcc3 HREC
  obtain ⟨x0, x1, x2, x3, x4, x5, x6, x7, x8, x9, x10⟩ := HV.out.rc.cells
  obtain ⟨z0, z1, z2, z3⟩ : w4.cell? ⟨w1.heap.size, 0, none⟩ = some (.int .i64 p.sn) ∧ w4.cell? ⟨w1.heap.size, 1, none⟩ = some (.bool p.s) ∧ w4.cell? ⟨w1.heap.size, 2, none⟩ = some (.bool p.en) ∧ w4.cell? ⟨w1.heap.size, 3, none⟩ = some (.slice Ap p.ps.length cp) := ⟨HV.out.bx.cell 0, HV.out.bx.cell 1, HV.out.bx.cell 2, HV.out.bx.cell 3⟩
  have hpl := rplace_any g s1.high p.sn w4 x6 HGS.out.1.high HP.out.1
  have HPL := Lib.hid hpl
  have hlp := placeP_lt s1.high p.sn
  obtain ⟨F, hF, hFm⟩ := HV.out.rc.mp
  have hsn := HP.out.1
  have hlk1 := MapIs.look (w := w4.drew) hF undKey undMap (zero26 _) (j := p.sn) (by omega)
  have hgl : g < w4.heap.size := HV.out.rc.blk.lt
  have hbl : w1.heap.size < w4.heap.size := HV.out.bx.lt
  have hlk2 := MapIs.look (w := (w4.alloc (.cells #[.int .i64 0, .bool false, .bool false, .slice none 0 0] 80)).drew) (hF.same (Below.heap_alloc w4 _ M hF.lt)) undKey undMap (zero26 _) (j := p.sn) (by omega)
  have HFM := Lib.hid hFm
  have HF := Lib.hid hF
  clear hpl hFm hF
  obtain ⟨is, his⟩ : ∃ is : Bool, is = (s1.m p.sn).isSome := ⟨_, rfl⟩
  have hFi : (F p.sn).isSome = is := by
    rw [his]
    cases hm : s1.m p.sn with
    | none => rw [(HFM.out p.sn).1 hm]; rfl
    | some q => obtain ⟨vo, e, _⟩ := (HFM.out p.sn).2 q hm; rw [e]; rfl
  obtain ⟨ya, yb, yc, yA, yn, yk, hval⟩ : ∃ (ya : Int) (yb yc : Bool) (yA : Option Addr) (yn yk : Nat), (F p.sn).getD (.agg #[.int .i64 0, .bool false, .bool false, .slice none 0 0]) = .agg #[.int .i64 ya, .bool yb, .bool yc, .slice yA yn yk] := by
    cases hm : s1.m p.sn with
    | none => rw [(HFM.out p.sn).1 hm]; exact ⟨0, false, false, none, 0, 0, rfl⟩
    | some q =>
      obtain ⟨vo, e, hvo, _⟩ := (HFM.out p.sn).2 q hm
      obtain ⟨A', c', _, rfl, _⟩ := hvo.sls
      rw [e]
      exact ⟨q.sn, q.s, q.en, A', _, c', rfl⟩
  rw [hFi, hval] at hlk1 hlk2
  clear hFi hval
  go_upto_region 9 with (go_at_call 34; refine HPL.out.mono ?_; rintro e3 w5 ⟨rfl, rfl⟩)
  go_cut [14] (fun s14 wx => s14 = .bool is ∧ RvAt w1 hi1 lo g M n p (.slice Ap p.ps.length cp) vb3 s1 ob (.slice A3 outs1.length c3) outs1 wx)
  case first =>
    go_region
    all_goals
      go_wp2_with fail
      go_meet
      exact ⟨by rw [his], (HV.out.alloc _).drew⟩
  case rest =>
  obtain ⟨rfl, hV⟩ := hcut
  have HV := Lib.hid hV
  have HIS := Lib.hid his
  clear hV hlk1 hlk2 x0 x1 x2 x3 x4 x5 x6 x7 x8 x9 x10 z0 z1 z2 z3 HPL HF HFM hgl hbl his
  obtain ⟨x0, x1, x2, x3, x4, x5, x6, x7, x8, x9, x10⟩ := HV.out.rc.cells
  obtain ⟨c1, hc1⟩ : ∃ c1 : Bool, c1 = (is || decide (placeP s1.high p.sn < placeP s1.high s1.next)) := ⟨_, rfl⟩
  have hpn := rplace_any g s1.high s1.next wc x6 HGS.out.1.high HGS.out.1.next
  have HPN := Lib.hid hpn
  have HC1 := Lib.hid hc1
  have hlpn := placeP_lt s1.high s1.next
  clear hpn hc1
  go_upto_region 10 with (fail)
  go_cut [56] (fun s56 wx => s56 = .bool c1 ∧ wx = wc)
  case first =>
    cases is with
    | true =>
      go_wp2_with fail
      go_meet
      exact ⟨by rw [HC1.out]; rfl, rfl⟩
    | false =>
      go_wp2_with (go_at_call 34; refine HPN.out.mono ?_; rintro e3 w5 ⟨rfl, rfl⟩)
      go_meet
      exact ⟨by rw [HC1.out]; simp, rfl⟩
  case rest =>
  obtain ⟨rfl, rfl⟩ := hcut
  have hcnd : (c1 = true) = ((s1.m p.sn).isSome ∨ placeP s1.high p.sn < placeP s1.high s1.next) := by rw [HC1.out, HIS.out]; simp
  have y0 : wc.cell? ⟨ob, 0, none⟩ = some (.slice A3 outs1.length c3) := HV.out.obx.cell 0
  cases c1 with
  | true =>
    have hnew : newP s1 p = (s1, []) := by unfold newP; rw [if_pos (by rw [← hcnd])]
    have HNEW := Lib.hid hnew
    have HKW : Hid (Kept (MR g M) w wc ∧ w.heap.size ≤ w1.heap.size) := Lib.hid ⟨((Kept.of_below HB1.out).mono_at fun k o ho hm => by have := lt_of_heap ho; omega).trans HV.out.kept, HB1.out.size⟩
    clear hnew hcnd
    go_wp2_with fail
    go_ret2
    rw [HREC.out, HNEW.out]
    refine ⟨vb3, _, rfl, (HV.out.rc.mono (Nat.le_succ n)).hiMono (HSUB.out _ HV.out.kept.size) (HSUP.out _ HV.out.kept.size), ?_, HKW.out.1⟩
    simpa using HV.out.out.base_ HKW.out.2
  | false =>
    have hcnd2 : ¬ ((s1.m p.sn).isSome ∨ placeP s1.high p.sn < placeP s1.high s1.next) := by rw [← hcnd]; simp
    have HCND := Lib.hid hcnd2
    obtain ⟨F, hF, hFm⟩ := HV.out.rc.mp
    obtain ⟨w6, hrun, hF6, hg6⟩ := MapIs.store (w := wc.drew) hF undKey undMap (by unfold maxLen; omega) (j := p.sn) (by omega) (.agg #[.int .i64 p.sn, .bool p.s, .bool p.en, .slice Ap p.ps.length cp])
    have hV6 : RvAt w1 hi1 lo g M (n + 1) p (.slice Ap p.ps.length cp) vb3 (storeP s1 p) ob (.slice A3 outs1.length c3) outs1 w6 := by
      refine HV.out.drew.call (HV.out.rc.drew.mapTurn hg6 hF6 (m' := mPut s1.m p.sn (some p)) fun k => ?_) ((Kept.refl _ _).grown hg6 (fun k e o _ => .inr (by simpa using e.symm)))
      unfold mPut fPut
      by_cases e : k = p.sn
      · rw [if_pos e, if_pos e]
        refine ⟨(fun hh => nomatch hh), fun q hq => ?_⟩
        cases hq
        refine ⟨_, rfl, HVO.out.kept fun j o hj ho => HV.out.kept.same j o ho ?_, HVJ.out⟩
        have := HH.out.hg
        have := HH.out.hM
        rintro (e | e) <;> omega
      · rw [if_neg e, if_neg e]
        exact ⟨(hFm k).1, fun q hq => let ⟨vo, e1, e2, e3⟩ := (hFm k).2 q hq; ⟨vo, e1, e2, e3⟩⟩
    have HV6 := Lib.hid hV6
    obtain ⟨z0, z1, z2, z3⟩ : wc.cell? ⟨w1.heap.size, 0, none⟩ = some (.int .i64 p.sn) ∧ wc.cell? ⟨w1.heap.size, 1, none⟩ = some (.bool p.s) ∧ wc.cell? ⟨w1.heap.size, 2, none⟩ = some (.bool p.en) ∧ wc.cell? ⟨w1.heap.size, 3, none⟩ = some (.slice Ap p.ps.length cp) := ⟨HV.out.bx.cell 0, HV.out.bx.cell 1, HV.out.bx.cell 2, HV.out.bx.cell 3⟩
    clear hcnd hcnd2 hF hFm hF6 hg6 hV6 y0 HPN
    go_upto_region 12 with (fail)
    go_cut [] (fun wx => RvAt w1 hi1 lo g M (n + 1) p (.slice Ap p.ps.length cp) vb3 (storeP s1 p) ob (.slice A3 outs1.length c3) outs1 wx)
    case first =>
      go_region
      all_goals
        go_wp2_with fail
        go_meet
        exact HV6.out
    case rest =>
    clear hrun HV6 HV x0 x1 x2 x3 x4 x5 x6 x7 x8 x9 x10 z0 z1 z2 z3
    have HV := Lib.hid hcut
    clear hcut
    have hso := HGS.out.1.store HP.out
    have HSO := Lib.hid hso
    clear hso
    obtain ⟨c2, hc2⟩ : ∃ c2 : Bool, c2 = decide (512 ≤ placeP s1.high p.sn) := ⟨_, rfl⟩
    have HC2 := Lib.hid hc2
    clear hc2
    go_upto_region 13 with (fail)
    go_cut [66] (fun s66 wx => s66 = .bool c2 ∧ wx = wc)
    case first =>
      go_wp2_with fail
      go_meet
      exact ⟨by rw [HC2.out]; simp; omega, rfl⟩
    case rest =>
    obtain ⟨rfl, rfl⟩ := hcut
    go_upto_if 66 with (fail)
    go_cut [] (fun wx => ∃ vb5 v5, RvAt w1 hi1 lo g M (n + 1) p (.slice Ap p.ps.length cp) vb5 (moveP s1 p).1 ob v5 (outs1 ++ (moveP s1 p).2) wx)
    case first =>
      by_cases hat : placeP s1.high p.sn < 512
      · have hmv : moveP s1 p = (storeP s1 p, []) := by unfold moveP; rw [if_neg (by omega)]
        have hc2 : c2 = false := by rw [HC2.out]; simpa using hat
        subst hc2
        have HMV := Lib.hid hmv
        clear hmv hat
        go_wp2_with fail
        go_meet
        rw [HMV.out]
        exact ⟨_, _, by simpa using HV.out⟩
      · have hc2 : c2 = true := by rw [HC2.out]; simp; omega
        subst hc2
        obtain ⟨x0, x1, x2, x3, x4, x5, x6, x7, x8, x9, x10⟩ := HV.out.rc.cells
        replace x5 : wc.cell? ⟨g, 5, none⟩ = some (.int .i64 s1.next) := x5
        replace x6 : wc.cell? ⟨g, 6, none⟩ = some (.int .i64 s1.high) := x6
        have hgl : g < wc.heap.size := HV.out.rc.blk.lt
        have hbs := fun W (hx : World.cell? W ⟨g, 6, none⟩ = some (.int .i64 s1.high)) => rbase_any g s1.high W hx HGS.out.1.high
        have hps := fun W (hx : World.cell? W ⟨g, 6, none⟩ = some (.int .i64 s1.high)) => rplace_any g s1.high s1.next W hx HGS.out.1.high HGS.out.1.next
        have HBS := Lib.hid (hbs wc.drew x6)
        have HPS := Lib.hid (hps wc.drew x6)
        have x6a : (wc.alloc (.cells #[.int .i64 0, .int .i64 0] 86)).drew.cell? ⟨g, 6, none⟩ = some (.int .i64 s1.high) := (World.cell?_alloc_lt wc (.cells #[.int .i64 0, .int .i64 0] 86) ⟨g, 6, none⟩ hgl).trans x6
        have HBS2 := Lib.hid (hbs _ x6a)
        have HPS2 := Lib.hid (hps _ x6a)
        have HBF := Lib.hid hbs
        have hmv : moveP s1 p = if placeP s1.high s1.next < placeP s1.high p.sn - 511 then spanP (baseP s1.high) (placeP s1.high p.sn - 511) (toBase (highUp (storeP s1 p) p)) else (highUp (storeP s1 p) p, []) := by unfold moveP; rw [if_pos (by omega)]
        have HMV := Lib.hid hmv
        have HBIG : Ahead s1.high p.sn := show 512 ≤ placeP s1.high p.sn by omega
        have hlb := baseP_lt s1.high
        clear hbs hps hmv hat x0 x1 x2 x3 x4 x7 x8 x9 x10
        go_upto_region 14 with (fail)
        go_cut [15] (fun s15 wx => ∃ ab T, s15 = .pointer (some ⟨ab, 0, none⟩) ∧ Blk wx ab T #[.int .i64 (baseP s1.high), .int .i64 (placeP s1.high s1.next)] ∧ RvAt w1 hi1 lo g M (n + 1) p (.slice Ap p.ps.length cp) vb3 (storeP s1 p) ob (.slice A3 outs1.length c3) outs1 wx ∧ ab ≠ g)
        case first =>
          go_region_law (first
            | (go_simp; (with_reducible refine HBS.out.mono ?_); rintro e1 w3 ⟨rfl, rfl⟩)
            | (go_simp; (with_reducible refine HPS.out.mono ?_); rintro e1 w3 ⟨rfl, rfl⟩)
            | (go_simp; (with_reducible refine HBS2.out.mono ?_); rintro e1 w3 ⟨rfl, rfl⟩)
            | (go_simp; (with_reducible refine HPS2.out.mono ?_); rintro e1 w3 ⟨rfl, rfl⟩)
            | fail)
          all_goals
            go_wp2_with fail
            go_meet
            exact ⟨wc.heap.size, 86, rfl, (Blk.new wc 86 _).drew, (HV.out.alloc _).drew, by omega⟩
        case rest =>
        obtain ⟨ab, T, rfl, hA, hV2, hne⟩ := hcut
        have HV2 := Lib.hid hV2
        have HA := Lib.hid hA
        have HNE := Lib.hid hne
        clear x5 x6 x6a hgl HBS HPS HBS2 HPS2 HBF HV hA hV2 hne
        go_upto_region 15 with (fail)
        go_cut [16] (fun s16 wx => s16 = .int .i64 ((placeP s1.high p.sn - 511 : Nat) : Int) ∧ wx = wc)
        case first =>
          go_wp2_with fail
          go_meet
          exact ⟨by rw [show ((placeP s1.high p.sn : Nat) : Int) - 512 + 1 = ((placeP s1.high p.sn - 511 : Nat) : Int) from sub511 HBIG], rfl⟩
        case rest =>
        obtain ⟨rfl, rfl⟩ := hcut
        obtain ⟨x0, x1, x2, x3, x4, x5, x6, x7, x8, x9, x10⟩ := HV2.out.rc.cells
        have f6 := HV2.out.rc.blk.frozen 6
        have z0 : wc.cell? ⟨w1.heap.size, 0, none⟩ = some (.int .i64 p.sn) := HV2.out.bx.cell 0
        obtain ⟨hn', hhn⟩ : ∃ hn' : Nat, hn' = (p.sn + 1) % 1024 := ⟨_, rfl⟩
        have hand2 : bits BinOp.and IntKind.i64 ((p.sn : Int) + 1) 1023 = (hn' : Int) := by rw [and1023]; omega
        have hn1 : hn' ≤ 1023 := by omega
        have hV3 := HV2.out.put 6 (.int .i64 hn') (st' := highUp (storeP s1 p) p) (by rw [hhn]; rfl) rfl rfl
        have hA3 := HA.out.far (p := ⟨g, 6, none⟩) HNE.out (.int .i64 hn')
        have HHN := Lib.hid hhn
        clear hhn
        go_upto_region 17 with (fail)
        generalize wc.setCell ⟨g, 6, none⟩ (.int .i64 hn') = w7 at *
        have HV3 := Lib.hid hV3
        have HA3 := Lib.hid hA3
        have a0 : w7.cell? ⟨ab, 0, none⟩ = some (.int .i64 (baseP s1.high)) := hA3.cell 0
        have a1 : w7.cell? ⟨ab, 1, none⟩ = some (.int .i64 (placeP s1.high s1.next)) := hA3.cell 1
        clear x0 x1 x2 x3 x4 x5 x6 x7 x8 x9 x10 f6 z0 hand2 hV3 hA3 HV2 HA
        by_cases hold : placeP s1.high s1.next < placeP s1.high p.sn - 511
        · have hmv := HMV.out
          rw [if_pos hold] at hmv
          have d2 : decide (placeP s1.high s1.next < placeP s1.high p.sn - 511) = true := by simpa using hold
          have HM := Lib.hid hmv
          obtain ⟨x0, x1, x2, x3, x4, x5, x6, x7, x8, x9, x10⟩ := HV3.out.rc.cells
          replace x6 : w7.cell? ⟨g, 6, none⟩ = some (.int .i64 hn') := by rw [HHN.out]; exact x6
          have f5 := HV3.out.rc.blk.frozen 5
          have hbb := rbase_any g hn' w7 x6 hn1
          have hV4 := HV3.out.put 5 (.int .i64 (baseP hn')) (st' := toBase (highUp (storeP s1 p) p)) (by rw [HHN.out]; rfl) rfl rfl
          have hA4 := HA3.out.far (p := ⟨g, 5, none⟩) HNE.out (.int .i64 (baseP hn'))
          have hsp := rspan_any lo hi1 g M (n + 1) (baseP s1.high) (placeP s1.high p.sn - 511) vb3 (toBase (highUp (storeP s1 p) p)) _ hV4.rc ((HSO.out.highUp p).toBase) (by omega) (by omega)
          have hsl := StOk.span (placeP s1.high p.sn - 511) (baseP s1.high) ((HSO.out.highUp p).toBase)
          have HBB := Lib.hid hbb
          have HV4 := Lib.hid hV4
          have HSP := Lib.hid hsp
          have HSL := Lib.hid hsl
          have b0 : (w7.setCell ⟨g, 5, none⟩ (.int .i64 (baseP hn'))).cell? ⟨ab, 0, none⟩ = some (.int .i64 (baseP s1.high)) := hA4.cell 0
          clear hold hmv hbb hV4 hA4 hsp hsl
          go_wp2_with (first
            | (go_at_call 35; refine HBB.out.mono ?_; rintro e3 w8 ⟨rfl, rfl⟩)
            | (go_at_call 36; refine HSP.out.mono ?_; rintro e4 w9 ⟨vb', vo', rfl, hR5, hO5, hK5⟩; have hV5 := HV4.out.call hR5 hK5)
            | (go_at_call 33; refine (rgather_any hV5 hO5 (by have := HSL.out.2; have := HGS.out.2; omega)).mono ?_; rintro e5 w10 ⟨rfl, v5, hV6⟩))
          go_meet
          exact ⟨vb', v5, by rw [HM.out]; exact hV6⟩
        · have hmv := HMV.out
          rw [if_neg hold] at hmv
          have d2 : decide (placeP s1.high s1.next < placeP s1.high p.sn - 511) = false := by simpa using hold
          have HM := Lib.hid hmv
          clear hold hmv
          go_wp2_with fail
          go_meet
          exact ⟨_, _, by rw [HM.out, List.append_nil]; exact HV3.out⟩
    case rest =>
    obtain ⟨vb5, v5, hV5⟩ := hcut
    have hends := (HGW.out.new HGS.out.1 HP.out).1 HCND.out
    have hmo := HGS.out.1.move HP.out
    have hnew : newP s1 p = (endP (advP 1024 (moveP s1 p).1).1, (moveP s1 p).2 ++ (advP 1024 (moveP s1 p).1).2) := by unfold newP; rw [if_neg HCND.out]
    have hol := HGS.out.2
    obtain ⟨S, hS⟩ : ∃ S, S = moveP s1 p := ⟨_, rfl⟩
    simp only [← hS] at hV5 hends hmo hnew
    have hadv := radv_any lo hi1 g M (n + 1) vb5 S.1 wc hV5.rc hmo.1 hends
    have hal := StOk.adv 1024 hmo.1
    obtain ⟨T, hT⟩ : ∃ T, T = advP 1024 S.1 := ⟨_, rfl⟩
    simp only [← hT] at hadv hal hnew
    have HV5 := Lib.hid hV5
    have HMO := Lib.hid hmo.2
    have HAL := Lib.hid hal
    have HAD := Lib.hid hadv
    have HNEW := Lib.hid hnew
    have HOL := Lib.hid hol
    clear hends hmo hnew hol hS hadv hal hT hV5 HV HCND HSO
    go_upto_region 21 with (first
      | (go_at_call 37; refine HAD.out.mono ?_; rintro e1 w6 ⟨vb6, vo6, rfl, hR6, hO6, hK6⟩; have hV6 := HV5.out.call hR6 hK6)
      | (go_at_call 33; refine (rgather_any hV6 hO6 (by have := HMO.out; have := HAL.out.2; have := HOL.out; rw [List.length_append]; omega)).mono ?_; rintro e5 w7 ⟨rfl, v7, hV7⟩))
    have HV7 := Lib.hid hV7
    clear hR6 hO6 hK6 hV6 hV7 HV5 HAD
    obtain ⟨x0, x1, x2, x3, x4, x5, x6, x7, x8, x9, x10⟩ := HV7.out.rc.cells
    have hpt := rplace_any g T.1.high T.1.trig w7 x6 HAL.out.1.high HAL.out.1.trig
    have hpn := rplace_any g T.1.high T.1.next w7 x6 HAL.out.1.high HAL.out.1.next
    have HPT := Lib.hid hpt
    have HPN := Lib.hid hpn
    obtain ⟨c3, hc3⟩ : ∃ c3 : Bool, c3 = decide (placeP T.1.high T.1.trig ≤ placeP T.1.high T.1.next ∨ 512 < placeP T.1.high T.1.trig) := ⟨_, rfl⟩
    have HC3 := Lib.hid hc3
    have hl1 := placeP_lt T.1.high T.1.trig
    have hl2 := placeP_lt T.1.high T.1.next
    clear hpt hpn hc3
    go_upto_region 22 with (go_at_call 34; refine HPT.out.mono ?_; rintro e3 w8 ⟨rfl, rfl⟩)
    go_cut [123] (fun s123 wx => s123 = .bool c3 ∧ wx = w7)
    case first =>
      by_cases hk : placeP T.1.high T.1.trig ≤ placeP T.1.high T.1.next
      · have d1 : decide (placeP T.1.high T.1.trig ≤ placeP T.1.high T.1.next) = true := by simpa using hk
        have HK2 := Lib.hid hk
        clear hk
        go_wp2_with (go_at_call 34; refine HPN.out.mono ?_; rintro e3 w8 ⟨rfl, rfl⟩)
        go_meet
        exact ⟨by rw [HC3.out]; simp [HK2.out], rfl⟩
      · have d1 : decide (placeP T.1.high T.1.trig ≤ placeP T.1.high T.1.next) = false := by simpa using hk
        have HK2 := Lib.hid hk
        clear hk
        go_wp2_with (go_at_call 34; refine HPN.out.mono ?_; rintro e3 w8 ⟨rfl, rfl⟩)
        go_meet
        exact ⟨by rw [HC3.out]; simp [HK2.out]; omega, rfl⟩
    case rest =>
    obtain ⟨rfl, rfl⟩ := hcut
    have hend : endP T.1 = waitsP (if c3 = true then roOff T.1 else T.1) := by unfold endP; rw [HC3.out]; simp
    have HEND := Lib.hid hend
    have f7 := HV7.out.rc.blk.frozen 7
    clear hend x0 x1 x2 x3 x4 x5 x6 x8 x9 x10 hl1 hl2 HPT HPN
    go_upto_if 123 with (fail)
    go_cut [] (fun wx => RvAt w1 hi1 lo g M (n + 1) p (.slice Ap p.ps.length cp) vb6 (if c3 = true then roOff T.1 else T.1) ob v7 ((outs1 ++ S.2) ++ T.2) wx ∧ StOk (if c3 = true then roOff T.1 else T.1))
    case first =>
      cases c3 with
      | true =>
        go_wp2_with fail
        go_meet
        exact ⟨by simpa using HV7.out.put 7 (.bool false) (st' := roOff T.1) rfl rfl rfl, by simpa using HAL.out.1.roOff⟩
      | false =>
        go_wp2_with fail
        go_meet
        exact ⟨by simpa using HV7.out, by simpa using HAL.out.1⟩
    case rest =>
    obtain ⟨hV8, hso8⟩ := hcut
    generalize (if c3 = true then roOff T.1 else T.1) = s8 at *
    have hwt := rwaits_any lo hi1 g M (n + 1) vb6 s8 wc hV8.rc hso8
    have HWT := Lib.hid hwt
    have HV8 := Lib.hid hV8
    have HKW : Hid (Kept (MR g M) w w1 ∧ w.heap.size ≤ w1.heap.size) := Lib.hid ⟨(Kept.of_below HB1.out).mono_at fun k o ho hm => by have := lt_of_heap ho; omega, HB1.out.size⟩
    clear hwt hV8 hso8 x7 f7 HV7
    go_upto_region 25 with (go_at_call 38; refine HWT.out.mono ?_; rintro e3 w9 ⟨rfl, hR9, hK9⟩)
    have hV9 := HV8.out.call hR9 hK9
    have y0 : w9.cell? ⟨ob, 0, none⟩ = some v7 := hV9.obx.cell 0
    have HV9 := Lib.hid hV9
    clear hV9 hR9 hK9
    go_wp2_with fail
    go_ret2
    rw [HREC.out, HNEW.out]
    refine ⟨vb6, _, rfl, ?_, ?_, HKW.out.1.trans HV9.out.kept⟩
    · have := HV9.out.rc.hiMono (HSUB.out _ HV9.out.kept.size) (HSUP.out _ HV9.out.kept.size)
      rw [← HEND.out] at this
      exact this
    · have := HV9.out.out.base_ HKW.out.2
      rw [List.append_assoc] at this
      exact this
end Go.Proofs.YtbjajboodohabaaGreat
