/- amsend: Grant, the calls that give no new PDU. -/
import Derived.Test.YtmiipkaobloedaaGreatZb
import Derived.Test.YtmiipkaobloedaaGreatZc
import Derived.Test.YtmiipkaobloedaaGreatZl
import Derived.Deep.RegionHeld3
import Derived.StillTailTactics
import Derived.Deep.DeepCutAuto
namespace Go.Proofs.YtmiipkaobloedaaGreat
open Go.RowKit Go.Shelf
attribute [local go_sem] Oper.semAt_some

section
variable {D F : Nat → Prop} {g : Nat} {c : Cf} {st : Sd} {vq vo : Value} {vs os : List Value} {w : World}
theorem YieldsIf.guard {P : Program} {ops : Array Oper} {S : World → Prop} {o : Oper} {v : Value} {a : Act} (b : Bool) (h1 : b = true → YieldsIf P ops S o v a) (h2 : b = false → Region.wanted o (yielded ops a.tmps) = false) : YieldsIf P ops S o (cond b v undef) a := by
  cases b with
  | true => exact h1 rfl
  | false => exact .inr ⟨h2 rfl, rfl⟩
theorem pt_info : (Tryz.prog.info? 75).map (fun i => (i.zero, i.size, i.bytes)) = some (some (.pointer none), 1, 8) := by kernel_rfl
theorem pt_parts : ∃ i, Tryz.prog.info? 75 = some i ∧ i.zero = some (.pointer none) ∧ i.size = 1 ∧ i.bytes = 8 := by
  have h := pt_info
  cases hi : Tryz.prog.info? 75 with
  | none => rw [hi] at h; cases h
  | some i =>
    rw [hi] at h
    simp only [Option.map_some, Option.some.injEq, Prod.mk.injEq] at h
    exact ⟨i, rfl, h.1, h.2.1, h.2.2⟩
theorem pt_und : Tryz.prog.underlying 52 = some (.slice 75) := by kernel_rfl
theorem OuAt.drew {p : Nat} {x : Ou} {Ap Ar : Option Addr} {cp cr : Nat} {vp : List Value} (h : OuAt w D F p x Ap cp vp Ar cr) : OuAt w.drew D F p x Ap cp vp Ar cr := h.drewN 1
/-- what Grant gives: the bytes, the error, the transmitter behind it -/
def GrOut (w : World) (D F : Nat → Prop) (g : Nat) (c : Cf) (R : Sd × Option Pu × Int) (e : Ending) (w' : World) : Prop :=
  ∃ v, e = .returned (.tuple #[v, .int .i64 R.2.2]) ∧ w'.ownsRow w.heap.size 5 1 v (puB R.2.1).length (bvs (puB R.2.1)) ∧ AmO w D F g c R.1 w'
theorem gr_nil {R : Sd × Option Pu × Int} {w' : World} {er : Int} (h1 : R.2.1 = none) (h2 : R.2.2 = er) (h3 : AmO w D F g c R.1 w') : GrOut w D F g c R (.returned (.tuple #[.slice none 0 0, .int .i64 er])) w' :=
  ⟨_, by rw [h2], by rw [h1]; exact World.ownsRow_nil _ _ _ _, h3⟩
/-- what a grant comes to, once the time has moved -/
def grantB (c : Cf) (s1 : Sd) (n : Int) : Sd × Option Pu :=
  match pendAt s1.out with
    | some i => match s1.out[i]? with
      | some x => againP c n s1 i x
      | none => (s1, none)
    | none => match freshP c n s1 with
      | (s2, none) => (s2, none)
      | (s2, some (x, b)) => (s2, some ⟨x.sn, b, false, false, 0, x.s, x.e, x.ps⟩)
theorem grantR_run {c : Cf} {st : Sd} {now n : Int} (h1 : st.failed = false) (h2 : 0 ≤ n) (h3 : (tickS c st now).failed = false) : grantR c st now n = ((grantB c (tickS c st now) n).1, (grantB c (tickS c st now) n).2, 0) := by
  unfold grantR grantS grantB
  rw [if_neg (by simp [h1]), if_neg (by omega), if_neg (by simp [h3])]
  cases hp : pendAt (tickS c st now).out with
  | some i =>
    obtain ⟨x, hx, _⟩ := pendAt_some hp
    simp only [hx]
    simp
  | none =>
    dsimp only
    generalize freshP c n (tickS c st now) = R
    obtain ⟨s2, _ | ⟨x, b⟩⟩ := R
    · simp
    · simp
theorem grantR_fail {c : Cf} {st : Sd} {now n : Int} (h1 : st.failed = false) (h2 : 0 ≤ n) (h3 : (tickS c st now).failed = true) : grantR c st now n = (tickS c st now, none, 8) := by
  unfold grantR grantS
  rw [if_neg (by simp [h1]), if_neg (by omega), if_pos h3]
  rfl
/-- the answer is laid behind the body -/
theorem gr_end {W W' : World} {be : Nat} {v4 : Value} {s1 : Sd} {bs : List UInt8} {v : Value} {R : Sd × Option Pu × Int} (hk : Kept (fun k _ => D k) w W) (hb : Blk W be 26 #[v4]) (hbw : w.heap.size ≤ be) (hD : ¬ D be) (hF : ∀ k, F k → k < w.heap.size) (hDF : ∀ k, D k → F k)
    (hO : AmO W D F g c s1 W') (hv : W'.ownsRow W.heap.size 5 1 v bs.length (bvs bs)) (h1 : R.1 = s1) (h2 : puB R.2.1 = bs) (h3 : R.2.2 = 0) :
    (W'.setCell ⟨be, 0, none⟩ (.int .i64 0)).cell? ⟨be, 0, none⟩ = some (.int .i64 0) ∧ GrOut w D F g c R (.returned (.tuple #[v, .int .i64 0])) (W'.setCell ⟨be, 0, none⟩ (.int .i64 0)) := by
  have hb' := hb.kept hO.kept hD
  have := (hb'.set_ 0 (.int .i64 0)).cell 0
  refine ⟨by simpa using this, v, by rw [h3], ?_, ?_⟩
  · rw [h2]
    exact own_base (own_store (i := 0) hv hb' (by decide) _) hk.size
  · rw [h1]
    exact hO.put hk hbw hb.lt hF hDF 0 _
set_option maxRecDepth 100000 in
set_option maxHeartbeats 1000000 in
theorem sgrant_early (h : AmS w D F g c st vq vs vo os) (ht : 1 ≤ c.timer) (now n : Int) (hx : st.failed = true ∨ n < 0) :
    Calls Tryz.prog 11 #[.pointer (some ⟨g, 0, none⟩), .int .i64 now, .int .i64 n] w (GrOut w D F g c (grantR c st now n)) := by
  have hA := h.alloc (.cells #[.int .i64 0] 26)
  have hch := scheck_any hA ht
  have HCH := Lib.hid hch
  have HH := Lib.hid h
  cases hf : st.failed with
  | true =>
    rw [hf] at HCH
    have hfin : grantR c st now n = (st, none, 8) := by unfold grantR; rw [if_pos hf]
    rw [hfin]
    simp only [if_pos] at HCH
    clear h hA hch hf hfin hx
    go_enter_defers Tryz.func11, Tryz.ntmps11
    go_wp2_with fail
    refine HCH.out.mono ?_
    rintro e1 w1 ⟨rfl, rfl⟩
    go_wp2
    go_region
    go_wp2
    refine ⟨.tuple #[.slice none 0 0, .int .i64 8], by simp [results, Tryz.results11, go_sem], gr_nil rfl rfl ?_⟩
    exact ((HH.out.alloc _).o ((Kept.refl _ w).alloc _)).drewN 1
  | false =>
    have hn : n < 0 := by
      rcases hx with h | h
      · rw [hf] at h; cases h
      · exact h
    rw [hf] at HCH
    have hfin : grantR c st now n = (st, none, 2) := by unfold grantR; rw [if_neg (by simp [hf]), if_pos hn]
    rw [hfin]
    simp only [Bool.false_eq_true, if_false] at HCH
    clear h hA hch hf hfin hx
    go_enter_defers Tryz.func11, Tryz.ntmps11
    go_wp2_with fail
    refine HCH.out.mono ?_
    rintro e1 w1 ⟨rfl, rfl⟩
    go_wp2
    refine ⟨.tuple #[.slice none 0 0, .int .i64 2], by simp [results, Tryz.results11, go_sem], gr_nil rfl rfl ?_⟩
    exact (HH.out.alloc _).o ((Kept.refl _ w).alloc _)
set_option maxRecDepth 100000 in
set_option maxHeartbeats 40000000 in
theorem sgrant_any (h : AmS w D F g c st vq vs vo os) (ht : CfOk c) {K : Nat} (hB : Bnd st K) (hK : K ≤ 90000) (hI : Inv35 st) (hf : st.failed = false) (now n : Int) (hnow : now ≤ 9223372036854775807) (hn : 0 ≤ n) (hn2 : n ≤ 9223372036854775807) :
    Calls Tryz.prog 11 #[.pointer (some ⟨g, 0, none⟩), .int .i64 now, .int .i64 n] w (GrOut w D F g c (grantR c st now n)) := by
  have hA := h.alloc (.cells #[.int .i64 0] 26)
  have hch := scheck_any hA ht.timer.1
  rw [hf] at hch
  simp only [Bool.false_eq_true, if_false] at hch
  have HCH := Lib.hid hch
  have HH := Lib.hid h
  have hgo := sgoes_any hA now
  have HGO := Lib.hid hgo
  have hB1 := hB.clock hnow
  have HB1 := Lib.hid hB1
  have be0 := Blk.new w 26 #[.int .i64 0]
  have HBE := Lib.hid be0
  have HT := Lib.hid ht
  have HI1 := Lib.hid (hI.tick c now)
  have HBT := Lib.hid (hB.tick c hnow)
  have hw := hI.w
  have hDn : ¬ D w.heap.size := h.fresh (Nat.le_refl _)
  obtain ⟨R, hR⟩ : ∃ R, grantR c st now n = R := ⟨_, rfl⟩
  rw [hR]
  have HR := Lib.hid hR
  have HF := Lib.hid hf
  clear h hA hch hgo hB1 be0 hI hB ht hf hR
  go_enter_defers Tryz.func11, Tryz.ntmps11
  go_wp2_with fail
  refine HCH.out.mono ?_
  rintro e1 w1 ⟨rfl, rfl⟩
  go_wp2_with fail
  refine HGO.out.mono ?_
  rintro e2 w2 ⟨rfl, hA2, hk2⟩
  have hex := sexpires_any hA2 HB1.out (by omega) hw HF.out
  have be2 := HBE.out.kept hk2 hDn
  have HEX := Lib.hid hex
  have HBE2 := Lib.hid be2
  have hkk : Kept (fun k _ => D k) w w2 := ((Kept.refl _ w).alloc _).trans hk2
  have HKK := Lib.hid hkk
  have hz2 : w.heap.size < w2.heap.size := be2.lt
  clear hA2 hex be2 hk2 hkk
  go_wp2_with fail
  refine HEX.out.mono ?_
  rintro e3 w3 ⟨⟨hf3, rfl⟩ | ⟨hf3, rfl⟩, hO3⟩
  · have be3 := HBE2.out.kept hO3.kept hDn
    have hRr := HR.out
    rw [grantR_run HF.out hn hf3] at hRr
    have HRr := Lib.hid hRr
    have HBE3 := Lib.hid be3
    obtain ⟨D3, F3, vq3, vs3, vo3, os3, hA3, hD3, hF3, hk3⟩ := hO3
    have hts : expiresP c (clockS st now) = tickS c st now := rfl
    rw [hts] at hA3 hf3
    have hI3 := HI1.out
    have hB3 := HBT.out
    generalize tickS c st now = s3 at *
    have hkk3 : Kept (fun k _ => D k) w w3 := HKK.out.trans hk3
    have HA3 := Lib.hid hA3
    have HD3 := Lib.hid hD3
    have HF3 := Lib.hid hF3
    have HK3 := Lib.hid hk3
    have HKK3 := Lib.hid hkk3
    have hpn := spending_any hA3 (by have := hI3.w; omega)
    have HPN := Lib.hid hpn
    have HI3 := Lib.hid hI3
    have HB3 := Lib.hid hB3
    have hi512 := hI3.w
    have hi1024 := hI3.f
    unfold pendV at HPN
    clear be3 hRr hD3 hF3 hk3 hf3 hts hpn hI3 hB3 hkk3
    cases hpa : pendAt s3.out with
    | some i =>
      rw [hpa] at HPN
      obtain ⟨x, hx, hxp, _⟩ := pendAt_some hpa
      obtain ⟨p, Ap, cp, vp, Ar, cr, he, ho⟩ := hA3.oe i x hx
      have hg1 : os3[i]?.getD (.pointer none) = .pointer (some ⟨p, 0, none⟩) := by rw [he]; rfl
      simp only [hg1] at HPN
      have hag := sagain_any hA3 HB3.out hi512 hi1024 hx he ho hxp n hn hn2
      have hgb : grantB c s3 n = againP c n s3 i x := by unfold grantB; rw [hpa]; simp only [hx]
      have hRr := HRr.out
      rw [hgb] at hRr
      have HRR := Lib.hid hRr
      have HAG := Lib.hid hag
      clear hA3 hpa hx hxp he ho hg1 hag hgb hRr
      go_wp2_with fail
      refine HPN.out.mono ?_
      rintro e4 w4 ⟨rfl, rfl⟩
      go_wp2_with fail
      refine HAG.out.mono ?_
      rintro e5 w5 ⟨v5, rfl, hv5, hO5⟩
      have hO6 : AmO w2 D F g c (againP c n s3 i x).1 w5 := AmO.step HK3.out HD3.out HF3.out hO5
      have be5 := HBE2.out.kept hO6.kept hDn
      obtain ⟨q9, hG9⟩ := gr_end (R := R) (bs := puB (againP c n s3 i x).2) (v := v5) HKK.out HBE2.out (Nat.le_refl _) hDn HH.out.lt HH.out.sub hO6 (own_base hv5 HK3.out.size) (by rw [← HRR.out]) (by rw [← HRR.out]) (by rw [← HRR.out])
      have c5 := be5.cell 0
      have f5 := be5.frozen 0
      simp at c5
      have HG9 := Lib.hid hG9
      have HQ9 := Lib.hid q9
      clear hv5 hO5 hO6 be5 hG9 q9
      go_wp2
      refine leaves_cons (f := 28) (args := #[.pointer (some ⟨w.heap.size, 0, none⟩)]) (by simp) (by simp [go_sem]) ?_
      refine (caughtS_idle _ _).mono ?_
      rintro e9 u9 w9 ⟨rfl, rfl, rfl⟩
      have q := HQ9.out
      exact ⟨.tuple #[v5, .int .i64 0], by simp [results, Tryz.results11, go_sem, q], HG9.out⟩
    | none =>
      rw [hpa] at HPN
      simp only at HPN
      have hgb : grantB c s3 n = match freshP c n s3 with | (s2, none) => (s2, none) | (s2, some (x, b)) => (s2, some ⟨x.sn, b, false, false, 0, x.s, x.e, x.ps⟩) := by unfold grantB; rw [hpa]
      have HGB := Lib.hid hgb
      have y12 := hA3.blk.cell 12
      simp [sndC] at y12
      obtain ⟨Ao, co, rfl, hso⟩ := hA3.osl
      have hocap := hso.cap
      have homx := hso.mx
      have be3 := HBE3.out
      have c3 := be3.cell 0
      have f3 := be3.frozen 0
      simp at c3
      have HA3 := Lib.hid hA3
      clear hA3 hpa hgb hso be3
      go_wp2_with fail
      refine HPN.out.mono ?_
      rintro e4 w4 ⟨rfl, rfl⟩
      by_cases h512 : 512 ≤ s3.out.length
      · have d5 : decide (512 ≤ s3.out.length) = true := decide_eq_true h512
        have hfr : freshP c n s3 = (s3, none) := by unfold freshP; rw [if_pos h512]
        have hgb := HGB.out
        rw [hfr] at hgb
        have hRr := HRr.out
        rw [hgb] at hRr
        have HRR := Lib.hid hRr
        have hO6 : AmO w2 D F g c s3 w3 := AmO.step HK3.out HD3.out HF3.out (HA3.out.o (Kept.refl _ w3))
        obtain ⟨q9, hG9⟩ := gr_end (R := R) (bs := []) (v := .slice none 0 0) HKK.out HBE2.out (Nat.le_refl _) hDn HH.out.lt HH.out.sub hO6 (World.ownsRow_nil _ _ _ _) (by rw [← HRR.out]) (by rw [← HRR.out]; rfl) (by rw [← HRR.out])
        have HG9 := Lib.hid hG9
        have HQ9 := Lib.hid q9
        clear hfr hgb hRr hO6 hG9 q9
        go_wp2
        refine leaves_cons (f := 28) (args := #[.pointer (some ⟨w.heap.size, 0, none⟩)]) (by simp) (by simp [go_sem]) ?_
        refine (caughtS_idle _ _).mono ?_
        rintro e9 u9 w9 ⟨rfl, rfl, rfl⟩
        have q := HQ9.out
        exact ⟨.tuple #[.slice none 0 0, .int .i64 0], by simp [results, Tryz.results11, go_sem, q], HG9.out⟩
      · have d5 : decide (512 ≤ s3.out.length) = false := decide_eq_false h512
        have hch := schunk_am HA3.out n hn hn2 HB3.out.sdu (by have := HI3.out.le; have := HB3.out.held; omega)
        have HCHK := Lib.hid hch
        have hfr : freshP c n s3 = if (chunkS n s3).ps = [] then (s3, none) else ((finishP c (addO s3 (chunkS n s3)) (pollsNow c (addO s3 (chunkS n s3)))).1, some (chunkS n s3, (finishP c (addO s3 (chunkS n s3)) (pollsNow c (addO s3 (chunkS n s3)))).2)) := by unfold freshP; rw [if_neg h512]
        have HFR := Lib.hid hfr
        clear hch hfr
        go_wp2_with fail
        refine HCHK.out.mono ?_
        rintro e5 w5 ⟨Ap, cp, sB, rfl, hpo5, hb5, hsB⟩
        dsimp only at hpo5 hsB ⊢
        have hxa : (chunkS n s3).acked = false ∧ (chunkS n s3).pend = [] ∧ (chunkS n s3).retx = 0 ∧ (chunkS n s3).sn = nextP s3 := ⟨rfl, rfl, rfl, rfl⟩
        have hcok := chunk_ok HB3.out HI3.out.toInvV n
        have hcsm := chunk_sum HI3.out.toInvV n
        obtain ⟨x, hx⟩ : ∃ x, chunkS n s3 = x := ⟨_, rfl⟩
        rw [hx] at hpo5 hsB hxa hcok hcsm HFR
        simp only [hx]
        have HX := Lib.hid hx
        have HXA := Lib.hid hxa
        have HCOK := Lib.hid hcok
        have HCSM := Lib.hid hcsm
        have HPO5 := Lib.hid hpo5
        have HSB := Lib.hid hsB
        have HB5 := Lib.hid hb5
        have hkb : Kept (fun k _ => D3 k) w3 w5 := (Kept.of_below hb5).mono_at fun k o ho hm => by have := lt_of_heap ho; omega
        have HKB := Lib.hid hkb
        have be5 := (HBE3.out.below hb5 HBE3.out.lt).alloc (.cells #[.bool sB, .bool x.e, .slice Ap x.ps.length cp] 59)
        have bc5 := Blk.new w5 59 #[.bool sB, .bool x.e, .slice Ap x.ps.length cp]
        have hA5 := (HA3.out.below hb5).alloc (.cells #[.bool sB, .bool x.e, .slice Ap x.ps.length cp] 59)
        have hk5 := hkb.alloc (.cells #[.bool sB, .bool x.e, .slice Ap x.ps.length cp] 59)
        have hpo6 := hpo5.belowG ((Below.refl _ w5).alloc (Nat.le_refl _) (.cells #[.bool sB, .bool x.e, .slice Ap x.ps.length cp] 59))
        have hcap5 : x.ps.length ≤ cp ∧ cp ≤ 9223372036854775807 := by
          obtain ⟨vl, h1, _⟩ := hpo5
          exact ⟨(own_sl' h1).cap, (own_sl' h1).mx⟩
        obtain ⟨hcp1, hcp2⟩ := hcap5
        have HBE5 := Lib.hid be5
        have HBC5 := Lib.hid bc5
        have HA5 := Lib.hid hA5
        have HK5 := Lib.hid hk5
        have HPO6 := Lib.hid hpo6
        clear hx hxa hcok hcsm hpo5 hsB hb5 hkb be5 bc5 hA5 hk5 hpo6 c3 f3 y12
        by_cases hps : x.ps = []
        · have d6 : ((x.ps.length : Int) == 0) = true := by rw [hps]; rfl
          have hfr := HFR.out
          rw [if_pos hps] at hfr
          have hgb := HGB.out
          rw [hfr] at hgb
          have hRr := HRr.out
          rw [hgb] at hRr
          have HRR := Lib.hid hRr
          have HPS := Lib.hid hps
          have hO6 : AmO w2 D F g c s3 (w5.alloc (.cells #[.bool sB, .bool x.e, .slice Ap x.ps.length cp] 59)) := AmO.step HK3.out HD3.out HF3.out (HA5.out.o HK5.out)
          obtain ⟨q9, hG9⟩ := gr_end (R := R) (bs := []) (v := .slice none 0 0) HKK.out HBE2.out (Nat.le_refl _) hDn HH.out.lt HH.out.sub hO6 (World.ownsRow_nil _ _ _ _) (by rw [← HRR.out]) (by rw [← HRR.out]; rfl) (by rw [← HRR.out])
          have HG9 := Lib.hid hG9
          have HQ9 := Lib.hid q9
          clear hfr hgb hRr hO6 hG9 q9 hps
          go_upto_region 15 with (fail)
          have c5 := HBE5.out.cell 0
          have f5 := HBE5.out.frozen 0
          have d2 : (w5.alloc (.cells #[.bool sB, .bool x.e, .slice Ap x.ps.length cp] 59)).cell? ⟨w5.heap.size, 2, none⟩ = some (.slice Ap x.ps.length cp) := HBC5.out.cell 2
          simp only [List.getElem?_toArray, List.getElem?_cons_zero] at c5
          generalize w5.alloc (.cells #[.bool sB, .bool x.e, .slice Ap x.ps.length cp] 59) = w6 at *
          go_wp2
          refine leaves_cons (f := 28) (args := #[.pointer (some ⟨w.heap.size, 0, none⟩)]) (by simp) (by simp [go_sem]) ?_
          refine (caughtS_idle _ _).mono ?_
          rintro e9 u9 w9 ⟨rfl, rfl, rfl⟩
          have q := HQ9.out
          exact ⟨.tuple #[.slice none 0 0, .int .i64 0], by simp [results, Tryz.results11, go_sem, q], HG9.out⟩
        · have hpl : 0 < x.ps.length := List.length_pos_iff.2 hps
          have d6 : ((x.ps.length : Int) == 0) = false := by simp; omega
          have hfr := HFR.out
          rw [if_neg hps] at hfr
          have hgb := HGB.out
          rw [hfr] at hgb
          have hRr := HRr.out
          rw [hgb] at hRr
          have HRR := Lib.hid hRr
          have hok := HCOK.out hps
          have hsm := HCSM.out hps
          have hsb : sB = x.s := HSB.out hps
          subst hsb
          have HOK := Lib.hid hok
          have HSM := Lib.hid hsm
          clear hfr hgb hRr hps hok hsm
          go_upto_region 15 with (fail)
          have c5 := HBE5.out.cell 0
          have f5 := HBE5.out.frozen 0
          have d0 : (w5.alloc (.cells #[.bool x.s, .bool x.e, .slice Ap x.ps.length cp] 59)).cell? ⟨w5.heap.size, 0, none⟩ = some (.bool x.s) := HBC5.out.cell 0
          have d1 : (w5.alloc (.cells #[.bool x.s, .bool x.e, .slice Ap x.ps.length cp] 59)).cell? ⟨w5.heap.size, 1, none⟩ = some (.bool x.e) := HBC5.out.cell 1
          have d2 : (w5.alloc (.cells #[.bool x.s, .bool x.e, .slice Ap x.ps.length cp] 59)).cell? ⟨w5.heap.size, 2, none⟩ = some (.slice Ap x.ps.length cp) := HBC5.out.cell 2
          simp only [List.getElem?_toArray, List.getElem?_cons_zero] at c5
          have hb56 := Lib.hid ((Below.refl w5.heap.size w5).alloc (Nat.le_refl _) (.cells #[.bool x.s, .bool x.e, .slice Ap x.ps.length cp] 59))
          have hz5 := Lib.hid (World.size_alloc w5 (.cells #[.bool x.s, .bool x.e, .slice Ap x.ps.length cp] 59))
          generalize w5.alloc (.cells #[.bool x.s, .bool x.e, .slice Ap x.ps.length cp] 59) = w6 at *
          go_wp2_with fail
          have hA6 := HA5.out
          have hpo6 := HPO6.out
          obtain ⟨vl6, hvl1, hvl2⟩ := hpo6
          have hsl6 : Sls w6 w6.heap.size Ap x.ps.length cp vl6 x.ps := ⟨own_sl' hvl1, rfl, fun i q hi => let ⟨A, cq, e, ho⟩ := hvl2 i q hi; ⟨A, cq, e, own_sl' ho⟩⟩
          have hxs := HOK.out.ps
          have hple : ∀ q ∈ x.ps, q.length ≤ 1099511627776 := fun q hq => by
            have := mem_le_sumLen hq
            have := hxs.sum
            omega
          have hxh := hxs.hi
          have hnx : ∀ W, Below w6.heap.size w6 W → Calls Tryz.prog 34 #[.pointer (some ⟨g, 0, none⟩)] W fun e w' => e = .returned (.int .i64 (nextP s3 : Nat)) ∧ Below w6.heap.size w6 w' := fun W hW =>
            (snext_any (hA6.below hW) hi1024 (by omega)).mono fun e w' hh => ⟨hh.1, by obtain ⟨q, rfl⟩ := hh.2; exact hW.drewN q⟩
          have hsz : ∀ W, Below w6.heap.size w6 W → Calls Tryz.prog 35 #[.agg #[.bool x.s, .bool x.e, .slice Ap x.ps.length cp]] W fun e w' => e = .returned (.int .i64 (sizeO x : Nat)) ∧ Below w6.heap.size w6 w' := fun W hW =>
            (size_any x.s x.e Ap x.ps.length cp vl6 x.ps W ((hsl6.below hW).more hW.size) (by omega) hple).mono fun e w' hh => ⟨hh.1, hW.trans (hh.2.mono hW.size)⟩
          have hcl5 := hvl1
          have hl5 : w5.heap.size < w6.heap.size := by have := hz5.out; omega
          have hS : ∀ W, Below w6.heap.size w6 W → (W.cell? ⟨w5.heap.size, 0, none⟩ = some (.bool x.s) ∧ W.cell? ⟨w5.heap.size, 1, none⟩ = some (.bool x.e) ∧ W.cell? ⟨w5.heap.size, 2, none⟩ = some (.slice Ap x.ps.length cp)) := fun W hW => ⟨(hW.cell (p := ⟨w5.heap.size, 0, none⟩) hl5).trans d0, (hW.cell (p := ⟨w5.heap.size, 1, none⟩) hl5).trans d1, (hW.cell (p := ⟨w5.heap.size, 2, none⟩) hl5).trans d2⟩
          have HNX := Lib.hid hnx
          have HSZ := Lib.hid hsz
          have HS := Lib.hid hS
          have HVL1 := Lib.hid hvl1
          have HVL2 := Lib.hid hvl2
          have HXS := Lib.hid hxs
          clear hnx hsz hS hvl1 hvl2 hsl6 hple hxs hA6 hcl5
          go_cut [10] from 44 to 51 (fun s10 wx => ∃ p, s10 = .pointer (some ⟨p, 0, none⟩) ∧ Blk wx p 82 #[.int .i64 (nextP s3 : Nat), .bool false, .bool false, .bool false, .int .i64 0, .bool x.s, .bool x.e, .slice Ap x.ps.length cp, .int .i64 (sizeO x : Nat), .bool false, .slice none 0 0, .int .i64 0] ∧ Below w6.heap.size w6 wx ∧ w6.heap.size ≤ p)
          case first =>
            have hb0 := Below.refl w6.heap.size w6
            go_region_held3 (fun W => W.cell? ⟨w5.heap.size, 0, none⟩ = some (.bool x.s) ∧ W.cell? ⟨w5.heap.size, 1, none⟩ = some (.bool x.e) ∧ W.cell? ⟨w5.heap.size, 2, none⟩ = some (.slice Ap x.ps.length cp))
              (first | go_keep | exact HS.out _ (by assumption) | exact HS.out _ (Below.drew (by assumption)) | exact HS.out _ (Below.drewN (by assumption) _))
              (first
                | (go_at_call 34; refine (HNX.out _ (by first | assumption | exact Below.drew (by assumption) | exact Below.drewN (by assumption) _)).mono ?_; rintro e7 w7 ⟨rfl, hb7⟩)
                | (go_at_call 35; refine (HSZ.out _ (by first | assumption | exact Below.drew (by assumption) | exact Below.drewN (by assumption) _)).mono ?_; rintro e7 w7 ⟨rfl, hb7⟩)
                | fail)
            all_goals
              go_wp2
              go_meet
              exact ⟨_, rfl, Blk.new _ _ _, hb7.alloc hb7.size _, hb7.size⟩
          case rest =>
          obtain ⟨p, rfl, hbp, hbx, hpl6⟩ := hcut
          have hz3 := HB5.out.size
          have hz56 := hz5.out
          have hzc := hbx.size
          have hbW : Below w3.heap.size w3 wc := HB5.out.trans ((hb56.out.mono hz3).trans (hbx.mono (by omega)))
          have hA7 := HA5.out.below hbx
          have hpoW : PartsOwn wc w3.heap.size (.slice Ap x.ps.length cp) x.ps := PartsOwn.belowG ⟨vl6, HVL1.out, HVL2.out⟩ hbx
          have hxa := HXA.out
          obtain ⟨xa1, xa2, xa3, xa4⟩ := hxa
          have hbp2 : Blk wc p 82 (ouC x (.slice Ap x.ps.length cp) (.slice none 0 0)) := by
            have e : ouC x (.slice Ap x.ps.length cp) (.slice none 0 0) = #[.int .i64 (nextP s3 : Nat), .bool false, .bool false, .bool false, .int .i64 0, .bool x.s, .bool x.e, .slice Ap x.ps.length cp, .int .i64 (sizeO x : Nat), .bool false, .slice none 0 0, .int .i64 0] := by
              unfold ouC
              rw [xa1, xa3, xa4]
              rfl
            rw [e]
            exact hbp
          have hkW : Kept (fun k _ => D k) w2 wc := HK3.out.step ((Kept.of_below hbW).mono_at fun k o ho hm => by have := lt_of_heap ho; omega) HD3.out
          have beW := HBE5.out.below hbx HBE5.out.lt
          have y12 := hA7.blk.cell 12
          have e12 := hA7.blk.frozen 12
          simp [sndC] at y12
          have hglc := hA7.blk.lt
          have HA7 := Lib.hid hA7
          have HPOW := Lib.hid hpoW
          have HBP2 := Lib.hid hbp2
          have HBW := Lib.hid hbW
          have HBEW := Lib.hid beW
          have HXA2 := Lib.hid (And.intro xa1 (And.intro xa2 (And.intro xa3 xa4)))
          have HGG := Lib.hid (fun (w8 : World) (A8 : Option Addr) (c8 : Nat) hq8 hg8 hf8 => HA3.out.grow (W2 := wc) (w5 := w8) (x := x) (Ap := Ap) (A5 := A8) (cp := cp) (c5 := c8) (p := p) (base := w3.heap.size) hbW hbp2 (by omega) hpoW (Nat.le_refl _) xa2 (fun q hq => HXS.out.pos q hq) hq8 hg8 hf8)
          obtain ⟨j1, hj1, hq0, hq1, hq2⟩ := pt_parts
          clear hA7 hpoW hbp2 hbW beW xa1 xa2 xa3 xa4 hbp hkW
          go_wp2_with (at_builtin; refine wpList_append_q rfl (.tmp 56) (.tmp 58) 52 rfl j1 (.pointer none) 8 pt_und hj1 hq0 hq1 hq2 rfl rfl (HA7.out.or_.alloc (.cells #[.pointer (some ⟨p, 0, none⟩)] 75)) ⟨wc.heap.size, 0, none⟩ 1 (.pointer (some ⟨p, 0, none⟩)) rfl ?c1 rfl ?c2 ?c3 ?c4 ?_)
          case c1 => exact World.news_of_block (heap_alloc_new wc _) 0 _ rfl
          case c2 => unfold maxLen; omega
          case c3 => omega
          case c4 => omega
          intro v8 w8 hown8 hgrow8 hq8
          obtain ⟨A8, c8, rfl, hs8⟩ := hown8.sl
          obtain ⟨D9, F9, vl9, hA9, hD9, hF9, hk9, hO9⟩ := HGG.out w8 A8 c8 hown8 hgrow8 (fun k hk => (hq8 k hk).imp id (fun h => by rw [World.size_alloc]; exact h))
          have hG8 := ((HA7.out.blk.alloc (.cells #[.pointer (some ⟨p, 0, none⟩)] 75)).grown hgrow8 (fun e => HA7.out.gne.2 e.symm))
          have y12' := hG8.cell 12
          have e12' := hG8.frozen 12
          simp [sndC] at y12'
          have hglw : g < (wc.alloc (.cells #[.pointer (some ⟨p, 0, none⟩)] 75)).heap.size := Nat.lt_of_lt_of_le HA7.out.blk.lt (by simp)
          have HA9 := Lib.hid hA9
          have HD9 := Lib.hid hD9
          have HF9 := Lib.hid hF9
          have HK9 := Lib.hid hk9
          have HO9 := Lib.hid hO9
          have hbe9 : Blk (w8.setCell ⟨g, 12, none⟩ (.slice A8 (s3.out.length + 1) c8)) w.heap.size 26 #[.int .i64 0] := HBE3.out.kept hk9 (fun hd => by
            rcases HD3.out _ hd with e | e
            · exact hDn e
            · omega)
          have HBE9 := Lib.hid hbe9
          clear hA9 hD9 hF9 hk9 hO9 hown8 hgrow8 hq8 hs8 hG8 hbe9
          go_upto_region 19 with (fail)
          generalize w8.setCell ⟨g, 12, none⟩ (.slice A8 (s3.out.length + 1) c8) = w9 at *
          clear y12' e12' y12 e12 d0 d1 d2 c5 f5 hglw hglc
          have y10 := HA9.out.blk.cell 10
          have e10 := HA9.out.blk.frozen 10
          have p8 := HO9.out.blk.cell 8
          simp [sndC] at y10
          simp [ouC] at p8
          have hsm := HSM.out
          have hhe := HB3.out.held
          have hpd := HB3.out.pdus
          have hby := HB3.out.bytes
          have hszx := ouOk_size HOK.out
          have hts : s3.taken + sizeO x ≤ 1048576 := by omega
          have hA10 := (HA9.out.setG 10 (.int .i64 ((s3.taken : Int) + (sizeO x : Nat))) (st' := { s3 with out := s3.out ++ [x], taken := s3.taken + sizeO x }) (by simp [sndC]) rfl rfl).drew
          have hO10 := (HO9.out.far HA9.out.gd (fun e => HA9.out.blk.off HO9.out.blk (by decide) e) 10 (.int .i64 ((s3.taken : Int) + (sizeO x : Nat)))).drew
          have hk10 := (HK9.out.step ((Kept.refl (fun k _ => D9 k) w9).setCell (p := ⟨g, 10, none⟩) (fun _ _ => HA9.out.gd) (.int .i64 ((s3.taken : Int) + (sizeO x : Nat)))) HD9.out).drew
          have hbe10 := (HBE9.out.far (p := ⟨g, 10, none⟩) (fun e => HBE9.out.off HA9.out.blk (by decide) e) (.int .i64 ((s3.taken : Int) + (sizeO x : Nat)))).drew
          have HA10 := Lib.hid hA10
          have HO10 := Lib.hid hO10
          have HK10 := Lib.hid hk10
          have HBE10 := Lib.hid hbe10
          clear hsm hhe hA10 hO10 hk10 hbe10
          go_region
          generalize (w9.setCell ⟨g, 10, none⟩ (.int .i64 ((s3.taken : Int) + (sizeO x : Nat)))).drew = w10 at *
          clear y10 e10 p8
          have y13 := HA10.out.blk.cell 13
          have y14 := HA10.out.blk.cell 14
          have e13 := HA10.out.blk.frozen 13
          have e14 := HA10.out.blk.frozen 14
          have p8 := HO10.out.blk.cell 8
          simp [sndC] at y13 y14
          simp [ouC] at p8
          go_wp2_with fail
          go_cut [] from 73 to 92 (fun wx => wx = ((w10.setCell ⟨g, 13, none⟩ (.int .i64 ((s3.pdus : Int) + 1))).setCell ⟨g, 14, none⟩ (.int .i64 ((s3.bytes : Int) + (sizeO x : Nat)))).drew)
          case first =>
            clear HA10 HO10 HK10 HBE10 HA9 HD9 HF9 HK9 HO9 HBE9 HGG HXA2 HBEW HBW HBP2 HPOW HA7 hbx HB5 HKB HBE5 HBC5 HA5 HK5 HPO6 HRR HOK HSM hb56 hz5 HNX HSZ HS HVL1 HVL2 HXS HX HXA HCOK HCSM HPO5 HSB HFR HCHK HGB HA3 HI3 HB3 HPN HK3 HD3 HF3 HKK3 HRr HBE3 HKK HBE2 HEX HR HF HBT HI1 HT HBE HB1 HGO HH HCH
            generalize sizeO x = sz at *
            refine wp_region_noPanic ?_
            refine wp_region_E (fun w' => w'.cell? ⟨g, 13, none⟩ = some (.int .i64 (s3.pdus : Nat)) ∧ w'.cell? ⟨g, 14, none⟩ = some (.int .i64 (s3.bytes : Nat)) ∧ w'.cell? ⟨p, 8, none⟩ = some (.int .i64 (sz : Nat))) [18, 21] (by kernel_rfl) ?_
            have hHeld : w10.drew.cell? ⟨g, 13, none⟩ = some (.int .i64 (s3.pdus : Nat)) ∧ w10.drew.cell? ⟨g, 14, none⟩ = some (.int .i64 (s3.bytes : Nat)) ∧ w10.drew.cell? ⟨p, 8, none⟩ = some (.int .i64 (sz : Nat)) := ⟨y13, y14, p8⟩
            refine wpAnyE_takeY (i := 0) (v := ?_) rfl (by kernel_rfl) (by kernel_rfl) (by kernel_rfl) (by kernel_rfl) (fun _ _ _ h => h) (Or.inl ⟨by rfl, ?_⟩) hHeld ?_
            rotate_left
            · intro w' hSw
              go_simp
              try with_reducible rfl
            try simp only [Act.put, List.getElem_toArray, List.getElem_cons_zero, List.setIfInBounds_toArray, List.set_cons_zero, List.set_cons_succ]
            refine wpAnyE_takeY (i := 1) (v := ?_) rfl (by kernel_rfl) (by kernel_rfl) (by kernel_rfl) (by kernel_rfl) (fun _ _ _ h => h) (Or.inl ⟨by rfl, ?_⟩) hHeld ?_
            rotate_left
            · intro w' hSw
              go_simp
              try with_reducible rfl
            try simp only [Act.put, List.getElem_toArray, List.getElem_cons_zero, List.getElem_cons_succ, List.setIfInBounds_toArray, List.set_cons_zero, List.set_cons_succ]
            refine wpAnyE_takeY (i := 2) (v := ?_) rfl (by kernel_rfl) (by kernel_rfl) (by kernel_rfl) (by kernel_rfl) (fun _ _ _ h => h) (Or.inl ⟨by rfl, ?_⟩) hHeld ?_
            rotate_left
            · intro w' hSw
              go_simp
              try with_reducible rfl
            try simp only [Act.put, List.getElem_toArray, List.getElem_cons_zero, List.getElem_cons_succ, List.setIfInBounds_toArray, List.set_cons_zero, List.set_cons_succ]
            refine wpAnyE_takeY (i := 3) (v := ?_) rfl (by kernel_rfl) (by kernel_rfl) (by kernel_rfl) (by kernel_rfl) (fun _ _ _ h => h) (Or.inl ⟨by rfl, ?_⟩) hHeld ?_
            rotate_left
            · intro w' hSw
              go_simp
              try with_reducible rfl
            try simp only [Act.put, List.getElem_toArray, List.getElem_cons_zero, List.getElem_cons_succ, List.setIfInBounds_toArray, List.set_cons_zero, List.set_cons_succ]
            refine wpAnyE_takeY (i := 4) (v := ?_) rfl (by kernel_rfl) (by kernel_rfl) (by kernel_rfl) (by kernel_rfl) (fun _ _ _ h => h) (Or.inl ⟨by rfl, ?_⟩) hHeld ?_
            rotate_left
            · intro w' hSw
              go_simp
              try with_reducible rfl
            try simp only [Act.put, List.getElem_toArray, List.getElem_cons_zero, List.getElem_cons_succ, List.setIfInBounds_toArray, List.set_cons_zero, List.set_cons_succ]
            refine wpAnyE_take [18, 21] (i := 5) (v := ?_) rfl (by kernel_rfl) (by kernel_rfl) (by kernel_rfl) (by kernel_rfl) (fun _ _ _ h => h) (Or.inl ⟨by rfl, ?_⟩) hHeld ?_
            rotate_left
            · intro w' hSw
              obtain ⟨hS1, hS2, hS3⟩ := hSw
              go_simp
              try with_reducible rfl
            try simp only [Act.put, List.getElem_toArray, List.getElem_cons_zero, List.getElem_cons_succ, List.setIfInBounds_toArray, List.set_cons_zero, List.set_cons_succ]
            refine wpAnyE_takeY (i := 6) (v := ?_) rfl (by kernel_rfl) (by kernel_rfl) (by kernel_rfl) (by kernel_rfl) (fun _ _ _ h => h) (Or.inl ⟨by rfl, ?_⟩) hHeld ?_
            rotate_left
            · intro w' hSw
              go_simp
              try with_reducible rfl
            try simp only [Act.put, List.getElem_toArray, List.getElem_cons_zero, List.getElem_cons_succ, List.setIfInBounds_toArray, List.set_cons_zero, List.set_cons_succ]
            refine wpAnyE_takeY (i := 7) (v := ?_) rfl (by kernel_rfl) (by kernel_rfl) (by kernel_rfl) (by kernel_rfl) (fun _ _ _ h => h) (Or.inl ⟨by rfl, ?_⟩) hHeld ?_
            rotate_left
            · intro w' hSw
              go_simp
              try with_reducible rfl
            try simp only [Act.put, List.getElem_toArray, List.getElem_cons_zero, List.getElem_cons_succ, List.setIfInBounds_toArray, List.set_cons_zero, List.set_cons_succ]
            refine wpAnyE_takeY (i := 8) (v := ?_) rfl (by kernel_rfl) (by kernel_rfl) (by kernel_rfl) (by kernel_rfl) (fun _ _ _ h => h) (Or.inl ⟨by rfl, ?_⟩) hHeld ?_
            rotate_left
            · intro w' hSw
              go_simp
              try with_reducible rfl
            try simp only [Act.put, List.getElem_toArray, List.getElem_cons_zero, List.getElem_cons_succ, List.setIfInBounds_toArray, List.set_cons_zero, List.set_cons_succ]
            refine wpAnyE_takeY (i := 9) (v := ?_) rfl (by kernel_rfl) (by kernel_rfl) (by kernel_rfl) (by kernel_rfl) (fun _ _ _ h => h) (Or.inl ⟨by rfl, ?_⟩) hHeld ?_
            rotate_left
            · intro w' hSw
              go_simp
              try with_reducible rfl
            try simp only [Act.put, List.getElem_toArray, List.getElem_cons_zero, List.getElem_cons_succ, List.setIfInBounds_toArray, List.set_cons_zero, List.set_cons_succ]
            refine wpAnyE_take [18, 21] (i := 10) (v := ?_) rfl (by kernel_rfl) (by kernel_rfl) (by kernel_rfl) (by kernel_rfl) (fun _ _ _ h => h) (Or.inl ⟨by rfl, ?_⟩) hHeld ?_
            rotate_left
            · intro w' hSw
              obtain ⟨hS1, hS2, hS3⟩ := hSw
              go_simp
              try with_reducible rfl
            try simp only [Act.put, List.getElem_toArray, List.getElem_cons_zero, List.getElem_cons_succ, List.setIfInBounds_toArray, List.set_cons_zero, List.set_cons_succ]
            refine wpAnyE_takeY (i := 11) (v := ?_) rfl (by kernel_rfl) (by kernel_rfl) (by kernel_rfl) (by kernel_rfl) (fun _ _ _ h => h) (Or.inl ⟨by rfl, ?_⟩) hHeld ?_
            rotate_left
            · intro w' hSw
              go_simp
              try with_reducible rfl
            try simp only [Act.put, List.getElem_toArray, List.getElem_cons_zero, List.getElem_cons_succ, List.setIfInBounds_toArray, List.set_cons_zero, List.set_cons_succ]
            refine wpAnyE_takeY (i := 12) (v := ?_) rfl (by kernel_rfl) (by kernel_rfl) (by kernel_rfl) (by kernel_rfl) (fun _ _ _ h => h) (Or.inl ⟨by rfl, ?_⟩) hHeld ?_
            rotate_left
            · intro w' hSw
              go_simp
              try with_reducible rfl
            try simp only [Act.put, List.getElem_toArray, List.getElem_cons_zero, List.getElem_cons_succ, List.setIfInBounds_toArray, List.set_cons_zero, List.set_cons_succ]
            refine wpAnyE_takeY (i := 13) (v := ?_) rfl (by kernel_rfl) (by kernel_rfl) (by kernel_rfl) (by kernel_rfl) (fun _ _ _ h => h) (Or.inl ⟨by rfl, ?_⟩) hHeld ?_
            rotate_left
            · intro w' hSw
              go_simp
              try with_reducible rfl
            try simp only [Act.put, List.getElem_toArray, List.getElem_cons_zero, List.getElem_cons_succ, List.setIfInBounds_toArray, List.set_cons_zero, List.set_cons_succ]
            refine wpAnyE_take [18, 21] (i := 14) (v := ?_) rfl (by kernel_rfl) (by kernel_rfl) (by kernel_rfl) (by kernel_rfl) (fun _ _ _ h => h) (Or.inl ⟨by rfl, ?_⟩) hHeld ?_
            rotate_left
            · intro w' hSw
              obtain ⟨hS1, hS2, hS3⟩ := hSw
              go_simp
              try with_reducible rfl
            try simp only [Act.put, List.getElem_toArray, List.getElem_cons_zero, List.getElem_cons_succ, List.setIfInBounds_toArray, List.set_cons_zero, List.set_cons_succ]
            refine wpAnyE_takeY (i := 15) (v := ?_) rfl (by kernel_rfl) (by kernel_rfl) (by kernel_rfl) (by kernel_rfl) (fun _ _ _ h => h) (Or.inl ⟨by rfl, ?_⟩) hHeld ?_
            rotate_left
            · intro w' hSw
              go_simp
              try with_reducible rfl
            try simp only [Act.put, List.getElem_toArray, List.getElem_cons_zero, List.getElem_cons_succ, List.setIfInBounds_toArray, List.set_cons_zero, List.set_cons_succ]
            refine wpAnyE_takeY (i := 16) (v := ?_) rfl (by kernel_rfl) (by kernel_rfl) (by kernel_rfl) (by kernel_rfl) (fun _ _ _ h => h) (Or.inl ⟨by rfl, ?_⟩) hHeld ?_
            rotate_left
            · intro w' hSw
              go_simp
              try with_reducible rfl
            try simp only [Act.put, List.getElem_toArray, List.getElem_cons_zero, List.getElem_cons_succ, List.setIfInBounds_toArray, List.set_cons_zero, List.set_cons_succ]
            refine wpAnyE_takeY (i := 17) (v := ?_) rfl (by kernel_rfl) (by kernel_rfl) (by kernel_rfl) (by kernel_rfl) (fun _ _ _ h => h) (Or.inl ⟨by rfl, ?_⟩) hHeld ?_
            rotate_left
            · intro w' hSw
              go_simp
              try with_reducible rfl
            try simp only [Act.put, List.getElem_toArray, List.getElem_cons_zero, List.getElem_cons_succ, List.setIfInBounds_toArray, List.set_cons_zero, List.set_cons_succ]
            refine wpAnyE_one (i := 18) rfl (by kernel_rfl) (by kernel_rfl) (by rfl) (fun K hK => ?_)
            go_simp
            refine hK _ _ ?_
            clear hK K
            try simp only [Act.put, List.getElem_toArray, List.getElem_cons_zero, List.getElem_cons_succ, List.setIfInBounds_toArray, List.set_cons_zero, List.set_cons_succ]
            refine wpAnyE_takeZ (i := 19) (v := ?_) rfl (by kernel_rfl) (by kernel_rfl) (by kernel_rfl) (by kernel_rfl) (fun _ _ _ h => h) (Or.inl ⟨by rfl, ?_⟩) ?_
            rotate_left
            · intro w' hSw
              go_simp
              try with_reducible rfl
            try simp only [Act.put, List.getElem_toArray, List.getElem_cons_zero, List.getElem_cons_succ, List.setIfInBounds_toArray, List.set_cons_zero, List.set_cons_succ]
            refine wpAnyE_takeZ (i := 20) (v := ?_) rfl (by kernel_rfl) (by kernel_rfl) (by kernel_rfl) (by kernel_rfl) (fun _ _ _ h => h) (Or.inl ⟨by rfl, ?_⟩) ?_
            rotate_left
            · intro w' hSw
              go_simp
              try with_reducible rfl
            try simp only [Act.put, List.getElem_toArray, List.getElem_cons_zero, List.getElem_cons_succ, List.setIfInBounds_toArray, List.set_cons_zero, List.set_cons_succ]
            refine wpAnyE_one (i := 21) rfl (by kernel_rfl) (by kernel_rfl) (by rfl) (fun K hK => ?_)
            go_simp
            refine hK _ _ ?_
            clear hK K
            try simp only [Act.put, List.getElem_toArray, List.getElem_cons_zero, List.getElem_cons_succ, List.setIfInBounds_toArray, List.set_cons_zero, List.set_cons_succ]
            refine wpAnyE_done (by kernel_rfl) ?_ _
            refine NoPanic.normal ?_
            rw [IntWalk.i64_in ((s3.pdus : Int) + 1) (by omega), IntWalk.i64_in ((s3.bytes : Int) + (sz : Nat)) (by omega)]
            go_wp2_with fail
            go_meet
            rfl
          case rest =>
          subst hcut
          have hA11 := ((HA10.out.setG 13 (.int .i64 ((s3.pdus : Int) + 1)) (st' := { s3 with out := s3.out ++ [x], taken := s3.taken + sizeO x, pdus := s3.pdus + 1 }) (by simp [sndC]) rfl rfl).setG 14 (.int .i64 ((s3.bytes : Int) + (sizeO x : Nat))) (st' := addO s3 x) (by simp [sndC, addO]) rfl rfl).drew
          have hO11 := ((HO10.out.far HA10.out.gd (fun e => HA10.out.blk.off HO10.out.blk (by decide) e) 13 (.int .i64 ((s3.pdus : Int) + 1))).far HA10.out.gd (fun e => HA10.out.blk.off HO10.out.blk (by decide) e) 14 (.int .i64 ((s3.bytes : Int) + (sizeO x : Nat)))).drew
          have hk11 := (HK10.out.step (((Kept.refl (fun k _ => D9 k) w10).setCell (p := ⟨g, 13, none⟩) (fun _ _ => HA10.out.gd) (.int .i64 ((s3.pdus : Int) + 1))).setCell (p := ⟨g, 14, none⟩) (fun _ _ => HA10.out.gd) (.int .i64 ((s3.bytes : Int) + (sizeO x : Nat)))) HD9.out).drew
          have hbe11 := ((HBE10.out.far (p := ⟨g, 13, none⟩) (fun e => HBE10.out.off HA10.out.blk (by decide) e) (.int .i64 ((s3.pdus : Int) + 1))).far (p := ⟨g, 14, none⟩) (fun e => HBE10.out.off HA10.out.blk (by decide) e) (.int .i64 ((s3.bytes : Int) + (sizeO x : Nat)))).drew
          have HA11 := Lib.hid hA11
          have HO11 := Lib.hid hO11
          have HK11 := Lib.hid hk11
          have HBE11 := Lib.hid hbe11
          clear hA11 hO11 hk11 hbe11 y13 y14 e13 e14 p8 hts
          generalize (((w10.setCell ⟨g, 13, none⟩ (.int .i64 ((s3.pdus : Int) + 1))).setCell ⟨g, 14, none⟩ (.int .i64 ((s3.bytes : Int) + (sizeO x : Nat)))).drew) = w11 at *
          go_wp2_with fail
          have hsmm := HSM.out
          have hhe := HB3.out.held
          have hheld : heldP (addO s3 x) ≤ 1048576 := hhe
          have hol : (addO s3 x).out.length ≤ 512 := by
            show (s3.out ++ [x]).length ≤ 512
            rw [List.length_append]
            simp
            omega
          have hf1 : (addO s3 x).first < 1024 := hi1024
          obtain ⟨b, hb⟩ : ∃ b, b = pollsNow c (addO s3 x) := ⟨_, rfl⟩
          have hxsn : x.sn = nextP s3 := HXA2.out.2.2.2
          have hfi := sfinish_any HA11.out.drew hheld hol hf1 x.sn false false false 0 x.s x.e Ap x.ps.length cp vl9 x.ps (fun w' hk => HO11.out.drew.slsK HA11.out.drew.lt hk) (validA_whole HOK.out) (by omega) b
          rw [hxsn] at hfi
          have hfi2 : Calls Tryz.prog 36 #[.pointer (some ⟨g, 0, none⟩), .agg #[.int .i64 (nextP s3 : Nat), .bool false, .bool false, .bool false, .int .i64 0, .bool x.s, .bool x.e, .slice Ap x.ps.length cp], .bool b] w11.drew (FinOut w11.drew D9 F9 g c (finishP c (addO s3 x) b).1 (encA (nextP s3) (finishP c (addO s3 x) b).2 false false 0 x.s x.e x.ps)) := hfi
          have HFI := Lib.hid hfi2
          have hne9 : w.heap.size ≠ g := fun e => HBE11.out.off HA11.out.blk (by decide) e
          have hzz := HK3.out.size
          have hbD9 : ¬ D9 w.heap.size := fun hd => by
            rcases HD9.out _ hd with e | e
            · rcases HD3.out _ e with e | e
              · exact hDn e
              · omega
            · omega
          have y0 := HA11.out.blk.cell 0
          have y1 := HA11.out.blk.cell 1
          have y13 := HA11.out.blk.cell 13
          have y14 := HA11.out.blk.cell 14
          simp [sndC, addO] at y0 y1 y13 y14
          obtain ⟨p0, p7, p8, p9, p10, p11⟩ := HO11.out.cells
          obtain ⟨p1, p2, p3, p4, p5, p6⟩ := (show w11.cell? ⟨p, 1, none⟩ = some (.bool false) ∧ w11.cell? ⟨p, 2, none⟩ = some (.bool false) ∧ w11.cell? ⟨p, 3, none⟩ = some (.bool false) ∧ w11.cell? ⟨p, 4, none⟩ = some (.int .i64 0) ∧ w11.cell? ⟨p, 5, none⟩ = some (.bool x.s) ∧ w11.cell? ⟨p, 6, none⟩ = some (.bool x.e) from
            ⟨HO11.out.blk.cell 1, HO11.out.blk.cell 2, HO11.out.blk.cell 3, HO11.out.blk.cell 4, HO11.out.blk.cell 5, HO11.out.blk.cell 6⟩)
          rw [hxsn] at p0
          have HB := Lib.hid hb
          have HHD := Lib.hid hheld
          clear hfi hfi2 hheld hol hf1 hxsn hb hsmm hhe p8 p9 p10 p11
          go_cut [6] from 93 to 136 (fun s6 wx => ∃ W', wx = W'.setCell ⟨w.heap.size, 0, none⟩ (.int .i64 0) ∧ W'.ownsRow w11.heap.size 5 1 s6 (encA (nextP s3) (finishP c (addO s3 x) b).2 false false 0 x.s x.e x.ps).length (bvs (encA (nextP s3) (finishP c (addO s3 x) b).2 false false 0 x.s x.e x.ps)) ∧ AmO w11.drew D9 F9 g c (finishP c (addO s3 x) b).1 W')
          case first =>
            have hbb := HB.out
            unfold pollsNow at hbb
            have e1 : ((addO s3 x).pdus : Int) = (s3.pdus : Int) + 1 := by simp [addO]
            have e2 : ((addO s3 x).bytes : Int) = (s3.bytes : Int) + (sizeO x : Nat) := by simp [addO]
            rw [e1, e2] at hbb
            clear e1 e2
            have HBE := Lib.hid HBE11.out
            have HBD := Lib.hid hbD9
            clear HA11 HO11 HK11 HBE11 HA10 HO10 HK10 HBE10 HA9 HD9 HF9 HK9 HO9 HBE9 HGG HXA2 HBEW HBW HBP2 HPOW HA7 hbx HB5 HKB HBE5 HBC5 HA5 HK5 HPO6 HRR HOK HSM hb56 hz5 HNX HSZ HS HVL1 HVL2 HXS HX HXA HCOK HCSM HPO5 HSB HFR HCHK HGB HA3 HI3 HB3 HPN HK3 HD3 HF3 HKK3 HRr HBE3 HKK HBE2 HEX HR HF HBT HI1 HT HB1 HGO HH HCH HB HHD
            have hHeld := (show w11.drew.cell? ⟨g, 0, none⟩ = some (.int .i64 c.pdu) ∧ w11.drew.cell? ⟨g, 1, none⟩ = some (.int .i64 c.byte) ∧ w11.drew.cell? ⟨g, 13, none⟩ = some (.int .i64 ((s3.pdus : Int) + 1)) ∧ w11.drew.cell? ⟨g, 14, none⟩ = some (.int .i64 ((s3.bytes : Int) + (sizeO x : Nat))) ∧ w11.drew.cell? ⟨p, 0, none⟩ = some (.int .i64 (nextP s3 : Nat)) ∧ w11.drew.cell? ⟨p, 1, none⟩ = some (.bool false) ∧ w11.drew.cell? ⟨p, 2, none⟩ = some (.bool false) ∧ w11.drew.cell? ⟨p, 3, none⟩ = some (.bool false) ∧ w11.drew.cell? ⟨p, 4, none⟩ = some (.int .i64 0) ∧ w11.drew.cell? ⟨p, 5, none⟩ = some (.bool x.s) ∧ w11.drew.cell? ⟨p, 6, none⟩ = some (.bool x.e) ∧ w11.drew.cell? ⟨p, 7, none⟩ = some (.slice Ap x.ps.length cp) from ⟨y0, y1, y13, y14, p0, p1, p2, p3, p4, p5, p6, p7⟩)
            clear y0 y1 y13 y14 p0 p1 p2 p3 p4 p5 p6 p7
            obtain ⟨bA, d1⟩ : ∃ q, decide (0 < c.pdu) = q := ⟨_, rfl⟩
            obtain ⟨bE, d2⟩ : ∃ q, decide (c.pdu ≤ (s3.pdus : Int) + 1) = q := ⟨_, rfl⟩
            obtain ⟨bB, d3⟩ : ∃ q, decide (0 < c.byte) = q := ⟨_, rfl⟩
            obtain ⟨bC, d4⟩ : ∃ q, decide (c.byte ≤ (s3.bytes : Int) + (sizeO x : Nat)) = q := ⟨_, rfl⟩
            rw [d1, d2, d3, d4] at hbb
            obtain ⟨pq, hpq⟩ : ∃ q, (bA && bE) = q := ⟨_, rfl⟩
            obtain ⟨q2, hq2⟩ : ∃ q, (bB && bC) = q := ⟨_, rfl⟩
            rw [hpq, hq2] at hbb
            have HPQ := Lib.hid hpq
            have HQ2 := Lib.hid hq2
            have HBB2 := Lib.hid hbb
            clear hpq hq2 hbb
            refine wp_region_noPanic ?_
            refine wp_region_E (fun w' => w'.cell? ⟨g, 0, none⟩ = some (.int .i64 c.pdu) ∧ w'.cell? ⟨g, 1, none⟩ = some (.int .i64 c.byte) ∧ w'.cell? ⟨g, 13, none⟩ = some (.int .i64 ((s3.pdus : Int) + 1)) ∧ w'.cell? ⟨g, 14, none⟩ = some (.int .i64 ((s3.bytes : Int) + (sizeO x : Nat))) ∧ w'.cell? ⟨p, 0, none⟩ = some (.int .i64 (nextP s3 : Nat)) ∧ w'.cell? ⟨p, 1, none⟩ = some (.bool false) ∧ w'.cell? ⟨p, 2, none⟩ = some (.bool false) ∧ w'.cell? ⟨p, 3, none⟩ = some (.bool false) ∧ w'.cell? ⟨p, 4, none⟩ = some (.int .i64 0) ∧ w'.cell? ⟨p, 5, none⟩ = some (.bool x.s) ∧ w'.cell? ⟨p, 6, none⟩ = some (.bool x.e) ∧ w'.cell? ⟨p, 7, none⟩ = some (.slice Ap x.ps.length cp)) [43] (by kernel_rfl) ?_
            refine wpAnyE_takeY (i := 0) (v := ?_) rfl (by kernel_rfl) (by kernel_rfl) (by kernel_rfl) (by kernel_rfl) (fun _ _ _ h => h) (Or.inl ⟨by rfl, ?_⟩) hHeld ?_
            rotate_left
            · intro w' hSw
              go_simp
              try with_reducible rfl
            try simp only [Act.put, List.getElem_toArray, List.getElem_cons_zero, List.setIfInBounds_toArray, List.set_cons_zero, List.set_cons_succ]
            refine wpAnyE_takeY (i := 1) (v := ?_) rfl (by kernel_rfl) (by kernel_rfl) (by kernel_rfl) (by kernel_rfl) (fun _ _ _ h => h) (Or.inl ⟨by rfl, ?_⟩) hHeld ?_
            rotate_left
            · intro w' hSw
              go_simp
              try with_reducible rfl
            try simp only [Act.put, List.getElem_toArray, List.getElem_cons_zero, List.getElem_cons_succ, List.setIfInBounds_toArray, List.set_cons_zero, List.set_cons_succ]
            refine wpAnyE_takeY (i := 2) (v := ?_) rfl (by kernel_rfl) (by kernel_rfl) (by kernel_rfl) (by kernel_rfl) (fun _ _ _ h => h) (Or.inl ⟨by rfl, ?_⟩) hHeld ?_
            rotate_left
            · intro w' hSw
              go_simp
              try with_reducible rfl
            try simp only [Act.put, List.getElem_toArray, List.getElem_cons_zero, List.getElem_cons_succ, List.setIfInBounds_toArray, List.set_cons_zero, List.set_cons_succ]
            refine wpAnyE_takeY (i := 3) (v := ?_) rfl (by kernel_rfl) (by kernel_rfl) (by kernel_rfl) (by kernel_rfl) (fun _ _ _ h => h) (Or.inl ⟨by rfl, ?_⟩) hHeld ?_
            rotate_left
            · intro w' hSw
              go_simp
              try with_reducible rfl
            try simp only [Act.put, List.getElem_toArray, List.getElem_cons_zero, List.getElem_cons_succ, List.setIfInBounds_toArray, List.set_cons_zero, List.set_cons_succ]
            refine wpAnyE_take [43] (i := 4) (v := ?_) rfl (by kernel_rfl) (by kernel_rfl) (by kernel_rfl) (by kernel_rfl) (fun _ _ _ h => h) (Or.inl ⟨by rfl, ?_⟩) hHeld ?_
            rotate_left
            · intro w' hSw
              obtain ⟨hS1, hS2, hS3, hS4, hS5, hS6, hS7, hS8, hS9, hS10, hS11, hS12⟩ := hSw
              go_simp
              try with_reducible rfl
            try simp only [Act.put, List.getElem_toArray, List.getElem_cons_zero, List.getElem_cons_succ, List.setIfInBounds_toArray, List.set_cons_zero, List.set_cons_succ]
            refine wpAnyE_takeY (i := 5) (v := ?_) rfl (by kernel_rfl) (by kernel_rfl) (by kernel_rfl) (by kernel_rfl) (fun _ _ _ h => h) (Or.inl ⟨by rfl, ?_⟩) hHeld ?_
            rotate_left
            · intro w' hSw
              go_simp
              try with_reducible rfl
            try simp only [Act.put, List.getElem_toArray, List.getElem_cons_zero, List.getElem_cons_succ, List.setIfInBounds_toArray, List.set_cons_zero, List.set_cons_succ]
            refine wpAnyE_takeY (i := 6) (v := ?_) rfl (by kernel_rfl) (by kernel_rfl) (by kernel_rfl) (by kernel_rfl) (fun _ _ _ h => h) (Or.inl ⟨by rfl, ?_⟩) hHeld ?_
            rotate_left
            · intro w' hSw
              go_simp
              try with_reducible rfl
            try simp only [Act.put, List.getElem_toArray, List.getElem_cons_zero, List.getElem_cons_succ, List.setIfInBounds_toArray, List.set_cons_zero, List.set_cons_succ]
            refine wpAnyE_takeY (i := 7) (v := ?_) rfl (by kernel_rfl) (by kernel_rfl) (by kernel_rfl) (by kernel_rfl) (fun _ _ _ h => h) (Or.inl ⟨by rfl, ?_⟩) hHeld ?_
            rotate_left
            · intro w' hSw
              go_simp
              try with_reducible rfl
            try simp only [Act.put, List.getElem_toArray, List.getElem_cons_zero, List.getElem_cons_succ, List.setIfInBounds_toArray, List.set_cons_zero, List.set_cons_succ]
            refine wpAnyE_takeY (i := 8) (v := ?_) rfl (by kernel_rfl) (by kernel_rfl) (by kernel_rfl) (by kernel_rfl) (fun _ _ _ h => h) (Or.inl ⟨by rfl, ?_⟩) hHeld ?_
            rotate_left
            · intro w' hSw
              go_simp
              try with_reducible rfl
            try simp only [Act.put, List.getElem_toArray, List.getElem_cons_zero, List.getElem_cons_succ, List.setIfInBounds_toArray, List.set_cons_zero, List.set_cons_succ]
            refine wpAnyE_take [43, 42, 23, 22, 11, 10] (i := 9) (v := ?_) rfl (by kernel_rfl) (by kernel_rfl) (by kernel_rfl) (by kernel_rfl) (fun _ _ _ h => h) (Or.inl ⟨by rfl, ?_⟩) hHeld ?_
            rotate_left
            · intro w' hSw
              obtain ⟨hS1, hS2, hS3, hS4, hS5, hS6, hS7, hS8, hS9, hS10, hS11, hS12⟩ := hSw
              go_simp
              try with_reducible rfl
            try simp only [Act.put, List.getElem_toArray, List.getElem_cons_zero, List.getElem_cons_succ, List.setIfInBounds_toArray, List.set_cons_zero, List.set_cons_succ]
            refine wpAnyE_takeY (i := 10) (v := .bool bA) rfl (by kernel_rfl) (by kernel_rfl) (by kernel_rfl) (by kernel_rfl) (fun _ _ _ h => h) (Or.inl ⟨by rfl, ?_⟩) hHeld ?_
            · intro w' hSw
              go_simp
              try with_reducible rfl
            try simp only [Act.put, List.getElem_toArray, List.getElem_cons_zero, List.getElem_cons_succ, List.setIfInBounds_toArray, List.set_cons_zero, List.set_cons_succ]
            refine wpAnyE_takeY (i := 11) (v := ?_) rfl (by kernel_rfl) (by kernel_rfl) (by kernel_rfl) (by kernel_rfl) (fun _ _ _ h => h) (Or.inl ⟨by rfl, ?_⟩) hHeld ?_
            rotate_left
            · intro w' hSw
              go_simp
              try with_reducible rfl
            try simp only [Act.put, List.getElem_toArray, List.getElem_cons_zero, List.getElem_cons_succ, List.setIfInBounds_toArray, List.set_cons_zero, List.set_cons_succ]
            refine wpAnyE_takeY (i := 12) (v := cond bA (.pointer (some ⟨g, 0, none⟩)) undef) rfl (by kernel_rfl) (by kernel_rfl) (by kernel_rfl) (by kernel_rfl) (fun _ _ _ h => h) (YieldsIf.guard bA (fun hb => ?_) (fun hb => ?_)) hHeld ?_
            · subst hb
              refine Or.inl ⟨by rfl, ?_⟩
              intro w' hSw
              try simp only [cond_true]
              go_simp
              try with_reducible rfl
            · subst hb; rfl
            try simp only [Act.put, List.getElem_toArray, List.getElem_cons_zero, List.getElem_cons_succ, List.setIfInBounds_toArray, List.set_cons_zero, List.set_cons_succ]
            refine wpAnyE_takeY (i := 13) (v := cond bA (.pointer (some ⟨g, 0, none⟩)) undef) rfl (by kernel_rfl) (by kernel_rfl) (by kernel_rfl) (by kernel_rfl) (fun _ _ _ h => h) (YieldsIf.guard bA (fun hb => ?_) (fun hb => ?_)) hHeld ?_
            · subst hb
              refine Or.inl ⟨by rfl, ?_⟩
              intro w' hSw
              try simp only [cond_true]
              go_simp
              try with_reducible rfl
            · subst hb; rfl
            try simp only [Act.put, List.getElem_toArray, List.getElem_cons_zero, List.getElem_cons_succ, List.setIfInBounds_toArray, List.set_cons_zero, List.set_cons_succ]
            refine wpAnyE_takeY (i := 14) (v := cond bA (.pointer (some ⟨g, 13, none⟩)) undef) rfl (by kernel_rfl) (by kernel_rfl) (by kernel_rfl) (by kernel_rfl) (fun _ _ _ h => h) (YieldsIf.guard bA (fun hb => ?_) (fun hb => ?_)) hHeld ?_
            · subst hb
              refine Or.inl ⟨by rfl, ?_⟩
              intro w' hSw
              try simp only [cond_true]
              go_simp
              try with_reducible rfl
            · subst hb; rfl
            try simp only [Act.put, List.getElem_toArray, List.getElem_cons_zero, List.getElem_cons_succ, List.setIfInBounds_toArray, List.set_cons_zero, List.set_cons_succ]
            refine wpAnyE_take [43, 42, 23, 22, 21] (i := 15) (v := cond bA (.int .i64 ((s3.pdus : Int) + 1)) undef) rfl (by kernel_rfl) (by kernel_rfl) (by kernel_rfl) (by kernel_rfl) (fun _ _ _ h => h) (YieldsIf.guard bA (fun hb => ?_) (fun hb => ?_)) hHeld ?_
            · subst hb
              refine Or.inl ⟨by rfl, ?_⟩
              intro w' hSw
              obtain ⟨hS1, hS2, hS3, hS4, hS5, hS6, hS7, hS8, hS9, hS10, hS11, hS12⟩ := hSw
              try simp only [cond_true]
              go_simp
              try with_reducible rfl
            · subst hb; rfl
            try simp only [Act.put, List.getElem_toArray, List.getElem_cons_zero, List.getElem_cons_succ, List.setIfInBounds_toArray, List.set_cons_zero, List.set_cons_succ]
            refine wpAnyE_takeY (i := 16) (v := cond bA (.pointer (some ⟨g, 0, none⟩)) undef) rfl (by kernel_rfl) (by kernel_rfl) (by kernel_rfl) (by kernel_rfl) (fun _ _ _ h => h) (YieldsIf.guard bA (fun hb => ?_) (fun hb => ?_)) hHeld ?_
            · subst hb
              refine Or.inl ⟨by rfl, ?_⟩
              intro w' hSw
              try simp only [cond_true]
              go_simp
              try with_reducible rfl
            · subst hb; rfl
            try simp only [Act.put, List.getElem_toArray, List.getElem_cons_zero, List.getElem_cons_succ, List.setIfInBounds_toArray, List.set_cons_zero, List.set_cons_succ]
            refine wpAnyE_takeY (i := 17) (v := cond bA (.pointer (some ⟨g, 0, none⟩)) undef) rfl (by kernel_rfl) (by kernel_rfl) (by kernel_rfl) (by kernel_rfl) (fun _ _ _ h => h) (YieldsIf.guard bA (fun hb => ?_) (fun hb => ?_)) hHeld ?_
            · subst hb
              refine Or.inl ⟨by rfl, ?_⟩
              intro w' hSw
              try simp only [cond_true]
              go_simp
              try with_reducible rfl
            · subst hb; rfl
            try simp only [Act.put, List.getElem_toArray, List.getElem_cons_zero, List.getElem_cons_succ, List.setIfInBounds_toArray, List.set_cons_zero, List.set_cons_succ]
            refine wpAnyE_takeY (i := 18) (v := cond bA (.pointer (some ⟨g, 0, none⟩)) undef) rfl (by kernel_rfl) (by kernel_rfl) (by kernel_rfl) (by kernel_rfl) (fun _ _ _ h => h) (YieldsIf.guard bA (fun hb => ?_) (fun hb => ?_)) hHeld ?_
            · subst hb
              refine Or.inl ⟨by rfl, ?_⟩
              intro w' hSw
              try simp only [cond_true]
              go_simp
              try with_reducible rfl
            · subst hb; rfl
            try simp only [Act.put, List.getElem_toArray, List.getElem_cons_zero, List.getElem_cons_succ, List.setIfInBounds_toArray, List.set_cons_zero, List.set_cons_succ]
            refine wpAnyE_takeY (i := 19) (v := cond bA (.pointer (some ⟨g, 0, none⟩)) undef) rfl (by kernel_rfl) (by kernel_rfl) (by kernel_rfl) (by kernel_rfl) (fun _ _ _ h => h) (YieldsIf.guard bA (fun hb => ?_) (fun hb => ?_)) hHeld ?_
            · subst hb
              refine Or.inl ⟨by rfl, ?_⟩
              intro w' hSw
              try simp only [cond_true]
              go_simp
              try with_reducible rfl
            · subst hb; rfl
            try simp only [Act.put, List.getElem_toArray, List.getElem_cons_zero, List.getElem_cons_succ, List.setIfInBounds_toArray, List.set_cons_zero, List.set_cons_succ]
            refine wpAnyE_take [43, 42, 23, 22, 21] (i := 20) (v := cond bA (.int .i64 c.pdu) undef) rfl (by kernel_rfl) (by kernel_rfl) (by kernel_rfl) (by kernel_rfl) (fun _ _ _ h => h) (YieldsIf.guard bA (fun hb => ?_) (fun hb => ?_)) hHeld ?_
            · subst hb
              refine Or.inl ⟨by rfl, ?_⟩
              intro w' hSw
              obtain ⟨hS1, hS2, hS3, hS4, hS5, hS6, hS7, hS8, hS9, hS10, hS11, hS12⟩ := hSw
              try simp only [cond_true]
              go_simp
              try with_reducible rfl
            · subst hb; rfl
            try simp only [Act.put, List.getElem_toArray, List.getElem_cons_zero, List.getElem_cons_succ, List.setIfInBounds_toArray, List.set_cons_zero, List.set_cons_succ]
            refine wpAnyE_takeY (i := 21) (v := cond bA (.bool bE) undef) rfl (by kernel_rfl) (by kernel_rfl) (by kernel_rfl) (by kernel_rfl) (fun _ _ _ h => h) (YieldsIf.guard bA (fun hb => ?_) (fun hb => ?_)) hHeld ?_
            · subst hb
              refine Or.inl ⟨by rfl, ?_⟩
              intro w' hSw
              try simp only [cond_true]
              go_simp
              try with_reducible rfl
            · subst hb; rfl
            try simp only [Act.put, List.getElem_toArray, List.getElem_cons_zero, List.getElem_cons_succ, List.setIfInBounds_toArray, List.set_cons_zero, List.set_cons_succ]
            refine wpAnyE_takeY (i := 22) (v := .bool pq) rfl (by kernel_rfl) (by kernel_rfl) (by kernel_rfl) (by kernel_rfl) (fun _ _ _ h => h) (Or.inl ⟨by rfl, ?_⟩) hHeld ?_
            · intro w' hSw
              have hq := HPQ.out
              cases bA with
              | false =>
                have hq' : pq = false := by rw [← hq]; rfl
                subst hq'
                clear hq
                simp only [cond_false]
                go_simp
              | true =>
                have hq' : bE = pq := by rw [← hq]; rfl
                subst hq'
                clear hq
                simp only [cond_true]
                go_simp
            try simp only [Act.put, List.getElem_toArray, List.getElem_cons_zero, List.getElem_cons_succ, List.setIfInBounds_toArray, List.set_cons_zero, List.set_cons_succ]
            refine wpAnyE_takeY (i := 23) (v := ?_) rfl (by kernel_rfl) (by kernel_rfl) (by kernel_rfl) (by kernel_rfl) (fun _ _ _ h => h) (Or.inl ⟨by rfl, ?_⟩) hHeld ?_
            rotate_left
            · intro w' hSw
              go_simp
              try with_reducible rfl
            try simp only [Act.put, List.getElem_toArray, List.getElem_cons_zero, List.getElem_cons_succ, List.setIfInBounds_toArray, List.set_cons_zero, List.set_cons_succ]
            refine wpAnyE_takeY (i := 24) (v := cond (!pq) (.pointer (some ⟨g, 0, none⟩)) undef) rfl (by kernel_rfl) (by kernel_rfl) (by kernel_rfl) (by kernel_rfl) (fun _ _ _ h => h) (YieldsIf.guard (!pq) (fun hb => ?_) (fun hb => ?_)) hHeld ?_
            · have hb1 : pq = false := by simpa using hb
              subst hb1
              refine Or.inl ⟨by rfl, ?_⟩
              intro w' hSw
              try simp only [Bool.not_false, cond_true]
              go_simp
              try with_reducible rfl
            · have hb1 : pq = true := by simpa using hb
              subst hb1; rfl
            try simp only [Act.put, List.getElem_toArray, List.getElem_cons_zero, List.getElem_cons_succ, List.setIfInBounds_toArray, List.set_cons_zero, List.set_cons_succ]
            refine wpAnyE_takeY (i := 25) (v := cond (!pq) (.pointer (some ⟨g, 0, none⟩)) undef) rfl (by kernel_rfl) (by kernel_rfl) (by kernel_rfl) (by kernel_rfl) (fun _ _ _ h => h) (YieldsIf.guard (!pq) (fun hb => ?_) (fun hb => ?_)) hHeld ?_
            · have hb1 : pq = false := by simpa using hb
              subst hb1
              refine Or.inl ⟨by rfl, ?_⟩
              intro w' hSw
              try simp only [Bool.not_false, cond_true]
              go_simp
              try with_reducible rfl
            · have hb1 : pq = true := by simpa using hb
              subst hb1; rfl
            try simp only [Act.put, List.getElem_toArray, List.getElem_cons_zero, List.getElem_cons_succ, List.setIfInBounds_toArray, List.set_cons_zero, List.set_cons_succ]
            refine wpAnyE_takeY (i := 26) (v := cond (!pq) (.pointer (some ⟨g, 0, none⟩)) undef) rfl (by kernel_rfl) (by kernel_rfl) (by kernel_rfl) (by kernel_rfl) (fun _ _ _ h => h) (YieldsIf.guard (!pq) (fun hb => ?_) (fun hb => ?_)) hHeld ?_
            · have hb1 : pq = false := by simpa using hb
              subst hb1
              refine Or.inl ⟨by rfl, ?_⟩
              intro w' hSw
              try simp only [Bool.not_false, cond_true]
              go_simp
              try with_reducible rfl
            · have hb1 : pq = true := by simpa using hb
              subst hb1; rfl
            try simp only [Act.put, List.getElem_toArray, List.getElem_cons_zero, List.getElem_cons_succ, List.setIfInBounds_toArray, List.set_cons_zero, List.set_cons_succ]
            refine wpAnyE_takeY (i := 27) (v := cond (!pq) (.pointer (some ⟨g, 1, none⟩)) undef) rfl (by kernel_rfl) (by kernel_rfl) (by kernel_rfl) (by kernel_rfl) (fun _ _ _ h => h) (YieldsIf.guard (!pq) (fun hb => ?_) (fun hb => ?_)) hHeld ?_
            · have hb1 : pq = false := by simpa using hb
              subst hb1
              refine Or.inl ⟨by rfl, ?_⟩
              intro w' hSw
              try simp only [Bool.not_false, cond_true]
              go_simp
              try with_reducible rfl
            · have hb1 : pq = true := by simpa using hb
              subst hb1; rfl
            try simp only [Act.put, List.getElem_toArray, List.getElem_cons_zero, List.getElem_cons_succ, List.setIfInBounds_toArray, List.set_cons_zero, List.set_cons_succ]
            refine wpAnyE_take [43, 42, 41, 30, 29] (i := 28) (v := cond (!pq) (.int .i64 c.byte) undef) rfl (by kernel_rfl) (by kernel_rfl) (by kernel_rfl) (by kernel_rfl) (fun _ _ _ h => h) (YieldsIf.guard (!pq) (fun hb => ?_) (fun hb => ?_)) hHeld ?_
            · have hb1 : pq = false := by simpa using hb
              subst hb1
              refine Or.inl ⟨by rfl, ?_⟩
              intro w' hSw
              obtain ⟨hS1, hS2, hS3, hS4, hS5, hS6, hS7, hS8, hS9, hS10, hS11, hS12⟩ := hSw
              try simp only [Bool.not_false, cond_true]
              go_simp
              try with_reducible rfl
            · have hb1 : pq = true := by simpa using hb
              subst hb1; rfl
            try simp only [Act.put, List.getElem_toArray, List.getElem_cons_zero, List.getElem_cons_succ, List.setIfInBounds_toArray, List.set_cons_zero, List.set_cons_succ]
            refine wpAnyE_takeY (i := 29) (v := cond (!pq) (.bool bB) undef) rfl (by kernel_rfl) (by kernel_rfl) (by kernel_rfl) (by kernel_rfl) (fun _ _ _ h => h) (YieldsIf.guard (!pq) (fun hb => ?_) (fun hb => ?_)) hHeld ?_
            · have hb1 : pq = false := by simpa using hb
              subst hb1
              refine Or.inl ⟨by rfl, ?_⟩
              intro w' hSw
              try simp only [Bool.not_false, cond_true]
              go_simp
              try with_reducible rfl
            · have hb1 : pq = true := by simpa using hb
              subst hb1; rfl
            try simp only [Act.put, List.getElem_toArray, List.getElem_cons_zero, List.getElem_cons_succ, List.setIfInBounds_toArray, List.set_cons_zero, List.set_cons_succ]
            refine wpAnyE_takeY (i := 30) (v := cond (!pq) (.bool bB) undef) rfl (by kernel_rfl) (by kernel_rfl) (by kernel_rfl) (by kernel_rfl) (fun _ _ _ h => h) (YieldsIf.guard (!pq) (fun hb => ?_) (fun hb => ?_)) hHeld ?_
            · have hb1 : pq = false := by simpa using hb
              subst hb1
              refine Or.inl ⟨by rfl, ?_⟩
              intro w' hSw
              try simp only [Bool.not_false, cond_true]
              go_simp
              try with_reducible rfl
            · have hb1 : pq = true := by simpa using hb
              subst hb1; rfl
            try simp only [Act.put, List.getElem_toArray, List.getElem_cons_zero, List.getElem_cons_succ, List.setIfInBounds_toArray, List.set_cons_zero, List.set_cons_succ]
            refine wpAnyE_takeY (i := 31) (v := cond (!pq && bB) (.pointer (some ⟨g, 0, none⟩)) undef) rfl (by kernel_rfl) (by kernel_rfl) (by kernel_rfl) (by kernel_rfl) (fun _ _ _ h => h) (YieldsIf.guard (!pq && bB) (fun hb => ?_) (fun hb => ?_)) hHeld ?_
            · obtain ⟨hb1, rfl⟩ : pq = false ∧ bB = true := by simpa using hb
              subst hb1
              refine Or.inl ⟨by rfl, ?_⟩
              intro w' hSw
              try simp only [Bool.not_false, cond_true]
              go_simp
              try with_reducible rfl
            · cases pq <;> cases bB <;> first | rfl | (cases hb)
            try simp only [Act.put, List.getElem_toArray, List.getElem_cons_zero, List.getElem_cons_succ, List.setIfInBounds_toArray, List.set_cons_zero, List.set_cons_succ]
            refine wpAnyE_takeY (i := 32) (v := cond (!pq && bB) (.pointer (some ⟨g, 0, none⟩)) undef) rfl (by kernel_rfl) (by kernel_rfl) (by kernel_rfl) (by kernel_rfl) (fun _ _ _ h => h) (YieldsIf.guard (!pq && bB) (fun hb => ?_) (fun hb => ?_)) hHeld ?_
            · obtain ⟨hb1, rfl⟩ : pq = false ∧ bB = true := by simpa using hb
              subst hb1
              refine Or.inl ⟨by rfl, ?_⟩
              intro w' hSw
              try simp only [Bool.not_false, Bool.and_self, cond_true]
              go_simp
              try with_reducible rfl
            · cases pq <;> cases bB <;> first | rfl | (cases hb)
            try simp only [Act.put, List.getElem_toArray, List.getElem_cons_zero, List.getElem_cons_succ, List.setIfInBounds_toArray, List.set_cons_zero, List.set_cons_succ]
            refine wpAnyE_takeY (i := 33) (v := cond (!pq && bB) (.pointer (some ⟨g, 14, none⟩)) undef) rfl (by kernel_rfl) (by kernel_rfl) (by kernel_rfl) (by kernel_rfl) (fun _ _ _ h => h) (YieldsIf.guard (!pq && bB) (fun hb => ?_) (fun hb => ?_)) hHeld ?_
            · obtain ⟨hb1, rfl⟩ : pq = false ∧ bB = true := by simpa using hb
              subst hb1
              refine Or.inl ⟨by rfl, ?_⟩
              intro w' hSw
              try simp only [Bool.not_false, Bool.and_self, cond_true]
              go_simp
              try with_reducible rfl
            · cases pq <;> cases bB <;> first | rfl | (cases hb)
            try simp only [Act.put, List.getElem_toArray, List.getElem_cons_zero, List.getElem_cons_succ, List.setIfInBounds_toArray, List.set_cons_zero, List.set_cons_succ]
            refine wpAnyE_take [43, 42, 41, 40] (i := 34) (v := cond (!pq && bB) (.int .i64 ((s3.bytes : Int) + (sizeO x : Nat))) undef) rfl (by kernel_rfl) (by kernel_rfl) (by kernel_rfl) (by kernel_rfl) (fun _ _ _ h => h) (YieldsIf.guard (!pq && bB) (fun hb => ?_) (fun hb => ?_)) hHeld ?_
            · obtain ⟨hb1, rfl⟩ : pq = false ∧ bB = true := by simpa using hb
              subst hb1
              refine Or.inl ⟨by rfl, ?_⟩
              intro w' hSw
              obtain ⟨hS1, hS2, hS3, hS4, hS5, hS6, hS7, hS8, hS9, hS10, hS11, hS12⟩ := hSw
              try simp only [Bool.not_false, Bool.and_self, cond_true]
              go_simp
              try with_reducible rfl
            · cases pq <;> cases bB <;> first | rfl | (cases hb)
            try simp only [Act.put, List.getElem_toArray, List.getElem_cons_zero, List.getElem_cons_succ, List.setIfInBounds_toArray, List.set_cons_zero, List.set_cons_succ]
            refine wpAnyE_takeY (i := 35) (v := cond (!pq && bB) (.pointer (some ⟨g, 0, none⟩)) undef) rfl (by kernel_rfl) (by kernel_rfl) (by kernel_rfl) (by kernel_rfl) (fun _ _ _ h => h) (YieldsIf.guard (!pq && bB) (fun hb => ?_) (fun hb => ?_)) hHeld ?_
            · obtain ⟨hb1, rfl⟩ : pq = false ∧ bB = true := by simpa using hb
              subst hb1
              refine Or.inl ⟨by rfl, ?_⟩
              intro w' hSw
              try simp only [Bool.not_false, Bool.and_self, cond_true]
              go_simp
              try with_reducible rfl
            · cases pq <;> cases bB <;> first | rfl | (cases hb)
            try simp only [Act.put, List.getElem_toArray, List.getElem_cons_zero, List.getElem_cons_succ, List.setIfInBounds_toArray, List.set_cons_zero, List.set_cons_succ]
            refine wpAnyE_takeY (i := 36) (v := cond (!pq && bB) (.pointer (some ⟨g, 0, none⟩)) undef) rfl (by kernel_rfl) (by kernel_rfl) (by kernel_rfl) (by kernel_rfl) (fun _ _ _ h => h) (YieldsIf.guard (!pq && bB) (fun hb => ?_) (fun hb => ?_)) hHeld ?_
            · obtain ⟨hb1, rfl⟩ : pq = false ∧ bB = true := by simpa using hb
              subst hb1
              refine Or.inl ⟨by rfl, ?_⟩
              intro w' hSw
              try simp only [Bool.not_false, Bool.and_self, cond_true]
              go_simp
              try with_reducible rfl
            · cases pq <;> cases bB <;> first | rfl | (cases hb)
            try simp only [Act.put, List.getElem_toArray, List.getElem_cons_zero, List.getElem_cons_succ, List.setIfInBounds_toArray, List.set_cons_zero, List.set_cons_succ]
            refine wpAnyE_takeY (i := 37) (v := cond (!pq && bB) (.pointer (some ⟨g, 0, none⟩)) undef) rfl (by kernel_rfl) (by kernel_rfl) (by kernel_rfl) (by kernel_rfl) (fun _ _ _ h => h) (YieldsIf.guard (!pq && bB) (fun hb => ?_) (fun hb => ?_)) hHeld ?_
            · obtain ⟨hb1, rfl⟩ : pq = false ∧ bB = true := by simpa using hb
              subst hb1
              refine Or.inl ⟨by rfl, ?_⟩
              intro w' hSw
              try simp only [Bool.not_false, Bool.and_self, cond_true]
              go_simp
              try with_reducible rfl
            · cases pq <;> cases bB <;> first | rfl | (cases hb)
            try simp only [Act.put, List.getElem_toArray, List.getElem_cons_zero, List.getElem_cons_succ, List.setIfInBounds_toArray, List.set_cons_zero, List.set_cons_succ]
            refine wpAnyE_takeY (i := 38) (v := cond (!pq && bB) (.pointer (some ⟨g, 1, none⟩)) undef) rfl (by kernel_rfl) (by kernel_rfl) (by kernel_rfl) (by kernel_rfl) (fun _ _ _ h => h) (YieldsIf.guard (!pq && bB) (fun hb => ?_) (fun hb => ?_)) hHeld ?_
            · obtain ⟨hb1, rfl⟩ : pq = false ∧ bB = true := by simpa using hb
              subst hb1
              refine Or.inl ⟨by rfl, ?_⟩
              intro w' hSw
              try simp only [Bool.not_false, Bool.and_self, cond_true]
              go_simp
              try with_reducible rfl
            · cases pq <;> cases bB <;> first | rfl | (cases hb)
            try simp only [Act.put, List.getElem_toArray, List.getElem_cons_zero, List.getElem_cons_succ, List.setIfInBounds_toArray, List.set_cons_zero, List.set_cons_succ]
            refine wpAnyE_take [43, 42, 41, 40] (i := 39) (v := cond (!pq && bB) (.int .i64 c.byte) undef) rfl (by kernel_rfl) (by kernel_rfl) (by kernel_rfl) (by kernel_rfl) (fun _ _ _ h => h) (YieldsIf.guard (!pq && bB) (fun hb => ?_) (fun hb => ?_)) hHeld ?_
            · obtain ⟨hb1, rfl⟩ : pq = false ∧ bB = true := by simpa using hb
              subst hb1
              refine Or.inl ⟨by rfl, ?_⟩
              intro w' hSw
              obtain ⟨hS1, hS2, hS3, hS4, hS5, hS6, hS7, hS8, hS9, hS10, hS11, hS12⟩ := hSw
              try simp only [Bool.not_false, Bool.and_self, cond_true]
              go_simp
              try with_reducible rfl
            · cases pq <;> cases bB <;> first | rfl | (cases hb)
            try simp only [Act.put, List.getElem_toArray, List.getElem_cons_zero, List.getElem_cons_succ, List.setIfInBounds_toArray, List.set_cons_zero, List.set_cons_succ]
            refine wpAnyE_takeY (i := 40) (v := cond (!pq && bB) (.bool bC) undef) rfl (by kernel_rfl) (by kernel_rfl) (by kernel_rfl) (by kernel_rfl) (fun _ _ _ h => h) (YieldsIf.guard (!pq && bB) (fun hb => ?_) (fun hb => ?_)) hHeld ?_
            · obtain ⟨hb1, rfl⟩ : pq = false ∧ bB = true := by simpa using hb
              subst hb1
              refine Or.inl ⟨by rfl, ?_⟩
              intro w' hSw
              try simp only [Bool.not_false, Bool.and_self, cond_true]
              go_simp
              try with_reducible rfl
            · cases pq <;> cases bB <;> first | rfl | (cases hb)
            try simp only [Act.put, List.getElem_toArray, List.getElem_cons_zero, List.getElem_cons_succ, List.setIfInBounds_toArray, List.set_cons_zero, List.set_cons_succ]
            refine wpAnyE_takeY (i := 41) (v := cond (!pq) (.bool q2) undef) rfl (by kernel_rfl) (by kernel_rfl) (by kernel_rfl) (by kernel_rfl) (fun _ _ _ h => h) (YieldsIf.guard (!pq) (fun hb => ?_) (fun hb => ?_)) hHeld ?_
            · have hb1 : pq = false := by simpa using hb
              subst hb1
              refine Or.inl ⟨by rfl, ?_⟩
              intro w' hSw
              have hq := HQ2.out
              cases bB with
              | false =>
                have hq' : q2 = false := by rw [← hq]; rfl
                subst hq'
                clear hq
                simp only [Bool.not_false, Bool.and_false, cond_true, cond_false]
                go_simp
              | true =>
                have hq' : bC = q2 := by rw [← hq]; rfl
                subst hq'
                clear hq
                simp only [Bool.not_false, Bool.and_self, cond_true]
                go_simp
            · have hb1 : pq = true := by simpa using hb
              subst hb1; rfl
            try simp only [Act.put, List.getElem_toArray, List.getElem_cons_zero, List.getElem_cons_succ, List.setIfInBounds_toArray, List.set_cons_zero, List.set_cons_succ]
            refine wpAnyE_takeY (i := 42) (v := .bool b) rfl (by kernel_rfl) (by kernel_rfl) (by kernel_rfl) (by kernel_rfl) (fun _ _ _ h => h) (Or.inl ⟨by rfl, ?_⟩) hHeld ?_
            · intro w' hSw
              have hq := HBB2.out
              cases pq with
              | false =>
                have hq' : b = q2 := by rw [hq]; rfl
                subst hq'
                clear hq
                simp only [Bool.not_false, cond_true]
                go_simp
              | true =>
                have hq' : b = true := by rw [hq]; rfl
                subst hq'
                clear hq
                simp only [Bool.not_true, cond_false]
                go_simp
            try simp only [Act.put, List.getElem_toArray, List.getElem_cons_zero, List.getElem_cons_succ, List.setIfInBounds_toArray, List.set_cons_zero, List.set_cons_succ]
            refine wpAnyE_one (i := 43) rfl (by kernel_rfl) (by kernel_rfl) (by rfl) (fun K hK => ?_)
            go_simp
            refine (HFI.out).mono ?_
            rintro e7 w7 ⟨v7, rfl, hv7, hO7⟩
            refine hK _ _ ?_
            clear hK K
            try simp only [Act.put, List.getElem_toArray, List.getElem_cons_zero, List.getElem_cons_succ, List.setIfInBounds_toArray, List.set_cons_zero, List.set_cons_succ]
            refine wpAnyE_takeZ (i := 44) (v := ?_) rfl (by kernel_rfl) (by kernel_rfl) (by kernel_rfl) (by kernel_rfl) (fun _ _ _ h => h) (Or.inl ⟨by rfl, ?_⟩) ?_
            rotate_left
            · intro w' hSw
              go_simp
              try with_reducible rfl
            try simp only [Act.put, List.getElem_toArray, List.getElem_cons_zero, List.getElem_cons_succ, List.setIfInBounds_toArray, List.set_cons_zero, List.set_cons_succ]
            have q45 := (HBE.out.drew.kept hO7.kept HBD.out).cell 0
            have r45 := (HBE.out.drew.kept hO7.kept HBD.out).frozen 0
            simp only [List.getElem?_toArray, List.getElem?_cons_zero] at q45
            refine wpAnyE_one (i := 45) rfl (by kernel_rfl) (by kernel_rfl) (by rfl) (fun K hK => ?_)
            go_simp
            refine hK _ _ ?_
            clear hK K
            try simp only [Act.put, List.getElem_toArray, List.getElem_cons_zero, List.getElem_cons_succ, List.setIfInBounds_toArray, List.set_cons_zero, List.set_cons_succ]
            refine wpAnyE_done (by kernel_rfl) ?_ _
            refine NoPanic.normal ?_
            go_wp2_with fail
            go_meet
            exact ⟨w7, rfl, hv7, hO7⟩
          case rest =>
          obtain ⟨W', rfl, hv12, hO12⟩ := hcut
          have hO6 : AmO w2 D F g c (finishP c (addO s3 x) b).1 W' := AmO.step HK3.out HD3.out HF3.out (AmO.step HK11.out.drew HD9.out HF9.out hO12)
          have hxsn : x.sn = nextP s3 := HXA2.out.2.2.2
          have hbq := HB.out
          have hRr := HRR.out
          rw [← hbq, hxsn] at hRr
          have hz11 : w2.heap.size ≤ w11.heap.size := Nat.le_trans HK3.out.size HK11.out.size
          obtain ⟨q9, hG9⟩ := gr_end (R := R) (bs := encA (nextP s3) (finishP c (addO s3 x) b).2 false false 0 x.s x.e x.ps) HKK.out HBE2.out (Nat.le_refl _) hDn HH.out.lt HH.out.sub hO6 (own_base hv12 hz11) (by rw [← hRr]) (by rw [← hRr]; rfl) (by rw [← hRr])
          have HG9 := Lib.hid hG9
          have HQ9 := Lib.hid q9
          clear HA11 HO11 HK11 HBE11 HA10 HO10 HK10 HBE10 HA9 HD9 HF9 HK9 HO9 HBE9 HGG HXA2 HBEW HBW HBP2 HPOW HA7 hbx HB5 HKB HBE5 HBC5 HA5 HK5 HPO6 HRR HOK HSM hb56 hz5 HNX HSZ HS HVL1 HVL2 HXS HX HXA HCOK HCSM HPO5 HSB HFR HCHK HGB HA3 HI3 HB3 HPN HK3 HD3 HF3 HKK3 HRr HBE3 HKK HBE2 HEX HR HF HBT HI1 HT HBE HB1 HGO HH HCH HB HHD HFI hv12 hO12 hO6 hRr hG9 q9 hbq y0 y1 y13 y14 p0 p1 p2 p3 p4 p5 p6 p7
          generalize encA (nextP s3) (finishP c (addO s3 x) b).2 false false 0 x.s x.e x.ps = bsx at *
          go_wp2
          refine leaves_cons (f := 28) (args := #[.pointer (some ⟨w.heap.size, 0, none⟩)]) (by simp) (by simp [go_sem]) ?_
          refine (caughtS_idle _ _).mono ?_
          rintro e9 u9 w9 ⟨rfl, rfl, rfl⟩
          have q := HQ9.out
          exact ⟨.tuple #[_, .int .i64 0], by simp [results, Tryz.results11, go_sem, q], HG9.out⟩
  · have be3 := HBE2.out.kept hO3.kept hDn
    have HO3 := Lib.hid hO3
    have HBE3 := Lib.hid be3
    have hRr := HR.out
    rw [grantR_fail HF.out hn hf3] at hRr
    have HRr := Lib.hid hRr
    clear be3 hO3 hf3 hRr
    go_wp2
    refine leaves_cons (f := 28) (args := #[.pointer (some ⟨w.heap.size, 0, none⟩)]) (by simp) (by simp [go_sem]) ?_
    refine (caughtS_raised _ _ w3 HBE3.out).mono ?_
    rintro e9 u9 w9 ⟨rfl, rfl, rfl⟩
    have q := ((HBE3.out.alloc (.cells #[] 112)).set_ 0 (.int .i64 8)).cell 0
    simp at q
    refine ⟨.tuple #[.slice none 0 0, .int .i64 8], by simp [results, Tryz.results11, go_sem, q], ?_⟩
    rw [← HRr.out]
    refine gr_nil rfl rfl ?_
    exact (HO3.out.alloc _).put HKK.out (Nat.le_refl _) HBE2.out.lt HH.out.lt HH.out.sub 0 _
end
end Go.Proofs.YtmiipkaobloedaaGreat
