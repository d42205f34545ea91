/- umrecv: goes. umrecv: Receive: its memory, gather. -/
import Derived.Test.YtbjajboodohabaaGreatSx
namespace Go.Proofs.YtbjajboodohabaaGreat
open Go.RowKit Go.Shelf
attribute [local go_sem] Oper.semAt_some

set_option maxRecDepth 100000 in
set_option maxHeartbeats 2000000 in
theorem rfires_any (lo : Nat) (hi : Nat → Prop) (g M n : Nat) (vb : Value) (st : Rs) (now : Int) (w : World) (h : Rcv w lo hi g M n vb st) (ho : StOk st) (hw : Win st) (hn : now ≤ 9223372036854775807) (hc : ¬ (st.ro = false ∨ (clock st now).now < st.exp)) :
    Calls Tryz.prog 32 #[.pointer (some ⟨g, 0, none⟩), .int .i64 now] w (DlvOut w lo hi g M n (firesP (clock st now))) := by
  obtain ⟨j0, hj0, hm0, hm1, hm2⟩ := info_parts sl_info
  have hro : st.ro = true := by
    cases hh : st.ro with
    | false => exact absurd (.inl hh) hc
    | true => rfl
  have hcl : StOk (clock st now) := ho.clock hn
  obtain ⟨hends, _⟩ := Win.fires hcl (st := clock st now) hw hro
  have hT : (clock st now).now = if st.now < now then now else st.now := rfl
  have hge : ¬ ((if st.now < now then now else st.now) < st.exp) := fun e => hc (.inr e)
  obtain ⟨x0, x1, x2, x3, x4, x5, x6, x7, x8, x9, x10⟩ := h.cells
  have f10 := h.blk.frozen 10
  have hR1 := h.put 10 (.int .i64 (clock st now).now) (vb' := vb) (st' := clock st now) rfl rfl h.row
  have hK1 : Kept (MR g M) w (w.setCell ⟨g, 10, none⟩ (.int .i64 (clock st now).now)) := (Kept.refl _ w).setCell (p := ⟨g, 10, none⟩) (fun _ _ => .inl rfl) _
  rw [hT] at hR1 hK1
  have HH := Lib.hid h
  have HCL := Lib.hid hcl
  have HENDS := Lib.hid hends
  have HR1 := Lib.hid hR1
  have HK1 := Lib.hid hK1
  have HRO := Lib.hid hro
  have HGE := Lib.hid hge
  clear h ho hw hc hro hcl hends hT hge hR1 hK1
  go_enter Tryz.func32, Tryz.ntmps32
  go_upto_region 2 with (fail)
  have hro1 : (clock st now).ro = true := HRO.out
  have hge1 : decide ((clock st now).now < (clock st now).exp) = false := decide_eq_false HGE.out
  clear HGE
  generalize (if st.now < now then now else st.now) = T at *
  generalize w.setCell ⟨g, 10, none⟩ (.int .i64 T) = w1 at *
  generalize clock st now = s1 at *
  clear HRO x0 x1 x2 x3 x4 x5 x6 x7 x8 x9 x10 f10
  obtain ⟨x0, x1, x2, x3, x4, x5, x6, x7, x8, x9, x10⟩ := HR1.out.cells
  rw [hro1] at x7
  go_quiet (fail)
  have hR2 := HR1.out.drewN nq
  have hK2 := HK1.out.drewN nq
  generalize w1.drewN nq = w2 at *
  have HR2 := Lib.hid hR2
  have HK2 := Lib.hid hK2
  clear hR2 hK2 x0 x1 x2 x3 x4 x5 x6 x7 x8 x9 x10 HR1 HK1
  obtain ⟨x0, x1, x2, x3, x4, x5, x6, x7, x8, x9, x10⟩ := HR2.out.cells
  have hb := rbase_any g s1.high w2.drew x6 HCL.out.high
  have hp := rplace_any g s1.high s1.trig w2.drew x6 HCL.out.high HCL.out.trig
  have hlp := placeP_lt s1.high s1.trig
  have hlb := baseP_lt s1.high
  have hsp := rspan_any lo hi g M n (baseP s1.high) (placeP s1.high s1.trig) vb s1 w2.drew HR2.out.drew HCL.out (by omega) (by omega)
  have HB := Lib.hid hb
  have HP := Lib.hid hp
  have HSP := Lib.hid hsp
  have hso := StOk.span (placeP s1.high s1.trig) (baseP s1.high) HCL.out
  have hff := span_f (placeP s1.high s1.trig) (baseP s1.high) s1
  have HLEN := Lib.hid hso.2
  have hfire : firesP s1 = (waitsP (roOff (advP 1024 (toTrig (spanP (baseP s1.high) (placeP s1.high s1.trig) s1).1)).1), (spanP (baseP s1.high) (placeP s1.high s1.trig) s1).2 ++ (advP 1024 (toTrig (spanP (baseP s1.high) (placeP s1.high s1.trig) s1).1)).2) := rfl
  have HFI := Lib.hid hfire
  have HLP := Lib.hid hlp
  have HFF := Lib.hid hff
  clear hb hp hsp hso hlp hlb hff hfire
  generalize baseP s1.high = bs at *
  generalize placeP s1.high s1.trig = pl at *
  go_upto_region 4 with (fail)
  go_cut [4] (fun s4 wx => ∃ vb', Rcv wx lo hi g M n vb' (spanP bs pl s1).1 ∧ OutIs wx w2.heap.size lo s4 (spanP bs pl s1).2 ∧ Kept (MR g M) w2 wx)
  case first =>
    go_region_law (first
      | (go_simp; (with_reducible refine HB.out.mono ?_); rintro e1 w3 ⟨rfl, rfl⟩)
      | (go_simp; (with_reducible refine HP.out.mono ?_); rintro e1 w3 ⟨rfl, rfl⟩)
      | (go_simp; (with_reducible refine HSP.out.mono ?_); rintro e1 w3 ⟨vb', vo', rfl, hR3, hO3, hK3⟩)
      | fail)
    all_goals
      go_wp2_with fail
      go_meet
      exact ⟨vb', hR3, hO3, ((Kept.refl _ w2).drew).trans hK3⟩
  case rest =>
  obtain ⟨vb3, hR3, hO3, hK3⟩ := hcut
  clear x0 x1 x2 x3 x4 x5 x6 x7 x8 x9 x10 hro1 hge1 HB HP HSP
  have HR3 := Lib.hid hR3
  have HK3 := Lib.hid (HK2.out.trans hK3)
  have HO3 := Lib.hid (hO3.base_ HK2.out.size)
  clear hR3 hK3 hO3
  obtain ⟨x0, x1, x2, x3, x4, x5, x6, x7, x8, x9, x10⟩ := HR3.out.cells
  have f5 := HR3.out.blk.frozen 5
  have hR4 := HR3.out.put 5 (.int .i64 (spanP bs pl s1).1.trig) (vb' := vb3) (st' := toTrig (spanP bs pl s1).1) rfl rfl HR3.out.row
  have hO4 := HO3.out.set HH.out.hlo HH.out.hg 5 (.int .i64 (spanP bs pl s1).1.trig)
  have hK4 := HK3.out.setCell (p := ⟨g, 5, none⟩) (fun _ _ => .inl rfl) (.int .i64 (spanP bs pl s1).1.trig)
  have HSO := Lib.hid (StOk.span pl bs HCL.out).1.toTrig
  have hsl : (spanP bs pl s1).2.length ≤ 65536 := by have := HLEN.out; have := HLP.out; omega
  obtain ⟨S, hS⟩ : ∃ S, S = spanP bs pl s1 := ⟨_, rfl⟩
  simp only [← hS] at HR3 HO3 x1 x2 x3 x5 x6 x7 x8 x9 x10 hR4 hO4 hK4 HSO HENDS hsl HFI
  clear HLEN HFF hS
  have hadl := (StOk.adv 1024 HSO.out).2
  have hado := (StOk.adv 1024 HSO.out).1
  have hadv := radv_any lo hi g M n vb3 (toTrig S.1) (wc.setCell ⟨g, 5, none⟩ (.int .i64 S.1.trig)) hR4 HSO.out HENDS.out
  have HAO := Lib.hid hado
  have HAD := Lib.hid hadv
  have HAL := Lib.hid hadl
  have HSL := Lib.hid hsl
  have HR4 := Lib.hid hR4
  have HK4 := Lib.hid hK4
  clear hadl hado hadv hsl hR4 hK4
  obtain ⟨A4, c4, vs4, rfl, hc4, hm4, _⟩ := hO4.one
  go_upto_region 6 with (fail)
  generalize wc.setCell ⟨g, 5, none⟩ (.int .i64 S.1.trig) = w4 at *
  clear x0 x1 x2 x3 x4 x5 x6 x7 x8 x9 x10 f5 HR3 HK3 HO3
  obtain ⟨R, hRR⟩ : ∃ R, R = advP 1024 (toTrig S.1) := ⟨_, rfl⟩
  rw [← hRR] at HAD HAL HFI HAO
  clear hRR
  go_wp2_with (first
    | (go_at_call 37; refine HAD.out.mono ?_; rintro e1 w5 ⟨vb', vo', rfl, hR1, hO1, hK1⟩; obtain ⟨A2, c2, vs2, rfl, hc2, hm2', hrow2, hsl2, hone2, heach2⟩ := hO1.one; obtain ⟨A5, c5, vs5, e5, _, _, hrow5, _, _, heach5⟩ := (hO4.keptR HH.out.hlo hK1 HH.out.hg HH.out.hM).one; cases e5)
    | (at_builtin; refine wpList_append_sl _ rfl (.tmp 47) (.tmp 49) 47 rfl w.heap.size 40 j0 (.slice none 0 0) 24 und22 hj0 hm0 hm1 hm2 rfl _ S.2.length vs5 rfl hrow5 _ A2 R.2.length c2 vs2 rfl hsl2 hone2 ?c2 ?c3 ?c4 ?_))
  case c2 => have := HSL.out; have := HAL.out; unfold maxLen; omega
  case c3 => have := HSL.out; have := HAL.out; omega
  case c4 => exact HK4.out.trans hK1 |>.size
  intro v6 w6 hown6 hgrow6 _
  have hR6 := hR1.rowGrown hrow5 (fun j hj _ hh => by have := HH.out.hhi j hh; omega) hgrow6
  have hO6 := OutIs.app hrow5 heach5 hrow2 heach2 hown6 hgrow6
  have hK6 := (HK4.out.trans hK1).row hrow5 hgrow6
  obtain ⟨x0, x1, x2, x3, x4, x5, x6, x7, x8, x9, x10⟩ := hR6.cells
  have f7 := hR6.blk.frozen 7
  have hR7 := hR6.put 7 (.bool false) (vb' := vb') (st' := roOff R.1) rfl rfl hR6.row
  have HO7 := Lib.hid (hO6.set HH.out.hlo HH.out.hg 7 (.bool false))
  have HK7 := Lib.hid (hK6.setCell (p := ⟨g, 7, none⟩) (fun _ _ => .inl rfl) (.bool false))
  have hwt := rwaits_any lo hi g M n vb' (roOff R.1) _ hR7 HAO.out.roOff
  have HWT := Lib.hid hwt
  clear hR6 hO6 hK6 hR7 hwt hrow5 heach5 hrow2 heach2 hown6 hgrow6 hsl2 hone2 hR1 hO1 hK1 hO4 x0 x1 x2 x3 x4 x5 x6 x8 x9 x10
  go_wp2_with (go_at_call 38; refine HWT.out.mono ?_; rintro e2 w8 ⟨rfl, hR8, hK8⟩)
  go_ret
  rw [HFI.out]
  exact ⟨vb', _, rfl, hR8, HO7.out.keptR HH.out.hlo hK8 HH.out.hg HH.out.hM, HK7.out.trans hK8⟩
set_option maxRecDepth 100000 in
set_option maxHeartbeats 1000000 in
theorem rgoes_any (lo : Nat) (hi : Nat → Prop) (g M n : Nat) (vb : Value) (st : Rs) (now : Int) (w : World) (h : Rcv w lo hi g M n vb st) (ho : StOk st) (hw : Win st) (hn : now ≤ 9223372036854775807) :
    Calls Tryz.prog 32 #[.pointer (some ⟨g, 0, none⟩), .int .i64 now] w (DlvOut w lo hi g M n (goesP st now)) := by
  unfold goesP
  split
  · rename_i hc
    obtain ⟨x0, x1, x2, x3, x4, x5, x6, x7, x8, x9, x10⟩ := h.cells
    have f10 := h.blk.frozen 10
    have hT : (clock st now).now = if st.now < now then now else st.now := rfl
    have hR1 := h.put 10 (.int .i64 (clock st now).now) (vb' := vb) (st' := clock st now) rfl rfl h.row
    have hK1 : Kept (MR g M) w (w.setCell ⟨g, 10, none⟩ (.int .i64 (clock st now).now)) := (Kept.refl _ w).setCell (p := ⟨g, 10, none⟩) (fun _ _ => .inl rfl) _
    rw [hT] at hR1 hK1
    have HR1 := Lib.hid hR1
    have HK1 := Lib.hid hK1
    have HC := Lib.hid hc
    clear h ho hw hT hR1 hK1 hc
    go_enter Tryz.func32, Tryz.ntmps32
    go_upto_region 2 with (fail)
    have hc : (clock st now).ro = false ∨ (clock st now).now < (clock st now).exp := HC.out
    clear HC
    generalize (if st.now < now then now else st.now) = T at *
    generalize w.setCell ⟨g, 10, none⟩ (.int .i64 T) = w1 at *
    generalize clock st now = s1 at *
    clear x0 x1 x2 x3 x4 x5 x6 x7 x8 x9 x10 f10
    obtain ⟨x0, x1, x2, x3, x4, x5, x6, x7, x8, x9, x10⟩ := HR1.out.cells
    cases hro : s1.ro with
    | false =>
      rw [hro] at x7
      clear hc hro
      go_quiet (fail)
      go_wp2_with fail
      go_ret
      exact ⟨vb, _, rfl, HR1.out.drewN nq, OutIs.nil _ _ _, HK1.out.drewN nq⟩
    | true =>
      rw [hro] at x7 hc
      have d1 : decide (s1.now < s1.exp) = true := by simpa using hc
      clear hc hro
      go_quiet (fail)
      go_wp2_with fail
      go_ret
      exact ⟨vb, _, rfl, HR1.out.drewN nq, OutIs.nil _ _ _, HK1.out.drewN nq⟩
  · rename_i hc
    exact rfires_any lo hi g M n vb st now w h ho hw hn hc
end Go.Proofs.YtbjajboodohabaaGreat
namespace Go.Proofs.YtbjajboodohabaaGreat
open Go.RowKit Go.Shelf
attribute [local go_sem] Oper.semAt_some

theorem Rcv.hiMono {w : World} {lo : Nat} {hi hi' : Nat → Prop} {g M n : Nat} {vb : Value} {st : Rs} (h : Rcv w lo hi g M n vb st) (h1 : ∀ j, hi j → hi' j) (h2 : ∀ j, hi' j → j < w.heap.size) : Rcv w lo hi' g M n vb st := by
  obtain ⟨F, hF, hFm⟩ := h.mp
  exact ⟨h.blk, h.row, ⟨F, hF, fun k => ⟨(hFm k).1, fun p hp => let ⟨vo, e, ho, hj⟩ := (hFm k).2 p hp; ⟨vo, e, ho, fun j hj' => h1 j (hj j hj')⟩⟩⟩, h.hg, h.hM, h.ne, h.hlo, h2⟩
theorem PartsOut.lt' {w : World} {base : Nat} {vo : Value} {ps : List (List UInt8)} (h : PartsOut w base vo ps) {k : Nat} (hk : vo.ownBlock = some k) : base ≤ k ∧ k < w.heap.size := by
  obtain ⟨vs, g, cap, data, h1, h2, h3⟩ := h
  exact h1.lt k hk
/-- the memory within Receive: B: the heap's size behind Decode -/
structure RvAt (w1 : World) (hi : Nat → Prop) (lo g M n : Nat) (p : Pd) (vo : Value) (vb : Value) (st : Rs) (ob : Nat) (v4 : Value) (outs : List (List UInt8)) (wr : World) : Prop where
  rc : Rcv wr lo hi g M n vb st
  hih : ∀ j, hi j → j < w1.heap.size
  bx : Blk wr w1.heap.size 80 #[.int .i64 p.sn, .bool p.s, .bool p.en, vo]
  obx : Blk wr ob 47 #[v4]
  out : OutIs wr w1.heap.size lo v4 outs
  kept : Kept (MR g M) w1 wr
  hob : w1.heap.size ≤ ob
  hl : lo ≤ w1.heap.size
section
variable {w1 wr w2 : World} {hi : Nat → Prop} {lo g M n : Nat} {p : Pd} {vo vb vb' v4 : Value} {st st' : Rs} {ob : Nat} {outs : List (List UInt8)}
theorem RvAt.call {n' : Nat} (h : RvAt w1 hi lo g M n p vo vb st ob v4 outs wr) (hr : Rcv w2 lo hi g M n' vb' st') (hk : Kept (MR g M) wr w2) : RvAt w1 hi lo g M n' p vo vb' st' ob v4 outs w2 := by
  have hg := h.rc.hg
  have hM := h.rc.hM
  have hl := h.hl
  have hob := h.hob
  exact ⟨hr, h.hih, h.bx.kept hk (by rintro (e | e) <;> omega), h.obx.kept hk (by rintro (e | e) <;> omega), h.out.keptR hl hk hg hM, h.kept.trans hk, hob, hl⟩
theorem RvAt.below (h : RvAt w1 hi lo g M n p vo vb st ob v4 outs wr) (hb : Below wr.heap.size wr w2) : RvAt w1 hi lo g M n p vo vb st ob v4 outs w2 :=
  h.call (h.rc.below hb) ((Kept.of_below hb).mono_at fun k o ho hm => by have := lt_of_heap ho; omega)
theorem RvAt.drew (h : RvAt w1 hi lo g M n p vo vb st ob v4 outs wr) : RvAt w1 hi lo g M n p vo vb st ob v4 outs wr.drew := h.below ((Below.refl _ wr).drew)
theorem RvAt.drewN (h : RvAt w1 hi lo g M n p vo vb st ob v4 outs wr) (q : Nat) : RvAt w1 hi lo g M n p vo vb st ob v4 outs (wr.drewN q) := h.below ((Below.refl _ wr).drewN q)
theorem RvAt.alloc (h : RvAt w1 hi lo g M n p vo vb st ob v4 outs wr) (o : Obj) : RvAt w1 hi lo g M n p vo vb st ob v4 outs (wr.alloc o) := h.below ((Below.refl _ wr).alloc (Nat.le_refl _) o)
/-- a cell of the receiver is written -/
theorem RvAt.put (h : RvAt w1 hi lo g M n p vo vb st ob v4 outs wr) (i : Nat) (u : Value) (he : (rcv vb M st).setIfInBounds i u = rcv vb M st') (hm : st'.m = st.m) (hb : st'.b = st.b) : RvAt w1 hi lo g M n p vo vb st' ob v4 outs (wr.setCell ⟨g, i, none⟩ u) :=
  h.call (h.rc.put i u he hm (by rw [hb]; exact h.rc.row)) ((Kept.refl _ wr).setCell (p := ⟨g, i, none⟩) (fun _ _ => .inl rfl) u)
/-- another block is written -/
theorem Rcv.setFar {w : World} {b i : Nat} {cs : Array Value} (h : Rcv w lo hi g M n vb st) (hb : Blk w b 47 cs) (hlb : lo ≤ b) (u : Value) : Rcv (w.setCell ⟨b, i, none⟩ u) lo hi g M n vb st := by
  obtain ⟨F, hF, hFm⟩ := h.mp
  have hg := h.hg
  have hM := h.hM
  refine ⟨h.blk.far (by simp; omega) u, own_store h.row hb (by decide) u, ⟨F, hF.same (Below.heap_setCell w ⟨b, i, none⟩ u M (by simp; omega)), fun k => ⟨(hFm k).1, fun q hq => ?_⟩⟩, hg, hM, h.ne, by simpa [World.setCell] using h.hlo, fun j hj => by simpa [World.setCell] using h.hhi j hj⟩
  obtain ⟨vo, e, ⟨vs, gg, cap, data, a1, a2, a3⟩, hj⟩ := (hFm k).2 q hq
  exact ⟨vo, e, ⟨vs, gg, cap, data, own_store a1 hb (by decide) u, own_store a2 hb (by decide) u, a3⟩, hj⟩
set_option maxRecDepth 100000 in
theorem rgather_any {b2 : Nat} {v2 : Value} {outs2 : List (List UInt8)} (h : RvAt w1 hi lo g M n p vo vb st ob v4 outs wr) (h2 : OutIs wr b2 lo v2 outs2) (hlen : outs.length + outs2.length ≤ 1000000) :
    Calls Tryz.prog 33 #[v2, .pointer (some ⟨ob, 0, none⟩)] wr fun e w' => e = .returned (.tuple #[]) ∧ ∃ v5, RvAt w1 hi lo g M n p vo vb st ob v5 (outs ++ outs2) w' := by
  obtain ⟨j0, hj0, hm0, hm1, hm2⟩ := info_parts sl_info
  obtain ⟨A4, c4, vs4, rfl, hc4, hm4, hrow4, _, _, heach4⟩ := h.out.one
  obtain ⟨A2, c2, vs2, rfl, hc2, hm2', hrow2, hsl2, hone2, heach2⟩ := h2.one
  have x0 : wr.cell? ⟨ob, 0, none⟩ = some (.slice A4 outs.length c4) := h.obx.cell 0
  have HH := Lib.hid h
  clear h h2
  go_enter Tryz.func33, Tryz.ntmps33
  go_wp2_with (at_builtin; refine wpList_append_sl _ rfl (.tmp 3) (.tmp 4) 47 rfl w1.heap.size 40 j0 (.slice none 0 0) 24 und22 hj0 hm0 hm1 hm2 rfl _ outs.length vs4 rfl hrow4 _ A2 outs2.length c2 vs2 rfl hsl2 hone2 ?c2 ?c3 ?c4 ?_)
  case c2 => unfold maxLen; omega
  case c3 => omega
  case c4 => exact HH.out.kept.size
  intro v6 w6 hown6 hgrow6 _
  obtain ⟨A6, c6, rfl, _⟩ := own_sl hown6
  have hB6 := HH.out.obx.grown hgrow6 (fun e => own_blk_ne hrow4 HH.out.obx (by decide) e.symm)
  have hX6 := HH.out.bx.grown hgrow6 (fun e => own_blk_ne hrow4 HH.out.bx (by decide) e.symm)
  have hR6 := HH.out.rc.rowGrown hrow4 (fun j hj _ hh => by have := HH.out.hih j hh; omega) hgrow6
  have hO6 := OutIs.app hrow4 heach4 hrow2 heach2 hown6 hgrow6
  have hK6 := HH.out.kept.row hrow4 hgrow6
  have y0 : w6.cell? ⟨ob, 0, none⟩ = some (.slice A4 outs.length c4) := hB6.cell 0
  have f0 := hB6.frozen 0
  have hlo := HH.out.hl
  have hob := HH.out.hob
  have hne : ¬ w1.heap.size = ob := fun e => by
    have a := HH.out.bx
    have b := HH.out.obx
    unfold Blk at a b
    rw [e, b] at a
    cases a
  have hfin : RvAt w1 hi lo g M n p vo vb st ob (.slice A6 (outs.length + outs2.length) c6) (outs ++ outs2) (w6.setCell ⟨ob, 0, none⟩ (.slice A6 (outs.length + outs2.length) c6)) := by
    refine ⟨hR6.setFar hB6 (by omega) _, HH.out.hih, hX6.far (by simp; omega) _, by simpa using hB6.set_ 0 (.slice A6 (outs.length + outs2.length) c6), ?_, hK6.setCell (p := ⟨ob, 0, none⟩) (fun o ho => ?_) _, hob, hlo⟩
    · obtain ⟨vs, a1, a2⟩ := hO6
      exact ⟨vs, own_store a1 hB6 (by decide) _, fun i q hi => let ⟨vi, e, ho⟩ := a2 i q hi; ⟨vi, e, own_store ho hB6 (by decide) _⟩⟩
    · have hlt : ob < w1.heap.size := lt_of_heap ho
      omega
  have HFIN := Lib.hid hfin
  clear hB6 hX6 hR6 hO6 hK6 hfin hrow4 heach4 hrow2 heach2 hown6 hgrow6 hsl2 hone2 x0
  go_wp2
  go_end0
  exact ⟨rfl, _, HFIN.out⟩
end
end Go.Proofs.YtbjajboodohabaaGreat
