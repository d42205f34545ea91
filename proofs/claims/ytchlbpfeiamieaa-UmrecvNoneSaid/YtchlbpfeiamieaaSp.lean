/- umrecv: goes. -/
import Derived.Test.YtchlbpfeiamieaaSo
namespace Go.Proofs.Ytchlbpfeiamieaa
open Go.RowKit Go.Shelf
attribute [local go_sem] Oper.semAt_some

set_option maxRecDepth 100000 in
set_option maxHeartbeats 2000000 in
theorem rfires_any (lo hi g M n : Nat) (vb : Value) (st : Rs) (now : Int) (w : World) (h : Rcv w lo hi g M n vb st) (ho : StOk st) (hw : Win st) (hn : now ≤ 1000000000000) (hc : ¬ (st.ro = false ∨ (clock st now).now < st.exp)) :
    Calls Try.prog 104 #[.pointer (some ⟨g, 0, none⟩), .int .i64 now] w (DlvOut w lo hi g M n (firesP (clock st now))) := by
  obtain ⟨j0, hj0, hm0, hm1, hm2⟩ := info_parts sl_info
  have hro : st.ro = true := by
    cases hh : st.ro with
    | false => exact absurd (.inl hh) hc
    | true => rfl
  have hcl : StOk (clock st now) := ho.clock hn
  obtain ⟨hends, _⟩ := Win.fires hcl (st := clock st now) hw hro
  have hT : (clock st now).now = if st.now < now then now else st.now := rfl
  have hge : ¬ ((if st.now < now then now else st.now) < st.exp) := fun e => hc (.inr e)
  obtain ⟨x0, x1, x2, x3, x4, x5, x6, x7, x8, x9, x10⟩ := h.cells
  have f10 := h.blk.frozen 10
  have hR1 := h.put 10 (.int .i64 (clock st now).now) (vb' := vb) (st' := clock st now) rfl rfl h.row
  have hK1 : Kept (MR g M) w (w.setCell ⟨g, 10, none⟩ (.int .i64 (clock st now).now)) := (Kept.refl _ w).setCell (p := ⟨g, 10, none⟩) (fun _ _ => .inl rfl) _
  rw [hT] at hR1 hK1
  have HH := Lib.hid h
  have HCL := Lib.hid hcl
  have HENDS := Lib.hid hends
  have HR1 := Lib.hid hR1
  have HK1 := Lib.hid hK1
  have HRO := Lib.hid hro
  have HGE := Lib.hid hge
  clear h ho hw hc hro hcl hends hT hge hR1 hK1
  go_enter Try.func104, Try.ntmps104
  go_upto_region 2 with (fail)
  have hro1 : (clock st now).ro = true := HRO.out
  have hge1 : decide ((clock st now).now < (clock st now).exp) = false := decide_eq_false HGE.out
  clear HGE
  generalize (if st.now < now then now else st.now) = T at *
  generalize w.setCell ⟨g, 10, none⟩ (.int .i64 T) = w1 at *
  generalize clock st now = s1 at *
  clear HRO x0 x1 x2 x3 x4 x5 x6 x7 x8 x9 x10 f10
  obtain ⟨x0, x1, x2, x3, x4, x5, x6, x7, x8, x9, x10⟩ := HR1.out.cells
  rw [hro1] at x7
  go_quiet (fail)
  have hR2 := HR1.out.drewN nq
  have hK2 := HK1.out.drewN nq
  generalize w1.drewN nq = w2 at *
  have HR2 := Lib.hid hR2
  have HK2 := Lib.hid hK2
  clear hR2 hK2 x0 x1 x2 x3 x4 x5 x6 x7 x8 x9 x10 HR1 HK1
  obtain ⟨x0, x1, x2, x3, x4, x5, x6, x7, x8, x9, x10⟩ := HR2.out.cells
  have hb := rbase_any g s1.high w2.drew x6 HCL.out.high
  have hp := rplace_any g s1.high s1.trig w2.drew x6 HCL.out.high HCL.out.trig
  have hlp := placeP_lt s1.high s1.trig
  have hlb := baseP_lt s1.high
  have hsp := rspan_any lo hi g M n (baseP s1.high) (placeP s1.high s1.trig) vb s1 w2.drew HR2.out.drew HCL.out (by omega) (by omega)
  have HB := Lib.hid hb
  have HP := Lib.hid hp
  have HSP := Lib.hid hsp
  have hso := StOk.span (placeP s1.high s1.trig) (baseP s1.high) HCL.out
  have hff := span_f (placeP s1.high s1.trig) (baseP s1.high) s1
  have HLEN := Lib.hid hso.2
  have hfire : firesP s1 = (waitsP (roOff (advP 1024 (toTrig (spanP (baseP s1.high) (placeP s1.high s1.trig) s1).1)).1), (spanP (baseP s1.high) (placeP s1.high s1.trig) s1).2 ++ (advP 1024 (toTrig (spanP (baseP s1.high) (placeP s1.high s1.trig) s1).1)).2) := rfl
  have HFI := Lib.hid hfire
  have HLP := Lib.hid hlp
  have HFF := Lib.hid hff
  clear hb hp hsp hso hlp hlb hff hfire
  generalize baseP s1.high = bs at *
  generalize placeP s1.high s1.trig = pl at *
  go_upto_region 4 with (fail)
  go_cut [4] (fun s4 wx => ∃ vb', Rcv wx lo hi g M n vb' (spanP bs pl s1).1 ∧ OutIs wx w2.heap.size lo s4 (spanP bs pl s1).2 ∧ Kept (MR g M) w2 wx)
  case first =>
    go_region_law (first
      | (go_simp; (with_reducible refine HB.out.mono ?_); rintro e1 w3 ⟨rfl, rfl⟩)
      | (go_simp; (with_reducible refine HP.out.mono ?_); rintro e1 w3 ⟨rfl, rfl⟩)
      | (go_simp; (with_reducible refine HSP.out.mono ?_); rintro e1 w3 ⟨vb', vo', rfl, hR3, hO3, hK3⟩)
      | fail)
    all_goals
      go_wp2_with fail
      go_meet
      exact ⟨vb', hR3, hO3, ((Kept.refl _ w2).drew).trans hK3⟩
  case rest =>
  obtain ⟨vb3, hR3, hO3, hK3⟩ := hcut
  clear x0 x1 x2 x3 x4 x5 x6 x7 x8 x9 x10 hro1 hge1 HB HP HSP
  have HR3 := Lib.hid hR3
  have HK3 := Lib.hid (HK2.out.trans hK3)
  have HO3 := Lib.hid (hO3.base_ HK2.out.size)
  clear hR3 hK3 hO3
  obtain ⟨x0, x1, x2, x3, x4, x5, x6, x7, x8, x9, x10⟩ := HR3.out.cells
  have f5 := HR3.out.blk.frozen 5
  have hR4 := HR3.out.put 5 (.int .i64 (spanP bs pl s1).1.trig) (vb' := vb3) (st' := toTrig (spanP bs pl s1).1) rfl rfl HR3.out.row
  have hO4 := HO3.out.set HH.out.hlo HH.out.hg 5 (.int .i64 (spanP bs pl s1).1.trig)
  have hK4 := HK3.out.setCell (p := ⟨g, 5, none⟩) (fun _ _ => .inl rfl) (.int .i64 (spanP bs pl s1).1.trig)
  have HSO := Lib.hid (StOk.span pl bs HCL.out).1.toTrig
  have hsl : (spanP bs pl s1).2.length ≤ 65536 := by have := HLEN.out; have := HLP.out; omega
  obtain ⟨S, hS⟩ : ∃ S, S = spanP bs pl s1 := ⟨_, rfl⟩
  simp only [← hS] at HR3 HO3 x1 x2 x3 x5 x6 x7 x8 x9 x10 hR4 hO4 hK4 HSO HENDS hsl HFI
  clear HLEN HFF hS
  have hadl := (StOk.adv 1024 HSO.out).2
  have hado := (StOk.adv 1024 HSO.out).1
  have hadv := radv_any lo hi g M n vb3 (toTrig S.1) (wc.setCell ⟨g, 5, none⟩ (.int .i64 S.1.trig)) hR4 HSO.out HENDS.out
  have HAO := Lib.hid hado
  have HAD := Lib.hid hadv
  have HAL := Lib.hid hadl
  have HSL := Lib.hid hsl
  have HR4 := Lib.hid hR4
  have HK4 := Lib.hid hK4
  clear hadl hado hadv hsl hR4 hK4
  obtain ⟨A4, c4, vs4, rfl, hc4, hm4, _⟩ := hO4.one
  go_upto_region 6 with (fail)
  generalize wc.setCell ⟨g, 5, none⟩ (.int .i64 S.1.trig) = w4 at *
  clear x0 x1 x2 x3 x4 x5 x6 x7 x8 x9 x10 f5 HR3 HK3 HO3
  obtain ⟨R, hRR⟩ : ∃ R, R = advP 1024 (toTrig S.1) := ⟨_, rfl⟩
  rw [← hRR] at HAD HAL HFI HAO
  clear hRR
  go_wp2_with (first
    | (go_at_call 109; refine HAD.out.mono ?_; rintro e1 w5 ⟨vb', vo', rfl, hR1, hO1, hK1⟩; obtain ⟨A2, c2, vs2, rfl, hc2, hm2', hrow2, hsl2, hone2, heach2⟩ := hO1.one; obtain ⟨A5, c5, vs5, e5, _, _, hrow5, _, _, heach5⟩ := (hO4.keptR HH.out.hlo hK1 HH.out.hg HH.out.hM).one; cases e5)
    | (at_builtin; refine wpList_append_sl _ rfl (.tmp 47) (.tmp 49) 22 rfl w.heap.size 29 j0 (.slice none 0 0) 24 und22 hj0 hm0 hm1 hm2 rfl _ S.2.length vs5 rfl hrow5 _ A2 R.2.length c2 vs2 rfl hsl2 hone2 ?c2 ?c3 ?c4 ?_))
  case c2 => have := HSL.out; have := HAL.out; unfold maxLen; omega
  case c3 => have := HSL.out; have := HAL.out; omega
  case c4 => exact HK4.out.trans hK1 |>.size
  intro v6 w6 hown6 hgrow6 _
  have hR6 := hR1.rowGrown hrow5 HH.out.hhi hgrow6
  have hO6 := OutIs.app hrow5 heach5 hrow2 heach2 hown6 hgrow6
  have hK6 := (HK4.out.trans hK1).row hrow5 hgrow6
  obtain ⟨x0, x1, x2, x3, x4, x5, x6, x7, x8, x9, x10⟩ := hR6.cells
  have f7 := hR6.blk.frozen 7
  have hR7 := hR6.put 7 (.bool false) (vb' := vb') (st' := roOff R.1) rfl rfl hR6.row
  have HO7 := Lib.hid (hO6.set HH.out.hlo HH.out.hg 7 (.bool false))
  have HK7 := Lib.hid (hK6.setCell (p := ⟨g, 7, none⟩) (fun _ _ => .inl rfl) (.bool false))
  have hwt := rwaits_any lo hi g M n vb' (roOff R.1) _ hR7 HAO.out.roOff
  have HWT := Lib.hid hwt
  clear hR6 hO6 hK6 hR7 hwt hrow5 heach5 hrow2 heach2 hown6 hgrow6 hsl2 hone2 hR1 hO1 hK1 hO4 x0 x1 x2 x3 x4 x5 x6 x8 x9 x10
  go_wp2_with (go_at_call 110; refine HWT.out.mono ?_; rintro e2 w8 ⟨rfl, hR8, hK8⟩)
  go_ret
  rw [HFI.out]
  exact ⟨vb', _, rfl, hR8, HO7.out.keptR HH.out.hlo hK8 HH.out.hg HH.out.hM, HK7.out.trans hK8⟩
set_option maxRecDepth 100000 in
set_option maxHeartbeats 1000000 in
theorem rgoes_any (lo hi g M n : Nat) (vb : Value) (st : Rs) (now : Int) (w : World) (h : Rcv w lo hi g M n vb st) (ho : StOk st) (hw : Win st) (hn : now ≤ 1000000000000) :
    Calls Try.prog 104 #[.pointer (some ⟨g, 0, none⟩), .int .i64 now] w (DlvOut w lo hi g M n (goesP st now)) := by
  unfold goesP
  split
  · rename_i hc
    obtain ⟨x0, x1, x2, x3, x4, x5, x6, x7, x8, x9, x10⟩ := h.cells
    have f10 := h.blk.frozen 10
    have hT : (clock st now).now = if st.now < now then now else st.now := rfl
    have hR1 := h.put 10 (.int .i64 (clock st now).now) (vb' := vb) (st' := clock st now) rfl rfl h.row
    have hK1 : Kept (MR g M) w (w.setCell ⟨g, 10, none⟩ (.int .i64 (clock st now).now)) := (Kept.refl _ w).setCell (p := ⟨g, 10, none⟩) (fun _ _ => .inl rfl) _
    rw [hT] at hR1 hK1
    have HR1 := Lib.hid hR1
    have HK1 := Lib.hid hK1
    have HC := Lib.hid hc
    clear h ho hw hT hR1 hK1 hc
    go_enter Try.func104, Try.ntmps104
    go_upto_region 2 with (fail)
    have hc : (clock st now).ro = false ∨ (clock st now).now < (clock st now).exp := HC.out
    clear HC
    generalize (if st.now < now then now else st.now) = T at *
    generalize w.setCell ⟨g, 10, none⟩ (.int .i64 T) = w1 at *
    generalize clock st now = s1 at *
    clear x0 x1 x2 x3 x4 x5 x6 x7 x8 x9 x10 f10
    obtain ⟨x0, x1, x2, x3, x4, x5, x6, x7, x8, x9, x10⟩ := HR1.out.cells
    cases hro : s1.ro with
    | false =>
      rw [hro] at x7
      clear hc hro
      go_quiet (fail)
      go_wp2_with fail
      go_ret
      exact ⟨vb, _, rfl, HR1.out.drewN nq, OutIs.nil _ _ _, HK1.out.drewN nq⟩
    | true =>
      rw [hro] at x7 hc
      have d1 : decide (s1.now < s1.exp) = true := by simpa using hc
      clear hc hro
      go_quiet (fail)
      go_wp2_with fail
      go_ret
      exact ⟨vb, _, rfl, HR1.out.drewN nq, OutIs.nil _ _ _, HK1.out.drewN nq⟩
  · rename_i hc
    exact rfires_any lo hi g M n vb st now w h ho hw hn hc
end Go.Proofs.Ytchlbpfeiamieaa
