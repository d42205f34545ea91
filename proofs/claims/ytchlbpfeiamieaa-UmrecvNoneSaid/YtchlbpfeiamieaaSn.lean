/- umrecv: span. -/
import Derived.Test.YtchlbpfeiamieaaSm
namespace Go.Proofs.Ytchlbpfeiamieaa
open Go.RowKit Go.Shelf
attribute [local go_sem] Oper.semAt_some

/-- the relation of joined's loop -/
def JoinRel (w : World) (lo hi g M n sn cnt : Nat) (FIN : Rs × List (List UInt8)) (gk : Nat) (s4 s7 : Value) (wr : World) : Prop :=
  ∃ (i r : Nat) (st : Rs) (outs : List (List UInt8)) (vb v4 : Value), v4 = s4 ∧ s7 = .int .i64 i ∧ gk = r ∧ i + r = cnt ∧ Rcv wr lo hi g M n vb st ∧ StOk st ∧ OutIs wr w.heap.size lo v4 outs ∧ Kept (MR g M) w wr ∧
    FIN = ((spanP (sn + i) r st).1, outs ++ (spanP (sn + i) r st).2) ∧ outs.length ≤ 64 * i
theorem Kept.row {w w1 w2 : World} {g M k : Nat} {v : Value} {xs : List Value} (h : Kept (MR g M) w w1) (hv : w1.ownsRow w.heap.size 29 1 v k xs) (hg : w1.grownBy w2 v.ownBlock) : Kept (MR g M) w w2 :=
  h.grown hg fun j e o ho => by
    obtain ⟨_, _, _, hb⟩ := own_isRow hv e
    have := lt_of_heap ho
    omega
set_option maxRecDepth 100000 in
set_option maxHeartbeats 1000000 in
theorem rjoined_any (lo hi g M n sn cnt b1 b2 : Nat) (vb : Value) (st : Rs) (w : World) (h : Rcv w lo hi g M n vb st) (ho : StOk st) (hs : sn ≤ 1023) (hc : cnt ≤ 1024) (hb : SpanBox w b1 b2 g sn) (h1 : lo ≤ b1) (h2 : lo ≤ b2) :
    Calls Try.prog 154 #[.int .i64 cnt, .func (.func 155) #[] #[.pointer (some ⟨b1, 0, none⟩), .pointer (some ⟨b2, 0, none⟩)]] w (DlvOut w lo hi g M n (spanP sn cnt st)) := by
  obtain ⟨j0, hj0, hm0, hm1, hm2⟩ := info_parts sl_info
  obtain ⟨FIN, hF⟩ : ∃ FIN, FIN = spanP sn cnt st := ⟨_, rfl⟩
  rw [← hF]
  have HH := Lib.hid h
  have HO := Lib.hid ho
  have HF := Lib.hid hF
  have HB := Lib.hid hb
  have HC := Lib.hid hc
  have HS := Lib.hid hs
  have H1 := Lib.hid h1
  have H2 := Lib.hid h2
  clear h ho hF hb h1 h2
  go_enter Try.func154, Try.ntmps154
  go_wp2
  go_loopg [4, 7] cnt (fun gk s4 s7 wr => JoinRel w lo hi g M n sn cnt FIN gk s4 s7 wr)
  case atStart => exact ⟨0, cnt, st, [], vb, _, rfl, rfl, rfl, by omega, HH.out, HO.out, OutIs.nil _ _ _, Kept.refl _ _, by rw [HF.out]; rfl, by simp⟩
  case round =>
    obtain ⟨i, r, st1, outs, vb1, v4, rfl, rfl, hgk, hir, hR, hok, hO, hK, hfin, hol⟩ := hrel
    clear HF HO
    have HGK := Lib.hid hgk
    have HR := Lib.hid hR
    have HOK := Lib.hid hok
    have HK := Lib.hid hK
    clear hgk hR hok hK
    cases r with
    | zero =>
      have hlt : decide (i < cnt) = false := by simp; omega
      have hR2 : FIN = (st1, outs) := by rw [hfin]; simp [spanP]
      have HFF := Lib.hid hR2
      have HOO := Lib.hid hO
      clear hfin hR2 hO
      go_wp2
      go_ret
      rw [HFF.out]
      exact ⟨_, _, rfl, HR.out, HOO.out, HK.out⟩
    | succ r =>
      have hlt : decide (i < cnt) = true := by simp; omega
      have hcl := rspan1_any lo hi g M n sn i b1 b2 vb1 st1 wr HR.out HOK.out (by omega) (by omega) (HB.out.kept HK.out HH.out.hg HH.out.hM H1.out H2.out)
      have htk := HOK.out.take ((sn + i) % 1024)
      have HCL := Lib.hid hcl
      have HTK := Lib.hid htk
      have HFIN := Lib.hid hfin
      have HIR := Lib.hid hir
      have htl := htk.2
      have hib : i ≤ 1024 := by have := HC.out; omega
      have HOL := Lib.hid hol
      have HTL : Hid ((takeP st1 ((sn + i) % 1024)).2.length ≤ 64) := Lib.hid htl
      clear hcl htk hfin hir
      obtain ⟨R, hRR⟩ : ∃ R, R = takeP st1 ((sn + i) % 1024) := ⟨_, rfl⟩
      rw [← hRR] at HCL HTL
      clear htl
      have HRR := Lib.hid hRR
      clear hRR
      obtain ⟨A4, c4, vs4, rfl, hc4, hm4, _⟩ := hO.one
      go_wp2_with (first
        | (go_at_call 155; refine HCL.out.mono ?_; rintro e1 w1 ⟨vb', vo', rfl, hR1, hO1, hK1⟩; obtain ⟨A2, c2, vs2, rfl, hc2, hm2', hrow2, hsl2, hone2, heach2⟩ := hO1.one; obtain ⟨A5, c5, vs5, e5, _, _, hrow5, _, _, heach5⟩ := (hO.keptR HH.out.hlo hK1 HH.out.hg HH.out.hM).one; cases e5)
        | (at_builtin; refine wpList_append_sl _ rfl (.tmp 10) (.tmp 13) 22 rfl w.heap.size 29 j0 (.slice none 0 0) 24 und22 hj0 hm0 hm1 hm2 rfl _ outs.length vs5 rfl hrow5 _ A2 R.2.length c2 vs2 rfl hsl2 hone2 ?c2 ?c3 ?c4 ?_))
      case c2 => have := HOL.out; have := HTL.out; unfold maxLen; omega
      case c3 => have := HOL.out; have := HTL.out; omega
      case c4 => exact HK.out.trans hK1 |>.size
      intro v6 w6 hown6 hgrow6 _
      have hR6 := hR1.rowGrown hrow5 HH.out.hhi hgrow6
      have hO6 := OutIs.app hrow5 heach5 hrow2 heach2 hown6 hgrow6
      have hK6 := (HK.out.trans hK1).row hrow5 hgrow6
      have H6 := Lib.hid hR6
      have HO6 := Lib.hid hO6
      have HK6 := Lib.hid hK6
      clear hR6 hO6 hK6 hrow5 heach5 hrow2 heach2 hown6 hgrow6 hsl2 hone2 hR1 hO1 hK1 hO
      go_wp2
      go_roundg r
      case measure => rw [HGK.out]; omega
      case rel =>
        have e := HTK.out.1
        rw [← HRR.out] at e
        refine ⟨i + 1, r, R.1, outs ++ R.2, vb', _, rfl, by go_num, rfl, by have := HIR.out; omega, H6.out, e, HO6.out, HK6.out, ?_, by have := HOL.out; have := HTL.out; rw [List.length_append]; omega⟩
        rw [HFIN.out, spanP, ← HRR.out]
        simp [Nat.add_assoc]
end Go.Proofs.Ytchlbpfeiamieaa
