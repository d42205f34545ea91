/- umrecv: span, advance. -/
import Derived.Test.YtchlbpfeiamieaaSn
import Derived.Test.YtchlbpfeiamieaaSe
namespace Go.Proofs.Ytchlbpfeiamieaa
open Go.RowKit Go.Shelf
attribute [local go_sem] Oper.semAt_some

set_option maxRecDepth 100000 in
theorem rspan_any (lo hi g M n sn cnt : Nat) (vb : Value) (st : Rs) (w : World) (h : Rcv w lo hi g M n vb st) (ho : StOk st) (hs : sn ≤ 1023) (hc : cnt ≤ 1024) :
    Calls Try.prog 108 #[.pointer (some ⟨g, 0, none⟩), .int .i64 sn, .int .i64 cnt] w (DlvOut w lo hi g M n (spanP sn cnt st)) := by
  have hlo := h.hlo
  have h2 := (h.alloc (.cells #[.pointer (some ⟨g, 0, none⟩)] 52)).alloc (.cells #[.int .i64 sn] 3)
  have hb : SpanBox ((w.alloc (.cells #[.pointer (some ⟨g, 0, none⟩)] 52)).alloc (.cells #[.int .i64 sn] 3)) w.heap.size (w.heap.size + 1) g sn := by
    refine ⟨?_, ?_⟩
    · rw [Below.heap_alloc _ _ _ (by simp)]
      exact heap_alloc_new w _
    · have := heap_alloc_new (w.alloc (.cells #[.pointer (some ⟨g, 0, none⟩)] 52)) (.cells #[.int .i64 sn] 3)
      simpa using this
  have hj := rjoined_any lo hi g M n sn cnt w.heap.size (w.heap.size + 1) vb st _ h2 ho hs hc hb hlo (by omega)
  have hk : Kept (MR g M) w ((w.alloc (.cells #[.pointer (some ⟨g, 0, none⟩)] 52)).alloc (.cells #[.int .i64 sn] 3)) := ((Kept.refl _ w).alloc _).alloc _
  have HJ := Lib.hid hj
  have HK := Lib.hid hk
  clear h h2 ho hb hj hk
  go_enter Try.func108, Try.ntmps108
  go_wp2_with (go_at_call 154; refine HJ.out.mono ?_; rintro e1 w1 ⟨vb', vo', rfl, hR, hO, hK⟩)
  go_ret
  exact ⟨vb', vo', rfl, hR, hO.base_ (by simp; omega), HK.out.trans hK⟩
/-- the relation of advance's loop -/
def AdvRel (w : World) (lo hi g M n : Nat) (FIN : Rs × List (List UInt8)) (gk : Nat) (s2 : Value) (wr : World) : Prop :=
  ∃ (f j : Nat) (st : Rs) (outs : List (List UInt8)) (vb v2 : Value), v2 = s2 ∧ gk = f ∧ Rcv wr lo hi g M n vb st ∧ StOk st ∧ OutIs wr w.heap.size lo v2 outs ∧ Kept (MR g M) w wr ∧
    FIN = ((advP f st).1, outs ++ (advP f st).2) ∧ outs.length + 64 * f ≤ 65536 ∧ j ≤ f ∧ st.m ((st.next + j) % 1024) = none
theorem advP_stop {f : Nat} {st : Rs} (h : st.m st.next = none) : advP f st = (st, []) := by
  cases f with
  | zero => rfl
  | succ f => rw [advP, if_neg (by simp [h])]
set_option maxRecDepth 100000 in
set_option maxHeartbeats 1000000 in
theorem radv_any (lo hi g M n : Nat) (vb : Value) (st : Rs) (w : World) (h : Rcv w lo hi g M n vb st) (ho : StOk st) (he : Ends st) :
    Calls Try.prog 109 #[.pointer (some ⟨g, 0, none⟩)] w (DlvOut w lo hi g M n (advP 1024 st)) := by
  obtain ⟨j0, hj0, hm0, hm1, hm2⟩ := info_parts sl_info
  obtain ⟨FIN, hF⟩ : ∃ FIN, FIN = advP 1024 st := ⟨_, rfl⟩
  rw [← hF]
  have HH := Lib.hid h
  have HO := Lib.hid ho
  have HF := Lib.hid hF
  have HE := Lib.hid he
  clear h ho hF he
  go_enter Try.func109, Try.ntmps109
  go_wp2
  go_loopg [2] 1024 (fun gk s2 wr => AdvRel w lo hi g M n FIN gk s2 wr)
  case atStart =>
    obtain ⟨j, hj, hn⟩ := HE.out
    exact ⟨1024, j, st, [], vb, _, rfl, rfl, HH.out, HO.out, OutIs.nil _ _ _, Kept.refl _ _, by rw [HF.out]; rfl, by simp, hj, hn⟩
  case round =>
    obtain ⟨f, j, st1, outs, vb1, v2, rfl, hgk, hR, hok, hO, hK, hfin, hol, hjf, hjn⟩ := hrel
    clear HF HO HE
    have HGK := Lib.hid hgk
    have HK := Lib.hid hK
    have HOK := Lib.hid hok
    have HR := Lib.hid hR
    have HJN := Lib.hid hjn
    have hnx := hok.next
    have htk := rtake_any lo hi g M n st1.next vb1 st1 wr hR hok hnx
    have htl := hok.take st1.next
    obtain ⟨x0, x1, x2, x3, x4, x5, x6, x7, x8, x9, x10⟩ := hR.cells
    have HTK := Lib.hid htk
    have HTL := Lib.hid htl
    have HFIN := Lib.hid hfin
    have HJF := Lib.hid hjf
    have HOL := Lib.hid hol
    clear hgk hK hok hR hjn htk htl hfin x0 x1 x2 x3 x4 x6 x7 x8 x9 x10 hjf hol
    cases hm : st1.m st1.next with
    | none =>
      have htk := HTK.out
      rw [hm] at htk
      have hst : takeP st1 st1.next = (st1, []) := by unfold takeP; rw [hm]
      rw [hst] at htk
      have hR2 : FIN = (st1, outs) := by rw [HFIN.out, advP_stop hm]; simp
      have HT2 := Lib.hid htk
      have HFF := Lib.hid hR2
      have HOO := Lib.hid hO
      clear htk hst hR2 hm hO
      go_wp2_with (go_at_call 156; refine HT2.out.mono ?_; rintro e1 w1 ⟨vb', vo', rfl, hR1, hO1, hK1⟩)
      go_ret
      rw [HFF.out]
      exact ⟨_, _, rfl, hR1, HOO.out.keptR HH.out.hlo hK1 HH.out.hg HH.out.hM, HK.out.trans hK1⟩
    | some p =>
      have htk := HTK.out
      rw [hm] at htk
      simp only [Option.isSome_some] at htk
      have HT2 := Lib.hid htk
      have hfj : 1 ≤ f := by
        have h1 := HJF.out
        have h2 := HJN.out
        rcases Nat.eq_zero_or_pos j with h0 | h0
        · rw [h0, Nat.add_zero, Nat.mod_eq_of_lt (by omega), hm] at h2
          cases h2
        · omega
      obtain ⟨f', rfl⟩ : ∃ f', f = f' + 1 := ⟨f - 1, by omega⟩
      have hfin := HFIN.out
      rw [advP, if_pos (by simp [hm])] at hfin
      have HFI := Lib.hid hfin
      have hjn := HJN.out
      have hj1 : 1 ≤ j := by
        rcases Nat.eq_zero_or_pos j with h0 | h0
        · rw [h0, Nat.add_zero, Nat.mod_eq_of_lt (by omega), hm] at hjn
          cases hjn
        · exact h0
      have hf := take_f st1 st1.next
      have hjn2 : (nextUp (takeP st1 st1.next).1).m (((nextUp (takeP st1 st1.next).1).next + (j - 1)) % 1024) = none := by
        have e1 : (nextUp (takeP st1 st1.next).1).next = (st1.next + 1) % 1024 := by simp only [nextUp, hf.1]
        rw [e1, show ((st1.next + 1) % 1024 + (j - 1)) % 1024 = (st1.next + j) % 1024 by omega]
        show (takeP st1 st1.next).1.m _ = none
        rw [take_m]
        split
        · rfl
        · exact hjn
      have hnext := hf.1
      obtain ⟨R, hRR⟩ : ∃ R, R = takeP st1 st1.next := ⟨_, rfl⟩
      rw [← hRR] at HT2 HTL HFI hjn2 hnext
      have HJ2 := Lib.hid hjn2
      have HJ1 := Lib.hid hj1
      have HNX := Lib.hid hnext
      have hand : bits BinOp.and IntKind.i64 ((st1.next : Int) + 1) 1023 = (((st1.next + 1) % 1024 : Nat) : Int) := by rw [and1023]; omega
      clear htk hfin hjn hf hjn2 hm hRR HTK HFIN HJN hfj hj1 hnext
      obtain ⟨A4, c4, vs4, rfl, hc4, hm4, _⟩ := hO.one
      generalize hnn : (st1.next + 1) % 1024 = nn at *
      have HNN := Lib.hid hnn
      clear hnn
      go_wp2_with (first
        | (go_at_call 156; refine HT2.out.mono ?_; rintro e1 w1 ⟨vb', vo', rfl, hR1, hO1, hK1⟩; obtain ⟨A2, c2, vs2, rfl, hc2, hm2', hrow2, hsl2, hone2, heach2⟩ := hO1.one; obtain ⟨A5, c5, vs5, e5, _, _, hrow5, _, _, heach5⟩ := (hO.keptR HH.out.hlo hK1 HH.out.hg HH.out.hM).one; cases e5)
        | (at_builtin; refine wpList_append_sl _ rfl (.tmp 17) (.tmp 18) 22 rfl w.heap.size 29 j0 (.slice none 0 0) 24 und22 hj0 hm0 hm1 hm2 rfl _ outs.length vs5 rfl hrow5 _ A2 R.2.length c2 vs2 rfl hsl2 hone2 ?c2 ?c3 ?c4 ?_))
      case c2 => have := HOL.out; have := HTL.out.2; unfold maxLen; omega
      case c3 => have := HOL.out; have := HTL.out.2; omega
      case c4 => exact HK.out.trans hK1 |>.size
      intro v6 w6 hown6 hgrow6 _
      have hR6 := hR1.rowGrown hrow5 HH.out.hhi hgrow6
      have hO6 := OutIs.app hrow5 heach5 hrow2 heach2 hown6 hgrow6
      have hK6 := (HK.out.trans hK1).row hrow5 hgrow6
      obtain ⟨x0, x1, x2, x3, x4, x5', x6, x7, x8, x9, x10⟩ := hR6.cells
      rw [HNX.out] at x5'
      have f5 := hR6.blk.frozen 5
      have hR7 := hR6.put 5 (.int .i64 nn) (vb' := vb') (st' := nextUp R.1) (by unfold nextUp; rw [HNX.out, HNN.out]; rfl) rfl hR6.row
      have hO7 := hO6.set HH.out.hlo HH.out.hg 5 (.int .i64 nn)
      have hK7 := hK6.setCell (p := ⟨g, 5, none⟩) (fun _ _ => .inl rfl) (.int .i64 nn)
      have HR7 := Lib.hid hR7
      have HO7 := Lib.hid hO7
      have HK7 := Lib.hid hK7
      clear hR6 hO6 hK6 hR7 hO7 hK7 hrow5 heach5 hrow2 heach2 hown6 hgrow6 hsl2 hone2 hR1 hO1 hK1 hO x0 x1 x2 x3 x4 x6 x7 x8 x9 x10 x5
      go_wp2
      go_roundg f'
      case measure => rw [HGK.out]; omega
      case rel =>
        refine ⟨f', j - 1, nextUp R.1, outs ++ R.2, vb', _, rfl, rfl, HR7.out, HTL.out.1.nextUp, HO7.out, HK7.out, ?_, by have := HOL.out; have := HTL.out.2; rw [List.length_append]; omega, by have := HJF.out; have := HJ1.out; omega, HJ2.out⟩
        rw [HFI.out]
        simp
end Go.Proofs.Ytchlbpfeiamieaa
