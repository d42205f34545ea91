/- law32: UmrecvOrder walked. -/
import Derived.Test.YtchlbpfeiamieaaTj
import Derived.Test.YtchlbpfeiamieaaSj
import Derived.Test.YtchlbpfeiamieaaTp
import Derived.Test.YtchlbpfeiamieaaTz
import Derived.Test.YtchlbpfeiamieaaTt
import Derived.Test.YtchlbpfeiamieaaS6
namespace Go.Proofs.Ytchlbpfeiamieaa
open Go.RowKit Go.Shelf
attribute [local go_sem] Oper.semAt_some

theorem add_pair (a : Addr) (m : Nat) : (⟨(a.add m).block, (a.add m).off + 1, none⟩ : Addr) = a.add (m + 1) := by
  by_cases hm : m = 0
  · subst hm
    simp [Addr.add]
  · have hmi : ¬ m + 1 = 0 := by omega
    simp [Addr.add, hm, Nat.add_assoc]
/-- the relation of the loop of receptions -/
def OrdRel (w0 : World) (sizes : List UInt8) (sdus : List (List UInt8)) (N np gk : Nat) (s13 s14 s15 : Value) (wr : World) : Prop :=
  ∃ (i now : Nat) (st : Rs) (got : List (List UInt8)), gk = np - i ∧ i ≤ np ∧ s15 = .int .i64 (i : Nat) ∧ s14 = .int .i64 (now : Nat) ∧ now ≤ 255 * i ∧
    TxAll sdus N (pdAt sizes sdus) (fun i => (txAt sizes sdus i).1) (fun i => (txAt sizes sdus i).2) st got ∧ st.next ≤ N ∧ Got w0 (w0.heap.size + 2) (w0.heap.size + 1) w0.heap.size i st s13 got wr
/-- the relation of the search -/
def FindRel (wb : World) (sdus got : List (List UInt8)) (gk : Nat) (s20 s21 : Value) (wr : World) : Prop :=
  ∃ i k : Nat, gk = got.length - i ∧ i ≤ got.length ∧ k ≤ sdus.length ∧ s20 = .int .i64 (k : Nat) ∧ s21 = .int .i64 (i : Nat) ∧ greedy (sdus.drop k) (got.drop i) = true ∧ Drew wb wr
theorem drop_get {l : List (List UInt8)} {i : Nat} (h : i < l.length) : l.drop i = l[i]?.getD [] :: l.drop (i + 1) := by
  rw [List.drop_eq_getElem_cons h, List.getElem?_eq_getElem h]
  rfl
theorem greedy_step {s g : List (List UInt8)} {x : List UInt8} (h : greedy s (x :: g) = true) : ∃ r, seek x s = some r ∧ greedy r g = true := by
  unfold greedy at h
  split at h
  · cases h
  · rename_i r e
    exact ⟨r, e, h⟩
theorem sublist_doneAt {sdus : List (List UInt8)} {left : Nat → List (List UInt8)} {i : Nat} {got : List (List UInt8)} (h : got.Sublist (doneAt sdus left i)) : got.Sublist sdus := h.trans (List.take_sublist _ _)

set_option maxRecDepth 100000 in
set_option maxHeartbeats 4000000 in
theorem umrecvOrder_walk (dur : Int) (A : Option Addr) (n c : Nat) (vs : List Value) (sdus : List (List UInt8)) (B : Option Addr) (m d : Nat) (sizes : List UInt8) (C : Option Addr) (np cp : Nat) (picks : List (UInt8 × UInt8)) (w : World)
    (hx : -9223372036854775808 ≤ dur ∧ dur ≤ 9223372036854775807) (h : Sls w w.heap.size A n c vs sdus) (k : Sl w w.heap.size B m d (bvs sizes)) (hp : SlP w w.heap.size C np cp picks) :
    Calls Try.prog 15 #[.int .i64 dur, .slice A n c, .slice B m d, .slice C np cp] w (IsTrue w) := by
  obtain ⟨j0, hj0, hm0, hm1, hm2⟩ := info_parts sl_info
  have hval := valid32_any A n c vs sdus w h
  have hcap := h.sl.cap
  have hmx := h.sl.mx
  have kcap := k.cap
  have kmx := k.mx
  have pcap := hp.cap
  have pmx := hp.mx
  have hlen := h.len
  cases hvb : validS sdus with
  | false =>
    rw [hvb] at hval
    go_enter Try.func15, Try.ntmps15
    go_wp2_with (first | (go_at_call 65; refine hval.mono ?_; rintro e1 w1 ⟨rfl, rfl⟩) | (go_at_call 31; refine (works32_any _).mono ?_; rintro e1 w1 ⟨rfl, hb1⟩))
    go_ret
    exact ⟨rfl, hb1⟩
  | true =>
    rw [hvb] at hval
    by_cases h80 : 80 < np
    · clear h k hp
      go_enter Try.func15, Try.ntmps15
      go_wp2_with (first | (go_at_call 65; refine hval.mono ?_; rintro e1 w1 ⟨rfl, rfl⟩) | (go_at_call 31; refine (works32_any _).mono ?_; rintro e1 w1 ⟨rfl, hb1⟩))
      go_ret
      exact ⟨rfl, hb1⟩
    obtain ⟨h8, hv⟩ := validS_iff.1 hvb
    obtain ⟨N, hN1, hN2, hN3⟩ := txAt_end sizes hv h8
    have hN : SentAll sizes sdus N := ⟨hN1, hN2, hN3⟩
    have hsent := sent_any A n c vs sdus B m d sizes w N h k h8 hv hN
    have hn8 : n ≤ 8 := by omega
    by_cases hdb : dur < 1 ∨ 1048576 < dur
    · have HSE := Lib.hid hsent
      have hnb := fun W => rnew_bad dur W hdb
      clear h k hp hsent hN hN2 hN3 hv hvb h8
      go_enter Try.func15, Try.ntmps15
      go_wp2_with (first
        | (go_at_call 65; refine hval.mono ?_; rintro e1 w1 ⟨rfl, rfl⟩)
        | (go_at_call 66; refine HSE.out.mono ?_; rintro e1 w1 ⟨AL, cL, vL, rfl, hL, hb1⟩)
        | (go_at_call 67; refine (hnb w1).mono ?_; rintro e2 w2 ⟨rfl, rfl⟩)
        | (go_at_call 34; refine (num32_any _ _).mono ?_; rintro e3 w3 ⟨rfl, rfl⟩)
        | (go_at_call 31; refine (works32_any _).mono ?_; rintro e4 w4 ⟨rfl, hb4⟩))
      go_ret
      exact ⟨rfl, hb1.trans (hb4.mono hb1.size)⟩
    have hd1 : 1 ≤ dur := by omega
    have hd2 : dur ≤ 1048576 := by omega
    have HH := Lib.hid h
    have HP := Lib.hid hp
    have HV := Lib.hid hv
    have HN := Lib.hid hN
    have HT := Lib.hid (txAt_tx sizes hv hN.le hN.ne)
    have HLEN := Lib.hid hlen
    have HSE := Lib.hid hsent
    clear hN2 hN3 hN hvb h k hp hv hlen hsent h8 hdb
    go_enter Try.func15, Try.ntmps15
    go_wp2_with (first
      | (go_at_call 65; refine hval.mono ?_; rintro e1 w1 ⟨rfl, rfl⟩)
      | (go_at_call 66; refine HSE.out.mono ?_; rintro e1 w1 ⟨AL, cL, vL, rfl, hL, hb1⟩)
      | (go_at_call 67; refine (rnew_ok dur w1 hd1 hd2).mono ?_; rintro e2 w2 hr; obtain ⟨rfl, hG⟩ := Got.start dur hr hd1 hd2; clear hr)
      | (go_at_call 34; refine (num32_any _ _).mono ?_; rintro e3 w3 ⟨rfl, rfl⟩))
    have hLc := hL.sl.cap
    have hLm := hL.sl.mx
    have HG := Lib.hid hG
    have HL := Lib.hid hL
    have HB1 := Lib.hid hb1
    clear hG hL hb1 hval HSE
    have hsubl : ∀ (st : Rs) (got : List (List UInt8)), TxAll sdus N (pdAt sizes sdus) (fun i => (txAt sizes sdus i).1) (fun i => (txAt sizes sdus i).2) st got → got.length ≤ 8 ∧ got.Sublist sdus := fun st got hh => by
      have h1 := sublist_doneAt hh.tx.sub
      have h2 := h1.length_le
      have h3 := HLEN.out
      exact ⟨by omega, h1⟩
    have HSL := Lib.hid hsubl
    clear hsubl
    go_loopg [13, 14, 15] np (fun gk s13 s14 s15 wr => OrdRel w1 sizes sdus N np gk s13 s14 s15 wr)
    case atStart => exact ⟨0, 0, newRs dur, [], by omega, Nat.zero_le _, rfl, rfl, by omega, TxAll.start HT.out hd1 (by omega), by simp [newRs], HG.out⟩
    case round =>
      obtain ⟨i, now, st, got, hgk, hinp, rfl, rfl, hnow, htx, hst, hG2⟩ := hrel
      have HGK := Lib.hid hgk
      have HG2 := Lib.hid hG2
      have HTX := Lib.hid htx
      have HST := Lib.hid hst
      have hgl := (HSL.out st got htx).1
      clear hgk hG2 HG htx hst
      obtain ⟨A4, c4, vs4, rfl, hrow4, hcc4, hcm4, _⟩ := HG2.out.row
      clear hrow4
      by_cases hlt : i < np ∧ 0 < N
      · obtain ⟨hlt, hN0⟩ := hlt
        obtain ⟨pd, x, rfl, hpb, hpx, hp0, hp1⟩ := (HP.out.below (HB1.out.trans (HG2.out.bel.mono HB1.out.size))).get hlt
        obtain ⟨y0, y1⟩ := x
        dsimp only at hp0 hp1
        have hy0 := y0.toNat_lt
        have hy1 := y1.toNat_lt
        obtain ⟨q, hq⟩ : ∃ q, q = y0.toNat % N := ⟨_, rfl⟩
        have hqN : q < N := by rw [hq]; exact Nat.mod_lt _ hN0
        obtain ⟨ad, Ai, ci, rfl, hba, hc, hsl⟩ := ((HL.out.below HG2.out.bel).more HG2.out.bel.size).get hqN
        rw [encs_get sizes sdus hqN, Option.getD_some] at hc hsl
        have hpo : PdOk (pdAt sizes sdus q) := HT.out.ok q hqN
        have hel := encAt_len HV.out (HN.out.ne q hqN)
        have hrc := HG2.out.recv ((now : Int) + (y1.toNat : Int)) Ai _ ci (encAt sizes sdus q) (pdAt sizes sdus q) (by omega) hsl hel.2 (encAt_dec HV.out (HN.out.ne q hqN) (by omega)) hpo (by omega)
        have hrl := HTX.out.recv HT.out HST.out (now := (now : Int) + (y1.toNat : Int)) (by omega) hqN
        have hcs1 := hsl.cap
        have hms1 := hsl.mx
        generalize recvP st ((now : Int) + (y1.toNat : Int)) (pdAt sizes sdus q) = R at *
        have hrl2 := (HSL.out _ _ hrl.1).1
        rw [List.length_append] at hrl2
        have HRC := Lib.hid hrc
        have HRL := Lib.hid hrl
        have hqi : (y0.toNat : Int) % (N : Int) = (q : Int) := by rw [hq]; omega
        rw [← add_pair] at hp1
        unfold bv at hp0 hp1
        have HP0 := Lib.hid hp0
        clear hrc hsl hpo hrl hpx hq
        go_wp2_with fail
        refine HRC.out.mono ?_
        rintro e1 w2 ⟨vo, rfl, hG3, hO3⟩
        obtain ⟨A2, c2, vs2, rfl, hc2, hm2', hrow2, hsl2, hone2, _⟩ := hO3.one
        obtain ⟨A5, c5, vs5, e5, hrow5, _⟩ := hG3.row
        cases e5
        go_wp2_with (first
          | (go_at_call 34; refine (num32_any _ _).mono ?_; rintro e3 w3 ⟨rfl, rfl⟩)
          | (at_builtin; refine wpList_append_sl _ rfl (.tmp 97) (.tmp 98) 22 rfl (w1.heap.size + 2) 29 j0 (.slice none 0 0) 24 und22 hj0 hm0 hm1 hm2 rfl _ got.length vs5 rfl hrow5 _ A2 R.2.length c2 vs2 rfl hsl2 hone2 ?c2 ?c3 ?c4 ?_))
        case c2 => unfold maxLen; omega
        case c3 => omega
        case c4 => exact hG3.lo_le
        intro v6 w6 hown6 hgrow6 hb6
        have hG6 := hG3.app hO3 hrow5 hrow2 hown6 hgrow6 hb6
        have HG6 := Lib.hid hG6
        clear hG6 hG3 hO3 hrow5 hrow2 hown6 hgrow6 hb6 hsl2 hone2
        go_wp2
        go_roundg (np - (i + 1))
        case measure => rw [HGK.out]; omega
        case rel => exact ⟨i + 1, now + y1.toNat, R.1, got ++ R.2, rfl, by omega, by go_num, by go_num, by omega, HRL.out.1, HRL.out.2, HG6.out⟩
      · by_cases hnp : i < np
        · have hN0 : ¬ (N : Int) > 0 := by omega
          go_upto_region 17 with (fail)
          have htk := HG2.out.tick ((now : Int) + 1048576) (by omega)
          have hgo := (HTX.out.goes HT.out HST.out (now := (now : Int) + 1048576) (by omega)).1
          generalize goesP st ((now : Int) + 1048576) = R at *
          have hgs := HSL.out _ _ hgo
          have hgl2 := hgs.1
          rw [List.length_append] at hgl2
          have HSUBL := Lib.hid hgs.2
          have HTK := Lib.hid htk
          clear htk hgo hgs
          go_wp2_with (first
            | (go_at_call 33; refine HTK.out.mono ?_; rintro e1 w2 ⟨vo, rfl, hG3, hO3⟩; obtain ⟨A2, c2, vs2, rfl, hc2, hm2', hrow2, hsl2, hone2, _⟩ := hO3.one; obtain ⟨A5, c5, vs5, e5, hrow5, _⟩ := hG3.row; cases e5)
            | (at_builtin; refine wpList_append_sl _ rfl (.tmp 107) (.tmp 108) 22 rfl (w1.heap.size + 2) 29 j0 (.slice none 0 0) 24 und22 hj0 hm0 hm1 hm2 rfl _ got.length vs5 rfl hrow5 _ A2 R.2.length c2 vs2 rfl hsl2 hone2 ?c2 ?c3 ?c4 ?_))
          case c2 => unfold maxLen; omega
          case c3 => omega
          case c4 => exact hG3.lo_le
          intro v6 w6 hown6 hgrow6 hb6
          have hG6 := hG3.app hO3 hrow5 hrow2 hown6 hgrow6 hb6
          have hgr := greedy_of HSUBL.out
          have hall : (got ++ R.2).length ≤ 8 := by rw [List.length_append]; exact hgl2
          obtain ⟨A6, c6, vs6, rfl, _, hc6, hm6, hs6⟩ := hG6.row
          have hBW : Below w.heap.size w w6 := HB1.out.trans (hG6.bel.mono HB1.out.size)
          have hSD := (HH.out.below hBW).more hBW.size
          have HBW := Lib.hid hBW
          have HS6 := Lib.hid hs6
          have HSD := Lib.hid hSD
          have HGR := Lib.hid hgr
          clear hG6 hG3 hO3 hrow5 hrow2 hown6 hgrow6 hb6 hsl2 hone2 hBW hs6 hSD hgr HG2 HTX HST HL HSUBL HTK HP HGK
          generalize got ++ R.2 = all at *
          go_wp2_with fail
          go_loopg [20, 21] all.length (fun gk s20 s21 wr => FindRel w6 sdus all gk s20 s21 wr)
          case atStart => exact ⟨0, 0, by omega, Nat.zero_le _, Nat.zero_le _, rfl, rfl, by simpa using HGR.out, Drew.refl _⟩
          case round =>
            obtain ⟨i2, k, hgk, hil, hkl, rfl, rfl, hg, hdr⟩ := hrel
            obtain ⟨wq, rfl⟩ : ∃ wq : World, wq = wr := ⟨_, rfl⟩
            have HGK2 := Lib.hid hgk
            have HDR := Lib.hid hdr
            clear hgk hdr HGR
            by_cases hlt2 : i2 < all.length
            · rw [drop_get hlt2] at hg
              obtain ⟨r, hr1, hr2⟩ := greedy_step hg
              have HR1 := Lib.hid hr1
              have HR2 := Lib.hid hr2
              clear hg hr1 hr2
              go_wp2_with fail
              go_loopg [20] (n - k) (fun gj s20 wr => ∃ k' : Nat, gj = n - k' ∧ k' ≤ n ∧ s20 = .int .i64 (k' : Nat) ∧ seek (all[i2]?.getD []) (sdus.drop k') = some r ∧ Drew w6 wr)
              case atStart => exact ⟨k, rfl, by have := HLEN.out; omega, rfl, HR1.out, HDR.out⟩
              case round =>
                obtain ⟨k', hgj, hkn', rfl, hsk, hdr'⟩ := hrel
                have HGJ := Lib.hid hgj
                have hk'n : k' < n := by
                  rcases Nat.lt_or_ge k' n with hh | hh
                  · exact hh
                  · rw [List.drop_eq_nil_of_le (by have := HLEN.out; omega)] at hsk
                    simp [seek] at hsk
                rw [drop_get (by have := HLEN.out; omega)] at hsk
                obtain ⟨ad1, Ai, ci, rfl, hba1, hca, hsa⟩ := (HSD.out.drewn hdr').get hk'n
                obtain ⟨ad2, Bi, di, rfl, hba2, hcb, hsb⟩ := (HS6.out.drewn hdr').get hlt2
                have hcsa := hsa.cap
                have hmsa := hsa.mx
                have hcsb := hsb.cap
                have hmsb := hsb.mx
                generalize hpp : sdus[k']?.getD [] = p at *
                generalize hqq : all[i2]?.getD [] = q at *
                have hsm := fun q' => same32_any Ai Bi p.length ci q.length di p q (wr.drewN q') ((hsa.more (Nat.le_of_eq hdr'.size.symm)).drewN q') ((hsb.more (Nat.le_of_eq hdr'.size.symm)).drewN q')
                obtain ⟨bq, hbq⟩ : ∃ bq : Bool, bq = (p == q) := ⟨_, rfl⟩
                simp only [← hbq] at hsm
                have hkI : (k' : Int) < (n : Int) := by omega
                have hkI0 : (0 : Int) ≤ (k' : Int) := by omega
                have hiI : (i2 : Int) < (all.length : Int) := by omega
                have hiI0 : (0 : Int) ≤ (i2 : Int) := by omega
                have hkB : decide ((k' : Int) < (n : Int)) = true := by simp; omega
                have HBQ := Lib.hid hbq
                have HSM := Lib.hid hsm
                have HDR' := Lib.hid hdr'
                have HSK := Lib.hid hsk
                clear hgj hsa hsb hsm hbq hsk hdr' hpp
                go_wp2_with fail
                go_quiet ((go_at_call 68; exact Calls.quiet_of_same ((HSM.out _).mono fun _ _ hh => ⟨hh.1, hh.2.symm⟩)))
                cases bq with
                | true =>
                  have hpq : p = q := eq_of_beq HBQ.out.symm
                  have hrr : r = sdus.drop (k' + 1) := by
                    have hh := HSK.out
                    unfold seek at hh
                    rw [if_pos hpq] at hh
                    exact (Option.some.inj hh).symm
                  have HRR := Lib.hid hrr
                  have hke : ((k' : Int) == (n : Int)) = false := by simp; omega
                  have hDN := HDR'.out.more nq
                  have HDN := Lib.hid hDN
                  clear hpq hrr hDN
                  go_wp2
                  go_roundg (all.length - (i2 + 1))
                  case measure => rw [HGK2.out]; omega
                  case rel => exact ⟨i2 + 1, k' + 1, rfl, by omega, by have := HLEN.out; omega, by go_num, by go_num, by rw [← HRR.out]; exact HR2.out, HDN.out⟩
                | false =>
                  have hpq : ¬ p = q := fun e => by have := HBQ.out; rw [e] at this; simp at this
                  have hrr : seek q (sdus.drop (k' + 1)) = some r := by
                    have hh := HSK.out
                    unfold seek at hh
                    rwa [if_neg hpq] at hh
                  have HRR := Lib.hid hrr
                  have HDN := Lib.hid (HDR'.out.more nq)
                  clear hpq hrr
                  go_wp2
                  go_roundg (n - (k' + 1))
                  case measure => rw [HGJ.out]; omega
                  case rel => exact ⟨k' + 1, rfl, by omega, by go_num, HRR.out, HDN.out⟩
            · have hdr := HDR.out
              go_wp2_with (first | (go_at_call 34; refine (num32_any _ _).mono ?_; rintro e3 w3 ⟨rfl, rfl⟩) | (go_at_call 31; refine (works32_any _).mono ?_; rintro e1 w9 ⟨rfl, hb9⟩))
              go_ret
              have hbd := HDR.out.below w.heap.size
              exact ⟨rfl, (HBW.out.trans hbd).trans (hb9.mono (by have := HBW.out.size; have := hbd.size; omega))⟩
        · have hN0 : decide ((i : Int) < (np : Int)) = false := by simp; omega
          go_upto_region 17 with (fail)
          have htk := HG2.out.tick ((now : Int) + 1048576) (by omega)
          have hgo := (HTX.out.goes HT.out HST.out (now := (now : Int) + 1048576) (by omega)).1
          generalize goesP st ((now : Int) + 1048576) = R at *
          have hgs := HSL.out _ _ hgo
          have hgl2 := hgs.1
          rw [List.length_append] at hgl2
          have HSUBL := Lib.hid hgs.2
          have HTK := Lib.hid htk
          clear htk hgo hgs
          go_wp2_with (first
            | (go_at_call 33; refine HTK.out.mono ?_; rintro e1 w2 ⟨vo, rfl, hG3, hO3⟩; obtain ⟨A2, c2, vs2, rfl, hc2, hm2', hrow2, hsl2, hone2, _⟩ := hO3.one; obtain ⟨A5, c5, vs5, e5, hrow5, _⟩ := hG3.row; cases e5)
            | (at_builtin; refine wpList_append_sl _ rfl (.tmp 107) (.tmp 108) 22 rfl (w1.heap.size + 2) 29 j0 (.slice none 0 0) 24 und22 hj0 hm0 hm1 hm2 rfl _ got.length vs5 rfl hrow5 _ A2 R.2.length c2 vs2 rfl hsl2 hone2 ?c2 ?c3 ?c4 ?_))
          case c2 => unfold maxLen; omega
          case c3 => omega
          case c4 => exact hG3.lo_le
          intro v6 w6 hown6 hgrow6 hb6
          have hG6 := hG3.app hO3 hrow5 hrow2 hown6 hgrow6 hb6
          have hgr := greedy_of HSUBL.out
          have hall : (got ++ R.2).length ≤ 8 := by rw [List.length_append]; exact hgl2
          obtain ⟨A6, c6, vs6, rfl, _, hc6, hm6, hs6⟩ := hG6.row
          have hBW : Below w.heap.size w w6 := HB1.out.trans (hG6.bel.mono HB1.out.size)
          have hSD := (HH.out.below hBW).more hBW.size
          have HBW := Lib.hid hBW
          have HS6 := Lib.hid hs6
          have HSD := Lib.hid hSD
          have HGR := Lib.hid hgr
          clear hG6 hG3 hO3 hrow5 hrow2 hown6 hgrow6 hb6 hsl2 hone2 hBW hs6 hSD hgr HG2 HTX HST HL HSUBL HTK HP HGK
          generalize got ++ R.2 = all at *
          go_wp2_with fail
          go_loopg [20, 21] all.length (fun gk s20 s21 wr => FindRel w6 sdus all gk s20 s21 wr)
          case atStart => exact ⟨0, 0, by omega, Nat.zero_le _, Nat.zero_le _, rfl, rfl, by simpa using HGR.out, Drew.refl _⟩
          case round =>
            obtain ⟨i2, k, hgk, hil, hkl, rfl, rfl, hg, hdr⟩ := hrel
            obtain ⟨wq, rfl⟩ : ∃ wq : World, wq = wr := ⟨_, rfl⟩
            have HGK2 := Lib.hid hgk
            have HDR := Lib.hid hdr
            clear hgk hdr HGR
            by_cases hlt2 : i2 < all.length
            · rw [drop_get hlt2] at hg
              obtain ⟨r, hr1, hr2⟩ := greedy_step hg
              have HR1 := Lib.hid hr1
              have HR2 := Lib.hid hr2
              clear hg hr1 hr2
              go_wp2_with fail
              go_loopg [20] (n - k) (fun gj s20 wr => ∃ k' : Nat, gj = n - k' ∧ k' ≤ n ∧ s20 = .int .i64 (k' : Nat) ∧ seek (all[i2]?.getD []) (sdus.drop k') = some r ∧ Drew w6 wr)
              case atStart => exact ⟨k, rfl, by have := HLEN.out; omega, rfl, HR1.out, HDR.out⟩
              case round =>
                obtain ⟨k', hgj, hkn', rfl, hsk, hdr'⟩ := hrel
                have HGJ := Lib.hid hgj
                have hk'n : k' < n := by
                  rcases Nat.lt_or_ge k' n with hh | hh
                  · exact hh
                  · rw [List.drop_eq_nil_of_le (by have := HLEN.out; omega)] at hsk
                    simp [seek] at hsk
                rw [drop_get (by have := HLEN.out; omega)] at hsk
                obtain ⟨ad1, Ai, ci, rfl, hba1, hca, hsa⟩ := (HSD.out.drewn hdr').get hk'n
                obtain ⟨ad2, Bi, di, rfl, hba2, hcb, hsb⟩ := (HS6.out.drewn hdr').get hlt2
                have hcsa := hsa.cap
                have hmsa := hsa.mx
                have hcsb := hsb.cap
                have hmsb := hsb.mx
                generalize hpp : sdus[k']?.getD [] = p at *
                generalize hqq : all[i2]?.getD [] = q at *
                have hsm := fun q' => same32_any Ai Bi p.length ci q.length di p q (wr.drewN q') ((hsa.more (Nat.le_of_eq hdr'.size.symm)).drewN q') ((hsb.more (Nat.le_of_eq hdr'.size.symm)).drewN q')
                obtain ⟨bq, hbq⟩ : ∃ bq : Bool, bq = (p == q) := ⟨_, rfl⟩
                simp only [← hbq] at hsm
                have hkI : (k' : Int) < (n : Int) := by omega
                have hkI0 : (0 : Int) ≤ (k' : Int) := by omega
                have hiI : (i2 : Int) < (all.length : Int) := by omega
                have hiI0 : (0 : Int) ≤ (i2 : Int) := by omega
                have hkB : decide ((k' : Int) < (n : Int)) = true := by simp; omega
                have HBQ := Lib.hid hbq
                have HSM := Lib.hid hsm
                have HDR' := Lib.hid hdr'
                have HSK := Lib.hid hsk
                clear hgj hsa hsb hsm hbq hsk hdr' hpp
                go_wp2_with fail
                go_quiet ((go_at_call 68; exact Calls.quiet_of_same ((HSM.out _).mono fun _ _ hh => ⟨hh.1, hh.2.symm⟩)))
                cases bq with
                | true =>
                  have hpq : p = q := eq_of_beq HBQ.out.symm
                  have hrr : r = sdus.drop (k' + 1) := by
                    have hh := HSK.out
                    unfold seek at hh
                    rw [if_pos hpq] at hh
                    exact (Option.some.inj hh).symm
                  have HRR := Lib.hid hrr
                  have hke : ((k' : Int) == (n : Int)) = false := by simp; omega
                  have hDN := HDR'.out.more nq
                  have HDN := Lib.hid hDN
                  clear hpq hrr hDN
                  go_wp2
                  go_roundg (all.length - (i2 + 1))
                  case measure => rw [HGK2.out]; omega
                  case rel => exact ⟨i2 + 1, k' + 1, rfl, by omega, by have := HLEN.out; omega, by go_num, by go_num, by rw [← HRR.out]; exact HR2.out, HDN.out⟩
                | false =>
                  have hpq : ¬ p = q := fun e => by have := HBQ.out; rw [e] at this; simp at this
                  have hrr : seek q (sdus.drop (k' + 1)) = some r := by
                    have hh := HSK.out
                    unfold seek at hh
                    rwa [if_neg hpq] at hh
                  have HRR := Lib.hid hrr
                  have HDN := Lib.hid (HDR'.out.more nq)
                  clear hpq hrr
                  go_wp2
                  go_roundg (n - (k' + 1))
                  case measure => rw [HGJ.out]; omega
                  case rel => exact ⟨k' + 1, rfl, by omega, by go_num, HRR.out, HDN.out⟩
            · have hdr := HDR.out
              go_wp2_with (first | (go_at_call 34; refine (num32_any _ _).mono ?_; rintro e3 w3 ⟨rfl, rfl⟩) | (go_at_call 31; refine (works32_any _).mono ?_; rintro e1 w9 ⟨rfl, hb9⟩))
              go_ret
              have hbd := HDR.out.below w.heap.size
              exact ⟨rfl, (HBW.out.trans hbd).trans (hb9.mono (by have := HBW.out.size; have := hbd.size; omega))⟩
end Go.Proofs.Ytchlbpfeiamieaa
