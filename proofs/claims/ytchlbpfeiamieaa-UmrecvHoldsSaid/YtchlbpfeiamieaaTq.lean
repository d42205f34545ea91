/- law32: UmrecvHolds walked. -/
import Derived.Test.YtchlbpfeiamieaaTv
import Derived.Test.YtchlbpfeiamieaaTp
import Derived.Test.YtchlbpfeiamieaaTz
import Derived.Test.YtchlbpfeiamieaaS6
namespace Go.Proofs.Ytchlbpfeiamieaa
open Go.RowKit Go.Shelf
attribute [local go_sem] Oper.semAt_some

/-- slices of the caller's memory -/
def Wants (w : World) (vals : List Value) (ws : List (List UInt8)) : Prop := ∀ (i : Nat) (p : List UInt8), ws[i]? = some p → ∃ A c, vals[i]? = some (.slice A p.length c) ∧ Sl w w.heap.size A p.length c (bvs p)
theorem Wants.snoc {w : World} {vals : List Value} {ws : List (List UInt8)} {A : Option Addr} {c : Nat} {p : List UInt8} (h : Wants w vals ws) (hl : vals.length = ws.length) (hs : Sl w w.heap.size A p.length c (bvs p)) : Wants w (vals ++ [.slice A p.length c]) (ws ++ [p]) := by
  intro i q hi
  rcases Nat.lt_or_ge i ws.length with hlt | hge
  · rw [List.getElem?_append_left hlt] at hi
    obtain ⟨A', c', e, ho⟩ := h i q hi
    exact ⟨A', c', by rw [List.getElem?_append_left (by omega)]; exact e, ho⟩
  · have hi0 : i = ws.length := by
      have := (List.getElem?_eq_some_iff.1 hi).1
      simp at this
      omega
    subst hi0
    simp at hi
    subst hi
    exact ⟨A, c, by rw [← hl]; simp, hs⟩
theorem Wants.sls {w wr : World} {base : Nat} {s : Value} {vals : List Value} {ws : List (List UInt8)} (h : Wants w vals ws) (hr : wr.ownsRow base 29 1 s ws.length vals) (hb : Below w.heap.size w wr) : ∃ A c, s = .slice A ws.length c ∧ Sls wr wr.heap.size A ws.length c vals ws := by
  obtain ⟨A, c, rfl, hs, _⟩ := own_sl hr
  refine ⟨A, c, rfl, hs, rfl, fun i p hi => ?_⟩
  obtain ⟨A', c', e, ho⟩ := h i p hi
  exact ⟨A', c', e, (ho.below hb).more hb.size⟩
/-- the relation of the loop of receptions -/
def HoldRel (w0 : World) (pd : Nat → Pd) (lost : Int) (N gk : Nat) (s11 s12 : Value) (wr : World) : Prop :=
  ∃ i : Nat, gk = N - i ∧ i ≤ N ∧ s12 = .int .i64 (i : Nat) ∧ (runH pd lost i).2.length ≤ 262144 * i ∧ Got w0 (w0.heap.size + 2) (w0.heap.size + 1) w0.heap.size i (runH pd lost i).1 s11 (runH pd lost i).2 wr
/-- the relation of the loop that gathers what is wanted -/
def WantRel (w wb : World) (sdus : List (List UInt8)) (fr te n gk : Nat) (s19 s20 s21 : Value) (wr : World) : Prop :=
  ∃ (i : Nat) (vals : List Value), gk = n - i ∧ i ≤ n ∧ s21 = .int .i64 (i : Nat) ∧ s20 = .int .i64 (lenAll (sdus.take i) : Nat) ∧ wr.ownsRow wb.heap.size 29 1 s19 (wantF fr te 0 (sdus.take i)).length vals ∧ Wants w vals (wantF fr te 0 (sdus.take i)) ∧ Below wb.heap.size wb wr

set_option maxRecDepth 100000 in
set_option maxHeartbeats 4000000 in
theorem umrecvHolds_walk (A : Option Addr) (n c : Nat) (vs : List Value) (sdus : List (List UInt8)) (B : Option Addr) (m d : Nat) (sizes : List UInt8) (lost : Int) (w : World)
    (h : Sls w w.heap.size A n c vs sdus) (k : Sl w w.heap.size B m d (bvs sizes)) (hx : -9223372036854775808 ≤ lost ∧ lost ≤ 9223372036854775807) :
    Calls Try.prog 16 #[.slice A n c, .slice B m d, .int .i64 lost] w (IsTrue w) := by
  obtain ⟨j0, hj0, hm0, hm1, hm2⟩ := info_parts sl_info
  have hval := valid32_any A n c vs sdus w h
  have hcap := h.sl.cap
  have hmx := h.sl.mx
  have kcap := k.cap
  have kmx := k.mx
  have hlen := h.len
  cases hvb : validS sdus with
  | false =>
    rw [hvb] at hval
    go_enter Try.func16, Try.ntmps16
    go_wp2_with (first | (go_at_call 65; refine hval.mono ?_; rintro e1 w1 ⟨rfl, rfl⟩) | (go_at_call 31; refine (works32_any _).mono ?_; rintro e1 w1 ⟨rfl, hb1⟩))
    go_ret
    exact ⟨rfl, hb1⟩
  | true =>
    rw [hvb] at hval
    obtain ⟨h8, hv⟩ := validS_iff.1 hvb
    obtain ⟨N, hN1, hN2, hN3⟩ := txAt_end sizes hv h8
    have hN : SentAll sizes sdus N := ⟨hN1, hN2, hN3⟩
    have hsent := sent_any A n c vs sdus B m d sizes w N h k h8 hv hN
    have hn8 : n ≤ 8 := by omega
    have HH := Lib.hid h
    have HV := Lib.hid hv
    have HN := Lib.hid hN
    have HLEN := Lib.hid hlen
    have HSE := Lib.hid hsent
    clear hN2 hN3 hN hvb h k hv hlen hsent h8
    go_enter Try.func16, Try.ntmps16
    go_wp2_with (first
      | (go_at_call 65; refine hval.mono ?_; rintro e1 w1 ⟨rfl, rfl⟩)
      | (go_at_call 66; refine HSE.out.mono ?_; rintro e1 w1 ⟨AL, cL, vL, rfl, hL, hb1⟩)
      | (go_at_call 67; refine (rnew_ok 3 w1 (by omega) (by omega)).mono ?_; rintro e2 w2 hr; obtain ⟨rfl, hG⟩ := Got.start 3 hr (by omega) (by omega); clear hr)
      | (go_at_call 34; refine (num32_any _ _).mono ?_; rintro e3 w3 ⟨rfl, rfl⟩))
    have hLc := hL.sl.cap
    have hLm := hL.sl.mx
    have HG := Lib.hid hG
    have HL := Lib.hid hL
    have HB1 := Lib.hid hb1
    clear hG hL hb1 hval HSE
    go_loopg [11, 12] N (fun gk s11 s12 wr => HoldRel w1 (pdAt sizes sdus) lost N gk s11 s12 wr)
    case atStart => exact ⟨0, by omega, Nat.zero_le _, rfl, by simp [runH], HG.out⟩
    case round =>
      obtain ⟨i, hgk, hiN, rfl, hlen2, hG2⟩ := hrel
      have HGK := Lib.hid hgk
      have HG2 := Lib.hid hG2
      clear hgk hG2 HG
      have hrun : runH (pdAt sizes sdus) lost (i + 1) = if (i : Int) = lost then runH (pdAt sizes sdus) lost i else ((recvP (runH (pdAt sizes sdus) lost i).1 0 (pdAt sizes sdus i)).1, (runH (pdAt sizes sdus) lost i).2 ++ (recvP (runH (pdAt sizes sdus) lost i).1 0 (pdAt sizes sdus i)).2) := rfl
      have HRUN := Lib.hid hrun
      clear hrun
      by_cases hlt : i < N
      · by_cases hil : (i : Int) = lost
        · have d1 : ((i : Int) == lost) = true := by simpa using hil
          have e1 := HRUN.out
          rw [if_pos hil] at e1
          have E1 := Lib.hid e1
          clear e1 hil
          go_wp2
          go_roundg (N - (i + 1))
          case measure => rw [HGK.out]; omega
          case rel => exact ⟨i + 1, rfl, by omega, by go_num, by rw [E1.out]; omega, by rw [E1.out]; exact HG2.out.mono (by omega)⟩
        · have d1 : ((i : Int) == lost) = false := by simpa using hil
          have e1 := HRUN.out
          rw [if_neg hil] at e1
          obtain ⟨ad, Ai, ci, rfl, hba, hc, hsl⟩ := ((HL.out.below HG2.out.bel).more HG2.out.bel.size).get hlt
          rw [encs_get sizes sdus hlt, Option.getD_some] at hc hsl
          have hp := pdAt_valid HV.out (HN.out.ne i hlt)
          have hpo : PdOk (pdAt sizes sdus i) := (txAt_tx sizes HV.out HN.out.le HN.out.ne).ok i hlt
          have hel := encAt_len HV.out (HN.out.ne i hlt)
          have hrc := HG2.out.recv 0 Ai _ ci (encAt sizes sdus i) (pdAt sizes sdus i) (by omega) hsl hel.2 (encAt_dec HV.out (HN.out.ne i hlt) (by omega)) hpo (by omega)
          have hrl := (HG2.out.ok.recv (now := 0) (by omega) hpo).2
          have hcs1 := hsl.cap
          have hms1 := hsl.mx
          generalize recvP (runH (pdAt sizes sdus) lost i).1 0 (pdAt sizes sdus i) = R at *
          have E1 := Lib.hid e1
          have HRC := Lib.hid hrc
          have HLEN2 := Lib.hid hlen2
          clear e1 hrc hsl hp hpo hil
          obtain ⟨A4, c4, vs4, rfl, hrow4, hcc4, hcm4, _⟩ := HG2.out.row
          have HRL := Lib.hid hrl
          clear hlen2 hrl hrow4
          go_wp2_with (first
            | (go_at_call 32; refine HRC.out.mono ?_; rintro e1 w2 ⟨vo, rfl, hG3, hO3⟩; obtain ⟨A2, c2, vs2, rfl, hc2, hm2', hrow2, hsl2, hone2, _⟩ := hO3.one; obtain ⟨A5, c5, vs5, e5, hrow5, _⟩ := hG3.row; cases e5)
            | (go_at_call 34; refine (num32_any _ _).mono ?_; rintro e3 w3 ⟨rfl, rfl⟩)
            | (at_builtin; refine wpList_append_sl _ rfl (.tmp 64) (.tmp 65) 22 rfl (w1.heap.size + 2) 29 j0 (.slice none 0 0) 24 und22 hj0 hm0 hm1 hm2 rfl _ (runH (pdAt sizes sdus) lost i).2.length vs5 rfl hrow5 _ A2 R.2.length c2 vs2 rfl hsl2 hone2 ?c2 ?c3 ?c4 ?_))
          case c2 => have := HLEN2.out; have := HRL.out; unfold maxLen; omega
          case c3 => have := HLEN2.out; have := HRL.out; omega
          case c4 => exact hG3.lo_le
          intro v6 w6 hown6 hgrow6 hb6
          have hG6 := hG3.app hO3 hrow5 hrow2 hown6 hgrow6 hb6
          have HG6 := Lib.hid hG6
          clear hG6 hG3 hO3 hrow5 hrow2 hown6 hgrow6 hb6 hsl2 hone2
          go_wp2
          go_roundg (N - (i + 1))
          case measure => rw [HGK.out]; omega
          case rel => exact ⟨i + 1, rfl, by omega, by go_num, by rw [E1.out]; have := HLEN2.out; have := HRL.out; simp; omega, by rw [E1.out]; exact HG6.out⟩
      · have hiN2 : i = N := by omega
        subst hiN2
        have hgl : (runH (pdAt sizes sdus) lost i).2.length ≤ 262144 * 200 := by omega
        obtain ⟨A4, c4, vs4, rfl, hrow4, hcc4, hcm4, hs4⟩ := HG2.out.row
        have hBW : Below w.heap.size w wr := HB1.out.trans (HG2.out.bel.mono HB1.out.size)
        have hSD := (HH.out.below hBW).more hBW.size
        by_cases hno : lost < 0 ∨ (i : Int) ≤ lost
        · have hall := holds_all sizes HV.out HN.out lost hno
          rw [hall] at hs4
          have hlg : (runH (pdAt sizes sdus) lost i).2.length = sdus.length := by rw [hall]
          have hli := lists32_any A4 A sdus.length c4 n c vs4 vs sdus sdus wr hs4 hSD
          rw [beq_self_eq_true] at hli
          rw [← hlg] at hli
          have HLI := Lib.hid hli
          have HBW := Lib.hid hBW
          clear hall hs4 hli hSD hrow4 hBW HRUN hlg
          have hfin : ∀ w9 w10 : World, Below wr.heap.size wr w9 → Below w9.heap.size w9 w10 → Below w.heap.size w w10 := fun w9 w10 h1 h2 => (HBW.out.trans (h1.mono HBW.out.size)).trans (h2.mono (Nat.le_trans HBW.out.size h1.size))
          by_cases hneg : lost < 0
          · go_wp2_with (first | (go_at_call 69; refine HLI.out.mono ?_; rintro e9 w9 ⟨rfl, hb9⟩) | (go_at_call 31; refine (works32_any _).mono ?_; rintro e1 w10 ⟨rfl, hb10⟩))
            go_ret
            exact ⟨rfl, hfin _ _ hb9 hb10⟩
          · have hge : (i : Int) ≤ lost := by omega
            go_wp2_with (first | (go_at_call 69; refine HLI.out.mono ?_; rintro e9 w9 ⟨rfl, hb9⟩) | (go_at_call 31; refine (works32_any _).mono ?_; rintro e1 w10 ⟨rfl, hb10⟩))
            go_ret
            exact ⟨rfl, hfin _ _ hb9 hb10⟩
        · obtain ⟨j, rfl⟩ := Int.eq_ofNat_of_zero_le (show 0 ≤ lost by omega)
          have hj : j < i := by omega
          have hlost := holds_lost sizes HV.out HN.out hj
          have htk := HG2.out.tick 3 (by omega)
          have htl := (HG2.out.ok.goes (now := 3) (by omega)).2
          have hby := fun W hW => bytes32_any AL i cL vL sizes sdus i j W hW HV.out HN.out hj
          generalize goesP (runH (pdAt sizes sdus) ((j : Nat) : Int) i).1 3 = R at *
          have HTK := Lib.hid htk
          have HLO := Lib.hid hlost
          have HBY := Lib.hid hby
          have d1 : ¬ ((j : Int) < 0) := by omega
          have d2 : ¬ ((i : Int) ≤ (j : Int)) := by omega
          clear hs4 hSD hrow4 hBW HRUN htk hlost hby hno
          generalize (bytesTo (fun i => sumLen (pdAt sizes sdus i).ps) j) = fr at *
          generalize (bytesTo (fun i => sumLen (pdAt sizes sdus i).ps) (j + 1)) = te at *
          go_wp2_with (first
            | (go_at_call 33; refine HTK.out.mono ?_; rintro e1 w2 ⟨vo, rfl, hG3, hO3⟩; obtain ⟨A2, c2, vs2, rfl, hc2, hm2', hrow2, hsl2, hone2, _⟩ := hO3.one; obtain ⟨A5, c5, vs5, e5, hrow5, _⟩ := hG3.row; cases e5)
            | (at_builtin; refine wpList_append_sl _ rfl (.tmp 86) (.tmp 87) 22 rfl (w1.heap.size + 2) 29 j0 (.slice none 0 0) 24 und22 hj0 hm0 hm1 hm2 rfl _ (runH (pdAt sizes sdus) ((j : Nat) : Int) i).2.length vs5 rfl hrow5 _ A2 R.2.length c2 vs2 rfl hsl2 hone2 ?c2 ?c3 ?c4 ?_))
          case c2 => unfold maxLen; omega
          case c3 => omega
          case c4 => exact hG3.lo_le
          intro v6 w6 hown6 hgrow6 hb6
          have hG6 := hG3.app hO3 hrow5 hrow2 hown6 hgrow6 hb6
          rw [HLO.out] at hG6
          obtain ⟨A6, c6, vs6, rfl, _, hc6, hm6, hs6⟩ := hG6.row
          have hby := HBY.out w6 ((HL.out.below hG6.bel).more hG6.bel.size)
          have HBW := Lib.hid (HB1.out.trans (hG6.bel.mono HB1.out.size))
          have HS6 := Lib.hid hs6
          have HBY2 := Lib.hid hby
          clear hG6 hG3 hO3 hrow5 hrow2 hown6 hgrow6 hb6 hsl2 hone2 hs6 hby HLO HBY HTK HG2 HL
          obtain ⟨wz, rfl⟩ : ∃ wz : World, wz = wr := ⟨_, rfl⟩
          go_wp2_with (go_at_call 70; refine HBY2.out.mono ?_; rintro e9 w9 ⟨rfl, hb9⟩)
          have hBW9 := HBW.out.trans (hb9.mono HBW.out.size)
          have HB9 := Lib.hid hb9
          have HBW9 := Lib.hid hBW9
          have hsum := sumLen_le60
          clear hb9 hBW9 HBY2
          go_loopg [19, 20, 21] n (fun gk s19 s20 s21 wr => WantRel w w9 sdus fr te n gk s19 s20 s21 wr)
          case atStart => exact ⟨0, [], by omega, Nat.zero_le _, rfl, rfl, World.ownsRow_nil _ _ _ _, fun i p hi => by simp [wantF] at hi, Below.refl _ _⟩
          case round =>
            obtain ⟨i2, vals, hgk, hin, rfl, rfl, hrow, hwants, hbr⟩ := hrel
            have HGK2 := Lib.hid hgk
            have HROW := Lib.hid hrow
            have HWA := Lib.hid hwants
            have HBR := Lib.hid hbr
            clear hgk hrow hwants hbr
            have hla : lenAll (sdus.take i2) ≤ 480 := by
              have h1 := hsum (sdus.take i2) (fun s hs => (HV.out s (List.mem_of_mem_take hs)).2)
              have h2 : (sdus.take i2).length ≤ 8 := by have := HLEN.out; simp; omega
              rw [lenAll_sumLen]
              omega
            by_cases hlt2 : i2 < n
            · obtain ⟨ad, Ai, ci, rfl, hba, hc, hsl⟩ := HH.out.get hlt2
              have hbW : Below w.heap.size w wr := HBW9.out.trans (HBR.out.mono HBW9.out.size)
              have hcw := (hbW.cell (p := ad.add i2) (by rw [block_add]; exact hba)).trans hc
              have hbk : (ad.add i2).block < wr.heap.size := by rw [block_add]; exact Nat.lt_of_lt_of_le hba hbW.size
              have hws := wantF_snoc (ps := sdus) (i := i2) (by have := HLEN.out; omega) fr te
              have hls := lenAll_snoc (ps := sdus) (i := i2) (by have := HLEN.out; omega)
              have hwl := wantF_len fr te (sdus.take i2) 0
              have htl2 : (sdus.take i2).length ≤ 8 := by have := HLEN.out; simp; omega
              have hp60 : (sdus[i2]?.getD []).length ≤ 60 := by
                rw [List.getElem?_eq_getElem (by have := HLEN.out; omega)]
                exact (HV.out _ (List.getElem_mem _)).2
              have hcs1 := hsl.cap
              have hms1 := hsl.mx
              generalize sdus[i2]?.getD [] = p at *
              generalize hLA : lenAll (sdus.take i2) = LA at *
              have HWS := Lib.hid hws
              have HLS := Lib.hid hls
              have HSL := Lib.hid hsl
              have HC := Lib.hid hc
              clear hws hls hsl hc hbW hLA
              go_upto_region 26 with (fail)
              go_cut [114] (fun s114 wx => s114 = .bool (decide (LA + p.length ≤ fr ∨ te ≤ LA)) ∧ wx = wr)
              case first =>
                by_cases h1 : LA + p.length ≤ fr
                · have hd : decide (LA + p.length ≤ fr ∨ te ≤ LA) = true := by simp [h1]
                  have h1' : (LA : Int) + (p.length : Int) ≤ (fr : Int) := by omega
                  have HD := Lib.hid hd
                  clear hd
                  go_wp2_with fail
                  go_meet
                  exact ⟨by rw [HD.out], rfl⟩
                · have h1' : ¬ (LA : Int) + (p.length : Int) ≤ (fr : Int) := by omega
                  by_cases h2 : te ≤ LA
                  · have hd : decide (LA + p.length ≤ fr ∨ te ≤ LA) = true := by simp [h2]
                    have h2' : (te : Int) ≤ (LA : Int) := by omega
                    have HD := Lib.hid hd
                    clear hd
                    go_wp2_with fail
                    go_meet
                    exact ⟨by rw [HD.out], rfl⟩
                  · have hd : decide (LA + p.length ≤ fr ∨ te ≤ LA) = false := decide_eq_false (by omega)
                    have h2' : ¬ (te : Int) ≤ (LA : Int) := by omega
                    have HD := Lib.hid hd
                    clear hd
                    go_wp2_with fail
                    go_meet
                    exact ⟨by rw [HD.out], rfl⟩
              case rest =>
                obtain ⟨rfl, rfl⟩ := hcut
                cases hcc : decide (LA + p.length ≤ fr ∨ te ≤ LA) with
                | true =>
                  have hcc' : LA + p.length ≤ fr ∨ te ≤ LA := by simpa using hcc
                  have hws := HWS.out
                  rw [if_pos hcc'] at hws
                  have HWS2 := Lib.hid hws
                  have hrow := HROW.out
                  clear hws hcc hcc'
                  go_wp2_with (at_builtin; refine wpList_append_sl _ rfl (.tmp 115) (.tmp 120) 22 rfl w9.heap.size 29 j0 (.slice none 0 0) 24 und22 hj0 hm0 hm1 hm2 rfl _ _ vals rfl (hrow.alloc _) _ _ 1 1 [.slice Ai p.length ci] rfl (sl_new0 wc _ 29) ?c1 ?c2 ?c3 ?c4 ?_)
                  case c1 => simp [Value.oneCell']
                  case c2 => unfold maxLen; omega
                  case c3 => omega
                  case c4 => have := HBR.out.size; simp; omega
                  intro v8 w8 hown8 hgrow8 _
                  have hb8 := (HBR.out.alloc HBR.out.size (.cells #[.slice Ai p.length ci] 29)).grown hgrow8 (by have := HBR.out.size; simp; omega) (fun k hk => (hrow.lt k hk).1)
                  have HB8 := Lib.hid hb8
                  have hcw8 := ((HBW9.out.trans (hb8.mono HBW9.out.size)).cell (p := ad.add i2) (by rw [block_add]; exact hba)).trans HC.out
                  have hbk8 : (ad.add i2).block < w8.heap.size := by rw [block_add]; exact Nat.lt_of_lt_of_le hba (HBW9.out.trans (hb8.mono HBW9.out.size)).size
                  have HO8 := Lib.hid hown8
                  clear hb8 hown8 hgrow8 hrow
                  go_wp2
                  go_roundg (n - (i2 + 1))
                  case measure => rw [HGK2.out]; omega
                  case rel =>
                    refine ⟨i2 + 1, vals ++ [.slice (Ai) p.length ci], rfl, by omega, by go_num, by rw [HLS.out]; go_num, ?_, ?_, HB8.out⟩
                    · rw [HWS2.out, List.length_append]
                      exact HO8.out
                    · rw [HWS2.out]
                      exact HWA.out.snoc (by simpa using HROW.out.1) HSL.out
                | false =>
                  have hcc' : ¬ (LA + p.length ≤ fr ∨ te ≤ LA) := by simpa using hcc
                  have hws := HWS.out
                  rw [if_neg hcc', List.append_nil] at hws
                  have HWS2 := Lib.hid hws
                  clear hws hcc hcc'
                  go_wp2_with fail
                  go_roundg (n - (i2 + 1))
                  case measure => rw [HGK2.out]; omega
                  case rel =>
                    refine ⟨i2 + 1, vals, rfl, by omega, by go_num, by rw [HLS.out]; go_num, ?_, ?_, HBR.out⟩
                    · rw [HWS2.out]
                      exact HROW.out
                    · rw [HWS2.out]
                      exact HWA.out
            · have hin2 : i2 = n := by omega
              have htk2 : sdus.take i2 = sdus := List.take_of_length_le (by have := HLEN.out; omega)
              have hrow := HROW.out
              have hwa := HWA.out
              rw [htk2] at hrow hwa
              have hbW : Below w.heap.size w wr := HBW9.out.trans (HBR.out.mono HBW9.out.size)
              obtain ⟨A7, c7, rfl, hs7⟩ := hwa.sls hrow hbW
              have hb69 := HB9.out.trans (HBR.out.mono HB9.out.size)
              have hs6' := (HS6.out.below hb69).more hb69.size
              have hli := lists32_any A6 A7 _ c6 _ c7 vs6 vals _ _ wr hs6' hs7
              rw [beq_self_eq_true] at hli
              have h7c := hs7.sl.cap
              have h7m := hs7.sl.mx
              have HLI := Lib.hid hli
              have HBWr := Lib.hid hbW
              clear hli hbW hb69 hs6' hs7 hrow hwa HROW HWA
              go_wp2_with (first | (go_at_call 34; refine (num32_any _ _).mono ?_; rintro e3 w3 ⟨rfl, rfl⟩) | (go_at_call 69; refine HLI.out.mono ?_; rintro e7 w7 ⟨rfl, hb7⟩) | (go_at_call 31; refine (works32_any _).mono ?_; rintro e1 w10 ⟨rfl, hb10⟩))
              go_ret
              exact ⟨rfl, (HBWr.out.trans (hb7.mono HBWr.out.size)).trans (hb10.mono (Nat.le_trans HBWr.out.size hb7.size))⟩
end Go.Proofs.Ytchlbpfeiamieaa
