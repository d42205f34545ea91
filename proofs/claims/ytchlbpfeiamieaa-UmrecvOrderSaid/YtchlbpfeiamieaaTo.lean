/- law32: sent walked. -/
import Derived.Test.YtchlbpfeiamieaaTm
import Derived.Test.YtchlbpfeiamieaaKe
import Derived.Test.YtchlbpfeiamieaaS5
namespace Go.Proofs.Ytchlbpfeiamieaa
open Go.RowKit Go.Shelf
attribute [local go_sem] Oper.semAt_some

theorem Mem.rows8 {w : World} {cap next : Nat} {left : List (List UInt8)} {sent : Nat} {v : Value} {vs : List Value} {s7 : Value} {sd : List (List UInt8)} {v7 : List Value} {s8 : Value} {gt : List (List UInt8)} {v8 : List Value} {s9 : Value} {op : List UInt8} {wr : World}
    (h : Mem w cap next left sent v vs s7 sd v7 s8 gt v8 s9 op wr) : ∃ A c, s8 = .slice A gt.length c ∧ Sls wr wr.heap.size A gt.length c v8 gt := by
  obtain ⟨A, c, rfl, hs, _⟩ := own_sl h.r8
  refine ⟨A, c, rfl, hs, rfl, fun i p hi => ?_⟩
  obtain ⟨A', c', e, ho⟩ := h.e8 i p hi
  exact ⟨A', c', e, own_sl' ho⟩
/-- what the loops of sent hold: only the transmitter and the PDUs -/
def SMem (w : World) (next : Nat) (left : List (List UInt8)) (sent : Nat) (s9 : Value) (gt : List (List UInt8)) (wr : World) : Prop :=
  ∃ v vs v8, Mem w 100000 next left sent v vs (.slice none 0 0) [] [] s9 gt v8 (.slice none 0 0) [] wr
def SubRel (w : World) (sdus : List (List UInt8)) (n gk : Nat) (s8 : Value) (wr : World) : Prop :=
  ∃ k : Nat, gk = n - k ∧ k ≤ n ∧ s8 = .int .i64 (k : Nat) ∧ SMem w 0 (sdus.take k) 0 (.slice none 0 0) [] wr
def GrtRel (w : World) (sizes : List UInt8) (sdus : List (List UInt8)) (N gk : Nat) (s9 s10 : Value) (wr : World) : Prop :=
  ∃ k : Nat, gk = 200 - k ∧ k ≤ N ∧ s10 = .int .i64 (k : Nat) ∧ SMem w k (txAt sizes sdus k).1 (txAt sizes sdus k).2 s9 (encs sizes sdus k) wr
/-- what sent gives -/
def SentOut (w : World) (sizes : List UInt8) (sdus : List (List UInt8)) (N : Nat) (e : Ending) (w' : World) : Prop :=
  ∃ A c vs, e = .returned (.tuple #[.slice A N c, .bool true]) ∧ Sls w' w'.heap.size A N c vs (encs sizes sdus N) ∧ Below w.heap.size w w'
theorem sumLen_le60 : ∀ l : List (List UInt8), (∀ s ∈ l, s.length ≤ 60) → sumLen l ≤ 60 * l.length
  | [], _ => by simp [sumLen]
  | x :: r, h => by
    have h1 := h x (by simp)
    have h2 := sumLen_le60 r (fun s hs => h s (by simp [hs]))
    rw [sumLen_cons32]
    simp only [List.length_cons]
    omega
theorem take_snoc {ps : List (List UInt8)} {k : Nat} (h : k < ps.length) : ps.take (k + 1) = ps.take k ++ [ps[k]?.getD []] := by
  rw [List.take_add_one, List.getElem?_eq_getElem h]
  rfl
/-- the size of grant k, as the code reckons it -/
theorem sizeAt_nil (k : Nat) : sizeAt [] k = 20 := rfl
theorem sizeAt_get (sizes : List UInt8) (k j : Nat) (x : UInt8) (hj : j = min k (sizes.length - 1)) (h : sizes[j]? = some x) : sizeAt sizes k = 5 + x.toNat % 60 := by
  unfold sizeAt
  have : sizes ≠ [] := by rintro rfl; simp at h
  rw [if_neg this, ← hj, h]
  rfl

set_option maxRecDepth 100000 in
set_option maxHeartbeats 4000000 in
theorem sent_any (A : Option Addr) (n c : Nat) (vs : List Value) (sdus : List (List UInt8)) (B : Option Addr) (m d : Nat) (sizes : List UInt8) (w : World) (N : Nat)
    (h : Sls w w.heap.size A n c vs sdus) (k : Sl w w.heap.size B m d (bvs sizes)) (h8 : sdus.length ≤ 8) (hv : ∀ s ∈ sdus, 1 ≤ s.length ∧ s.length ≤ 60) (hN : SentAll sizes sdus N) :
    Calls Try.prog 66 #[.slice A n c, .slice B m d] w (SentOut w sizes sdus N) := by
  obtain ⟨j0, hj0, hm0, hm1, hm2⟩ := info_parts sl_info
  have hnk : Calls Try.prog 58 #[.int .i64 100000] w _ := snew_ok 100000 w (by omega) (by omega)
  have hcap := h.sl.cap
  have hmx := h.sl.mx
  have kcap := k.cap
  have kmx := k.mx
  have hml : sizes.length = m := by simpa using k.len
  have HL := Lib.hid h.len
  have HH := Lib.hid h
  have HK := Lib.hid k
  have H8 := Lib.hid h8
  have HV := Lib.hid hv
  have HN := Lib.hid hN
  have HML := Lib.hid hml
  have HNK := Lib.hid hnk
  clear h k h8 hv hN hml hnk
  go_enter Try.func66, Try.ntmps66
  go_wp2_with (first | (go_at_call 58; refine HNK.out.mono ?_; rintro e1 w1 ⟨rfl, hs1, hb1⟩) | (go_at_call 34; refine (num32_any _ _).mono ?_; rintro e1 w2 ⟨rfl, rfl⟩))
  have HM1 : Hid (SMem w 0 [] 0 (.slice none 0 0) [] w1) := Lib.hid ⟨_, _, _, ⟨hs1, World.ownsRow_nil _ _ _ _, World.ownsRow_nil _ _ _ _, fun i p hi => by simp at hi, World.ownsRow_nil _ _ _ _, fun k hk => by simp [qBlock] at hk, fun k hk => by simp [qBlock] at hk, fun k hk => by simp [Value.ownBlock] at hk, hb1⟩⟩
  clear hs1 hb1
  go_loopg [8] n (fun gk s8 wr => SubRel w sdus n gk s8 wr)
  case atStart => exact ⟨0, by omega, Nat.zero_le _, rfl, HM1.out⟩
  case round =>
    obtain ⟨k, hgk, hkn, rfl, v, vs2, v8, hM⟩ := hrel
    clear HM1
    have HGK := Lib.hid hgk
    have HM := Lib.hid hM
    clear hgk hM
    by_cases hlt : k < n
    · obtain ⟨ad, Ai, ci, rfl, hba, hc, hsl⟩ := ((HH.out.below HM.out.bel).more HM.out.bel.size).get hlt
      have hts := take_snoc (ps := sdus) (k := k) (by have := HL.out; omega)
      have hp := HV.out (sdus[k]?.getD []) (by rw [List.getElem?_eq_getElem (by have := HL.out; omega)]; exact List.getElem_mem _)
      have hsum := sumLen_le60 (sdus.take k) (fun s hs => (HV.out s (List.mem_of_mem_take hs)).2)
      have htl : (sdus.take k).length ≤ 8 := by have := H8.out; simp; omega
      have hc1 := hsl.cap
      have hm1' := hsl.mx
      have hcap0 : sumLen (sdus.take k) + (sdus[k]?.getD []).length ≤ 100000 + 0 := by omega
      have hsu := ssubmit_ok w.heap.size w.heap.size 0 100000 0 v vs2 (sdus.take k) Ai (sdus[k]?.getD []).length ci (sdus[k]?.getD []) wr HM.out.snd hsl (by omega) (by omega) (by omega) (by omega) (by omega) (by omega) hcap0 (by omega) HM.out.bel.size
      have HTS := Lib.hid hts
      generalize sdus[k]?.getD [] = p at *
      have HSU := Lib.hid hsu
      clear hsl hsu hts hsum htl hcap0
      go_wp2_with fail
      refine HSU.out.mono ?_
      rintro e3 w3 ⟨rfl, v', vs', hs3, hk3, hq3⟩
      have HM3 := Lib.hid (HM.out.turn hs3 hk3 hq3)
      clear hs3 hk3 hq3
      go_wp2_with (go_at_call 34; refine (num32_any _ _).mono ?_; rintro e1 w2 ⟨rfl, rfl⟩)
      go_roundg (n - (k + 1))
      case measure => rw [HGK.out]; omega
      case rel => exact ⟨k + 1, rfl, by omega, by go_num, by rw [HTS.out]; exact ⟨_, _, _, HM3.out⟩⟩
    · have hkn2 : k = n := by omega
      have hM0 : SMem w 0 sdus 0 (.slice none 0 0) [] wr := by
        have hh := HM.out
        rw [List.take_of_length_le (by have := HL.out; omega)] at hh
        exact ⟨_, _, _, hh⟩
      have HM0 := Lib.hid hM0
      clear hM0 HM hkn2
      obtain ⟨wb, rfl⟩ : ∃ wb : World, wb = wr := ⟨_, rfl⟩
      go_wp2_with fail
      go_loopg [9, 10] 200 (fun gk s9 s10 wr => GrtRel w sizes sdus N gk s9 s10 wr)
      case atStart => exact ⟨0, by omega, Nat.zero_le _, rfl, HM0.out⟩
      case round =>
        obtain ⟨k2, hgk2, hkN, rfl, v2, vs3, v82, hM2⟩ := hrel
        have hok := txAt_ok sizes HV.out k2
        have hsuf := (txAt_tx sizes HV.out HN.out.le HN.out.ne).suffix k2 hkN
        have hll : (txAt sizes sdus k2).1.length ≤ 8 := by
          obtain ⟨dd, hd⟩ := hsuf
          have h1 := congrArg List.length hd
          have := H8.out
          simp at h1
          omega
        have hsum := sumLen_le60 (txAt sizes sdus k2).1 (fun s hs => (hok.len s hs).2)
        have hse : (txAt sizes sdus k2).2 ≤ 60 := by
          cases hl : (txAt sizes sdus k2).1 with
          | nil => rw [hok.z hl]; omega
          | cons x r => have := hok.lt x r hl; have := (hok.len x (by rw [hl]; simp)).2; omega
        have hbuf := fun W hW => sbuffered_any w.heap.size w.heap.size (txAt sizes sdus k2).2 100000 k2 v2 vs3 (txAt sizes sdus k2).1 W hW (by omega) (by omega) (by omega) (by omega) hok.z
        have hkle := HN.out.le
        have HGK2 := Lib.hid hgk2
        have HM2 := Lib.hid hM2
        have HBUF := Lib.hid hbuf
        clear hgk2 hM2 hbuf hsuf HM0
        by_cases hltk : k2 < N
        · have hne := HN.out.ne k2 hltk
          have hpos : 0 < (sumLen (txAt sizes sdus k2).1 : Int) - ((txAt sizes sdus k2).2 : Int) := by
            cases hl : (txAt sizes sdus k2).1 with
            | nil => exact absurd hl hne
            | cons x r => have := hok.lt x r hl; rw [sumLen_cons32]; omega
          obtain ⟨R, hR⟩ : ∃ R, chk (sizeAt sizes k2) ((txAt sizes sdus k2).1.length + 1) (txAt sizes sdus k2).1 (txAt sizes sdus k2).2 0 0 0 false = R := ⟨_, rfl⟩
          have hsz := sizeAt_ge sizes k2
          have hne2 : R.1 ≠ [] := by
            have := pdAt_ne sizes HV.out hne
            unfold pdAt at this
            rw [hR] at this
            exact this
          have hgr := fun W hW => sgrant_ok w.heap.size w.heap.size (txAt sizes sdus k2).2 100000 k2 (sizeAt sizes k2) v2 vs3 (txAt sizes sdus k2).1 W hW (by omega) (by omega) (by omega) (by omega) (fun s hs => by have := hok.len s hs; omega) hok.lt hok.z R hR hne2
          have henc : encU k2 (decide ((txAt sizes sdus k2).2 = 0)) R.2.1 R.1 = encAt sizes sdus k2 := by
            unfold encAt pdAt
            rw [hR]
          have htx : (txAt sizes sdus (k2 + 1)) = R.2.2 := by rw [txAt, hR]
          rw [henc, ← htx, show (k2 + 1) % 1024 = k2 + 1 by omega] at hgr
          have hel := encAt_len HV.out hne
          have hes := encs_succ sizes sdus k2
          have hec := encs_len sizes sdus k2
          have HGR := Lib.hid hgr
          have HES := Lib.hid hes
          have HEC := Lib.hid hec
          clear hgr henc htx hne hne2 hR hes hec hok
          generalize encAt sizes sdus k2 = E at *
          generalize hT : (sumLen (txAt sizes sdus k2).1 : Int) - ((txAt sizes sdus k2).2 : Int) = T at *
          go_upto_if 46 with (go_at_call 130; refine (HBUF.out _ HM2.out.snd).mono ?_; rintro e3 w3 ⟨rfl, hb3⟩)
          have HM3 := Lib.hid (HM2.out.more hb3)
          clear hb3 HM2 HBUF hT
          go_cut [11] (fun s11 wx => s11 = .int .i64 (sizeAt sizes k2 : Nat) ∧ wx = w3)
          case first =>
            by_cases hm0 : m = 0
            · have hs0 : sizes = [] := List.eq_nil_of_length_eq_zero (by rw [HML.out]; exact hm0)
              have hsz0 : sizeAt sizes k2 = 20 := by rw [hs0]; rfl
              have HS := Lib.hid hsz0
              clear hsz0 hs0
              subst hm0
              go_wp2_with fail
              go_meet
              exact ⟨by rw [HS.out]; rfl, rfl⟩
            · have hmp : decide (0 < m) = true := by simp; omega
              obtain ⟨bd, rfl, hbb, hbc⟩ := (HK.out.below HM3.out.bel).at_ (by omega)
              have hcell : ∀ j, j < m → w3.cell? (bd.add j) = some (.int .u8 ((sizes[j]?.getD 0).toNat : Nat)) := fun j hj => hbc j _ (by
                unfold bvs
                rw [List.getElem?_map, List.getElem?_eq_getElem (by rw [HML.out]; exact hj)]
                rfl)
              have hget : ∀ j, j < m → j = min k2 (m - 1) → sizeAt sizes k2 = 5 + (sizes[j]?.getD 0).toNat % 60 := fun j hj e => sizeAt_get sizes k2 j _ (by rw [HML.out]; exact e) (by rw [List.getElem?_eq_getElem (by rw [HML.out]; exact hj)]; rfl)
              by_cases hk1 : k2 ≤ m - 1
              · have hc := hcell k2 (by omega)
                have hs := hget k2 (by omega) (by omega)
                have hx := (sizes[k2]?.getD 0).toNat_lt
                generalize (sizes[k2]?.getD 0).toNat = x at *
                have HS := Lib.hid hs
                have hi1 : (k2 : Int) ≤ (m : Int) - 1 := by omega
                have hbk : (bd.add k2).block < w3.heap.size := by rw [block_add]; exact Nat.lt_of_lt_of_le hbb HM3.out.bel.size
                clear hcell hget hbc hs
                go_wp2_with fail
                go_meet
                exact ⟨by rw [HS.out]; go_num, rfl⟩
              · have hc := hcell (m - 1) (by omega)
                have hs := hget (m - 1) (by omega) (by omega)
                have hx := (sizes[m - 1]?.getD 0).toNat_lt
                generalize (sizes[m - 1]?.getD 0).toNat = x at *
                have HS := Lib.hid hs
                have hi1 : ¬ (k2 : Int) ≤ (m : Int) - 1 := by omega
                have hi2 : (0 : Int) ≤ (m : Int) - 1 := by omega
                have hbk : (bd.add (m - 1)).block < w3.heap.size := by rw [block_add]; exact Nat.lt_of_lt_of_le hbb HM3.out.bel.size
                clear hcell hget hbc hs
                go_wp2_with fail
                go_meet
                exact ⟨by rw [HS.out]; go_num, rfl⟩
          case rest =>
            obtain ⟨rfl, rfl⟩ := hcut
            go_wp2_with fail
            refine (HGR.out _ HM3.out.snd).mono ?_
            rintro e4 w4 ⟨vb, v', vs', rfl, hvb, hs4, hq4, hk4⟩
            have HM4 := Lib.hid ((HM3.out.turn hs4 (hk4.mono fun k o e => .inl e) (fun k hk => .inl (by rw [← hq4]; exact hk))).set9 (own_base hvb HM3.out.bel.size))
            obtain ⟨Ab, cb, rfl, hsb, _⟩ := own_sl hvb
            have hcb := hsb.cap
            have hmb := hsb.mx
            have hel0 : ((E.length : Int) == 0) = false := by simp; intro e; rw [e] at hel; simp at hel
            have hr8 := HM4.out.r8
            have hecl := HEC.out
            clear hvb hs4 hq4 hk4 hsb HM3 HGR
            go_wp2_with (first | (go_at_call 34; refine (num32_any _ _).mono ?_; rintro e1 w2 ⟨rfl, rfl⟩) | (at_builtin; refine wpList_append_sl _ rfl (.tmp 72) (.tmp 74) 22 rfl w.heap.size 29 j0 (.slice none 0 0) 24 und22 hj0 hm0 hm1 hm2 rfl _ _ v82 rfl (hr8.alloc _) _ _ 1 1 [.slice Ab E.length cb] rfl (sl_new0 w4 _ 29) ?c1 ?c2 ?c3 ?c4 ?_))
            case c1 => simp [Value.oneCell']
            case c2 => unfold maxLen; omega
            case c3 => omega
            case c4 => have := HM4.out.bel.size; simp; omega
            intro s9' w5 hown5 hgrow5 hb5
            have hM5 := HM4.out.push8 (A := Ab) (c := cb) rfl (by rw [hecl]; simpa using hown5) hgrow5 (by simpa using hb5)
            have HM5 := Lib.hid hM5
            clear hown5 hgrow5 hb5 hM5 hr8
            go_wp2
            go_roundg (200 - (k2 + 1))
            case measure => rw [HGK2.out]; omega
            case rel => exact ⟨k2 + 1, rfl, by omega, by go_num, by rw [HES.out]; exact ⟨_, _, _, HM5.out⟩⟩
        · have hkN2 : k2 = N := by omega
          subst hkN2
          have hnil := HN.out.nil
          have hz := hok.z hnil
          have hbuf0 : ∀ W, Snd W w.heap.size w.heap.size v2 vs3 (txAt sizes sdus k2).1 (txAt sizes sdus k2).2 100000 k2 → Calls Try.prog 130 #[.pointer (some ⟨w.heap.size, 0, none⟩)] W (NumberB 0 W) := fun W hW => by
            have hh := HBUF.out W hW
            rwa [show (sumLen (txAt sizes sdus k2).1 : Int) - ((txAt sizes sdus k2).2 : Int) = 0 by rw [hz, hnil]; rfl] at hh
          have HB0 := Lib.hid hbuf0
          obtain ⟨A8, c8, rfl, hs8⟩ := HM2.out.rows8
          rw [encs_len] at hs8
          have h8c := hs8.sl.cap
          have h8m := hs8.sl.mx
          have HS8 := Lib.hid hs8
          have hel := encs_len sizes sdus k2
          have HEL := Lib.hid hel
          clear hbuf0 HBUF hnil hz hok hs8 hel
          go_wp2_with (go_at_call 130; first | (refine (HB0.out _ HM2.out.snd).mono ?_; rintro e3 w3 ⟨rfl, hb3⟩) | (refine (HB0.out _ (HM2.out.more hb3).snd).mono ?_; rintro e4 w4 ⟨rfl, hb4⟩))
          go_ret2
          refine ⟨A8, c8, v82, by rw [HEL.out]; rfl, ((HS8.out.below hb3).more hb3.size).below hb4 |>.more hb4.size, ?_⟩
          exact (HM2.out.bel.trans (hb3.mono HM2.out.bel.size)).trans (hb4.mono (Nat.le_trans HM2.out.bel.size hb3.size))
end Go.Proofs.Ytchlbpfeiamieaa
