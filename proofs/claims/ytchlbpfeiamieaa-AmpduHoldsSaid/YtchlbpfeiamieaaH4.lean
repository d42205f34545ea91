/- law33.AmpduHolds: the walk. -/
import Derived.Test.YtchlbpfeiamieaaH2
import Derived.Test.YtchlbpfeiamieaaN4
namespace Go.Proofs.Ytchlbpfeiamieaa
open Go.RowKit Go.Shelf
attribute [local go_sem] Oper.semAt_some
attribute [local go_sem ↓] Go.wp_at_zero Go.wp_at_succ

theorem encA_length_hdr (sn : Nat) (po sg la : Bool) (off : Nat) (s e : Bool) (ps : List (List UInt8)) (h1 : 1 ≤ ps.length) (h2 : ps.length ≤ 64) : ((encA sn po sg la off s e ps).length : Int) = hdrA ps.length sg + sumLen ps := by
  rw [encA_length]
  have hh : hdrN ps.length = 2 + (12 * ((ps.length : Int) - 1) + 7) / 8 := by unfold hdrN; rw [if_neg (by omega)]
  unfold hdrA nbytes
  rw [hh]
  cases sg
  · simp; omega
  · have h3 : 0 < 2 + (12 * ((ps.length : Int) - 1) + 7) / 8 := by omega
    simp [h3]; omega
theorem encA_cases (sn : Int) (po sg la : Bool) (off : Int) (s e : Bool) (A : Option Addr) (n c : Nat) (vs : List Value) (ps : List (List UInt8)) (hn : n ≤ 1048576) (hle : ∀ p ∈ ps, p.length ≤ 1099511627776) (hl : ps.length = n) :
    ∃ (l : List UInt8) (er : Int), (∀ w : World, Sls w w.heap.size A n c vs ps → Calls Try.prog 48 #[.agg (apdu sn po sg la off s e A n c)] w (GivesRowErr w.heap.size 5 w l.length (bvs l) er)) ∧ (er == 0) = validA sn sg la off ps ∧
      (validA sn sg la off ps = true → ∃ m o : Nat, sn = m ∧ off = o ∧ decA l = .inr ⟨m, po, sg, la, o, s, e, ps⟩ ∧ l.length ≤ 1000000 ∧ (l.length : Int) = hdrA n sg + sumLen ps ∧ sumLen ps ≤ 32767) := by
  subst hl
  cases hv : validA sn sg la off ps with
  | false => exact ⟨[], 2, fun w h => encodeA_bad sn po sg la off s e A _ c vs ps w h hn hle hv, rfl, fun h => by cases h⟩
  | true =>
    obtain ⟨m, o, rfl, rfl, ho⟩ := validA_nat hv
    have hva := (validA_iff _ _ _ _ _).1 hv
    have hvp := (validB_iff ps).1 hva.vp
    have h3 := hvp.sum
    have h4 := hvp.hi
    refine ⟨encA m po sg la o s e ps, 0, fun w h => encodeA_ok m po sg la o s e A _ c vs ps w h hv ho, rfl, fun _ => ⟨m, o, rfl, rfl, dec_encA m po sg la o s e ps hv, ?_, encA_length_hdr m po sg la o s e ps hvp.lo hvp.hi, h3⟩⟩
    rw [encA_length]
    unfold nbytes
    split <;> omega

set_option maxRecDepth 100000 in
set_option maxHeartbeats 2000000 in
theorem ampduHolds_walk (sn : Int) (po sg la : Bool) (off : Int) (s e : Bool) (A : Option Addr) (n c : Nat) (vs : List Value) (ps : List (List UInt8)) (A' : Option Addr) (n' c' : Nat) (bs : List UInt8) (w : World) (_hsn : -9223372036854775808 ≤ sn ∧ sn ≤ 9223372036854775807) (_hoff : -9223372036854775808 ≤ off ∧ off ≤ 9223372036854775807) (h : Sls w w.heap.size A n c vs ps) (h' : Sl w w.heap.size A' n' c' (bvs bs)) :
    Calls Try.prog 13 #[.agg (apdu sn po sg la off s e A n c), .slice A' n' c'] w (IsTrue w) := by
  have hB := (Below.refl w.heap.size w).alloc (Nat.le_refl _) (.cells (apdu sn po sg la off s e A n c) 68)
  have hA := (h.below hB).more hB.size
  have bx := Blk.new w 68 (apdu sn po sg la off s e A n c)
  have hL := h.len
  have HL := Lib.hid hL
  have hn' : n' ≤ 9223372036854775807 := by have := h'.cap; have := h'.mx; omega
  have hfa := fewA_any sn po sg la off s e A n c vs ps _ hA
  have HFA := Lib.hid hfa
  have HA := Lib.hid (encA_cases sn po sg la off s e A n c vs ps)
  have HV1 := Lib.hid (fun W h1 h2 h3 => validA_any (w := W) sn po sg la off s e A n c vs ps h1 h2 h3)
  generalize validA sn sg la off ps = vl at *
  clear h hL hfa
  unfold apdu at *
  go_enter Try.func13, Try.ntmps13
  go_wp2_with fail
  refine HFA.out.mono ?_
  generalize w.alloc (.cells #[.int .i64 sn, .bool po, .bool sg, .bool la, .int .i64 off, .bool s, .bool e, .slice A n c] 68) = w1 at *
  rintro e1 w2 ⟨⟨r1, rfl, hfew⟩, hb1⟩
  have hB1 : Below w.heap.size w w2 := hB.trans (hb1.mono hB.size)
  have hA1 := (hA.below hb1).more hb1.size
  have bx1 := bx.below hb1 bx.lt
  clear hb1 hA bx hB HFA
  cases r1 with
  | false =>
    clear hfew
    go_wp2_with (go_at_call 38; refine (works33_any _).mono ?_; rintro e2 w3 ⟨rfl, hb2⟩)
    go_ret
    exact ⟨rfl, hB1.trans (hb2.mono hB1.size)⟩
  | true =>
  by_cases h1000 : 1000 < n'
  · clear hfew
    go_wp2_with (go_at_call 38; refine (works33_any _).mono ?_; rintro e2 w3 ⟨rfl, hb2⟩)
    go_ret
    exact ⟨rfl, hB1.trans (hb2.mono hB1.size)⟩
  obtain ⟨h70, h4, _⟩ := hfew rfl
  have hn : n ≤ 1048576 := by have := HL.out; omega
  have hle : ∀ p ∈ ps, p.length ≤ 1099511627776 := fun p hp => by have := h4 p hp; omega
  obtain ⟨l, er, hE, her, hD⟩ := HA.out hn hle HL.out
  have HE := Lib.hid hE
  have HD := Lib.hid hD
  have HN := Lib.hid hn
  have HLE := Lib.hid hle
  have HER := Lib.hid her
  obtain ⟨x0, x1, x2, x3, x4, x5, x6, x7⟩ := bx1.eight
  clear hE hD hfew h4 h70 HA hn hle her
  go_wp2_with fail
  refine (HE.out w2 hA1).mono ?_
  rintro e3 w3 ⟨v3, rfl, hv3, hb3⟩
  obtain ⟨A3, c3, rfl, hs3, _⟩ := own_sl hv3
  have bx3 := bx1.below hb3 bx1.lt
  have hA3 := (hA1.below hb3).more hb3.size
  have hB3 := hB1.trans (hb3.mono hB1.size)
  clear x0 x1 x2 x3 x4 x5 x6 x7 hb3 bx1 hA1 hB1 hv3 HE
  obtain ⟨x0, x1, x2, x3, x4, x5, x6, x7⟩ := bx3.eight
  have hv1 := HV1.out w3.drew hA3.drew' HN.out HLE.out
  have HVA := Lib.hid hv1
  have hvv : (vl != vl) = false := by simp
  have her := HER.out
  have hq3 : Below w3.heap.size w3 w3.drew := (Below.refl w3.heap.size w3).drew
  clear hv1
  go_upto_region 4 with (fail)
  go_cut [32] (fun s32 wx => s32 = .bool false ∧ Below w3.heap.size w3 wx)
  case first =>
    go_region_held3 (fun w' => w'.cell? ⟨w.heap.size, 0, none⟩ = some (.int .i64 sn) ∧ w'.cell? ⟨w.heap.size, 1, none⟩ = some (.bool po) ∧ w'.cell? ⟨w.heap.size, 2, none⟩ = some (.bool sg) ∧ w'.cell? ⟨w.heap.size, 3, none⟩ = some (.bool la) ∧ w'.cell? ⟨w.heap.size, 4, none⟩ = some (.int .i64 off) ∧ w'.cell? ⟨w.heap.size, 5, none⟩ = some (.bool s) ∧ w'.cell? ⟨w.heap.size, 6, none⟩ = some (.bool e) ∧ w'.cell? ⟨w.heap.size, 7, none⟩ = some (.slice A n c))
      (first | (exact eight_below bx3 hq4) | (exact eight_below bx3 hq3) | go_keep)
      (first
        | (go_at_call 42; refine (numB_any _ _).mono ?_; rintro e5 w5 ⟨rfl, rfl⟩)
        | (go_at_call 49; refine HVA.out.mono ?_; rintro e4 w4 ⟨rfl, hb4⟩; have hq4 : Below w3.heap.size w3 w4 := hq3.trans hb4)
        | fail)
    all_goals
      go_wp2_with fail
      go_meet
      case rel => exact ⟨rfl, hq4⟩
  case rest =>
    obtain ⟨rfl, hb4⟩ := hcut
    generalize wc = w4 at *
    have bx4 := bx3.below hb4 bx3.lt
    have hA4 := (hA3.below hb4).more hb4.size
    have hB4 := hB3.trans (hb4.mono hB3.size)
    have hs4 := (hs3.below hb4).more hb4.size
    clear x0 x1 x2 x3 x4 x5 x6 x7 hb4 bx3 hA3 hB3 HVA hq3 hs3 HV1
    go_upto_if 35 with (go_at_call 42; refine (numB_any _ _).mono ?_; rintro e5 w5 ⟨rfl, rfl⟩)
    go_cut [] (fun wx => Below w.heap.size w wx)
    case first =>
      cases vl with
      | false =>
        go_wp2_with fail
        go_meet
        exact hB4
      | true =>
        obtain ⟨m, o, rfl, rfl, hdec, hl6, hlen, hsum⟩ := HD.out rfl
        have hdc := decodeA_any A3 l.length c3 l w4 hs4 hl6
        rw [hdec] at hdc
        have HDC := Lib.hid hdc
        have HLEN := Lib.hid hlen
        generalize l.length = E at *
        clear hdc hdec hlen hs4 HD her HER
        go_wp2_with fail
        refine HDC.out.mono ?_
        rintro e5 w5 ⟨hb5, ⟨er5, hh, _⟩ | ⟨p5, A5, c5, hh, rfl, hpo⟩⟩
        · cases hh
        cases hh
        obtain ⟨A5', c5', vs5, he5, hs5⟩ := hpo.sls
        cases he5
        have hB5 := hB4.trans (hb5.mono hB4.size)
        have hA5 := (hA4.below hb5).more hb5.size
        have bx5 := bx4.below hb5 bx4.lt
        clear HDC hpo hb5 hA4 hB4 bx4
        dsimp only at hs5
        unfold apdu
        go_upto_region 8 with (fail)
        have hb6 := (Below.refl w5.heap.size w5).alloc (Nat.le_refl _) (.cells #[.int .i64 (m : Int), .bool po, .bool sg, .bool la, .int .i64 (o : Int), .bool s, .bool e, .slice A5 ps.length c5] 68)
        have by6 := Blk.new w5 68 #[.int .i64 (m : Int), .bool po, .bool sg, .bool la, .int .i64 (o : Int), .bool s, .bool e, .slice A5 ps.length c5]
        have bx6 := bx5.below hb6 bx5.lt
        have hA6 := (hA5.below hb6).more hb6.size
        have hs6 := (hs5.below hb6).more hb6.size
        have hB6 := hB5.trans (hb6.mono hB5.size)
        generalize w5.alloc (.cells #[.int .i64 (m : Int), .bool po, .bool sg, .bool la, .int .i64 (o : Int), .bool s, .bool e, .slice A5 ps.length c5] 68) = w6 at *
        generalize w5.heap.size = g5 at *
        clear hb6 hA5 hs5 hB5 bx5
        have hnl : n = ps.length := HL.out.symm
        subst hnl
        have hlen := HLEN.out
        have hee : ((E : Int) != (E : Int)) = false := by simp
        have hhb : 0 ≤ hdrA ps.length sg ∧ hdrA ps.length sg ≤ 99 := by have := hdrN_bd ps.length; unfold hdrA; split <;> omega
        have hWr : IntKind.i64.wrap (hdrA ps.length sg + sumLen ps) = E := by rw [← hlen]; exact IntWalk.i64_in _ (by omega)
        have hHd := fun W => headerA_any (ps.length : Int) sg W (by have := HN.out; omega)
        have hSz := fun W (hb : Below w6.heap.size w6 W) => rsize_any s e A ps.length c vs ps W ((hA6.below hb).more hb.size) HN.out HLE.out
        have hSm := sameA_any m po sg la o s e A5 ps.length c5 vs5 ps m po sg la o s e A ps.length c vs ps w6.drew hs6.drew' hA6.drew'
        rw [sameP_refl] at hSm
        unfold apdu at hSm
        generalize hdrA ps.length sg = hd at *
        generalize sumLen ps = SS at *
        have HSM := Lib.hid hSm
        have HSZ := Lib.hid hSz
        have HHD := Lib.hid hHd
        have HB6 := Lib.hid hB6
        have hq6 : Below w6.heap.size w6 w6.drew := (Below.refl w6.heap.size w6).drew
        clear hSm hSz hHd hlen HLEN hA6 hs6 hB6
        obtain ⟨z0, z1, z2, z3, z4, z5, z6, z7, y0, y1, y2, y3, y4, y5, y6, y7⟩ := held16 bx6 by6
        go_cut [65] (fun s65 wx => s65 = .bool false ∧ Below w6.heap.size w6 wx)
        case first =>
          go_region_held3 (fun w' => w'.cell? ⟨w.heap.size, 0, none⟩ = some (.int .i64 m) ∧ w'.cell? ⟨w.heap.size, 1, none⟩ = some (.bool po) ∧ w'.cell? ⟨w.heap.size, 2, none⟩ = some (.bool sg) ∧ w'.cell? ⟨w.heap.size, 3, none⟩ = some (.bool la) ∧ w'.cell? ⟨w.heap.size, 4, none⟩ = some (.int .i64 o) ∧ w'.cell? ⟨w.heap.size, 5, none⟩ = some (.bool s) ∧ w'.cell? ⟨w.heap.size, 6, none⟩ = some (.bool e) ∧ w'.cell? ⟨w.heap.size, 7, none⟩ = some (.slice A ps.length c) ∧
              w'.cell? ⟨g5, 0, none⟩ = some (.int .i64 m) ∧ w'.cell? ⟨g5, 1, none⟩ = some (.bool po) ∧ w'.cell? ⟨g5, 2, none⟩ = some (.bool sg) ∧ w'.cell? ⟨g5, 3, none⟩ = some (.bool la) ∧ w'.cell? ⟨g5, 4, none⟩ = some (.int .i64 o) ∧ w'.cell? ⟨g5, 5, none⟩ = some (.bool s) ∧ w'.cell? ⟨g5, 6, none⟩ = some (.bool e) ∧ w'.cell? ⟨g5, 7, none⟩ = some (.slice A5 ps.length c5))
            (first | (exact held16_below bx6 by6 hq8) | (exact held16_below bx6 by6 hq7) | (exact held16_below bx6 by6 hq6) | go_keep)
            (first
              | (go_at_call 42; refine (numB_any _ _).mono ?_; rintro e0 w0 ⟨rfl, rfl⟩)
              | (go_at_call 51; refine (HHD.out _).mono ?_; rintro e0 w0 ⟨rfl, rfl⟩)
              | (go_at_call 53; refine HSM.out.mono ?_; rintro e7 w7 ⟨rfl, hb7⟩; have hq7 : Below w6.heap.size w6 w7 := hq6.trans hb7)
              | (go_at_call 55; refine (HSZ.out w7 hq7).mono ?_; rintro e8 w8 ⟨rfl, hb8⟩; have hq8 : Below w6.heap.size w6 w8 := hq7.trans (hb8.mono hq7.size))
              | fail)
          all_goals
            go_wp2_with fail
            go_meet
            case rel => exact ⟨rfl, hq8⟩
        case rest =>
          obtain ⟨rfl, hb9⟩ := hcut
          go_wp2_with fail
          go_meet
          exact HB6.out.trans (hb9.mono HB6.out.size)
    case rest =>
      have hBt := hcut
      have hbt := (h'.below hBt).more hBt.size
      clear hcut hB4 hA4 bx4 hs4 HD HER her hvv
      generalize wc = wt at *
      have hdc := decodeA_any A' n' c' bs wt hbt (by omega)
      cases hdd : decA bs with
      | inl er =>
        rw [hdd] at hdc
        have her := decA_err bs er hdd
        have hne : ((er : Int) != 0) = true := by simp; omega
        have HDC := Lib.hid hdc
        clear hdd her hdc
        go_wp2_with fail
        refine HDC.out.mono ?_
        rintro e9 w9 ⟨hb9, ⟨er', hh, rfl⟩ | ⟨p9, A9, c9, hh, _, _⟩⟩
        · cases hh
          unfold apdu
          go_wp2_with (first | (go_at_call 42; refine (numB_any _ _).mono ?_; rintro e4 w4 ⟨rfl, rfl⟩) | (go_at_call 38; refine (works33_any _).mono ?_; rintro e4 w10 ⟨rfl, hb10⟩))
          go_ret
          have hs9 := hb9.size
          have hst := hBt.size
          exact ⟨rfl, (hBt.trans (hb9.mono hst)).trans ((((Below.refl w9.heap.size w9).alloc (Nat.le_refl _) _).trans (hb10.mono (by simp))).mono (by omega))⟩
        · cases hh
      | inr r =>
        rw [hdd] at hdc
        obtain ⟨hv', ho', he'⟩ := enc_decA bs _ hdd
        obtain ⟨sn', po', sg', la', off', s', e', ps'⟩ := r
        dsimp only at hv' ho' he'
        have HV := Lib.hid hv'
        have HE := Lib.hid he'
        have HDC := Lib.hid hdc
        clear hdd he' hv' hdc
        go_wp2_with fail
        refine HDC.out.mono ?_
        rintro e9 w9 ⟨hb9, ⟨er', hh, _⟩ | ⟨p9, A9, c9, hh, rfl, hpo9⟩⟩
        · cases hh
        · cases hh
          dsimp only at hpo9 ⊢
          obtain ⟨A9', c9', vs9, he9, hs9⟩ := hpo9.sls
          cases he9
          have hb10 := (Below.refl w9.heap.size w9).alloc (Nat.le_refl _) (.cells (apdu sn' po' sg' la' off' s' e' A9 ps'.length c9) 68)
          have hs10 := (hs9.below hb10).more hb10.size
          have hBt9 : Below w.heap.size w w9 := hBt.trans (hb9.mono hBt.size)
          have hBt10 := hBt9.trans (hb10.mono hBt9.size)
          have hbt10 := ((hbt.below hb9).more hb9.size).below hb10 |>.more hb10.size
          have henc := encodeA_ok sn' po' sg' la' off' s' e' A9 ps'.length c9 vs9 ps' _ hs10 HV.out ho'
          rw [HE.out] at henc
          have HENC := Lib.hid henc
          clear henc hpo9 HDC hb10 hs10 hs9 hb9 hBt9 hBt
          unfold apdu at *
          go_wp2_with (go_at_call 42; refine (numB_any _ _).mono ?_; rintro e4 w4 ⟨rfl, rfl⟩)
          refine HENC.out.mono ?_
          rintro e11 w11 ⟨v11, rfl, hv11, hb11⟩
          obtain ⟨A11, c11, rfl, hs11, _⟩ := own_sl hv11
          have hbt11 := (hbt10.below hb11).more hb11.size
          have hBt11 := hBt10.trans (hb11.mono hBt10.size)
          have hsame := sameB_any A11 bs.length c11 bs A' n' c' bs w11 _ _ hs11 hbt11
          rw [show decide (bs = bs) = true by simp] at hsame
          have HSAME := Lib.hid hsame
          clear hs11 hbt11 hv11 hb11 hBt10 hbt10 HENC hsame
          go_wp2_with (first | (go_at_call 42; refine (numB_any _ _).mono ?_; rintro e4 w4 ⟨rfl, rfl⟩) | (go_at_call 47; refine HSAME.out.mono ?_; rintro e4 w4 ⟨rfl, rfl⟩) | (go_at_call 38; refine (works33_any _).mono ?_; rintro e4 w12 ⟨rfl, hb12⟩))
          go_ret
          exact ⟨rfl, hBt11.trans (hb12.mono hBt11.size)⟩
end Go.Proofs.Ytchlbpfeiamieaa
