/- law30.UmpduHolds: the walk. Lemmas for the walk of law30.UmpduCuts: the wanted chunk that the law builds. -/
import Derived.Test.YtchlbpfeiamieaaLa
import Derived.Test.YtchlbpfeiamieaaNa
import Derived.Deep.DeepCutAuto
namespace Go.Proofs.Ytchlbpfeiamieaa
open Go.RowKit

theorem Blk.four {w : World} {g : Nat} {t : TypeId} {x y z u : Value} (b : Blk w g t #[x, y, z, u]) : w.cell? ⟨g, 0, none⟩ = some x ∧ w.cell? ⟨g, 1, none⟩ = some y ∧ w.cell? ⟨g, 2, none⟩ = some z ∧ w.cell? ⟨g, 3, none⟩ = some u :=
  ⟨b.cell 0, b.cell 1, b.cell 2, b.cell 3⟩
theorem keep_two {w w' : World} {B a b : Nat} {x y z u x' y' z' u' : Value} (hb : Below B w w') (ha : a < B) (hb' : b < B)
    (h : w.cell? ⟨a, 0, none⟩ = some x ∧ w.cell? ⟨a, 1, none⟩ = some y ∧ w.cell? ⟨a, 2, none⟩ = some z ∧ w.cell? ⟨a, 3, none⟩ = some u ∧ w.cell? ⟨b, 0, none⟩ = some x' ∧ w.cell? ⟨b, 1, none⟩ = some y' ∧ w.cell? ⟨b, 2, none⟩ = some z' ∧ w.cell? ⟨b, 3, none⟩ = some u') :
    w'.cell? ⟨a, 0, none⟩ = some x ∧ w'.cell? ⟨a, 1, none⟩ = some y ∧ w'.cell? ⟨a, 2, none⟩ = some z ∧ w'.cell? ⟨a, 3, none⟩ = some u ∧ w'.cell? ⟨b, 0, none⟩ = some x' ∧ w'.cell? ⟨b, 1, none⟩ = some y' ∧ w'.cell? ⟨b, 2, none⟩ = some z' ∧ w'.cell? ⟨b, 3, none⟩ = some u' := by
  rw [hb.cell (p := ⟨a, 0, none⟩) ha, hb.cell (p := ⟨a, 1, none⟩) ha, hb.cell (p := ⟨a, 2, none⟩) ha, hb.cell (p := ⟨a, 3, none⟩) ha, hb.cell (p := ⟨b, 0, none⟩) hb', hb.cell (p := ⟨b, 1, none⟩) hb', hb.cell (p := ⟨b, 2, none⟩) hb', hb.cell (p := ⟨b, 3, none⟩) hb']
  exact h
theorem keep_one {w w' : World} {B a : Nat} {x y z u : Value} (hb : Below B w w') (ha : a < B)
    (h : w.cell? ⟨a, 0, none⟩ = some x ∧ w.cell? ⟨a, 1, none⟩ = some y ∧ w.cell? ⟨a, 2, none⟩ = some z ∧ w.cell? ⟨a, 3, none⟩ = some u) :
    w'.cell? ⟨a, 0, none⟩ = some x ∧ w'.cell? ⟨a, 1, none⟩ = some y ∧ w'.cell? ⟨a, 2, none⟩ = some z ∧ w'.cell? ⟨a, 3, none⟩ = some u := by
  rw [hb.cell (p := ⟨a, 0, none⟩) ha, hb.cell (p := ⟨a, 1, none⟩) ha, hb.cell (p := ⟨a, 2, none⟩) ha, hb.cell (p := ⟨a, 3, none⟩) ha]
  exact h
theorem Below.drew' {w w' : World} (h : Below w.drew.heap.size w.drew w') : Below w.heap.size w w' := ((Below.refl w.heap.size w).drew).trans h
theorem few_small {ps : List (List UInt8)} (h : Few ps) : ps.length ≤ 1048576 ∧ ∀ p ∈ ps, p.length ≤ 1099511627776 :=
  ⟨by have := h.1; omega, fun p hp => by have := h.2.1 p hp; omega⟩

set_option maxRecDepth 100000 in
set_option maxHeartbeats 1600000 in
theorem umpduHolds_walk (sn : Int) (s e : Bool) (A : Option Addr) (n c : Nat) (vs : List Value) (ps : List (List UInt8)) (A' : Option Addr) (n' c' : Nat) (bs : List UInt8) (w : World) (hsn : -9223372036854775808 ≤ sn ∧ sn ≤ 9223372036854775807) (h : Sls w w.heap.size A n c vs ps) (h' : Sl w w.heap.size A' n' c' (bvs bs)) :
    Calls Try.prog 7 #[.agg #[.int .i64 sn, .bool s, .bool e, .slice A n c], .slice A' n' c'] w (IsTrue w) := by
  have hB := (Below.refl w.heap.size w).alloc (Nat.le_refl _) (.cells #[.int .i64 sn, .bool s, .bool e, .slice A n c] 26)
  have b0 := Blk.new w 26 #[.int .i64 sn, .bool s, .bool e, .slice A n c]
  have hA := (h.below hB).more hB.size
  have hA' := (h'.below hB).more hB.size
  have hn' : n' ≤ 9223372036854775807 := by have := h.sl.cap; have := h'.cap; have := h'.mx; omega
  go_enter Try.func7, Try.ntmps7
  go_wp2_with fail
  generalize w.alloc (.cells #[.int .i64 sn, .bool s, .bool e, .slice A n c] 26) = w1 at *
  refine (few_any s e A n c vs ps w1 hA).mono ?_
  rintro e1 w2 ⟨⟨r1, rfl, hfew⟩, hb1⟩
  have hB1 : Below w.heap.size w w2 := hB.trans (hb1.mono hB.size)
  have hsz1 := hb1.size
  have hA1 := (hA.below hb1).more hsz1
  have hA1' := (hA'.below hb1).more hsz1
  have d0 := b0.below hb1 b0.lt
  clear hb1 hA hA' b0 hB hsz1
  have b0 := d0
  clear d0
  cases r1 with
  | false =>
    clear hfew
    go_wp2_with (go_at_call 18; refine (works_any _).mono ?_; rintro e2 w3 ⟨rfl, hb2⟩)
    go_ret
    exact ⟨rfl, hB1.trans (hb2.mono hB1.size)⟩
  | true =>
    have HF := Lib.hid (hfew rfl)
    clear hfew
    by_cases h1000 : 1000 < n'
    · go_wp2_with (go_at_call 18; refine (works_any _).mono ?_; rintro e2 w3 ⟨rfl, hb2⟩)
      go_ret
      exact ⟨rfl, hB1.trans (hb2.mono hB1.size)⟩
    · obtain ⟨x0, x1, x2, x3⟩ := b0.four
      by_cases hok : 0 ≤ sn ∧ sn ≤ 1023 ∧ validB ps = true
      · obtain ⟨h1, h2, h3⟩ := hok
        obtain ⟨m, rfl⟩ := Int.eq_ofNat_of_zero_le h1
        have hm : m ≤ 1023 := by omega
        go_wp2_with fail
        have henc := encode_ok m s e A n c vs ps w2 hA1 hm h3
        refine henc.mono ?_
        clear henc
        rintro e3 w3 ⟨v3, rfl, hv3, hb3⟩
        have hB3 : Below w.heap.size w w3 := hB1.trans (hb3.mono hB1.size)
        obtain ⟨A3, c3, rfl, hs3, _⟩ := own_sl hv3
        have hA3 := (hA1.below hb3).more hb3.size
        have hA3' := (hA1'.below hb3).more hb3.size
        have d0 := b0.below hb3 b0.lt
        have hdec := dec_enc m s e ps (by omega) ((validB_iff ps).1 h3)
        have hlen := encU_length_hdr m s e ps ((validB_iff ps).1 h3).lo ((validB_iff ps).1 h3).hi
        have hel := encU_length m s e ps
        have hes : (encU m s e ps).length ≤ 1000000 := by
          have h4 := ((validB_iff ps).1 h3).sum
          have h5 := ((validB_iff ps).1 h3).hi
          rw [hel]; unfold nbytes; omega
        clear hel x0 x1 x2 x3 hb3 hA1 hA1' hB1 b0 hv3
        have b0 := d0
        clear d0
        have hdc := decode_any A3 (encU m s e ps).length c3 (encU m s e ps) w3 hs3 hes
        rw [hdec] at hdc
        have HLEN := Lib.hid hlen
        generalize hEn : (encU m s e ps).length = E at *
        clear hlen hEn hs3 hdec
        obtain ⟨x0, x1, x2, x3⟩ := b0.four
        go_wp2_with (go_at_call 22; refine (num_any _ _).mono ?_; rintro e4 w4 ⟨rfl, rfl⟩)
        refine hdc.mono ?_
        clear hdc
        rintro e5 w5 ⟨hb5, ⟨er, hh, _⟩ | ⟨sn5, s5, en5, ps5, vo, hh, rfl, hpo⟩⟩
        · cases hh
        · cases hh
          obtain ⟨A5, c5, vs5, rfl, hs5⟩ := hpo.sls
          have hB5 : Below w.heap.size w w5 := hB3.trans (hb5.mono hB3.size)
          have hA5 := (hA3.below hb5).more hb5.size
          have hA5' := (hA3'.below hb5).more hb5.size
          have d0 := b0.below hb5 b0.lt
          clear x0 x1 x2 x3 hb5 hA3 hA3' hB3 b0 hpo
          have b0 := d0
          clear d0
          go_upto_region 6 with (fail)
          have hB6 := hB5.alloc hB5.size (.cells #[.int .i64 (m : Int), .bool s, .bool e, .slice A5 ps.length c5] 26)
          have hb6 := (Below.refl w5.heap.size w5).alloc (Nat.le_refl _) (.cells #[.int .i64 (m : Int), .bool s, .bool e, .slice A5 ps.length c5] 26)
          have b5 := Blk.new w5 26 #[.int .i64 (m : Int), .bool s, .bool e, .slice A5 ps.length c5]
          have d0 := b0.alloc (.cells #[.int .i64 (m : Int), .bool s, .bool e, .slice A5 ps.length c5] 26)
          have hA6 := (hA5.below hb6).more hb6.size
          have hA6' := (hA5'.below hb6).more hb6.size
          have hs6 := (hs5.below hb6).more hb6.size
          generalize w5.alloc (.cells #[.int .i64 (m : Int), .bool s, .bool e, .slice A5 ps.length c5] 26) = w6 at *
          generalize w5.heap.size = g5 at *
          clear hb6 hA5 hA5' hs5 hB5 b0
          have b0 := d0
          clear d0
          have hl0 := b0.lt
          have hl5 := b5.lt
          have hnl : n = ps.length := h.len.symm
          subst hnl
          have hsmall := few_small HF.out
          have HS := Lib.hid hsmall.2
          have HN := Lib.hid hsmall.1
          clear hsmall
          have hlen := HLEN.out
          have hne : ((E : Int) != (E : Int)) = false := by simp
          have hmm : ((m : Int) != (m : Int)) = false := by simp
          obtain ⟨x0, x1, x2, x3⟩ := b0.four
          obtain ⟨y0, y1, y2, y3⟩ := b5.four
          have HW : IntKind.i64.wrap (hdrN ps.length + sumLen ps) = E := by
            rw [← hlen]; exact IntWalk.i64_in _ (by omega)
          have hHB : -9223372036854775808 ≤ (ps.length : Int) ∧ (ps.length : Int) ≤ 9223372036854775807 := by have := HN.out; omega
          have hH := fun W => header_any (ps.length : Int) W hHB
          generalize hdrN ps.length = hd at *
          have HL2 := Lib.hid hlen
          clear hlen
          have hSU := sameU_any s e A5 ps.length c5 vs5 ps s e A ps.length c vs ps w6.drew hs6.drew' hA6.drew'
          rw [sameC_refl] at hSU
          go_cut [67] (fun s67 wx => s67 = .bool false ∧ Below w6.heap.size w6 wx)
          case first =>
            go_region_held3 (fun w' => w'.cell? ⟨w.heap.size, 0, none⟩ = some (.int .i64 m) ∧ w'.cell? ⟨w.heap.size, 1, none⟩ = some (.bool s) ∧ w'.cell? ⟨w.heap.size, 2, none⟩ = some (.bool e) ∧ w'.cell? ⟨w.heap.size, 3, none⟩ = some (.slice A ps.length c) ∧ w'.cell? ⟨g5, 0, none⟩ = some (.int .i64 m) ∧ w'.cell? ⟨g5, 1, none⟩ = some (.bool s) ∧ w'.cell? ⟨g5, 2, none⟩ = some (.bool e) ∧ w'.cell? ⟨g5, 3, none⟩ = some (.slice A5 ps.length c5))
              (first | (exact keep_two hb9 (by omega) (by omega) (by assumption)) | (exact keep_two hb8 (by show _ < w6.heap.size; omega) (by show _ < w6.heap.size; omega) (by assumption)) | go_keep)
              (first
                | (go_at_call 22; refine (num_any _ _).mono ?_; rintro e7 w7 ⟨rfl, rfl⟩)
                | (go_at_call 27; refine (hH _).mono ?_; rintro e7 w7 ⟨rfl, rfl⟩)
                | (go_at_call 26
                   refine hSU.mono ?_
                   rintro e8 w8 ⟨rfl, hb8⟩
                   have hz8 : w6.heap.size ≤ w8.heap.size := hb8.size)
                | (go_at_call 28
                   refine (size_any s e A ps.length c vs ps w8 ((hA6.drew'.below hb8).more hb8.size) HN.out HS.out).mono ?_
                   rintro e9 w9 ⟨rfl, hb9⟩
                   have hz9 : w8.heap.size ≤ w9.heap.size := hb9.size))
            all_goals
              go_wp2_with fail
              go_meet
              case rel => exact ⟨rfl, (Below.drew' hb8).trans (hb9.mono hz8)⟩
          case rest =>
            obtain ⟨rfl, hb7⟩ := hcut
            have hB7 : Below w.heap.size w wc := hB6.trans (hb7.mono hB6.size)
            have hA7 := (hA6.below hb7).more hb7.size
            have hA7' := (hA6'.below hb7).more hb7.size
            have d0 := b0.below hb7 hl0
            clear hSU hb7 hA6 hA6' hs6 hB6 b0 b5 x0 x1 x2 x3 y0 y1 y2 y3 hl0 hl5
            have b0 := d0
            clear d0
            obtain ⟨x0, x1, x2, x3⟩ := b0.four
            have hl0 := b0.lt
            have hva := valid_any s e A ps.length c vs ps wc.drew hA7.drew' HN.out HS.out
            rw [h3] at hva
            have hg1 : decide ((0 : Int) ≤ (m : Int)) = true := by simp
            have hg2 : decide ((m : Int) < 1024) = true := by simp; omega
            go_upto_region 8 with (fail)
            go_cut [84] (fun s84 wx => s84 = .bool false ∧ Below wc.heap.size wc wx)
            case first =>
              go_region_held3 (fun w' => w'.cell? ⟨w.heap.size, 0, none⟩ = some (.int .i64 m) ∧ w'.cell? ⟨w.heap.size, 1, none⟩ = some (.bool s) ∧ w'.cell? ⟨w.heap.size, 2, none⟩ = some (.bool e) ∧ w'.cell? ⟨w.heap.size, 3, none⟩ = some (.slice A ps.length c))
                (first | (exact keep_one hb9 (by show _ < wc.heap.size; omega) (by assumption)) | go_keep)
                (first
                  | (go_at_call 22; refine (num_any _ _).mono ?_; rintro e7 w7 ⟨rfl, rfl⟩)
                  | (go_at_call 29
                     refine hva.mono ?_
                     rintro e9 w9 ⟨rfl, hb9⟩
                     have hz9 : wc.heap.size ≤ w9.heap.size := hb9.size))
              all_goals
                go_wp2_with fail
                go_meet
                case rel => exact ⟨rfl, Below.drew' hb9⟩
            case rest =>
              obtain ⟨rfl, hbw⟩ := hcut
              have hBt := hB7.trans (hbw.mono hB7.size)
              have hbt := (hA7'.below hbw).more hbw.size
              clear hva hbw hA7 hA7' hB7 b0 x0 x1 x2 x3 hl0 hg1 hg2
              generalize wc = wt at *
              have hdc := decode_any A' n' c' bs wt hbt (by omega)
              cases hdd : decU bs with
              | inl er =>
                rw [hdd] at hdc
                have her := decU_err bs er hdd
                have hne : ((er : Int) != 0) = true := by simp; omega
                have hne2 : ((er : Int) == 0) = false := by simp; omega
                clear hdd her
                go_wp2_with fail
                refine hdc.mono ?_
                rintro e9 w9 ⟨hb9, ⟨er', hh, rfl⟩ | ⟨sn9, s9, en9, ps9, vo9, hh, _, _⟩⟩
                · cases hh
                  go_wp2_with (first | (go_at_call 22; refine (num_any _ _).mono ?_; rintro e4 w4 ⟨rfl, rfl⟩) | (go_at_call 18; refine (works_any _).mono ?_; rintro e4 w10 ⟨rfl, hb10⟩))
                  go_ret
                  have hs9 := hb9.size
                  have hst := hBt.size
                  exact ⟨rfl, (hBt.trans (hb9.mono hst)).trans ((((Below.refl w9.heap.size w9).alloc (Nat.le_refl _) _).trans (hb10.mono (by simp))).mono (by omega))⟩
                · cases hh
              | inr r =>
                obtain ⟨sn', s', e', ps'⟩ := r
                rw [hdd] at hdc
                obtain ⟨hsn', hv', he'⟩ := enc_dec bs _ _ _ _ hdd
                have HV := Lib.hid hv'
                have HE := Lib.hid he'
                clear hdd he' hv'
                go_wp2_with fail
                refine hdc.mono ?_
                clear hdc
                rintro e9 w9 ⟨hb9, ⟨er', hh, _⟩ | ⟨sn9, s9, en9, ps9, vo9, hh, rfl, hpo9⟩⟩
                · cases hh
                · cases hh
                  obtain ⟨A9, c9, vs9, rfl, hs9⟩ := hpo9.sls
                  clear hpo9
                  have hb10 := (Below.refl w9.heap.size w9).alloc (Nat.le_refl _) (.cells #[.int .i64 (sn' : Int), .bool s', .bool e', .slice A9 ps'.length c9] 26)
                  have hs10 := (hs9.below hb10).more hb10.size
                  have hBt9 : Below w.heap.size w w9 := hBt.trans (hb9.mono hBt.size)
                  have hBt10 : Below w.heap.size w (w9.alloc (.cells #[.int .i64 (sn' : Int), .bool s', .bool e', .slice A9 ps'.length c9] 26)) := hBt9.trans (hb10.mono hBt9.size)
                  have hbt10 := ((hbt.below hb9).more hb9.size).below hb10 |>.more hb10.size
                  go_wp2_with (go_at_call 22; refine (num_any _ _).mono ?_; rintro e4 w4 ⟨rfl, rfl⟩)
                  generalize w9.alloc (.cells #[.int .i64 (sn' : Int), .bool s', .bool e', .slice A9 ps'.length c9] 26) = w10 at *
                  have henc := encode_ok sn' s' e' A9 ps'.length c9 vs9 ps' w10 hs10 (by omega) ((validB_iff ps').2 HV.out)
                  rw [HE.out] at henc
                  refine henc.mono ?_
                  clear henc
                  rintro e11 w11 ⟨v11, rfl, hv11, hb11⟩
                  obtain ⟨A11, c11, rfl, hs11, _⟩ := own_sl hv11
                  have hbt11 := (hbt10.below hb11).more hb11.size
                  have hBt11 : Below w.heap.size w w11 := hBt10.trans (hb11.mono hBt10.size)
                  have hsame := same_any A11 bs.length c11 bs A' n' c' bs w11 _ _ hs11 hbt11
                  rw [show decide (bs = bs) = true by simp] at hsame
                  clear hs11 hbt11 hv11 hb11 hBt10 hbt10 hs10 hb10 hs9 hb9 hBt9
                  go_wp2_with (first | (go_at_call 22; refine (num_any _ _).mono ?_; rintro e4 w4 ⟨rfl, rfl⟩) | (go_at_call 21; refine hsame.mono ?_; rintro e4 w4 ⟨rfl, rfl⟩) | (go_at_call 18; refine (works_any _).mono ?_; rintro e4 w12 ⟨rfl, hb12⟩))
                  go_ret
                  exact ⟨rfl, hBt11.trans (hb12.mono hBt11.size)⟩
      · have hnl : n = ps.length := h.len.symm
        subst hnl
        have hsmall := few_small HF.out
        have HS := Lib.hid hsmall.2
        have HN := Lib.hid hsmall.1
        clear hsmall
        go_wp2_with fail
        have hbad : sn < 0 ∨ 1023 < sn ∨ validB ps = false := by
          by_cases hx : sn < 0
          · exact .inl hx
          · by_cases hy : 1023 < sn
            · exact .inr (.inl hy)
            · refine .inr (.inr ?_)
              cases hz : validB ps
              · rfl
              · exact absurd ⟨by omega, by omega, hz⟩ hok
        have henc := encode_bad sn s e A ps.length c vs ps w2 hA1 HN.out HS.out hbad
        refine henc.mono ?_
        clear henc hok
        rintro e3 w3 ⟨v3, rfl, hv3, hb3⟩
        have hB3 : Below w.heap.size w w3 := hB1.trans (hb3.mono hB1.size)
        obtain ⟨A3, c3, rfl, hs3, _⟩ := own_sl hv3
        have hA3 := (hA1.below hb3).more hb3.size
        have hA3' := (hA1'.below hb3).more hb3.size
        have d0 := b0.below hb3 b0.lt
        clear x0 x1 x2 x3 hb3 hA1 hA1' hB1 b0 hv3 hs3
        have b0 := d0
        clear d0
        obtain ⟨x0, x1, x2, x3⟩ := b0.four
        have hl0 := b0.lt
        have hva := valid_any s e A ps.length c vs ps w3.drew hA3.drew' HN.out HS.out
        generalize hvB : validB ps = vB at *
        clear hvB
        go_upto_region 8 with (go_at_call 22; refine (num_any _ _).mono ?_; rintro e4 w4 ⟨rfl, rfl⟩)
        go_cut [84] (fun s84 wx => s84 = .bool false ∧ Below w3.heap.size w3 wx)
        case first =>
          by_cases hg : 0 ≤ sn
          · have hg1 : decide ((0 : Int) ≤ sn) = true := by simpa using hg
            by_cases hk : sn < 1024
            · have hg2 : decide (sn < 1024) = true := by simpa using hk
              obtain rfl : vB = false := by rcases hbad with hx | hx | hx <;> first | exact hx | omega
              go_region_held3 (fun w' => w'.cell? ⟨w.heap.size, 0, none⟩ = some (.int .i64 sn) ∧ w'.cell? ⟨w.heap.size, 1, none⟩ = some (.bool s) ∧ w'.cell? ⟨w.heap.size, 2, none⟩ = some (.bool e) ∧ w'.cell? ⟨w.heap.size, 3, none⟩ = some (.slice A ps.length c))
                (first | (exact keep_one hb9 (by show _ < w3.heap.size; omega) (by assumption)) | go_keep)
                (first
                  | (go_at_call 22; refine (num_any _ _).mono ?_; rintro e7 w7 ⟨rfl, rfl⟩)
                  | (go_at_call 29
                     refine hva.mono ?_
                     rintro e9 w9 ⟨rfl, hb9⟩
                     have hz9 : w3.heap.size ≤ w9.heap.size := hb9.size))
              all_goals
                go_wp2_with fail
                go_meet
                case rel => exact ⟨rfl, Below.drew' hb9⟩
            · have hg2 : decide (sn < 1024) = false := by simpa using hk
              clear hk hbad hg
              go_quiet ((go_at_call 22; exact Calls.quiet_of_same ((num_any _ _).mono fun _ _ hh => ⟨hh.1, hh.2.symm⟩)))
              all_goals
                go_wp2_with fail
                go_meet
                case rel => exact ⟨rfl, (Below.refl _ _).drewN _⟩
          · have hg1 : decide ((0 : Int) ≤ sn) = false := by simpa using hg
            clear hbad hg
            go_quiet ((go_at_call 22; exact Calls.quiet_of_same ((num_any _ _).mono fun _ _ hh => ⟨hh.1, hh.2.symm⟩)))
            all_goals
              go_wp2_with fail
              go_meet
              case rel => exact ⟨rfl, (Below.refl _ _).drewN _⟩
        case rest =>
          obtain ⟨rfl, hbw⟩ := hcut
          have hBt : Below w.heap.size w wc := hB3.trans (hbw.mono hB3.size)
          have hbt := (hA3'.below hbw).more hbw.size
          clear hva hbw hA3 hA3' hB3 b0 x0 x1 x2 x3 hl0 hbad
          generalize wc = wt at *
          have hdc := decode_any A' n' c' bs wt hbt (by omega)
          cases hdd : decU bs with
          | inl er =>
            rw [hdd] at hdc
            have her := decU_err bs er hdd
            have hne : ((er : Int) != 0) = true := by simp; omega
            have hne2 : ((er : Int) == 0) = false := by simp; omega
            clear hdd her
            go_wp2_with fail
            refine hdc.mono ?_
            rintro e9 w9 ⟨hb9, ⟨er', hh, rfl⟩ | ⟨sn9, s9, en9, ps9, vo9, hh, _, _⟩⟩
            · cases hh
              go_wp2_with (first | (go_at_call 22; refine (num_any _ _).mono ?_; rintro e4 w4 ⟨rfl, rfl⟩) | (go_at_call 18; refine (works_any _).mono ?_; rintro e4 w10 ⟨rfl, hb10⟩))
              go_ret
              have hs9 := hb9.size
              have hst := hBt.size
              exact ⟨rfl, (hBt.trans (hb9.mono hst)).trans ((((Below.refl w9.heap.size w9).alloc (Nat.le_refl _) _).trans (hb10.mono (by simp))).mono (by omega))⟩
            · cases hh
          | inr r =>
            obtain ⟨sn', s', e', ps'⟩ := r
            rw [hdd] at hdc
            obtain ⟨hsn', hv', he'⟩ := enc_dec bs _ _ _ _ hdd
            have HV := Lib.hid hv'
            have HE := Lib.hid he'
            clear hdd he' hv'
            go_wp2_with fail
            refine hdc.mono ?_
            clear hdc
            rintro e9 w9 ⟨hb9, ⟨er', hh, _⟩ | ⟨sn9, s9, en9, ps9, vo9, hh, rfl, hpo9⟩⟩
            · cases hh
            · cases hh
              obtain ⟨A9, c9, vs9, rfl, hs9⟩ := hpo9.sls
              clear hpo9
              have hb10 := (Below.refl w9.heap.size w9).alloc (Nat.le_refl _) (.cells #[.int .i64 (sn' : Int), .bool s', .bool e', .slice A9 ps'.length c9] 26)
              have hs10 := (hs9.below hb10).more hb10.size
              have hBt9 : Below w.heap.size w w9 := hBt.trans (hb9.mono hBt.size)
              have hBt10 : Below w.heap.size w (w9.alloc (.cells #[.int .i64 (sn' : Int), .bool s', .bool e', .slice A9 ps'.length c9] 26)) := hBt9.trans (hb10.mono hBt9.size)
              have hbt10 := ((hbt.below hb9).more hb9.size).below hb10 |>.more hb10.size
              go_wp2_with (go_at_call 22; refine (num_any _ _).mono ?_; rintro e4 w4 ⟨rfl, rfl⟩)
              generalize w9.alloc (.cells #[.int .i64 (sn' : Int), .bool s', .bool e', .slice A9 ps'.length c9] 26) = w10 at *
              have henc := encode_ok sn' s' e' A9 ps'.length c9 vs9 ps' w10 hs10 (by omega) ((validB_iff ps').2 HV.out)
              rw [HE.out] at henc
              refine henc.mono ?_
              clear henc
              rintro e11 w11 ⟨v11, rfl, hv11, hb11⟩
              obtain ⟨A11, c11, rfl, hs11, _⟩ := own_sl hv11
              have hbt11 := (hbt10.below hb11).more hb11.size
              have hBt11 : Below w.heap.size w w11 := hBt10.trans (hb11.mono hBt10.size)
              have hsame := same_any A11 bs.length c11 bs A' n' c' bs w11 _ _ hs11 hbt11
              rw [show decide (bs = bs) = true by simp] at hsame
              clear hs11 hbt11 hv11 hb11 hBt10 hbt10 hs10 hb10 hs9 hb9 hBt9
              go_wp2_with (first | (go_at_call 22; refine (num_any _ _).mono ?_; rintro e4 w4 ⟨rfl, rfl⟩) | (go_at_call 21; refine hsame.mono ?_; rintro e4 w4 ⟨rfl, rfl⟩) | (go_at_call 18; refine (works_any _).mono ?_; rintro e4 w12 ⟨rfl, hb12⟩))
              go_ret
              exact ⟨rfl, hBt11.trans (hb12.mono hBt11.size)⟩
end Go.Proofs.Ytchlbpfeiamieaa
namespace Go.Proofs.Ytchlbpfeiamieaa
open Go.RowKit

theorem Sl.upto' {w : World} {B : Nat} {A : Option Addr} {n c k : Nat} {xs : List Value} (h : Sl w B A n c xs) (hk : k ≤ n) : Sl w B A k c (xs.take k) := by
  have hl := h.len
  refine ⟨by simp; omega, by have := h.cap; omega, h.mx, fun hp => ?_⟩
  obtain ⟨ad, e, hb, hc⟩ := h.at_ (by omega)
  refine ⟨ad, e, hb, fun j u hu => hc j u ?_⟩
  rw [List.getElem?_take] at hu
  split at hu
  · exact hu
  · cases hu
theorem Sls.one {w : World} {B : Nat} {A : Option Addr} {n c : Nat} {vs : List Value} {ps : List (List UInt8)} (h : Sls w B A n c vs ps) : ∀ u ∈ vs, u.oneCell' = true := by
  intro u hu
  obtain ⟨i, hi, rfl⟩ := List.mem_iff_getElem.1 hu
  have h1 := h.len
  have h2 := h.sl.len
  have hp : i < ps.length := by omega
  obtain ⟨Ai, ci, e, _⟩ := h.each i _ (List.getElem?_eq_getElem hp)
  rw [List.getElem?_eq_getElem hi] at e
  injection e with e
  have e' : vs.get ⟨i, hi⟩ = Value.slice Ai ps[i].length ci := e
  first | rw [e'] | rw [e]
  rfl
theorem cuts_b8 {w7 W w8 : World} {b n c : Nat} (hB : Below w7.heap.size w7 W) (hg : W.grownBy w8 (Value.slice (some ⟨b, 0, none⟩) n c).ownBlock) (hb : w7.heap.size ≤ b) : Below w7.heap.size w7 w8 :=
  hB.grown hg hB.size (fun g e => by
    have : b = g := by simpa [Value.ownBlock] using e
    omega)
theorem cuts_b9 {w7 W w8 w9 : World} {v8 : Value} {n : Nat} {xs : List Value} (hB : Below w7.heap.size w7 W) (hown : w8.ownsRow w7.heap.size 29 1 v8 n xs) (hg : W.grownBy w9 v8.ownBlock) : Below w7.heap.size w7 w9 :=
  hB.grown hg hB.size (fun g e => by
    obtain ⟨_, _, _, h⟩ := own_isRow hown e
    exact h)
theorem cuts_lit_b {w7 w8 : World} {y : Value} (hg : ((w7.alloc (.cells #[] 29)).alloc (.cells #[y] 29)).drew.grownBy w8 (Value.slice (some ⟨w7.heap.size, 0, none⟩) 0 0).ownBlock) :
    Sl w8 w8.heap.size (some ⟨w7.heap.size + 1, 0, none⟩) 1 1 [y] := by
  have h1 := hg.block (w7.heap.size + 1) (by simp [World.drew]) (by simp [Value.ownBlock])
  have h2 : ((w7.alloc (.cells #[] 29)).alloc (.cells #[y] 29)).drew.heap[w7.heap.size + 1]? = some (.cells #[y] 29) := by
    have := heap_new (w7.alloc (.cells #[] 29)) (.cells #[y] 29)
    rw [World.size_alloc] at this
    exact this
  exact sl_lit (h1.trans h2) rfl (by simp)
theorem cuts_lit_c {w7 w8 : World} {y : Value} (hg : ((w7.alloc (.cells #[y] 29)).alloc (.cells #[] 29)).drew.grownBy w8 (Value.slice (some ⟨w7.heap.size + 1, 0, none⟩) 0 0).ownBlock) :
    Sl w8 w8.heap.size (some ⟨w7.heap.size, 0, none⟩) 1 1 [y] := by
  have h1 := hg.block w7.heap.size (by simp [World.drew]; omega) (by simp [Value.ownBlock])
  have h2 : ((w7.alloc (.cells #[y] 29)).alloc (.cells #[] 29)).drew.heap[w7.heap.size]? = some (.cells #[y] 29) :=
    (Below.heap_alloc (w7.alloc (.cells #[y] 29)) (.cells #[] 29) w7.heap.size (by simp)).trans (heap_new w7 _)
  exact sl_lit (h1.trans h2) rfl (by simp)
theorem cuts_own_b (w7 : World) (y : Value) : ((w7.alloc (.cells #[] 29)).alloc (.cells #[y] 29)).drew.ownsRow w7.heap.size 29 1 (.slice (some ⟨w7.heap.size, 0, none⟩) 0 0) 0 [] :=
  World.ownsRow.drew' ((World.ownsRow_lit w7 #[] 0 (Nat.le_refl _) (by unfold maxLen; omega) rfl).alloc _)
theorem cuts_own_c (w7 : World) (y : Value) : ((w7.alloc (.cells #[y] 29)).alloc (.cells #[] 29)).drew.ownsRow w7.heap.size 29 1 (.slice (some ⟨w7.heap.size + 1, 0, none⟩) 0 0) 0 [] := by
  have hh := World.ownsRow.drew' (World.ownsRow_lit (e := 29) (size := 1) (base := w7.heap.size) (w7.alloc (.cells #[y] 29)) #[] 0 (by simp) (by unfold maxLen; omega) rfl)
  rw [World.size_alloc] at hh
  exact hh

theorem cuts_meet {w7 w9 : World} {g q c cc r c9 : Nat} {s e : Bool} {A A9 : Option Addr} {ai : Addr} {vs : List Value} {ps l : List (List UInt8)} {x : List UInt8} {u : Value}
    (hb9 : Below w7.heap.size w7 w9) (hg : g + 1 + 1 ≤ w7.heap.size) (bw : Blk w7 (g + 1) 24 #[.bool s, .bool e, u])
    (hA : Sls w7 (g + 1) A (q + 1) c vs ps) (hps : ps = l ++ [x]) (hlq : l.length = q) (hsx : Sl w7 (g + 1) (some ai) x.length cc (bvs x)) (hr : r ≤ x.length)
    (hs9 : Sl w9 w9.heap.size A9 (q + 1) c9 (vs.take q ++ [.slice (some ai) r cc])) (hbase : 0 < q + 1 → ∃ ad, A9 = some ad ∧ w7.heap.size ≤ ad.block) :
    ∃ (Aw : Option Addr) (cw : Nat) (vw : List Value), Blk (w9.setCell ⟨g + 1, 2, none⟩ (.slice A9 (q + 1) c9)) (g + 1) 24 #[.bool s, .bool e, .slice Aw (q + 1) cw] ∧
      Sls (w9.setCell ⟨g + 1, 2, none⟩ (.slice A9 (q + 1) c9)) (w9.setCell ⟨g + 1, 2, none⟩ (.slice A9 (q + 1) c9)).heap.size Aw (q + 1) cw vw (l ++ [x.take r]) ∧
      Below (g + 1) w7 (w9.setCell ⟨g + 1, 2, none⟩ (.slice A9 (q + 1) c9)) := by
  have hsz : (w9.setCell ⟨g + 1, 2, none⟩ (.slice A9 (q + 1) c9)).heap.size = w9.heap.size := by simp [World.setCell]
  have h79 := hb9.size
  have hbb : Below (g + 1) w7 (w9.setCell ⟨g + 1, 2, none⟩ (.slice A9 (q + 1) c9)) := (hb9.mono (by omega)).setCell (by simp) _
  have hkeep : ∀ p : Addr, p.block ≠ g + 1 → (w9.setCell ⟨g + 1, 2, none⟩ (.slice A9 (q + 1) c9)).cell? p = w9.cell? p := fun p hp =>
    World.cell?_setCell_other w9 ⟨g + 1, 2, none⟩ p _ (fun e => hp (by rw [← e]))
  refine ⟨A9, c9, vs.take q ++ [.slice (some ai) r cc], ?_, ⟨⟨hs9.len, hs9.cap, hs9.mx, fun hn => ?_⟩, by simp [hlq], fun i p hi => ?_⟩, hbb⟩
  · exact (bw.below hb9 (by omega)).set_ 2 _
  · obtain ⟨ad, e, hb, hc⟩ := hs9.at_ hn
    obtain ⟨ad', e', hb'⟩ := hbase hn
    rw [e] at e'
    cases e'
    refine ⟨ad, e, by rw [hsz]; exact hb, fun j v hv => (hkeep _ ?_).trans (hc j v hv)⟩
    rw [block_add]
    omega
  · have hvl := hA.sl.len
    by_cases hiq : i < q
    · rw [List.getElem?_append_left (by omega)] at hi
      obtain ⟨Ai, ci', e1, h1⟩ := hA.each i p (by rw [hps, List.getElem?_append_left (by omega)]; exact hi)
      refine ⟨Ai, ci', ?_, (h1.below hbb).more (by omega)⟩
      rw [List.getElem?_append_left (by simp; omega), List.getElem?_take, if_pos hiq]
      exact e1
    · rw [List.getElem?_append_right (by omega)] at hi
      have hi0 : i = q := by
        have : i - l.length < [x.take r].length := (List.getElem?_eq_some_iff.1 hi).1
        simp at this
        omega
      subst hi0
      rw [hlq] at hi
      simp at hi
      subst hi
      have hl : (x.take r).length = r := by simp; omega
      refine ⟨some ai, cc, ?_, ?_⟩
      · rw [List.getElem?_append_right (by simp; omega), hl]
        simp [show i - min i vs.length = 0 by omega]
      · rw [hl]
        have := (hsx.upto' hr)
        unfold bvs at this ⊢
        rw [List.map_take]
        exact (this.below hbb).more (by omega)
theorem keep_cuts {w w' : World} {B a g k : Nat} {x0 y0 y1 y2 y3 z0 z1 z2 : Value} (hb : Below B w w') (ha : a < B) (hg : g < B) (hk : k < B)
    (h : w.cell? ⟨a, 0, none⟩ = some x0 ∧ w.cell? ⟨g, 0, none⟩ = some y0 ∧ w.cell? ⟨g, 1, none⟩ = some y1 ∧ w.cell? ⟨g, 2, none⟩ = some y2 ∧ w.cell? ⟨g, 3, none⟩ = some y3 ∧ w.cell? ⟨k, 0, none⟩ = some z0 ∧ w.cell? ⟨k, 1, none⟩ = some z1 ∧ w.cell? ⟨k, 2, none⟩ = some z2) :
    w'.cell? ⟨a, 0, none⟩ = some x0 ∧ w'.cell? ⟨g, 0, none⟩ = some y0 ∧ w'.cell? ⟨g, 1, none⟩ = some y1 ∧ w'.cell? ⟨g, 2, none⟩ = some y2 ∧ w'.cell? ⟨g, 3, none⟩ = some y3 ∧ w'.cell? ⟨k, 0, none⟩ = some z0 ∧ w'.cell? ⟨k, 1, none⟩ = some z1 ∧ w'.cell? ⟨k, 2, none⟩ = some z2 := by
  obtain ⟨h0, h1, h2, h3, h4, h5, h6, h7⟩ := h
  exact ⟨(hb.cell (p := ⟨a, 0, none⟩) ha).trans h0, (hb.cell (p := ⟨g, 0, none⟩) hg).trans h1, (hb.cell (p := ⟨g, 1, none⟩) hg).trans h2, (hb.cell (p := ⟨g, 2, none⟩) hg).trans h3, (hb.cell (p := ⟨g, 3, none⟩) hg).trans h4,
    (hb.cell (p := ⟨k, 0, none⟩) hk).trans h5, (hb.cell (p := ⟨k, 1, none⟩) hk).trans h6, (hb.cell (p := ⟨k, 2, none⟩) hk).trans h7⟩
end Go.Proofs.Ytchlbpfeiamieaa
