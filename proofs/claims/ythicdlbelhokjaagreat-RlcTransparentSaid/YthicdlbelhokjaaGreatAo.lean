/- law38: RlcTransparent. -/
import Derived.Test.YthicdlbelhokjaaGreatAn
import Derived.Deep.RegionHeldLaw
namespace Go.Proofs.YthicdlbelhokjaaGreat
open Go.RowKit
attribute [local go_sem] Oper.semAt_some

theorem Blk.four_ {w : World} {g : Nat} {t : TypeId} {x y z u : Value} (b : Blk w g t #[x, y, z, u]) : w.cell? ⟨g, 0, none⟩ = some x ∧ w.cell? ⟨g, 1, none⟩ = some y ∧ w.cell? ⟨g, 2, none⟩ = some z ∧ w.cell? ⟨g, 3, none⟩ = some u := ⟨b.cell 0, b.cell 1, b.cell 2, b.cell 3⟩
/-- behind a round's call: the two hold the same -/
def Same38 (w : World) (cap g t q k : Nat) (W : World) : Prop :=
  ∃ v vs sd u us, RMem w cap g t q v vs sd u us sd W ∧ InCall w us sd ∧ sd.length ≤ k ∧ ∀ s ∈ sd, s.length ≤ 9000
theorem acked_ent (base g t : Nat) (v : Value) (vs : List Value) (sdus : List (List UInt8)) (cap : Nat) (w : World) (h : Ent w base g t v vs sdus cap) : Calls Tryz.prog 37 #[.pointer (some ⟨g, 0, none⟩)] w fun e w' => e = .returned (.pointer none) ∧ w = w' := by
  have hno := none_any g 1 _ _ w h.ent
  have x2 := h.ent.cell 2
  simp at x2
  have HN := Lib.hid hno
  clear hno h
  go_enter Tryz.func37, Tryz.ntmps37
  go_wp2_with (go_at_call 36; refine HN.out.mono ?_; rintro e1 w1 ⟨rfl, rfl⟩)
  go_ret
  exact ⟨rfl, rfl⟩
theorem sumLen_9000 : ∀ (l : List (List UInt8)), (∀ s ∈ l, s.length ≤ 9000) → sumLen l ≤ 9000 * l.length
  | [], _ => by simp [sumLen]
  | a :: r, h => by
    have h1 := sumLen_9000 r (fun s hs => h s (by simp [hs]))
    have h2 := h a (by simp)
    simp only [sumLen, List.map_cons, List.sum_cons, List.length_cons] at *
    omega
set_option maxRecDepth 100000 in
set_option maxHeartbeats 4000000 in
theorem rlcTransparent_walk (cap : Int) (A : Option Addr) (n c : Nat) (l : List StepV) (w : World) (h : SlS w w.heap.size A n c l) :
    Calls Tryz.prog 4 #[.int .i64 cap, .slice A n c] w (IsTrue w) := by
  have hfew := few_any A n c l w h
  go_enter Tryz.func4, Tryz.ntmps4
  go_wp2_with fail
  refine hfew.mono ?_
  clear hfew
  rintro e0 w0 ⟨b, rfl, hb, rfl⟩
  cases b with
  | false =>
    go_wp2_with (go_at_call 10; refine (known_any _).mono ?_; rintro e1 w1 ⟨rfl, hb1⟩)
    go_ret
    exact ⟨rfl, hb1⟩
  | true =>
    have hn40 := hb rfl
    clear hb
    by_cases hcv : cap < 1 ∨ 50 < cap
    · rcases hcv with hcv | hcv
      · go_wp2_with (go_at_call 10; refine (known_any _).mono ?_; rintro e1 w1 ⟨rfl, hb1⟩)
        go_ret
        exact ⟨rfl, hb1⟩
      · have hc1 : ¬ cap < 1 := by omega
        go_wp2_with (go_at_call 10; refine (known_any _).mono ?_; rintro e1 w1 ⟨rfl, hb1⟩)
        go_ret
        exact ⟨rfl, hb1⟩
    obtain ⟨cp, rfl⟩ := Int.eq_ofNat_of_zero_le (show 0 ≤ cap by omega)
    have hnk := rnew_ok cp 0 0 0 0 0 0 0 0 w (by omega) (by omega)
    unfold cfg at hnk
    have HNK := Lib.hid hnk
    clear hnk
    go_wp2_with (go_at_call 6; refine HNK.out.mono ?_; rintro e1 w1 ⟨g, t, rfl, hg1, ht1, hgl, htl, hgt, hb1⟩)
    clear HNK
    have hbq := Blk.new w1 50 #[.int .i64 (cp : Int), .slice none 0 0]
    have hM0 : Same38 w cp g t w1.heap.size 0 (w1.alloc (.cells #[.int .i64 (cp : Int), .slice none 0 0] 50)) :=
      ⟨_, [], [], _, [], ⟨⟨hg1.alloc _, ht1.alloc _, ownQ_nil _ _ _, fun i p hi => by simp at hi⟩, ⟨hbq, ownQ_nil _ _ _, fun i p hi => by simp at hi⟩, fun k hk => by simp [qBlock] at hk, hgt, hgl, htl, hb1.size, hb1.alloc hb1.size _⟩, fun i p hi => by simp at hi, Nat.le_refl _, by simp⟩
    generalize w1.alloc (.cells #[.int .i64 (cp : Int), .slice none 0 0] 50) = w2 at *
    generalize w1.heap.size = q at *
    have HSL := Lib.hid h
    have HM0 := Lib.hid hM0
    have hncap := h.cap
    have hmx := h.mx
    clear h hM0 hbq hg1 ht1 hb1 hgl htl
    go_loopg [8] n (fun gk s8 wr => ∃ k : Nat, gk = n - k ∧ k ≤ n ∧ s8 = .int .i64 k ∧ Same38 w cp g t q k wr)
    case atStart => exact ⟨0, by omega, by omega, rfl, HM0.out⟩
    case round =>
      obtain ⟨k, hgk, hkn, rfl, hM⟩ := hrel
      have HGK := Lib.hid hgk
      have HM := Lib.hid hM
      clear hgk hM HM0
      by_cases hlt : k < n
      · obtain ⟨v, vs, sd, u, us, hR, hI, hsl, hs9⟩ := HM.out
        obtain ⟨ad, ⟨kd, now, kk, Ax, x, cx⟩, rfl, hadl, hx, h1, h2, h3, h4, h5⟩ := (HSL.out.below hR.bel).get hlt
        obtain ⟨ad', x', hh, _, hx', _, _, _, _, h5w⟩ := HSL.out.get hlt
        cases hh
        rw [hx] at hx'
        cases hx'
        dsimp only at h1 h2 h3 h4 h5 h5w
        have hcx := h5w.cap
        have hmxx := h5w.mx
        have hd1 := h2
        have hd2 := h3
        have hd3 := h4
        rw [← add_struct ad (k * 4) 1 (by omega)] at hd1
        rw [← add_struct ad (k * 4) 2 (by omega)] at hd2
        rw [← add_struct ad (k * 4) 3 (by omega)] at hd3
        have HR := Lib.hid hR
        have HI := Lib.hid hI
        have HS9 := Lib.hid hs9
        have H5 := Lib.hid h5w
        clear hx h5 h5w hR hI hs9 HM
        go_upto_block 2 with (fail)
        have bx := Blk.new wr 53 #[.int .i64 kd, .int .i64 now, .int .i64 kk, .slice Ax x.length cx]
        have hX : RMx w cp g t q v vs sd u us sd wr.heap.size #[.int .i64 kd, .int .i64 now, .int .i64 kk, .slice Ax x.length cx] (wr.alloc (.cells #[.int .i64 kd, .int .i64 now, .int .i64 kk, .slice Ax x.length cx] 53)) := ⟨HR.out.more ((Below.refl _ wr).alloc (Nat.le_refl _) _), bx⟩
        obtain ⟨z0, z1, z2, z3⟩ := bx.four_
        have HX := Lib.hid hX
        clear h1 h2 h3 h4 hd1 hd2 hd3 bx hX HR
        generalize wr.alloc (.cells #[.int .i64 kd, .int .i64 now, .int .i64 kk, .slice Ax x.length cx] 53) = w5 at *
        generalize wr.heap.size = xb at *
        have hxl : xb < w5.drew.heap.size := HX.out.2.lt
        go_cut [10] (fun s10 wx => s10 = .bool true ∧ Same38 w cp g t q (k + 1) wx)
        case first =>
          by_cases hk1 : kd = 1
          · subst hk1
            have hX0 : RMx w cp g t q v vs sd u us sd xb #[.int .i64 1, .int .i64 now, .int .i64 kk, .slice Ax x.length cx] w5.drew := HX.out.more ((Below.refl _ _).drew)
            by_cases hbad : x.length = 0 ∨ 9000 < x.length
            · go_wp2_with fail
              go_region_held3 (fun w' => w'.cell? ⟨xb, 3, none⟩ = some (.slice Ax x.length cx))
                (first | assumption | go_keep)
                (first
                  | (go_at_call 17; refine (c17_bad (by assumption) Ax x.length cx hbad hcx hmxx).mono ?_; rintro e1 w1 ⟨rfl, hr1⟩; have hm1 : w1.cell? ⟨xb, 3, none⟩ = some (.slice Ax x.length cx) := hr1.2.cell 3)
                  | (go_at_call 18; refine (c18_bad (by assumption) Ax x.length cx hbad hcx hmxx).mono ?_; rintro e2 w2 ⟨rfl, hr2⟩; have hm2 : w2.cell? ⟨xb, 3, none⟩ = some (.slice Ax x.length cx) := hr2.2.cell 3))
              all_goals
                go_wp2_with fail
                go_meet
                first
                  | exact ⟨rfl, _, _, _, _, _, hr2.1, HI.out, by omega, HS9.out⟩
                  | exact ⟨rfl, _, _, _, _, _, hr1.1, HI.out, by omega, HS9.out⟩
            by_cases hfull : cp ≤ sd.length
            · go_wp2_with fail
              go_region_held3 (fun w' => w'.cell? ⟨xb, 3, none⟩ = some (.slice Ax x.length cx))
                (first | assumption | go_keep)
                (first
                  | (go_at_call 17; refine (c17_full (by assumption) Ax x.length cx (by omega) (by omega) hcx hmxx hfull).mono ?_; rintro e1 w1 ⟨rfl, hr1⟩; have hm1 : w1.cell? ⟨xb, 3, none⟩ = some (.slice Ax x.length cx) := hr1.2.cell 3)
                  | (go_at_call 18; refine (c18_full (by assumption) Ax x.length cx (by omega) (by omega) hcx hmxx hfull).mono ?_; rintro e2 w2 ⟨rfl, hr2⟩; have hm2 : w2.cell? ⟨xb, 3, none⟩ = some (.slice Ax x.length cx) := hr2.2.cell 3))
              all_goals
                go_wp2_with fail
                go_meet
                first
                  | exact ⟨rfl, _, _, _, _, _, hr2.1, HI.out, by omega, HS9.out⟩
                  | exact ⟨rfl, _, _, _, _, _, hr1.1, HI.out, by omega, HS9.out⟩
            have hlx0 : 0 < x.length := by omega
            have hlx9 : x.length ≤ 9000 := by omega
            have hlf : sd.length < cp := by omega
            have hsdm : sd.length ≤ 1000000 := by omega
            have hI' : InCall w (us ++ [.slice Ax x.length cx]) (sd ++ [x]) := HI.out.snoc (by simpa using HX.out.1.rf.row.1) H5.out
            have HI' := Lib.hid hI'
            have hs9' : ∀ s ∈ sd ++ [x], s.length ≤ 9000 := fun s hs => by
              rw [List.mem_append] at hs
              rcases hs with hs | hs
              · exact HS9.out s hs
              · simp at hs; rw [hs]; exact hlx9
            have HS9' := Lib.hid hs9'
            clear hI' hs9' hbad hfull
            go_wp2_with fail
            go_region_held3 (fun w' => w'.cell? ⟨xb, 3, none⟩ = some (.slice Ax x.length cx))
              (first | assumption | go_keep)
              (first
                | (go_at_call 17; refine (c17_ok (by assumption) Ax x.length cx x H5.out hlx0 hlx9 hlf hsdm).mono ?_; rintro e1 w1 ⟨rfl, v1, vs1, hr1⟩; have hm1 : w1.cell? ⟨xb, 3, none⟩ = some (.slice Ax x.length cx) := hr1.2.cell 3)
                | (go_at_call 18; refine (c18_ok (by assumption) Ax x.length cx x HI.out H5.out hlx0 hlx9 hlf hsdm).mono ?_; rintro e2 w2 ⟨rfl, u1, hr2⟩; have hm2 : w2.cell? ⟨xb, 3, none⟩ = some (.slice Ax x.length cx) := hr2.2.cell 3))
            all_goals
              go_wp2_with fail
              go_meet
              first
                | exact ⟨rfl, _, _, _, _, _, hr2.1, HI'.out, by simp; omega, HS9'.out⟩
                | exact ⟨rfl, _, _, _, _, _, hr1.1, HI'.out, by simp; omega, HS9'.out⟩
          by_cases hk2 : kd = 2
          · subst hk2
            by_cases hnone : sd = [] ∨ ∃ x r, sd = x :: r ∧ kk < x.length
            · have hg := cGrant_none HX.out now kk hnone
              have hq := fun j => c20_none (HX.out.drewn (W' := w5.drewN j) ⟨j, rfl⟩) kk hnone
              have HG := Lib.hid hg
              have HQ := Lib.hid hq
              have kn := fun W : World => conv_sl (w := W) (B := 0) (l := []) (A := none) (n := 0) (c := 0) (Sl.nil_.2 (by omega))
              clear hg hq hnone
              go_wp2_with (go_at_call 19; refine HG.out.mono ?_; rintro e1 w1 ⟨rfl, rfl⟩)
              go_quiet ((go_at_call 20; exact Calls.quiet_of_same ((HQ.out _).mono fun _ _ hh => ⟨hh.1, hh.2.symm⟩)))
              go_wp2_with fail
              go_meet
              exact ⟨rfl, _, _, _, _, _, (HX.out.drewn ⟨_, rfl⟩).1, HI.out, by omega, HS9.out⟩
            · obtain ⟨x0, rest, rfl⟩ : ∃ x0 rest, sd = x0 :: rest := by
                cases sd with
                | nil => exact absurd (.inl rfl) hnone
                | cons a b => exact ⟨a, b, rfl⟩
              have hkk : x0.length ≤ kk := by
                rcases Int.lt_or_le kk x0.length with e | e
                · exact absurd (.inr ⟨x0, rest, rfl, e⟩) hnone
                · exact e
              have hg := cGrant_ok HX.out now kk hkk
              have HG := Lib.hid hg
              clear hg hnone
              go_wp2_with (go_at_call 19; refine HG.out.mono ?_; rintro e1 w6 ⟨A6, c6, v6, vs6, rfl, ho6, hr6⟩)
              have kb0 := conv_sl (own_sl' ho6).drew
              have hr6' : RMx w cp g t q v6 vs6 rest u us (x0 :: rest) xb #[.int .i64 2, .int .i64 now, .int .i64 kk, .slice Ax x.length cx] w6.drew := hr6.more ((Below.refl _ _).drew)
              have ho6' : w6.drew.ownsRow w.heap.size 5 1 (.slice A6 x0.length c6) x0.length (bvs x0) := ho6
              have hc6 : w6.cell? ⟨xb, 2, none⟩ = some (.int .i64 kk) := hr6.2.cell 2
              have HQ := Lib.hid (c20_ok hr6' HI.out kk hkk)
              have HO6 := Lib.hid ho6'
              clear ho6 hr6 hr6' ho6'
              go_region_held_law (fun w' => w'.cell? ⟨xb, 2, none⟩ = some (.int .i64 kk))
                (first | assumption | go_keep)
                ((go_at_call 20; refine HQ.out.mono ?_; rintro e2 w7 ⟨A7, c7, u7, us7, rfl, hs7, hr7, hi7, hk7⟩; have hm7 : w7.cell? ⟨xb, 2, none⟩ = some (.int .i64 kk) := hr7.2.cell 2; have kb1 := conv_sl (own_sl' (hk7 _ _ _ _ HO6.out)); have kc7 := conv_sl hs7))
              all_goals
                go_wp2_with fail
                go_meet
                exact ⟨rfl, _, _, _, _, _, hr7.1, hi7, by simp at hsl; omega, fun s hs => HS9.out s (by simp [hs])⟩
          by_cases hk3 : kd = 3
          · subst hk3
            by_cases hbad : x.length = 0 ∨ 9000 < x.length
            · have hc := rreceive_of _ g t v vs sd cp now Ax x.length cx w5 HX.out.1.ent _ (fun _ _ hh => ⟨_, _, hh.1⟩) (treceive_bad t now Ax x.length cx w5 hbad hcx hmxx)
              have HC := Lib.hid hc
              clear hc
              rcases hbad with hb0 | hb9
              · have e0 : ((x.length : Int) == 0) = true := by simp; exact List.eq_nil_of_length_eq_zero hb0
                clear hb0
                go_wp2_with (go_at_call 21; refine HC.out.mono ?_; rintro e1 w1 ⟨rfl, rfl⟩)
                go_meet
                exact ⟨rfl, _, _, _, _, _, HX.out.1, HI.out, by omega, HS9.out⟩
              · have e0 : ((x.length : Int) == 0) = false := by simp; intro e; rw [e] at hb9; simp at hb9
                have e9 : decide ((9000 : Int) < x.length) = true := by simp; omega
                clear hb9
                go_wp2_with (go_at_call 21; refine HC.out.mono ?_; rintro e1 w1 ⟨rfl, rfl⟩)
                go_meet
                exact ⟨rfl, _, _, _, _, _, HX.out.1, HI.out, by omega, HS9.out⟩
            · have hc := rreceive_of _ g t v vs sd cp now Ax x.length cx w5 HX.out.1.ent _ (fun _ _ ⟨_, _, _, hh, _⟩ => ⟨_, _, hh⟩) (treceive_ok t now Ax x.length cx x w5 ((H5.out.below HX.out.1.bel).more HX.out.1.bel.size) (by omega) (by omega))
              have HC := Lib.hid hc
              have e0 : ((x.length : Int) == 0) = false := by simp; intro e; rw [e] at hbad; simp at hbad
              have e9 : decide ((9000 : Int) < x.length) = false := by simp; omega
              clear hc hbad
              go_wp2_with (go_at_call 21; refine HC.out.mono ?_; rintro e1 w6 ⟨b6, A6, c6, rfl, hs6, hb6⟩; have hx6 := HX.out.more hb6; obtain ⟨y0, y1, y2, y3⟩ := hx6.2.four_)
              have hsl6 := sameList_eq _ _ 1 1 1 _ _ [x] _ ((hs6.below ((Below.refl _ w6).alloc (Nat.le_refl _) (.cells #[.slice Ax x.length cx] 51))).more (by simp)) (sls_one ((H5.out.below hx6.1.bel).more hx6.1.bel.size))
              refine hsl6.mono ?_
              rintro e2 w7 ⟨rfl, hd7⟩
              go_wp2_with fail
              go_meet
              exact ⟨rfl, _, _, _, _, _, ((hx6.more ((Below.refl _ w6).alloc (Nat.le_refl _) _)).drewn hd7).1, HI.out, by omega, HS9.out⟩
          by_cases hk4 : kd = 4
          · subst hk4
            have HC := Lib.hid (rtick_any _ g t v vs sd cp now w5 HX.out.1.ent)
            go_wp2_with (go_at_call 23; refine HC.out.mono ?_; rintro e1 w1 ⟨rfl, rfl⟩)
            go_meet
            exact ⟨rfl, _, _, _, _, _, HX.out.1, HI.out, by omega, HS9.out⟩
          have e1 : (kd == 1) = false := by simpa using hk1
          have e2 : (kd == 2) = false := by simpa using hk2
          have e3 : (kd == 3) = false := by simpa using hk3
          have e4 : (kd == 4) = false := by simpa using hk4
          clear hk1 hk2 hk3 hk4
          go_wp2_with fail
          go_meet
          exact ⟨rfl, _, _, _, _, _, HX.out.1, HI.out, by omega, HS9.out⟩
        case rest =>
          obtain ⟨rfl, hS⟩ := hcut
          obtain ⟨v', vs', sd', u', us', hR', hI', hsl', hs9'⟩ := hS
          have hsum : sumLen sd' ≤ 1152921504606846976 := by have := sumLen_9000 sd' hs9'; omega
          have hbE := rbuffered_any w.heap.size g t v' vs' sd' cp wc hR'.ent hsum
          have hbR := qbytes2_any w.heap.size q u' us' sd' cp wc hR'.rf hR'.bel.size hsum
          have HBE := Lib.hid hbE
          have HBR := Lib.hid hbR
          have HS := Lib.hid (show Same38 w cp g t q (k + 1) wc from ⟨v', vs', sd', u', us', hR', hI', hsl', hs9'⟩)
          have d0 : ((sumLen sd' : Int) != (sumLen sd' : Int)) = false := by simp
          clear hbE hbR hR' hI' hs9'
          go_wp2_with (first | (go_at_call 12; refine HBE.out.mono ?_; rintro e1 w1 ⟨rfl, rfl⟩) | (go_at_call 24; refine HBR.out.mono ?_; rintro e1 w1 ⟨rfl, rfl⟩))
          go_roundg (n - (k + 1))
          case measure => rw [HGK.out]; omega
          case rel => exact ⟨k + 1, rfl, by omega, by go_num, HS.out⟩
      · obtain ⟨v, vs, sd, u, us, hR, hI, hsl, hs9⟩ := HM.out
        have hac := acked_ent w.heap.size g t v vs sd cp wr hR.ent
        have HF := Lib.hid (failed_of _ wr hac)
        have HCo := Lib.hid (confirmed_of _ wr hac)
        have HU := Lib.hid (unconfirmed_of _ wr hac)
        have HB := Lib.hid hR.bel
        clear hR hI hs9 hac
        go_wp2_with (first | (go_at_call 13; refine HF.out.mono ?_; rintro e1 w1 ⟨rfl, rfl⟩) | (go_at_call 14; refine HCo.out.mono ?_; rintro e1 w1 ⟨rfl, rfl⟩) | (go_at_call 15; refine HU.out.mono ?_; rintro e1 w1 ⟨rfl, rfl⟩) | (go_at_call 10; refine (known_any _).mono ?_; rintro e1 w1 ⟨rfl, hb1⟩))
        go_ret
        exact ⟨rfl, HB.out.trans (hb1.mono HB.out.size)⟩
end Go.Proofs.YthicdlbelhokjaaGreat
