/- RlcUnacknowledged walked. -/
import Derived.Test.YtbjajboodohabaaGreatE8
import Derived.Deep.DeepCutAuto
import Derived.Deep.CutBlock
namespace Go.Proofs.YtbjajboodohabaaGreat
open Go.RowKit Go.Shelf
attribute [local go_sem] Oper.semAt_some
theorem lm_new {w w1 w2 w3 : World} {c d : Int} {g u s1 r1 s2 r2 M2 : Nat} {Fs Fr : Nat → Prop} (hw1 : Below w.heap.size w w1) (hN : UNew w.heap.size w c d 2 g u s1 r1 Fs Fr w1) (hb2 : Below w1.heap.size w1 w2) (hs2 : w1.heap.size ≤ s2)
    (hS : SndP w.heap.size s2 (newUs c.toNat) (fun k => k = s2) w2) (hb3 : Below w2.heap.size w2 w3) (hr2 : w2.heap.size ≤ r2) (hM2 : w2.heap.size ≤ M2) (hR : RcvP w.heap.size r2 0 (newRs d) (fun k => k = r2 ∨ k = M2) w3) :
    ∃ F, LM w (fun k => k = g ∨ k = u) ⟨g, u, s1, s2, r1, r2⟩ (newUs c.toNat) (newUs c.toNat) 0 0 (newRs d) (newRs d) F w3 := by
  have hb23 : Below w1.heap.size w1 w3 := hb2.trans (hb3.mono hb2.size)
  have l1 := fun k => sndP_lt _ _ _ _ _ k hN.sp
  have l2 := sndP_lt _ _ _ _ _ s2 hS rfl
  have l3 := fun k => rcvP_lt _ _ _ _ _ _ k hN.rp
  have z1 := hw1.size
  have z2 := hb2.size
  have z3 := hb3.size
  have lg := hN.ent.lt
  have lu := hN.un.lt
  have g1 := hN.gg
  have g2 := hN.gu
  refine ⟨fun i => match i with | 0 => Fs | 1 => (fun k => k = s2) | 2 => Fr | 3 => (fun k => k = r2 ∨ k = M2), ⟨⟨fun i => ?_, fun i j hij k hi hj => ?_, fun i k hi => ?_, fun k hk => ?_⟩, ⟨hN.ent.below hb23 lg, hN.un.below hb23 lu⟩, .inl rfl, .inr rfl, hw1.trans (hb23.mono z1)⟩⟩
  · match i with
    | 0 => exact far_below (sndP_far _ _ _) hN.sp hb23
    | 1 => exact far_below (sndP_far _ _ _) hS hb3
    | 2 => exact far_below (rcvP_far _ _ _ _) hN.rp hb23
    | 3 => exact hR
  · match i, j with
    | 0, 0 => exact hij rfl
    | 1, 1 => exact hij rfl
    | 2, 2 => exact hij rfl
    | 3, 3 => exact hij rfl
    | 0, 1 => have := l1 k hi; have e : k = s2 := hj; omega
    | 1, 0 => have := l1 k hj; have e : k = s2 := hi; omega
    | 0, 2 => exact hN.dis k hi hj
    | 2, 0 => exact hN.dis k hj hi
    | 0, 3 => have := l1 k hi; rcases hj with e | e <;> omega
    | 3, 0 => have := l1 k hj; rcases hi with e | e <;> omega
    | 1, 2 => have := l3 k hj; have e : k = s2 := hi; omega
    | 2, 1 => have := l3 k hi; have e : k = s2 := hj; omega
    | 1, 3 => have e : k = s2 := hi; rcases hj with e' | e' <;> omega
    | 3, 1 => have e : k = s2 := hj; rcases hi with e' | e' <;> omega
    | 2, 3 => have := l3 k hi; rcases hj with e | e <;> omega
    | 3, 2 => have := l3 k hj; rcases hi with e | e <;> omega
  · match i with
    | 0 => have := hN.ge k (.inl hi); exact ⟨this.1, fun e => e.elim this.2.1 this.2.2⟩
    | 1 => have e : k = s2 := hi; exact ⟨by omega, fun e => by omega⟩
    | 2 => have := hN.ge k (.inr hi); exact ⟨this.1, fun e => e.elim this.2.1 this.2.2⟩
    | 3 => exact ⟨by rcases hi with e | e <;> omega, fun e => by rcases hi with e' | e' <;> omega⟩
  · rcases hk with rfl | rfl <;> omega
/-- an argument's bytes, later -/
theorem sl_arg {w wr W : World} {A : Option Addr} {n c : Nat} {xs : List Value} (h : Sl wr w.heap.size A n c xs) (hb : Below w.heap.size w wr) (hb' : Below w.heap.size w W) : Sl W W.heap.size A n c xs :=
  (h.keep fun _ hp => (hb'.cell hp).trans (hb.cell hp).symm).more hb'.size
/-- a round's end -/
def LE_ (w : World) (E : Nat → Prop) (X : Ids) (k : Nat) (W : World) : Prop := ∃ us m t F, LM w E X us us m m t t F W ∧ UsOk us k ∧ m ≤ k
set_option maxRecDepth 100000 in
set_option maxHeartbeats 8000000 in
theorem rlcUnack_all (cap d : Int) (A : Option Addr) (n c : Nat) (l : List Tm.StepV) (w : World) (h : Tm.SlS w w.heap.size A n c l) (hR : ∀ x ∈ l, x.b.length ≤ 140737488351232) (hI : ∀ x ∈ l, x.now ≤ 9223372036854775807 ∧ x.k ≤ 9223372036854775807) :
    Calls Tryz.prog 3 #[.int .i64 cap, .int .i64 d, .slice A n c] w (IsTrue w) := by
  have hfe := Tm.few_any A n c l w h hR
  have hne := unewP w.heap.size cap d 0 0 0 0 0 0 0 w (Nat.le_refl _)
  unfold Tm.cfg at hne
  have hcap := h.cap
  have hmx := h.mx
  have hlen := h.len
  have HFE := Lib.hid hfe
  have HNE := Lib.hid hne
  have HSL := Lib.hid h
  have HLEN := Lib.hid hlen
  have HI := Lib.hid hI
  clear h hfe hne hlen hR hI
  go_enter Tryz.func3, Tryz.ntmps3
  go_wp2_with fail
  refine HFE.out.mono ?_
  rintro e1 w0 ⟨b, rfl, hok, rfl⟩
  clear HFE
  cases b with
  | false =>
    clear hok
    go_wp2_with fail
    refine (Tm.known_any _).mono ?_
    rintro e1 w3 ⟨rfl, hb3⟩
    go_wp2
    go_ret
    exact ⟨rfl, hb3⟩
  | true =>
    have hn40 : n ≤ 40 := (hok rfl).1
    have HXB := Lib.hid (hok rfl).2
    clear hok
    go_wp2_with fail
    refine HNE.out.mono ?_
    rintro e1 w1 ⟨hb1, ⟨g, u, s1, r1, Fs, Fr, rfl, ic, id, hN⟩ | ⟨rfl, hno⟩⟩
    rotate_left
    · have HB1 := Lib.hid hb1
      have HNO := Lib.hid hno
      clear HNE hno hb1
      go_wp2_with fail
      refine (snewP w.heap.size cap _).mono ?_
      rintro e2 w2 ⟨hb2, h2⟩
      have HB2 := Lib.hid (HB1.out.trans (hb2.mono HB1.out.size))
      have hz2 := HB2.out.size
      clear hb2
      rcases h2 with ⟨ic, s2, rfl, hs2, hS2⟩ | ⟨ic, rfl⟩
      · have HIC := Lib.hid ic
        clear hS2 ic hs2
        go_wp2_with fail
        refine (rnewP w.heap.size d _ hz2).mono ?_
        rintro e3 w3 ⟨hb3, ⟨id, r2, M2, rfl, hr2, hM2, hR2⟩ | ⟨id, rfl⟩⟩
        · exact absurd ⟨HIC.out, id⟩ HNO.out
        have HB3 := Lib.hid (HB2.out.trans (hb3.mono HB2.out.size))
        clear hb3 id
        go_wp2_with fail
        refine (Tm.known_any _).mono ?_
        rintro e1 w4 ⟨rfl, hb4⟩
        go_wp2
        go_ret
        exact ⟨rfl, HB3.out.trans (hb4.mono HB3.out.size)⟩
      · clear ic
        go_wp2_with fail
        refine (rnewP w.heap.size d _ hz2).mono ?_
        rintro e3 w3 ⟨hb3, ⟨id, r2, M2, rfl, hr2, hM2, hR2⟩ | ⟨id, rfl⟩⟩
        · have HB3 := Lib.hid (HB2.out.trans (hb3.mono HB2.out.size))
          clear hb3 id hR2
          go_wp2_with fail
          refine (Tm.known_any _).mono ?_
          rintro e1 w4 ⟨rfl, hb4⟩
          go_wp2
          go_ret
          exact ⟨rfl, HB3.out.trans (hb4.mono HB3.out.size)⟩
        · have HB3 := Lib.hid (HB2.out.trans (hb3.mono HB2.out.size))
          clear hb3 id
          go_wp2_with fail
          refine (Tm.known_any _).mono ?_
          rintro e1 w4 ⟨rfl, hb4⟩
          go_wp2
          go_ret
          exact ⟨rfl, HB3.out.trans (hb4.mono HB3.out.size)⟩
    have HB1 := Lib.hid hb1
    have HN := Lib.hid hN
    have HIC := Lib.hid ic
    have HID := Lib.hid id
    clear HNE hN hb1 ic id
    go_wp2_with fail
    refine (snewP w.heap.size cap _).mono ?_
    rintro e2 w2 ⟨hb2, ⟨ic, s2, rfl, hs2, hS2⟩ | ⟨ic, rfl⟩⟩
    rotate_left
    · exact absurd (HIC.out.symm.trans ic) (by decide)
    have HB2 := Lib.hid hb2
    have HS2 := Lib.hid hS2
    have hz2 : w.heap.size ≤ w2.heap.size := Nat.le_trans HB1.out.size hb2.size
    clear hb2 hS2 ic
    go_wp2_with fail
    refine (rnewP w.heap.size d _ hz2).mono ?_
    rintro e3 w3 ⟨hb3, ⟨id, r2, M2, rfl, hr2, hM2, hR2⟩ | ⟨id, rfl⟩⟩
    rotate_left
    · exact absurd (HID.out.symm.trans id) (by decide)
    obtain ⟨F0, hL0⟩ := lm_new HB1.out HN.out HB2.out hs2 HS2.out hb3 hr2 hM2 hR2
    obtain ⟨X, hX⟩ : ∃ X : Ids, X = ⟨g, u, s1, s2, r1, r2⟩ := ⟨_, rfl⟩
    rw [← hX] at hL0
    have e1 : g = X.g := by rw [hX]
    have e2 : u = X.u := by rw [hX]
    have e3 : s2 = X.s2 := by rw [hX]
    have e4 : r2 = X.r2 := by rw [hX]
    have HL0 := Lib.hid (show LE_ w (fun k => k = X.g ∨ k = X.u) X 0 w3 from ⟨_, 0, _, F0, by rw [e1, e2] at hL0; exact hL0, newUs_ok HIC.out, Nat.le_refl _⟩)
    rw [e1, e3, e4]
    clear hL0 hX e1 e2 e3 e4 hb3 hR2 hr2 hM2 HN HB1 HB2 HS2 hs2 id HIC HID
    go_wp2_with fail
    go_loopw [13] (fun i wr => ∃ k : Nat, k ≤ n ∧ i = .int .i64 k ∧ LE_ w (fun k => k = X.g ∨ k = X.u) X k wr) (fun i _ => n - (intOf i).toNat)
    case atStart => exact ⟨0, Nat.zero_le _, rfl, HL0.out⟩
    case round =>
      obtain ⟨k, hk, rfl, us, m, t, F, hL, hus, hm⟩ := hrel
      have HL := Lib.hid hL
      have HUS := Lib.hid hus
      clear hL hus HL0
      by_cases hlt : k < n
      · obtain ⟨ad, x, rfl, hadl, hx, h0, h1, h2, h3, h5⟩ := (HSL.out.below HL.out.bel).get hlt
        have hxb := HXB.out x (List.mem_of_getElem? hx)
        obtain ⟨hxn, hxk⟩ := HI.out x (List.mem_of_getElem? hx)
        have e1 := h1
        have e2 := h2
        have e3 := h3
        rw [← Tm.add_struct _ _ _ (by decide)] at e1 e2 e3
        have HSW := Lib.hid h5
        clear h5 hx
        go_upto_region 15 with (fail)
        have bx := Blk.new wr 42 #[.int .i64 x.kd, .int .i64 x.now, .int .i64 x.k, .slice x.A x.b.length x.c]
        have hbx := (Below.refl wr.heap.size wr).alloc (Nat.le_refl _) (.cells #[.int .i64 x.kd, .int .i64 x.now, .int .i64 x.k, .slice x.A x.b.length x.c] 42)
        have hL5 := HL.out.addE hbx (j := wr.heap.size) (Nat.le_refl _) (by simp)
        have HSA := Lib.hid (fun (W : World) (hW : Below w.heap.size w W) => sl_arg HSW.out HL.out.bel hW)
        have c0 := bx.cell 0
        have c1 := bx.cell 1
        have c2 := bx.cell 2
        have c3 := bx.cell 3
        simp only [List.getElem?_toArray, List.getElem?_cons_zero, List.getElem?_cons_succ] at c0 c1 c2 c3
        generalize wr.alloc (.cells #[.int .i64 x.kd, .int .i64 x.now, .int .i64 x.k, .slice x.A x.b.length x.c] 42) = w5 at *
        generalize wr.heap.size = xb at *
        have HL5 := Lib.hid hL5
        clear bx hbx h0 h1 h2 h3 e1 e2 e3 HSW HL hL5
        go_upto_block 2 with (fail)
        go_cut [15] from 93 to 183 (fun sv wx => sv = .bool true ∧ LE_ w (fun j => (j = X.g ∨ j = X.u) ∨ j = xb) X (k + 1) wx)
        case first =>
          by_cases k1 : x.kd = 1
          · have q1 : (x.kd == 1) = true := by simpa using k1
            clear k1
            have HLD := Lib.hid (HL5.out.below (W' := w5.drew) ((Below.refl _ _).drew))
            have HS1 := Lib.hid (lm_submit1 HLD.out HUS.out (by omega) (HSA.out _ HLD.out.bel))
            have hcd : w5.drew.cell? ⟨xb, 3, none⟩ = some (.slice x.A x.b.length x.c) := c3
            have HCD := Lib.hid hcd
            clear hcd
            go_wp2_with fail
            go_region_held3 (fun w' => w'.cell? ⟨xb, 3, none⟩ = some (.slice x.A x.b.length x.c))
              (first
                | exact (World.cell?_of_block (hL6.keep hk7 (.inr rfl))).trans ((World.cell?_of_block (HLD.out.keep hk6 (.inr rfl))).trans HCD.out)
                | exact (World.cell?_of_block (HLD.out.keep hk6 (.inr rfl))).trans HCD.out
                | exact HCD.out
                | go_keep)
              (first
                | (go_at_call 9; refine HS1.out.mono ?_; rintro e1 w6 ⟨rfl, G6, hL6, hk6⟩)
                | (go_at_call 10; refine (lm_submit2 hL6 HUS.out (by omega) (HSA.out _ hL6.bel)).mono ?_; rintro e2 w7 ⟨rfl, G7, hL7, hk7⟩)
                | fail)
            go_wp2_with fail
            go_meet
            exact ⟨by simp, _, m, t, _, hL7, HUS.out.sub x.b, by omega⟩
          by_cases k2 : x.kd = 2
          · have q1 : (x.kd == 1) = false := by simpa using k1
            have q2 : (x.kd == 2) = true := by simpa using k2
            clear k1 k2
            have HS1 := Lib.hid (lm_grant1 HL5.out HUS.out x.now x.k hxk)
            go_wp2_with fail
            refine HS1.out.mono ?_
            rintro e1 w6 ⟨⟨vb, rfl, hvb⟩, G6, hL6, hk6⟩
            have c2' := (World.cell?_of_block (HL5.out.keep hk6 (.inr rfl))).trans c2
            have HS2 := Lib.hid (lm_grant2 hL6 HUS.out x.k hxk)
            obtain ⟨A1, n1, rfl, -, -⟩ := own_sl hvb
            have HVB := Lib.hid hvb
            have HL6 := Lib.hid hL6
            have HK6 := Lib.hid hk6
            clear hL6 hk6 hvb HS1
            go_wp2_with fail
            refine HS2.out.mono ?_
            rintro e2 w7 ⟨⟨vb2, rfl, hvb2⟩, G7, hL7, hk7⟩
            have hv1 := own_onF HVB.out hk7
            obtain ⟨A2, n2, rfl, -, -⟩ := own_sl hvb2
            have kc1 := conv_sl (own_sl' hv1)
            have kc2 := conv_sl (own_sl' hvb2)
            have HU := Lib.hid (HUS.out.gr x.k)
            have HL7 := Lib.hid hL7
            clear hv1 hvb2 HVB hL7 hk7 HS2
            generalize grU us x.k = R at *
            go_wp2_with fail
            go_meet
            exact ⟨by simp, _, m, t, _, HL7.out, HU.out.mono (by omega), by omega⟩
          by_cases k3 : x.kd = 3
          · have q1 : (x.kd == 1) = false := by simpa using k1
            have q2 : (x.kd == 2) = false := by simpa using k2
            have q3 : (x.kd == 3) = true := by simpa using k3
            clear k1 k2 k3
            have HS1 := Lib.hid (lm_recv1 HL5.out x.now hxn (HSA.out _ HL5.out.bel) (by omega) (by omega))
            go_wp2_with fail
            refine HS1.out.mono ?_
            rintro e1 w6 ⟨⟨vo, lo, rfl, hvo⟩, G6, hL6, hk6⟩
            have c1' := (World.cell?_of_block (HL5.out.keep hk6 (.inr rfl))).trans c1
            have c3' := (World.cell?_of_block (HL5.out.keep hk6 (.inr rfl))).trans c3
            have HS2 := Lib.hid (lm_recv2 hL6 x.now hxn (HSA.out _ hL6.bel) (by omega) (by omega))
            have HVO := Lib.hid hvo
            have HL6 := Lib.hid hL6
            clear hL6 hk6 hvo HS1
            go_wp2_with fail
            refine HS2.out.mono ?_
            rintro e2 w7 ⟨⟨vo2, lo2, rfl, hvo2⟩, G7, hL7, hk7⟩
            have hv1 := out_onF HVO.out (fun j (hj : F 3 j) => HL5.out.lt hj) hk7
            obtain ⟨A1, n1, vs1, rfl, hsl1⟩ := outIs_sls hv1
            obtain ⟨A2, n2, vs2, rfl, hsl2⟩ := outIs_sls hvo2
            have HSM := Lib.hid (Tm.sameList_eq _ _ _ _ _ _ _ _ _ hsl1 hsl2)
            have HL7 := Lib.hid hL7
            clear hv1 hvo2 HVO hsl1 hsl2 hL7 hk7 HS2 HL6 c1' c3'
            generalize recvB t x.now x.b = R at *
            go_wp2_with fail
            refine HSM.out.mono ?_
            rintro e3 w8 ⟨rfl, hd8⟩
            have HL8 := Lib.hid (HL7.out.below (hd8.below _))
            clear hd8 HSM HL7
            go_wp2_with fail
            go_meet
            exact ⟨rfl, us, m + 1, _, _, HL8.out, HUS.out.mono (by omega), by omega⟩
          by_cases k4 : x.kd = 4
          · have q1 : (x.kd == 1) = false := by simpa using k1
            have q2 : (x.kd == 2) = false := by simpa using k2
            have q3 : (x.kd == 3) = false := by simpa using k3
            have q4 : (x.kd == 4) = true := by simpa using k4
            clear k1 k2 k3 k4
            have HS1 := Lib.hid (lm_tick1 HL5.out x.now hxn)
            go_wp2_with fail
            refine HS1.out.mono ?_
            rintro e1 w6 ⟨⟨vo, lo, rfl, hvo⟩, G6, hL6, hk6⟩
            have c1' := (World.cell?_of_block (HL5.out.keep hk6 (.inr rfl))).trans c1
            have c3' := (World.cell?_of_block (HL5.out.keep hk6 (.inr rfl))).trans c3
            have HS2 := Lib.hid (lm_tick2 hL6 x.now hxn)
            have HVO := Lib.hid hvo
            have HL6 := Lib.hid hL6
            clear hL6 hk6 hvo HS1
            go_wp2_with fail
            refine HS2.out.mono ?_
            rintro e2 w7 ⟨⟨vo2, lo2, rfl, hvo2⟩, G7, hL7, hk7⟩
            have hv1 := out_onF HVO.out (fun j (hj : F 3 j) => HL5.out.lt hj) hk7
            obtain ⟨A1, n1, vs1, rfl, hsl1⟩ := outIs_sls hv1
            obtain ⟨A2, n2, vs2, rfl, hsl2⟩ := outIs_sls hvo2
            have HSM := Lib.hid (Tm.sameList_eq _ _ _ _ _ _ _ _ _ hsl1 hsl2)
            have HL7 := Lib.hid hL7
            clear hv1 hvo2 HVO hsl1 hsl2 hL7 hk7 HS2 HL6 c1' c3'
            generalize goesP t x.now = R at *
            go_wp2_with fail
            refine HSM.out.mono ?_
            rintro e3 w8 ⟨rfl, hd8⟩
            have HL8 := Lib.hid (HL7.out.below (hd8.below _))
            clear hd8 HSM HL7
            go_wp2_with fail
            go_meet
            exact ⟨rfl, us, m, _, _, HL8.out, HUS.out.mono (by omega), by omega⟩
          have q1 : (x.kd == 1) = false := by simpa using k1
          have q2 : (x.kd == 2) = false := by simpa using k2
          have q3 : (x.kd == 3) = false := by simpa using k3
          have q4 : (x.kd == 4) = false := by simpa using k4
          clear k1 k2 k3 k4
          go_wp2_with fail
          go_meet
          exact ⟨rfl, us, m, t, F, HL5.out, HUS.out.mono (by omega), by omega⟩
        case rest =>
        obtain ⟨rfl, us2, m2, t2, F2, hL6, hus2, hm2⟩ := hcut
        have HL6 := Lib.hid hL6
        have HUS2 := Lib.hid hus2
        have HB1 := Lib.hid (lm_buf1 hL6 hus2 (by omega))
        clear hL6 hus2 c0 c1 c2 c3 HL5 HUS HSA
        generalize hbz : bufU us2 = bz at *
        have HBZ := Lib.hid hbz
        clear hbz
        go_wp2_with fail
        refine HB1.out.mono ?_
        rintro e1 w7 ⟨rfl, hb7⟩
        have HL7 := Lib.hid (HL6.out.below hb7)
        have hb2 := lm_buf2 HL7.out HUS2.out (by omega)
        rw [HBZ.out] at hb2
        have HB2 := Lib.hid hb2
        clear hb7 hb2 HB1 HL6
        go_wp2_with fail
        refine HB2.out.mono ?_
        rintro e1 w8 ⟨rfl, hb8⟩
        have HL8 := Lib.hid ((HL7.out.below hb8).lessE (E' := fun k => k = X.g ∨ k = X.u) (fun j hj => .inl hj) (.inl rfl) (.inr rfl))
        clear hb8 HB2 HL7
        go_wp2_with fail
        exact ⟨⟨k + 1, by omega, by go_num, us2, m2, t2, F2, HL8.out, HUS2.out, hm2⟩, by simp [intOf]; omega⟩
      · clear HSL
        have HU := Lib.hid HL.out.ent
        have HBL := Lib.hid HL.out.bel
        go_wp2_with (first
          | (go_at_call 20; refine (ufailed_any HU.out).mono ?_; rintro e1 wz ⟨rfl, rfl⟩)
          | (go_at_call 21; refine (uconfirmed_any HU.out).mono ?_; rintro e1 wz ⟨rfl, rfl⟩)
          | (go_at_call 22; refine (uunconfirmed_any HU.out).mono ?_; rintro e1 wz ⟨rfl, rfl⟩))
        refine (Tm.known_any _).mono ?_
        rintro e1 w4 ⟨rfl, hb4⟩
        go_wp2
        go_ret
        exact ⟨rfl, HBL.out.trans (hb4.mono HBL.out.size)⟩
end Go.Proofs.YtbjajboodohabaaGreat
