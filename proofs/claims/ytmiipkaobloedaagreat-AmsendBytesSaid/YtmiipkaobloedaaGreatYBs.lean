/- Status: the report's answers are noted. -/
import Derived.Test.YtmiipkaobloedaaGreatYBg
import Derived.Test.YtmiipkaobloedaaGreatZf
import Derived.Test.YtmiipkaobloedaaGreatZl
import Derived.Deep.DeepCutAuto
namespace Go.Proofs.YtmiipkaobloedaaGreat
open Go.RowKit Go.Shelf
attribute [local go_sem] Oper.semAt_some
theorem NkAt.keptQ {w w' : World} {A : Option Addr} {n c : Nat} {l : List Nk} {M : Nat → Obj → Prop} (h : NkAt w A n c l) (hk : Kept M w w') (hM : ∀ ad, A = some ad → 0 < n → ∀ o, ¬ M ad.block o) : NkAt w' A n c l :=
  ⟨h.len, h.cap, h.mx, fun hn => by
    obtain ⟨ad, e, hlt, hc⟩ := h.at_ hn
    have h1 := Array.getElem?_eq_getElem hlt
    have hb : w'.heap[ad.block]? = w.heap[ad.block]? := by rw [hk.same _ _ h1 (hM ad e hn _), h1]
    refine ⟨ad, e, Nat.lt_of_lt_of_le hlt hk.size, fun j r hr => ?_⟩
    obtain ⟨k0, k1, k2, k3⟩ := hc j r hr
    have hbk : w'.heap[(ad.add (j * 4)).block]? = w.heap[(ad.add (j * 4)).block]? := by rw [block_add]; exact hb
    exact ⟨(World.cell?_of_block (a := ad.add (j * 4)) hbk).trans k0, (cell_of_heap hbk _ _).trans k1, (cell_of_heap hbk _ _).trans k2, (cell_of_heap hbk _ _).trans k3⟩⟩
theorem stv_all {ack : Int} {l : List Nk} (h : validSt ack l = true) : ∀ y ∈ l, aloneP ack y = true := fun y hy => by
  unfold validSt at h
  simp only [Bool.and_eq_true] at h
  obtain ⟨k, hk⟩ := List.mem_iff_getElem?.1 hy
  exact ((chainP_iff ack l).1 h.2.2 k y hk).1
theorem alone_ok {ack : Int} {y : Nk} (h : aloneP ack y = true) : (0 ≤ y.sn ∧ y.sn ≤ 1023) ∧ 0 ≤ (nkR y).1 ∧ 0 ≤ (nkR y).2 := by
  unfold aloneP at h
  simp only [Bool.and_eq_true, decide_eq_true_eq] at h
  obtain ⟨⟨h1, h2⟩, _, h3⟩ := h
  refine ⟨⟨h1, by omega⟩, ?_⟩
  unfold nkR
  split
  · rename_i hp
    rw [if_pos hp] at h3
    simp only [Bool.and_eq_true, decide_eq_true_eq] at h3
    dsimp only
    omega
  · dsimp only
    omega
section
variable {D F : Nat → Prop} {g : Nat} {c : Cf} {st : Sd} {vq vo : Value} {vs os : List Value} {w : World}
theorem StW.put {ack : Int} {A : Option Addr} {n cc : Nat} {w0 : World} (h : StW w g ack A n cc w0) : StW w g ack A n cc (w0.setCell ⟨w.heap.size + 1 + 1, 0, none⟩ (.int .i64 0)) :=
  ⟨h.b.setCell (p := ⟨w.heap.size + 1 + 1, 0, none⟩) (by simp; omega) _, h.s.far (p := ⟨w.heap.size + 1 + 1, 0, none⟩) (by show ¬ w.heap.size = w.heap.size + 1 + 1; omega) _, h.r.far (p := ⟨w.heap.size + 1 + 1, 0, none⟩) (by show ¬ w.heap.size + 1 = w.heap.size + 1 + 1; omega) _, by simpa using h.e.set_ 0 (.int .i64 0), by simpa [World.setCell] using h.z⟩
theorem place_cast {s : Sd} {n : Nat} (h1 : s.first < 1024) (h2 : n ≤ 1023) : placeI s (n : Int) = (placeS s n : Int) := by
  unfold placeI placeS
  omega
theorem statS_eq (c : Cf) (mi : Ou → List (Nat × Nat)) (m : Nat) (s : Sd) (h1 : s.first < 1024) (h2 : s.polled ≤ 1023) (b : Bool) (hb : (s.wait && decide ((m : Int) ≤ placeI s (s.polled : Int))) = b) :
    statS c mi m s = if (advS { stK c mi s m with wait := b }).owed = true then repeatsP c (advS { stK c mi s m with wait := b }) else advS { stK c mi s m with wait := b } := by
  have e : (s.wait && decide (m ≤ placeS s s.polled)) = b := by
    rw [← hb, place_cast h1 h2]
    congr 1
    exact decide_eq_decide.2 (by omega)
  unfold statS
  dsimp only
  rw [e]
  rfl
/-- the blocks that Status has laid, later on -/
structure StX (w : World) (g : Nat) (ack : Int) (A : Option Addr) (n cc : Nat) (w0 : World) : Prop where
  s : Blk w0 w.heap.size 25 #[.pointer (some ⟨g, 0, none⟩)]
  r : Blk w0 (w.heap.size + 1) 41 #[.int .i64 ack, .slice A n cc]
  e : Blk w0 (w.heap.size + 1 + 1) 26 #[.int .i64 0]
theorem StW.x {ack : Int} {A : Option Addr} {n cc : Nat} {w0 : World} (h : StW w g ack A n cc w0) : StX w g ack A n cc w0 := ⟨h.s, h.r, h.e⟩
theorem StX.below {ack : Int} {A : Option Addr} {n cc : Nat} {w0 w1 : World} (h : StX w g ack A n cc w0) (hb : Below w0.heap.size w0 w1) : StX w g ack A n cc w1 :=
  ⟨h.s.below hb h.s.lt, h.r.below hb h.r.lt, h.e.below hb h.e.lt⟩
theorem StX.kept {ack : Int} {A : Option Addr} {n cc : Nat} {w0 w1 : World} (h : StX w g ack A n cc w0) (hk : Kept (fun k _ => D k) w0 w1) (hD : ∀ k, D k → k < w.heap.size) : StX w g ack A n cc w1 :=
  ⟨h.s.kept hk (fun e => by have := hD _ e; omega), h.r.kept hk (fun e => by have := hD _ e; omega), h.e.kept hk (fun e => by have := hD _ e; omega)⟩
theorem StX.cells {ack : Int} {A : Option Addr} {n cc : Nat} {w0 : World} (h : StX w g ack A n cc w0) : w0.cell? ⟨w.heap.size, 0, none⟩ = some (.pointer (some ⟨g, 0, none⟩)) ∧ w0.cell? ⟨w.heap.size + 1, 0, none⟩ = some (.int .i64 ack) ∧ w0.cell? ⟨w.heap.size + 1, 1, none⟩ = some (.slice A n cc) ∧ w0.cell? ⟨w.heap.size + 1 + 1, 0, none⟩ = some (.int .i64 0) ∧ w0.frozen? ⟨w.heap.size + 1 + 1, 0, none⟩ = false :=
  ⟨h.s.cell 0, h.r.cell 0, h.r.cell 1, h.e.cell 0, h.e.frozen 0⟩
set_option maxRecDepth 100000 in
set_option maxHeartbeats 4000000 in
theorem sstatus_any (h : AmS w D F g c st vq vs vo os) (ht : CfOk c) {K : Nat} (hB : Bnd st K) (hK : K ≤ 90000) (hI : Inv35 st) (hf : st.failed = false) (now ack : Int) (hnow : now ≤ 9223372036854775807)
    (A : Option Addr) (n cc : Nat) (nks : List Nk) (hN : NkAt w A n cc nks) (hAD : ∀ ad, A = some ad → 0 < n → ¬ D ad.block) (hv : validSt ack nks = true) :
    Calls Tryz.prog 14 #[.pointer (some ⟨g, 0, none⟩), .int .i64 now, .agg #[.int .i64 ack, .slice A n cc]] w (ErOut w D F g c (statusR c st now ack nks)) := by
  have HW := Lib.hid (StW.mk' w g ack A n cc)
  have HH := Lib.hid h
  have HN := Lib.hid hN
  have HAD := Lib.hid hAD
  have HDw := Lib.hid (show ∀ k, D k → k < w.heap.size from fun k hk => h.lt k (h.sub k hk))
  obtain ⟨hln, hack0, hack1⟩ := validSt_len hv
  obtain ⟨s1, hs1⟩ : ∃ s1, clockS st now = s1 := ⟨_, rfl⟩
  have hI1 := hI.clock now
  have hB1 := hB.clock hnow
  have hf1 : s1.failed = false := by rw [← hs1]; exact hf
  rw [hs1] at hI1 hB1
  have hm0 : placeI s1 ack = ((placeI s1 ack).toNat : Int) := by unfold placeI; omega
  have hm1 : (placeI s1 ack).toNat ≤ 1023 := by unfold placeI; omega
  have hR : statusR c st now ack nks = if (s1.out.length : Int) < placeI s1 ack ∨ nks.any (behind s1 (placeI s1 ack)) = true then (s1, 6) else (statS c (missP nks) (placeI s1 ack).toNat s1, if (statS c (missP nks) (placeI s1 ack).toNat s1).failed = true then 8 else 0) := by
    unfold statusR statusS
    rw [if_neg (by simp [hf]), if_neg (by simp [hv]), hs1]
    rw [← hs1]
    rfl
  have hpl := fun (W : World) (hA : AmS W D F g c s1 vq vs vo os) => splace_any hA hI1.f ack ⟨hack0, hack1⟩
  rw [hm0] at hpl hR
  obtain ⟨m, hm⟩ : ∃ m, (placeI s1 ack).toNat = m := ⟨_, rfl⟩
  simp only [hm, Int.toNat_natCast] at hpl hR hm1
  have HPL := Lib.hid hpl
  have HR := Lib.hid hR
  have HI1 := Lib.hid hI1
  have HB1 := Lib.hid hB1
  have HF1 := Lib.hid hf1
  have HV := Lib.hid hv
  have HS1 := Lib.hid hs1
  have hT := ht.timer.1
  have HF := Lib.hid hf
  have HT := Lib.hid ht
  clear h hN hAD hI hB hI1 hB1 hf1 hm hm0 hpl hR hv hs1 ht hf
  go_enter_defers Tryz.func14, Tryz.ntmps14
  go_wp2_with fail
  generalize ((w.alloc (.cells #[.pointer (some ⟨g, 0, none⟩)] 25)).alloc (.cells #[.int .i64 ack, .slice A n cc] 41)).alloc (.cells #[.int .i64 0] 26) = w0 at *
  have HCH := Lib.hid (scheck_any (HH.out.below HW.out.b) hT)
  rw [HF.out] at HCH
  simp only [Bool.false_eq_true, if_false] at HCH
  have HW1 := Lib.hid HW.out.put
  obtain ⟨-, -, -, e0, e1⟩ := HW.out.x.cells
  refine HCH.out.mono ?_
  rintro en w1 ⟨rfl, rfl⟩
  obtain ⟨-, r0, r1, -, -⟩ := HW1.out.x.cells
  have HA1 := Lib.hid (HH.out.below HW1.out.b)
  have HVA := Lib.hid (svalid_any (w0.setCell ⟨w.heap.size + 1 + 1, 0, none⟩ (.int .i64 0)) ack A n cc nks (HN.out.below HW1.out.b))
  rw [HV.out] at HVA
  go_wp2_with fail
  clear e0 e1 r0 r1 HCH HW
  generalize w0.setCell ⟨w.heap.size + 1 + 1, 0, none⟩ (.int .i64 0) = w1 at *
  refine HVA.out.mono ?_
  rintro en w2 ⟨rfl, hb2⟩
  have HX2 := Lib.hid (HW1.out.x.below hb2)
  have HA2 := Lib.hid (HA1.out.below hb2)
  have HK2 := Lib.hid (show Kept (fun k _ => D k) w w2 from (Kept.ofBelow HW1.out.b).trans (Kept.ofBelow hb2))
  have HGO := Lib.hid (sgoes_any HA2.out now)
  obtain ⟨s0, -, -, -, -⟩ := HX2.out.cells
  rw [HS1.out] at HGO
  clear hb2
  go_wp2_with fail
  refine HGO.out.mono ?_
  rintro en w3 ⟨rfl, hA3, hk3⟩
  have HX3 := Lib.hid (HX2.out.kept hk3 HDw.out)
  have HA3 := Lib.hid hA3
  have HK3 := Lib.hid (HK2.out.trans hk3)
  have HP := Lib.hid (HPL.out w3 hA3)
  clear s0
  obtain ⟨s0, r0, r1, -, -⟩ := HX3.out.cells
  clear hA3 hk3 HA2 HK2 HX2 HGO HVA HA1 HW1 HPL
  go_wp2_with fail
  refine HP.out.mono ?_
  rintro en w4 ⟨rfl, rfl⟩
  go_upto_region 9 with (fail)
  have hb4 : Below w3.heap.size w3 (w3.alloc (.cells #[.int .i64 (m : Int)] 3)) := (Below.refl _ w3).alloc (Nat.le_refl _) _
  have HM4 := Lib.hid (Blk.new w3 3 #[.int .i64 (m : Int)])
  have HX4 := Lib.hid (HX3.out.below hb4)
  have HA4 := Lib.hid (HA3.out.below hb4)
  have HK4 := Lib.hid (HK3.out.trans (Kept.ofBelow hb4))
  have HZ4 := Lib.hid (show w.heap.size + 1 + 1 < w3.heap.size from HX3.out.e.lt)
  clear s0 r0 r1 hb4 HP HA3 HX3 HK3
  generalize w3.alloc (.cells #[.int .i64 (m : Int)] 3) = w4 at *
  obtain ⟨Ao, co, rfl, hso⟩ := HA4.out.osl
  have y12 := HA4.out.blk.cell 12
  simp [sndC] at y12
  have m0 := HM4.out.cell 0
  simp at m0
  obtain ⟨s0, r0, r1, e0, e1⟩ := HX4.out.cells
  have hocap := hso.cap
  have homx := hso.mx
  have HSO := Lib.hid hso
  clear hso
  by_cases hbig : (s1.out.length : Int) < (m : Int)
  · have d1 : decide ((s1.out.length : Int) < (m : Int)) = true := decide_eq_true hbig
    have d2 : decide (s1.out.length < m) = true := decide_eq_true (by omega)
    have hRr := HR.out
    rw [if_pos (.inl hbig)] at hRr
    have HRr := Lib.hid hRr
    clear hbig hRr
    refine wp_region_noPanic ?_
    go_quiet (fail)
    refine NoPanic.normal ?_
    go_wp2
    refine leaves_cons (f := 28) (args := #[.pointer (some ⟨w.heap.size + 1 + 1, 0, none⟩)]) (by simp) (by simp [go_sem]) ?_
    refine (caughtS_idle _ _).mono ?_
    rintro e9 u9 w9 ⟨rfl, rfl, rfl⟩
    have q := (((HX4.out.below ((Below.refl _ w4).drewN nq)).e).set_ 0 (.int .i64 6)).cell 0
    simp at q
    refine ⟨.int .i64 6, by simp [results, Tryz.results14, go_sem, q], ?_⟩
    rw [HRr.out]
    exact ⟨rfl, ((HA4.out.drewN nq).putE HH.out.lt (b := w.heap.size + 1 + 1) (by omega) 0 _).o ((HK4.out.drewN' nq).putE (b := w.heap.size + 1 + 1) (by omega) 0 _)⟩
  · have d1 : decide ((s1.out.length : Int) < (m : Int)) = false := decide_eq_false hbig
    have d2 : decide (s1.out.length < m) = false := decide_eq_false (by omega)
    have hle : m ≤ s1.out.length := by omega
    have hRr := HR.out
    have hor : (((s1.out.length : Int) < (m : Int)) ∨ nks.any (behind s1 m) = true) = (nks.any (behind s1 m) = true) := by simp only [hbig, false_or]
    simp only [hor] at hRr
    have HRr := Lib.hid hRr
    have HCO := Lib.hid (fun (W : World) (hW : Below w4.heap.size w4 W) => scont_any (HA4.out.below hW) HI1.out.f w.heap.size w3.heap.size (m : Int) (HX4.out.below hW).s (HM4.out.below hW HM4.out.lt) A n cc nks (((HN.out.keptQ HK4.out (fun ad e hz o => HAD.out ad e hz))).below hW) (fun y hy => (alone_ok (stv_all HV.out y hy)).1))
    clear hbig hRr hor HR
    go_cut [38] from 26 to 38 (fun s38 wx => s38 = .bool (nks.any (behind s1 m)) ∧ Below w4.heap.size w4 wx)
    case first =>
      refine wp_region_noPanic ?_
      go_region_with (go_at_call 40; refine (HCO.out _ (by first | exact Below.refl _ _ | exact (Below.refl _ _).drew | exact (Below.refl _ _).drewN _)).mono ?_; rintro en w5 ⟨rfl, hb5⟩)
      all_goals
        refine NoPanic.normal ?_
        go_wp2_with fail
        go_meet
        exact ⟨rfl, by first | exact hb5 | exact (Below.refl _ w4).drew.trans hb5 | exact ((Below.refl _ w4).drewN _).trans hb5⟩
    case rest =>
    obtain ⟨rfl, hb5⟩ := hcut
    have HX5 := Lib.hid (HX4.out.below hb5)
    have HA5 := Lib.hid (HA4.out.below hb5)
    have HK5 := Lib.hid (HK4.out.trans (Kept.ofBelow hb5))
    have HM5 := Lib.hid (HM4.out.below hb5 HM4.out.lt)
    have HB5 := Lib.hid hb5
    clear y12 m0 s0 r0 r1 e0 e1 HSO HCO
    have y12 := HA5.out.blk.cell 12
    simp [sndC] at y12
    have m0 := HM5.out.cell 0
    simp at m0
    obtain ⟨s0, r0, r1, e0, e1⟩ := HX5.out.cells
    clear hb5
    cases hany : nks.any (behind s1 (m : Int)) with
    | true =>
      have hRr := HRr.out
      rw [if_pos hany] at hRr
      have HRR := Lib.hid hRr
      clear hRr hany
      go_wp2
      refine leaves_cons (f := 28) (args := #[.pointer (some ⟨w.heap.size + 1 + 1, 0, none⟩)]) (by simp) (by simp [go_sem]) ?_
      refine (caughtS_idle _ _).mono ?_
      rintro e9 u9 w9 ⟨rfl, rfl, rfl⟩
      have q := (HX5.out.e.set_ 0 (.int .i64 6)).cell 0
      simp at q
      refine ⟨.int .i64 6, by simp [results, Tryz.results14, go_sem, q], ?_⟩
      rw [HRR.out]
      exact ⟨rfl, (HA5.out.putE HH.out.lt (b := w.heap.size + 1 + 1) (by omega) 0 _).o (HK5.out.putE (b := w.heap.size + 1 + 1) (by omega) 0 _)⟩
    | false =>
      have hRr := HRr.out
      rw [if_neg (by rw [hany]; decide)] at hRr
      have HRR := Lib.hid hRr
      clear hRr hany HRr
      have hmc : m ≤ co := by omega
      go_wp2_with fail
      go_quiet (fail)
      go_wp2_with fail
      have HX6 := Lib.hid (HX5.out.below ((Below.refl _ wc).drewN nq))
      have HA6 := Lib.hid (HA5.out.drewN nq)
      have HK6 := Lib.hid (HK5.out.drewN' nq)
      have HM6 := Lib.hid (HM5.out.below ((Below.refl _ wc).drewN nq) HM5.out.lt)
      have HN6 := Lib.hid (HN.out.keptQ HK6.out (fun ad e hz o => HAD.out ad e hz))
      clear y12 m0 s0 r0 r1 e0 e1 HX5 HA5 HK5 HM5 HB5 HA4 HK4 HX4 HM4
      have hz6 : w.heap.size + 1 + 1 < w3.heap.size ∧ w3.heap.size < (wc.drewN nq).heap.size := ⟨HZ4.out, HM6.out.lt⟩
      generalize wc.drewN nq = w6 at *
      have HZ6 := Lib.hid hz6
      clear hz6
      go_loopw [46] (fun i wr => ∃ k : Nat, k ≤ m ∧ i = .int .i64 k ∧ ∃ F', AmS wr D F' g c (stK c (missP nks) s1 k) vq vs (.slice Ao s1.out.length co) os ∧ Grows w6 F F' ∧ Kept (fun k _ => D k) w6 wr) (fun i _ => m - (intOf i).toNat)
      case atStart => exact ⟨0, Nat.zero_le _, rfl, F, by rw [stK_zero]; exact HA6.out, Grows.refl _ _, Kept.refl _ _⟩
      case round =>
        obtain ⟨k, hk, rfl, F', hA', hF', hK'⟩ := hrel
        have HX' := Lib.hid (HX6.out.kept hK' HDw.out)
        have HA' := Lib.hid hA'
        have HF' := Lib.hid hF'
        have HK' := Lib.hid hK'
        obtain ⟨s0, r0, r1, e0, e1⟩ := HX'.out.cells
        by_cases hlt : k < m
        · obtain ⟨x, hx⟩ : ∃ x, s1.out[k]? = some x := ⟨_, List.getElem?_eq_getElem (by omega)⟩
          have hxk : (stK c (missP nks) s1 k).out[k]? = some x := by rw [stK_get]; exact hx
          obtain ⟨p, Ap, cp, vp, Ar, cr, he, ho⟩ := hA'.oe k x hxk
          obtain ⟨A2, c2, e2, hso⟩ := hA'.osl
          have hll : (stK c (missP nks) s1 k).out.length = s1.out.length := statOut_len _ _ _ _
          rw [hll] at e2 hso
          injection e2 with e3 e4 e5
          subst e3 e5
          obtain ⟨ad, u, rfl, hb, hu, hc⟩ := hso.get (show k < s1.out.length by omega)
          rw [he] at hu
          cases hu
          obtain ⟨z0, z7, z8, z9, z10, z11⟩ := ho.cells
          have HXX := Lib.hid hx
          have HXK := Lib.hid hxk
          have HE := Lib.hid he
          have HO := Lib.hid ho
          have HHC := Lib.hid hc
          clear hx hxk he hll hA' hF' hK' hso z0 z7 z8 z10 z11
          cases hak : x.acked with
          | true =>
            rw [hak] at z9
            have HAK := Lib.hid hak
            clear ho hak
            go_wp2
            go_round
            case rel =>
              refine ⟨k + 1, by omega, by go_num, F', ?_, HF'.out, HK'.out⟩
              rw [stK_acked HXX.out HAK.out]
              exact HA'.out
            case measure => simp [intOf]; omega
          | false =>
            rw [hak] at z9
            have hox := HB1.out.ou x (List.mem_of_getElem? HXX.out)
            have hsz := ouOk_size hox
            have HMS := Lib.hid (smissing_any ack nks A n cc (HN6.out.keptQ HK'.out (fun ad e hz o => HAD.out ad e hz)) (by have := HN6.out.len; omega) p x ho (fun y hy => (alone_ok (stv_all HV.out y hy)).2) (by omega) hsz.1)
            have hone : statOne c (missP nks) x = if missP nks x = [] then ({ x with acked := true, pend := [] }, false) else pendP c x (missP nks x) := by unfold statOne; rw [if_neg (by rw [hak]; decide)]
            have HSUC := Lib.hid (stK_succ (c := c) (m := missP nks) HXX.out)
            have HRX := Lib.hid (HB1.out.rx x (List.mem_of_getElem? HXX.out))
            rw [hone] at HSUC
            obtain ⟨l, hl⟩ : ∃ l, missP nks x = l := ⟨_, rfl⟩
            rw [hl] at HMS HSUC
            clear ho hak hox hone hl hsz
            go_wp2_with fail
            refine HMS.out.mono ?_
            rintro en w7 ⟨v, rfl, hv7, hb7⟩
            obtain ⟨Al, cl, rfl, hsp, hbl⟩ := SpAt.of_own hv7
            have hlcap := hsp.cap
            have hlmx := hsp.mx
            have HSP := Lib.hid hsp
            have HBL := Lib.hid hbl
            have HX7 := Lib.hid (HX'.out.below hb7)
            have hA7 := HA'.out.below hb7
            obtain ⟨p2, Ap2, cp2, vp2, Ar2, cr2, he2, ho7⟩ := hA7.oe k x HXK.out
            rw [HE.out] at he2
            cases he2
            have z9 := ho7.blk.cell 9
            have z10 := ho7.blk.cell 10
            have f9 := ho7.blk.frozen 9
            have f10 := ho7.blk.frozen 10
            simp [ouC] at z9 z10
            clear s0 r0 r1 e0 e1 hc
            obtain ⟨s0, -, -, -, -⟩ := HX7.out.cells
            have HA7 := Lib.hid hA7
            have HO7 := Lib.hid ho7
            have HB7 := Lib.hid hb7
            have HK7 := Lib.hid (HK'.out.trans (Kept.ofBelow hb7))
            clear hv7 hsp hbl hA7 ho7 hb7 HMS
            by_cases hl : l = []
            · have dl : decide (0 < l.length) = false := by rw [hl]; rfl
              have HL := Lib.hid hl
              clear hl
              go_wp2
              go_round
              case rel =>
                obtain ⟨h1, h2⟩ := HA7.out.confirm HXK.out HE.out HO7.out
                refine ⟨k + 1, by omega, by go_num, F', ?_, HF'.out, HK7.out.trans h2⟩
                have hs := HSUC.out
                rw [if_pos HL.out] at hs
                rw [hs]
                exact h1
              case measure => simp [intOf]; omega
            · have dl : decide (0 < l.length) = true := decide_eq_true (List.length_pos_iff.2 hl)
              obtain ⟨al, rfl, -⟩ := HSP.out.at_ (List.length_pos_iff.2 hl)
              have hbl := HBL.out al rfl
              have hA8 := HA7.out.withF (b := al.block) hbl.2
              obtain ⟨p3, Ap3, cp3, vp3, Ar3, cr3, he3, ho3⟩ := hA8.oe k x HXK.out
              rw [HE.out] at he3
              cases he3
              have HPD := Lib.hid (spends_any hA8 HXK.out HE.out ho3 HSP.out (fun ad e => by cases e; exact ⟨.inr rfl, HA'.out.fresh hbl.1⟩) (by have := HRX.out; omega))
              have HL := Lib.hid hl
              have HBA := Lib.hid hbl
              clear hl hA8 ho3 hbl
              go_wp2_with fail
              refine HPD.out.mono ?_
              rintro en w8 ⟨rfl, hA8, hk8⟩
              have HA8 := Lib.hid hA8
              have HK8 := Lib.hid hk8
              clear hA8 hk8
              go_wp2
              go_round
              case rel =>
                refine ⟨k + 1, by omega, by go_num, fun j => F' j ∨ j = al.block, ?_, ?_, HK7.out.trans HK8.out⟩
                · have hs := HSUC.out
                  rw [if_neg HL.out] at hs
                  rw [hs]
                  exact HA8.out
                · intro j hj
                  rcases hj with hj | rfl
                  · exact HF'.out j hj
                  · have := HBA.out.1
                    have := HK'.out.size
                    have := HK6.out.size
                    exact .inr (by omega)
              case measure => simp [intOf]; omega
        · have hkm : m = k := by omega
          subst hkm
          clear hA' hF' hK'
          go_wp2_with fail
          obtain ⟨b, hb⟩ : ∃ b, (s1.wait && decide ((m : Int) ≤ placeI s1 (s1.polled : Int))) = b := ⟨_, rfl⟩
          have HPL := Lib.hid (splace_any (w := wr.drew) (st := stK c (missP nks) s1 m) HA'.out.drew HI1.out.f (s1.polled : Int) (by have := HB1.out.pol; omega))
          have y15 := HA'.out.blk.cell 15
          have y16 := HA'.out.blk.cell 16
          have f16 := HA'.out.blk.frozen 16
          have m0 := (HM6.out.kept HK'.out (fun e => by have := HDw.out _ e; have := HZ6.out; omega)).cell 0
          simp [sndC, stK] at y15 y16 m0
          have HBB := Lib.hid hb
          have hglt := HA'.out.blk.lt
          clear hb r0 r1 e0 e1
          go_cut [] from 71 to 87 (fun wx => wx = (wr.setCell ⟨g, 16, none⟩ (.bool b)).drew)
          case first =>
          -- R20
            cases hwt : s1.wait with
            | false =>
              have hbt : b = false := by rw [← HBB.out, hwt]; rfl
              rw [hwt] at y16
              subst hbt
              clear hwt
              refine wp_region_noPanic ?_
              refine wp_region_E (fun w' => w'.cell? ⟨w.heap.size, 0, none⟩ = some (.pointer (some ⟨g, 0, none⟩)) ∧ w'.cell? ⟨g, 16, none⟩ = some (.bool false) ∧ w'.cell? ⟨g, 15, none⟩ = some (.int .i64 (s1.polled : Nat)) ∧ w'.cell? ⟨w3.heap.size, 0, none⟩ = some (.int .i64 (m : Int))) [17] (by kernel_rfl) ?_
              have hHeld := (show (fun w' => w'.cell? ⟨w.heap.size, 0, none⟩ = some (.pointer (some ⟨g, 0, none⟩)) ∧ w'.cell? ⟨g, 16, none⟩ = some (.bool false) ∧ w'.cell? ⟨g, 15, none⟩ = some (.int .i64 (s1.polled : Nat)) ∧ w'.cell? ⟨w3.heap.size, 0, none⟩ = some (.int .i64 (m : Int))) wr.drew from ⟨s0, y16, y15, m0⟩)
              refine wpAnyE_take [17, 16, 15] (i := 0) (v := ?_) rfl (by kernel_rfl) (by kernel_rfl) (by kernel_rfl) (by kernel_rfl) (fun _ _ _ h => h) (Or.inl ⟨by rfl, ?_⟩) hHeld ?_
              rotate_left
              · intro w' hSw
                obtain ⟨hS1, hS2, hS3, hS4⟩ := hSw
                go_simp
                try with_reducible rfl
              try simp only [Act.put, List.getElem_toArray, List.getElem_cons_zero, List.setIfInBounds_toArray, List.set_cons_zero, List.set_cons_succ]
              refine wpAnyE_take [17, 16, 15] (i := 1) (v := ?_) rfl (by kernel_rfl) (by kernel_rfl) (by kernel_rfl) (by kernel_rfl) (fun _ _ _ h => h) (Or.inl ⟨by rfl, ?_⟩) hHeld ?_
              rotate_left
              · intro w' hSw
                obtain ⟨hS1, hS2, hS3, hS4⟩ := hSw
                go_simp
                try with_reducible rfl
              try simp only [Act.put, List.getElem_toArray, List.getElem_cons_zero, List.getElem_cons_succ, List.setIfInBounds_toArray, List.set_cons_zero, List.set_cons_succ]
              refine wpAnyE_takeY (i := 2) (v := ?_) rfl (by kernel_rfl) (by kernel_rfl) (by kernel_rfl) (by kernel_rfl) (fun _ _ _ h => h) (Or.inl ⟨by rfl, ?_⟩) hHeld ?_
              rotate_left
              · intro w' hSw
                go_simp
                try with_reducible rfl
              try simp only [Act.put, List.getElem_toArray, List.getElem_cons_zero, List.getElem_cons_succ, List.setIfInBounds_toArray, List.set_cons_zero, List.set_cons_succ]
              refine wpAnyE_takeY (i := 3) (v := ?_) rfl (by kernel_rfl) (by kernel_rfl) (by kernel_rfl) (by kernel_rfl) (fun _ _ _ h => h) (Or.inl ⟨by rfl, ?_⟩) hHeld ?_
              rotate_left
              · intro w' hSw
                go_simp
                try with_reducible rfl
              try simp only [Act.put, List.getElem_toArray, List.getElem_cons_zero, List.getElem_cons_succ, List.setIfInBounds_toArray, List.set_cons_zero, List.set_cons_succ]
              refine wpAnyE_take [17, 16, 15] (i := 4) (v := ?_) rfl (by kernel_rfl) (by kernel_rfl) (by kernel_rfl) (by kernel_rfl) (fun _ _ _ h => h) (Or.inl ⟨by rfl, ?_⟩) hHeld ?_
              rotate_left
              · intro w' hSw
                obtain ⟨hS1, hS2, hS3, hS4⟩ := hSw
                go_simp
                try with_reducible rfl
              try simp only [Act.put, List.getElem_toArray, List.getElem_cons_zero, List.getElem_cons_succ, List.setIfInBounds_toArray, List.set_cons_zero, List.set_cons_succ]
              refine wpAnyE_takeY (i := 5) (v := ?_) rfl (by kernel_rfl) (by kernel_rfl) (by kernel_rfl) (by kernel_rfl) (fun _ _ _ h => h) (Or.inl ⟨by rfl, ?_⟩) hHeld ?_
              rotate_left
              · intro w' hSw
                go_simp
                try with_reducible rfl
              try simp only [Act.put, List.getElem_toArray, List.getElem_cons_zero, List.getElem_cons_succ, List.setIfInBounds_toArray, List.set_cons_zero, List.set_cons_succ]
              refine wpAnyE_takeY (i := 6) (v := undef) rfl (by kernel_rfl) (by kernel_rfl) (by kernel_rfl) (by kernel_rfl) (fun _ _ _ h => h) (Or.inr ⟨by rfl, rfl⟩) hHeld ?_
              try simp only [Act.put, List.getElem_toArray, List.getElem_cons_zero, List.getElem_cons_succ, List.setIfInBounds_toArray, List.set_cons_zero, List.set_cons_succ]
              refine wpAnyE_takeY (i := 7) (v := undef) rfl (by kernel_rfl) (by kernel_rfl) (by kernel_rfl) (by kernel_rfl) (fun _ _ _ h => h) (Or.inr ⟨by rfl, rfl⟩) hHeld ?_
              try simp only [Act.put, List.getElem_toArray, List.getElem_cons_zero, List.getElem_cons_succ, List.setIfInBounds_toArray, List.set_cons_zero, List.set_cons_succ]
              refine wpAnyE_takeY (i := 8) (v := undef) rfl (by kernel_rfl) (by kernel_rfl) (by kernel_rfl) (by kernel_rfl) (fun _ _ _ h => h) (Or.inr ⟨by rfl, rfl⟩) hHeld ?_
              try simp only [Act.put, List.getElem_toArray, List.getElem_cons_zero, List.getElem_cons_succ, List.setIfInBounds_toArray, List.set_cons_zero, List.set_cons_succ]
              refine wpAnyE_takeY (i := 9) (v := undef) rfl (by kernel_rfl) (by kernel_rfl) (by kernel_rfl) (by kernel_rfl) (fun _ _ _ h => h) (Or.inr ⟨by rfl, rfl⟩) hHeld ?_
              try simp only [Act.put, List.getElem_toArray, List.getElem_cons_zero, List.getElem_cons_succ, List.setIfInBounds_toArray, List.set_cons_zero, List.set_cons_succ]
              refine wpAnyE_takeY (i := 10) (v := undef) rfl (by kernel_rfl) (by kernel_rfl) (by kernel_rfl) (by kernel_rfl) (fun _ _ _ h => h) (Or.inr ⟨by rfl, rfl⟩) hHeld ?_
              try simp only [Act.put, List.getElem_toArray, List.getElem_cons_zero, List.getElem_cons_succ, List.setIfInBounds_toArray, List.set_cons_zero, List.set_cons_succ]
              refine wpAnyE_takeY (i := 11) (v := undef) rfl (by kernel_rfl) (by kernel_rfl) (by kernel_rfl) (by kernel_rfl) (fun _ _ _ h => h) (Or.inr ⟨by rfl, rfl⟩) hHeld ?_
              try simp only [Act.put, List.getElem_toArray, List.getElem_cons_zero, List.getElem_cons_succ, List.setIfInBounds_toArray, List.set_cons_zero, List.set_cons_succ]
              refine wpAnyE_takeY (i := 12) (v := undef) rfl (by kernel_rfl) (by kernel_rfl) (by kernel_rfl) (by kernel_rfl) (fun _ _ _ h => h) (Or.inr ⟨by rfl, rfl⟩) hHeld ?_
              try simp only [Act.put, List.getElem_toArray, List.getElem_cons_zero, List.getElem_cons_succ, List.setIfInBounds_toArray, List.set_cons_zero, List.set_cons_succ]
              refine wpAnyE_takeY (i := 13) (v := undef) rfl (by kernel_rfl) (by kernel_rfl) (by kernel_rfl) (by kernel_rfl) (fun _ _ _ h => h) (Or.inr ⟨by rfl, rfl⟩) hHeld ?_
              try simp only [Act.put, List.getElem_toArray, List.getElem_cons_zero, List.getElem_cons_succ, List.setIfInBounds_toArray, List.set_cons_zero, List.set_cons_succ]
              refine wpAnyE_takeY (i := 14) (v := ?_) rfl (by kernel_rfl) (by kernel_rfl) (by kernel_rfl) (by kernel_rfl) (fun _ _ _ h => h) (Or.inl ⟨by rfl, ?_⟩) hHeld ?_
              rotate_left
              · intro w' hSw
                go_simp
                try with_reducible rfl
              try simp only [Act.put, List.getElem_toArray, List.getElem_cons_zero, List.getElem_cons_succ, List.setIfInBounds_toArray, List.set_cons_zero, List.set_cons_succ]
              refine wpAnyE_takeY (i := 15) (v := ?_) rfl (by kernel_rfl) (by kernel_rfl) (by kernel_rfl) (by kernel_rfl) (fun _ _ _ h => h) (Or.inl ⟨by rfl, ?_⟩) hHeld ?_
              rotate_left
              · intro w' hSw
                go_simp
                try with_reducible rfl
              try simp only [Act.put, List.getElem_toArray, List.getElem_cons_zero, List.getElem_cons_succ, List.setIfInBounds_toArray, List.set_cons_zero, List.set_cons_succ]
              refine wpAnyE_takeY (i := 16) (v := ?_) rfl (by kernel_rfl) (by kernel_rfl) (by kernel_rfl) (by kernel_rfl) (fun _ _ _ h => h) (Or.inl ⟨by rfl, ?_⟩) hHeld ?_
              rotate_left
              · intro w' hSw
                go_simp
                try with_reducible rfl
              try simp only [Act.put, List.getElem_toArray, List.getElem_cons_zero, List.getElem_cons_succ, List.setIfInBounds_toArray, List.set_cons_zero, List.set_cons_succ]
              refine wpAnyE_one (i := 17) rfl (by kernel_rfl) (by kernel_rfl) (by rfl) (fun K hK => ?_)
              go_simp
              refine hK _ _ ?_
              clear hK K
              try simp only [Act.put, List.getElem_toArray, List.getElem_cons_zero, List.getElem_cons_succ, List.setIfInBounds_toArray, List.set_cons_zero, List.set_cons_succ]
              refine wpAnyE_done (by kernel_rfl) ?_ _
              refine NoPanic.normal ?_
              go_wp2_with fail
              go_meet
              rfl
            | true =>
              have hbt : decide ((m : Int) ≤ placeI s1 (s1.polled : Int)) = b := by rw [← HBB.out, hwt]; rfl
              rw [hwt] at y16
              clear hwt
              refine wp_region_noPanic ?_
              refine wp_region_E (fun w' => w'.cell? ⟨w.heap.size, 0, none⟩ = some (.pointer (some ⟨g, 0, none⟩)) ∧ w'.cell? ⟨g, 16, none⟩ = some (.bool true) ∧ w'.cell? ⟨g, 15, none⟩ = some (.int .i64 (s1.polled : Nat)) ∧ w'.cell? ⟨w3.heap.size, 0, none⟩ = some (.int .i64 (m : Int))) [17] (by kernel_rfl) ?_
              have hHeld := (show (fun w' => w'.cell? ⟨w.heap.size, 0, none⟩ = some (.pointer (some ⟨g, 0, none⟩)) ∧ w'.cell? ⟨g, 16, none⟩ = some (.bool true) ∧ w'.cell? ⟨g, 15, none⟩ = some (.int .i64 (s1.polled : Nat)) ∧ w'.cell? ⟨w3.heap.size, 0, none⟩ = some (.int .i64 (m : Int))) wr.drew from ⟨s0, y16, y15, m0⟩)
              refine wpAnyE_take [17, 16, 15] (i := 0) (v := ?_) rfl (by kernel_rfl) (by kernel_rfl) (by kernel_rfl) (by kernel_rfl) (fun _ _ _ h => h) (Or.inl ⟨by rfl, ?_⟩) hHeld ?_
              rotate_left
              · intro w' hSw
                obtain ⟨hS1, hS2, hS3, hS4⟩ := hSw
                go_simp
                try with_reducible rfl
              try simp only [Act.put, List.getElem_toArray, List.getElem_cons_zero, List.setIfInBounds_toArray, List.set_cons_zero, List.set_cons_succ]
              refine wpAnyE_take [17, 16, 15] (i := 1) (v := ?_) rfl (by kernel_rfl) (by kernel_rfl) (by kernel_rfl) (by kernel_rfl) (fun _ _ _ h => h) (Or.inl ⟨by rfl, ?_⟩) hHeld ?_
              rotate_left
              · intro w' hSw
                obtain ⟨hS1, hS2, hS3, hS4⟩ := hSw
                go_simp
                try with_reducible rfl
              try simp only [Act.put, List.getElem_toArray, List.getElem_cons_zero, List.getElem_cons_succ, List.setIfInBounds_toArray, List.set_cons_zero, List.set_cons_succ]
              refine wpAnyE_takeY (i := 2) (v := ?_) rfl (by kernel_rfl) (by kernel_rfl) (by kernel_rfl) (by kernel_rfl) (fun _ _ _ h => h) (Or.inl ⟨by rfl, ?_⟩) hHeld ?_
              rotate_left
              · intro w' hSw
                go_simp
                try with_reducible rfl
              try simp only [Act.put, List.getElem_toArray, List.getElem_cons_zero, List.getElem_cons_succ, List.setIfInBounds_toArray, List.set_cons_zero, List.set_cons_succ]
              refine wpAnyE_takeY (i := 3) (v := ?_) rfl (by kernel_rfl) (by kernel_rfl) (by kernel_rfl) (by kernel_rfl) (fun _ _ _ h => h) (Or.inl ⟨by rfl, ?_⟩) hHeld ?_
              rotate_left
              · intro w' hSw
                go_simp
                try with_reducible rfl
              try simp only [Act.put, List.getElem_toArray, List.getElem_cons_zero, List.getElem_cons_succ, List.setIfInBounds_toArray, List.set_cons_zero, List.set_cons_succ]
              refine wpAnyE_take [17, 16, 15] (i := 4) (v := ?_) rfl (by kernel_rfl) (by kernel_rfl) (by kernel_rfl) (by kernel_rfl) (fun _ _ _ h => h) (Or.inl ⟨by rfl, ?_⟩) hHeld ?_
              rotate_left
              · intro w' hSw
                obtain ⟨hS1, hS2, hS3, hS4⟩ := hSw
                go_simp
                try with_reducible rfl
              try simp only [Act.put, List.getElem_toArray, List.getElem_cons_zero, List.getElem_cons_succ, List.setIfInBounds_toArray, List.set_cons_zero, List.set_cons_succ]
              refine wpAnyE_takeY (i := 5) (v := ?_) rfl (by kernel_rfl) (by kernel_rfl) (by kernel_rfl) (by kernel_rfl) (fun _ _ _ h => h) (Or.inl ⟨by rfl, ?_⟩) hHeld ?_
              rotate_left
              · intro w' hSw
                go_simp
                try with_reducible rfl
              try simp only [Act.put, List.getElem_toArray, List.getElem_cons_zero, List.getElem_cons_succ, List.setIfInBounds_toArray, List.set_cons_zero, List.set_cons_succ]
              refine wpAnyE_take [17, 16, 15] (i := 6) (v := ?_) rfl (by kernel_rfl) (by kernel_rfl) (by kernel_rfl) (by kernel_rfl) (fun _ _ _ h => h) (Or.inl ⟨by rfl, ?_⟩) hHeld ?_
              rotate_left
              · intro w' hSw
                obtain ⟨hS1, hS2, hS3, hS4⟩ := hSw
                go_simp
                try with_reducible rfl
              try simp only [Act.put, List.getElem_toArray, List.getElem_cons_zero, List.getElem_cons_succ, List.setIfInBounds_toArray, List.set_cons_zero, List.set_cons_succ]
              refine wpAnyE_take [17, 16, 15] (i := 7) (v := ?_) rfl (by kernel_rfl) (by kernel_rfl) (by kernel_rfl) (by kernel_rfl) (fun _ _ _ h => h) (Or.inl ⟨by rfl, ?_⟩) hHeld ?_
              rotate_left
              · intro w' hSw
                obtain ⟨hS1, hS2, hS3, hS4⟩ := hSw
                go_simp
                try with_reducible rfl
              try simp only [Act.put, List.getElem_toArray, List.getElem_cons_zero, List.getElem_cons_succ, List.setIfInBounds_toArray, List.set_cons_zero, List.set_cons_succ]
              refine wpAnyE_takeY (i := 8) (v := ?_) rfl (by kernel_rfl) (by kernel_rfl) (by kernel_rfl) (by kernel_rfl) (fun _ _ _ h => h) (Or.inl ⟨by rfl, ?_⟩) hHeld ?_
              rotate_left
              · intro w' hSw
                go_simp
                try with_reducible rfl
              try simp only [Act.put, List.getElem_toArray, List.getElem_cons_zero, List.getElem_cons_succ, List.setIfInBounds_toArray, List.set_cons_zero, List.set_cons_succ]
              refine wpAnyE_takeY (i := 9) (v := ?_) rfl (by kernel_rfl) (by kernel_rfl) (by kernel_rfl) (by kernel_rfl) (fun _ _ _ h => h) (Or.inl ⟨by rfl, ?_⟩) hHeld ?_
              rotate_left
              · intro w' hSw
                go_simp
                try with_reducible rfl
              try simp only [Act.put, List.getElem_toArray, List.getElem_cons_zero, List.getElem_cons_succ, List.setIfInBounds_toArray, List.set_cons_zero, List.set_cons_succ]
              refine wpAnyE_take [17, 16, 15] (i := 10) (v := ?_) rfl (by kernel_rfl) (by kernel_rfl) (by kernel_rfl) (by kernel_rfl) (fun _ _ _ h => h) (Or.inl ⟨by rfl, ?_⟩) hHeld ?_
              rotate_left
              · intro w' hSw
                obtain ⟨hS1, hS2, hS3, hS4⟩ := hSw
                go_simp
                try with_reducible rfl
              try simp only [Act.put, List.getElem_toArray, List.getElem_cons_zero, List.getElem_cons_succ, List.setIfInBounds_toArray, List.set_cons_zero, List.set_cons_succ]
              refine wpAnyE_take [17, 16, 15] (i := 12) (v := ?_) rfl (by kernel_rfl) (by kernel_rfl) (by kernel_rfl) (by kernel_rfl) (fun _ _ _ h => h) (Or.inl ⟨by rfl, ?_⟩) hHeld ?_
              rotate_left
              · intro w' hSw
                obtain ⟨hS1, hS2, hS3, hS4⟩ := hSw
                go_simp
                try with_reducible rfl
              try simp only [Act.put, List.getElem_toArray, List.getElem_cons_zero, List.getElem_cons_succ, List.setIfInBounds_toArray, List.set_cons_zero, List.set_cons_succ]
              refine wpAnyE_oneS (i := 11) rfl (by kernel_rfl) (by rfl) (fun K hK => ?_)
              go_simp
              refine HPL.out.mono ?_
              rintro en w8 ⟨rfl, rfl⟩
              refine hK _ _ (show (fun w' => w'.cell? ⟨w.heap.size, 0, none⟩ = some (.pointer (some ⟨g, 0, none⟩)) ∧ w'.cell? ⟨g, 16, none⟩ = some (.bool true) ∧ w'.cell? ⟨g, 15, none⟩ = some (.int .i64 (s1.polled : Nat)) ∧ w'.cell? ⟨w3.heap.size, 0, none⟩ = some (.int .i64 (m : Int))) wr.drew from ⟨s0, y16, y15, m0⟩) ?_
              clear hK K hHeld
              have hHeld := (show (fun w' => w'.cell? ⟨w.heap.size, 0, none⟩ = some (.pointer (some ⟨g, 0, none⟩)) ∧ w'.cell? ⟨g, 16, none⟩ = some (.bool true) ∧ w'.cell? ⟨g, 15, none⟩ = some (.int .i64 (s1.polled : Nat)) ∧ w'.cell? ⟨w3.heap.size, 0, none⟩ = some (.int .i64 (m : Int))) wr.drew from ⟨s0, y16, y15, m0⟩)
              try simp only [Act.put, List.getElem_toArray, List.getElem_cons_zero, List.getElem_cons_succ, List.setIfInBounds_toArray, List.set_cons_zero, List.set_cons_succ]
              refine wpAnyE_takeY (i := 13) (v := ?_) rfl (by kernel_rfl) (by kernel_rfl) (by kernel_rfl) (by kernel_rfl) (fun _ _ _ h => h) (Or.inl ⟨by rfl, ?_⟩) hHeld ?_
              rotate_left
              · intro w' hSw
                go_simp
                try with_reducible rfl
              try simp only [Act.put, List.getElem_toArray, List.getElem_cons_zero, List.getElem_cons_succ, List.setIfInBounds_toArray, List.set_cons_zero, List.set_cons_succ]
              refine wpAnyE_takeY (i := 14) (v := ?_) rfl (by kernel_rfl) (by kernel_rfl) (by kernel_rfl) (by kernel_rfl) (fun _ _ _ h => h) (Or.inl ⟨by rfl, ?_⟩) hHeld ?_
              rotate_left
              · intro w' hSw
                go_simp
                try with_reducible rfl
              try simp only [Act.put, List.getElem_toArray, List.getElem_cons_zero, List.getElem_cons_succ, List.setIfInBounds_toArray, List.set_cons_zero, List.set_cons_succ]
              refine wpAnyE_takeY (i := 15) (v := ?_) rfl (by kernel_rfl) (by kernel_rfl) (by kernel_rfl) (by kernel_rfl) (fun _ _ _ h => h) (Or.inl ⟨by rfl, ?_⟩) hHeld ?_
              rotate_left
              · intro w' hSw
                go_simp
                try with_reducible rfl
              try simp only [Act.put, List.getElem_toArray, List.getElem_cons_zero, List.getElem_cons_succ, List.setIfInBounds_toArray, List.set_cons_zero, List.set_cons_succ]
              refine wpAnyE_takeY (i := 16) (v := ?_) rfl (by kernel_rfl) (by kernel_rfl) (by kernel_rfl) (by kernel_rfl) (fun _ _ _ h => h) (Or.inl ⟨by rfl, ?_⟩) hHeld ?_
              rotate_left
              · intro w' hSw
                go_simp
                try with_reducible rfl
              try simp only [Act.put, List.getElem_toArray, List.getElem_cons_zero, List.getElem_cons_succ, List.setIfInBounds_toArray, List.set_cons_zero, List.set_cons_succ]
              refine wpAnyE_one (i := 17) rfl (by kernel_rfl) (by kernel_rfl) (by rfl) (fun K hK => ?_)
              go_simp
              refine hK _ _ ?_
              clear hK K
              try simp only [Act.put, List.getElem_toArray, List.getElem_cons_zero, List.getElem_cons_succ, List.setIfInBounds_toArray, List.set_cons_zero, List.set_cons_succ]
              refine wpAnyE_done (by kernel_rfl) ?_ _
              refine NoPanic.normal ?_
              go_wp2_with fail
              go_meet
              show (wr.setCell _ (.bool (decide ((m : Int) ≤ placeI s1 (s1.polled : Int))))).drew = _
              rw [hbt]
          -- /R20
          case rest =>
          subst hcut
          obtain ⟨s3, hs3⟩ : ∃ s3, { stK c (missP nks) s1 m with wait := b } = s3 := ⟨_, rfl⟩
          have hA8 := (HA'.out.setG 16 (.bool b) (st' := { stK c (missP nks) s1 m with wait := b }) (by simp [sndC, stK]) rfl rfl).drew
          have hK8 := (HK'.out.setCell (p := ⟨g, 16, none⟩) (fun _ _ => HA'.out.gd) (.bool b)).drew
          have hSt := statS_eq c (missP nks) m s1 HI1.out.f HB1.out.pol b HBB.out
          have hso : s3.taken = s3.front + sizes s3.out := by
            rw [← hs3]
            show s1.taken = s1.front + sizes (statOut c (missP nks) m s1.out).1
            rw [statOut_sizes]
            exact HI1.out.tk
          have hheld := HB1.out.held
          have hle3 := HI1.out.le
          have hdone := HB1.out.done
          have hq3 : s3.queue = s1.queue := by rw [← hs3]; rfl
          have hql := queue_len HI1.out.pos
          have hmiss : ∀ x ∈ s1.out, (∀ r ∈ missP nks x, r.1 ≤ r.2 ∧ r.2 < sizeO x) ∧ (missP nks x).length ≤ 1000 := fun x hx => by
            have h1 := missP_in nks (ouOk_size (HB1.out.ou x hx)).1
            exact ⟨h1.1, by have := h1.2; omega⟩
          have hB3 : Bnd s3 (K + 1) := by rw [← hs3]; exact HB1.out.statOut c (missP nks) m hmiss _ b
          have hl3 : s3.out.length ≤ 512 := by
            rw [← hs3]
            show (statOut c (missP nks) m s1.out).1.length ≤ 512
            rw [statOut_len]
            exact HI1.out.w
          rw [hs3] at hA8 hSt
          have htk3 : s3.taken = s1.taken := by rw [← hs3]; rfl
          have hf3 : s3.first = s1.first := by rw [← hs3]; rfl
          have hd3 : s3.done = s1.done := by rw [← hs3]; rfl
          have hh1 : heldP s1 = sumLen s1.queue := rfl
          have HAV := Lib.hid (sadvance_any hA8 hso (by omega) (by rw [hf3]; exact HI1.out.f) hl3 (by omega) (by rw [hq3]; omega) (by rw [hq3]; intro s hs; exact (HB1.out.sdu s hs).2))
          have HX8 := Lib.hid (HX6.out.kept hK8 HDw.out)
          have HK8 := Lib.hid hK8
          have HB3 := Lib.hid hB3
          have HST := Lib.hid hSt
          have HL3 := Lib.hid hl3
          have HA8 := Lib.hid hA8
          clear hA8 hK8 hSt hso hheld hle3 hdone hq3 hql hmiss hB3 hl3 htk3 hf3 hd3 hh1 y15 y16 f16 m0 s0 HPL hs3
          obtain ⟨s0, -, -, -, -⟩ := HX8.out.cells
          generalize (wr.setCell ⟨g, 16, none⟩ (.bool b)).drew = w8 at *
          go_wp2_with fail
          refine HAV.out.mono ?_
          rintro en w9 ⟨rfl, vq9, vs9, vo9, os9, hA9, hK9⟩
          have HX9 := Lib.hid (HX8.out.kept hK9 HDw.out)
          have HA9 := Lib.hid hA9
          have HK9 := Lib.hid (HK8.out.trans hK9)
          have hB4 := HB3.out.adv
          have hl4 : (advS s3).out.length ≤ 512 := by
            have := HL3.out
            obtain ⟨⟨d, e1, -⟩, -⟩ := advOut_spec s3.out
            have e2 : s3.out.length = (d ++ (advOut s3.out).2.2).length := congrArg _ e1
            rw [List.length_append] at e2
            show (advOut s3.out).2.2.length ≤ 512
            omega
          obtain ⟨s4, hs4⟩ : ∃ s4, advS s3 = s4 := ⟨_, rfl⟩
          rw [hs4] at HST HA9 hB4 hl4
          have HB4 := Lib.hid hB4
          have HL4 := Lib.hid hl4
          have y18 := HA9.out.blk.cell 18
          simp [sndC] at y18
          clear s0 hA9 hK9 hB4 hl4 hs4 HAV
          obtain ⟨s0, -, -, e0, e1⟩ := HX9.out.cells
          cases how : s4.owed with
          | false =>
            have HO := Lib.hid (show AmO w6 D F g c s4 w9 from ⟨D, F', vq9, vs9, vo9, os9, HA9.out, Grows.refl _ _, HF'.out, HK9.out⟩)
            have hst := HST.out
            rw [if_neg (by rw [how]; decide)] at hst
            have hrr := HRR.out
            rw [hst] at hrr
            rw [how] at y18
            clear how
            cases hfl : s4.failed with
            | false =>
              rw [hfl] at hrr
              have HM := Lib.hid (smust_ok HA9.out hfl)
              have HR9 := Lib.hid hrr
              clear hst hrr hfl
              go_wp2_with fail
              refine HM.out.mono ?_
              rintro en w98 ⟨rfl, rfl⟩
              go_wp2
              refine leaves_cons (f := 28) (args := #[.pointer (some ⟨w.heap.size + 1 + 1, 0, none⟩)]) (by simp) (by simp [go_sem]) ?_
              refine (caughtS_idle _ _).mono ?_
              rintro e99 u99 w99 ⟨rfl, rfl, rfl⟩
              have q := (HX9.out.e.set_ 0 (.int .i64 0)).cell 0
              simp at q
              refine ⟨.int .i64 0, by simp [results, Tryz.results14, go_sem, q], ?_⟩
              rw [HR9.out]
              exact ⟨rfl, HO.out.put HK6.out (b := w.heap.size + 1 + 1) (by omega) (by have := HZ6.out; omega) HH.out.lt HH.out.sub 0 _⟩
            | true =>
              rw [hfl] at hrr
              have HM := Lib.hid (smust_bad HA9.out hfl)
              have HR9 := Lib.hid hrr
              clear hst hrr hfl
              go_wp2_with fail
              refine HM.out.mono ?_
              rintro en w98 ⟨rfl, rfl⟩
              refine leaves_cons (f := 28) (args := #[.pointer (some ⟨w.heap.size + 1 + 1, 0, none⟩)]) (by simp) (by simp [go_sem]) ?_
              refine (caughtS_raised _ _ w9 HX9.out.e).mono ?_
              rintro e99 u99 w99 ⟨rfl, rfl, rfl⟩
              have q := ((HX9.out.e.alloc (.cells #[] 112)).set_ 0 (.int .i64 8)).cell 0
              simp at q
              refine ⟨.int .i64 8, by simp [results, Tryz.results14, go_sem, q], ?_⟩
              rw [HR9.out]
              exact ⟨rfl, (HO.out.alloc _).put HK6.out (b := w.heap.size + 1 + 1) (by omega) (by have := HZ6.out; omega) HH.out.lt HH.out.sub 0 _⟩
          | true =>
            have hst := HST.out
            rw [if_pos how] at hst
            have hrr := HRR.out
            rw [hst] at hrr
            rw [how] at y18
            have HRP := Lib.hid (srepeats_any HA9.out HB4.out (by omega) HL4.out)
            have HRR2 := Lib.hid hrr
            clear how hst hrr
            go_wp2_with fail
            refine HRP.out.mono ?_
            rintro en w10 ⟨rfl, hO10⟩
            have HO := Lib.hid (AmO.step HK9.out (Grows.refl _ _) HF'.out hO10)
            have HX10 := Lib.hid (HX6.out.kept HO.out.kept HDw.out)
            obtain ⟨D10, F10, vq10, vs10, vo10, os10, hA10, -, -, -⟩ := hO10
            have HA10 := Lib.hid hA10
            clear s0 e0 e1 hA10
            obtain ⟨s0, -, -, e0, e1⟩ := HX10.out.cells
            obtain ⟨s5, hs5⟩ : ∃ s5, repeatsP c s4 = s5 := ⟨_, rfl⟩
            have hrr := HRR2.out
            rw [hs5] at hrr HO HA10
            have hst := hs5
            clear hs5
            cases hfl : s5.failed with
            | false =>
              rw [hfl] at hrr
              have HM := Lib.hid (smust_ok HA10.out hfl)
              have HR9 := Lib.hid hrr
              clear hst hrr hfl
              go_wp2_with fail
              refine HM.out.mono ?_
              rintro en w98 ⟨rfl, rfl⟩
              go_wp2
              refine leaves_cons (f := 28) (args := #[.pointer (some ⟨w.heap.size + 1 + 1, 0, none⟩)]) (by simp) (by simp [go_sem]) ?_
              refine (caughtS_idle _ _).mono ?_
              rintro e99 u99 w99 ⟨rfl, rfl, rfl⟩
              have q := (HX10.out.e.set_ 0 (.int .i64 0)).cell 0
              simp at q
              refine ⟨.int .i64 0, by simp [results, Tryz.results14, go_sem, q], ?_⟩
              rw [HR9.out]
              exact ⟨rfl, HO.out.put HK6.out (b := w.heap.size + 1 + 1) (by omega) (by have := HZ6.out; omega) HH.out.lt HH.out.sub 0 _⟩
            | true =>
              rw [hfl] at hrr
              have HM := Lib.hid (smust_bad HA10.out hfl)
              have HR9 := Lib.hid hrr
              clear hst hrr hfl
              go_wp2_with fail
              refine HM.out.mono ?_
              rintro en w98 ⟨rfl, rfl⟩
              refine leaves_cons (f := 28) (args := #[.pointer (some ⟨w.heap.size + 1 + 1, 0, none⟩)]) (by simp) (by simp [go_sem]) ?_
              refine (caughtS_raised _ _ w10 HX10.out.e).mono ?_
              rintro e99 u99 w99 ⟨rfl, rfl, rfl⟩
              have q := ((HX10.out.e.alloc (.cells #[] 112)).set_ 0 (.int .i64 8)).cell 0
              simp at q
              refine ⟨.int .i64 8, by simp [results, Tryz.results14, go_sem, q], ?_⟩
              rw [HR9.out]
              exact ⟨rfl, (HO.out.alloc _).put HK6.out (b := w.heap.size + 1 + 1) (by omega) (by have := HZ6.out; omega) HH.out.lt HH.out.sub 0 _⟩
end
end Go.Proofs.YtmiipkaobloedaaGreat
