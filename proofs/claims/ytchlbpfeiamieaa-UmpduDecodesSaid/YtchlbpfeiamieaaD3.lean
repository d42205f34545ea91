/- umpdu.Decode. -/
import Derived.Test.YtchlbpfeiamieaaD2
namespace Go.Proofs.Ytchlbpfeiamieaa
open Go.RowKit

set_option maxRecDepth 100000 in
set_option maxHeartbeats 2000000 in
theorem decode_any (A : Option Addr) (n c : Nat) (bs : List UInt8) (w : World) (h : Sl w w.heap.size A n c (bvs bs)) (hsm : n ≤ 1000000) :
    Calls Try.prog 23 #[.slice A n c] w (DecIs w (decU bs)) := by
  have hlen : bs.length = n := by simpa using h.len
  obtain ⟨R, hR⟩ : ∃ R, decU bs = R := ⟨_, rfl⟩
  rw [hR]
  have HR := Lib.hid hR
  clear hR
  have hB0 := ((Below.refl w.heap.size w).alloc (Nat.le_refl _) (.cells #[.int .i64 0, .bool false, .bool false, .slice none 0 0] 26)).alloc (by simp) (.cells #[.int .i64 0] 30)
  have hs0 := (h.below hB0).more hB0.size
  have hnr := newReader_any A n c bs _ hs0 (by omega)
  have HNR := Lib.hid hnr
  have HB0 := Lib.hid hB0
  have HSM := Lib.hid hsm
  have HLEN := Lib.hid hlen
  clear hnr hB0 hs0 hsm hlen
  go_enter_defers Try.func23, Try.ntmps23
  go_wp2_with fail
  refine HNR.out.mono ?_
  rintro e1 w1 ⟨r, v, rfl, hr, hrd, hb1⟩
  have bp0 : Blk ((w.alloc (.cells #[.int .i64 0, .bool false, .bool false, .slice none 0 0] 26)).alloc (.cells #[.int .i64 0] 30)) w.heap.size 26 #[.int .i64 0, .bool false, .bool false, .slice none 0 0] := (Blk.new w _ _).alloc _
  have be0 : Blk ((w.alloc (.cells #[.int .i64 0, .bool false, .bool false, .slice none 0 0] 26)).alloc (.cells #[.int .i64 0] 30)) (w.heap.size + 1) 30 #[.int .i64 0] := by simpa using Blk.new (w.alloc (.cells #[.int .i64 0, .bool false, .bool false, .slice none 0 0] 26)) 30 #[.int .i64 0]
  have bp1 := bp0.below hb1 bp0.lt
  have be1 := be0.below hb1 be0.lt
  have hB1 : Below w.heap.size w w1 := HB0.out.trans (hb1.mono HB0.out.size)
  have hrsz : w.heap.size + 1 < r := by simp at hr; omega
  have hrl := hrd.1.lt
  clear bp0 be0 hb1 hr HNR HB0
  have hW2 : ∃ w2, (w1.alloc (.cells #[.pointer (some ⟨r, 0, none⟩), .slice A n c] 130)).alloc (.cells #[.int .i64 3, .int .i64 1, .int .i64 1, .int .i64 1, .int .i64 10] 3) = w2 := ⟨_, rfl⟩
  obtain ⟨w2, hw2⟩ := hW2
  have bp2 : Blk w2 w.heap.size 26 #[.int .i64 0, .bool false, .bool false, .slice none 0 0] := by rw [← hw2]; exact (bp1.alloc _).alloc _
  have be2 : Blk w2 (w.heap.size + 1) 30 #[.int .i64 0] := by rw [← hw2]; exact (be1.alloc _).alloc _
  have hB2 : Below w.heap.size w w2 := by rw [← hw2]; exact (hB1.alloc hB1.size _).alloc (by have := hB1.size; simp; omega) _
  have hrd2 : Rdr w2 r v bs 0 := by rw [← hw2]; exact ⟨(hrd.1.alloc _).alloc _, (hrd.2.alloc _).alloc _⟩
  have hd2 : Blk w2 w1.heap.size 130 #[.pointer (some ⟨r, 0, none⟩), .slice A n c] := by rw [← hw2]; exact (Blk.new w1 _ _).alloc _
  have hb2 : Blk w2 (w1.heap.size + 1) 3 (i64s [3, 1, 1, 1, 10]).toArray := by
    rw [← hw2]
    have := Blk.new (w1.alloc (.cells #[.pointer (some ⟨r, 0, none⟩), .slice A n c] 130)) 3 #[.int .i64 3, .int .i64 1, .int .i64 1, .int .i64 1, .int .i64 10]
    rw [World.size_alloc] at this
    exact this
  go_wp2_with fail
  clear hrd bp1 be1 hB1 hw2
  generalize w1.heap.size = d at *
  have hbl : bs.length ≤ 1000000 := by have := HLEN.out; have := HSM.out; omega
  by_cases h2 : bs.length < 2
  · have hR5 : R = .inl 5 := by rw [← HR.out]; unfold decU; rw [if_pos h2]
    have HR5 := Lib.hid hR5
    clear hR5
    have hga := getAll_short r (d + 1) v bs 0 [3, 1, 1, 1, 10] w2 hrd2 (by omega) (by simp) (by simp) hb2 (by omega) (by simp; omega)
    simp only [List.length_cons, List.length_nil, Nat.zero_add, Nat.reduceAdd] at hga
    refine hga.mono ?_
    rintro e3 w3 ⟨rfl, hrd3, hk3⟩
    have hB3 : Below w.heap.size w w3 := hB2.trans (hk3.below (B := w.heap.size) (fun k _ e => by have := hB2.size; omega) hB2.size)
    have bp3 := bp2.kept hk3 (by have := bp2.lt; omega)
    have be3 := be2.kept hk3 (by have := be2.lt; omega)
    clear hga h2 hbl
    go_wp2_with (go_at_call 83; ((with_reducible refine (gots_err _ _ _ _ rfl _).mono ?_); rintro e4 w4 ⟨rfl, rfl⟩))
    exact dec_raise w _ R 5 _ _ _ _ _ _ rfl rfl bp3 be3 hB3 HR5.out
  · have hga := getAll_ok r (d + 1) v bs 0 [3, 1, 1, 1, 10] w2 hrd2 (by omega) (by simp) (by simp) hb2 (by simp; omega)
    simp only [List.length_cons, List.length_nil, Nat.zero_add, Nat.reduceAdd] at hga
    refine hga.mono ?_
    rintro e3 w3 ⟨vo, rfl, hvo, hrd3, hk3⟩
    have hB3 : Below w.heap.size w w3 := hB2.trans (hk3.below (B := w.heap.size) (fun k _ e => by have := hB2.size; omega) hB2.size)
    have bp3 := bp2.kept hk3 (by have := bp2.lt; omega)
    have be3 := be2.kept hk3 (by have := be2.lt; omega)
    have hd3 := hd2.kept hk3 (by have := hd2.lt; omega)
    have hR1 := HR.out
    unfold decU at hR1
    rw [if_neg h2] at hR1
    have hgv : getAll bs 0 [3, 1, 1, 1, 10] = [val (bitsAt bs 0 3), val (bitsAt bs 3 1), val (bitsAt bs 4 1), val (bitsAt bs 5 1), val (bitsAt bs 6 10)] := rfl
    rw [hgv] at hvo
    have hx4 : val (bitsAt bs 6 10) < 1024 := by have := val_lt (bitsAt bs 6 10); rw [bitsAt_length] at this; exact this
    have hd2l := hd2.lt
    have hbl2 : 2 ≤ bs.length := by omega
    clear hgv hga hb2 hrd2 hB2 bp2 be2 hd2 hk3 h2
    simp only [List.length_cons, List.length_nil, Nat.zero_add, Nat.reduceAdd] at hvo
    rw [show (0 : Nat) + [3, 1, 1, 1, 10].sum = 16 from rfl] at hrd3
    generalize val (bitsAt bs 0 3) = x0 at *
    generalize val (bitsAt bs 3 1) = x1 at *
    generalize val (bitsAt bs 4 1) = x2 at *
    generalize val (bitsAt bs 5 1) = x3 at *
    generalize val (bitsAt bs 6 10) = x4 at *
    obtain ⟨gl, capl, rfl, hgl, hgl2⟩ := hvo.form (by omega)
    have l0 := hvo.cellAt 0 (by omega)
    have l1 := hvo.cellAt 1 (by omega)
    have l2 := hvo.cellAt 2 (by omega)
    have l3 := hvo.cellAt 3 (by omega)
    have l4 := hvo.cellAt 4 (by omega)
    simp [u64s] at l0 l1 l2 l3 l4
    by_cases h0 : x0 = 0
    · subst h0
      simp only [ne_eq, not_true, if_false] at hR1
      have HR1 := Lib.hid hR1
      clear hR1
      go_wp2_with (first | (go_at_call 83; ((with_reducible refine (gots_ok _ _ _ _).mono ?_); rintro e4 w4 ⟨rfl, rfl⟩)) | (go_at_call 85; ((with_reducible refine (must_true _ _).mono ?_); rintro e4 w4 ⟨rfl, rfl⟩)))
      have beq : ∀ x : Nat, ((x : Int) == 0) = decide (x = 0) := fun x => by rw [Bool.eq_iff_iff]; simp
      have beq1 : ((x3 : Int) == 1) = decide (x3 = 1) := by rw [Bool.eq_iff_iff]; simp; omega
      have b1 := beq x1
      have b2 := beq x2
      clear beq
      generalize decide (x1 = 0) = s1 at *
      generalize decide (x2 = 0) = s2 at *
      generalize decide (x3 = 1) = m3 at *
      have l1' : w3.drew.cell? ⟨gl, 1, none⟩ = some (.int .u64 x1) := l1
      have l2' : w3.drew.cell? ⟨gl, 2, none⟩ = some (.int .u64 x2) := l2
      refine wp_region_noPanic ?_
      go_region
      refine NoPanic.normal ?_
      have e4 : (w3.alloc (.cells #[.bool s1, .bool s2, .slice none 0 0] 24)).drew = w3.drew.alloc (.cells #[.bool s1, .bool s2, .slice none 0 0] 24) := rfl
      have e5 : w3.heap.size = w3.drew.heap.size := rfl
      rw [e4, e5]
      clear e4 e5 l1' l2'
      replace bp3 := bp3.drew
      replace be3 := be3.drew
      replace hd3 := hd3.drew
      replace hB3 := hB3.drew
      replace hrd3 : Rdr w3.drew r v bs 16 := hrd3
      replace hvo := hvo.drew'
      clear l0 l1 l2 l3 l4
      generalize w3.drew = w4 at *
      have l3 := (hvo.alloc (.cells #[.bool s1, .bool s2, .slice none 0 0] 24)).cellAt 3 (by omega)
      simp [u64s] at l3
      have bc5 := Blk.new w4 24 #[.bool s1, .bool s2, .slice none 0 0]
      replace bp3 := bp3.alloc (.cells #[.bool s1, .bool s2, .slice none 0 0] 24)
      replace be3 := be3.alloc (.cells #[.bool s1, .bool s2, .slice none 0 0] 24)
      replace hd3 := hd3.alloc (.cells #[.bool s1, .bool s2, .slice none 0 0] 24)
      replace hrd3 : Rdr (w4.alloc (.cells #[.bool s1, .bool s2, .slice none 0 0] 24)) r v bs 16 := ⟨hrd3.1.alloc _, hrd3.2.alloc _⟩
      replace hvo := hvo.alloc (.cells #[.bool s1, .bool s2, .slice none 0 0] 24)
      replace hB3 := hB3.alloc hB3.size (.cells #[.bool s1, .bool s2, .slice none 0 0] 24)
      have hsz4 : w4.heap.size < (w4.alloc (.cells #[.bool s1, .bool s2, .slice none 0 0] 24)).heap.size := by simp
      have hld := lengths_dec r d v _ bs m3 16 _ hrd3 hd3 (by omega) (by omega)
      have HLD := Lib.hid hld
      have hnM : ∀ k, k < w4.heap.size + 1 → k ≠ r → ¬ (k = r ∨ (w4.alloc (.cells #[.bool s1, .bool s2, .slice none 0 0] 24)).heap.size ≤ k) := by intro k h1 h2; simp; omega
      have HNM := Lib.hid hnM
      have bpl := bp3.lt
      have bel := be3.lt
      have dl := hd3.lt
      simp only [World.size_alloc] at bpl bel dl
      clear hld hnM
      go_wp2_with fail
      refine HLD.out.mono ?_
      rintro e5 w5 ⟨hk5, h5⟩
      have bp5 := bp3.kept hk5 (HNM.out _ (by omega) (by omega))
      have be5 := be3.kept hk5 (HNM.out _ (by omega) (by omega))
      have hd5 := hd3.kept hk5 (HNM.out _ (by omega) (by omega))
      have bc5' := bc5.kept hk5 (HNM.out _ (by omega) (by omega))
      have hB5 : Below w.heap.size w w5 := hB3.trans (hk5.below (B := w.heap.size) (fun k _ e => by have := hB3.size; omega) hB3.size)
      have hvo5 := own_kept hvo hk5 (fun j o hr hj => HNM.out j (by have := (hvo.lt j hj).2; simp only [World.size_alloc] at this; omega) (by have := (hvo.lt j hj).1; omega))
      rcases h5 with ⟨er, hl, rfl⟩ | ⟨ls, p, vl, hl, rfl, hvl, hrd5, hp5⟩
      · go_wp2
        exact dec_raise w _ R er _ _ _ _ _ _ rfl rfl bp5 be5 hB5 (by rw [← HR1.out, hl])
      · obtain ⟨hlp1, hlp2⟩ := lenRes_props hl
        have HL := Lib.hid hl
        have HLP := Lib.hid hlp2
        clear hl hlp2 HLD
        obtain ⟨Al, cl, rfl, hsl, _⟩ := own_sl hvl
        have hBw5 : Sl w5 w5.heap.size A n c (bvs bs) := (h.below hB5).more hB5.size
        have hpd := parts_dec r d v A n c bs p Al ls.length cl ls w5 hrd5 hd5 hBw5 hsl (by omega) hp5 hlp1 (fun n hn => (HLP.out n hn).2)
        have HPD := Lib.hid hpd
        clear hpd
        go_wp2_with fail
        refine HPD.out.mono ?_
        rintro e6 w6 ⟨hB6, h6⟩
        have bp6 := bp5.below hB6 bp5.lt
        have be6 := be5.below hB6 be5.lt
        have bc6 := bc5'.below hB6 bc5'.lt
        have hB6' : Below w.heap.size w w6 := hB5.trans (hB6.mono hB5.size)
        have hvo6 := own_below hvo5 hB6 (Nat.le_refl _)
        clear HPD hsl hBw5 hrd5 hd5
        rcases h6 with ⟨er, hp6, rfl⟩ | ⟨ps, vo, hp6, rfl, hpo⟩
        · go_wp2
          exact dec_raise w _ R er _ _ _ _ _ _ rfl rfl bp6 be6 hB6' (by rw [← HR1.out, HL.out]; dsimp only; rw [hp6])
        · have hRF : R = .inr (x4, s1, s2, ps) := by rw [← HR1.out, HL.out]; dsimp only; rw [hp6]
          have HRF := Lib.hid hRF
          clear hRF hp6
          obtain ⟨Ao, co, vso, rfl, _⟩ := hpo.sls
          have c62 := bc6.cell 2
          have f62 := bc6.frozen 2
          simp at c62
          have bc7 := bc6.set_ 2 (.slice Ao ps.length co)
          have bp7 := bp6.far (p := ⟨w4.heap.size, 2, none⟩) (by simp; omega) (.slice Ao ps.length co)
          have be7 := be6.far (p := ⟨w4.heap.size, 2, none⟩) (by simp; omega) (.slice Ao ps.length co)
          have hB7 := hB6'.setCell (p := ⟨w4.heap.size, 2, none⟩) (by simp; omega) (.slice Ao ps.length co)
          have hvo7 := hvo6.kept (grownBy_setAt w6 w4.heap.size 2 (.slice Ao ps.length co)) (.inr (own_blk_ne hvo6 bc6 (by decide)))
          have hpo7 : PartsOut (w6.setCell ⟨w4.heap.size, 2, none⟩ (.slice Ao ps.length co)) w5.heap.size (.slice Ao ps.length co) ps := hpo.kept (fun k o hk ho => (Below.heap_setCell w6 _ _ k (by have := bc5'.lt; simp; omega)).trans ho)
          have HPO := Lib.hid hpo7
          go_wp2_with fail
          simp at bc7
          generalize w6.setCell ⟨w4.heap.size, 2, none⟩ (.slice Ao ps.length co) = w7 at *
          have k0 := bc7.cell 0
          have k1 := bc7.cell 1
          have k2 := bc7.cell 2
          have l4 := hvo7.cellAt 4 (by omega)
          simp [u64s] at k0 k1 k2 l4
          have hwx : IntKind.i64.wrap (x4 : Int) = x4 := IntWalk.i64_in _ (by omega)
          refine wp_region_still_tail 6 (by kernel_rfl) (by kernel_rfl) ?_
          simp only [List.take_succ_cons, List.take_zero, List.drop_succ_cons, List.drop_zero]
          still_step
          still_step
          still_step
          still_step
          still_step
          still_step
          refine wpStill_nil ?_
          change wpList _ _ _ _ _ w7.drew
          clear k0 k1 k2 l4 c62 f62
          replace bp7 := bp7.drew
          replace be7 := be7.drew
          replace hB7 := hB7.drew
          replace HPO : Hid (PartsOut w7.drew w5.heap.size (.slice Ao ps.length co) ps) := HPO
          generalize w7.drew = w8 at *
          have k0 := bp7.cell 0
          have k1 := bp7.cell 1
          have k2 := bp7.cell 2
          have k3 := bp7.cell 3
          have g0 := bp7.frozen 0
          have g1 := bp7.frozen 1
          have g2 := bp7.frozen 2
          have g3 := bp7.frozen 3
          have k4 := be7.cell 0
          have g4 := be7.frozen 0
          simp at k0 k1 k2 k3 k4
          go_wp2
          refine leaves_cons (f := 81) (args := #[.pointer (some ⟨w.heap.size, 0, none⟩), .pointer (some ⟨w.heap.size + 1, 0, none⟩)]) (by simp) (by simp [go_sem]) ?_
          refine (dec1_idle _ _ _).mono ?_
          rintro e9 u9 w9 ⟨rfl, rfl, rfl⟩
          have hbp9 := ((((bp7.set_ 0 (.int .i64 x4)).set_ 1 (.bool s1)).set_ 2 (.bool s2)).set_ 3 (.slice Ao ps.length co)).far (p := ⟨w.heap.size + 1, 0, none⟩) (by simp) (.int .i64 0)
          have hbe9 := ((((be7.far (p := ⟨w.heap.size, 0, none⟩) (by simp) (.int .i64 x4)).far (p := ⟨w.heap.size, 1, none⟩) (by simp) (.bool s1)).far (p := ⟨w.heap.size, 2, none⟩) (by simp) (.bool s2)).far (p := ⟨w.heap.size, 3, none⟩) (by simp) (.slice Ao ps.length co)).set_ 0 (.int .i64 0)
          have hB9 := ((((hB7.setCell (p := ⟨w.heap.size, 0, none⟩) (by simp) (.int .i64 x4)).setCell (p := ⟨w.heap.size, 1, none⟩) (by simp) (.bool s1)).setCell (p := ⟨w.heap.size, 2, none⟩) (by simp) (.bool s2)).setCell (p := ⟨w.heap.size, 3, none⟩) (by simp) (.slice Ao ps.length co)).setCell (p := ⟨w.heap.size + 1, 0, none⟩) (by simp) (.int .i64 0)
          have hpo9 : PartsOut (((((w8.setCell ⟨w.heap.size, 0, none⟩ (.int .i64 x4)).setCell ⟨w.heap.size, 1, none⟩ (.bool s1)).setCell ⟨w.heap.size, 2, none⟩ (.bool s2)).setCell ⟨w.heap.size, 3, none⟩ (.slice Ao ps.length co)).setCell ⟨w.heap.size + 1, 0, none⟩ (.int .i64 0)) w5.heap.size (.slice Ao ps.length co) ps :=
            HPO.out.kept (fun k o hk ho => by
              have h1 := bc5'.lt
              rw [Below.heap_setCell _ _ _ k (by simp; omega), Below.heap_setCell _ _ _ k (by simp; omega), Below.heap_setCell _ _ _ k (by simp; omega), Below.heap_setCell _ _ _ k (by simp; omega), Below.heap_setCell _ _ _ k (by simp; omega)]
              exact ho)
          have q0 := hbp9.cell 0
          have q1 := hbp9.cell 1
          have q2 := hbp9.cell 2
          have q3 := hbp9.cell 3
          have q4 := hbe9.cell 0
          simp at q0 q1 q2 q3 q4
          refine ⟨.tuple #[.agg #[.int .i64 x4, .bool s1, .bool s2, .slice Ao ps.length co], .int .i64 0], by simp [results, Try.results23, go_sem, q0, q1, q2, q3, q4], hB9, .inr ⟨x4, s1, s2, ps, _, HRF.out, rfl, hpo9.base hB5.size⟩⟩
    · rw [if_pos h0] at hR1
      have HR1 := Lib.hid hR1.symm
      have hx0 : ((x0 : Int) == 0) = false := by simp; omega
      clear hR1 h0
      go_wp2_with (first | (go_at_call 83; ((with_reducible refine (gots_ok _ _ _ _).mono ?_); rintro e4 w4 ⟨rfl, rfl⟩)) | (go_at_call 85; ((with_reducible refine (must_false _ _).mono ?_); rintro e4 w4 ⟨rfl, rfl⟩)))
      exact dec_raise w _ R 9 _ _ _ _ _ _ rfl rfl bp3 be3 hB3 HR1.out
end Go.Proofs.Ytchlbpfeiamieaa
