/- law35: AmsendHolds walked. -/
import Derived.Test.YtmiipkaobloedaaGreatYCk
import Derived.Test.YtmiipkaobloedaaGreatZi
namespace Go.Proofs.YtmiipkaobloedaaGreat
open Go.RowKit Go.Shelf
attribute [local go_sem] Oper.semAt_some
set_option maxRecDepth 100000 in
set_option maxHeartbeats 4000000 in
theorem amsendHolds_all (a0 a1 a2 a3 a4 a5 a6 : Int) (A : Option Addr) (n c : Nat) (l : List ActQ) (w : World) (h : SlQ w w.heap.size A n c l) :
    Calls Tryz.prog 4 #[.agg #[.int .i64 a0, .int .i64 a1, .int .i64 a2, .int .i64 a3, .int .i64 a4, .int .i64 a5, .int .i64 a6], .slice A n c] w (TrueW w) := by
  have hb0 := (Below.refl w.heap.size w).alloc (Nat.le_refl _) (.cells #[.int .i64 a0, .int .i64 a1, .int .i64 a2, .int .i64 a3, .int .i64 a4, .int .i64 a5, .int .i64 a6] 23)
  have hfe := few35_any _ _ _ _ _ ((h.below hb0).mono (by simp)) 60 (by decide)
  rw [show (((60 : Nat) : Int)) = 60 from rfl] at hfe
  have hne := amf_new a0 a1 a2 a3 a4 a5 a6 (w.alloc (.cells #[.int .i64 a0, .int .i64 a1, .int .i64 a2, .int .i64 a3, .int .i64 a4, .int .i64 a5, .int .i64 a6] 23))
  unfold cf7 at hne
  have hcap := h.cap
  have hmx := h.mx
  have hlen := h.len
  have HFE := Lib.hid hfe
  have HB0 := Lib.hid hb0
  have HNE := Lib.hid hne
  have HSL := Lib.hid h
  have HLEN := Lib.hid hlen
  clear h hfe hb0 hne hlen
  go_enter Tryz.func4, Tryz.ntmps4
  go_wp2_with fail
  refine HFE.out.mono ?_
  rintro e1 w2 ⟨b, rfl, hok, rfl⟩
  clear HFE
  cases b with
  | false =>
    clear hok
    go_wp2_with fail
    refine (works35_any _).mono ?_
    rintro e1 w3 ⟨rfl, hb3⟩
    go_wp2
    go_ret
    exact ⟨rfl, HB0.out.trans (hb3.mono HB0.out.size)⟩
  | true =>
    have hn60 : n ≤ 60 := by rw [← HLEN.out]; exact (hok rfl).1
    clear hok
    go_wp2_with fail
    refine HNE.out.mono ?_
    rintro e1 w3 ⟨hb3, ⟨hr, g, rfl, hg, hF, hO⟩ | ⟨hr, rfl⟩⟩
    rotate_left
    · have HB3 := Lib.hid (HB0.out.trans (hb3.mono HB0.out.size))
      clear HNE hr hb3
      go_wp2_with (go_at_call 9; refine (num35_any _ _).mono ?_; rintro e1 w9 ⟨rfl, rfl⟩)
      refine (works35_any _).mono ?_
      rintro e1 w4 ⟨rfl, hb4⟩
      go_wp2
      go_ret
      exact ⟨rfl, HB3.out.trans (hb4.mono HB3.out.size)⟩
    have hT := t35_new (N := fun _ => False) (HB0.out.trans (hb3.mono HB0.out.size)) hF (Nat.le_trans HB0.out.size hg) hO (fun k hk => hk.elim)
    have HT := Lib.hid hT
    generalize cfOf a0 a1 a2 a3 a4 a5 a6 = cf at *
    clear HNE hr hb3 hF hO hT HB0
    go_wp2_with (go_at_call 9; refine (num35_any _ _).mono ?_; rintro e1 w9 ⟨rfl, rfl⟩)
    go_loopw [7] (fun i wr => ∃ (k : Nat) (st : Sd), k ≤ n ∧ i = .int .i64 k ∧ T35 w (fun _ => False) cf g st (3 * k) wr) (fun i _ => n - (intOf i).toNat)
    case atStart => exact ⟨0, newSd, Nat.zero_le _, rfl, HT.out⟩
    case round =>
      obtain ⟨k, st, hk, rfl, hT⟩ := hrel
      have HTT := Lib.hid hT
      clear hT HT
      by_cases hlt : k < n
      · obtain ⟨ad, x, rfl, hadl, hx, hI, h0, h1, h2, h3, h4, h5⟩ := (HSL.out.below HTT.out.bel).get hlt
        have e1 := h1
        have e2 := h2
        have e3 := h3
        have e4 := h4
        have e5 := h5
        rw [add_spot _ _ _ (by decide)] at e1 e2 e3 e4 e5
        have HI := Lib.hid hI
        clear hI hx
        go_upto_region 10 with (fail)
        have bx := Blk.new wr 47 #[.int .i64 x.k, .int .i64 x.now, .int .i64 x.n, .slice x.A x.b.length x.c, .int .i64 x.ack, .slice x.Ar x.nks.length x.cr]
        have hbx := (Below.refl wr.heap.size wr).alloc (Nat.le_refl _) (.cells #[.int .i64 x.k, .int .i64 x.now, .int .i64 x.n, .slice x.A x.b.length x.c, .int .i64 x.ack, .slice x.Ar x.nks.length x.cr] 47)
        have HT5 := Lib.hid (HTT.out.more hbx)
        have hI5 := HI.out.below (hbx.mono HTT.out.bel.size)
        have HS5 := Lib.hid (hI5.b.more HT5.out.bel.size)
        have HN5 := Lib.hid hI5.nk
        have HNB := Lib.hid hI5.nb
        have hxn := hI5.now
        have hxm := hI5.n
        have d1 : x.now ≤ 9223372036854775807 := hxn.2
        have d2 : x.n ≤ 9223372036854775807 := hxm.2
        have c0 := bx.cell 0
        have c1 := bx.cell 1
        have c2 := bx.cell 2
        have c3 := bx.cell 3
        have c4 := bx.cell 4
        have c5 := bx.cell 5
        simp only [List.getElem?_toArray, List.getElem?_cons_zero, List.getElem?_cons_succ] at c0 c1 c2 c3 c4 c5
        generalize wr.alloc (.cells #[.int .i64 x.k, .int .i64 x.now, .int .i64 x.n, .slice x.A x.b.length x.c, .int .i64 x.ack, .slice x.Ar x.nks.length x.cr] 47) = w5 at *
        generalize wr.heap.size = xb at *
        clear bx hbx hI5 hxn hxm h0 h1 h2 h3 h4 h5 e1 e2 e3 e4 e5 HI HTT
        go_upto_block 2 with (fail)
        go_cut [] from 35 to 61 (fun wx => ∃ st', T35 w (fun _ => False) cf g st' (3 * (k + 1)) wx)
        case first =>
          by_cases hk0 : x.k = 0
          · have q0 : (x.k == 0) = true := by simpa using hk0
            clear hk0
            go_wp2_with fail
            refine (t35_submit HT5.out HS5.out).mono ?_
            rintro e1 w6 ⟨rfl, hO⟩
            go_wp2
            go_meet
            exact ⟨_, t35_mono hO.1 (by omega)⟩
          by_cases hk12 : x.k = 1 ∨ x.k = 2
          · have hgr := t35_grant HT5.out (by omega) x.now x.n d1 d2
            have HGR := Lib.hid hgr
            have q0 : (x.k == 0) = false := by simpa using hk0
            clear hgr hk0
            obtain ⟨b1, q1⟩ : ∃ b1, (x.k == 1) = b1 := ⟨_, rfl⟩
            cases b1 with
            | true =>
              clear hk12
              go_wp2_with fail
              refine HGR.out.mono ?_
              rintro e1 w6 ⟨v6, rfl, -, hO⟩
              go_wp2
              go_meet
              exact ⟨_, t35_mono hO.1 (by omega)⟩
            | false =>
              have q2 : (x.k == 2) = true := by simp at q1; simp; omega
              clear hk12
              go_wp2_with fail
              refine HGR.out.mono ?_
              rintro e1 w6 ⟨v6, rfl, -, hO⟩
              go_wp2
              go_meet
              exact ⟨_, t35_mono hO.1 (by omega)⟩
          by_cases hk3 : x.k = 3
          · have q0 : (x.k == 0) = false := by simpa using hk0
            have q1 : (x.k == 1) = false := by simp; omega
            have q2 : (x.k == 2) = false := by simp; omega
            have q3 : (x.k == 3) = true := by simpa using hk3
            clear hk0 hk12 hk3
            go_wp2_with fail
            refine (t35_status HT5.out (by omega) x.now x.ack d1 _ _ _ _ HN5.out HNB.out).mono ?_
            rintro e1 w6 ⟨rfl, hO⟩
            go_wp2
            go_meet
            exact ⟨_, t35_mono hO.1 (by omega)⟩
          have q0 : (x.k == 0) = false := by simpa using hk0
          have q1 : (x.k == 1) = false := by simp; omega
          have q2 : (x.k == 2) = false := by simp; omega
          have q3 : (x.k == 3) = false := by simpa using hk3
          clear hk0 hk12 hk3
          go_wp2_with fail
          refine (t35_tick HT5.out (by omega) x.now d1).mono ?_
          rintro e1 w6 ⟨rfl, hO⟩
          go_wp2
          go_meet
          exact ⟨_, t35_mono hO.1 (by omega)⟩
        case rest =>
        obtain ⟨st', hT6⟩ := hcut
        have hsta := t35_state hT6
        have hin := hT6.ok.inv
        have hnx := hin.next
        have hf1 := hin.f
        have hnp : nextP st' < 1024 := Nat.mod_lt _ (by decide)
        have hask : st'.queue ≠ [] → bufP st' = 0 → st'.wait = true := fun h1 h2 => hin.asked h1 h2
        have HAS := Lib.hid hask
        have HT6 := Lib.hid hT6
        unfold stV at hsta
        obtain ⟨z1, hz1⟩ : ∃ z : Int, (if st'.wait = true then ((st'.polled : Nat) : Int) else 0) = z := ⟨_, rfl⟩
        obtain ⟨z2, hz2⟩ : ∃ z : Int, (if st'.wait = true then st'.expiry else 0) = z := ⟨_, rfl⟩
        rw [hz1, hz2] at hsta
        have HSTA := Lib.hid hsta
        clear hz1 hz2 hsta hin hask hT6 HT5 HS5 HN5 HNB c0 c1 c2 c3 c4 c5
        go_wp2_with fail
        refine HSTA.out.mono ?_
        rintro e1 w7 ⟨rfl, hb7⟩
        clear HSTA
        have HT7 := Lib.hid (HT6.out.more hb7)
        clear hb7
        go_upto_region 20 with (fail)
        have by_ := Blk.new w7 35 #[.int .i64 (st'.first : Nat), .int .i64 (nextP st' : Nat), .int .i64 (st'.pdus : Nat), .int .i64 (st'.bytes : Nat), .int .i64 z1, .bool st'.wait, .int .i64 z2, .bool st'.owed, .int .i64 (st'.done : Nat), .bool st'.failed]
        have hby := (Below.refl w7.heap.size w7).alloc (Nat.le_refl _) (.cells #[.int .i64 (st'.first : Nat), .int .i64 (nextP st' : Nat), .int .i64 (st'.pdus : Nat), .int .i64 (st'.bytes : Nat), .int .i64 z1, .bool st'.wait, .int .i64 z2, .bool st'.owed, .int .i64 (st'.done : Nat), .bool st'.failed] 35)
        have HT8 := Lib.hid (HT7.out.more hby)
        generalize w7.alloc (.cells #[.int .i64 (st'.first : Nat), .int .i64 (nextP st' : Nat), .int .i64 (st'.pdus : Nat), .int .i64 (st'.bytes : Nat), .int .i64 z1, .bool st'.wait, .int .i64 z2, .bool st'.owed, .int .i64 (st'.done : Nat), .bool st'.failed] 35) = w8 at *
        generalize w7.heap.size = yb at *
        have HY := Lib.hid by_
        have y9 := by_.cell 9
        have y5 := by_.cell 5
        simp only [List.getElem?_toArray, List.getElem?_cons_zero, List.getElem?_cons_succ] at y9 y5
        clear hby by_ HT7
        go_cut [82] from 64 to 82 (fun sb wx => sb = .bool false ∧ Below w8.heap.size w8 wx)
        case first =>
          clear hnx hf1 hnp
          obtain ⟨fl, hfl⟩ : ∃ b, st'.failed = b := ⟨_, rfl⟩
          rw [hfl] at y9
          have HFL := Lib.hid hfl
          clear hfl
          cases fl with
          | true =>
            go_wp2_with fail
            go_meet
            exact ⟨rfl, Below.refl _ _⟩
          | false =>
            go_wp2_with fail
            refine (t35_unconf HT8.out).mono ?_
            rintro e1 w9 ⟨⟨Au, cu, rfl⟩, hb9⟩
            have HB9 := Lib.hid hb9
            have HT9 := Lib.hid (HT8.out.more hb9)
            clear hb9
            by_cases hq : st'.queue.length = 0
            · have dq : ((st'.queue.length : Int)) = 0 := by omega
              clear hq
              go_wp2_with fail
              go_meet
              exact ⟨rfl, HB9.out⟩
            · have dq : (0 : Int) < (st'.queue.length : Int) := by omega
              have hq2 : st'.queue ≠ [] := fun e => hq (by rw [e]; rfl)
              have HQ2 := Lib.hid hq2
              clear hq hq2
              go_wp2_with fail
              refine (t35_buffered HT9.out).mono ?_
              rintro e1 w10 ⟨rfl, hb10⟩
              have HB10 := Lib.hid (HB9.out.trans (hb10.mono HB9.out.size))
              have y5' := (HY.out.below HB10.out HY.out.lt).cell 5
              simp only [List.getElem?_toArray, List.getElem?_cons_zero, List.getElem?_cons_succ] at y5'
              clear hb10
              by_cases hbz : bufP st' = 0
              · rw [HAS.out HQ2.out hbz] at y5'
                have dz : (bufP st' == 0) = true := by simpa using hbz
                clear hbz
                go_wp2_with fail
                go_meet
                exact ⟨rfl, HB10.out⟩
              · have dz : (bufP st' == 0) = false := by simpa using hbz
                clear hbz
                go_wp2_with fail
                go_meet
                exact ⟨rfl, HB10.out⟩
        case rest =>
        obtain ⟨rfl, hbw⟩ := hcut
        have y8 := (HY.out.below hbw HY.out.lt).cell 8
        have y1 := (HY.out.below hbw HY.out.lt).cell 1
        have y0 := (HY.out.below hbw HY.out.lt).cell 0
        simp only [List.getElem?_toArray, List.getElem?_cons_zero, List.getElem?_cons_succ] at y8 y1 y0
        have HT10 := Lib.hid (HT8.out.more hbw)
        clear hbw HT8 HY HT6 HAS y9 y5
        generalize nextP st' = np at *
        have hmod : (((np : Int) - (st'.first : Int) + 1024) % 1024) ≤ 512 := hnx
        have hm2 : ((np : Int) - (st'.first : Int) + 1024).tmod 1024 ≤ 512 := by rw [Int.tmod_eq_emod_of_nonneg (by omega)]; exact hmod
        go_wp2_with fail
        exact ⟨⟨k + 1, st', by omega, by go_num, HT10.out⟩, by simp [intOf]; omega⟩
      · clear HSL
        go_wp2_with fail
        refine (works35_any _).mono ?_
        rintro e1 w4 ⟨rfl, hb4⟩
        go_wp2
        go_ret
        exact ⟨rfl, HTT.out.bel.trans (hb4.mono HTT.out.bel.size)⟩
end Go.Proofs.YtmiipkaobloedaaGreat
