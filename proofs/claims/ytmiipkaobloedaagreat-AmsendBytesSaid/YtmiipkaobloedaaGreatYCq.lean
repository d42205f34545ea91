/- law35: AmsendBytes walked. -/
import Derived.Test.YtmiipkaobloedaaGreatYCp
import Derived.Test.YtmiipkaobloedaaGreatZi
import Derived.Test.YtmiipkaobloedaaGreatZk
import Derived.BigQuiet
import Derived.Deep.QuietTactic
namespace Go.Proofs.YtmiipkaobloedaaGreat
open Go.RowKit Go.Shelf
attribute [local go_sem] Oper.semAt_some
/-- a round's end -/
def BytE (w : World) (cf : Cf) (g k : Nat) (iv ev av nv : Value) (W : World) : Prop := ∃ st acc a next, BytM w cf g k st acc a next iv ev W ∧ av = .int .i64 (a : Nat) ∧ nv = .int .i64 (next : Nat)
theorem natV_one (n : Nat) : natV [n] = [.int .i64 (n : Nat)] := rfl
theorem one_natV (l : List Nat) : ∀ u ∈ natV l, u.oneCell' = true := by
  intro u hu
  simp only [natV, List.mem_map] at hu
  obtain ⟨b, _, rfl⟩ := hu
  rfl
theorem ends_lit (w : World) (B : Nat) (hB : B ≤ w.heap.size) : (w.alloc (.cells #[.int .i64 0] 3)).ownsRow B 3 1 (.slice (some ⟨w.heap.size, 0, none⟩) 1 1) (endsL []).length (natV (endsL [])) :=
  ⟨rfl, .inr ⟨w.heap.size, 1, #[.int .i64 0], rfl, hB, heap_alloc_new w _, Nat.le_refl _, by decide, rfl, rfl⟩⟩
theorem und57 : Tryz.prog.underlying 57 = some (.slice 3) := by kernel_rfl
theorem next35 (u0 u1 u2 u3 u4 u5 u6 u7 u8 u9 : Value) (w : World) : (Instr.field 35 (.agg #[u0, u1, u2, u3, u4, u5, u6, u7, u8, u9]) 1).run Tryz.prog w = .ok u1 w := by kernel_rfl
set_option maxRecDepth 100000 in
set_option maxHeartbeats 16000000 in
theorem amsendBytes_all (a0 a1 a2 a3 a4 a5 a6 : Int) (A : Option Addr) (n c : Nat) (l : List ActQ) (w : World) (h : SlQ w w.heap.size A n c l) :
    Calls Tryz.prog 6 #[.agg #[.int .i64 a0, .int .i64 a1, .int .i64 a2, .int .i64 a3, .int .i64 a4, .int .i64 a5, .int .i64 a6], .slice A n c] w (TrueW w) := by
  have hb0 := (Below.refl w.heap.size w).alloc (Nat.le_refl _) (.cells #[.int .i64 a0, .int .i64 a1, .int .i64 a2, .int .i64 a3, .int .i64 a4, .int .i64 a5, .int .i64 a6] 23)
  have hfe := few35_any _ _ _ _ _ ((h.below hb0).mono (by simp)) 60 (by decide)
  rw [show (((60 : Nat) : Int)) = 60 from rfl] at hfe
  have hne := amf_new a0 a1 a2 a3 a4 a5 a6 (w.alloc (.cells #[.int .i64 a0, .int .i64 a1, .int .i64 a2, .int .i64 a3, .int .i64 a4, .int .i64 a5, .int .i64 a6] 23))
  unfold cf7 at hne
  have hcap := h.cap
  have hmx := h.mx
  have hlen := h.len
  have HFE := Lib.hid hfe
  have HB0 := Lib.hid hb0
  have HNE := Lib.hid hne
  have HSL := Lib.hid h
  have HLEN := Lib.hid hlen
  clear h hfe hb0 hne hlen
  go_enter Tryz.func6, Tryz.ntmps6
  go_wp2_with fail
  refine HFE.out.mono ?_
  rintro e1 w2 ⟨b, rfl, hok, rfl⟩
  clear HFE
  cases b with
  | false =>
    clear hok
    go_wp2_with fail
    refine (works35_any _).mono ?_
    rintro e1 w3 ⟨rfl, hb3⟩
    go_wp2
    go_ret
    exact ⟨rfl, HB0.out.trans (hb3.mono HB0.out.size)⟩
  | true =>
    have hn60 : n ≤ 60 := by rw [← HLEN.out]; exact (hok rfl).1
    have HXB := Lib.hid (hok rfl).2
    clear hok
    go_wp2_with fail
    refine HNE.out.mono ?_
    rintro e1 w3 ⟨hb3, ⟨hr, g, rfl, hg, hF, hO⟩ | ⟨hr, rfl⟩⟩
    rotate_left
    · have HB3 := Lib.hid (HB0.out.trans (hb3.mono HB0.out.size))
      clear HNE hr hb3
      go_wp2_with (go_at_call 9; refine (num35_any _ _).mono ?_; rintro e1 w9 ⟨rfl, rfl⟩)
      refine (works35_any _).mono ?_
      rintro e1 w4 ⟨rfl, hb4⟩
      go_wp2
      go_ret
      exact ⟨rfl, HB3.out.trans (hb4.mono HB3.out.size)⟩
    have hT := t35_new (N := fun _ => False) (HB0.out.trans (hb3.mono HB0.out.size)) hF (Nat.le_trans HB0.out.size hg) hO (fun k hk => hk.elim)
    have hEL := ends_lit w3 w.heap.size hT.bel.size
    have hM : BytM w (cfOf a0 a1 a2 a3 a4 a5 a6) g 0 newSd [] 0 0 (.slice none 0 0) (.slice (some ⟨w3.heap.size, 0, none⟩) 1 1) (w3.alloc (.cells #[.int .i64 0] 3)) :=
      ⟨hT.add ((Below.refl _ _).alloc (Nat.le_refl _) _) (fun k hk => by
        rcases hk with e | e
        · simp [Value.ownBlock] at e
        · simp [Value.ownBlock] at e
          subst e
          exact .inr ⟨Nat.le_refl _, by simp⟩), Byt.new, World.ownsRow_nil _ _ _ _, hEL, Nat.le_refl _, Nat.le_refl _⟩
    have HM := Lib.hid hM
    generalize cfOf a0 a1 a2 a3 a4 a5 a6 = cf at *
    clear HNE hr hb3 hF hO hT HB0 hEL hM
    go_wp2_with (go_at_call 9; refine (num35_any _ _).mono ?_; rintro e1 w9 ⟨rfl, rfl⟩)
    obtain ⟨i5, hi5, hz50, hz51, hz52⟩ := info_parts u8_info
    obtain ⟨i3, hi3, hz30, hz31, hz32⟩ := info_parts int_info
    go_loopw [7, 8, 9, 10, 11] (fun iv ev av nv i wr => ∃ k : Nat, k ≤ n ∧ i = .int .i64 k ∧ BytE w cf g k iv ev av nv wr) (fun _ _ _ _ i _ => n - (intOf i).toNat)
    case atStart => exact ⟨0, Nat.zero_le _, rfl, newSd, [], 0, 0, HM.out, rfl, rfl⟩
    case round =>
      obtain ⟨k, hk, rfl, st, acc, a, next, hM, rfl, rfl⟩ := hrel
      have HMM := Lib.hid hM
      clear hM HM
      by_cases hlt : k < n
      · obtain ⟨ad, x, rfl, hadl, hx, hI, h0, h1, h2, h3, h4, h5⟩ := (HSL.out.below HMM.out.t.bel).get hlt
        have hxb := HXB.out x (List.mem_of_getElem? hx)
        have e1 := h1
        have e2 := h2
        have e3 := h3
        have e4 := h4
        have e5 := h5
        rw [add_spot _ _ _ (by decide)] at e1 e2 e3 e4 e5
        have HI := Lib.hid hI
        clear hI hx
        go_upto_region 13 with (fail)
        have bx := Blk.new wr 47 #[.int .i64 x.k, .int .i64 x.now, .int .i64 x.n, .slice x.A x.b.length x.c, .int .i64 x.ack, .slice x.Ar x.nks.length x.cr]
        have hbx := (Below.refl wr.heap.size wr).alloc (Nat.le_refl _) (.cells #[.int .i64 x.k, .int .i64 x.now, .int .i64 x.n, .slice x.A x.b.length x.c, .int .i64 x.ack, .slice x.Ar x.nks.length x.cr] 47)
        have HM5 := Lib.hid (HMM.out.more hbx)
        have HT5 := Lib.hid (HMM.out.t.add (N' := fun j => rowsN u7 u8 j ∨ j = wr.heap.size) hbx (fun j e => e.elim .inl fun e => .inr ⟨by omega, by simp; omega⟩))
        have hI5 := HI.out.below (hbx.mono HMM.out.t.bel.size)
        have HS5 := Lib.hid (hI5.b.more HM5.out.t.bel.size)
        have HSW := Lib.hid hI5.b
        have HN5 := Lib.hid hI5.nk
        have HNB := Lib.hid hI5.nb
        have hxn := hI5.now
        have hxm := hI5.n
        have d1 : x.now ≤ 9223372036854775807 := hxn.2
        have d2 : x.n ≤ 9223372036854775807 := hxm.2
        have hxbl := bx.lt
        have HBX := Lib.hid bx
        have c0 := bx.cell 0
        have c1 := bx.cell 1
        have c2 := bx.cell 2
        have c3 := bx.cell 3
        have c4 := bx.cell 4
        have c5 := bx.cell 5
        simp only [List.getElem?_toArray, List.getElem?_cons_zero, List.getElem?_cons_succ] at c0 c1 c2 c3 c4 c5
        have hxw : w.heap.size ≤ wr.heap.size := HMM.out.t.bel.size
        generalize wr.alloc (.cells #[.int .i64 x.k, .int .i64 x.now, .int .i64 x.n, .slice x.A x.b.length x.c, .int .i64 x.ack, .slice x.Ar x.nks.length x.cr] 47) = w5 at *
        generalize wr.heap.size = xb at *
        clear bx hbx hI5 hxn hxm h0 h1 h2 h3 h4 h5 e1 e2 e3 e4 e5 HI HMM
        by_cases hk0 : x.k = 0
        · have q0 : (x.k == 0) = true := by simpa using hk0
          clear hk0
          obtain ⟨hz1, hz2⟩ := submit_zero (c := cf) (st := st) (x := x.b)
          have hsub := t35_submit HT5.out HS5.out
          by_cases hrc : (submitR cf st x.b).2 = 0
          · obtain ⟨hst, h9⟩ := hz1 hrc
            rw [hrc, hst] at hsub
            have HSUB := Lib.hid hsub
            have HSB := Lib.hid (HM5.out.b.submit x.b)
            clear hz1 hz2 hrc hst hsub
            go_wp2_with fail
            refine HSUB.out.mono ?_
            rintro e1 w6 ⟨rfl, hO⟩
            have hw6 : w.heap.size ≤ w6.heap.size := hO.1.bel.size
            have c3' : w6.cell? ⟨xb, 3, none⟩ = some (.slice x.A x.b.length x.c) := (World.cell?_of_block (hO.2.1 xb (.inr rfl))).trans c3
            have hS6 : Sl w6 w.heap.size x.A x.b.length x.c (bvs x.b) := HSW.out.keep fun p hp => (hO.1.bel.cell hp).trans (HM5.out.t.bel.cell hp).symm
            have hO2 := to_less hO (fun j (e : rowsN u7 u8 j) => .inl e)
            have hi6 := own_keep HM5.out.i fun j hj => hO2.2.1 j (.inl hj)
            have hz := HM5.out.z
            have ham := HM5.out.m
            obtain ⟨fl, hfl⟩ : ∃ fl, fl = acc.flatten := ⟨_, rfl⟩
            rw [← hfl] at hi6 hz
            have HFL := Lib.hid hfl
            have HS6 := Lib.hid hS6
            have HI6 := Lib.hid hi6
            have HO2 := Lib.hid hO2
            clear hO hS6 hO2 hi6 hfl HSUB HS5 HSW HN5 HNB HBX HT5 c0 c1 c2 c3 c4 c5
            go_wp2_with (first
              | (go_at_call 9; refine (num35_any _ _).mono ?_; rintro e1 w9 ⟨rfl, rfl⟩)
              | (at_builtin; refine wpList_append_sl _ rfl (.tmp 57) (.tmp 59) 31 rfl w.heap.size 5 i5 (.int .u8 0) 1 und29 hi5 hz50 hz51 hz52 rfl _ fl.length (bvs fl) rfl HI6.out _ _ _ _ (bvs x.b) rfl HS6.out (one_bvs _) ?c1 ?c2 ?c3 ?_))
            case c1 => unfold maxLen; omega
            case c2 => omega
            case c3 => exact hw6
            intro v7 w7 hown7 hg7 hc7
            have hi7 := hown7
            rw [HFL.out] at hi7
            have hH := HM5.out.half HO2.out hi7 hg7 hc7
            have hsz7 : w.heap.size ≤ w7.heap.size := hH.t.bel.size
            have hv7 : ∃ A7 c7, v7 = .slice A7 (fl.length + x.b.length) c7 := by
              obtain ⟨A7, c7, e, _⟩ := own_sl hown7
              exact ⟨A7, c7, e⟩
            obtain ⟨A7, c7, rfl⟩ := hv7
            obtain ⟨el, hel⟩ : ∃ el, el = endsL acc := ⟨_, rfl⟩
            have he7 := hH.e
            rw [← hel] at he7
            have hel6 : el.length ≤ 61 := by rw [hel, endsL_length]; omega
            have HEL := Lib.hid hel
            have HE7 := Lib.hid he7
            have HH := Lib.hid hH
            clear hi7 hH hown7 hg7 hc7 he7 hel HI6 HS6 c3'
            go_wp2_with (at_builtin; refine wpList_append_sl _ rfl (.tmp 61) (.tmp 64) 57 rfl w.heap.size 3 i3 (.int .i64 0) 8 und57 hi3 hz30 hz31 hz32 rfl _ el.length (natV el) rfl (HE7.out.alloc _) _ _ 1 1 [.int .i64 ((fl.length : Int) + (x.b.length : Int))] rfl (sl_newG w7 _ 3) ?c1 ?c2 ?c3 ?c4 ?_)
            case c1 => exact one_natV [fl.length + x.b.length]
            case c2 => unfold maxLen; omega
            case c3 => omega
            case c4 => simp; omega
            intro v8 w8 hown8 hg8 hc8
            rw [HEL.out, show [Value.int .i64 ((fl.length : Int) + (x.b.length : Int))] = [.int .i64 ((acc ++ [x.b]).flatten.length : Nat)] by rw [HFL.out]; simp] at hown8
            have hM8 := (HH.out.more ((Below.refl _ _).alloc (Nat.le_refl _) (.cells #[.int .i64 ((fl.length : Int) + (x.b.length : Int))] 3))).whole HSB.out ham (by rw [← HFL.out]; exact hz) hxb hown8 hg8 (by simpa using hc8)
            have HM8 := Lib.hid hM8
            clear hM8 hown8 hg8 hc8 HH HE7 HEL HSB HM5 HO2 HFL
            go_wp2_with fail
            exact ⟨⟨k + 1, by omega, by go_num, _, _, _, _, HM8.out, rfl, rfl⟩, by simp [intOf]; omega⟩
          · rw [hz2 hrc] at hsub
            have HSUB := Lib.hid hsub
            have hrn : ((submitR cf st x.b).2 == 0) = false := by simpa using hrc
            clear hz1 hz2 hsub hrc
            generalize (submitR cf st x.b).2 = rc at *
            go_wp2_with fail
            refine HSUB.out.mono ?_
            rintro e1 w6 ⟨rfl, hO⟩
            have HM6 := Lib.hid (HM5.out.stepS (to_less hO (fun j (e : rowsN u7 u8 j) => .inl e)) HM5.out.b)
            clear hO HSUB HM5 HT5 HS5 HSW HN5 HNB HBX c0 c1 c2 c3 c4 c5
            go_wp2_with (go_at_call 9; refine (num35_any _ _).mono ?_; rintro e1 w9 ⟨rfl, rfl⟩)
            exact ⟨⟨k + 1, by omega, by go_num, _, _, _, _, HM6.out, rfl, rfl⟩, by simp [intOf]; omega⟩
        by_cases hk12 : x.k = 1 ∨ x.k = 2
        · have hgr := t35_grant HT5.out (by omega) x.now x.n d1 d2
          have hby := byt_grant (c := cf) HT5.out.ok.inv HT5.out.ok.bnd x.now x.n d1 HM5.out.b
          have q0 : (x.k == 0) = false := by simpa using hk0
          have q12 : (x.k == 1) = true ∨ ((x.k == 1) = false ∧ (x.k == 2) = true) := by
            rcases hk12 with e | e
            · exact .inl (by simp [e])
            · exact .inr ⟨by simp [e], by simp [e]⟩
          have HGR := Lib.hid hgr
          have HBY := Lib.hid hby
          clear hgr hby hk0 hk12 c3 c4 c5 HN5 HNB HSW HS5
          generalize grantR cf st x.now x.n = R at *
          rcases q12 with q1 | ⟨q1, q2⟩
          all_goals
            go_wp2_with fail
            refine HGR.out.mono ?_
            rintro e1 w6 ⟨v6, rfl, hv6, hO⟩
            rcases HBY.out with ⟨hp, hB⟩ | ⟨p, hp, hc0, hok, hrest⟩
            ·
              rw [hp] at hv6
              obtain ⟨A6, c6, rfl, -, -⟩ := own_sl hv6
              have HM6 := Lib.hid (HM5.out.step (to_less hO (fun j (e : rowsN u7 u8 j) => .inl e)) hB)
              have z0 : (puB none).length = 0 := rfl
              rw [z0]
              clear hO hB hp hv6 z0 HGR HBY HM5 HT5 HBX c0 c1 c2
              go_wp2_with fail
              exact ⟨⟨k + 1, by omega, by go_num, _, _, _, _, HM6.out, rfl, rfl⟩, by simp [intOf]; omega⟩
            rw [hp] at hv6
            rw [hc0]
            have hbd := enc_bd hok.v
            have hln := hok.len
            have hdec := dec_encA p.sn p.poll p.seg p.last p.off p.s p.e p.ps hok.v
            have hbs : puB (some p) = encA p.sn p.poll p.seg p.last p.off p.s p.e p.ps := rfl
            rw [← hbs] at hdec
            have hoff := hok.off
            generalize puB (some p) = bs at *
            obtain ⟨A6, c6, rfl, hs6, -⟩ := own_sl hv6
            have hDA := decodeA_any A6 bs.length c6 bs w6 hs6 (by omega)
            rw [hdec] at hDA
            have HDA := Lib.hid hDA
            have c2' : w6.cell? ⟨xb, 2, none⟩ = some (.int .i64 x.n) := (World.cell?_of_block (hO.2.1 xb (.inr rfl))).trans c2
            have hxb6 : xb < w6.heap.size := Nat.lt_of_lt_of_le hxbl hO.2.2
            have HO := Lib.hid hO
            have HR := Lib.hid hrest
            have HOK := Lib.hid hok
            clear hDA hdec hbs hv6 hs6 hO hrest hok hp hc0 HGR HBY c0 c1 c2
            generalize bs.length = nb at *
            go_wp2_with fail
            refine HDA.out.mono ?_
            rintro e1 w7 ⟨hb7, ⟨er, he, -⟩ | ⟨p', A7, c7, hp', rfl, hpo⟩⟩
            · cases he
            cases hp'
            have c2'' := (hb7.cell (p := ⟨xb, 2, none⟩) hxb6).trans c2'
            have hxb7 : xb < w7.heap.size := Nat.lt_of_lt_of_le hxb6 hb7.size
            have HB7 := Lib.hid hb7
            have HPO := Lib.hid hpo
            clear hb7 hpo HDA c2'
            dsimp only
            unfold apdu
            go_upto_region 24 with (fail)
            have bp := Blk.new w7 61 #[.int .i64 (p.sn : Nat), .bool p.poll, .bool p.seg, .bool p.last, .int .i64 (p.off : Nat), .bool p.s, .bool p.e, .slice A7 p.ps.length c7]
            have hbp := (Below.refl w7.heap.size w7).alloc (Nat.le_refl _) (.cells #[.int .i64 (p.sn : Nat), .bool p.poll, .bool p.seg, .bool p.last, .int .i64 (p.off : Nat), .bool p.s, .bool p.e, .slice A7 p.ps.length c7] 61)
            obtain ⟨A8, c8, vs8, hv8, hs8⟩ := HPO.out.sls
            cases hv8
            have HS8 := Lib.hid ((hs8.below hbp).more hbp.size)
            have c2 := (World.cell?_alloc_lt w7 (.cells #[.int .i64 (p.sn : Nat), .bool p.poll, .bool p.seg, .bool p.last, .int .i64 (p.off : Nat), .bool p.s, .bool p.e, .slice A7 p.ps.length c7] 61) ⟨xb, 2, none⟩ hxb7).trans c2''
            have HB8 := Lib.hid (HB7.out.trans (hbp.mono HB7.out.size))
            generalize w7.alloc (.cells #[.int .i64 (p.sn : Nat), .bool p.poll, .bool p.seg, .bool p.last, .int .i64 (p.off : Nat), .bool p.s, .bool p.e, .slice A7 p.ps.length c7] 61) = w8 at *
            generalize w7.heap.size = pb at *
            clear hbp hs8 HPO HB7 c2''
            have HBP := Lib.hid bp
            have hsta := t35_state (HO.out.1.more HB8.out)
            unfold stV at hsta
            obtain ⟨z1, hz1⟩ : ∃ z : Int, (if R.1.wait = true then ((R.1.polled : Nat) : Int) else 0) = z := ⟨_, rfl⟩
            obtain ⟨z2, hz2⟩ : ∃ z : Int, (if R.1.wait = true then R.1.expiry else 0) = z := ⟨_, rfl⟩
            rw [hz1, hz2] at hsta
            have HSTA := Lib.hid hsta
            clear hz1 hz2 hsta bp
            rcases HR.out with ⟨hnx, hB⟩ | ⟨hsn, hsg, hs, hpa, he, hnx, hn1024, hB⟩
            ·
              have HM8 := Lib.hid ((HM5.out.step (to_less HO.out (fun j (e : rowsN u7 u8 j) => .inl e)) hB).more HB8.out)
              have hsta := HSTA.out
              rw [hnx] at hsta
              have HST2 := Lib.hid hsta
              clear hnx hB HR HSTA HO hsta HM5 HT5 HBX HS8 HB8 HBP
              go_wp2_with (go_at_call 9; refine (num35_any _ _).mono ?_; rintro e1 w9 ⟨rfl, rfl⟩)
              refine HST2.out.mono ?_
              rintro e1 w9 ⟨rfl, hb9⟩
              have HM9 := Lib.hid (HM8.out.more hb9)
              clear hb9 HM8 HST2
              have hfd := next35
              go_wp2_with fail
              exact ⟨⟨k + 1, by omega, by go_num, _, _, _, _, HM9.out, rfl, rfl⟩, by simp [intOf]; omega⟩
            have HM8 := Lib.hid ((HM5.out.step (to_less HO.out (fun j (e : rowsN u7 u8 j) => .inl e)) hB).more HB8.out)
            have HE := Lib.hid he
            have HPA := Lib.hid hpa
            have HNX := Lib.hid hnx
            have HSB := Lib.hid hs
            have hne := nextP_ne hn1024
            have hne2 : (((((next + 1) % 1024 : Nat) : Int)) == (next : Int)) = false := by simp; omega
            have hsta := HSTA.out
            rw [hnx] at hsta
            have HST2 := Lib.hid hsta
            clear hnx hB HR HSTA hsta HM5 HT5 HBX hs hpa he hne
            obtain ⟨nn, hnn⟩ : ∃ nn, nn = (next + 1) % 1024 := ⟨_, rfl⟩
            rw [← hnn] at hne2 HST2 HM8
            have HNN := Lib.hid hnn
            clear hnn
            go_wp2_with (go_at_call 9; refine (num35_any _ _).mono ?_; rintro e1 w9 ⟨rfl, rfl⟩)
            refine HST2.out.mono ?_
            rintro e1 w9 ⟨rfl, hb9⟩
            have HM9 := Lib.hid (HM8.out.more hb9)
            have HBP9 := Lib.hid (HBP.out.below hb9 HBP.out.lt)
            have HS9 := Lib.hid ((HS8.out.below hb9).more hb9.size)
            clear HBP HS8 HM8 HST2 hb9
            obtain ⟨Ae, ce, rfl, hse, -⟩ := own_sl HM9.out.e
            obtain ⟨Ai, ci, rfl, hsi, -⟩ := own_sl HM9.out.i
            have ham := HM9.out.m
            have hfz := HM9.out.z
            have hnel : (endsL acc).length ≤ 1000 := by rw [endsL_length]; omega
            have hhas := fun (y : Nat) (q : Nat) => has35_any Ae _ ce (endsL acc) (w9.drewN q) (hse.drewN q) hnel y
            have HHAS := Lib.hid hhas
            have HSE := Lib.hid hse
            have HNEL := Lib.hid hnel
            have HSI := Lib.hid hsi
            have p0 := HBP9.out.cell 0
            have p2 := HBP9.out.cell 2
            have p5 := HBP9.out.cell 5
            have p6 := HBP9.out.cell 6
            have p7 := HBP9.out.cell 7
            simp only [List.getElem?_toArray, List.getElem?_cons_zero, List.getElem?_cons_succ] at p0 p2 p5 p6 p7
            rw [hsn] at p0
            rw [hsg] at p2
            have hcap := hsi.cap
            have hmx := hsi.mx
            have hcape := hse.cap
            have hmxe := hse.mx
            have hfd := next35
            have HSN := Lib.hid hsn
            clear hhas hse hsi hsn hsg hnel
            generalize (endsL acc).length = nel at *
            generalize hnfl : acc.flatten.length = nfl at *
            have HNFL := Lib.hid hnfl
            clear hnfl
            go_wp2_with fail
            obtain ⟨bS, hbS⟩ : ∃ b, p.s = b := ⟨_, rfl⟩
            have hin : decide (a ∈ endsL acc) = bS := by
              rw [← hbS, Bool.eq_iff_iff, decide_eq_true_iff, mem_endsL]
              exact HSB.out.symm
            rw [hbS] at p5
            have hha := HHAS.out a
            rw [hin] at hha
            have HHA := Lib.hid hha
            clear hin hbS hha
            have g1 : ((next : Int) != (next : Int)) = false := by simp
            go_quiet ((go_at_call 21; exact Calls.quiet_of_same ((HHA.out _).mono fun _ _ hh => ⟨hh.1, hh.2.symm⟩)))
            clear p0 p2 p5 p6 p7 g1 HHAS HHA
            have hdw : Below w9.heap.size w9 (w9.drewN nq) := Drew.below ⟨nq, rfl⟩ _
            have hM9 := HM9.out.more hdw
            have hS9 := HS9.out.below hdw
            have hBP9 := HBP9.out.below hdw HBP9.out.lt
            have hsi := HSI.out.drewN nq
            have hse := HSE.out.drewN nq
            rw [show w9.heap.size = (w9.drewN nq).heap.size from (Drew.size ⟨nq, rfl⟩).symm] at hS9 hsi hse
            clear HM9 HS9 HBP9 HSI HSE hdw
            generalize w9.drewN nq = wd at *
            have HM9 := Lib.hid hM9
            have HS9 := Lib.hid hS9
            have HBP9 := Lib.hid hBP9
            have HSI := Lib.hid hsi
            have hhas := fun (y : Nat) => has35_any Ae _ ce (endsL acc) wd hse HNEL.out y
            have hhasq := fun (y z : Nat) => has35_any Ae _ ce (endsL acc) (wd.drewN z) (hse.drewN z) HNEL.out y
            have HHAS := Lib.hid hhas
            have HHASQ := Lib.hid hhasq
            have p6 := hBP9.cell 6
            have p7 := hBP9.cell 7
            simp only [List.getElem?_toArray, List.getElem?_cons_zero, List.getElem?_cons_succ] at p6 p7
            clear hM9 hS9 hBP9 hsi hse hhas hhasq
            have hvp := (validB_iff _).1 ((validA_iff _ _ _ _ _).1 HOK.out.v).vp
            have hlo := hvp.lo
            have hhi := hvp.hi
            have HPOS := Lib.hid hvp.pos
            clear hvp
            obtain ⟨np, hnp⟩ : ∃ np, np = p.ps.length := ⟨_, rfl⟩
            rw [← hnp] at p7 hlo hhi
            have HNP := Lib.hid hnp
            clear hnp
            rw [show p.ps.length = np from HNP.out.symm]
            go_wp2_with fail
            go_loop [9, 17] (fun av kv => ∃ j q : Nat, j ≤ np ∧ kv = .int .i64 j ∧ av = .int .i64 q ∧ q = a + sumLen (p.ps.take j) ∧ PartsAt acc q (decide (j = 0)) (p.ps.drop j)) (fun _ kv => np - (intOf kv).toNat)
            case atStart => exact ⟨0, a, Nat.zero_le _, rfl, rfl, by simp [sumLen], HPA.out⟩
            case round =>
              obtain ⟨j, q, hj, rfl, rfl, hq, hpj⟩ := hrel
              have HQ := Lib.hid hq
              clear hq
              by_cases hjl : j < np
              · have hjl2 : j < p.ps.length := by rw [← HNP.out]; exact hjl
                obtain ⟨part, hpt, hin, hsm, hle, hrest, hsum⟩ := bytes_part hjl2 hpj
                obtain ⟨adp, Ap, cp, rfl, hadp, hcell, hslp⟩ := HS9.out.get hjl2
                rw [hpt] at hcell hslp
                simp only [Option.getD_some] at hcell hslp
                have hpl1 := HPOS.out part (List.mem_of_getElem? hpt)
                rw [HNFL.out] at hle
                have hmid := HSI.out.mid (a := q) (m := part.length) hle
                rw [if_neg (show ¬ ci = q by omega)] at hmid
                obtain ⟨adi, rfl, -, -⟩ := HSI.out.at_ (by omega)
                have e1 : ((bvs acc.flatten).drop q).take part.length = bvs part := by simp only [bvs, ← List.map_drop, ← List.map_take, hsm]
                rw [e1] at hmid
                have hcpc := hslp.cap
                have hcpm := hslp.mx
                obtain ⟨pl, hpl⟩ : ∃ pl, pl = part.length := ⟨_, rfl⟩
                rw [← hpl] at hle hcell hpl1 hcpc hmid hslp hrest hsum
                have hq2 : q + pl = a + sumLen (p.ps.take (j + 1)) := by rw [hsum, HQ.out]; omega
                have HQ2 := Lib.hid hq2
                have HMID := Lib.hid hmid
                have HSP := Lib.hid hslp
                have HREST := Lib.hid hrest
                have HIN := Lib.hid hin
                clear hmid hslp hrest hsum hsm hpt hpj hjl2 e1 hpl hq2 hin
                by_cases hj0 : j = 0
                · have hj1 : (j : Int) ≤ 0 := by omega
                  have HJ0 := Lib.hid hj0
                  clear hj0
                  go_wp2_with fail
                  refine (same35_any _ _ _ part _ _ _ part _ _ _ HSP.out HMID.out).mono ?_
                  rintro e1 wz ⟨rfl, rfl⟩
                  rw [decide_eq_true (show part = part from rfl)]
                  go_wp2_with fail
                  go_round
                  case rel => exact ⟨j + 1, q + pl, by omega, by go_num, by go_num, HQ2.out, HREST.out⟩
                  case measure => simp [intOf]; omega
                · have hj1 : (0 : Int) < (j : Int) := by omega
                  have hha := HHAS.out q
                  rw [decide_eq_true (HIN.out hj0)] at hha
                  have HHA2 := Lib.hid hha
                  clear hha hj0
                  go_wp2_with (go_at_call 21; refine HHA2.out.mono ?_; rintro e1 wz ⟨rfl, rfl⟩)
                  refine (same35_any _ _ _ part _ _ _ part _ _ _ HSP.out HMID.out).mono ?_
                  rintro e1 wz ⟨rfl, rfl⟩
                  rw [decide_eq_true (show part = part from rfl)]
                  go_wp2_with fail
                  go_round
                  case rel => exact ⟨j + 1, q + pl, by omega, by go_num, by go_num, HQ2.out, HREST.out⟩
                  case measure => simp [intOf]; omega
              · have hjn : j = np := by omega
                have hqe : q = a + sumLen p.ps := by rw [HQ.out, hjn, HNP.out, List.take_length]
                obtain ⟨bE, hbE⟩ : ∃ b, p.e = b := ⟨_, rfl⟩
                have hin : decide (q ∈ endsL acc) = bE := by
                  rw [← hbE, Bool.eq_iff_iff, decide_eq_true_iff, mem_endsL, hqe]
                  exact HE.out.symm
                rw [hbE] at p6
                have hha := HHASQ.out q
                rw [hin] at hha
                have HHA3 := Lib.hid hha
                have hMq := fun (y : Nat) => HM9.out.more (W' := wd.drewN y) (Drew.below ⟨y, rfl⟩ _)
                rw [← hqe] at hMq
                have HMQ := Lib.hid hMq
                have hbq := fun (y : Nat) => HBP9.out.below (w' := wd.drewN y) (Drew.below ⟨y, rfl⟩ wd.heap.size) HBP9.out.lt
                have HBQ := Lib.hid hbq
                have hsta := fun (y : Nat) => t35_state (HMQ.out y).t
                unfold stV at hsta
                obtain ⟨z3, hz3⟩ : ∃ z : Int, (if R.1.wait = true then ((R.1.polled : Nat) : Int) else 0) = z := ⟨_, rfl⟩
                obtain ⟨z4, hz4⟩ : ∃ z : Int, (if R.1.wait = true then R.1.expiry else 0) = z := ⟨_, rfl⟩
                rw [hz3, hz4, HNX.out, ← HNN.out] at hsta
                have HST3 := Lib.hid hsta
                clear hqe hbE hin hha hMq hbq hsta hz3 hz4 hpj
                go_wp2_with fail
                go_quiet ((go_at_call 21; exact Calls.quiet_of_same ((HHA3.out _).mono fun _ _ hh => ⟨hh.1, hh.2.symm⟩)))
                go_wp2_with fail
                refine (HST3.out _).mono ?_
                rintro e1 w10 ⟨rfl, hb10⟩
                have HM10 := Lib.hid ((HMQ.out _).more hb10)
                have p0 := ((HBQ.out _).below hb10 (HBQ.out _).lt).cell 0
                simp only [List.getElem?_toArray, List.getElem?_cons_zero] at p0
                rw [HSN.out] at p0
                have g3 : ((nn : Int) != ((next : Int) + 1) % 1024) = false := by rw [HNN.out]; simp
                clear hb10
                go_wp2_with fail
                exact ⟨⟨k + 1, by omega, by go_num, _, _, _, _, HM10.out, rfl, rfl⟩, by simp [intOf]; omega⟩
        by_cases hk3 : x.k = 3
        · have q0 : (x.k == 0) = false := by simpa using hk0
          have q1 : (x.k == 1) = false := by simp; omega
          have q2 : (x.k == 2) = false := by simp; omega
          have q3 : (x.k == 3) = true := by simpa using hk3
          clear hk0 hk12 hk3
          go_wp2_with fail
          refine (t35_status HM5.out.t (by omega) x.now x.ack d1 _ _ _ _ HN5.out HNB.out).mono ?_
          rintro e1 w6 ⟨rfl, hO⟩
          have HM6 := Lib.hid (HM5.out.step hO (byt_status HM5.out.b HM5.out.t.ok.inv _ _ _))
          clear hO HM5 HS5 HSW HN5 HNB HBX c0 c1 c2 c3 c4 c5
          go_wp2_with fail
          exact ⟨⟨k + 1, by omega, by go_num, _, _, _, _, HM6.out, rfl, rfl⟩, by simp [intOf]; omega⟩
        have q0 : (x.k == 0) = false := by simpa using hk0
        have q1 : (x.k == 1) = false := by simp; omega
        have q2 : (x.k == 2) = false := by simp; omega
        have q3 : (x.k == 3) = false := by simpa using hk3
        clear hk0 hk12 hk3
        go_wp2_with fail
        refine (t35_tick HM5.out.t (by omega) x.now d1).mono ?_
        rintro e1 w6 ⟨rfl, hO⟩
        have HM6 := Lib.hid (HM5.out.step hO (byt_tick HM5.out.b _))
        clear hO HM5 HS5 HSW HN5 HNB HBX c0 c1 c2 c3 c4 c5
        go_wp2_with fail
        exact ⟨⟨k + 1, by omega, by go_num, _, _, _, _, HM6.out, rfl, rfl⟩, by simp [intOf]; omega⟩
      · clear HSL
        go_wp2_with fail
        refine (works35_any _).mono ?_
        rintro e1 w4 ⟨rfl, hb4⟩
        go_wp2
        go_ret
        exact ⟨rfl, HMM.out.t.bel.trans (hb4.mono HMM.out.t.bel.size)⟩
end Go.Proofs.YtmiipkaobloedaaGreat
