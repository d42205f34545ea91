/- law35: AmsendWindow walked. -/
import Derived.Test.YtmiipkaobloedaaGreatYCk
import Derived.Test.YtmiipkaobloedaaGreatYCm
import Derived.Test.YtmiipkaobloedaaGreatZi
namespace Go.Proofs.YtmiipkaobloedaaGreat
open Go.RowKit Go.Shelf
attribute [local go_sem] Oper.semAt_some
theorem bvs_rep35 (n : Nat) : (madeCells #[Value.int .u8 0] n).toList = bvs (List.replicate n 0) := by
  rw [toList_madeCells_one]
  simp [bvs, bv]
/-- the state in the law's loop -/
def WdL (w : World) (cf : Cf) (g k : Nat) (v : Value) (W : World) : Prop := ∃ st, T35 w (fun _ => False) cf g st (3 * k) W ∧ Wd st ∧ v = .int .i64 (st.out.length : Nat)
set_option maxRecDepth 100000 in
set_option maxHeartbeats 4000000 in
theorem amsendWindow_all (a0 a1 a2 a3 a4 a5 a6 size n : Int) (w : World) :
    Calls Tryz.prog 3 #[.agg #[.int .i64 a0, .int .i64 a1, .int .i64 a2, .int .i64 a3, .int .i64 a4, .int .i64 a5, .int .i64 a6], .int .i64 size, .int .i64 n] w (TrueW w) := by
  have hb0 := (Below.refl w.heap.size w).alloc (Nat.le_refl _) (.cells #[.int .i64 a0, .int .i64 a1, .int .i64 a2, .int .i64 a3, .int .i64 a4, .int .i64 a5, .int .i64 a6] 23)
  by_cases hr : 1 ≤ size ∧ size ≤ 40 ∧ 3 ≤ n ∧ n ≤ 60
  rotate_left
  · have HB0 := Lib.hid hb0
    clear hb0
    have hc : size < 1 ∨ (1 ≤ size ∧ 40 < size) ∨ (1 ≤ size ∧ size ≤ 40 ∧ n < 3) ∨ (1 ≤ size ∧ size ≤ 40 ∧ 3 ≤ n ∧ 60 < n) := by omega
    clear hr
    rcases hc with h1 | ⟨h1, h2⟩ | ⟨h1, h2, h3⟩ | ⟨h1, h2, h3, h4⟩
    all_goals
      go_enter Tryz.func3, Tryz.ntmps3
      go_wp2_with fail
      refine (works35_any _).mono ?_
      rintro e1 w3 ⟨rfl, hb3⟩
      go_wp2
      go_ret
      exact ⟨rfl, HB0.out.trans (hb3.mono HB0.out.size)⟩
  obtain ⟨h1, h2, h3, h4⟩ := hr
  obtain ⟨m, rfl⟩ : ∃ m : Nat, size = m := ⟨size.toNat, by omega⟩
  have hne := amf_new a0 a1 a2 a3 a4 a5 a6 (w.alloc (.cells #[.int .i64 a0, .int .i64 a1, .int .i64 a2, .int .i64 a3, .int .i64 a4, .int .i64 a5, .int .i64 a6] 23))
  unfold cf7 at hne
  have HB0 := Lib.hid hb0
  have HNE := Lib.hid hne
  clear hb0 hne
  go_enter Tryz.func3, Tryz.ntmps3
  go_wp2_with fail
  refine HNE.out.mono ?_
  rintro e1 w3 ⟨hb3, ⟨hr, g, rfl, hg, hF, hO⟩ | ⟨hr, rfl⟩⟩
  rotate_left
  · have HB3 := Lib.hid (HB0.out.trans (hb3.mono HB0.out.size))
    clear HNE hr hb3
    go_wp2_with (go_at_call 9; refine (num35_any _ _).mono ?_; rintro e1 w9 ⟨rfl, rfl⟩)
    refine (works35_any _).mono ?_
    rintro e1 w4 ⟨rfl, hb4⟩
    go_wp2
    go_ret
    exact ⟨rfl, HB3.out.trans (hb4.mono HB3.out.size)⟩
  have hT := t35_new (N := fun _ => False) (HB0.out.trans (hb3.mono HB0.out.size)) hF (Nat.le_trans HB0.out.size hg) hO (fun k hk => hk.elim)
  have HT := Lib.hid hT
  generalize cfOf a0 a1 a2 a3 a4 a5 a6 = cf at *
  clear HNE hr hb3 hF hO hT HB0
  obtain ⟨i0, hi, hz0, hz1, hz2⟩ := info_parts u8_info
  go_wp2_with (go_at_call 9; refine (num35_any _ _).mono ?_; rintro e1 w9 ⟨rfl, rfl⟩)
  go_loopw [9, 10] (fun sv i wr => ∃ k : Nat, k ≤ 600 ∧ i = .int .i64 k ∧ WdL w cf g k sv wr) (fun _ i _ => 600 - (intOf i).toNat)
  case atStart => exact ⟨0, Nat.zero_le _, rfl, newSd, HT.out, Wd.new, rfl⟩
  case round =>
    obtain ⟨k, hk, rfl, st, hT, hWd, rfl⟩ := hrel
    have HTT := Lib.hid hT
    have HWD := Lib.hid hWd
    clear hT HT hWd
    by_cases hlt : k < 600
    · go_wp2_with (refine wpList_make_full _ rfl _ _ 31 rfl wr.heap.size 5 i0 (.int .u8 0) 1 und29 hi hz0 hz1 .i64 .i64 _ _ m rfl rfl rfl rfl ?c1 ?c2 ?c3 ?_)
      case c1 => rw [hz2]; omega
      case c2 => unfold maxLen; omega
      case c3 => exact Nat.le_refl _
      intro w5 hown hgrow
      rw [bvs_rep35] at hown
      have hb5 : Below wr.heap.size wr w5 := (Below.refl _ wr).grown hgrow (Nat.le_refl _) (by simp)
      have hS5 := own_sl' hown
      have HT5 := Lib.hid (HTT.out.more hb5)
      have hS6 : Sl w5 w5.heap.size (some ⟨wr.heap.size, 0, none⟩) (List.replicate m (0 : UInt8)).length m (bvs (List.replicate m 0)) := by simpa using hS5
      have HS5 := Lib.hid hS6
      clear hown hgrow hb5 hS5 hS6 HTT
      have hsub := t35_submit HT5.out HS5.out
      rw [List.length_replicate] at hsub
      have HSUB := Lib.hid hsub
      clear hsub
      go_wp2_with fail
      refine HSUB.out.mono ?_
      rintro e1 w6 ⟨rfl, hO⟩
      obtain ⟨hWs, hos⟩ := HWD.out.submitR cf (List.replicate m 0)
      generalize submitR cf st (List.replicate m 0) = R at *
      obtain ⟨st6, rc⟩ := R
      have HT6 := Lib.hid hO.1
      have hgr := t35_grant HT6.out (by omega) 0 n (by omega) (by omega)
      obtain ⟨g1, g2, g3⟩ := hWs.grantR cf n (by omega) HT6.out.ok.cf.timer
      rw [g2] at hgr
      have HGR := Lib.hid hgr
      have HG1 := Lib.hid g1
      rw [show st6.out.length = st.out.length from congrArg List.length hos] at g3
      have HG3 := Lib.hid g3
      have hol : st.out.length ≤ 512 := HWD.out.inv.w
      clear hO hWs hos hgr g1 g2 g3 HT5 HS5 HSUB HT6 HWD
      generalize st.out.length = sn at *
      go_wp2_with fail
      refine HGR.out.mono ?_
      rintro e1 w7 ⟨v7, rfl, hv7, hO⟩
      obtain ⟨A7, c7, rfl, -, -⟩ := own_sl hv7
      have HT7 := Lib.hid (t35_mono hO.1 (show 3 * k + 3 ≤ 3 * (k + 1) by omega))
      generalize (grantR cf st6 0 n).1 = st7 at *
      generalize (puB (grantR cf st6 0 n).2.1).length = nb at *
      clear hO hv7 HGR
      by_cases hnb : 0 < nb
      · have HE := HG3.out
        rw [if_pos hnb] at HE
        have HE2 := Lib.hid HE
        clear HE HG3
        go_wp2_with (go_at_call 9; refine (num35_any _ _).mono ?_; rintro e1 w9 ⟨rfl, rfl⟩)
        exact ⟨⟨k + 1, by omega, by go_num, st7, HT7.out, HG1.out, by rw [HE2.out]; go_num⟩, by simp [intOf]; omega⟩
      · have HE := HG3.out
        rw [if_neg hnb] at HE
        have HE2 := Lib.hid HE
        clear HE HG3
        go_wp2_with (go_at_call 9; refine (num35_any _ _).mono ?_; rintro e1 w9 ⟨rfl, rfl⟩)
        exact ⟨⟨k + 1, by omega, by go_num, st7, HT7.out, HG1.out, by rw [HE2.out]; rfl⟩, by simp [intOf]; omega⟩
    · have hk6 : k = 600 := by omega
      have hsta := t35_state HTT.out
      have hol : st.out.length ≤ 512 := HWD.out.inv.w
      have hnx := HWD.out.next
      have hf0 := HWD.out.f
      have hfl := HWD.out.fl
      obtain ⟨l1, l2, l3, l4, l5⟩ := HWD.out.last cf st.out.length rfl
      unfold stV at hsta
      obtain ⟨z1, hz1⟩ : ∃ z : Int, (if st.wait = true then ((st.polled : Nat) : Int) else 0) = z := ⟨_, rfl⟩
      obtain ⟨z2, hz2⟩ : ∃ z : Int, (if st.wait = true then st.expiry else 0) = z := ⟨_, rfl⟩
      rw [hz1, hz2, hnx, hf0, hfl] at hsta
      have HSTA := Lib.hid hsta
      have HL := Lib.hid (And.intro l1 (And.intro l2 (And.intro l3 (And.intro l4 l5))))
      clear hz1 hz2 hsta hnx hf0 hfl l1 l2 l3 l4 l5 HWD
      generalize hsn : st.out.length = sn at *
      have HSN := Lib.hid hsn
      clear hsn
      go_wp2_with fail
      refine HSTA.out.mono ?_
      rintro e1 w4 ⟨rfl, hb4⟩
      have HT4 := Lib.hid (HTT.out.more hb4)
      clear hb4 HSTA HTT
      go_upto_region 17 with (fail)
      have by_ := Blk.new w4 35 #[.int .i64 (0 : Nat), .int .i64 (sn : Nat), .int .i64 (st.pdus : Nat), .int .i64 (st.bytes : Nat), .int .i64 z1, .bool st.wait, .int .i64 z2, .bool st.owed, .int .i64 (st.done : Nat), .bool false]
      have hby := (Below.refl w4.heap.size w4).alloc (Nat.le_refl _) (.cells #[.int .i64 (0 : Nat), .int .i64 (sn : Nat), .int .i64 (st.pdus : Nat), .int .i64 (st.bytes : Nat), .int .i64 z1, .bool st.wait, .int .i64 z2, .bool st.owed, .int .i64 (st.done : Nat), .bool false] 35)
      have HT5 := Lib.hid (HT4.out.add (N' := fun k => k = w4.heap.size) hby (fun k e => .inr ⟨by omega, by simp; omega⟩))
      generalize w4.alloc (.cells #[.int .i64 (0 : Nat), .int .i64 (sn : Nat), .int .i64 (st.pdus : Nat), .int .i64 (st.bytes : Nat), .int .i64 z1, .bool st.wait, .int .i64 z2, .bool st.owed, .int .i64 (st.done : Nat), .bool false] 35) = w5 at *
      generalize w4.heap.size = yb at *
      have HY := Lib.hid by_
      have y0 := by_.cell 0
      have y1 := by_.cell 1
      have y9 := by_.cell 9
      simp only [List.getElem?_toArray, List.getElem?_cons_zero, List.getElem?_cons_succ] at y0 y1 y9
      clear hby by_ HT4
      have hbuf := t35_buffered HT5.out
      have HBUF := Lib.hid hbuf
      clear hbuf
      go_wp2_with fail
      refine HBUF.out.mono ?_
      rintro e1 w6 ⟨rfl, hb6⟩
      have HT6 := Lib.hid (HT5.out.more hb6)
      have hY6 := HY.out.below hb6 HY.out.lt
      have y1' := hY6.cell 1
      simp only [List.getElem?_toArray, List.getElem?_cons_zero, List.getElem?_cons_succ] at y1'
      have HY6 := Lib.hid hY6
      clear hb6 HBUF HT5 HY y0 y1 y9 hY6
      have hst := t35_status HT6.out (by omega) 1 (sn : Int) (by decide) none 0 0 [] ⟨rfl, Nat.le_refl _, by omega, fun h => by omega⟩ (fun ad e => by cases e)
      rw [HL.out.1] at hst
      have HST := Lib.hid hst
      clear hst
      go_wp2_with fail
      refine HST.out.mono ?_
      rintro e1 w7 ⟨rfl, hO⟩
      have hY7 : Blk w7 yb _ _ := (hO.2.1 yb rfl).trans HY6.out
      have HY7 := Lib.hid hY7
      have HT7 := Lib.hid hO.1
      obtain ⟨-, l2, l3, l4, l5⟩ := HL.out
      have hsta := t35_state HT7.out
      have hnp : nextP (statusR cf st 1 (sn : Int) []).1 = sn := by
        have h5 : sn ≤ 512 := hol
        unfold nextP
        rw [l2, l3, List.length_nil, Nat.add_zero, Nat.mod_eq_of_lt (by omega)]
      unfold stV at hsta
      rw [l2, l4, hnp] at hsta
      have HL3 := Lib.hid l3
      have HL5 := Lib.hid l5
      have HSTA := Lib.hid hsta
      clear hO hY7 HST HT6 HY6 y1' hnp hsta l2 l3 l4 l5 HL
      generalize (statusR cf st 1 (sn : Int) []).1 = st2 at *
      go_wp2_with fail
      refine HSTA.out.mono ?_
      rintro e1 w8 ⟨rfl, hb8⟩
      have HT8 := Lib.hid (HT7.out.more hb8)
      have HY8 := Lib.hid (HY7.out.below hb8 HY7.out.lt)
      clear hb8 HT7 HY7 HSTA
      generalize st2.pdus = p1 at *
      generalize st2.bytes = p2 at *
      generalize st2.owed = p3 at *
      generalize st2.done = p4 at *
      generalize st2.failed = p5 at *
      simp only [Bool.false_eq_true, if_false]
      go_upto_region 22 with (fail)
      have bz_ := Blk.new w8 35 #[.int .i64 (sn : Nat), .int .i64 (sn : Nat), .int .i64 (p1 : Nat), .int .i64 (p2 : Nat), .int .i64 0, .bool false, .int .i64 0, .bool p3, .int .i64 (p4 : Nat), .bool p5]
      have hbz := (Below.refl w8.heap.size w8).alloc (Nat.le_refl _) (.cells #[.int .i64 (sn : Nat), .int .i64 (sn : Nat), .int .i64 (p1 : Nat), .int .i64 (p2 : Nat), .int .i64 0, .bool false, .int .i64 0, .bool p3, .int .i64 (p4 : Nat), .bool p5] 35)
      have HT9 := Lib.hid (HT8.out.more hbz)
      have y1 := (HY8.out.alloc (.cells #[.int .i64 (sn : Nat), .int .i64 (sn : Nat), .int .i64 (p1 : Nat), .int .i64 (p2 : Nat), .int .i64 0, .bool false, .int .i64 0, .bool p3, .int .i64 (p4 : Nat), .bool p5] 35)).cell 1
      generalize w8.alloc (.cells #[.int .i64 (sn : Nat), .int .i64 (sn : Nat), .int .i64 (p1 : Nat), .int .i64 (p2 : Nat), .int .i64 0, .bool false, .int .i64 0, .bool p3, .int .i64 (p4 : Nat), .bool p5] 35) = w9 at *
      generalize w8.heap.size = zb at *
      have x0 := bz_.cell 0
      have x1 := bz_.cell 1
      have x5 := bz_.cell 5
      simp only [List.getElem?_toArray, List.getElem?_cons_zero, List.getElem?_cons_succ] at y1 x0 x1 x5
      have hbuf := t35_buffered HT9.out
      rw [HL5.out] at hbuf
      have HBUF := Lib.hid hbuf
      clear hbz bz_ hbuf HT8 HY8 HL5
      generalize bufP st = bz at *
      go_wp2_with (go_at_call 9; refine (num35_any _ _).mono ?_; rintro e1 wz ⟨rfl, rfl⟩)
      refine HBUF.out.mono ?_
      rintro e1 w10 ⟨rfl, hb10⟩
      have HT10 := Lib.hid (HT9.out.more hb10)
      clear hb10 HBUF HT9 x0 x1 x5 y1
      have hov := over35_none (v := .pointer (some ⟨g, 0, none⟩)) (w := w10) (fun W hb => by
        have := t35_pending (HT10.out.more hb)
        rw [HL3.out] at this
        exact this)
      have HOV := Lib.hid hov
      clear hov
      go_wp2_with fail
      refine HOV.out.mono ?_
      rintro e1 w11 ⟨rfl, hb11⟩
      have HB11 := Lib.hid (HT10.out.bel.trans (hb11.mono HT10.out.bel.size))
      clear hb11
      go_wp2_with fail
      refine (works35_any _).mono ?_
      rintro e1 w12 ⟨rfl, hb12⟩
      go_wp2
      go_ret
      exact ⟨rfl, HB11.out.trans (hb12.mono HB11.out.size)⟩
end Go.Proofs.YtmiipkaobloedaaGreat
