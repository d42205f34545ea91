/- umsend: chunk. -/
import Derived.Test.YtbjajboodohabaaGreatJ7
namespace Go.Proofs.YtbjajboodohabaaGreat
open Go.RowKit Go.Shelf
attribute [local go_sem] Oper.semAt_some

theorem Blk.three_ {w : World} {g : Nat} {t : TypeId} {x y z : Value} (b : Blk w g t #[x, y, z]) : w.cell? ⟨g, 0, none⟩ = some x ∧ w.cell? ⟨g, 1, none⟩ = some y ∧ w.cell? ⟨g, 2, none⟩ = some z :=
  ⟨b.cell 0, b.cell 1, b.cell 2⟩
theorem Blk.put3_cells {w : World} {g : Nat} {t : TypeId} {x y z : Value} (b : Blk w g t #[x, y, z]) (u0 u1 u2 : Value) : (w.setCell ⟨g, 0, none⟩ u0).cell? ⟨g, 0, none⟩ = some u0 ∧ ((w.setCell ⟨g, 0, none⟩ u0).setCell ⟨g, 1, none⟩ u1).cell? ⟨g, 1, none⟩ = some u1 ∧ (((w.setCell ⟨g, 0, none⟩ u0).setCell ⟨g, 1, none⟩ u1).setCell ⟨g, 2, none⟩ u2).cell? ⟨g, 2, none⟩ = some u2 :=
  ⟨(b.set_ 0 u0).cell 0, ((b.set_ 0 u0).set_ 1 u1).cell 1, (((b.set_ 0 u0).set_ 1 u1).set_ 2 u2).cell 2⟩
theorem hdrN_bd (n : Int) (h1 : 1 ≤ n) (h2 : n ≤ 65) : 0 ≤ hdrN n ∧ hdrN n ≤ 200 := by unfold hdrN; split <;> omega
theorem sl_new0 (W : World) (x : Value) (t : TypeId) : Sl (W.alloc (.cells #[x] t)) (W.alloc (.cells #[x] t)).heap.size (some ⟨W.heap.size, 0, none⟩) 1 1 [x] := ⟨(sl_new1 W x t).len, (sl_new1 W x t).cap, (sl_new1 W x t).mx, (sl_new1 W x t).at_⟩
theorem ChkAt.at1 {w : World} {base g cap next : Nat} {st : Bool} {q0 : Option Nat} {sr : List (List UInt8)} {tr : Nat} {qs : List (List UInt8)} {e : Bool} {Ap : Option Addr} {cp : Nat} {vl : List Value} {v : Value} {vs : List Value} {wr w1 : World}
    (h : ChkAt w base g cap next st q0 sr tr qs e Ap cp vl v vs wr) (hgl : g < w.heap.size) (hk : Kept (fun k _ => k = g) wr w1) :
    Blk w1 (w.heap.size + 1) 76 #[.bool st, .bool e, .slice Ap qs.length cp] ∧ w1.ownsRow w.heap.size 40 1 (.slice Ap qs.length cp) qs.length vl ∧ w.heap.size + 1 < w1.heap.size ∧ Blk w1 w.heap.size 76 #[.bool false, .bool false, .slice none 0 0] := by
  have b1 := h.blk.kept hk (by omega)
  exact ⟨b1, own_kept h.row hk fun k o hr hb e => by
    obtain ⟨_, _, _, hb2⟩ := own_isRow h.row hb
    omega, b1.lt, h.res.kept hk (by omega)⟩
/-- the relation of chunk's loop -/
def ChkRel (w : World) (base g cap next : Nat) (st : Bool) (q0 : Option Nat) (n : Int) (FIN : List (List UInt8) × Bool × List (List UInt8) × Nat) (gk : Nat) (s6 : Value) (wr : World) : Prop :=
  ∃ sr tr qs e size Ap cp vl v vs, s6 = .int .i64 (size : Nat) ∧ gk = sr.length ∧ ChkAt w base g cap next st q0 sr tr qs e Ap cp vl v vs wr ∧
    FIN = (qs ++ (chk n (sr.length + 1) sr tr qs.length (lastLen qs) size e).1, (chk n (sr.length + 1) sr tr qs.length (lastLen qs) size e).2) ∧ size ≤ 32767 ∧ qs.length ≤ 64 ∧
    (∀ s ∈ sr, 1 ≤ s.length ∧ s.length ≤ 1000000) ∧ (∀ x r, sr = x :: r → tr < x.length)

set_option maxRecDepth 100000 in
set_option maxHeartbeats 4000000 in
theorem schunk_any (g base sent cap next : Nat) (n : Int) (v : Value) (vs : List Value) (sdus : List (List UInt8)) (w : World) (h : Snd w base g v vs sdus sent cap next) (hn : 0 ≤ n) (hn2 : n ≤ 9223372036854775807)
    (hsd : ∀ s ∈ sdus, 1 ≤ s.length ∧ s.length ≤ 1000000) (hlt : ∀ x r, sdus = x :: r → sent < x.length) :
    Calls Tryz.prog 28 #[.pointer (some ⟨g, 0, none⟩), .int .i64 n] w (ChunkOut w base g v cap next (decide (sent = 0)) (chk n (sdus.length + 1) sdus sent 0 0 0 false)) := by
  obtain ⟨j0, hj0, hm0, hm1', hm2'⟩ := info_parts sl_info
  have hst : ((sent : Int) == 0) = decide (sent = 0) := by rw [Bool.eq_iff_iff]; simp
  obtain ⟨FIN, hF⟩ : ∃ FIN, FIN = chk n (sdus.length + 1) sdus sent 0 0 0 false := ⟨_, rfl⟩
  rw [← hF]
  have HF := Lib.hid hF
  have HH := Lib.hid h
  have HSD := Lib.hid hsd
  have HLT := Lib.hid hlt
  have hgl := h.blk.lt
  have hq0 : ∀ k, qBlock v = some k → k < w.heap.size := fun k hk => (h.row.lt hk).2
  have HQ0 := Lib.hid hq0
  obtain ⟨x0, x1, x2, x3⟩ := h.blk.four'
  generalize decide (sent = 0) = st at *
  clear hF h hsd hlt hq0
  go_enter Tryz.func28, Tryz.ntmps28
  go_wp2
  have hs0 : ChkAt w base g cap next st (qBlock v) sdus sent [] false none 0 [] v vs ((w.alloc (.cells #[.bool false, .bool false, .slice none 0 0] 76)).alloc (.cells #[.bool st, .bool false, .slice none 0 0] 76)) := by
    have bb := Blk.new (w.alloc (.cells #[.bool false, .bool false, .slice none 0 0] 76)) 76 #[.bool st, .bool false, .slice none 0 0]
    rw [World.size_alloc] at bb
    exact ⟨bb, (Blk.new w 76 #[.bool false, .bool false, .slice none 0 0]).alloc _, World.ownsRow_nil _ _ _ _, fun j q hj => by simp at hj, (HH.out.alloc _).alloc _, rfl, ((Kept.refl _ w).alloc _).alloc _⟩
  generalize (w.alloc (.cells #[.bool false, .bool false, .slice none 0 0] 76)).alloc (.cells #[.bool st, .bool false, .slice none 0 0] 76) = w0 at *
  go_loopg [6] sdus.length (fun gk s6 wr => ChkRel w base g cap next st (qBlock v) n FIN gk s6 wr)
  case atStart => exact ⟨sdus, sent, [], false, 0, none, 0, [], v, vs, rfl, rfl, hs0, by rw [HF.out]; rfl, by omega, by simp, HSD.out, HLT.out⟩
  case round =>
    obtain ⟨sr, tr, qs, e, size, Ap, cp, vl, vr, vsr, rfl, hgk, hC, hfin, hsz, hq64, hsd, hlt⟩ := hrel
    have HGK := Lib.hid hgk
    have HC := Lib.hid hC
    have HSD1 := Lib.hid hsd
    have HLT1 := Lib.hid hlt
    clear hgk hs0 hsd hlt HSD HLT
    obtain ⟨y0, y1, y2, y3⟩ := hC.snd.blk.four'
    obtain ⟨z0, z1, z2⟩ := hC.blk.three_
    obtain ⟨r0, r1, r2⟩ := hC.res.three_
    have f0 := hC.res.frozen 0
    have f1 := hC.res.frozen 1
    have f2 := hC.res.frozen 2
    cases sr with
    | nil =>
      have hR : FIN = (qs, e, [], tr) := by rw [hfin]; simp [chk]
      have HR := Lib.hid hR
      obtain ⟨A, c, rfl, hs⟩ := hC.snd.row.sl
      clear hfin hR hs hC
      simp only [List.length_nil] at y0
      go_wp2
      obtain ⟨p0, p1, p2⟩ := HC.out.res.put3_cells (.bool st) (.bool e) (.slice Ap qs.length cp)
      refine bodyPost_ret (v := .agg #[.bool st, .bool e, .slice Ap qs.length cp]) (by simp [results, Tryz.results28, go_sem, p0, p1, p2]) rfl ?_
      rw [HR.out]
      exact HC.out.out HQ0.out _ _ _
    | cons x rest =>
      have hx := HSD1.out x (by simp)
      have hlx := HLT1.out x rest rfl
      simp only [List.length_cons] at hfin
      rw [show rest.length + 1 + 1 = (rest.length + 1) + 1 from rfl, chk] at hfin
      have HFIN := Lib.hid hfin
      obtain ⟨A, c, rfl, hs⟩ := hC.snd.row.sl
      obtain ⟨L, hL⟩ : ∃ L, L = (x :: rest).length := ⟨_, rfl⟩
      have hL0 : 0 < L := by rw [hL]; simp
      rw [← hL] at y0
      have HL := Lib.hid hL
      clear hfin hs hL
      have hrow := hC.row
      have hpe := hC.parts
      clear hC
      by_cases h64 : qs.length = 64
      · have hR : FIN = (qs, e, x :: rest, tr) := by rw [HFIN.out, if_pos (.inl h64)]; simp
        have HR := Lib.hid hR
        have d64 : ((qs.length : Int) == 64) = true := by simp; omega
        clear hR h64
        go_wp2
        obtain ⟨p0, p1, p2⟩ := HC.out.res.put3_cells (.bool st) (.bool e) (.slice Ap qs.length cp)
        refine bodyPost_ret (v := .agg #[.bool st, .bool e, .slice Ap qs.length cp]) (by simp [results, Tryz.results28, go_sem, p0, p1, p2]) rfl ?_
        rw [HR.out]
        exact HC.out.out HQ0.out _ _ _
      have d64 : ((qs.length : Int) == 64) = false := by simp; omega
      have hq63 : qs.length ≤ 63 := by omega
      have H64 := Lib.hid h64
      by_cases hbig : 0 < qs.length ∧ 2047 < lastLen qs
      · have hR : FIN = (qs, e, x :: rest, tr) := by rw [HFIN.out, if_pos (.inr hbig)]; simp
        obtain ⟨q, hq⟩ : ∃ q, qs[qs.length - 1]? = some q := ⟨_, List.getElem?_eq_getElem (by omega)⟩
        have hlast : lastLen qs = q.length := by unfold lastLen; rw [List.getLast?_eq_getElem?, hq]; rfl
        obtain ⟨Aq, cq, hv, hsq⟩ := hpe.each _ q hq
        obtain ⟨ad, _, rfl, hadl, hg1, hg2⟩ := (own_sl' hrow).get (k := qs.length - 1) (by omega)
        rw [hv] at hg1
        cases hg1
        rw [hlast] at hbig
        obtain ⟨hb1, hb2⟩ := hbig
        have hcap := (own_sl' hrow).cap
        have hmx := (own_sl' hrow).mx
        have hcapq := hsq.cap
        have hmxq := hsq.mx
        have HR := Lib.hid hR
        have hd2 : decide ((2047 : Int) < q.length) = true := by simp; omega
        clear hR hq hlast hv hsq hrow hpe h64
        go_wp2
        obtain ⟨p0, p1, p2⟩ := HC.out.res.put3_cells (.bool st) (.bool e) (.slice (some ad) qs.length cp)
        refine bodyPost_ret (v := .agg #[.bool st, .bool e, .slice (some ad) qs.length cp]) (by simp [results, Tryz.results28, go_sem, p0, p1, p2]) rfl ?_
        rw [HR.out]
        exact HC.out.out HQ0.out _ _ _
      rw [if_neg (by rintro (h | h); exact H64.out h; exact hbig h)] at HFIN
      have hdec : decide ((0 : Int) < qs.length) = true → decide ((2047 : Int) < (lastLen qs)) = false := by simp; omega
      obtain ⟨room, hroom⟩ : ∃ room : Int, room = min (n - hdrN ((qs.length : Int) + 1)) 32767 - (size : Int) := ⟨_, rfl⟩
      rw [← hroom] at HFIN
      have hh := hdrN_bd ((qs.length : Int) + 1) (by omega) (by omega)
      have hhd := header_any ((qs.length : Int) + 1) 
      have HHD := Lib.hid hhd
      have HRM := Lib.hid hroom
      clear hhd hroom h64
      generalize hdrN ((qs.length : Int) + 1) = hd at *
      go_upto_region 5 with (fail)
      go_cut [7, 43] (fun s7 s43 wx => s7 = .int .i64 (qs.length : Nat) ∧ s43 = .bool false ∧ wx = wr)
      case first =>
        by_cases h0 : 0 < qs.length
        · obtain ⟨q, hq⟩ : ∃ q, qs[qs.length - 1]? = some q := ⟨_, List.getElem?_eq_getElem (by omega)⟩
          have hlast : lastLen qs = q.length := by unfold lastLen; rw [List.getLast?_eq_getElem?, hq]; rfl
          obtain ⟨Aq, cq, hv, hsq⟩ := hpe.each _ q hq
          obtain ⟨ad, _, rfl, hadl, hg1, hg2⟩ := (own_sl' hrow).get (k := qs.length - 1) (by omega)
          rw [hv] at hg1
          cases hg1
          rw [hlast] at hbig
          have hcap := (own_sl' hrow).cap
          have hmx := (own_sl' hrow).mx
          have hcapq := hsq.cap
          have hmxq := hsq.mx
          have hb2 : q.length ≤ 2047 := by
            rcases Nat.lt_or_ge 2047 q.length with h | h
            · exact absurd ⟨h0, h⟩ hbig
            · exact h
          have hd2 : decide ((2047 : Int) < q.length) = false := by simp; omega
          clear hq hlast hv hsq hrow hpe hbig hdec
          go_wp2
          go_meet
          exact ⟨rfl, rfl, rfl⟩
        · have h00 : qs.length = 0 := by omega
          have hd0 : decide ((0 : Int) < qs.length) = false := by rw [decide_eq_false_iff_not]; omega
          clear hbig hdec h0 hrow hpe
          go_wp2
          go_meet
          exact ⟨rfl, rfl, rfl⟩
      case rest =>
      obtain ⟨rfl, rfl, rfl⟩ := hcut
      clear hrow hpe hbig hdec
      go_upto_region 6 with (fail)
      go_cut [8] (fun s8 wx => s8 = .int .i64 room ∧ wx = wc)
      case first =>
        go_wp2_with fail
        refine (HHD.out _ ⟨by omega, by omega⟩).mono ?_
        rintro e1 w1 ⟨rfl, rfl⟩
        go_wp2_with fail
        all_goals
          go_meet
          exact ⟨by rw [HRM.out]; congr 1; omega, rfl⟩
      case rest =>
      obtain ⟨rfl, rfl⟩ := hcut
      have hrb : room ≤ 32767 - size ∧ -1000000 ≤ room := by have := HRM.out; omega
      by_cases hr1 : room < 1
      · have hR : FIN = (qs, e, x :: rest, tr) := by rw [HFIN.out, if_pos hr1]; simp
        have HR := Lib.hid hR
        clear hR
        go_wp2_with fail
        obtain ⟨p0, p1, p2⟩ := HC.out.res.put3_cells (.bool st) (.bool e) (.slice Ap qs.length cp)
        refine bodyPost_ret (v := .agg #[.bool st, .bool e, .slice Ap qs.length cp]) (by simp [results, Tryz.results28, go_sem, p0, p1, p2]) rfl ?_
        rw [HR.out]
        exact HC.out.out HQ0.out _ _ _
      rw [if_neg hr1] at HFIN
      obtain ⟨m, hm⟩ : ∃ m : Nat, room = m := ⟨room.toNat, by omega⟩
      subst hm
      rw [Int.toNat_natCast] at HFIN
      have hm1 : 1 ≤ m := by omega
      have hm2 : size + m ≤ 32767 := by omega
      clear hrb hr1 HRM HHD hh
      by_cases hend : tr + m < x.length
      · rw [if_pos hend] at HFIN
        have HTM : Hid (tr + m ≤ x.length) := Lib.hid (by omega)
        have htk := stake_more g base tr cap next m _ vsr x rest wc HC.out.snd hm1 hx.2 hend
        go_wp2_with fail
        refine htk.mono ?_
        rintro e1 w1 ⟨adx, cx, rfl, hx1, ⟨v', vs', hs1, hq1⟩, hk1⟩
        obtain ⟨b1, row1, hz1, rs1⟩ := HC.out.at1 hgl hk1
        obtain ⟨a0, a1, a2⟩ := b1.three_
        have hZ := Lib.hid hz1
        have hcap := (own_sl' row1).cap
        have hmx := (own_sl' row1).mx
        have HX1 := Lib.hid hx1
        have HS1 := Lib.hid hs1
        have HQ1 := Lib.hid hq1
        have HK1 := Lib.hid hk1
        have HPUSH := fun w2 A2 c2 ends => HC.out.push (w1 := w1) (w2 := w2) (m := m) (A2 := A2) (c2 := c2) (ends := ends) hgl HQ0.out hx1 hs1 hq1 hk1 hm1 HTM.out
        have HP := Lib.hid HPUSH
        clear hx1 hs1 hq1 hk1 HPUSH
        go_wp2_with (at_builtin; refine wpList_append_sl _ rfl (.tmp 63) (.tmp 65) 47 rfl w.heap.size 40 j0 (.slice none 0 0) 24 und22 hj0 hm0 hm1' hm2' rfl _ qs.length vl rfl (row1.alloc _) _ _ 1 1 [.slice (some (adx.add tr)) m m] rfl (sl_new0 w1 _ 40) ?c1 ?c2 ?c3 ?c4 ?_)
        case c1 => simp [Value.oneCell']
        case c2 => unfold maxLen; omega
        case c3 => omega
        case c4 => simp; omega
        intro v2 w2 hown2 hgrow2 _
        obtain ⟨A2, c2, rfl, hs2, _⟩ := own_sl hown2
        have b2 := (b1.alloc (.cells #[.slice (some (adx.add tr)) m m] 40)).grown hgrow2 (fun e => own_blk_ne row1 b1 (by decide) e.symm)
        have rs2 := (rs1.alloc (.cells #[.slice (some (adx.add tr)) m m] 40)).grown hgrow2 (fun e => own_blk_ne row1 rs1 (by decide) e.symm)
        obtain ⟨a3, a4, a5⟩ := b2.three_
        obtain ⟨a6, a7, a8⟩ := rs2.three_
        have g1 := b2.frozen 1
        have g2 := b2.frozen 2
        have g6 := rs2.frozen 0
        have g7 := rs2.frozen 1
        have g8 := rs2.frozen 2
        have hC3 := HP.out w2 A2 c2 false hown2 hgrow2
        have HC3 := Lib.hid hC3
        clear hC3 hs2 hown2 hgrow2 row1 b1 rs1 b2 rs2 f0 f1 f2 r0 r1 r2 z0 z1 z2 y0 y1 y2 y3 a0 a1 a2
        have hR : FIN = (qs ++ [(x.drop tr).take m], false, x :: rest, tr + m) := HFIN.out
        have HR := Lib.hid hR
        clear hR
        go_wp2
        obtain ⟨p0, p1, p2⟩ := HC3.out.res.put3_cells (.bool st) (.bool false) (.slice A2 (qs.length + 1) c2)
        refine bodyPost_ret (v := .agg #[.bool st, .bool false, .slice A2 (qs.length + 1) c2]) (by simp [results, Tryz.results28, go_sem, p0, p1, p2]) rfl ?_
        rw [HR.out]
        have hO := HC3.out.out HQ0.out (.bool st) (.bool false) (.slice A2 (qs.length + 1) c2)
        simp only [List.length_append, List.length_singleton] at hO
        exact hO
      · rw [if_neg hend] at HFIN
        obtain ⟨k, hk⟩ : ∃ k, k = x.length - tr := ⟨_, rfl⟩
        have HTM : Hid (tr + k ≤ x.length) := Lib.hid (by omega)
        have hk1' : 1 ≤ k := by omega
        have hkm : k ≤ m := by omega
        have htk := stake_end g base tr cap next m _ vsr x rest wc HC.out.snd (by omega) hx.2 hlx (by omega)
        rw [← hk] at htk HFIN
        have HKX := Lib.hid hk
        clear hk
        go_wp2_with fail
        refine htk.mono ?_
        rintro e1 w1 ⟨adx, cx, rfl, hx1, ⟨v', vs', hs1, hq1⟩, hk1⟩
        obtain ⟨b1, row1, hz1, rs1⟩ := HC.out.at1 hgl hk1
        obtain ⟨a0, a1, a2⟩ := b1.three_
        have hZ := Lib.hid hz1
        have hcap := (own_sl' row1).cap
        have hmx := (own_sl' row1).mx
        have HX1 := Lib.hid hx1
        have HS1 := Lib.hid hs1
        have HQ1 := Lib.hid hq1
        have HK1 := Lib.hid hk1
        have HPUSH := fun w2 A2 c2 ends => HC.out.push (w1 := w1) (w2 := w2) (m := k) (A2 := A2) (c2 := c2) (ends := ends) hgl HQ0.out hx1 hs1 hq1 hk1 hk1' HTM.out
        have HP := Lib.hid HPUSH
        clear hx1 hs1 hq1 hk1 HPUSH
        go_wp2_with (at_builtin; refine wpList_append_sl _ rfl (.tmp 63) (.tmp 65) 47 rfl w.heap.size 40 j0 (.slice none 0 0) 24 und22 hj0 hm0 hm1' hm2' rfl _ qs.length vl rfl (row1.alloc _) _ _ 1 1 [.slice (some (adx.add tr)) k k] rfl (sl_new0 w1 _ 40) ?c1 ?c2 ?c3 ?c4 ?_)
        case c1 => simp [Value.oneCell']
        case c2 => unfold maxLen; omega
        case c3 => omega
        case c4 => simp; omega
        intro v2 w2 hown2 hgrow2 _
        obtain ⟨A2, c2, rfl, hs2, _⟩ := own_sl hown2
        have b2 := (b1.alloc (.cells #[.slice (some (adx.add tr)) k k] 40)).grown hgrow2 (fun e => own_blk_ne row1 b1 (by decide) e.symm)
        have rs2 := (rs1.alloc (.cells #[.slice (some (adx.add tr)) k k] 40)).grown hgrow2 (fun e => own_blk_ne row1 rs1 (by decide) e.symm)
        obtain ⟨a3, a4, a5⟩ := b2.three_
        obtain ⟨a6, a7, a8⟩ := rs2.three_
        have g1 := b2.frozen 1
        have g2 := b2.frozen 2
        have g6 := rs2.frozen 0
        have g7 := rs2.frozen 1
        have g8 := rs2.frozen 2
        have hC3 := HP.out w2 A2 c2 true hown2 hgrow2
        have HC3 := Lib.hid hC3
        clear hC3 hs2 hown2 hgrow2 row1 b1 rs1 b2 rs2 f0 f1 f2 r0 r1 r2 z0 z1 z2 y0 y1 y2 y3 a0 a1 a2
        have hlen : (x.drop tr).length = k := by rw [List.length_drop]; exact HKX.out.symm
        have htake : (x.drop tr).take k = x.drop tr := List.take_of_length_le (by rw [hlen]; exact Nat.le_refl _)
        have HLEN := Lib.hid hlen
        have HTK := Lib.hid htake
        clear hlen htake
        go_wp2
        go_roundg rest.length
        case measure => rw [HGK.out]; simp
        case rel =>
          have hC4 := HC3.out
          rw [HTK.out] at hC4
          refine ⟨rest, 0, qs ++ [x.drop tr], true, size + k, A2, c2, vl ++ [.slice (some (adx.add tr)) k k], v', vs', by go_num, rfl, ?_, ?_, by omega, by simp; omega, fun s hs => HSD1.out s (by simp [hs]), fun y r hy => ?_⟩
          · simpa using hC4
          · rw [HFIN.out, lastLen_snoc, HLEN.out]
            simp
          · have := HSD1.out y (by simp [hy])
            omega
end Go.Proofs.YtbjajboodohabaaGreat
