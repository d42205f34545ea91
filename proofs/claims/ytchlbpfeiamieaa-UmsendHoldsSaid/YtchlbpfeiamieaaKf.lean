/- law31: UmsendHolds. -/
import Derived.Test.YtchlbpfeiamieaaKe
import Derived.Test.YtchlbpfeiamieaaNa
import Derived.Deep.RegionHeld3
namespace Go.Proofs.Ytchlbpfeiamieaa
open Go.RowKit Go.Shelf
attribute [local go_sem] Oper.semAt_some

/-- the SDUs that were accepted, in the caller's memory -/
def Noted (w : World) (v7 : List Value) (sd : List (List UInt8)) : Prop := ∀ (i : Nat) (p : List UInt8), sd[i]? = some p → ∃ A c, v7[i]? = some (.slice A p.length c) ∧ Sl w w.heap.size A p.length c (bvs p)
theorem Noted.snoc {w : World} {v7 : List Value} {sd : List (List UInt8)} {A : Option Addr} {c : Nat} {p : List UInt8} (h : Noted w v7 sd) (hl : v7.length = sd.length) (hs : Sl w w.heap.size A p.length c (bvs p)) : Noted w (v7 ++ [.slice A p.length c]) (sd ++ [p]) := by
  intro i q hi
  rcases Nat.lt_or_ge i sd.length with hlt | hge
  · rw [List.getElem?_append_left hlt] at hi
    obtain ⟨A', c', e, ho⟩ := h i q hi
    exact ⟨A', c', by rw [List.getElem?_append_left (by omega)]; exact e, ho⟩
  · have hi0 : i = sd.length := by
      have := (List.getElem?_eq_some_iff.1 hi).1
      simp at this
      omega
    subst hi0
    simp at hi
    subst hi
    exact ⟨A, c, by rw [← hl]; simp, hs⟩
theorem Mem.sls7 {w : World} {cap next : Nat} {left : List (List UInt8)} {sent : Nat} {v : Value} {vs : List Value} {s7 : Value} {sd : List (List UInt8)} {v7 : List Value} {s8 : Value} {gt : List (List UInt8)} {v8 : List Value} {s9 : Value} {op : List UInt8} {wr : World}
    (h : Mem w cap next left sent v vs s7 sd v7 s8 gt v8 s9 op wr) (hn : Noted w v7 sd) : ∃ A c, s7 = .slice A sd.length c ∧ Sls wr wr.heap.size A sd.length c v7 sd := by
  obtain ⟨A, c, rfl, hs, _⟩ := own_sl h.r7
  refine ⟨A, c, rfl, hs, rfl, fun i p hi => ?_⟩
  obtain ⟨A', c', e, ho⟩ := hn i p hi
  exact ⟨A', c', e, (ho.below h.bel).more h.bel.size⟩
theorem Mem.sls8 {w : World} {cap next : Nat} {left : List (List UInt8)} {sent : Nat} {v : Value} {vs : List Value} {s7 : Value} {sd : List (List UInt8)} {v7 : List Value} {s8 : Value} {gt : List (List UInt8)} {v8 : List Value} {s9 : Value} {op : List UInt8} {wr : World}
    (h : Mem w cap next left sent v vs s7 sd v7 s8 gt v8 s9 op wr) : ∃ A c, s8 = .slice A gt.length c ∧ Sls wr wr.heap.size A gt.length c v8 gt := by
  obtain ⟨A, c, rfl, hs, _⟩ := own_sl h.r8
  refine ⟨A, c, rfl, hs, rfl, fun i p hi => ?_⟩
  obtain ⟨A', c', e, ho⟩ := h.e8 i p hi
  exact ⟨A', c', e, own_sl' ho⟩
/-- bounds of what was accepted -/
structure SdB (l : List ActV) (k : Nat) (sd : List (List UInt8)) : Prop where
  num : sd.length ≤ k
  sum : sumLen sd ≤ actLens (l.take k)
  each : ∀ s ∈ sd, 1 ≤ s.length ∧ s.length ≤ 9000
theorem add_struct (a : Addr) (m i : Nat) (hi : 0 < i) : (⟨(a.add m).block, (a.add m).off + i, none⟩ : Addr) = a.add (m + i) := by
  have hi0 : ¬ i = 0 := by omega
  by_cases hm : m = 0
  · subst hm
    simp [Addr.add, hi0]
  · have hmi : ¬ m + i = 0 := by omega
    simp [Addr.add, hm, hi0, Nat.add_assoc]
theorem actLens_le (l : List ActV) (k : Nat) : actLens (l.take k) ≤ actLens l := by
  have h : l = l.take k ++ l.drop k := (List.take_append_drop k l).symm
  unfold actLens
  conv => rhs; rw [h, List.map_append, List.sum_append]
  omega
theorem sumLen_app (a b : List (List UInt8)) : sumLen (a ++ b) = sumLen a + sumLen b := by simp [sumLen]
theorem SdB.same {l : List ActV} {k : Nat} {sd : List (List UInt8)} (h : SdB l k sd) {x : ActV} (hx : l[k]? = some x) : SdB l (k + 1) sd :=
  ⟨by have := h.num; omega, by have := h.sum; have := actLens_take l k x hx; omega, h.each⟩
theorem SdB.put {l : List ActV} {k : Nat} {sd : List (List UInt8)} (h : SdB l k sd) {x : ActV} (hx : l[k]? = some x) (h1 : 1 ≤ x.b.length) (h9 : x.b.length ≤ 9000) : SdB l (k + 1) (sd ++ [x.b]) :=
  ⟨by have := h.num; simp; omega, by have := h.sum; have := actLens_take l k x hx; rw [sumLen_app]; simp only [sumLen, List.map_cons, List.map_nil, List.sum_cons, List.sum_nil] at *; omega, fun s hs => by
    rw [List.mem_append] at hs
    rcases hs with hs | hs
    · exact h.each s hs
    · simp at hs; rw [hs]; exact ⟨h1, h9⟩⟩
theorem LawAt.bounds {sd gt left : List (List UInt8)} {op : List UInt8} {sm : Bool} {sent : Nat} (h : LawAt sd gt op sm left sent) {l : List ActV} {k : Nat} (hb : SdB l k sd) (hk : actLens l ≤ 12000) (hk60 : k ≤ 60) :
    sumLen left ≤ 12000 ∧ sent ≤ sumLen left ∧ left.length ≤ 60 ∧ sd.length ≤ 60 ∧ gt.length ≤ 60 ∧ (∀ s ∈ left, 1 ≤ s.length ∧ s.length ≤ 1000000) := by
  have h1 := hb.sum
  have h2 := actLens_le l k
  have h3 := h.le
  have h4 := hb.num
  have h5 : sumLen sd = sumLen gt + sumLen left := by rw [h.all, sumLen_app]
  refine ⟨by omega, ?_, by omega, by omega, by omega, fun s hs => ?_⟩
  · cases left with
    | nil => have := h.z rfl; omega
    | cons x r =>
      have := h.lt x r rfl
      have : x.length ≤ sumLen (x :: r) := mem_le_sumLen (by simp)
      omega
  · have := hb.each s (by rw [h.all]; simp [hs])
    omega
theorem app_b6 {w w8 : World} {t : TypeId} (hg : (w.alloc (.cells #[] t)).drew.grownBy w8 (Value.slice (some ⟨w.heap.size, 0, none⟩) 0 0).ownBlock) : Below w.heap.size w w8 :=
  (((Below.refl w.heap.size w).alloc (Nat.le_refl _) (.cells #[] t)).drew).grown hg (by simp) (fun g e => by
    have : w.heap.size = g := by simpa [Value.ownBlock] using e
    omega)
theorem app_b7 {w W w9 : World} {v8 : Value} {t : TypeId} {n : Nat} {xs : List Value} (hB : Below w.heap.size w W) (hown : W.ownsRow w.heap.size t 1 v8 n xs) (hg : W.grownBy w9 v8.ownBlock) : Below w.heap.size w w9 :=
  hB.grown hg hB.size (fun g e => by
    obtain ⟨_, _, _, h⟩ := own_isRow hown e
    exact h)
/-- what was encoded is decoded -/
def DecOut (w : World) (sn : Nat) (s e : Bool) (ps : List (List UInt8)) (en : Ending) (w' : World) : Prop :=
  ∃ vo, en = .returned (.tuple #[.agg #[.int .i64 sn, .bool s, .bool e, vo], .int .i64 0]) ∧ PartsOut w' w.heap.size vo ps ∧ Below w.heap.size w w'
theorem dec_any (A : Option Addr) (n c : Nat) (sn : Nat) (s e : Bool) (ps : List (List UInt8)) (w : World) (h : Sl w w.heap.size A n c (bvs (encU sn s e ps))) (hsm : n ≤ 1000000) (hsn : sn < 1024) (hv : ValidP ps) :
    Calls Try.prog 23 #[.slice A n c] w (DecOut w sn s e ps) := by
  refine (decode_any A n c _ w h hsm).mono ?_
  rw [dec_enc sn s e ps hsn hv]
  rintro e' w' ⟨hb, ⟨er, hx, _⟩ | ⟨sn', s', en', ps', vo, hx, rfl, hp⟩⟩
  · cases hx
  · cases hx
    exact ⟨vo, rfl, hp, hb⟩
/-- the relation of the inner loop -/
def InRel (w : World) (cap next : Nat) (left : List (List UInt8)) (sent : Nat) (v : Value) (vs : List Value) (s7 : Value) (sd : List (List UInt8)) (v7 : List Value) (gt : List (List UInt8)) (op : List UInt8) (sm : Bool) (ps : List (List UInt8)) (en : Bool) (base gp : Nat) (c0 c1 : Value) (vo : Value) (gj : Nat) (s8 s9 s11 s17 : Value) (wr : World) : Prop :=
  ∃ j g v8 op' sm', gj = ps.length - j ∧ j ≤ ps.length ∧ s17 = .int .i64 (j : Nat) ∧ s11 = .bool sm' ∧ JoinAt op sm ps en j g op' sm' ∧ g.length ≤ j ∧ op'.length ≤ op.length + sumLen (ps.take j) ∧ Mem w cap next left sent v vs s7 sd v7 s8 (gt ++ g) v8 s9 op' wr ∧ DecAt base vo ps s8 wr ∧ Blk wr gp 26 #[c0, c1, .bool en, vo]
/-- the law's relation at the head of a round -/
def LawRel (w : World) (cap : Nat) (l : List ActV) (n gk : Nat) (s7 s8 s9 s10 s11 s12 : Value) (wr : World) : Prop :=
  ∃ k next left sent v vs sd v7 gt v8 op sm, gk = n - k ∧ k ≤ n ∧ s12 = .int .i64 (k : Nat) ∧ s10 = .int .i64 (next : Nat) ∧ s11 = .bool sm ∧ next ≤ 1023 ∧ Mem w cap next left sent v vs s7 sd v7 s8 gt v8 s9 op wr ∧ Noted w v7 sd ∧ LawAt sd gt op sm left sent ∧ SdB l k sd

set_option maxRecDepth 100000 in
set_option maxHeartbeats 4000000 in
theorem umsendHolds_walk (cap : Int) (A : Option Addr) (n c : Nat) (l : List ActV) (w : World) (hcap : -9223372036854775808 ≤ cap ∧ cap ≤ 9223372036854775807) (h : SlA w w.heap.size A n c l) :
    Calls Try.prog 14 #[.int .i64 cap, .slice A n c] w (IsTrue w) := by
  obtain ⟨j0, hj0, hm0, hm1, hm2⟩ := info_parts sl_info
  obtain ⟨i0, hi, hz0, hz1, hz2⟩ := info_parts u8_info
  have hfew := sfew_any A n c l w h
  have hncap := h.cap
  have hmx := h.mx
  go_enter Try.func14, Try.ntmps14
  go_wp2_with fail
  refine hfew.mono ?_
  clear hfew
  rintro e0 w0 ⟨b, rfl, hb, rfl⟩
  cases b with
  | false =>
    go_wp2_with (go_at_call 57; refine (sworks_any _).mono ?_; rintro e1 w1 ⟨rfl, hb1⟩)
    go_ret
    exact ⟨rfl, hb1⟩
  | true =>
    obtain ⟨hf1, hf2, hf3⟩ := hb rfl
    have hlen := h.len
    by_cases hcv : cap < 1 ∨ 1048576 < cap
    · have hnb := snew_bad cap w hcv
      go_wp2_with (first | (go_at_call 58; refine hnb.mono ?_; rintro e1 w1 ⟨rfl, rfl⟩) | (go_at_call 59; refine (numS_any _ _).mono ?_; rintro e1 w1 ⟨rfl, rfl⟩) | (go_at_call 57; refine (sworks_any _).mono ?_; rintro e1 w1 ⟨rfl, hb1⟩))
      go_ret
      exact ⟨rfl, hb1⟩
    obtain ⟨cp, rfl⟩ := Int.eq_ofNat_of_zero_le (show 0 ≤ cap by omega)
    have hnk := snew_ok cp w (by omega) (by omega)
    go_wp2_with (first | (go_at_call 58; refine hnk.mono ?_; rintro e1 w1 ⟨rfl, hs1, hb1⟩) | (go_at_call 59; refine (numS_any _ _).mono ?_; rintro e1 w1 ⟨rfl, rfl⟩))
    clear hnk
    have HB1 := Lib.hid hb1
    have HS1 := Lib.hid hs1
    have HSL := Lib.hid h
    have HLEN := Lib.hid hlen
    have HF3 := Lib.hid hf3
    have HF2 := Lib.hid hf2
    have hn60 : n ≤ 60 := by omega
    clear hb1 hs1 h hlen hf3 hf2 hb hf1
    go_loopg [7, 8, 9, 10, 11, 12] n (fun gk s7 s8 s9 s10 s11 s12 wr => LawRel w cp l n gk s7 s8 s9 s10 s11 s12 wr)
    case atStart =>
      exact ⟨0, 0, [], 0, _, _, [], [], [], [], [], false, by omega, Nat.zero_le _, rfl, rfl, rfl, by omega, ⟨HS1.out, World.ownsRow_nil _ _ _ _, World.ownsRow_nil _ _ _ _, fun i p hi => by simp at hi, World.ownsRow_nil _ _ _ _, fun k hk => by simp [qBlock] at hk, fun k hk => by simp [qBlock] at hk, fun k hk => by simp [Value.ownBlock] at hk, HB1.out⟩, fun i p hi => by simp at hi, lawAt_nil, ⟨by simp, by simp [sumLen], by simp⟩⟩
    case round =>
      obtain ⟨k, next, left, sent, v, vs, sd, v7, gt, v8, op, sm, hgk, hkn, rfl, rfl, rfl, hnx, hM, hN, hL, hB⟩ := hrel
      have HGK := Lib.hid hgk
      have HM := Lib.hid hM
      have HN := Lib.hid hN
      have HL := Lib.hid hL
      have HBB := Lib.hid hB
      clear hgk hM hN hL hB HS1 HB1
      by_cases hlt : k < n
      · obtain ⟨hsum, hsent, hll, hsdl, hgtl, hleft⟩ := HL.out.bounds HBB.out HF3.out (by omega)
        obtain ⟨ad, x, rfl, hadl, hx, h1, h2, h3, h4, hk1, hk2⟩ := (HSL.out.below HM.out.bel).get hlt
        have hcx := h4.cap
        have hmxx := h4.mx
        have hsb := submits_any x.A x.b.length x.c x.e x.k wr hcx hmxx
        have HSB := Lib.hid hsb
        have HX := Lib.hid hx
        have HX2 := Lib.hid (HF2.out x (List.mem_of_getElem? hx))
        have hd1 := h2
        have hd2 := h3
        rw [← add_struct ad (k * 3) 1 (by omega)] at hd1
        rw [← add_struct ad (k * 3) 2 (by omega)] at hd2
        clear h4 hsb hx hleft
        go_wp2_with fail
        refine HSB.out.mono ?_
        rintro e2 w2 ⟨rfl, hb2⟩
        have HM2 := Lib.hid (HM.out.more hb2)
        obtain ⟨ad', x', hh, hadl', hx', g1, g2, g3, g4, _, _⟩ := (HSL.out.below HM2.out.bel).get hlt
        cases hh
        rw [HX.out] at hx'
        cases hx'
        have HS4 := Lib.hid (g4.more HM2.out.bel.size)
        clear g4 h1 h2 h3 hd1 hd2 hb2 HSB HM
        cases hsub : (decide (0 < x.b.length) || x.e) with
        | true =>
          by_cases hbad : x.b.length = 0 ∨ 9000 < x.b.length
          · have hsu := ssubmit_size w.heap.size w.heap.size sent cp next v vs left x.A x.b.length x.c w2 HM2.out.snd (by omega) hbad hcx hmxx
            have HSU := Lib.hid hsu
            clear hsu hbad hsub
            go_wp2_with (first | (go_at_call 61; refine HSU.out.mono ?_; rintro e3 w3 ⟨rfl, rfl⟩) | (go_at_call 59; refine (numS_any _ _).mono ?_; rintro e1 w1 ⟨rfl, rfl⟩))
            go_roundg (n - (k + 1))
            case measure => rw [HGK.out]; omega
            case rel => exact ⟨k + 1, next, left, sent, v, vs, sd, v7, gt, v8, op, sm, rfl, by omega, by go_num, rfl, rfl, hnx, HM2.out, HN.out, HL.out, HBB.out.same HX.out⟩
          by_cases hfull : cp + sent < sumLen left + x.b.length
          · have hsu := ssubmit_full w.heap.size w.heap.size sent cp next v vs left x.A x.b.length x.c w2 HM2.out.snd (by omega) (by omega) (by omega) hcx hmxx (by omega) hsent (by omega) hfull
            have HSU := Lib.hid hsu
            clear hsu hbad hsub hfull
            go_wp2_with (first | (go_at_call 61; refine HSU.out.mono ?_; rintro e3 w3 ⟨rfl, hd3⟩; have hb3 := hd3.below w2.heap.size) | (go_at_call 59; refine (numS_any _ _).mono ?_; rintro e1 w1 ⟨rfl, rfl⟩))
            go_roundg (n - (k + 1))
            case measure => rw [HGK.out]; omega
            case rel => exact ⟨k + 1, next, left, sent, v, vs, sd, v7, gt, v8, op, sm, rfl, by omega, by go_num, rfl, rfl, hnx, HM2.out.more hb3, HN.out, HL.out, HBB.out.same HX.out⟩
          have hsu := ssubmit_ok w.heap.size w.heap.size sent cp next v vs left x.A x.b.length x.c x.b w2 HM2.out.snd HS4.out (by omega) (by omega) (by omega) (by omega) hsent (by omega) (by omega) (by omega) HM2.out.bel.size
          have HSU := Lib.hid hsu
          have hx1 : 1 ≤ x.b.length := by omega
          have hx9 : x.b.length ≤ 9000 := by omega
          clear hsu hbad hsub hfull
          go_wp2_with fail
          refine HSU.out.mono ?_
          rintro e3 w3 ⟨rfl, v', vs', hs3, hk3, hq3⟩
          have hM3 := HM2.out.turn hs3 hk3 hq3
          obtain ⟨ad', x', hh, hadl', hx', g1', g2', g3', g4', _, _⟩ := (HSL.out.below hM3.bel).get hlt
          cases hh
          rw [HX.out] at hx'
          cases hx'
          have HM3 := Lib.hid hM3
          have HO := Lib.hid ((HSL.out.get hlt))
          clear hs3 hk3 hq3 hM3 g1 g2 g3 g4'
          go_wp2_with (first | (go_at_call 59; refine (numS_any _ _).mono ?_; rintro e1 w1 ⟨rfl, rfl⟩) | (at_builtin; refine wpList_append_sl _ rfl (.tmp 53) (.tmp 59) 22 rfl w.heap.size 29 j0 (.slice none 0 0) 24 und22 hj0 hm0 hm1 hm2 rfl _ sd.length v7 rfl (HM3.out.r7.alloc _) _ _ 1 1 [.slice x.A x.b.length x.c] rfl (sl_new0 w3 _ 29) ?c1 ?c2 ?c3 ?c4 ?_))
          case c1 => simp [Value.oneCell']
          case c2 => unfold maxLen; omega
          case c3 => omega
          case c4 => have := HM3.out.bel.size; simp; omega
          intro s7' w4 hown4 hgrow4 hb4
          go_wp2
          go_roundg (n - (k + 1))
          case measure => rw [HGK.out]; omega
          case rel =>
            obtain ⟨ad', x', hh, hadl', hx', g1, g2, g3, g4, _, _⟩ := HO.out
            cases hh
            rw [HX.out] at hx'
            cases hx'
            exact ⟨k + 1, next, left ++ [x.b], sent, v', vs', sd ++ [x.b], v7 ++ [.slice x.A x.b.length x.c], gt, v8, op, sm, rfl, by omega, by go_num, rfl, rfl, hnx, HM3.out.push7 (p := x.b) hown4 hgrow4 (by simpa using hb4), HN.out.snoc (by simpa using HM3.out.r7.1) g4, HL.out.put hx1, HBB.out.put HX.out hx1 hx9⟩
        | false =>
          by_cases hneg : x.k < 0 ∨ (chk x.k (left.length + 1) left sent 0 0 0 false).1 = []
          · have hgr : ∃ er, Calls Try.prog 62 #[.pointer (some ⟨w.heap.size, 0, none⟩), .int .i64 x.k] w2 (GrantOut w2 w.heap.size w.heap.size v cp [] er left sent next) := by
              by_cases hn0 : x.k < 0
              · exact ⟨2, sgrant_neg w.heap.size w.heap.size sent cp next x.k v vs left w2 HM2.out.snd (by omega) hn0⟩
              · obtain ⟨_, _, _, _, _, hleft⟩ := HL.out.bounds HBB.out HF3.out (by omega)
                exact ⟨0, sgrant_none w.heap.size w.heap.size sent cp next x.k v vs left w2 HM2.out.snd (by omega) (by omega) hk2 hleft HL.out.lt HL.out.z (hneg.resolve_left hn0)⟩
            obtain ⟨er, hgr⟩ := hgr
            have gd2 := g3
            rw [← add_struct ad (k * 3) 2 (by omega)] at gd2
            have HG := Lib.hid hgr
            clear hgr hneg hsub
            go_wp2_with fail
            refine HG.out.mono ?_
            rintro e3 w3 ⟨vb, v', vs', rfl, hvb, hs3, hq3, hk3⟩
            obtain ⟨Ab, cb, rfl, hsb, _⟩ := own_sl hvb
            have hcb := hsb.cap
            have hmb := hsb.mx
            dsimp only [List.length_nil] at hcb
            have HM3 := Lib.hid (HM2.out.turn hs3 (hk3.mono fun k o e => .inl e) (fun k hk => .inl (by rw [← hq3]; exact hk)))
            clear hvb hs3 hq3 hk3 hsb
            dsimp only [List.length_nil]
            go_wp2
            go_roundg (n - (k + 1))
            case measure => rw [HGK.out]; omega
            case rel => exact ⟨k + 1, next, left, sent, v', vs', sd, v7, gt, v8, op, sm, rfl, by omega, by go_num, rfl, rfl, hnx, HM3.out, HN.out, HL.out, HBB.out.same HX.out⟩
          obtain ⟨hkn0, hne⟩ : 0 ≤ x.k ∧ (chk x.k (left.length + 1) left sent 0 0 0 false).1 ≠ [] := by
            refine ⟨?_, fun e => hneg (.inr e)⟩
            rcases Int.lt_or_le x.k 0 with e | e
            · exact absurd (.inl e) hneg
            · exact e
          obtain ⟨_, _, _, _, _, hleft⟩ := HL.out.bounds HBB.out HF3.out (by omega)
          obtain ⟨R, hR⟩ : ∃ R, chk x.k (left.length + 1) left sent 0 0 0 false = R := ⟨_, rfl⟩
          rw [hR] at hne
          have hgr := sgrant_ok w.heap.size w.heap.size sent cp next x.k v vs left w2 HM2.out.snd (by omega) hnx hkn0 hk2 hleft HL.out.lt HL.out.z R hR hne
          have hok := chk_ok x.k (left.length + 1) left sent 0 0 0 false (fun s hs => (hleft s hs).1) HL.out.lt HL.out.z
          have hvp := chk_valid x.k (left.length + 1) left sent false (fun s hs => (hleft s hs).1) HL.out.lt (by rw [hR]; exact hne)
          rw [hR] at hok hvp
          obtain ⟨g', op', sm', hjoin, hL'⟩ := HL.out.grant hok hne
          obtain ⟨ps, en, left', sent'⟩ := R
          dsimp only at hgr hvp hjoin hL'
          have hst : (decide (sent = 0) == sm) = false := by rw [HL.out.sm]; rcases Nat.eq_zero_or_pos sent with e | e <;> simp [e] <;> omega
          generalize decide (sent = 0) = st at *
          have hel := encU_length_hdr next st en ps hvp.lo hvp.hi
          have hhd := hdrN_bd ps.length (by have := hvp.lo; omega) (by have := hvp.hi; omega)
          have hpl := hvp.lo
          have hph := hvp.hi
          have hps := hvp.sum
          have hop : op.length ≤ 1000000 := by
            rw [HL.out.op, List.length_take]
            cases left with
            | nil => simp
            | cons a r => have := (hleft a (by simp)).2; simp; omega
          have he1 : 1 ≤ (encU next st en ps).length := by
            have hsp : 1 ≤ sumLen ps := by
              obtain ⟨p, hp⟩ := List.exists_mem_of_length_pos (show 0 < ps.length by omega)
              have := mem_le_sumLen hp
              have := hvp.pos p hp
              omega
            omega
          have he2 : (encU next st en ps).length ≤ 1000000 := by omega
          have hdec := fun (w3 : World) A3 c3 hsl => dec_any A3 (encU next st en ps).length c3 next st en ps w3 hsl he2 (by omega) hvp
          have HDEC := Lib.hid hdec
          have HG := Lib.hid hgr
          have HJ := Lib.hid hjoin
          have HL' := Lib.hid hL'
          have gd2 := g3
          rw [← add_struct ad (k * 3) 2 (by omega)] at gd2
          clear hdec hgr hjoin hL' hneg hsub hR hne hok hleft hel hhd hvp
          generalize encU next st en ps = E at *
          go_wp2_with fail
          refine HG.out.mono ?_
          rintro e3 w3 ⟨vb, v', vs', rfl, hvb, hs3, hq3, hk3⟩
          obtain ⟨Ab, cb, rfl, hsb, _⟩ := own_sl hvb
          have hcb := hsb.cap
          have hmb := hsb.mx
          have HM3 := Lib.hid (HM2.out.turn hs3 (hk3.mono fun k o e => .inl e) (fun k hk => .inl (by rw [← hq3]; exact hk)))
          have HD3 := Lib.hid (HDEC.out w3 Ab cb hsb)
          have hel0 : ((E.length : Int) == 0) = false := by simp; intro e; rw [e] at he1; simp at he1
          clear hvb hs3 hq3 hk3 hsb HDEC HG
          go_wp2_with fail
          refine HD3.out.mono ?_
          rintro e4 w4 ⟨vo, rfl, hpo, hb4⟩
          have bp := Blk.new w4 26 #[.int .i64 (next : Int), .bool st, .bool en, vo]
          have hb4' := hb4.alloc hb4.size (.cells #[.int .i64 (next : Int), .bool st, .bool en, vo] 26)
          have hpo' := hpo.below ((Below.refl w4.heap.size w4).alloc (Nat.le_refl _) (.cells #[.int .i64 (next : Int), .bool st, .bool en, vo] 26)) (Nat.le_refl _)
          have HM4 := Lib.hid (HM3.out.more hb4')
          have hDA : DecAt w3.heap.size vo ps u8 (w4.alloc (.cells #[.int .i64 (next : Int), .bool st, .bool en, vo] 26)) := ⟨hpo', fun k hk h8 => by
            have h1 := (hpo.lt hk).1
            have h2 := (HM3.out.r8.lt k h8).2
            omega⟩
          have HDA := Lib.hid hDA
          have HBP := Lib.hid bp
          obtain ⟨b0, b1, b2, b3⟩ := bp.four'
          obtain ⟨Avo, cvo, _, hvo, _⟩ := hpo.sls
          subst hvo
          have hgp : w.heap.size < w4.heap.size := by have := HM3.out.snd.blk.lt; have := hb4.size; omega
          clear hb4 hb4' hpo hpo' hDA bp HM3 HD3
          go_wp2_with (go_at_call 59; refine (numS_any _ _).mono ?_; rintro e1 w1 ⟨rfl, rfl⟩)
          generalize w4.alloc (.cells #[.int .i64 (next : Int), .bool st, .bool en, .slice Avo ps.length cvo] 26) = w5 at *
          generalize w4.heap.size = gp at *
          generalize w3.heap.size = base at *
          clear b0 b1 b2 b3
          go_loopg [8, 9, 11, 17] ps.length (fun gj s8 s9 s11 s17 wr => InRel w cp ((next + 1) % 1024) left' sent' v' vs' u7 sd v7 gt op sm ps en base gp (.int .i64 (next : Int)) (.bool st) (.slice Avo ps.length cvo) gj s8 s9 s11 s17 wr)
          case atStart => exact ⟨0, [], v8, op, sm, by omega, by omega, rfl, rfl, joinAt_zero _ _ _ _, by simp, by omega, by simpa using HM4.out, HDA.out, HBP.out⟩
          case round =>
            obtain ⟨wo, rfl⟩ : ∃ wo : World, wo = wr := ⟨_, rfl⟩
            obtain ⟨j, g, v8j, opj, smj, hgj, hjn, rfl, rfl, hJA, hgl, hol, hM5, hD5, bp5⟩ := hrel
            have HGJ := Lib.hid hgj
            have HJA := Lib.hid hJA
            have HM5 := Lib.hid hM5
            have HD5 := Lib.hid hD5
            have HB5 := Lib.hid bp5
            obtain ⟨b0, b1, b2, b3⟩ := bp5.four'
            obtain ⟨Av2, cv2, vps, hve, hsl5⟩ := hD5.1.sls
            cases hve
            clear hgj hJA hD5 hM5 bp5 HM4 HDA HBP
            have hcv := hsl5.sl.cap
            have hmv := hsl5.sl.mx
            by_cases hlt2 : j < ps.length
            · obtain ⟨adv, Ai, ci, rfl, hadv, hcj, hsj⟩ := hsl5.get hlt2
              have hpj : ps[j]? = some (ps[j]?.getD []) := by rw [List.getElem?_eq_getElem hlt2]; rfl
              have hoj : opj.length + (ps[j]?.getD []).length ≤ op.length + sumLen (ps.take (j + 1)) := by rw [sumLen_take ps j hlt2]; omega
              have hsz := sumLen_take_le ps (j + 1)
              generalize ps[j]?.getD [] = p at *
              obtain ⟨A9, c9, rfl, hs9, _⟩ := own_sl HM5.out.r9
              have HPJ := Lib.hid hpj
              have HSJ := Lib.hid hsj
              have HS9 := Lib.hid hs9
              have hgpl : gp < wo.heap.size := HB5.out.lt
              clear hpj hsj hs9 hsl5
              go_upto_region 24 with (fail)
              have hadvW : (adv.add j).block < wo.drew.heap.size := by rw [block_add]; exact hadv
              have hgpW : gp < wo.drew.heap.size := hgpl
              have hji : (0 : Int) ≤ (j : Int) := by omega
              have hjl : (j : Int) < (ps.length : Int) := by omega
              go_cut [9, 11] (fun s9 s11 wx => s11 = .bool true ∧ wx.ownsRow w.heap.size 5 1 s9 (opj ++ p).length (bvs (opj ++ p)) ∧ Below wo.heap.size wo wx)
              case first =>
                go_region_held3 (fun w' => w'.cell? ⟨gp, 3, none⟩ = some (.slice (some adv) ps.length cvo) ∧ w'.cell? (adv.add j) = some (.slice Ai p.length ci))
                  (first | (exact ⟨(hb6.cell (p := ⟨gp, 3, none⟩) hgpW).trans b3, (hb6.cell (p := adv.add j) hadvW).trans hcj⟩) | (exact ⟨(hb7.cell (p := ⟨gp, 3, none⟩) hgpW).trans b3, (hb7.cell (p := adv.add j) hadvW).trans hcj⟩) | go_keep)
                  (first
                    | (refine step_append_sl _ (by rfl) _ _ 29 (by rfl) wo.heap.size 5 i0 (.int .u8 0) 1 und29 hi hz0 hz1 hz2 rfl (.slice (some ⟨wo.heap.size, 0, none⟩) 0 0) 0 [] (by rfl) (World.ownsRow.drew' (World.ownsRow_lit wo #[] 0 (Nat.le_refl _) (by unfold maxLen; omega) rfl)) wo.heap.size A9 opj.length c9 (bvs opj) (by rfl) ((HS9.out.alloc (Nat.le_refl _) _).drew) (one_bvs _) (by unfold maxLen; omega) (by omega) (by simp; try omega) ?_
                       intro v6 w6 hown6 hgrow6 hat6
                       simp only [Nat.zero_add, List.nil_append] at hown6
                       have hb6 : Below wo.heap.size wo w6 := app_b6 hgrow6
                       clear hat6)
                    | (refine step_append_sl _ (by rfl) _ _ 29 (by rfl) wo.heap.size 5 i0 (.int .u8 0) 1 und29 hi hz0 hz1 hz2 rfl v6 opj.length (bvs opj) (by rfl) (by exact hown6) w6.heap.size Ai p.length ci (bvs p) (by rfl) (by exact (HSJ.out.below hb6).more hb6.size) (one_bvs _) (by unfold maxLen; omega) (by omega) (by have := hb6.size; first | exact this | (simp; omega)) ?_
                       intro v7' w7 hown7 hgrow7 hat7
                       have hb7 : Below wo.heap.size wo w7 := app_b7 hb6 hown6 hgrow7
                       clear hat7))
                all_goals
                  go_wp2_with fail
                  go_meet
                  refine ⟨rfl, ?_, hb7⟩
                  have hba : bvs (opj ++ p) = bvs opj ++ bvs p := by simp [bvs]
                  rw [hba, List.length_append]
                  exact own_base hown7 HM5.out.bel.size
              case rest =>
                obtain ⟨rfl, h9, hbx⟩ := hcut
                obtain ⟨oq, hoq⟩ : ∃ oq, oq = opj ++ p := ⟨_, rfl⟩
                have hoql : oq.length ≤ op.length + sumLen (ps.take (j + 1)) := by rw [hoq, List.length_append]; exact hoj
                rw [← hoq] at h9
                have HOQ := Lib.hid hoq
                clear hoq
                have HM6 := Lib.hid ((HM5.out.more hbx).set9 h9)
                have HD6 := Lib.hid (HD5.out.more hbx)
                have HB6 := Lib.hid (HB5.out.below hbx HB5.out.lt)
                obtain ⟨d0, d1, d2, d3⟩ := HB6.out.four'
                obtain ⟨A6, c6, rfl, hs6, _⟩ := own_sl h9
                clear h9 hbx HM5 HD5 HB5 HSJ HS9 hcj b0 b1 b2 b3 hs6 hadv hadvW hgpW hgpl
                have hgtl' : (gt ++ g).length ≤ 1000 := by rw [List.length_append]; omega
                go_upto_region 25 with (fail)
                go_cut [127] (fun sb wx => sb = .bool (decide (j + 1 < ps.length) || en) ∧ wx = wc)
                case first =>
                  by_cases hj1 : j + 1 < ps.length
                  · have hj2 : (j : Int) + 1 < (ps.length : Int) := by omega
                    have hd : (decide (j + 1 < ps.length) || en) = true := by simp [hj1]
                    have HDD := Lib.hid hd
                    clear hd hj1
                    go_wp2_with fail
                    go_meet
                    exact ⟨by rw [HDD.out], rfl⟩
                  · have hj2 : ¬ (j : Int) + 1 < (ps.length : Int) := by omega
                    have hd : (decide (j + 1 < ps.length) || en) = en := by simp [hj1]
                    have HDD := Lib.hid hd
                    clear hd hj1
                    go_wp2_with fail
                    go_meet
                    exact ⟨by rw [HDD.out], rfl⟩
                case rest =>
                  obtain ⟨rfl, rfl⟩ := hcut
                  cases hcc : (decide (j + 1 < ps.length) || en) with
                  | true =>
                    have hcc' : j + 1 < ps.length ∨ en = true := by simpa using hcc
                    have HCC := Lib.hid hcc'
                    have hr8 := HM6.out.r8
                    clear hcc hcc'
                    go_wp2_with (at_builtin; refine wpList_append_sl _ rfl (.tmp 128) (.tmp 130) 22 rfl w.heap.size 29 j0 (.slice none 0 0) 24 und22 hj0 hm0 hm1 hm2 rfl _ (gt ++ g).length v8j rfl (hr8.alloc _) _ _ 1 1 [.slice A6 oq.length c6] rfl (sl_new0 wc _ 29) ?c1 ?c2 ?c3 ?c4 ?_)
                    case c1 => simp [Value.oneCell']
                    case c2 => unfold maxLen; omega
                    case c3 => omega
                    case c4 => have := HM6.out.bel.size; simp; omega
                    intro s8' w8 hown8 hgrow8 hb8
                    go_wp2
                    go_roundg (ps.length - (j + 1))
                    case measure => rw [HGJ.out]; omega
                    case rel =>
                      have hM8 := HM6.out.push8 (A := A6) (c := c6) rfl (by simpa using hown8) hgrow8 (by simpa using hb8)
                      rw [List.append_assoc] at hM8
                      have hjc := joinAt_cut HJA.out HPJ.out HCC.out
                      rw [← HOQ.out] at hjc
                      exact ⟨j + 1, g ++ [oq], _, [], false, rfl, by omega, by go_num, rfl, hjc, by simp; omega, by simp, hM8, HD6.out.push8 HM6.out.r8 hgrow8 (by simpa using hb8), (HB6.out.alloc _).grown hgrow8 (fun e => own_blk_ne HM6.out.r8 HB6.out (by decide) e.symm)⟩
                  | false =>
                    have hcc' : ¬ j + 1 < ps.length ∧ en = false := by simpa using hcc
                    have HCC := Lib.hid hcc'
                    clear hcc hcc'
                    go_wp2_with fail
                    go_roundg (ps.length - (j + 1))
                    case measure => rw [HGJ.out]; omega
                    case rel =>
                      obtain ⟨hc1, hc2⟩ := HCC.out
                      have hJ := HJA.out
                      rw [hc2] at hJ
                      refine ⟨j + 1, g, v8j, oq, true, rfl, by omega, by go_num, rfl, ?_, by omega, hoql, HM6.out, HD6.out, HB6.out⟩
                      rw [hc2, HOQ.out]
                      exact joinAt_open hJ HPJ.out (by omega)
            · have hje := joinAt_end HJA.out (by omega)
              rw [HJ.out] at hje
              simp only [Prod.mk.injEq] at hje
              obtain ⟨e1, e2, e3⟩ := hje
              have hLL := HL'.out
              rw [e1, e2, e3] at hLL
              have HLL := Lib.hid hLL
              clear e1 e2 e3 hLL
              go_wp2_with fail
              go_roundg (n - (k + 1))
              case measure => rw [HGK.out]; omega
              case rel => exact ⟨k + 1, (next + 1) % 1024, left', sent', v', vs', sd, v7, gt ++ g, v8j, opj, smj, rfl, by omega, by go_num, by congr 1, rfl, by omega, HM5.out, HN.out, HLL.out, HBB.out.same HX.out⟩
      · obtain ⟨hsum, hsent, hll, hsdl, hgtl, hleft⟩ := HL.out.bounds HBB.out HF3.out (by omega)
        obtain ⟨A7, c7, rfl, hs7⟩ := HM.out.sls7 HN.out
        obtain ⟨A8, c8, rfl, hs8⟩ := HM.out.sls8
        obtain ⟨A9, c9, rfl, hs9, _⟩ := own_sl HM.out.r9
        have hle := HL.out.le
        have hc7 := hs7.sl.cap
        have hm7 := hs7.sl.mx
        have hc8 := hs8.sl.cap
        have hm8 := hs8.sl.mx
        have hc9 := hs9.cap
        have hm9 := hs9.mx
        have HS7 := Lib.hid hs7
        have HS8 := Lib.hid hs8
        have HS9 := Lib.hid hs9
        have d1 : ¬ (sd.length : Int) < (gt.length : Int) := by omega
        clear hleft hs7 hs8 hs9
        go_upto_region 28 with (fail)
        go_cut [11, 168] (fun _ sb wx => sb = .bool false ∧ wx = wr)
        case first =>
          cases hsm : sm with
          | false =>
            clear hsm
            go_wp2_with fail
            go_meet
            exact ⟨rfl, rfl⟩
          | true =>
            obtain ⟨hlt3, x, hx, hxl, hxt⟩ := HL.out.open_ hsm
            obtain ⟨ad7, Ax, cx, rfl, had7, hc7x, hsx⟩ := HS7.out.get hlt3
            rw [hx, Option.getD_some] at hc7x hsx
            have hcx := hsx.cap
            have hmx' := hsx.mx
            have hup := hsx.upto' (k := op.length) (by omega)
            have e1 : (bvs x).take op.length = bvs op := by rw [← hxt]; simp [bvs]
            rw [e1] at hup
            have hsa := sameS_any A9 op.length c9 op Ax op.length cx op wr _ _ HS9.out hup
            rw [decide_eq_true rfl] at hsa
            have HSA := Lib.hid hsa
            have d2 : ¬ (sd.length : Int) ≤ (gt.length : Int) := by omega
            have d3 : ¬ (x.length : Int) ≤ (op.length : Int) := by omega
            clear hx hxt hsx hup e1 hsa hsm
            go_wp2_with fail
            refine HSA.out.mono ?_
            rintro e1 w1 ⟨rfl, rfl⟩
            go_wp2_with fail
            go_meet
            exact ⟨rfl, rfl⟩
        case rest =>
          obtain ⟨rfl, rfl⟩ := hcut
          go_wp2_with fail
          go_loopw [19] (fun i wx => ∃ m : Nat, m ≤ gt.length ∧ i = .int .i64 m ∧ Drew wc wx) (fun i _ => gt.length - (intOf i).toNat)
          case atStart => exact ⟨0, Nat.zero_le _, rfl, Drew.refl _⟩
          case round =>
            obtain ⟨m, hm, rfl, hdr⟩ := hrel
            by_cases hltm : m < gt.length
            · obtain ⟨ad8, A8i, c8i, rfl, had8, hc8x, hs8x⟩ := (HS8.out.drewn hdr).get hltm
              obtain ⟨ad7, A7i, c7i, rfl, had7, hc7x, hs7x⟩ := (HS7.out.drewn hdr).get (k := m) (by omega)
              have heq := HL.out.got m hltm
              rw [← heq] at hc7x hs7x
              clear heq
              generalize gt[m]?.getD [] = p at *
              have hsa := fun q => sameS_any A8i p.length c8i p A7i p.length c7i p (wr.drewN q) _ _ (hs8x.drewN q) (hs7x.drewN q)
              rw [decide_eq_true rfl] at hsa
              have HSA := Lib.hid hsa
              have HDR := Lib.hid hdr
              have hm0 : (0 : Int) ≤ (m : Int) := by omega
              have hmi1 : (m : Int) < (gt.length : Int) := by omega
              have hmi2 : (m : Int) < (sd.length : Int) := by omega
              have hmi3 : m < sd.length := by omega
              clear hsa hs8x hs7x hdr
              go_wp2_with fail
              go_quiet ((go_at_call 63; exact Calls.quiet_of_same ((HSA.out _).mono fun _ _ hh => ⟨hh.1, hh.2.symm⟩)))
              go_wp2_with fail
              go_roundw
              case rel => exact ⟨m + 1, by omega, by go_num, HDR.out.more _⟩
              case measure => simp [intOf]; omega
            · obtain ⟨q, rfl⟩ := hdr
              have hwa := swaiting_any w.heap.size w.heap.size sent cp next v vs left _ (HM.out.snd.drewN q) (by omega)
              have HWA := Lib.hid hwa
              have hwl : ((left.length : Int) == (sd.length : Int) - (gt.length : Int)) = true := by simp; omega
              clear hwa
              go_wp2_with (first | (go_at_call 64; refine HWA.out.mono ?_; rintro e1 w1 ⟨rfl, rfl⟩) | (go_at_call 57; refine (sworks_any _).mono ?_; rintro e1 w1 ⟨rfl, hb1⟩))
              go_ret
              exact ⟨rfl, (HM.out.bel.drewN q).trans (hb1.mono HM.out.bel.size)⟩
end Go.Proofs.Ytchlbpfeiamieaa
