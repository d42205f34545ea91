/- law33: works, the examples of the chapter. -/
import Derived.Test.YtchlbpfeiamieaaG2
import Derived.Test.YtchlbpfeiamieaaGa
import Derived.Test.YtchlbpfeiamieaaFa
import Derived.Test.YtchlbpfeiamieaaV6
import Derived.Deep.DrawnRows
import Derived.Deep.RegionHeld3
import Derived.Deep.DeepCutAuto
namespace Go.Proofs.Ytchlbpfeiamieaa
open Go.RowKit Go.Shelf
attribute [local go_sem] Oper.semAt_some
attribute [local go_sem ↓] Go.wp_at_zero Go.wp_at_succ

theorem encA1 : encA 5 true false false 0 true true [[97, 98]] = [160, 5, 97, 98] := by decide +kernel
theorem encA2 : encA 5 false true false 2 false false [[99], [100]] = [220, 5, 0, 2, 0, 16, 99, 100] := by decide +kernel
theorem cutP1 : cutParts [[97, 98, 99], [100, 101]] 0 2 4 2 = [[99], [100]] := by decide +kernel
theorem cutS1 : cutStarts [[97, 98, 99], [100, 101]] true 0 2 2 = false := by decide +kernel
theorem cutE1 : cutEnds [[97, 98, 99], [100, 101]] true 0 4 2 = false := by decide +kernel
theorem cutP2 : cutParts [[99], [100]] 2 3 4 2 = [[100]] := by decide +kernel
theorem cutS2 : cutStarts [[99], [100]] false 2 3 2 = true := by decide +kernel
theorem cutE2 : cutEnds [[99], [100]] false 2 4 2 = false := by decide +kernel
theorem decA1 : decA [0, 5, 97] = .inl 9 := by
  have h : (match decA [0, 5, 97] with | .inl e => some e | .inr _ => none) = some 9 := by decide +kernel
  cases hh : decA [0, 5, 97] with
  | inl e => rw [hh] at h; simp at h; rw [h]
  | inr p => rw [hh] at h; simp at h
theorem decA2 : decA [192, 5, 128] = .inl 5 := by
  have h : (match decA [192, 5, 128] with | .inl e => some e | .inr _ => none) = some 5 := by decide +kernel
  cases hh : decA [192, 5, 128] with
  | inl e => rw [hh] at h; simp at h; rw [h]
  | inr p => rw [hh] at h; simp at h
theorem PartsOwn.sls {w : World} {base : Nat} {A : Option Addr} {c : Nat} {ps : List (List UInt8)} (h : PartsOwn w base (.slice A ps.length c) ps) : ∃ vs, Sls w w.heap.size A ps.length c vs ps := by
  obtain ⟨vs, h1, h2⟩ := h
  refine ⟨vs, own_sl' h1, rfl, fun i p hi => ?_⟩
  obtain ⟨A', c', e, ho⟩ := h2 i p hi
  exact ⟨A', c', e, own_sl' ho⟩
/-- Decode of a literal that is no PDU -/
theorem dec_lit (W : World) (g : Nat) (hg : g = W.heap.size) (l : List UInt8) (cs : Array Value) (hcs : cs.toList = bvs l) (m : Nat) (hm : m = l.length) (hl : l.length ≤ 1000) (er : Nat) (hd : decA l = .inl er) :
    Calls Try.prog 39 #[.slice (some ⟨g, 0, none⟩) m m] (W.alloc (.cells cs 5)) (CutFails W er) := by
  subst hm hg
  have h2 : Sl (W.alloc (.cells cs 5)) (W.alloc (.cells cs 5)).heap.size (some ⟨W.heap.size, 0, none⟩) (bvs l).length (bvs l).length (bvs l) := sl_lit (heap_new W _) hcs (by simp; omega)
  rw [bvs_length] at h2
  refine (decodeA_any _ _ _ l _ h2 (by omega)).mono ?_
  rintro e w' ⟨hb, h⟩
  rw [hd] at h
  rcases h with ⟨er', he, rfl⟩ | ⟨p, A, c, he, _⟩
  · cases he
    exact ⟨rfl, ((Below.refl _ W).alloc (Nat.le_refl _) _).trans (hb.mono (by simp))⟩
  · cases he
theorem sameB_lit {A : Option Addr} {n c base : Nat} {l : List UInt8} {W : World} (h : W.ownsRow base 5 1 (.slice A n c) n (bvs l)) (g : Nat) (hg : g = W.heap.size) (cs : Array Value) (hcs : cs.toList = bvs l) (m : Nat) (hm : m = l.length) (hl : l.length ≤ 1000) :
    Calls Try.prog 47 #[.slice A n c, .slice (some ⟨g, 0, none⟩) m m] (W.alloc (.cells cs 5)) fun e w' => e = .returned (.bool true) ∧ W.alloc (.cells cs 5) = w' := by
  subst hm hg
  have h2 : Sl (W.alloc (.cells cs 5)) (W.alloc (.cells cs 5)).heap.size (some ⟨W.heap.size, 0, none⟩) (bvs l).length (bvs l).length (bvs l) := sl_lit (heap_new W _) hcs (by simp; omega)
  rw [bvs_length] at h2
  refine (sameB_any A n c l _ _ _ l _ _ _ (own_sl' (h.alloc _)) h2).mono ?_
  rintro e w' ⟨rfl, rfl⟩
  exact ⟨by simp, rfl⟩
theorem held16 {W : World} {g1 g2 : Nat} {t1 t2 : TypeId} {x0 x1 x2 x3 x4 x5 x6 x7 y0 y1 y2 y3 y4 y5 y6 y7 : Value} (b : Blk W g1 t1 #[x0, x1, x2, x3, x4, x5, x6, x7]) (b' : Blk W g2 t2 #[y0, y1, y2, y3, y4, y5, y6, y7]) :
    W.cell? ⟨g1, 0, none⟩ = some x0 ∧ W.cell? ⟨g1, 1, none⟩ = some x1 ∧ W.cell? ⟨g1, 2, none⟩ = some x2 ∧ W.cell? ⟨g1, 3, none⟩ = some x3 ∧ W.cell? ⟨g1, 4, none⟩ = some x4 ∧ W.cell? ⟨g1, 5, none⟩ = some x5 ∧ W.cell? ⟨g1, 6, none⟩ = some x6 ∧ W.cell? ⟨g1, 7, none⟩ = some x7 ∧
    W.cell? ⟨g2, 0, none⟩ = some y0 ∧ W.cell? ⟨g2, 1, none⟩ = some y1 ∧ W.cell? ⟨g2, 2, none⟩ = some y2 ∧ W.cell? ⟨g2, 3, none⟩ = some y3 ∧ W.cell? ⟨g2, 4, none⟩ = some y4 ∧ W.cell? ⟨g2, 5, none⟩ = some y5 ∧ W.cell? ⟨g2, 6, none⟩ = some y6 ∧ W.cell? ⟨g2, 7, none⟩ = some y7 := by
  obtain ⟨a0, a1, a2, a3, a4, a5, a6, a7⟩ := b.eight
  obtain ⟨c0, c1, c2, c3, c4, c5, c6, c7⟩ := b'.eight
  exact ⟨a0, a1, a2, a3, a4, a5, a6, a7, c0, c1, c2, c3, c4, c5, c6, c7⟩
theorem held16_below {w W : World} {g1 g2 : Nat} {t1 t2 : TypeId} {x0 x1 x2 x3 x4 x5 x6 x7 y0 y1 y2 y3 y4 y5 y6 y7 : Value} (b : Blk w g1 t1 #[x0, x1, x2, x3, x4, x5, x6, x7]) (b' : Blk w g2 t2 #[y0, y1, y2, y3, y4, y5, y6, y7]) (hb : Below w.heap.size w W) :
    W.cell? ⟨g1, 0, none⟩ = some x0 ∧ W.cell? ⟨g1, 1, none⟩ = some x1 ∧ W.cell? ⟨g1, 2, none⟩ = some x2 ∧ W.cell? ⟨g1, 3, none⟩ = some x3 ∧ W.cell? ⟨g1, 4, none⟩ = some x4 ∧ W.cell? ⟨g1, 5, none⟩ = some x5 ∧ W.cell? ⟨g1, 6, none⟩ = some x6 ∧ W.cell? ⟨g1, 7, none⟩ = some x7 ∧
    W.cell? ⟨g2, 0, none⟩ = some y0 ∧ W.cell? ⟨g2, 1, none⟩ = some y1 ∧ W.cell? ⟨g2, 2, none⟩ = some y2 ∧ W.cell? ⟨g2, 3, none⟩ = some y3 ∧ W.cell? ⟨g2, 4, none⟩ = some y4 ∧ W.cell? ⟨g2, 5, none⟩ = some y5 ∧ W.cell? ⟨g2, 6, none⟩ = some y6 ∧ W.cell? ⟨g2, 7, none⟩ = some y7 :=
  held16 (b.below hb b.lt) (b'.below hb b'.lt)
theorem sameP_refl (sn : Int) (po sg la : Bool) (off : Int) (s e : Bool) (ps : List (List UInt8)) : sameP sn po sg la off s e ps sn po sg la off s e ps = true := by simp [sameP, sameC]
theorem same_fact (w12 : World) (A : Option Addr) (n c base : Nat) (l : List UInt8) (h : w12.ownsRow base 5 1 (.slice A n c) n (bvs l)) (cs : Array Value) (hcs : cs.toList = bvs l) (m : Nat) (hm : m = l.length) (hl : l.length ≤ 1000) (W : World) (g : Nat) (hb : Below w12.heap.size w12 W) (hg : g = W.heap.size) :
    Calls Try.prog 47 #[.slice A n c, .slice (some ⟨g, 0, none⟩) m m] (W.alloc (.cells cs 5)) (Tells' true W) := by
  refine (sameB_lit (own_below h hb (Nat.le_refl _)) g hg cs hcs m hm hl).mono ?_
  rintro e w' ⟨rfl, rfl⟩
  exact ⟨rfl, (Below.refl _ W).alloc (Nat.le_refl _) _⟩
theorem eq_fact (w12 : World) (sn : Int) (po sg la : Bool) (off : Int) (s e : Bool) (A : Option Addr) (n c : Nat) (vs : List Value) (ps : List (List UInt8)) (h : Sls w12 w12.heap.size A n c vs ps) (W : World) (A' : Option Addr) (c' : Nat) (vs' : List Value) (hb : Below w12.heap.size w12 W) (h' : Sls W W.heap.size A' n c' vs' ps) :
    Calls Try.prog 41 #[.agg #[.int .i64 sn, .bool po, .bool sg, .bool la, .int .i64 off, .bool s, .bool e, .slice A n c], .agg #[.int .i64 sn, .bool po, .bool sg, .bool la, .int .i64 off, .bool s, .bool e, .slice A' n c']] W (Tells' true W) := by
  have := sameRA_any sn po sg la off s e A n c vs ps sn po sg la off s e A' n c' vs' ps W ((h.below hb).more hb.size) h'
  rw [sameP_refl] at this
  exact this
/-- part of literal strings -/
theorem part_lit (s e : Bool) (W : World) (ps : List (List UInt8)) (cs : Array Value) (hcs : cs.toList = strs ps) (m : Nat) (hm : m = ps.length) (hn : ps.length ≤ 10) (hle : ∀ p ∈ ps, p.length ≤ 1000) (t : TypeId) :
    Calls Try.prog 113 #[.bool s, .bool e, .slice (some ⟨W.heap.size, 0, none⟩) m m] (W.alloc (.cells cs t)) (PartIs W s e ps) := by
  subst hm
  have hsl : (strs ps).length = ps.length := by simp [strs]
  have h2 : Sl (W.alloc (.cells cs t)) (W.alloc (.cells cs t)).heap.size (some ⟨W.heap.size, 0, none⟩) (strs ps).length (strs ps).length (strs ps) := sl_lit (heap_new W _) hcs (by rw [hsl]; omega)
  rw [hsl] at h2
  refine (part_any s e _ _ _ ps _ h2 (by omega) hle).mono ?_
  rintro en w' ⟨hb, A, c, vs, rfl, hs⟩
  exact ⟨((Below.refl _ W).alloc (Nat.le_refl _) _).trans (hb.mono (by simp)), A, c, vs, rfl, hs⟩

set_option maxRecDepth 100000 in
set_option maxHeartbeats 4000000 in
theorem works33_any (w : World) : Calls Try.prog 38 #[] w (IsTrue w) := by
  go_enter Try.func38, Try.ntmps38
  go_wp2_with fail
  refine (part_lit true true w [[97, 98]] #[.string ⟨#[97, 98]⟩] rfl 1 rfl (by simp) (by simp) _).mono ?_
  rintro e1 w1 ⟨hb1, A1, c1, vs1, rfl, hs1⟩
  have he := encodeA_ok 5 true false false 0 true true A1 1 c1 vs1 [[97, 98]] w1 hs1 (by decide +kernel) (by omega)
  rw [encA1] at he
  unfold apdu at he
  have HE := Lib.hid he
  clear he
  go_wp2_with fail
  refine HE.out.mono ?_
  rintro e2 w2 ⟨v2, rfl, hv2, hb2⟩
  have hB2 := hb1.trans (hb2.mono hb1.size)
  clear HE hs1 hb1 hb2
  go_wp2_with fail
  refine (part_lit true true w2 [[97, 98, 99], [100, 101]] #[.string ⟨#[97, 98, 99]⟩, .string ⟨#[100, 101]⟩] rfl 2 rfl (by simp) (by simp) _).mono ?_
  rintro e3 w3 ⟨hb3, A3, c3, vs3, rfl, hs3⟩
  have hs3' := (hs3.below ((Below.refl _ w3).alloc (Nat.le_refl _) (.cells (apdu 5 false false false 0 true true A3 2 c3) 68))).more (show w3.heap.size ≤ (w3.alloc (.cells (apdu 5 false false false 0 true true A3 2 c3) 68)).heap.size by simp)
  have hcut := cutA_ok 5 false false false 0 true true A3 2 c3 vs3 [[97, 98, 99], [100, 101]] 2 4 _ hs3' (by decide +kernel) (by omega) (by omega) (by omega) (by decide)
  rw [cutP1, cutS1, cutE1, show (decide (4 = 0 + sumLen [[97, 98, 99], [100, 101]]) && (false || !false)) = false by decide] at hcut
  unfold apdu at hcut
  have HC := Lib.hid hcut
  have hB3 := (hB2.trans (hb3.mono hB2.size))
  have b3 := Blk.new w3 68 #[.int .i64 5, .bool false, .bool false, .bool false, .int .i64 0, .bool true, .bool true, .slice A3 2 c3]
  clear hcut hs3 hs3'
  go_wp2_with fail
  refine HC.out.mono ?_
  rintro e4 w4 ⟨hb4, A4, c4, rfl, hp4⟩
  have hB4 := (hB3.alloc hB3.size (.cells #[.int .i64 5, .bool false, .bool false, .bool false, .int .i64 0, .bool true, .bool true, .slice A3 2 c3] 68))
  replace hB4 := hB4.trans (hb4.mono hB4.size)
  have hv4 := own_below (own_below hv2 hb3 (Nat.le_refl _)) (((Below.refl w3.heap.size w3).alloc (Nat.le_refl _) (.cells #[.int .i64 5, .bool false, .bool false, .bool false, .int .i64 0, .bool true, .bool true, .slice A3 2 c3] 68)).trans (hb4.mono (by simp))) (Nat.le_refl _)
  obtain ⟨vs4, hs4⟩ := hp4.sls
  simp only [List.length_cons, List.length_nil, Nat.zero_add, Nat.reduceAdd] at hs4
  simp only [List.length_cons, List.length_nil, Nat.zero_add, Nat.reduceAdd]
  have b4 := Blk.new w4 68 #[.int .i64 5, .bool false, .bool true, .bool false, .int .i64 2, .bool false, .bool false, .slice A4 2 c4]
  have hb5 := (Below.refl w4.heap.size w4).alloc (Nat.le_refl _) (.cells #[.int .i64 5, .bool false, .bool true, .bool false, .int .i64 2, .bool false, .bool false, .slice A4 2 c4] 68)
  have hB5 := hB4.trans (hb5.mono hB4.size)
  have hs5 := (hs4.below hb5).more hb5.size
  have hv5 := own_below hv4 hb5 (Nat.le_refl _)
  have he5 := encodeA_ok 5 false true false 2 false false A4 2 c4 vs4 [[99], [100]] _ hs5 (by decide +kernel) (by omega)
  rw [encA2] at he5
  unfold apdu at he5
  have HE5 := Lib.hid he5
  clear he5 HC hb4 hb5 hs4 hp4 hv4 hB4 hv2 hB3 hb3 hB2 b3
  unfold apdu
  go_wp2_with fail
  refine HE5.out.mono ?_
  rintro e6 w6 ⟨v6, rfl, hv6, hb6⟩
  have hB6 := hB5.trans (hb6.mono hB5.size)
  have hv2_6 := own_below hv5 hb6 (Nat.le_refl _)
  have b6 := b4.below hb6 b4.lt
  have hs6 := (hs5.below hb6).more hb6.size
  have hcut2 := cutA_ok 5 false true false 2 false false A4 2 c4 vs4 [[99], [100]] 3 4 w6 hs6 (by decide +kernel) (by omega) (by omega) (by omega) (by decide)
  rw [cutP2, cutS2, cutE2, show (decide (4 = 2 + sumLen [[99], [100]]) && (false || !true)) = false by decide] at hcut2
  unfold apdu at hcut2
  have HC2 := Lib.hid hcut2
  obtain ⟨z0, z1, z2, z3, z4, z5, z6, z7⟩ := b6.eight
  clear hcut2 hs5 hv5 HE5 hb6 hB5
  go_wp2_with fail
  refine HC2.out.mono ?_
  rintro e7 w7 ⟨hb7, A7, c7, rfl, hp7⟩
  have hB7 := hB6.trans (hb7.mono hB6.size)
  have hv2_7 := own_below hv2_6 hb7 (Nat.le_refl _)
  have hv6_7 := own_below hv6 hb7 (Nat.le_refl _)
  have b7 := b6.below hb7 b6.lt
  have hs7 := (hs6.below hb7).more hb7.size
  obtain ⟨vs7, ht7⟩ := hp7.sls
  simp only [List.length_cons, List.length_nil, Nat.zero_add] at ht7
  simp only [List.length_cons, List.length_nil, Nat.zero_add]
  have hb8 := (Below.refl w7.heap.size w7).alloc (Nat.le_refl _) (.cells #[.int .i64 5, .bool false, .bool true, .bool false, .int .i64 3, .bool true, .bool false, .slice A7 1 c7] 68)
  have t8 := Blk.new w7 68 #[.int .i64 5, .bool false, .bool true, .bool false, .int .i64 3, .bool true, .bool false, .slice A7 1 c7]
  have hB8 := hB7.trans (hb8.mono hB7.size)
  have hv2_8 := own_below hv2_7 hb8 (Nat.le_refl _)
  have hv6_8 := own_below hv6_7 hb8 (Nat.le_refl _)
  have b8 := b7.below hb8 b7.lt
  have hs8 := (hs7.below hb8).more hb8.size
  have ht8 := (ht7.below hb8).more hb8.size
  have hcut3 := cutA_range 5 false true false 2 false false A4 2 c4 vs4 [[99], [100]] 1 3 _ hs8 (by decide +kernel) (by omega) (.inl (by decide))
  unfold apdu at hcut3
  have HC3 := Lib.hid hcut3
  clear hcut3 z0 z1 z2 z3 z4 z5 z6 z7
  obtain ⟨z0, z1, z2, z3, z4, z5, z6, z7⟩ := b8.eight
  clear HC2 hb7 hb8 b6 b7 hs6 hs7 ht7 hp7 hB6 hB7 hv2_6 hv2_7 hv6 hv6_7
  unfold apdu
  go_wp2_with fail
  refine HC3.out.mono ?_
  rintro e9 w9 ⟨rfl, hb9⟩
  have hb9' := hb9.alloc hb9.size (.cells #[.int .i64 0, .bool false, .bool false, .bool false, .int .i64 0, .bool false, .bool false, .slice none 0 0] 68)
  clear HC3 hb9
  unfold apdu
  go_wp2_with fail
  refine (dec_lit _ (w9.heap.size + 1) (by simp) [0, 5, 97] #[.int .u8 0, .int .u8 5, .int .u8 97] rfl 3 rfl (by simp) 9 decA1).mono ?_
  rintro e10 w10 ⟨rfl, hb10⟩
  have hb10' := (hb9'.trans (hb10.mono hb9'.size)).alloc (hb9'.trans (hb10.mono hb9'.size)).size (.cells #[.int .i64 0, .bool false, .bool false, .bool false, .int .i64 0, .bool false, .bool false, .slice none 0 0] 68)
  clear hb9' hb10
  unfold apdu
  go_wp2_with fail
  refine (dec_lit _ (w10.heap.size + 1) (by simp) [192, 5, 128] #[.int .u8 192, .int .u8 5, .int .u8 128] rfl 3 rfl (by simp) 5 decA2).mono ?_
  rintro e11 w11 ⟨rfl, hb11⟩
  have hb11' := (hb10'.trans (hb11.mono hb10'.size)).alloc (hb10'.trans (hb11.mono hb10'.size)).size (.cells #[.int .i64 0, .bool false, .bool false, .bool false, .int .i64 0, .bool false, .bool false, .slice none 0 0] 68)
  clear hb10' hb11
  unfold apdu
  go_upto_region 9 with (fail)
  have b12 := b8.below hb11' b8.lt
  have t12 := t8.below hb11' t8.lt
  have hs12 := (hs8.below hb11').more hb11'.size
  have ht12 := (ht8.below hb11').more hb11'.size
  have hv2_12 := own_below hv2_8 hb11' (Nat.le_refl _)
  have hv6_12 := own_below hv6_8 hb11' (Nat.le_refl _)
  have hB12 := hB8.trans (hb11'.mono hB8.size)
  clear z0 z1 z2 z3 z4 z5 z6 z7 b8 t8 hs8 ht8 hv2_8 hv6_8 hB8 hb11' b4
  generalize w11.alloc (.cells #[.int .i64 0, .bool false, .bool false, .bool false, .int .i64 0, .bool false, .bool false, .slice none 0 0] 68) = w12 at *
  obtain ⟨A2, c2, rfl, _, _⟩ := own_sl hv2_12
  obtain ⟨A6, c6, rfl, _, _⟩ := own_sl hv6_12
  simp only [List.length_cons, List.length_nil, Nat.zero_add, Nat.reduceAdd] at *
  have hS1 := same_fact w12 A2 4 c2 _ [160, 5, 97, 98] hv2_12 #[.int .u8 160, .int .u8 5, .int .u8 97, .int .u8 98] rfl 4 rfl (by simp)
  have hS2 := same_fact w12 A6 8 c6 _ [220, 5, 0, 2, 0, 16, 99, 100] hv6_12 #[.int .u8 220, .int .u8 5, .int .u8 0, .int .u8 2, .int .u8 0, .int .u8 16, .int .u8 99, .int .u8 100] rfl 8 rfl (by simp)
  have hE1 := eq_fact w12 5 false true false 2 false false A4 2 c4 vs4 [[99], [100]] hs12
  have hE2 := eq_fact w12 5 false true false 3 true false A7 1 c7 vs7 [[100]] ht12
  have hq12 : Below w12.heap.size w12 w12.drew := (Below.refl w12.heap.size w12).drew
  have hS1' : Calls Try.prog 47 #[.slice A2 4 c2, .slice (some ⟨w12.heap.size, 0, none⟩) 4 4] (w12.alloc (.cells #[.int .u8 160, .int .u8 5, .int .u8 97, .int .u8 98] 5)).drew (Tells' true w12.drew) := hS1 w12.drew w12.heap.size hq12 rfl
  have HS1 := Lib.hid hS1'
  have hP1 := fun W t => part_lit false false W [[99], [100]] #[.string ⟨#[99]⟩, .string ⟨#[100]⟩] rfl 2 rfl (by simp) (by simp) t
  have hP2 := fun W t => part_lit true false W [[100]] #[.string ⟨#[100]⟩] rfl 1 rfl (by simp) (by simp) t
  have HP1 := Lib.hid hP1
  have HP2 := Lib.hid hP2
  clear hP1 hP2
  have HS2 := Lib.hid hS2
  have HE1 := Lib.hid hE1
  have HE2 := Lib.hid hE2
  have HBB := Lib.hid hB12
  clear hS1' hS1 hS2 hE1 hE2 hv2_12 hv6_12 hs12 ht12 hB12
  obtain ⟨z0, z1, z2, z3, z4, z5, z6, z7, y0, y1, y2, y3, y4, y5, y6, y7⟩ := held16 b12 t12
  generalize w4.heap.size = g4 at *
  generalize w7.heap.size = g7 at *
  go_region_held3 (fun w' => w'.cell? ⟨g4, 0, none⟩ = some (.int .i64 5) ∧ w'.cell? ⟨g4, 1, none⟩ = some (.bool false) ∧ w'.cell? ⟨g4, 2, none⟩ = some (.bool true) ∧ w'.cell? ⟨g4, 3, none⟩ = some (.bool false) ∧ w'.cell? ⟨g4, 4, none⟩ = some (.int .i64 2) ∧ w'.cell? ⟨g4, 5, none⟩ = some (.bool false) ∧ w'.cell? ⟨g4, 6, none⟩ = some (.bool false) ∧ w'.cell? ⟨g4, 7, none⟩ = some (.slice A4 2 c4) ∧
      w'.cell? ⟨g7, 0, none⟩ = some (.int .i64 5) ∧ w'.cell? ⟨g7, 1, none⟩ = some (.bool false) ∧ w'.cell? ⟨g7, 2, none⟩ = some (.bool true) ∧ w'.cell? ⟨g7, 3, none⟩ = some (.bool false) ∧ w'.cell? ⟨g7, 4, none⟩ = some (.int .i64 3) ∧ w'.cell? ⟨g7, 5, none⟩ = some (.bool true) ∧ w'.cell? ⟨g7, 6, none⟩ = some (.bool false) ∧ w'.cell? ⟨g7, 7, none⟩ = some (.slice A7 1 c7))
    (first | (exact held16_below b12 t12 hq18) | (exact held16_below b12 t12 hq17) | (exact held16_below b12 t12 (hq16.alloc hq16.size _)) | (exact held16_below b12 t12 hq16) | (exact held16_below b12 t12 (hq15.alloc hq15.size _)) | (exact held16_below b12 t12 hq15) | (exact held16_below b12 t12 hq14) | (exact held16_below b12 t12 (hq13.alloc hq13.size _)) | (exact held16_below b12 t12 hq13) | (exact held16_below b12 t12 (hq12.alloc hq12.size _)) | (exact held16_below b12 t12 hq12) | go_keep)
    (first
      | (go_at_call 42; refine (numB_any _ _).mono ?_; rintro e0 w0 ⟨rfl, rfl⟩)
      | (go_at_call 47; (with_reducible refine HS1.out.mono ?_); rintro e13 w13 ⟨rfl, hb13⟩; have hq13 : Below w12.heap.size w12 w13 := hq12.trans hb13)
      | (go_at_call 113; (with_reducible refine (HP1.out w13 _).mono ?_); rintro e14 w14 ⟨hb14, A14, c14, vs14, rfl, hs14⟩; simp only [List.length_cons, List.length_nil, Nat.zero_add, Nat.reduceAdd] at hs14; have hq14 : Below w12.heap.size w12 w14 := hq13.trans (hb14.mono hq13.size))
      | (go_at_call 41; (with_reducible refine (HE1.out w14 A14 c14 vs14 hq14 hs14).mono ?_); rintro e15 w15 ⟨rfl, hb15⟩; have hq15 : Below w12.heap.size w12 w15 := hq14.trans (hb15.mono hq14.size))
      | (go_at_call 47; (with_reducible refine (HS2.out w15 w15.heap.size hq15 rfl).mono ?_); rintro e16 w16 ⟨rfl, hb16⟩; have hq16 : Below w12.heap.size w12 w16 := hq15.trans (hb16.mono hq15.size))
      | (go_at_call 113; (with_reducible refine (HP2.out w16 _).mono ?_); rintro e17 w17 ⟨hb17, A17, c17, vs17, rfl, hs17⟩; simp only [List.length_cons, List.length_nil, Nat.zero_add] at hs17; have hq17 : Below w12.heap.size w12 w17 := hq16.trans (hb17.mono hq16.size))
      | (go_at_call 41; (with_reducible refine (HE2.out w17 A17 c17 vs17 hq17 hs17).mono ?_); rintro e18 w18 ⟨rfl, hb18⟩; have hq18 : Below w12.heap.size w12 w18 := hq17.trans (hb18.mono hq17.size))
      | fail)
  all_goals
    go_wp2
    go_ret
    exact ⟨rfl, HBB.out.trans (hq18.mono HBB.out.size)⟩
end Go.Proofs.Ytchlbpfeiamieaa
