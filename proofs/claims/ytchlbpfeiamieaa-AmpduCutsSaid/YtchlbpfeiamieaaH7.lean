/- law33.AmpduAgain: the walk. -/
import Derived.Test.YtchlbpfeiamieaaH6
namespace Go.Proofs.Ytchlbpfeiamieaa
open Go.RowKit Go.Shelf
attribute [local go_sem] Oper.semAt_some
attribute [local go_sem ↓] Go.wp_at_zero Go.wp_at_succ

/-- Cut, whatever comes of it -/
def CutSome (w : World) (er : Int) (en : Ending) (w' : World) : Prop :=
  Below w.heap.size w w' ∧ ∃ (sn : Int) (po sg la : Bool) (off : Int) (s e : Bool) (A : Option Addr) (n c : Nat), en = .returned (.tuple #[.agg (apdu sn po sg la off s e A n c), .int .i64 er])
theorem cutA_some (sn : Int) (po sg la : Bool) (off : Int) (s e : Bool) (A : Option Addr) (n c : Nat) (vs : List Value) (ps : List (List UInt8)) (fr till : Int) (hn : n ≤ 1048576) (hle : ∀ p ∈ ps, p.length ≤ 1099511627776) :
    ∃ er : Int, (∀ w : World, Sls w w.heap.size A n c vs ps → Calls Try.prog 44 #[.agg (apdu sn po sg la off s e A n c), .int .i64 fr, .int .i64 till] w (CutSome w er)) ∧
      (er ≠ 0 ∨ ∃ m o x y : Nat, sn = m ∧ off = o ∧ fr = x ∧ till = y ∧ validA sn sg la off ps = true ∧ o ≤ 32767 ∧ o ≤ x ∧ x < y ∧ y ≤ o + sumLen ps) := by
  rcases cutA_all sn po sg la off s e A n c vs ps fr till hn hle with ⟨er, h0, h⟩ | ⟨m, o, x, y, rfl, rfl, rfl, rfl, hv, ho, h1, h2, h3⟩
  · exact ⟨er, fun w hs => (h w hs).mono fun _ _ ⟨h1, h2⟩ => ⟨h2, _, _, _, _, _, _, _, _, _, _, h1⟩, .inl h0⟩
  · exact ⟨0, fun w hs => (cutA_ok m po sg la o s e A n c vs ps x y w hs hv ho h1 h2 h3).mono fun _ _ ⟨h1, A, c, h2, _⟩ => ⟨h1, _, _, _, _, _, _, _, _, _, _, h2⟩, .inr ⟨m, o, x, y, rfl, rfl, rfl, rfl, hv, ho, h1, h2, h3⟩⟩

/-- the facts of cutting again -/
structure Again (sn : Int) (sg la : Bool) (o a b c d : Nat) (s e : Bool) (ps po p1 pl : List (List UInt8)) (so eo lo s1 e1 l1 sl : Bool) : Prop where
  vo : validA sn true lo a po = true
  v1 : validA sn true l1 b p1 = true
  sumo : sumLen po = d - a
  sum1 : sumLen p1 = c - b
  parts : cutParts po a b c po.length = p1
  starts : cutStarts po so a b po.length = s1
  ends : cutEnds po eo a c po.length = e1
  last : (decide (c = a + sumLen po) && (lo || !true)) = l1
  bytes : p1.flatten = (po.flatten.drop (b - a)).take (c - b)
  left : a < b → cutParts po a a b po.length = pl ∧ cutStarts po so a a po.length = sl ∧ cutEnds po eo a b po.length = s1 ∧ (decide (b = a + sumLen po) && (lo || !true)) = false ∧ pl.flatten = po.flatten.take (b - a) ∧ sumLen pl = b - a
theorem again_of (sn : Int) (sg la : Bool) (o a b c d : Nat) (s e : Bool) (ps : List (List UInt8)) (hv : validA sn sg la o ps = true) (ho : o ≤ 32767) (h0 : o ≤ a) (h1 : a ≤ b) (h2 : b < c) (h3 : c ≤ d) (h4 : d ≤ o + sumLen ps) :
    ∃ sl pl, Again sn sg la o a b c d s e ps (cutParts ps o a d ps.length) (cutParts ps o b c ps.length) pl (cutStarts ps s o a ps.length) (cutEnds ps e o d ps.length) (decide (d = o + sumLen ps) && (la || !sg))
      (cutStarts ps s o b ps.length) (cutEnds ps e o c ps.length) (decide (c = o + sumLen ps) && (la || !sg)) sl := by
  have hva := (validA_iff _ _ _ _ _).1 hv
  have hvp := (validB_iff ps).1 hva.vp
  have hs := hvp.sum
  have hend : o + sumLen ps ≤ 32767 := by
    cases sg with
    | true => have := hva.seg rfl; omega
    | false => have := hva.whole rfl; omega
  obtain ⟨k1, k2, k3⟩ := cut_again ps s e o a b c d hvp h0 h1 h2 h3 h4
  have so := cut_sum ps o a d h0 h4
  have s1 := cut_sum ps o b c (by omega) (by omega)
  have vo := cut_valid ps o a d hvp h0 (by omega) h4
  have v1 := cut_valid ps o b c hvp (by omega) (by omega) (by omega)
  refine ⟨_, _, ⟨(validA_iff _ _ _ _ _).2 ⟨hva.sn0, hva.sn1, (validB_iff _).2 vo, fun _ => by rw [so]; omega, fun h => by cases h⟩, (validA_iff _ _ _ _ _).2 ⟨hva.sn0, hva.sn1, (validB_iff _).2 v1, fun _ => by rw [s1]; omega, fun h => by cases h⟩, so, s1, k1, k2, k3, ?_, ?_, fun hab => ⟨rfl, rfl, ?_, ?_, ?_, ?_⟩⟩⟩
  · rw [so, Bool.not_true, Bool.or_false]
    by_cases hcd : c = d
    · subst hcd
      rw [show decide (c = a + (c - a)) = true by simp; omega]
      rfl
    · rw [show decide (c = a + (d - a)) = false by simp; omega, show decide (c = o + sumLen ps) = false by simp; omega]
      rfl
  · rw [← k1, cut_bytes, List.drop_take]
    congr 1
    omega
  · exact cut_left ps s e o a b d hvp h0 hab (by omega) h4
  · rw [so, show decide (b = a + (d - a)) = false by simp; omega]
    rfl
  · rw [cut_bytes, Nat.sub_self, List.drop_zero]
  · rw [cut_sum _ _ _ _ (Nat.le_refl _) (by rw [so]; omega)]
theorem eight8 {w W : World} {g : Nat} {t : TypeId} {x0 x1 x2 x3 x4 x5 x6 x7 : Value} (b : Blk w g t #[x0, x1, x2, x3, x4, x5, x6, x7]) (hb : Below w.heap.size w W) : W.cell? ⟨g, 5, none⟩ = some x5 ∧ W.cell? ⟨g, 6, none⟩ = some x6 ∧ W.cell? ⟨g, 7, none⟩ = some x7 := by
  obtain ⟨_, _, _, _, _, h5, h6, h7⟩ := eight_below b hb
  exact ⟨h5, h6, h7⟩

theorem Sl.head {w : World} {B n c m : Nat} {A : Option Addr} {xs : List Value} (h : Sl w B A n c xs) (hm : m ≤ n) : Sl w B A m c (xs.take m) :=
  ⟨by rw [List.length_take, h.len]; omega, by have := h.cap; omega, h.mx, fun hp => by
    obtain ⟨ad, e, hb, hc⟩ := h.at_ (by omega)
    exact ⟨ad, e, hb, fun j u hu => hc j u (by rw [List.getElem?_take] at hu; split at hu; exact hu; cases hu)⟩⟩
theorem cells4 {w W : World} {g g' : Nat} {t t' : TypeId} {x0 x1 x2 x3 x4 x5 x6 x7 y0 y1 y2 y3 y4 y5 y6 y7 : Value} (b : Blk w g t #[x0, x1, x2, x3, x4, x5, x6, x7]) (b' : Blk w g' t' #[y0, y1, y2, y3, y4, y5, y6, y7]) (hb : Below w.heap.size w W) :
    W.cell? ⟨g, 3, none⟩ = some x3 ∧ W.cell? ⟨g, 5, none⟩ = some x5 ∧ W.cell? ⟨g, 6, none⟩ = some x6 ∧ W.cell? ⟨g, 7, none⟩ = some x7 ∧ W.cell? ⟨g', 5, none⟩ = some y5 := by
  obtain ⟨_, _, _, h3, _, h5, h6, h7⟩ := eight_below b hb
  obtain ⟨_, _, _, _, _, k5, _, _⟩ := eight_below b' hb
  exact ⟨h3, h5, h6, h7, k5⟩

set_option maxRecDepth 100000 in
set_option maxHeartbeats 4000000 in
theorem ampduAgain_walk (sn : Int) (po sg la : Bool) (off : Int) (s e : Bool) (A : Option Addr) (n c : Nat) (vs : List Value) (ps : List (List UInt8)) (x1 x2 x3 x4 : Int) (w : World) (_hsn : -9223372036854775808 ≤ sn ∧ sn ≤ 9223372036854775807) (_hoff : -9223372036854775808 ≤ off ∧ off ≤ 9223372036854775807) (h : Sls w w.heap.size A n c vs ps)
    (_hx1 : -9223372036854775808 ≤ x1 ∧ x1 ≤ 9223372036854775807) (_hx2 : -9223372036854775808 ≤ x2 ∧ x2 ≤ 9223372036854775807) (_hx3 : -9223372036854775808 ≤ x3 ∧ x3 ≤ 9223372036854775807) (_hx4 : -9223372036854775808 ≤ x4 ∧ x4 ≤ 9223372036854775807) :
    Calls Try.prog 12 #[.agg (apdu sn po sg la off s e A n c), .int .i64 x1, .int .i64 x2, .int .i64 x3, .int .i64 x4] w (IsTrue w) := by
  have hB := (Below.refl w.heap.size w).alloc (Nat.le_refl _) (.cells (apdu sn po sg la off s e A n c) 68)
  have hA := (h.below hB).more hB.size
  have bx := Blk.new w 68 (apdu sn po sg la off s e A n c)
  have hL := h.len
  have HL := Lib.hid hL
  have hfa := fewA_any sn po sg la off s e A n c vs ps _ hA
  have HFA := Lib.hid hfa
  have HC1 := Lib.hid (cutA_some sn po sg la off s e A n c vs ps x1 x4)
  have HC2 := Lib.hid (cutA_some sn po sg la off s e A n c vs ps x2 x3)
  clear h hL hfa
  unfold apdu at *
  go_enter Try.func12, Try.ntmps12
  go_wp2_with fail
  refine HFA.out.mono ?_
  generalize w.alloc (.cells #[.int .i64 sn, .bool po, .bool sg, .bool la, .int .i64 off, .bool s, .bool e, .slice A n c] 68) = w1 at *
  rintro e1 w2 ⟨⟨r1, rfl, hfew⟩, hb1⟩
  have hB1 : Below w.heap.size w w2 := hB.trans (hb1.mono hB.size)
  have hA1 := (hA.below hb1).more hb1.size
  have bx1 := bx.below hb1 bx.lt
  clear hb1 hA bx hB HFA
  cases r1 with
  | false =>
    clear hfew
    go_wp2_with (go_at_call 38; refine (works33_any _).mono ?_; rintro e2 w3 ⟨rfl, hb2⟩)
    go_ret
    exact ⟨rfl, hB1.trans (hb2.mono hB1.size)⟩
  | true =>
  obtain ⟨h70, h4, _⟩ := hfew rfl
  have hn : n ≤ 1048576 := by have := HL.out; omega
  have hle : ∀ p ∈ ps, p.length ≤ 1099511627776 := fun p hp => by have := h4 p hp; omega
  obtain ⟨er1, hE1, hG1⟩ := HC1.out hn hle
  obtain ⟨er2, hE2, hG2⟩ := HC2.out hn hle
  have HE1 := Lib.hid hE1
  have HE2 := Lib.hid hE2
  have HG1 := Lib.hid hG1
  have HG2 := Lib.hid hG2
  clear hfew h4 h70 HC1 HC2 hE1 hE2 hG1 hG2 hn hle
  by_cases h12 : x2 < x1
  · have d12 : decide (x2 < x1) = true := by simpa using h12
    go_wp2_with (go_at_call 38; refine (works33_any _).mono ?_; rintro e2 w3 ⟨rfl, hb2⟩)
    go_ret
    exact ⟨rfl, hB1.trans (hb2.mono hB1.size)⟩
  have d12 : decide (x2 < x1) = false := by simpa using h12
  by_cases h23 : x3 < x2
  · have d23 : decide (x3 < x2) = true := by simpa using h23
    go_wp2_with (go_at_call 38; refine (works33_any _).mono ?_; rintro e2 w3 ⟨rfl, hb2⟩)
    go_ret
    exact ⟨rfl, hB1.trans (hb2.mono hB1.size)⟩
  have d23 : decide (x3 < x2) = false := by simpa using h23
  by_cases h34 : x4 < x3
  · have d34 : decide (x4 < x3) = true := by simpa using h34
    go_wp2_with (go_at_call 38; refine (works33_any _).mono ?_; rintro e2 w3 ⟨rfl, hb2⟩)
    go_ret
    exact ⟨rfl, hB1.trans (hb2.mono hB1.size)⟩
  have d34 : decide (x4 < x3) = false := by simpa using h34
  obtain ⟨y0, y1, y2, y3, y4, y5, y6, y7⟩ := bx1.eight
  by_cases hz : er1 = 0 ∧ er2 = 0
  · have g1 := HG1.out.resolve_left (fun h => h hz.1)
    have g2 := HG2.out.resolve_left (fun h => h hz.2)
    obtain ⟨m, o, a, d, rfl, rfl, rfl, rfl, hv, ho, ha1, ha2, ha3⟩ := g1
    obtain ⟨m', o', b, cc, hm', ho', rfl, rfl, _, _, hb1, hb2, hb3⟩ := g2
    obtain rfl : o' = o := by omega
    clear hz HE1 HE2 HG1 HG2 hm' ho'
    have hab : a ≤ b := by omega
    have hcd : cc ≤ d := by omega
    obtain ⟨sl, pl, hag⟩ := again_of m sg la o' a b cc d s e ps hv ho ha1 hab hb2 hcd ha3
    have hc1 := fun W hW => cutA_ok m po sg la o' s e A n c vs ps a d W hW hv ho ha1 ha2 ha3
    have hc2 := fun W hW => cutA_ok m po sg la o' s e A n c vs ps b cc W hW hv ho hb1 hb2 hb3
    rw [← HL.out] at hc1 hc2
    have hd4 : d ≤ 32767 := by
      have hva := (validA_iff _ _ _ _ _).1 hv
      have hs := ((validB_iff ps).1 hva.vp).sum
      cases sg with
      | true => have := hva.seg rfl; omega
      | false => have := hva.whole rfl; omega
    generalize cutParts ps o' a d ps.length = pso at *
    generalize cutParts ps o' b cc ps.length = ps1 at *
    generalize cutStarts ps s o' a ps.length = so at *
    generalize cutEnds ps e o' d ps.length = eo at *
    generalize (decide (d = o' + sumLen ps) && (la || !sg)) = lo at *
    generalize cutStarts ps s o' b ps.length = s1 at *
    generalize cutEnds ps e o' cc ps.length = e1 at *
    generalize (decide (cc = o' + sumLen ps) && (la || !sg)) = l1 at *
    have HC1 := Lib.hid hc1
    have HC2 := Lib.hid hc2
    have HAG := Lib.hid hag
    have hnl : n = ps.length := HL.out.symm
    clear hc1 hc2 hag hv ha3 hb3
    subst hnl
    clear HL
    unfold apdu at HC1 HC2
    go_wp2_with fail
    refine (HC1.out w2 hA1).mono ?_
    rintro e3 w3 ⟨hb3, Ao, co, rfl, hpo⟩
    obtain ⟨vso, hso3⟩ := hpo.sls
    have hb4 := (Below.refl w3.heap.size w3).alloc (Nat.le_refl _) (.cells (apdu m false true lo a so eo Ao pso.length co) 68)
    have bo4 := Blk.new w3 68 (apdu m false true lo a so eo Ao pso.length co)
    have hq4 := hb3.trans (hb4.mono hb3.size)
    have hso4 := (hso3.below hb4).more hb4.size
    have hA4 := (hA1.below hq4).more hq4.size
    have bx4 := bx1.below hq4 bx1.lt
    have hB4 := hB1.trans (hq4.mono hB1.size)
    clear y0 y1 y2 y3 y4 y5 y6 y7 bx1 hA1 hB1 HC1 hb3 hb4 hpo hso3 hq4
    unfold apdu at *
    obtain ⟨y0, y1, y2, y3, y4, y5, y6, y7⟩ := bx4.eight
    have hz2 := HC2.out _ hA4
    have HZ2 := Lib.hid hz2
    clear hz2 HC2 hA4
    go_wp2_with fail
    generalize w3.alloc (.cells #[.int .i64 m, .bool false, .bool true, .bool lo, .int .i64 a, .bool so, .bool eo, .slice Ao pso.length co] 68) = w4 at *
    generalize w3.heap.size = go at *
    refine HZ2.out.mono ?_
    rintro e5 w5 ⟨hb5, A1, c1, rfl, hp1⟩
    obtain ⟨vs1, hs15⟩ := hp1.sls
    have hb6 := (Below.refl w5.heap.size w5).alloc (Nat.le_refl _) (.cells (apdu m false true l1 b s1 e1 A1 ps1.length c1) 68)
    have b16 := Blk.new w5 68 (apdu m false true l1 b s1 e1 A1 ps1.length c1)
    have hs16 := (hs15.below hb6).more hb6.size
    have hq6 := hb5.trans (hb6.mono hb5.size)
    have hso6 := (hso4.below hq6).more hq6.size
    have bo6 := bo4.below hq6 bo4.lt
    have hB6 := hB4.trans (hq6.mono hB4.size)
    have hvo := HAG.out.vo
    have hc3 := fun W hW => cutA_ok m false true lo a so eo Ao pso.length co vso pso b cc W hW hvo (by omega) hab hb2 (by rw [HAG.out.sumo]; omega)
    rw [HAG.out.parts, HAG.out.starts, HAG.out.ends, HAG.out.last] at hc3
    have hc3' := hc3 _ hso6
    have HC3 := Lib.hid hc3'
    clear y0 y1 y2 y3 y4 y5 y6 y7 bo4 bx4 hB4 hb5 hb6 hp1 hs15 hq6 hso4 HZ2 hc3 hc3' hvo
    unfold apdu at *
    obtain ⟨y0, y1, y2, y3, y4, y5, y6, y7⟩ := bo6.eight
    go_wp2_with (go_at_call 42; refine (numB_any _ _).mono ?_; rintro e8 w8 ⟨rfl, rfl⟩)
    generalize w5.alloc (.cells #[.int .i64 m, .bool false, .bool true, .bool l1, .int .i64 b, .bool s1, .bool e1, .slice A1 ps1.length c1] 68) = w6 at *
    generalize w5.heap.size = g1 at *
    refine HC3.out.mono ?_
    rintro e7 w7 ⟨hb7, A2, c2, rfl, hp2⟩
    obtain ⟨vs2, hs27⟩ := hp2.sls
    have hb8 := (Below.refl w7.heap.size w7).alloc (Nat.le_refl _) (.cells (apdu m false true l1 b s1 e1 A2 ps1.length c2) 68)
    have b28 := Blk.new w7 68 (apdu m false true l1 b s1 e1 A2 ps1.length c2)
    have hs28 := (hs27.below hb8).more hb8.size
    have hq8 := hb7.trans (hb8.mono hb7.size)
    have hs18 := (hs16.below hq8).more hq8.size
    have hso8 := (hso6.below hq8).more hq8.size
    have bo8 := bo6.below hq8 bo6.lt
    have b18 := b16.below hq8 b16.lt
    have hB8 := hB6.trans (hq8.mono hB6.size)
    clear y0 y1 y2 y3 y4 y5 y6 y7 bo6 b16 hB6 hb7 hb8 hp2 hs27 hq8 hso6 hs16 HC3
    unfold apdu at *
    have hvp1 := (validB_iff ps1).1 ((validA_iff _ _ _ _ _).1 HAG.out.v1).vp
    have hvpo := (validB_iff pso).1 ((validA_iff _ _ _ _ _).1 HAG.out.vo).vp
    have hn1 : ps1.length ≤ 1048576 := by have := hvp1.hi; omega
    have hle1 : ∀ p ∈ ps1, p.length ≤ 1099511627776 := fun p hp => by have := mem_le_sumLen hp; have := hvp1.sum; omega
    have hsm := sameA_any m false true l1 b s1 e1 A1 ps1.length c1 vs1 ps1 m false true l1 b s1 e1 A2 ps1.length c2 vs2 ps1 _ hs18 hs28
    rw [sameP_refl] at hsm
    have hva := fun W hW => validA_any (w := W) m false true l1 b s1 e1 A1 ps1.length c1 vs1 ps1 hW hn1 hle1
    rw [HAG.out.v1] at hva
    have hsz := fun W hW => size_any s1 e1 A1 ps1.length c1 vs1 ps1 W hW hn1 hle1
    rw [HAG.out.sum1] at hsz
    unfold apdu at hsm hva
    have HSM := Lib.hid hsm
    have HVA := Lib.hid hva
    have HSZ := Lib.hid hsz
    have HSUMO := Lib.hid hvpo.sum
    have HSUM1 := Lib.hid hvp1.sum
    obtain ⟨K, hK⟩ : ∃ K, cc - b = K := ⟨_, rfl⟩
    rw [hK] at HSZ
    have hKi : (cc : Int) - b = K := by omega
    have hKK : ((K : Int) != K) = false := by simp
    have HK := Lib.hid hK
    obtain ⟨y0, y1, y2, y3, y4, y5, y6, y7, z0, z1, z2, z3, z4, z5, z6, z7⟩ := held16 b18 b28
    clear hsm hva hsz hK hvp1 hvpo hn1 hle1
    go_wp2_with (go_at_call 42; refine (numB_any _ _).mono ?_; rintro e8 w8 ⟨rfl, rfl⟩)
    generalize w7.alloc (.cells #[.int .i64 m, .bool false, .bool true, .bool l1, .int .i64 b, .bool s1, .bool e1, .slice A2 ps1.length c2] 68) = w8 at *
    generalize w7.heap.size = g2 at *
    refine HSM.out.mono ?_
    rintro e9 w9 ⟨rfl, hb9⟩
    have b19 := b18.below hb9 b18.lt
    have hs19 := (hs18.below hb9).more hb9.size
    have hz9 := HSZ.out w9 hs19
    have HZ9 := Lib.hid hz9
    clear y0 y1 y2 y3 y4 y5 y6 y7 z0 z1 z2 z3 z4 z5 z6 z7 hz9 HSM HSZ
    obtain ⟨y0, y1, y2, y3, y4, y5, y6, y7⟩ := b19.eight
    go_wp2_with fail
    refine HZ9.out.mono ?_
    rintro e10 w10 ⟨rfl, hb10⟩
    have b110 := b19.below hb10 b19.lt
    have hs110 := (hs19.below hb10).more hb10.size
    have hz10 := HVA.out w10 hs110
    have HZ10 := Lib.hid hz10
    clear y0 y1 y2 y3 y4 y5 y6 y7 hz10 HVA HZ9
    obtain ⟨y0, y1, y2, y3, y4, y5, y6, y7⟩ := b110.eight
    go_wp2_with fail
    refine HZ10.out.mono ?_
    rintro e11 w11 ⟨rfl, hb11⟩
    have hq10 := hb9.trans (hb10.mono hb9.size)
    have hq11 := hq10.trans (hb11.mono hq10.size)
    have b111 := b18.below hq11 b18.lt
    have bo11 := bo8.below hq11 bo8.lt
    have hs111 := (hs18.below hq11).more hq11.size
    have hso11 := (hso8.below hq11).more hq11.size
    have hB11 := hB8.trans (hq11.mono hB8.size)
    clear y0 y1 y2 y3 y4 y5 y6 y7 b18 bo8 b28 hs18 hso8 hB8 hb9 hb10 hb11 hq10 hq11 b19 b110 hs19 hs110 HZ10 hs28 hKi hKK
    obtain ⟨y0, y1, y2, y3, y4, y5, y6, y7⟩ := bo11.eight
    have hj := joined_any so eo Ao pso.length co vso pso w11 hso11 (by have := HSUMO.out; omega)
    have HJ := Lib.hid hj
    clear hj
    go_wp2_with fail
    refine HJ.out.mono ?_
    rintro e12 w12 ⟨v12, rfl, hv12, hb12⟩
    rw [HAG.out.sumo] at hv12
    obtain ⟨Aj, cj, rfl, hsj, hbj⟩ := own_sl hv12
    obtain ⟨adj, rfl, hadj⟩ := hbj (by omega)
    have b112 := b111.below hb12 b111.lt
    have bo12 := bo11.below hb12 bo11.lt
    have hs112 := (hs111.below hb12).more hb12.size
    have hso12 := (hso11.below hb12).more hb12.size
    have hB12 := hB11.trans (hb12.mono hB11.size)
    clear y0 y1 y2 y3 y4 y5 y6 y7 b111 bo11 hs111 hso11 hB11 hb12 HJ hv12 hbj
    obtain ⟨X, hX⟩ : ∃ X, b - a = X := ⟨_, rfl⟩
    obtain ⟨Y, hY⟩ : ∃ Y, cc - a = Y := ⟨_, rfl⟩
    obtain ⟨D, hD⟩ : ∃ D, d - a = D := ⟨_, rfl⟩
    rw [hD] at hsj
    have hcap := hsj.cap
    have hmx := hsj.mx
    have hXY : X < Y := by omega
    have hYD : Y ≤ D := by omega
    have hKXY : K = Y - X := by have := HK.out; omega
    have hXi : IntKind.i64.wrap ((b : Int) - (a : Int)) = (X : Int) := by rw [IntWalk.i64_in _ (by omega)]; omega
    have hYi : IntKind.i64.wrap ((cc : Int) - (a : Int)) = (Y : Int) := by rw [IntWalk.i64_in _ (by omega)]; omega
    have hX0 : (0 : Int) ≤ X := by omega
    have hXY0 : (X : Int) ≤ Y := by omega
    have hYC0 : (Y : Int) ≤ cj := by omega
    have hcx : ¬ cj = X := by omega
    have hmid := hsj.mid (a := X) (m := K) (by omega)
    rw [if_neg hcx, show ((bvs pso.flatten).drop X).take K = bvs ps1.flatten by rw [HAG.out.bytes, hX, HK.out]; simp [bvs]] at hmid
    subst hKXY
    simp only [Option.map_some] at hmid
    have hj1 := joined_any s1 e1 A1 ps1.length c1 vs1 ps1 w12.drew hs112.drew' (by have := HSUM1.out; omega)
    rw [HAG.out.sum1, HK.out] at hj1
    have hsame := fun W (hb : Below w12.heap.size w12 W) A' c' (h' : Sl W W.heap.size A' (Y - X) c' (bvs ps1.flatten)) => sameB_any A' (Y - X) c' ps1.flatten (some (adj.add X)) (Y - X) (cj - X) ps1.flatten W _ _ h' (hmid.below hb)
    simp only [decide_true] at hsame
    have HSAME := Lib.hid hsame
    have HJ1 := Lib.hid hj1
    have HSJ := Lib.hid hsj
    have HX := Lib.hid hX
    have HB12 := Lib.hid hB12
    have hq12 : Below w12.heap.size w12 w12.drew := (Below.refl w12.heap.size w12).drew
    obtain ⟨y0, y1, y2, y3, y4, y5, y6, y7⟩ := b112.eight
    clear hmid hj1 hsame hsj hB12 hX hY hD
    go_upto_region 11 with (fail)
    go_cut [107] (fun s107 wx => s107 = .bool false ∧ Below w12.heap.size w12 wx)
    case first =>
      go_region_held3 (fun w' => w'.cell? ⟨g1, 5, none⟩ = some (.bool s1) ∧ w'.cell? ⟨g1, 6, none⟩ = some (.bool e1) ∧ w'.cell? ⟨g1, 7, none⟩ = some (.slice A1 ps1.length c1))
        (first | (exact eight8 b112 hq13) | (exact eight8 b112 hq12) | go_keep)
        (first
          | (go_at_call 54; refine HJ1.out.mono ?_; rintro e13 w13 ⟨v13, rfl, hv13, hb13⟩; obtain ⟨A13, c13, rfl, hs13, _⟩ := own_sl hv13; have hq13 : Below w12.heap.size w12 w13 := hq12.trans hb13)
          | (go_at_call 47; go_must ((refine (HSAME.out w13 hq13 A13 c13 hs13).mono ?_)); rintro e14 w14 ⟨rfl, rfl⟩)
          | fail)
      all_goals
        go_wp2_with fail
        go_meet
        case rel => exact ⟨rfl, hq13⟩
    case rest =>
      obtain ⟨rfl, hb13⟩ := hcut
      generalize wc = w13 at *
      have b113 := b112.below hb13 b112.lt
      have bo13 := bo12.below hb13 bo12.lt
      have hso13 := (hso12.below hb13).more hb13.size
      have hB13 := HB12.out.trans (hb13.mono HB12.out.size)
      have hsj13 := (HSJ.out.below hb13).more hb13.size
      clear y0 y1 y2 y3 y4 y5 y6 y7 b112 bo12 hs112 hso12 HB12 HSJ hb13 hq12 HSAME HJ1
      by_cases hlt : a < b
      · obtain ⟨l1', l2', l3', l4', l5', l6'⟩ := HAG.out.left hlt
        have hvo := HAG.out.vo
        have hc4 := cutA_ok m false true lo a so eo Ao pso.length co vso pso a b w13 hso13 hvo (by omega) (Nat.le_refl _) hlt (by rw [HAG.out.sumo]; omega)
        rw [l1', l2', l3', l4'] at hc4
        unfold apdu at hc4
        have HC4 := Lib.hid hc4
        have HL5 := Lib.hid l5'
        have HL6 := Lib.hid l6'
        have hd1 : decide ((a : Int) < b) = true := by simp; omega
        clear hc4 l1' l2' l3' l4' l5' l6' hvo hso13
        obtain ⟨y0, y1, y2, y3, y4, y5, y6, y7⟩ := bo13.eight
        go_wp2_with fail
        refine HC4.out.mono ?_
        rintro e14 w14 ⟨hb14, Al, cl, rfl, hpl⟩
        obtain ⟨vsl, hsl14⟩ := hpl.sls
        have hb15 := (Below.refl w14.heap.size w14).alloc (Nat.le_refl _) (.cells (apdu m false true false a sl s1 Al pl.length cl) 68)
        have bl15 := Blk.new w14 68 (apdu m false true false a sl s1 Al pl.length cl)
        have hsl15 := (hsl14.below hb15).more hb15.size
        have hq15 := hb14.trans (hb15.mono hb14.size)
        have b115 := b113.below hq15 b113.lt
        have hB15 := hB13.trans (hq15.mono hB13.size)
        have hsj15 := (hsj13.below hq15).more hq15.size
        clear y0 y1 y2 y3 y4 y5 y6 y7 b113 bo13 hB13 hsj13 hb14 hpl hsl14 hq15 HC4 hd1
        unfold apdu at *
        go_upto_region 15 with (fail)
        generalize w14.alloc (.cells #[.int .i64 m, .bool false, .bool true, .bool false, .int .i64 a, .bool sl, .bool s1, .slice Al pl.length cl] 68) = w15 at *
        generalize w14.heap.size = gl at *
        have hhd := hsj15.head (m := X) (by omega)
        rw [show (bvs pso.flatten).take X = bvs pl.flatten by rw [HL5.out, HX.out]; simp [bvs]] at hhd
        have hjl := joined_any sl s1 Al pl.length cl vsl pl w15.drew hsl15.drew' (by have := HL6.out; omega)
        rw [HL6.out, HX.out] at hjl
        have hsame := fun W (hb : Below w15.heap.size w15 W) A' c' (h' : Sl W W.heap.size A' X c' (bvs pl.flatten)) => sameB_any A' X c' pl.flatten (some adj) X cj pl.flatten W _ _ h' (hhd.below hb)
        simp only [decide_true] at hsame
        have HSAME := Lib.hid hsame
        have HJL := Lib.hid hjl
        have HB15 := Lib.hid hB15
        have hq15 : Below w15.heap.size w15 w15.drew := (Below.refl w15.heap.size w15).drew
        have hss : (s1 != s1) = false := by simp
        have hXC0 : (X : Int) ≤ cj := by omega
        obtain ⟨y3, y5, y6, y7, z5⟩ := cells4 bl15 b115 (Below.refl _ _)
        clear hhd hjl hsame hsj15 hB15 hsl15
        go_cut [145] (fun s145 wx => s145 = .bool false ∧ Below w15.heap.size w15 wx)
        case first =>
          go_region_held3 (fun w' => w'.cell? ⟨gl, 3, none⟩ = some (.bool false) ∧ w'.cell? ⟨gl, 5, none⟩ = some (.bool sl) ∧ w'.cell? ⟨gl, 6, none⟩ = some (.bool s1) ∧ w'.cell? ⟨gl, 7, none⟩ = some (.slice Al pl.length cl) ∧ w'.cell? ⟨g1, 5, none⟩ = some (.bool s1))
            (first | (exact cells4 bl15 b115 hq16) | (exact cells4 bl15 b115 hq15) | go_keep)
            (first
              | (go_at_call 42; refine (numB_any _ _).mono ?_; rintro e0 w0 ⟨rfl, rfl⟩)
              | (go_at_call 54; refine HJL.out.mono ?_; rintro e16 w16 ⟨v16, rfl, hv16, hb16⟩; obtain ⟨A16, c16, rfl, hs16, _⟩ := own_sl hv16; have hq16 : Below w15.heap.size w15 w16 := hq15.trans hb16)
              | (go_at_call 47; go_must ((refine (HSAME.out w16 hq16 A16 c16 hs16).mono ?_)); rintro e17 w17 ⟨rfl, rfl⟩)
              | fail)
          all_goals
            go_wp2_with fail
            go_meet
            case rel => exact ⟨rfl, hq16⟩
        case rest =>
          obtain ⟨rfl, hb17⟩ := hcut
          have hB17 := HB15.out.trans (hb17.mono HB15.out.size)
          go_wp2_with (go_at_call 38; refine (works33_any _).mono ?_; rintro e9 w9 ⟨rfl, hb9⟩)
          go_ret
          exact ⟨rfl, hB17.trans (hb9.mono hB17.size)⟩
      · have hd1 : decide ((a : Int) < b) = false := by simp; omega
        go_wp2_with (go_at_call 38; refine (works33_any _).mono ?_; rintro e9 w9 ⟨rfl, hb9⟩)
        go_ret
        exact ⟨rfl, hB13.trans (hb9.mono hB13.size)⟩
  · clear HG1 HG2
    go_wp2_with fail
    refine (HE1.out w2 hA1).mono ?_
    rintro e3 w3 ⟨hb3, sn3, po3, sg3, la3, off3, s3, e3, A3, n3, c3, rfl⟩
    have hb4 := hb3.alloc hb3.size (.cells #[.int .i64 sn3, .bool po3, .bool sg3, .bool la3, .int .i64 off3, .bool s3, .bool e3, .slice A3 n3 c3] 68)
    have hA4 := (hA1.below hb4).more hb4.size
    have bx4 := bx1.below hb4 bx1.lt
    have hB4 := hB1.trans (hb4.mono hB1.size)
    clear y0 y1 y2 y3 y4 y5 y6 y7 bx1 hA1 hB1 HE1 hb3 hb4
    obtain ⟨y0, y1, y2, y3, y4, y5, y6, y7⟩ := bx4.eight
    unfold apdu
    have hz1 := HE2.out _ hA4
    have HZ1 := Lib.hid hz1
    clear hz1 HE2 hA4 bx4
    go_wp2_with fail
    refine HZ1.out.mono ?_
    rintro e5 w5 ⟨hb5, sn5, po5, sg5, la5, off5, s5, e5, A5, n5, c5, rfl⟩
    have hB5 := hB4.trans (hb5.mono hB4.size)
    unfold apdu
    by_cases hz1 : er1 = 0
    · have hz2 : er2 ≠ 0 := fun h => hz ⟨hz1, h⟩
      have k1 : (er1 != 0) = false := by simpa using hz1
      have k2 : (er2 != 0) = true := by simpa using hz2
      clear hz hz1 hz2
      go_wp2_with (first | (go_at_call 42; refine (numB_any _ _).mono ?_; rintro e8 w8 ⟨rfl, rfl⟩) | (go_at_call 38; refine (works33_any _).mono ?_; rintro e9 w9 ⟨rfl, hb9⟩))
      go_ret
      exact ⟨rfl, (hB5.alloc hB5.size _).trans (hb9.mono (by have := hB5.size; simp; omega))⟩
    · have k1 : (er1 != 0) = true := by simpa using hz1
      clear hz hz1
      go_wp2_with (first | (go_at_call 42; refine (numB_any _ _).mono ?_; rintro e8 w8 ⟨rfl, rfl⟩) | (go_at_call 38; refine (works33_any _).mono ?_; rintro e9 w9 ⟨rfl, hb9⟩))
      go_ret
      exact ⟨rfl, (hB5.alloc hB5.size _).trans (hb9.mono (by have := hB5.size; simp; omega))⟩
end Go.Proofs.Ytchlbpfeiamieaa
