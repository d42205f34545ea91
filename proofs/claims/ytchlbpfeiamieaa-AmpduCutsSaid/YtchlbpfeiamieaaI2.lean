/- law33.AmpduCuts: the walk. -/
import Derived.Test.YtchlbpfeiamieaaI1
import Derived.Test.YtchlbpfeiamieaaH5
namespace Go.Proofs.Ytchlbpfeiamieaa
open Go.RowKit Go.Shelf
attribute [local go_sem] Oper.semAt_some

/-- a PDU with memory of its own, and an error -/
def CutPdu (w : World) (sn : Int) (po sg la : Bool) (off : Int) (s e : Bool) (qs : List (List UInt8)) (er : Int) (en : Ending) (w' : World) : Prop :=
  Below w.heap.size w w' ∧ ∃ A c, en = .returned (.tuple #[.agg #[.int .i64 sn, .bool po, .bool sg, .bool la, .int .i64 off, .bool s, .bool e, .slice A qs.length c], .int .i64 er]) ∧ PartsOwn w' w.heap.size (.slice A qs.length c) qs
/-- a PDU, and an error -/
def RCutPdu (w : World) (sn : Int) (po sg la : Bool) (off : Int) (s e : Bool) (qs : List (List UInt8)) (er : Int) (en : Ending) (w' : World) : Prop :=
  Below w.heap.size w w' ∧ ∃ A c vs, en = .returned (.tuple #[.agg #[.int .i64 sn, .bool po, .bool sg, .bool la, .int .i64 off, .bool s, .bool e, .slice A qs.length c], .int .i64 er]) ∧ Sls w' w'.heap.size A qs.length c vs qs
set_option maxRecDepth 100000 in
theorem cutsA_alike (sn : Int) (po sg la : Bool) (off : Int) (s e : Bool) (A : Option Addr) (n c : Nat) (vs : List Value) (ps : List (List UInt8)) (fr till : Int) (hn : n ≤ 1048576) (hle : ∀ p ∈ ps, p.length ≤ 1099511627776) :
    ∃ (sn' : Int) (po' sg' la' : Bool) (off' : Int) (s' e' : Bool) (qs : List (List UInt8)) (er : Int),
      (∀ w : World, Sls w w.heap.size A n c vs ps → Calls Try.prog 44 #[.agg #[.int .i64 sn, .bool po, .bool sg, .bool la, .int .i64 off, .bool s, .bool e, .slice A n c], .int .i64 fr, .int .i64 till] w (CutPdu w sn' po' sg' la' off' s' e' qs er)) ∧
      (∀ w : World, Sls w w.heap.size A n c vs ps → Calls Try.prog 45 #[.agg #[.int .i64 sn, .bool po, .bool sg, .bool la, .int .i64 off, .bool s, .bool e, .slice A n c], .int .i64 fr, .int .i64 till] w (RCutPdu w sn' po' sg' la' off' s' e' qs er)) ∧ qs.length ≤ 1048576 := by
  have k44 : ∀ (w w' : World) (er : Int) (en : Ending), CutFails w er en w' → CutPdu w 0 false false false 0 false false [] er en w' := fun w w' er en ⟨h1, h2⟩ => ⟨h2, none, 0, h1, [], World.ownsRow_nil _ _ _ _, by simp⟩
  have k45 : ∀ (w w' : World) (er : Int) (en : Ending), CutFails w er en w' → RCutPdu w 0 false false false 0 false false [] er en w' := fun w w' er en ⟨h1, h2⟩ => ⟨h2, none, 0, [], h1, Sl.nil_.2 (by omega), rfl, by simp⟩
  cases hv : validA sn sg la off ps with
  | false => exact ⟨_, _, _, _, _, _, _, [], 2, fun w h => (cutA_bad sn po sg la off s e A n c vs ps fr till w h hn hle hv).mono fun _ _ hh => k44 _ _ _ _ hh, fun w h => (rcutA_bad sn po sg la off s e A n c vs ps fr till w h hn hle hv).mono fun _ _ hh => k45 _ _ _ _ hh, by simp⟩
  | true =>
    obtain ⟨m, o, rfl, rfl, ho⟩ := validA_nat hv
    by_cases hr : fr < o ∨ till ≤ fr ∨ (o : Int) + sumLen ps < till
    · exact ⟨_, _, _, _, _, _, _, [], 6, fun w h => (cutA_range m po sg la o s e A n c vs ps fr till w h hv ho hr).mono fun _ _ hh => k44 _ _ _ _ hh, fun w h => (rcutA_range m po sg la o s e A n c vs ps fr till w h hv ho hr).mono fun _ _ hh => k45 _ _ _ _ hh, by simp⟩
    · obtain ⟨x, rfl⟩ : ∃ x : Nat, fr = x := ⟨fr.toNat, by omega⟩
      obtain ⟨y, rfl⟩ : ∃ y : Nat, till = y := ⟨till.toNat, by omega⟩
      refine ⟨m, false, true, (decide (y = o + sumLen ps) && (la || !sg)), x, cutStarts ps s o x n, cutEnds ps e o y n, cutParts ps o x y n, 0, fun w h => ?_, fun w h => ?_, ?_⟩
      · exact (cutA_ok m po sg la o s e A n c vs ps x y w h hv ho (by omega) (by omega) (by omega)).mono fun _ _ hh => hh
      · exact (rcutA_ok m po sg la o s e A n c vs ps x y w h hv ho (by omega) (by omega) (by omega)).mono fun _ _ hh => hh
      · have := cutParts_length ps o x y n; omega

/-- a row of bytes, whichever -/
def AnyRow (w : World) (base : Nat) (v : Value) (n : Nat) : Prop := ∃ ys : List UInt8, w.ownsRow base 5 1 v n (bvs ys)
theorem AnyRow.stored {w : World} {base b2 : Nat} {v : Value} {n g m cap k : Nat} {zs : List UInt8} (h : AnyRow w base v n) (hg : w.ownsRow b2 5 1 (.slice (some ⟨g, 0, none⟩) m cap) m (bvs zs)) (y : UInt8) : AnyRow (w.setCell ⟨g, k, none⟩ (bv y)) base v n := by
  obtain ⟨ys, h⟩ := h
  by_cases hv : v.ownBlock = some g
  · rcases h.2 with ⟨rfl, _⟩ | ⟨g', cap', cur, rfl, hb, hh, _⟩
    · simp [Value.ownBlock] at hv
    · have e : g' = g := by simpa [Value.ownBlock] using hv
      subst e
      refine ⟨ys.set k y, ?_⟩
      rw [← bvs_set]
      exact (h.stored k (bv y)).1
  · exact ⟨ys, h.kept (hg.stored k (bv y)).2 (.inr hv)⟩
/-- rows of bytes of a PDU -/
def AnyParts (w : World) (base : Nat) (vs : List Value) (qs : List (List UInt8)) : Prop := ∀ (i : Nat) (q : List UInt8), qs[i]? = some q → ∃ A c, vs[i]? = some (.slice A q.length c) ∧ AnyRow w base (.slice A q.length c) q.length
theorem own_keptM {M : Nat → Obj → Prop} {w w' : World} {base : Nat} {e : TypeId} {n : Nat} {v : Value} {xs : List Value} (h : w.ownsRow base e 1 v n xs) (hk : Kept M w w') (hn : ∀ g o, v.ownBlock = some g → w.heap[g]? = some o → ¬ M g o) : w'.ownsRow base e 1 v n xs := by
  rcases h.2 with ⟨rfl, h0⟩ | ⟨g, cap, cur, rfl, hb, hh, hr⟩
  · exact ⟨h.1, .inl ⟨rfl, h0⟩⟩
  · exact ⟨h.1, .inr ⟨g, cap, cur, rfl, hb, hk.same g _ hh (hn g _ (by simp [Value.ownBlock]) hh), hr⟩⟩
/-- the rows of bytes of a segment -/
def MRow (base z k : Nat) (o : Obj) : Prop := base ≤ k ∧ k < z ∧ IsRow o 5
theorem not_mrow {base z g : Nat} {cs : Array Value} {t : TypeId} {fr : Nat × Nat} (ht : t ≠ 5) : ¬ MRow base z g (.cells cs t fr) := by
  rintro ⟨_, _, cs', fr', e⟩
  cases e
  exact ht rfl

set_option maxRecDepth 100000 in
set_option maxHeartbeats 4000000 in
theorem ampduCuts_walk (sn : Int) (po sg la : Bool) (off : Int) (s e : Bool) (A : Option Addr) (n c : Nat) (vs : List Value) (ps : List (List UInt8)) (x1 x2 : Int) (w : World) (_hsn : -9223372036854775808 ≤ sn ∧ sn ≤ 9223372036854775807) (_hoff : -9223372036854775808 ≤ off ∧ off ≤ 9223372036854775807) (h : Sls w w.heap.size A n c vs ps)
    (_hx1 : -9223372036854775808 ≤ x1 ∧ x1 ≤ 9223372036854775807) (_hx2 : -9223372036854775808 ≤ x2 ∧ x2 ≤ 9223372036854775807) :
    Calls Try.prog 10 #[.agg (apdu sn po sg la off s e A n c), .int .i64 x1, .int .i64 x2] w (IsTrue w) := by
  have hB := (Below.refl w.heap.size w).alloc (Nat.le_refl _) (.cells (apdu sn po sg la off s e A n c) 68)
  have hA := (h.below hB).more hB.size
  have bx := Blk.new w 68 (apdu sn po sg la off s e A n c)
  have hL := h.len
  have HL := Lib.hid hL
  have hfa := fewA_any sn po sg la off s e A n c vs ps _ hA
  have HFA := Lib.hid hfa
  have HC := Lib.hid (cutsA_alike sn po sg la off s e A n c vs ps x1 x2)
  have HA := Lib.hid (encodesA_alike sn po sg la off s e A n c vs ps)
  clear h hL hfa
  unfold apdu at *
  go_enter Try.func10, Try.ntmps10
  go_wp2_with fail
  refine HFA.out.mono ?_
  generalize w.alloc (.cells #[.int .i64 sn, .bool po, .bool sg, .bool la, .int .i64 off, .bool s, .bool e, .slice A n c] 68) = w1 at *
  rintro e1 w2 ⟨⟨r1, rfl, hfew⟩, hb1⟩
  have hB1 : Below w.heap.size w w2 := hB.trans (hb1.mono hB.size)
  have hA1 := (hA.below hb1).more hb1.size
  have bx1 := bx.below hb1 bx.lt
  clear hb1 hA bx hB HFA
  cases r1 with
  | false =>
    clear hfew
    go_wp2_with (go_at_call 38; refine (works33_any _).mono ?_; rintro e2 w3 ⟨rfl, hb2⟩)
    go_ret
    exact ⟨rfl, hB1.trans (hb2.mono hB1.size)⟩
  | true =>
  obtain ⟨h70, h4, _⟩ := hfew rfl
  have hn : n ≤ 1048576 := by have := HL.out; omega
  have hle : ∀ p ∈ ps, p.length ≤ 1099511627776 := fun p hp => by have := h4 p hp; omega
  obtain ⟨sn', po', sg', la', off', s', e', qs, er, hK1, hK2, hql⟩ := HC.out hn hle
  obtain ⟨l, er', _, hE⟩ := HA.out hn hle
  have HK1 := Lib.hid hK1
  have HK2 := Lib.hid hK2
  have HE := Lib.hid hE
  clear hfew h4 h70 HC HA hK1 hK2 hE hn hle HL
  obtain ⟨y0, y1, y2, y3, y4, y5, y6, y7⟩ := bx1.eight
  go_wp2_with fail
  refine (HK1.out w2 hA1).mono ?_
  rintro e3 w3 ⟨hb3, A3, c3, rfl, hpo⟩
  obtain ⟨vs3, hrow3, hpart3⟩ := hpo
  obtain ⟨vs3', hs3⟩ := PartsOwn.sls ⟨vs3, hrow3, hpart3⟩
  have hb4 := (Below.refl w3.heap.size w3).alloc (Nat.le_refl _) (.cells #[.int .i64 sn', .bool po', .bool sg', .bool la', .int .i64 off', .bool s', .bool e', .slice A3 qs.length c3] 68)
  have bs4 := Blk.new w3 68 #[.int .i64 sn', .bool po', .bool sg', .bool la', .int .i64 off', .bool s', .bool e', .slice A3 qs.length c3]
  have hq4 := hb3.trans (hb4.mono hb3.size)
  have hA4 := hA1.below hq4
  have hA4' := hA4.more hq4.size
  have hz3 := hb3.size
  have hlw2 := Lib.hid hB1.size
  have bx4 := bx1.below hq4 bx1.lt
  have hB4 := hB1.trans (hq4.mono hB1.size)
  have hsz4 : w3.heap.size + 1 = (w3.alloc (.cells #[.int .i64 sn', .bool po', .bool sg', .bool la', .int .i64 off', .bool s', .bool e', .slice A3 qs.length c3] 68)).heap.size := by simp
  have HSZ4 := Lib.hid hsz4
  have hz2 := HK2.out _ hA4'
  have HZ2 := Lib.hid hz2
  clear y0 y1 y2 y3 y4 y5 y6 y7 bx1 hA1 hB1 HK1 HK2 hb3 hz2 hsz4 hA4'
  obtain ⟨y0, y1, y2, y3, y4, y5, y6, y7⟩ := bx4.eight
  go_wp2_with fail
  refine HZ2.out.mono ?_
  generalize w3.alloc (.cells #[.int .i64 sn', .bool po', .bool sg', .bool la', .int .i64 off', .bool s', .bool e', .slice A3 qs.length c3] 68) = w4 at *
  rintro e5 w5 ⟨hb5, A5, c5, vs5, rfl, hs5⟩
  have hb6 := (Below.refl w5.heap.size w5).alloc (Nat.le_refl _) (.cells #[.int .i64 sn', .bool po', .bool sg', .bool la', .int .i64 off', .bool s', .bool e', .slice A5 qs.length c5] 68)
  have bw6 := Blk.new w5 68 #[.int .i64 sn', .bool po', .bool sg', .bool la', .int .i64 off', .bool s', .bool e', .slice A5 qs.length c5]
  have hq6 := hb5.trans (hb6.mono hb5.size)
  have hs56 := (hs5.below hb6).more hb6.size
  have hz46 := hq6.size
  have hz4 := HSZ4.out
  have hq36 := hb4.trans (hq6.mono (by omega))
  have hs36 := (hs3.below hq36).more hq36.size
  have bs6 := bs4.below hq6 bs4.lt
  have bx6 := bx4.below hq6 bx4.lt
  have hA6 := hA4.below (hq6.mono (by omega))
  have hB6 := hB4.trans (hq6.mono hB4.size)
  have hsm := sameRA_any sn' po' sg' la' off' s' e' A3 qs.length c3 vs3' qs sn' po' sg' la' off' s' e' A5 qs.length c5 vs5 qs _ hs36 hs56
  rw [sameP_refl] at hsm
  unfold apdu at hsm
  have HSM := Lib.hid hsm
  have hee : (er != er) = false := by simp
  clear y0 y1 y2 y3 y4 y5 y6 y7 hb4 hb5 hb6 bs4 bx4 hA4 hB4 hs5 hs56 hs36 hs3 HZ2 hsm hz4 hq4
  obtain ⟨y0, y1, y2, y3, y4, y5, y6, y7, z0, z1, z2, z3, z4, z5, z6, z7⟩ := held16 bs6 bw6
  go_wp2_with fail
  refine HSM.out.mono ?_
  generalize w5.alloc (.cells #[.int .i64 sn', .bool po', .bool sg', .bool la', .int .i64 off', .bool s', .bool e', .slice A5 qs.length c5] 68) = w6 at *
  rintro e7 w7 ⟨rfl, hb7⟩
  have bs7 := bs6.below hb7 bs6.lt
  have bx7 := bx6.below hb7 bx6.lt
  have hz4 := HSZ4.out
  have hz67 := hb7.size
  have hA7 := hA6.below (hb7.mono (by omega))
  have hA7' := hA7.more (show w2.heap.size ≤ w7.heap.size by omega)
  have hq37 := hq36.trans (hb7.mono (by omega))
  have hB7 := hB6.trans (hb7.mono hB6.size)
  have hz7 := HE.out w7 hA7'
  unfold apdu at hz7
  have HZ7 := Lib.hid hz7
  clear y0 y1 y2 y3 y4 y5 y6 y7 z0 z1 z2 z3 z4 z5 z6 z7 bs6 bw6 bx6 hA6 hB6 hb7 HSM hz7 hA7' hq36 hq6
  obtain ⟨y0, y1, y2, y3, y4, y5, y6, y7⟩ := bx7.eight
  go_wp2_with (go_at_call 42; refine (numB_any _ _).mono ?_; rintro e0 w0 ⟨rfl, rfl⟩)
  refine HZ7.out.mono ?_
  rintro e8 w8 ⟨v8, rfl, hv8, hb8⟩
  obtain ⟨A8, c8, rfl, hs8, _⟩ := own_sl hv8
  have bs8 := bs7.below hb8 bs7.lt
  have bx8 := bx7.below hb8 bx7.lt
  have hA8 := hA7.below (hb8.mono (by omega))
  have hB8 := hB7.trans (hb8.mono hB7.size)
  have hz78 := hb8.size
  have hq38 := hq37.trans (hb8.mono (by omega))
  have hrow8 := own_below hrow3 hq38 (Nat.le_refl _)
  have hpart8 : ∀ (i : Nat) (p : List UInt8), qs[i]? = some p → ∃ A c, vs3[i]? = some (.slice A p.length c) ∧ w8.ownsRow w2.heap.size 5 1 (.slice A p.length c) p.length (bvs p) ∧ (∀ g, (Value.slice A p.length c).ownBlock = some g → g < w3.heap.size) := fun i p hi => by
    obtain ⟨A', c', h1, h2⟩ := hpart3 i p hi
    exact ⟨A', c', h1, own_below h2 hq38 (Nat.le_refl _), fun g hg => (h2.lt g hg).2⟩
  clear y0 y1 y2 y3 y4 y5 y6 y7 bs7 bx7 hA7 hB7 hb8 HZ7 hq37 hq38 hrow3 hpart3 hs8
  have HP8 := Lib.hid hpart8
  have hv8b : ∀ g o, (Value.slice A8 l.length c8).ownBlock = some g → w8.heap[g]? = some o → ¬ MRow w2.heap.size w3.heap.size g o := fun g o hg _ hm => by have := (hv8.lt g hg).1; have := hm.2.1; omega
  have HV8 := Lib.hid hv8b
  clear hpart8 hv8b
  generalize hm : qs.length = m at *
  have HM := Lib.hid hm
  clear hm
  go_wp2
  go_loopw [13] (fun i wr => ∃ k : Nat, k ≤ m ∧ i = .int .i64 k ∧ AnyParts wr w2.heap.size vs3 qs ∧ Kept (MRow w2.heap.size w3.heap.size) w8 wr) (fun i _ => m - (intOf i).toNat)
  case atStart => exact ⟨0, Nat.zero_le _, rfl, fun i q hi => let ⟨A', c', h1, h2, _⟩ := HP8.out i q hi; ⟨A', c', h1, q, h2⟩, Kept.refl _ _⟩
  case round =>
    obtain ⟨k, hk, rfl, hap, hkp⟩ := hrel
    have bsr := bs8.kept hkp (not_mrow (by decide))
    have hrr := own_keptM hrow8 hkp (fun g o hg ho => by
      obtain ⟨o', ho', ⟨cs, fr, rfl⟩, _⟩ := own_isRow hrow8 hg
      rw [ho] at ho'
      cases ho'
      exact not_mrow (by decide))
    obtain ⟨y0, y1, y2, y3, y4, y5, y6, y7⟩ := bsr.eight
    by_cases hlt : k < m
    · obtain ⟨g29, cap29, he29, hg1, hg2⟩ := hrr.form (by omega)
      cases he29
      obtain ⟨q, hq⟩ : ∃ q, qs[k]? = some q := ⟨_, List.getElem?_eq_getElem (by rw [HM.out]; exact hlt)⟩
      have hcell := hrr.cellAt k (by omega)
      obtain ⟨Aq, cq, hvq, hanyq⟩ := hap k q hq
      rw [hvq] at hcell
      have HQ := Lib.hid hq
      have HVQ := Lib.hid hvq
      have hqcap : q.length ≤ 9223372036854775807 := by
        obtain ⟨ys, h⟩ := hanyq
        have h1 := (own_sl' h).cap
        have h2 := (own_sl' h).mx
        omega
      clear hq hvq
      go_wp2
      go_loopw [14] (fun j wr' => ∃ t : Nat, t ≤ q.length ∧ j = .int .i64 t ∧ AnyParts wr' w2.heap.size vs3 qs ∧ Kept (MRow w2.heap.size w3.heap.size) w8 wr') (fun j _ => q.length - (intOf j).toNat)
      case atStart => exact ⟨0, Nat.zero_le _, rfl, hap, hkp⟩
      case round =>
        clear hap hkp bsr hrr y0 y1 y2 y3 y4 y5 y6 y7 hcell hanyq
        obtain ⟨t, ht, rfl, hap, hkp⟩ := hrel
        have bsr := bs8.kept hkp (not_mrow (by decide))
        have hrr := own_keptM hrow8 hkp (fun g o hg ho => by
          obtain ⟨o', ho', ⟨cs, fr, rfl⟩, _⟩ := own_isRow hrow8 hg
          rw [ho] at ho'
          cases ho'
          exact not_mrow (by decide))
        obtain ⟨y0, y1, y2, y3, y4, y5, y6, y7⟩ := bsr.eight
        have hcell := hrr.cellAt k (by omega)
        rw [HVQ.out] at hcell
        by_cases htl : t < q.length
        · obtain ⟨Aq', cq', hvq, ys, hany⟩ := hap k q HQ.out
          rw [HVQ.out] at hvq
          cases hvq
          obtain ⟨gq, capq, heq, hgq1, hgq2⟩ := hany.form (by omega)
          cases heq
          have hyl : ys.length = q.length := by have := (own_sl' hany).len; simpa using this
          obtain ⟨y, hy⟩ : ∃ y, ys[t]? = some y := ⟨_, List.getElem?_eq_getElem (by omega)⟩
          have hc := hany.cellAt t (by omega)
          have hyv : (bvs ys)[t]? = some (.int .u8 (y.toNat : Int)) := by simp [bvs, bv, hy]
          rw [hyv] at hc
          have hf := hany.frozenAt t
          have hM : ∀ o, w8.heap[gq]? = some o → MRow w2.heap.size w3.heap.size gq o := fun o ho => by
            obtain ⟨A', c', h1, h2, h3⟩ := HP8.out k q HQ.out
            rw [HVQ.out] at h1
            cases h1
            obtain ⟨o', ho', hr, hb⟩ := own_isRow h2 (k := gq) (by simp [Value.ownBlock])
            rw [ho] at ho'
            cases ho'
            exact ⟨hb, h3 gq (by simp [Value.ownBlock]), hr⟩
          have hyb := y.toNat_lt
          have hinc := bv_inc y.toNat
          have hst : AnyParts (wr.setCell ⟨gq, t, none⟩ (bv (UInt8.ofNat ((y.toNat + 1) % 256)))) w2.heap.size vs3 qs := fun i q' hi => by
            obtain ⟨A', c', h1, h2⟩ := hap i q' hi
            exact ⟨A', c', h1, h2.stored hany _⟩
          rw [← hinc] at hst
          have hkp' := hkp.setCell (p := ⟨gq, t, none⟩) hM (.int .u8 (((y.toNat : Int) + 1) % 256))
          generalize y.toNat = x at *
          have HST := Lib.hid hst
          have HKP := Lib.hid hkp'
          clear hst hkp' hinc hyv hy hyl hM hany
          go_wp2
          go_roundw
          case rel => exact ⟨t + 1, by omega, by go_num, HST.out, HKP.out⟩
          case measure => simp [intOf]; omega
        · go_wp2
          go_roundw
          case rel => exact ⟨k + 1, by omega, by go_num, hap, hkp⟩
          case measure => simp [intOf]; omega
    · have bxr := bx8.kept hkp (not_mrow (by decide))
      have hzr := hkp.size
      have hAr := (hA8.keep (w' := wr) fun p hp => hkp.cell' (by omega) (fun o hm => by have := hm.1; omega)).more (show w2.heap.size ≤ wr.heap.size by omega)
      have hBr : Below w.heap.size w wr := hB8.trans (hkp.below (B := w.heap.size) (fun k _ hm => by have := hm.1; have := hlw2.out; omega) hB8.size)
      have hvr := own_keptM hv8 hkp HV8.out
      have hzE := HE.out wr hAr
      unfold apdu at hzE
      have HZE := Lib.hid hzE
      clear hzE HE hap hkp hrr bsr hAr
      obtain ⟨t0, t1, t2, t3, t4, t5, t6, t7⟩ := bxr.eight
      go_wp2_with fail
      refine HZE.out.mono ?_
      rintro e9 w9 ⟨v9, rfl, hv9, hb9⟩
      obtain ⟨A9, c9, rfl, hs9, _⟩ := own_sl hv9
      have hs89 := own_sl' (own_below hvr hb9 (Nat.le_refl _))
      have hB9 := hBr.trans (hb9.mono hBr.size)
      have hsame := sameB_any A8 l.length c8 l A9 l.length c9 l w9 _ _ hs89 hs9
      rw [show decide (l = l) = true by simp] at hsame
      have HSAME := Lib.hid hsame
      clear hsame hs89 hs9 hv9 hb9 hvr hBr y0 y1 y2 y3 y4 y5 y6 y7 t0 t1 t2 t3 t4 t5 t6 t7
      go_wp2_with (first | (go_at_call 47; refine HSAME.out.mono ?_; rintro e4 w4 ⟨rfl, rfl⟩) | (go_at_call 38; refine (works33_any _).mono ?_; rintro e4 w12 ⟨rfl, hb12⟩))
      go_ret
      exact ⟨rfl, hB9.trans (hb12.mono hB9.size)⟩
end Go.Proofs.Ytchlbpfeiamieaa
