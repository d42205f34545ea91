/- law33.AmpduDecodes: the walk. -/
import Derived.Test.YtchlbpfeiamieaaH3
import Derived.Test.YtchlbpfeiamieaaH2
namespace Go.Proofs.Ytchlbpfeiamieaa
open Go.RowKit Go.Shelf

/-- a decoded PDU in memory -/
def PduAIs (base Bb : Nat) (w : World) (sn : Int) (po sg la : Bool) (off : Int) (s en : Bool) (ps : List (List UInt8)) (er : Int) (e : Ending) (w' : World) : Prop :=
  Below base w w' ∧ ∃ A c vs, e = .returned (.tuple #[.agg #[.int .i64 sn, .bool po, .bool sg, .bool la, .int .i64 off, .bool s, .bool en, .slice A ps.length c], .int .i64 er]) ∧ Stays base Bb w' A c vs ps
theorem decodesA_alike (bs : List UInt8) : ∃ (sn : Int) (po sg la : Bool) (off : Int) (s en : Bool) (ps : List (List UInt8)) (er : Int),
    (∀ A n c w, Sl w w.heap.size A n c (bvs bs) → n ≤ 1000000 → Calls Try.prog 39 #[.slice A n c] w (PduAIs w.heap.size 0 w sn po sg la off s en ps er)) ∧
    (∀ A n c w Bb, Sl w Bb A n c (bvs bs) → Bb ≤ w.heap.size → n ≤ 1000000 → Calls Try.prog 40 #[.slice A n c] w (PduAIs w.heap.size Bb w sn po sg la off s en ps er)) := by
  cases hR : decA bs with
  | inl er =>
    refine ⟨0, false, false, false, 0, false, false, [], er, fun A n c w h hn => ?_, fun A n c w Bb h hB hn => ?_⟩
    · have := decodeA_any A n c bs w h hn
      rw [hR] at this
      refine this.mono ?_
      rintro e w' ⟨hb, ⟨er', h1, rfl⟩ | ⟨_, _, _, h1, _⟩⟩
      · cases h1
        exact ⟨hb, none, 0, [], rfl, stays_nil _ _ _⟩
      · cases h1
    · have := rdecodeA_any A n c bs w Bb h hB hn
      rw [hR] at this
      refine this.mono ?_
      rintro e w' ⟨hb, ⟨er', h1, rfl⟩ | ⟨_, _, _, _, h1, _⟩⟩
      · cases h1
        exact ⟨hb, none, 0, [], rfl, stays_nil _ _ _⟩
      · cases h1
  | inr p =>
    refine ⟨p.sn, p.po, p.sg, p.la, p.off, p.s, p.e, p.ps, 0, fun A n c w h hn => ?_, fun A n c w Bb h hB hn => ?_⟩
    · have := decodeA_any A n c bs w h hn
      rw [hR] at this
      refine this.mono ?_
      rintro e w' ⟨hb, ⟨er', h1, rfl⟩ | ⟨p', A', c', h1, rfl, hpo⟩⟩
      · cases h1
      · cases h1
        obtain ⟨A2, c2, vs', he, hst⟩ := hpo.stays
        cases he
        exact ⟨hb, _, _, vs', rfl, hst⟩
    · have := rdecodeA_any A n c bs w Bb h hB hn
      rw [hR] at this
      refine this.mono ?_
      rintro e w' ⟨hb, ⟨er', h1, rfl⟩ | ⟨p', A', c', vs', h1, rfl, hst⟩⟩
      · cases h1
      · cases h1
        exact ⟨hb, A', c', vs', rfl, hst⟩

set_option maxRecDepth 100000 in
set_option maxHeartbeats 2000000 in
theorem ampduDecodes_walk (A : Option Addr) (n c : Nat) (bs : List UInt8) (w : World) (h : Sl w w.heap.size A n c (bvs bs)) :
    Calls Try.prog 9 #[.slice A n c] w (IsTrue w) := by
  obtain ⟨i0, hi, hz0, hz1, hz2⟩ := info_parts u8_info
  by_cases h1000 : 1000 < n
  · go_enter Try.func9, Try.ntmps9
    go_wp2_with (go_at_call 38; refine (works33_any _).mono ?_; rintro e2 w3 ⟨rfl, hb2⟩)
    go_ret
    exact ⟨rfl, hb2⟩
  obtain ⟨sn, po, sg, la, off, s, en, ps, er, hD, hR⟩ := decodesA_alike bs
  have HD := Lib.hid hD
  have HR := Lib.hid hR
  have hlit : (w.alloc (.cells #[] 5)).ownsRow w.heap.size 5 1 (.slice (some ⟨w.heap.size, 0, none⟩) 0 0) 0 [] := World.ownsRow_lit w #[] 0 (Nat.le_refl _) (by unfold maxLen; omega) rfl
  have hs := h.alloc (Nat.le_refl _) (.cells #[] 5)
  have hb2 := (Below.refl w.heap.size w).alloc (Nat.le_refl _) (.cells #[] 5)
  have hd1 : decide ((1000 : Int) < n) = false := by simp; omega
  clear hD hR
  go_enter Try.func9, Try.ntmps9
  go_wp2_with (at_builtin; refine wpList_append_sl _ rfl (.tmp 13) (.tmp 14) 29 rfl w.heap.size 5 i0 (.int .u8 0) 1 und29 hi hz0 hz1 hz2 rfl _ 0 [] rfl hlit w.heap.size A n c (bvs bs) rfl hs (one_bvs _) ?c3 ?c4 ?c5 ?_)
  case c3 => unfold maxLen; omega
  case c4 => omega
  case c5 => simp
  intro v1 w1 hown1 hgrow1 _
  have hB1 := hb2.grown hgrow1 hb2.size (fun g e => by simp [Value.ownBlock] at e; omega)
  obtain ⟨A1, c1, rfl, hs1, _⟩ := own_sl hown1
  have HGB := Lib.hid (fun j (hj : (Value.slice A1 n c1).ownBlock = some j) => hown1.lt j hj)
  clear hs hb2 hgrow1 hlit
  go_wp2_with fail
  refine (HD.out A1 n c1 w1 hs1 (by omega)).mono ?_
  rintro e2 w2 ⟨hb2, Ap, cp, vsp, rfl, hst2⟩
  have hown2 := own_below hown1 hb2 (Nat.le_refl _)
  have hB2 := hB1.trans (hb2.mono hB1.size)
  have hz2' := hb2.size
  have hz1' := hB1.size
  clear HD hs1 hown1 hb2
  go_wp2_with fail
  have hb3 := (Below.refl w2.heap.size w2).alloc (Nat.le_refl _) (.cells #[.int .i64 sn, .bool po, .bool sg, .bool la, .int .i64 off, .bool s, .bool en, .slice Ap ps.length cp] 68)
  have bp3 := Blk.new w2 68 #[.int .i64 sn, .bool po, .bool sg, .bool la, .int .i64 off, .bool s, .bool en, .slice Ap ps.length cp]
  have hst3 := hst2.below hb3 (Nat.le_refl _) (Nat.zero_le _)
  have hown3 := hown2.alloc (.cells #[.int .i64 sn, .bool po, .bool sg, .bool la, .int .i64 off, .bool s, .bool en, .slice Ap ps.length cp] 68)
  have hB3 := hB2.trans (hb3.mono hB2.size)
  have hz3 : w2.heap.size + 1 = (w2.alloc (.cells #[.int .i64 sn, .bool po, .bool sg, .bool la, .int .i64 off, .bool s, .bool en, .slice Ap ps.length cp] 68)).heap.size := by simp
  generalize w2.alloc (.cells #[.int .i64 sn, .bool po, .bool sg, .bool la, .int .i64 off, .bool s, .bool en, .slice Ap ps.length cp] 68) = w3 at *
  generalize w2.heap.size = gp at *
  have HZ3 := Lib.hid hz3
  clear hst2 hown2 hB2 hb3 hz3
  refine (HR.out A n c w3 w.heap.size (h.below hB3) hB3.size (by omega)).mono ?_
  rintro e4 w4 ⟨hb4, Aq, cq, vsq, rfl, hst4⟩
  have hz4 := hb4.size
  have bp4 := bp3.below hb4 bp3.lt
  have hstp4 := hst3.below hb4 (Nat.le_refl _) (Nat.zero_le _)
  have hown4 := own_below hown3 hb4 (Nat.le_refl _)
  have hB4 := hB3.trans (hb4.mono hB3.size)
  clear HR bp3 hst3 hown3 hB3 hb4
  go_wp2
  have hb5 := (Below.refl w4.heap.size w4).alloc (Nat.le_refl _) (.cells #[.int .i64 sn, .bool po, .bool sg, .bool la, .int .i64 off, .bool s, .bool en, .slice Aq ps.length cq] 68)
  have bq5 := Blk.new w4 68 #[.int .i64 sn, .bool po, .bool sg, .bool la, .int .i64 off, .bool s, .bool en, .slice Aq ps.length cq]
  have bp5 := bp4.alloc (.cells #[.int .i64 sn, .bool po, .bool sg, .bool la, .int .i64 off, .bool s, .bool en, .slice Aq ps.length cq] 68)
  have hstq5 := hst4.below hb5 (Nat.le_refl _) (by have := hB4.size; omega)
  have hstp5 := hstp4.below hb5 (Nat.le_refl _) (Nat.zero_le _)
  have hown5 := hown4.alloc (.cells #[.int .i64 sn, .bool po, .bool sg, .bool la, .int .i64 off, .bool s, .bool en, .slice Aq ps.length cq] 68)
  have hB5 := hB4.alloc hB4.size (.cells #[.int .i64 sn, .bool po, .bool sg, .bool la, .int .i64 off, .bool s, .bool en, .slice Aq ps.length cq] 68)
  generalize w4.alloc (.cells #[.int .i64 sn, .bool po, .bool sg, .bool la, .int .i64 off, .bool s, .bool en, .slice Aq ps.length cq] 68) = w5 at *
  generalize w4.heap.size = gq at *
  clear hst4 hstp4 hown4 hB4 hb5 bp4 hd1
  go_loopw [8] (fun i wr => ∃ k : Nat, k ≤ n ∧ i = .int .i64 k ∧ (∃ ys : List UInt8, wr.ownsRow w.heap.size 5 1 (.slice A1 n c1) n (bvs ys)) ∧ Kept (fun j _ => (Value.slice A1 n c1).ownBlock = some j) w5 wr) (fun i _ => n - (intOf i).toNat)
  case atStart => exact ⟨0, Nat.zero_le _, rfl, ⟨bs, hown5⟩, Kept.refl _ _⟩
  case round =>
    obtain ⟨k, hk, rfl, ⟨ys, hown⟩, hkp⟩ := hrel
    by_cases hlt : k < n
    · obtain ⟨g, cap, he, hgl, hgl2⟩ := hown.form (by omega)
      cases he
      have hyl : ys.length = n := by have := (own_sl' hown).len; simpa using this
      obtain ⟨y, hy⟩ : ∃ y, ys[k]? = some y := ⟨_, List.getElem?_eq_getElem (by omega)⟩
      have hc := hown.cellAt k (by omega)
      have hyv : (bvs ys)[k]? = some (.int .u8 (y.toNat : Int)) := by simp [bvs, bv, hy]
      rw [hyv] at hc
      have hf := hown.frozenAt k
      have hst := fun u => (hown.stored k u).1
      have HST := Lib.hid hst
      have hyb := y.toNat_lt
      have hinc := bv_inc y.toNat
      generalize y.toNat = x at *
      have HINC := Lib.hid hinc
      clear hst hinc hyv hy hyl
      go_wp2
      go_roundw
      case rel =>
        refine ⟨k + 1, by omega, by go_num, ⟨ys.set k (UInt8.ofNat ((x + 1) % 256)), ?_⟩, hkp.setCell (p := ⟨g, k, none⟩) (fun _ _ => rfl) _⟩
        rw [← bvs_set, ← HINC.out]
        exact HST.out _
      case measure => simp [intOf]; omega
    · have hgb := HGB.out
      have hw5 := hB5.size
      have bp6 := bp5.kept hkp (fun e => own_blk_ne hown5 bp5 (by decide) e)
      have bq6 := bq5.kept hkp (fun e => own_blk_ne hown5 bq5 (by decide) e)
      have hgq : w3.heap.size ≤ w5.heap.size := by have := bq5.lt; omega
      have hz3' := HZ3.out
      have hsp := (hstp5.more (w2 := wr) (fun p hp => hkp.cell' (by omega) (fun _ e => by have := (hgb _ e).2; omega)) hkp.size).sls
      have hsq := (hstq5.more (w2 := wr) (fun p hp => hkp.cell' (by omega) (fun _ e => by have := hgb _ e; omega)) hkp.size).sls
      have hB6 : Below w.heap.size w wr := hB5.trans (hkp.below (B := w.heap.size) (fun k _ e => (hgb _ e).1) hw5)
      obtain ⟨x0, x1, x2, x3, x4, x5, x6, x7, y0, y1, y2, y3, y4, y5, y6, y7⟩ := held16 bp6 bq6
      have hsm := sameRA_any sn po sg la off s en Ap ps.length cp vsp ps sn po sg la off s en Aq ps.length cq vsq ps wr hsp hsq
      rw [sameP_refl] at hsm
      unfold apdu at hsm
      have HSM := Lib.hid hsm
      have hee : (er == er) = true := by simp
      clear hsm hgb HGB hstp5 hstq5 hsp hsq hkp hown bp5 bq5 hown5 hz3' HZ3
      go_wp2_with fail
      refine HSM.out.mono ?_
      rintro e7 w7 ⟨rfl, hb7⟩
      have hB7 := hB6.trans (hb7.mono hB6.size)
      go_wp2_with (first | (go_at_call 42; refine (numB_any _ _).mono ?_; rintro e8 w8 ⟨rfl, rfl⟩) | (go_at_call 38; refine (works33_any _).mono ?_; rintro e9 w9 ⟨rfl, hb9⟩))
      go_ret
      exact ⟨rfl, hB7.trans (hb9.mono hB7.size)⟩
end Go.Proofs.Ytchlbpfeiamieaa
