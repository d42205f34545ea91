/- law33.AmpduEncodes: the walk. -/
import Derived.Test.YtchlbpfeiamieaaH1
import Derived.Test.YtchlbpfeiamieaaG3
import Derived.Test.YtchlbpfeiamieaaGa
namespace Go.Proofs.Ytchlbpfeiamieaa
open Go.RowKit Go.Shelf
attribute [local go_sem] Oper.semAt_some
attribute [local go_sem ↓] Go.wp_at_zero Go.wp_at_succ

theorem validA_nat {sn : Int} {sg la : Bool} {off : Int} {ps : List (List UInt8)} (h : validA sn sg la off ps = true) : ∃ (m o : Nat), sn = m ∧ off = o ∧ o ≤ 32767 := by
  have hv := (validA_iff _ _ _ _ _).1 h
  have h0 := hv.sn0
  cases sg with
  | true => have := hv.seg rfl; exact ⟨sn.toNat, off.toNat, by omega, by omega, by omega⟩
  | false => have := hv.whole rfl; exact ⟨sn.toNat, 0, by omega, by omega, by omega⟩
theorem encodesA_alike (sn : Int) (po sg la : Bool) (off : Int) (s e : Bool) (A : Option Addr) (n c : Nat) (vs : List Value) (ps : List (List UInt8)) (hn : n ≤ 1048576) (hle : ∀ p ∈ ps, p.length ≤ 1099511627776) :
    ∃ (l : List UInt8) (er : Int), (∀ w : World, Sls w w.heap.size A n c vs ps → Calls Try.prog 48 #[.agg (apdu sn po sg la off s e A n c)] w (GivesRowErr w.heap.size 5 w l.length (bvs l) er)) ∧
      (∀ w : World, Sls w w.heap.size A n c vs ps → Calls Try.prog 46 #[.agg (apdu sn po sg la off s e A n c)] w (GivesRowErr w.heap.size 5 w l.length (bvs l) er)) := by
  cases hv : validA sn sg la off ps with
  | false => exact ⟨[], 2, fun w h => encodeA_bad sn po sg la off s e A n c vs ps w h hn hle hv, fun w h => rencodeA_bad sn po sg la off s e A n c vs ps w h hn hle hv⟩
  | true =>
    obtain ⟨m, o, rfl, rfl, ho⟩ := validA_nat hv
    exact ⟨encA m po sg la o s e ps, 0, fun w h => encodeA_ok m po sg la o s e A n c vs ps w h hv ho, fun w h => rencodeA_ok m po sg la o s e A n c vs ps w h hv ho⟩
theorem eight_below {w W : World} {g : Nat} {t : TypeId} {x0 x1 x2 x3 x4 x5 x6 x7 : Value} (b : Blk w g t #[x0, x1, x2, x3, x4, x5, x6, x7]) (hb : Below w.heap.size w W) :
    W.cell? ⟨g, 0, none⟩ = some x0 ∧ W.cell? ⟨g, 1, none⟩ = some x1 ∧ W.cell? ⟨g, 2, none⟩ = some x2 ∧ W.cell? ⟨g, 3, none⟩ = some x3 ∧ W.cell? ⟨g, 4, none⟩ = some x4 ∧ W.cell? ⟨g, 5, none⟩ = some x5 ∧ W.cell? ⟨g, 6, none⟩ = some x6 ∧ W.cell? ⟨g, 7, none⟩ = some x7 :=
  (b.below hb b.lt).eight

set_option maxRecDepth 100000 in
set_option maxHeartbeats 2000000 in
theorem ampduEncodes_walk (sn : Int) (po sg la : Bool) (off : Int) (s e : Bool) (A : Option Addr) (n c : Nat) (vs : List Value) (ps : List (List UInt8)) (k : Int) (b : Bool) (w : World) (_hsn : -9223372036854775808 ≤ sn ∧ sn ≤ 9223372036854775807) (_hoff : -9223372036854775808 ≤ off ∧ off ≤ 9223372036854775807) (h : Sls w w.heap.size A n c vs ps) (hk : -9223372036854775808 ≤ k ∧ k ≤ 9223372036854775807) :
    Calls Try.prog 11 #[.agg (apdu sn po sg la off s e A n c), .int .i64 k, .bool b] w (IsTrue w) := by
  have hB := (Below.refl w.heap.size w).alloc (Nat.le_refl _) (.cells (apdu sn po sg la off s e A n c) 68)
  have hA := (h.below hB).more hB.size
  have bx := Blk.new w 68 (apdu sn po sg la off s e A n c)
  have hL := h.len
  have HL := Lib.hid hL
  have hfa := fewA_any sn po sg la off s e A n c vs ps _ hA
  have HFA := Lib.hid hfa
  have HA := Lib.hid (encodesA_alike sn po sg la off s e A n c vs ps)
  have HV1 := Lib.hid (fun W h1 h2 h3 => validA_any (w := W) sn po sg la off s e A n c vs ps h1 h2 h3)
  have HV2 := Lib.hid (fun W h1 h2 h3 => rvalidA_any sn po sg la off s e A n c vs ps W h1 h2 h3)
  have hH1 := fun W => headerA_any k b W hk
  have hH2 := fun W => rheaderA_any k b W hk
  have HH1 := Lib.hid hH1
  have HH2 := Lib.hid hH2
  generalize validA sn sg la off ps = vl at *
  generalize hdrA k b = hd at *
  clear h hL hfa hH1 hH2
  unfold apdu at *
  go_enter Try.func11, Try.ntmps11
  go_wp2_with fail
  refine HFA.out.mono ?_
  generalize w.alloc (.cells #[.int .i64 sn, .bool po, .bool sg, .bool la, .int .i64 off, .bool s, .bool e, .slice A n c] 68) = w1 at *
  rintro e1 w2 ⟨⟨r1, rfl, hfew⟩, hb1⟩
  have hB1 : Below w.heap.size w w2 := hB.trans (hb1.mono hB.size)
  have hA1 := (hA.below hb1).more hb1.size
  have bx1 := bx.below hb1 bx.lt
  clear hb1 hA bx hB HFA
  cases r1 with
  | false =>
    clear hfew
    go_wp2_with (go_at_call 38; refine (works33_any _).mono ?_; rintro e2 w3 ⟨rfl, hb2⟩)
    go_ret
    exact ⟨rfl, hB1.trans (hb2.mono hB1.size)⟩
  | true =>
    obtain ⟨h70, h4, _⟩ := hfew rfl
    have hn : n ≤ 1048576 := by have := HL.out; omega
    have hle : ∀ p ∈ ps, p.length ≤ 1099511627776 := fun p hp => by have := h4 p hp; omega
    obtain ⟨l, er, hE, hR⟩ := HA.out hn hle
    have HE := Lib.hid hE
    have HR := Lib.hid hR
    have HN := Lib.hid hn
    have HLE := Lib.hid hle
    obtain ⟨x0, x1, x2, x3, x4, x5, x6, x7⟩ := bx1.eight
    clear hE hR hfew h4 h70 HA hn hle
    go_wp2_with fail
    refine (HE.out w2 hA1).mono ?_
    rintro e3 w3 ⟨v3, rfl, hv3, hb3⟩
    obtain ⟨A3, c3, rfl, hs3, _⟩ := own_sl hv3
    have bx3 := bx1.below hb3 bx1.lt
    have hA3 := (hA1.below hb3).more hb3.size
    have hB3 := hB1.trans (hb3.mono hB1.size)
    clear x0 x1 x2 x3 x4 x5 x6 x7 hb3 bx1 hA1 hB1 hv3 HE
    obtain ⟨x0, x1, x2, x3, x4, x5, x6, x7⟩ := bx3.eight
    go_wp2_with fail
    refine (HR.out w3 hA3).mono ?_
    rintro e4 w4 ⟨v4, rfl, hv4, hb4⟩
    obtain ⟨A4, c4, rfl, hs4, _⟩ := own_sl hv4
    have hs3' := (hs3.below hb4).more hb4.size
    have bx4 := bx3.below hb4 bx3.lt
    have hA4 := (hA3.below hb4).more hb4.size
    have hB4 := hB3.trans (hb4.mono hB3.size)
    clear x0 x1 x2 x3 x4 x5 x6 x7 hb4 bx3 hA3 hB3 hv4 HR hs3
    obtain ⟨x0, x1, x2, x3, x4, x5, x6, x7⟩ := bx4.eight
    have hsm := sameB_any A3 l.length c3 l A4 l.length c4 l w4.drew _ _ hs3'.drew hs4.drew
    simp only [decide_true] at hsm
    have hv1 := HV1.out w4.drew hA4.drew' HN.out HLE.out
    have hv2 := fun W (hb : Below w4.heap.size w4 W) => HV2.out W ((hA4.below hb).more hb.size) HN.out HLE.out
    have HS := Lib.hid hsm
    have HVA := Lib.hid hv1
    have HVB := Lib.hid hv2
    have hee : (er == er) = true := by simp
    have hvv : (vl == vl) = true := by simp
    have hdd : (hd == hd) = true := by simp
    have hq4 : Below w4.heap.size w4 w4.drew := (Below.refl w4.heap.size w4).drew
    clear hsm HV1 HV2 hv1 hv2 hs3' hs4
    go_wp2_with fail
    go_region_held3 (fun w' => w'.cell? ⟨w.heap.size, 0, none⟩ = some (.int .i64 sn) ∧ w'.cell? ⟨w.heap.size, 1, none⟩ = some (.bool po) ∧ w'.cell? ⟨w.heap.size, 2, none⟩ = some (.bool sg) ∧ w'.cell? ⟨w.heap.size, 3, none⟩ = some (.bool la) ∧ w'.cell? ⟨w.heap.size, 4, none⟩ = some (.int .i64 off) ∧ w'.cell? ⟨w.heap.size, 5, none⟩ = some (.bool s) ∧ w'.cell? ⟨w.heap.size, 6, none⟩ = some (.bool e) ∧ w'.cell? ⟨w.heap.size, 7, none⟩ = some (.slice A n c))
      (first | (exact eight_below bx4 hq8) | (exact eight_below bx4 hq7) | (exact eight_below bx4 hq6) | (exact eight_below bx4 hq4) | go_keep)
      (first
        | (go_at_call 47; refine HS.out.mono ?_; rintro e5 w5 ⟨rfl, rfl⟩)
        | (go_at_call 42; refine (numB_any _ _).mono ?_; rintro e5 w5 ⟨rfl, rfl⟩)
        | (go_at_call 51; refine (HH1.out _).mono ?_; rintro e5 w5 ⟨rfl, rfl⟩)
        | (go_at_call 52; refine (HH2.out _).mono ?_; rintro e5 w5 ⟨rfl, rfl⟩)
        | (go_at_call 49; refine HVA.out.mono ?_; rintro e6 w6 ⟨rfl, hb6⟩; have hq6 : Below w4.heap.size w4 w6 := hq4.trans hb6)
        | (go_at_call 50; refine (HVB.out w6 hq6).mono ?_; rintro e7 w7 ⟨rfl, hb7⟩; have hq7 : Below w4.heap.size w4 w7 := hq6.trans (hb7.mono hq6.size))
        | (go_at_call 38; refine (works33_any w7).mono ?_; rintro e8 w8 ⟨rfl, hb8⟩; have hq8 : Below w4.heap.size w4 w8 := hq7.trans (hb8.mono hq7.size))
        | fail)
    all_goals
      go_wp2
      go_ret
      exact ⟨rfl, hB4.trans (hq8.mono hB4.size)⟩
end Go.Proofs.Ytchlbpfeiamieaa
