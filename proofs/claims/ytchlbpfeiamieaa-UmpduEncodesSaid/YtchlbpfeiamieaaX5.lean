/- The reference of layer 30: Encode of a valid PDU. law30.UmpduEncodes: the walk. -/
import Derived.Test.YtchlbpfeiamieaaX4
import Derived.Test.YtchlbpfeiamieaaL1
namespace Go.Proofs.Ytchlbpfeiamieaa
open Go.RowKit

set_option maxRecDepth 100000 in
set_option maxHeartbeats 2000000 in
theorem rencode_ok (sn : Nat) (s e : Bool) (A : Option Addr) (n c : Nat) (vs : List Value) (ps : List (List UInt8)) (w : World) (h : Sls w w.heap.size A n c vs ps) (hsn : sn ≤ 1023) (hv : validB ps = true) :
    Calls Try.prog 20 #[.agg #[.int .i64 sn, .bool s, .bool e, .slice A n c]] w (GivesRowErr w.heap.size 5 w (encU sn s e ps).length (bvs (encU sn s e ps)) 0) := by
  obtain ⟨hlo, hhi, hpos, hshort, hsum⟩ := (validB_iff ps).1 hv
  have hlen := h.len
  have hple : ∀ p ∈ ps, p.length ≤ 1099511627776 := fun p hp => by have := mem_le_sumLen hp; omega
  have hB := (Below.refl w.heap.size w).alloc (Nat.le_refl _) (.cells #[.int .i64 sn, .bool s, .bool e, .slice A n c] 26)
  have hA := (h.below hB).more hB.size
  have hva := rvalid_any s e A n c vs ps _ hA (by omega) hple
  rw [hv] at hva
  have hen := encU_ref sn s e ps
  rw [hlen] at hen
  have hfl := framN_le s e n
  have bx := Blk.new w 26 #[.int .i64 sn, .bool s, .bool e, .slice A n c]
  have HVB := Lib.hid hv
  have HEN := Lib.hid hen
  have HB := Lib.hid hB
  have HV := Lib.hid hva
  have HL := Lib.hid hlen
  generalize encU sn s e ps = EE at *
  clear hB hva hv hlen hpos hshort hple hen hsum hlo hhi h
  go_enter Try.func20, Try.ntmps20
  go_wp2_with fail
  generalize w.alloc (.cells #[.int .i64 sn, .bool s, .bool e, .slice A n c] 26) = w1 at *
  refine HV.out.mono ?_
  rintro e1 w2 ⟨rfl, hb1⟩
  have bx1 := bx.below hb1 bx.lt
  have hA1 := (hA.below hb1).more hb1.size
  have hB1 : Below w.heap.size w w2 := HB.out.trans (hb1.mono HB.out.size)
  clear HV hb1 hA bx HB
  have hp1 := put_ok none 0 0 [] 0 3 w2 (Sl.nil_.2 (by omega)) (by omega) (by omega) (by omega) (by omega)
  have HP1 := Lib.hid hp1
  clear hp1
  go_wp2_with fail
  refine HP1.out.mono ?_
  rintro e2 w3 ⟨v3, rfl, hv3, hb3⟩
  obtain ⟨A3, c3, rfl, hs3, _⟩ := own_sl hv3
  have bx3 := bx1.below hb3 bx1.lt
  have hA3 := (hA1.below hb3).more hb3.size
  have hB3 := hB1.trans (hb3.mono hB1.size)
  have x0 := bx3.cell 0
  have x1 := bx3.cell 1
  have x2 := bx3.cell 2
  have x3 := bx3.cell 3
  simp at x0 x1 x2 x3
  clear HP1 hv3 hb3 bx1 hA1 hB1
  go_wp2_with fail
  refine (framing_any s e A n c w3).mono ?_
  rintro e4 w4 ⟨rfl, hw4⟩
  have hb4 : Below w3.heap.size w3 w4 := by rw [← hw4]; exact (Below.refl _ _).alloc (Nat.le_refl _) _
  have bx4 := bx3.below hb4 bx3.lt
  have hA4 := (hA3.below hb4).more hb4.size
  have hB4 := hB3.trans (hb4.mono hB3.size)
  have hs4 := (hs3.below hb4).more hb4.size
  clear hw4 hb4 bx3 hA3 hB3 hs3 x0 x1 x2 x3
  generalize framN s e n = F at *
  have hp2 := put_ok A3 _ c3 _ F 3 w4 hs4 (by omega) (by omega) (by omega) (by omega)
  have HP2 := Lib.hid hp2
  clear hp2
  go_wp2_with fail
  refine HP2.out.mono ?_
  rintro e5 w5 ⟨v5, rfl, hv5, hb5⟩
  obtain ⟨A5, c5, rfl, hs5, _⟩ := own_sl hv5
  have bx5 := bx4.below hb5 bx4.lt
  have hA5 := (hA4.below hb5).more hb5.size
  have hB5 := hB4.trans (hb5.mono hB4.size)
  have x0 := bx5.cell 0
  simp at x0
  clear HP2 hv5 hb5 bx4 hA4 hB4 hs4
  have hwr : IntKind.u64.wrap (sn : Int) = sn := by rw [IntKind.wrap_u64]; omega
  have hp3 := put_ok A5 _ c5 _ sn 10 w5 hs5 (by omega) (by omega) (by omega) (by omega)
  have HP3 := Lib.hid hp3
  clear hp3
  go_wp2_with fail
  refine HP3.out.mono ?_
  rintro e6 w6 ⟨v6, rfl, hv6, hb6⟩
  obtain ⟨A6, c6, rfl, hs6, _⟩ := own_sl hv6
  have bx6 := bx5.below hb6 bx5.lt
  have hA6 := (hA5.below hb6).more hb6.size
  have hB6 := hB5.trans (hb6.mono hB5.size)
  have x0 := bx6.cell 0
  have x1 := bx6.cell 1
  have x2 := bx6.cell 2
  have x3 := bx6.cell 3
  simp at x0 x1 x2 x3
  clear HP3 hv6 hb6 bx5 hA5 hB5 hs5 hwr
  have hbb : [] ++ bbs (bitsOf 0 3) ++ bbs (bitsOf F 3) ++ bbs (bitsOf sn 10) = bbs (bitsOf 0 3 ++ bitsOf F 3 ++ bitsOf sn 10) := by simp [bbs]
  rw [hbb] at hs6
  have htl := tail_ok A6 _ c6 _ s e A n c vs ps w6 hs6 (by omega) hA6 HVB.out
  rw [← HEN.out] at htl
  have HT := Lib.hid htl
  clear htl hbb hs6 hA6
  go_wp2_with fail
  refine HT.out.mono ?_
  rintro e7 w7 ⟨v7, rfl, hv7, hb7⟩
  go_wp2
  go_ret2
  exact ⟨_, rfl, own_base hv7 hB6.size, hB6.trans (hb7.mono hB6.size)⟩

/-- Encode and the reference's Encode answer alike. -/
theorem encodes_alike (sn : Int) (s e : Bool) (A : Option Addr) (n c : Nat) (vs : List Value) (ps : List (List UInt8)) (hn : n ≤ 1048576) (hle : ∀ p ∈ ps, p.length ≤ 1099511627776) :
    ∃ (l : List UInt8) (er : Int), (∀ w : World, Sls w w.heap.size A n c vs ps → Calls Try.prog 19 #[.agg #[.int .i64 sn, .bool s, .bool e, .slice A n c]] w (GivesRowErr w.heap.size 5 w l.length (bvs l) er)) ∧
      (∀ w : World, Sls w w.heap.size A n c vs ps → Calls Try.prog 20 #[.agg #[.int .i64 sn, .bool s, .bool e, .slice A n c]] w (GivesRowErr w.heap.size 5 w l.length (bvs l) er)) := by
  by_cases hbad : sn < 0 ∨ 1023 < sn ∨ validB ps = false
  · exact ⟨[], 2, fun w h => encode_bad sn s e A n c vs ps w h hn hle hbad, fun w h => rencode_bad sn s e A n c vs ps w h hn hle hbad⟩
  · obtain ⟨m, rfl⟩ : ∃ m : Nat, sn = m := ⟨sn.toNat, by omega⟩
    have hv : validB ps = true := by
      cases hh : validB ps with
      | true => rfl
      | false => exact absurd (.inr (.inr hh)) hbad
    exact ⟨encU m s e ps, 0, fun w h => encode_ok m s e A n c vs ps w h (by omega) hv, fun w h => rencode_ok m s e A n c vs ps w h (by omega) hv⟩

set_option maxRecDepth 100000 in
set_option maxHeartbeats 2000000 in
theorem umpduEncodes_walk (sn : Int) (s e : Bool) (A : Option Addr) (n c : Nat) (vs : List Value) (ps : List (List UInt8)) (w : World) (_hsn : -9223372036854775808 ≤ sn ∧ sn ≤ 9223372036854775807) (h : Sls w w.heap.size A n c vs ps) :
    Calls Try.prog 3 #[.agg #[.int .i64 sn, .bool s, .bool e, .slice A n c]] w (IsTrue w) := by
  have hB := (Below.refl w.heap.size w).alloc (Nat.le_refl _) (.cells #[.int .i64 sn, .bool s, .bool e, .slice A n c] 26)
  have hA := (h.below hB).more hB.size
  have bx := Blk.new w 26 #[.int .i64 sn, .bool s, .bool e, .slice A n c]
  have hL := h.len
  have HL := Lib.hid hL
  clear h hL
  go_enter Try.func3, Try.ntmps3
  go_wp2_with fail
  generalize w.alloc (.cells #[.int .i64 sn, .bool s, .bool e, .slice A n c] 26) = w1 at *
  refine (few_any s e A n c vs ps w1 hA).mono ?_
  rintro e1 w2 ⟨⟨r1, rfl, hfew⟩, hb1⟩
  have hB1 : Below w.heap.size w w2 := hB.trans (hb1.mono hB.size)
  have hA1 := (hA.below hb1).more hb1.size
  have bx1 := bx.below hb1 bx.lt
  clear hb1 hA bx hB
  cases r1 with
  | false =>
    clear hfew
    go_wp2_with (go_at_call 18; refine (works_any _).mono ?_; rintro e2 w3 ⟨rfl, hb2⟩)
    go_ret
    exact ⟨rfl, hB1.trans (hb2.mono hB1.size)⟩
  | true =>
    obtain ⟨h70, h4, _⟩ := hfew rfl
    obtain ⟨l, er, hE, hR⟩ := encodes_alike sn s e A n c vs ps (by have := HL.out; omega) (fun p hp => by have := h4 p hp; omega)
    have HE := Lib.hid hE
    have HR := Lib.hid hR
    have x0 := bx1.cell 0
    have x1 := bx1.cell 1
    have x2 := bx1.cell 2
    have x3 := bx1.cell 3
    simp at x0 x1 x2 x3
    clear hE hR hfew h4 h70
    go_wp2_with fail
    refine (HE.out w2 hA1).mono ?_
    rintro e3 w3 ⟨v3, rfl, hv3, hb3⟩
    obtain ⟨A3, c3, rfl, hs3, _⟩ := own_sl hv3
    have bx3 := bx1.below hb3 bx1.lt
    have hA3 := (hA1.below hb3).more hb3.size
    have hB3 := hB1.trans (hb3.mono hB1.size)
    clear x0 x1 x2 x3 hb3 bx1 hA1 hB1 hv3 HE
    have x0 := bx3.cell 0
    have x1 := bx3.cell 1
    have x2 := bx3.cell 2
    have x3 := bx3.cell 3
    simp at x0 x1 x2 x3
    go_wp2_with fail
    refine (HR.out w3 hA3).mono ?_
    rintro e4 w4 ⟨v4, rfl, hv4, hb4⟩
    obtain ⟨A4, c4, rfl, hs4, _⟩ := own_sl hv4
    have hs3' := (hs3.below hb4).more hb4.size
    have hB4 := hB3.trans (hb4.mono hB3.size)
    clear x0 x1 x2 x3 hb4 bx3 hA3 hB3 hv4 HR hs3
    have hsm := same_any A3 l.length c3 l A4 l.length c4 l w4 _ _ hs3' hs4
    simp only [decide_true] at hsm
    have HS := Lib.hid hsm
    have hee : (er == er) = true := by simp
    clear hsm
    go_wp2_with fail
    refine HS.out.mono ?_
    rintro e5 w5 ⟨rfl, rfl⟩
    go_wp2_with (first | (go_at_call 22; refine (num_any _ _).mono ?_; rintro e6 w6 ⟨rfl, rfl⟩) | (go_at_call 18; refine (works_any _).mono ?_; rintro e2 w7 ⟨rfl, hb7⟩))
    go_ret
    exact ⟨rfl, hB4.trans (hb7.mono hB4.size)⟩
end Go.Proofs.Ytchlbpfeiamieaa
