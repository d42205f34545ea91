/- law35: AmsendNone walked. -/
import Derived.Test.YtmiipkaobloedaaGreatZg
import Derived.Test.YtmiipkaobloedaaGreatZh
namespace Go.Proofs.YtmiipkaobloedaaGreat
open Go.RowKit Go.Shelf
attribute [local go_sem] Oper.semAt_some
/-- one call as a slice -/
theorem slq_one (x : ActQ) (w : World) (h : ActI w w.heap.size x) : SlQ (w.alloc (.cells (actC x).toArray 47)) (w.alloc (.cells (actC x).toArray 47)).heap.size (some ⟨w.heap.size, 0, none⟩) 1 1 [x] := by
  have hb := Blk.new w 47 (actC x).toArray
  have hB := (Below.refl w.heap.size w).alloc (Nat.le_refl _) (.cells (actC x).toArray 47)
  refine ⟨rfl, Nat.le_refl _, by omega, fun _ => ⟨_, rfl, by simp, fun j y hj => ?_⟩⟩
  have hj0 : j = 0 := by
    have := (List.getElem?_eq_some_iff.1 hj).1
    simp at this
    omega
  subst hj0
  simp at hj
  subst hj
  refine ⟨fun i v hi => ?_, (h.below hB).more (by simp)⟩
  have := hb.cell i
  rw [show ((⟨w.heap.size, 0, none⟩ : Addr).add (0 * 6 + i)) = ⟨w.heap.size, i, none⟩ from by simp [Addr.add]; intro e; exact e.symm]
  rw [this]
  simpa using hi
set_option maxRecDepth 100000 in
set_option maxHeartbeats 4000000 in
theorem amsendNone_walk (hW : ∀ W, Calls Tryz.prog 7 #[] W (TrueW W)) (x : ActQ) (zero : Bool) (w : World) (hx : ActI w w.heap.size x) :
    Calls Tryz.prog 5 #[.agg #[.int .i64 x.k, .int .i64 x.now, .int .i64 x.n, .slice x.A x.b.length x.c, .int .i64 x.ack, .slice x.Ar x.nks.length x.cr], .bool zero] w (TrueW w) := by
  have b0 := Blk.new w 47 #[.int .i64 x.k, .int .i64 x.now, .int .i64 x.n, .slice x.A x.b.length x.c, .int .i64 x.ack, .slice x.Ar x.nks.length x.cr]
  have hb0 := (Below.refl w.heap.size w).alloc (Nat.le_refl _) (.cells #[.int .i64 x.k, .int .i64 x.now, .int .i64 x.n, .slice x.A x.b.length x.c, .int .i64 x.ack, .slice x.Ar x.nks.length x.cr] 47)
  have hx0 := (hx.below hb0).more (show w.heap.size ≤ (w.alloc (.cells #[.int .i64 x.k, .int .i64 x.now, .int .i64 x.n, .slice x.A x.b.length x.c, .int .i64 x.ack, .slice x.Ar x.nks.length x.cr] 47)).heap.size by simp)
  have hq := slq_one x _ hx0
  have hfe := few35_any _ _ _ _ _ hq 1 (by decide)
  rw [World.size_alloc, show (((1 : Nat) : Int)) = 1 from rfl] at hfe
  have HFE := Lib.hid hfe
  have HB0 := Lib.hid hb0
  have H0 := Lib.hid b0
  have HW := Lib.hid hW
  clear hx hq hfe hx0 b0 hb0 hW
  unfold actC at HFE
  go_enter Tryz.func5, Tryz.ntmps5
  go_wp2_with fail
  generalize w.alloc (.cells #[.int .i64 x.k, .int .i64 x.now, .int .i64 x.n, .slice x.A x.b.length x.c, .int .i64 x.ack, .slice x.Ar x.nks.length x.cr] 47) = w0 at *
  have hb01 := (Below.refl w0.heap.size w0).alloc (Nat.le_refl _) (.cells #[.int .i64 x.k, .int .i64 x.now, .int .i64 x.n, .slice x.A x.b.length x.c, .int .i64 x.ack, .slice x.Ar x.nks.length x.cr] 47)
  have HB01 := Lib.hid hb01
  clear hb01
  generalize w0.alloc (.cells #[.int .i64 x.k, .int .i64 x.now, .int .i64 x.n, .slice x.A x.b.length x.c, .int .i64 x.ack, .slice x.Ar x.nks.length x.cr] 47) = w1 at *
  have HB1 := Lib.hid (HB0.out.trans (HB01.out.mono HB0.out.size))
  have H1 := Lib.hid (H0.out.below HB01.out H0.out.lt)
  clear HB0 H0 HB01
  refine HFE.out.mono ?_
  rintro e1 w2 ⟨b, rfl, -, rfl⟩
  clear HFE
  cases b with
  | false =>
    go_wp2_with fail
    refine (HW.out _).mono ?_
    rintro e1 w3 ⟨rfl, hb3⟩
    go_wp2
    go_ret
    exact ⟨rfl, HB1.out.trans (hb3.mono HB1.out.size)⟩
  | true =>
    cases zero with
    | false =>
      have HN := Lib.hid (fun (W : World) (hW : Below w1.heap.size w1 W) => (show NoSnd W (.pointer none) from .inl rfl))
      have H2 := H1
      have HGR := Lib.hid (fun (W : World) (hW : Below w1.heap.size w1 W) => (ngrant_any (HN.out W hW) x.now x.n).mono (fun e w' hh => (⟨hh.1, hW.trans (hh.2.mono hW.size)⟩ : e = .returned (.tuple #[.slice none 0 0, .int .i64 1]) ∧ Below w1.heap.size w1 w')))
      have HSU := Lib.hid (fun (W : World) (hW : Below w1.heap.size w1 W) => (nsubmit_any (HN.out W hW) x.A x.b.length x.c).mono (fun e w' hh => (⟨hh.1, hW.trans (hh.2.mono hW.size)⟩ : e = .returned (.int .i64 1) ∧ Below w1.heap.size w1 w')))
      have HST := Lib.hid (fun (W : World) (hW : Below w1.heap.size w1 W) => (nstatus_any (HN.out W hW) x.now x.ack x.Ar x.nks.length x.cr).mono (fun e w' hh => (⟨hh.1, hW.trans (hh.2.mono hW.size)⟩ : e = .returned (.int .i64 1) ∧ Below w1.heap.size w1 w')))
      have HTI := Lib.hid (fun (W : World) (hW : Below w1.heap.size w1 W) => (ntick_any (HN.out W hW) x.now).mono (fun e w' hh => (⟨hh.1, hW.trans (hh.2.mono hW.size)⟩ : e = .returned (.int .i64 1) ∧ Below w1.heap.size w1 w')))
      have HSA := Lib.hid (fun (W : World) (hW : Below w1.heap.size w1 W) => (nstate_any (HN.out W hW)).mono (fun e w' hh => (⟨hh.1, hW.trans (hh.2.mono hW.size)⟩ : e = .returned (.agg #[.int .i64 0, .int .i64 0, .int .i64 0, .int .i64 0, .int .i64 0, .bool false, .int .i64 0, .bool false, .int .i64 0, .bool false]) ∧ Below w1.heap.size w1 w')))
      have HBU := Lib.hid (fun (W : World) (hW : Below w1.heap.size w1 W) => (nbuf_any (HN.out W hW)).mono (fun e w' hh => (⟨hh.1, hW.trans (hh.2.mono hW.size)⟩ : e = .returned (.int .i64 0) ∧ Below w1.heap.size w1 w')))
      have HUN := Lib.hid (fun (W : World) (hW : Below w1.heap.size w1 W) => (nunconf_any (HN.out W hW)).mono (fun e w' hh => (⟨hh.1, hW.trans (hh.2.mono hW.size)⟩ : e = .returned (.slice none 0 0) ∧ Below w1.heap.size w1 w')))
      have HCO := Lib.hid (fun (W : World) (hW : Below w1.heap.size w1 W) => (ncopy_any (HN.out W hW)).mono (fun e w' hh => (⟨hh.1, hW.trans (hh.2.mono hW.size)⟩ : e = .returned (.pointer none) ∧ Below w1.heap.size w1 w')))
      have HOV := Lib.hid (fun (W : World) (hW : Below w1.heap.size w1 W) => (over35_none (fun W2 hW2 => npend_any (HN.out W2 (hW.trans (hW2.mono hW.size))))).mono (fun e w' (hh : TrueW W e w') => (⟨hh.1, hW.trans (hh.2.mono hW.size)⟩ : e = .returned (.bool true) ∧ Below w1.heap.size w1 w')))
      have HWO := Lib.hid (fun (W : World) (hW : Below w1.heap.size w1 W) => (HW.out W).mono (fun e w' hh => (⟨hh.1, hW.trans (hh.2.mono hW.size)⟩ : e = .returned (.bool true) ∧ Below w1.heap.size w1 w')))
      have HC := Lib.hid (fun (W : World) (hW : Below w1.heap.size w1 W) => (show W.cell? ⟨w.heap.size, 1, none⟩ = some (.int .i64 x.now) ∧ W.cell? ⟨w.heap.size, 2, none⟩ = some (.int .i64 x.n) ∧ W.cell? ⟨w.heap.size, 3, none⟩ = some (.slice x.A x.b.length x.c) ∧ W.cell? ⟨w.heap.size, 4, none⟩ = some (.int .i64 x.ack) ∧ W.cell? ⟨w.heap.size, 5, none⟩ = some (.slice x.Ar x.nks.length x.cr) from ⟨(H2.out.below hW H2.out.lt).cell 1, (H2.out.below hW H2.out.lt).cell 2, (H2.out.below hW H2.out.lt).cell 3, (H2.out.below hW H2.out.lt).cell 4, (H2.out.below hW H2.out.lt).cell 5⟩))
      have hb9 := Below.refl w1.heap.size w1
      obtain ⟨c1, c2, c3, c4, c5⟩ := HC.out _ hb9
      go_wp2_with (first
        | (go_at_call 9; refine (num35_any _ _).mono ?_; rintro e1 w9 ⟨rfl, rfl⟩)
        | (go_at_call 11; refine (HGR.out _ (by assumption)).mono ?_; rintro e1 w9 ⟨rfl, hb9⟩; obtain ⟨c1, c2, c3, c4, c5⟩ := HC.out _ hb9)
        | (go_at_call 10; refine (HSU.out _ (by assumption)).mono ?_; rintro e1 w9 ⟨rfl, hb9⟩; obtain ⟨c1, c2, c3, c4, c5⟩ := HC.out _ hb9)
        | (go_at_call 14; refine (HST.out _ (by assumption)).mono ?_; rintro e1 w9 ⟨rfl, hb9⟩; obtain ⟨c1, c2, c3, c4, c5⟩ := HC.out _ hb9)
        | (go_at_call 17; refine (HTI.out _ (by assumption)).mono ?_; rintro e1 w9 ⟨rfl, hb9⟩; obtain ⟨c1, c2, c3, c4, c5⟩ := HC.out _ hb9)
        | (go_at_call 12; refine (HSA.out _ (by assumption)).mono ?_; rintro e1 w9 ⟨rfl, hb9⟩; obtain ⟨c1, c2, c3, c4, c5⟩ := HC.out _ hb9)
        | (go_at_call 13; refine (HBU.out _ (by assumption)).mono ?_; rintro e1 w9 ⟨rfl, hb9⟩; obtain ⟨c1, c2, c3, c4, c5⟩ := HC.out _ hb9)
        | (go_at_call 18; refine (HUN.out _ (by assumption)).mono ?_; rintro e1 w9 ⟨rfl, hb9⟩; obtain ⟨c1, c2, c3, c4, c5⟩ := HC.out _ hb9)
        | (go_at_call 19; refine (HCO.out _ (by assumption)).mono ?_; rintro e1 w9 ⟨rfl, hb9⟩; obtain ⟨c1, c2, c3, c4, c5⟩ := HC.out _ hb9)
        | (go_at_call 15; refine (HOV.out _ (by assumption)).mono ?_; rintro e1 w9 ⟨rfl, hb9⟩; obtain ⟨c1, c2, c3, c4, c5⟩ := HC.out _ hb9))
      refine (HWO.out _ (by assumption)).mono ?_
      rintro e1 w10 ⟨rfl, hb10⟩
      go_wp2
      go_ret
      exact ⟨rfl, HB1.out.trans (hb10.mono HB1.out.size)⟩
    | true =>
      go_upto_region 6 with (fail)
      have hz := Blk.new w1 54 #[.int .i64 0, .int .i64 0, .int .i64 0, .int .i64 0, .int .i64 0, .int .i64 0, .int .i64 0, .slice none 0 0, .int .i64 0, .int .i64 0, .int .i64 0, .int .i64 0, .slice none 0 0, .int .i64 0, .int .i64 0, .int .i64 0, .bool false, .int .i64 0, .bool false, .bool false, .int .i64 0]
      have hb2 := (Below.refl w1.heap.size w1).alloc (Nat.le_refl _) (.cells #[.int .i64 0, .int .i64 0, .int .i64 0, .int .i64 0, .int .i64 0, .int .i64 0, .int .i64 0, .slice none 0 0, .int .i64 0, .int .i64 0, .int .i64 0, .int .i64 0, .slice none 0 0, .int .i64 0, .int .i64 0, .int .i64 0, .bool false, .int .i64 0, .bool false, .bool false, .int .i64 0] 54)
      generalize w1.alloc (.cells #[.int .i64 0, .int .i64 0, .int .i64 0, .int .i64 0, .int .i64 0, .int .i64 0, .int .i64 0, .slice none 0 0, .int .i64 0, .int .i64 0, .int .i64 0, .int .i64 0, .slice none 0 0, .int .i64 0, .int .i64 0, .int .i64 0, .bool false, .int .i64 0, .bool false, .bool false, .int .i64 0] 54) = w2 at *
      have HZ := Lib.hid hz
      have HN := Lib.hid (fun (W : World) (hW : Below w2.heap.size w2 W) => (show NoSnd W (.pointer (some ⟨w1.heap.size, 0, none⟩)) from .inr ⟨w1.heap.size, rfl, (HZ.out.below hW HZ.out.lt).lt, (HZ.out.below hW HZ.out.lt).cell 2⟩))
      have H2 := Lib.hid (H1.out.below hb2 H1.out.lt)
      have HB2 := Lib.hid (HB1.out.trans (hb2.mono HB1.out.size))
      clear hz hb2
      have HGR := Lib.hid (fun (W : World) (hW : Below w2.heap.size w2 W) => (ngrant_any (HN.out W hW) x.now x.n).mono (fun e w' hh => (⟨hh.1, hW.trans (hh.2.mono hW.size)⟩ : e = .returned (.tuple #[.slice none 0 0, .int .i64 1]) ∧ Below w2.heap.size w2 w')))
      have HSU := Lib.hid (fun (W : World) (hW : Below w2.heap.size w2 W) => (nsubmit_any (HN.out W hW) x.A x.b.length x.c).mono (fun e w' hh => (⟨hh.1, hW.trans (hh.2.mono hW.size)⟩ : e = .returned (.int .i64 1) ∧ Below w2.heap.size w2 w')))
      have HST := Lib.hid (fun (W : World) (hW : Below w2.heap.size w2 W) => (nstatus_any (HN.out W hW) x.now x.ack x.Ar x.nks.length x.cr).mono (fun e w' hh => (⟨hh.1, hW.trans (hh.2.mono hW.size)⟩ : e = .returned (.int .i64 1) ∧ Below w2.heap.size w2 w')))
      have HTI := Lib.hid (fun (W : World) (hW : Below w2.heap.size w2 W) => (ntick_any (HN.out W hW) x.now).mono (fun e w' hh => (⟨hh.1, hW.trans (hh.2.mono hW.size)⟩ : e = .returned (.int .i64 1) ∧ Below w2.heap.size w2 w')))
      have HSA := Lib.hid (fun (W : World) (hW : Below w2.heap.size w2 W) => (nstate_any (HN.out W hW)).mono (fun e w' hh => (⟨hh.1, hW.trans (hh.2.mono hW.size)⟩ : e = .returned (.agg #[.int .i64 0, .int .i64 0, .int .i64 0, .int .i64 0, .int .i64 0, .bool false, .int .i64 0, .bool false, .int .i64 0, .bool false]) ∧ Below w2.heap.size w2 w')))
      have HBU := Lib.hid (fun (W : World) (hW : Below w2.heap.size w2 W) => (nbuf_any (HN.out W hW)).mono (fun e w' hh => (⟨hh.1, hW.trans (hh.2.mono hW.size)⟩ : e = .returned (.int .i64 0) ∧ Below w2.heap.size w2 w')))
      have HUN := Lib.hid (fun (W : World) (hW : Below w2.heap.size w2 W) => (nunconf_any (HN.out W hW)).mono (fun e w' hh => (⟨hh.1, hW.trans (hh.2.mono hW.size)⟩ : e = .returned (.slice none 0 0) ∧ Below w2.heap.size w2 w')))
      have HCO := Lib.hid (fun (W : World) (hW : Below w2.heap.size w2 W) => (ncopy_any (HN.out W hW)).mono (fun e w' hh => (⟨hh.1, hW.trans (hh.2.mono hW.size)⟩ : e = .returned (.pointer none) ∧ Below w2.heap.size w2 w')))
      have HOV := Lib.hid (fun (W : World) (hW : Below w2.heap.size w2 W) => (over35_none (fun W2 hW2 => npend_any (HN.out W2 (hW.trans (hW2.mono hW.size))))).mono (fun e w' (hh : TrueW W e w') => (⟨hh.1, hW.trans (hh.2.mono hW.size)⟩ : e = .returned (.bool true) ∧ Below w2.heap.size w2 w')))
      have HWO := Lib.hid (fun (W : World) (hW : Below w2.heap.size w2 W) => (HW.out W).mono (fun e w' hh => (⟨hh.1, hW.trans (hh.2.mono hW.size)⟩ : e = .returned (.bool true) ∧ Below w2.heap.size w2 w')))
      have HC := Lib.hid (fun (W : World) (hW : Below w2.heap.size w2 W) => (show W.cell? ⟨w.heap.size, 1, none⟩ = some (.int .i64 x.now) ∧ W.cell? ⟨w.heap.size, 2, none⟩ = some (.int .i64 x.n) ∧ W.cell? ⟨w.heap.size, 3, none⟩ = some (.slice x.A x.b.length x.c) ∧ W.cell? ⟨w.heap.size, 4, none⟩ = some (.int .i64 x.ack) ∧ W.cell? ⟨w.heap.size, 5, none⟩ = some (.slice x.Ar x.nks.length x.cr) from ⟨(H2.out.below hW H2.out.lt).cell 1, (H2.out.below hW H2.out.lt).cell 2, (H2.out.below hW H2.out.lt).cell 3, (H2.out.below hW H2.out.lt).cell 4, (H2.out.below hW H2.out.lt).cell 5⟩))
      have hb9 := Below.refl w2.heap.size w2
      obtain ⟨c1, c2, c3, c4, c5⟩ := HC.out _ hb9
      go_wp2_with (first
        | (go_at_call 9; refine (num35_any _ _).mono ?_; rintro e1 w9 ⟨rfl, rfl⟩)
        | (go_at_call 11; refine (HGR.out _ (by assumption)).mono ?_; rintro e1 w9 ⟨rfl, hb9⟩; obtain ⟨c1, c2, c3, c4, c5⟩ := HC.out _ hb9)
        | (go_at_call 10; refine (HSU.out _ (by assumption)).mono ?_; rintro e1 w9 ⟨rfl, hb9⟩; obtain ⟨c1, c2, c3, c4, c5⟩ := HC.out _ hb9)
        | (go_at_call 14; refine (HST.out _ (by assumption)).mono ?_; rintro e1 w9 ⟨rfl, hb9⟩; obtain ⟨c1, c2, c3, c4, c5⟩ := HC.out _ hb9)
        | (go_at_call 17; refine (HTI.out _ (by assumption)).mono ?_; rintro e1 w9 ⟨rfl, hb9⟩; obtain ⟨c1, c2, c3, c4, c5⟩ := HC.out _ hb9)
        | (go_at_call 12; refine (HSA.out _ (by assumption)).mono ?_; rintro e1 w9 ⟨rfl, hb9⟩; obtain ⟨c1, c2, c3, c4, c5⟩ := HC.out _ hb9)
        | (go_at_call 13; refine (HBU.out _ (by assumption)).mono ?_; rintro e1 w9 ⟨rfl, hb9⟩; obtain ⟨c1, c2, c3, c4, c5⟩ := HC.out _ hb9)
        | (go_at_call 18; refine (HUN.out _ (by assumption)).mono ?_; rintro e1 w9 ⟨rfl, hb9⟩; obtain ⟨c1, c2, c3, c4, c5⟩ := HC.out _ hb9)
        | (go_at_call 19; refine (HCO.out _ (by assumption)).mono ?_; rintro e1 w9 ⟨rfl, hb9⟩; obtain ⟨c1, c2, c3, c4, c5⟩ := HC.out _ hb9)
        | (go_at_call 15; refine (HOV.out _ (by assumption)).mono ?_; rintro e1 w9 ⟨rfl, hb9⟩; obtain ⟨c1, c2, c3, c4, c5⟩ := HC.out _ hb9))
      refine (HWO.out _ (by assumption)).mono ?_
      rintro e1 w10 ⟨rfl, hb10⟩
      go_wp2
      go_ret
      exact ⟨rfl, HB2.out.trans (hb10.mono HB2.out.size)⟩
end Go.Proofs.YtmiipkaobloedaaGreat
