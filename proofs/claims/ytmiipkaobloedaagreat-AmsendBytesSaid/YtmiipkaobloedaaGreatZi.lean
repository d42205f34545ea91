/- Grant of a transmitter in one form. law35: the chapter's examples, computed. law35: the chapter's examples walked. law35: works. -/
import Derived.Test.YtmiipkaobloedaaGreatYBf
import Derived.Test.YtmiipkaobloedaaGreatZa
import Derived.Test.YtmiipkaobloedaaGreatZc
import Derived.Test.YtmiipkaobloedaaGreatZg
import Derived.Test.YtmiipkaobloedaaGreatZh
import Derived.Lib.SlBytesConst
namespace Go.Proofs.YtmiipkaobloedaaGreat
open Go.RowKit Go.Shelf
section
variable {w : World} {F : Nat → Prop} {g : Nat} {c : Cf} {st : Sd} {K : Nat}
theorem amf_grant (h : AmF w F g c st) (ho : Ok35 c st K) (hK : K ≤ 90000) (now n : Int) (hnow : now ≤ 9223372036854775807) (hn : n ≤ 9223372036854775807) :
    Calls Tryz.prog 11 #[.pointer (some ⟨g, 0, none⟩), .int .i64 now, .int .i64 n] w (GrF w F g c (grantR c st now n)) := by
  obtain ⟨D, vq, vs, vo, os, h⟩ := h
  have key : Calls Tryz.prog 11 #[.pointer (some ⟨g, 0, none⟩), .int .i64 now, .int .i64 n] w (GrOut w D F g c (grantR c st now n)) := by
    by_cases hx : st.failed = true ∨ n < 0
    · exact sgrant_early h ho.cf.timer.1 now n hx
    · have hx' := not_or.1 hx
      exact sgrant_any h ho.cf ho.bnd hK ho.inv (by simpa using hx'.1) now n hnow (by omega) hn
  exact key.mono fun e w' hh => by
    obtain ⟨v, h1, h2, h3⟩ := hh
    exact ⟨v, h1, h2, h3.gg h.sub⟩
end
end Go.Proofs.YtmiipkaobloedaaGreat
namespace Go.Proofs.YtmiipkaobloedaaGreat
open Go.RowKit Go.Shelf
def cW : Cf := ⟨0, 0, 10, 0, 0, 1, 1000⟩
def exHe : List UInt8 := [104, 101, 108, 108, 111]
def oW0 : Ou := ⟨0, true, false, [[104, 101, 108]], false, [], 0⟩
def oW1 : Ou := ⟨1, false, true, [[108, 111]], false, [], 0⟩
def oW2 : Ou := ⟨2, true, true, [[120]], false, [], 0⟩
def sW1 : Sd := ⟨[exHe], 0, 0, 0, 0, [], 0, 0, 0, false, 0, false, false, 0⟩
def sW2 : Sd := ⟨[exHe], 0, 0, 3, 0, [oW0], 1, 3, 0, false, 0, false, false, 0⟩
def sW4 : Sd := ⟨[exHe], 0, 0, 5, 0, [oW0, oW1], 0, 0, 1, true, 11, false, false, 1⟩
def sW6 : Sd := ⟨[exHe], 0, 0, 5, 0, [{ oW0 with pend := [(1, 2)], retx := 1 }, { oW1 with acked := true }], 0, 0, 1, false, 11, false, false, 2⟩
def sW7 : Sd := ⟨[exHe], 0, 0, 5, 0, [{ oW0 with retx := 1 }, { oW1 with acked := true }], 0, 0, 1, true, 12, false, false, 2⟩
def sW8 : Sd := ⟨[], 1, 0, 0, 2, [], 0, 0, 1, false, 12, false, false, 3⟩
def sW9 : Sd := ⟨[[120]], 1, 0, 0, 2, [], 0, 0, 1, false, 12, false, false, 3⟩
def sW10 : Sd := ⟨[[120]], 1, 0, 1, 2, [oW2], 0, 0, 2, true, 14, false, false, 4⟩
def sW11 : Sd := ⟨[[120]], 1, 0, 1, 2, [{ oW2 with pend := [(0, 0)], retx := 1 }], 0, 0, 2, false, 14, true, false, 14⟩
def sW12 : Sd := ⟨[[120]], 1, 0, 1, 2, [{ oW2 with retx := 1 }], 0, 0, 2, true, 24, false, false, 14⟩
def sW13 : Sd := ⟨[[120]], 1, 0, 1, 2, [{ oW2 with pend := [(0, 0)], retx := 2 }], 0, 0, 2, false, 24, true, true, 24⟩
theorem xW1 : submitR cW newSd exHe = (sW1, 0) := by kernel_rfl
theorem xW2 : (grantR cW sW1 0 5).1 = sW2 ∧ puB (grantR cW sW1 0 5).2.1 = [136, 0, 104, 101, 108] ∧ (grantR cW sW1 0 5).2.2 = 0 := ⟨by kernel_rfl, by kernel_rfl, by kernel_rfl⟩
theorem xW3 : (grantR cW sW2 0 2).1 = sW2 ∧ puB (grantR cW sW2 0 2).2.1 = [] ∧ (grantR cW sW2 0 2).2.2 = 0 := ⟨by kernel_rfl, by kernel_rfl, by kernel_rfl⟩
theorem xW4 : (grantR cW sW2 1 9).1 = sW4 ∧ puB (grantR cW sW2 1 9).2.1 = [176, 1, 108, 111] ∧ (grantR cW sW2 1 9).2.2 = 0 := ⟨by kernel_rfl, by kernel_rfl, by kernel_rfl⟩
theorem xW5 : (grantR cW sW4 1 9).1 = sW4 ∧ puB (grantR cW sW4 1 9).2.1 = [] ∧ (grantR cW sW4 1 9).2.2 = 0 := ⟨by kernel_rfl, by kernel_rfl, by kernel_rfl⟩
theorem xW6 : statusR cW sW4 2 2 [⟨0, true, 1, 32767⟩] = (sW6, 0) := by kernel_rfl
theorem xW7 : (grantR cW sW6 2 99).1 = sW7 ∧ puB (grantR cW sW6 2 99).2.1 = [248, 0, 128, 1, 101, 108] ∧ (grantR cW sW6 2 99).2.2 = 0 := ⟨by kernel_rfl, by kernel_rfl, by kernel_rfl⟩
theorem xW8 : statusR cW sW7 3 2 [] = (sW8, 0) := by kernel_rfl
theorem xW9 : submitR cW sW8 [120] = (sW9, 0) := by kernel_rfl
theorem xW10 : (grantR cW sW9 4 9).1 = sW10 ∧ puB (grantR cW sW9 4 9).2.1 = [160, 2, 120] ∧ (grantR cW sW9 4 9).2.2 = 0 := ⟨by kernel_rfl, by kernel_rfl, by kernel_rfl⟩
theorem xW11 : tickR cW sW10 14 = (sW11, 0) := by kernel_rfl
theorem xW12 : (grantR cW sW11 14 9).1 = sW12 ∧ puB (grantR cW sW11 14 9).2.1 = [160, 2, 120] ∧ (grantR cW sW11 14 9).2.2 = 0 := ⟨by kernel_rfl, by kernel_rfl, by kernel_rfl⟩
theorem xW13 : tickR cW sW12 24 = (sW13, 8) := by kernel_rfl
theorem xS7 : stV sW7 = #[.int .i64 0, .int .i64 2, .int .i64 0, .int .i64 0, .int .i64 1, .bool true, .int .i64 12, .bool false, .int .i64 0, .bool false] := by kernel_rfl
theorem xS8 : stV sW8 = #[.int .i64 2, .int .i64 2, .int .i64 0, .int .i64 0, .int .i64 0, .bool false, .int .i64 0, .bool false, .int .i64 1, .bool false] := by kernel_rfl
end Go.Proofs.YtmiipkaobloedaaGreat
namespace Go.Proofs.YtmiipkaobloedaaGreat
open Go.RowKit Go.Shelf
attribute [local go_sem] Oper.semAt_some
/-- the examples' transmitter -/
def WS (B g : Nat) (st : Sd) (K : Nat) (w : World) : Prop := ∃ F, AmF w F g cW st ∧ Ok35 cW st K ∧ (∀ k, F k → B ≤ k) ∧ B ≤ w.heap.size
section
variable {B g K : Nat} {st st' : Sd} {w w' W : World}
theorem WS.below (h : WS B g st K w) (hb : Below w.heap.size w w') : WS B g st K w' := by
  obtain ⟨F, h1, h2, h3, h4⟩ := h
  exact ⟨F, h1.below hb, h2, h3, Nat.le_trans h4 hb.size⟩
theorem ws_next {F : Nat → Prop} {K' : Nat} (h3 : ∀ k, F k → B ≤ k) (h4 : B ≤ w.heap.size) (h : AmG w F g cW st' w') (ho : Ok35 cW st' K') : WS B g st' K' w' ∧ Below B w w' := by
  have hb := h.below h3 h4
  obtain ⟨F', a1, a2, a3⟩ := h
  refine ⟨⟨F', a1, ho, fun k hk => ?_, Nat.le_trans h4 a3.size⟩, hb⟩
  rcases a2 k hk with e | e
  · exact h3 k e
  · omega
/-- what a call of the examples leaves -/
def WO (B g : Nat) (st' : Sd) (K' : Nat) (W : World) (v : Value) (e : Ending) (w' : World) : Prop := e = .returned v ∧ WS B g st' K' w' ∧ Below B W w'
theorem wsubmit (h : WS B g st K W) (x : List UInt8) (r : Int) (hr : submitR cW st x = (st', r)) (cs : Array Value) (fr : Nat × Nat) (hcs : cs.toList = bvs x) (m : Nat) (hm : m = x.length) (hl : x.length ≤ 1000) :
    Calls Tryz.prog 10 #[.pointer (some ⟨g, 0, none⟩), .slice (some ⟨W.heap.size, 0, none⟩) m m] (W.alloc (.cells cs 5 fr)) (WO B g st' K W (.int .i64 r)) := by
  subst hm
  obtain ⟨F, h1, h2, h3, h4⟩ := h
  have hba := (Below.refl W.heap.size W).alloc (Nat.le_refl _) (.cells cs 5 fr)
  have hs : Sl (W.alloc (.cells cs 5 fr)) (W.alloc (.cells cs 5 fr)).heap.size (some ⟨W.heap.size, 0, none⟩) (bvs x).length (bvs x).length (bvs x) := sl_lit (heap_new W _) hcs (by simp; omega)
  rw [bvs_length] at hs
  refine (amf_submit (h1.below hba) h2 hs).mono ?_
  rintro e w' ⟨rfl, hg⟩
  have ho := h2.submit x
  rw [hr] at hg ho ⊢
  have hn := ws_next h3 (Nat.le_trans h4 hba.size) hg ho
  exact ⟨rfl, hn.1, (hba.mono h4).trans hn.2⟩
theorem wtick (h : WS B g st K W) (hK : K ≤ 100) (now r : Int) (hn : now ≤ 9223372036854775807) (hr : tickR cW st now = (st', r)) :
    Calls Tryz.prog 17 #[.pointer (some ⟨g, 0, none⟩), .int .i64 now] W (WO B g st' (K + 3) W (.int .i64 r)) := by
  obtain ⟨F, h1, h2, h3, h4⟩ := h
  refine (amf_tick h1 h2 (by omega) now hn).mono ?_
  rintro e w' ⟨rfl, hg⟩
  have ho := h2.tick now hn
  rw [hr] at hg ho ⊢
  have hn := ws_next h3 h4 hg ho
  exact ⟨rfl, hn.1, hn.2⟩
theorem wstatus (h : WS B g st K W) (hb : Below W.heap.size W w) (hK : K ≤ 100) (now ack r : Int) (hn : now ≤ 9223372036854775807) (A : Option Addr) (n cc : Nat) (nks : List Nk) (hN : NkAt w A n cc nks) (hA : ∀ ad, A = some ad → W.heap.size ≤ ad.block) (hr : statusR cW st now ack nks = (st', r)) :
    Calls Tryz.prog 14 #[.pointer (some ⟨g, 0, none⟩), .int .i64 now, .agg #[.int .i64 ack, .slice A n cc]] w (WO B g st' (K + 3) W (.int .i64 r)) := by
  obtain ⟨F, h1, h2, h3, h4⟩ := h
  refine (amf_status (h1.below hb) h2 (by omega) now ack hn A n cc nks hN (fun ad e _ hd => by have := h1.lt _ hd; have := hA ad e; omega)).mono ?_
  rintro e w' ⟨rfl, hg⟩
  have ho := h2.status now ack nks hn
  rw [hr] at hg ho ⊢
  have hn := ws_next h3 (Nat.le_trans h4 hb.size) hg ho
  exact ⟨rfl, hn.1, (hb.mono h4).trans hn.2⟩
theorem wstate (h : WS B g st K W) : Calls Tryz.prog 12 #[.pointer (some ⟨g, 0, none⟩)] W (WO B g st K W (.agg (stV st))) := by
  obtain ⟨F, h1, h2, h3, h4⟩ := h
  refine (amf_state h1 h2).mono ?_
  rintro e w' ⟨rfl, hb⟩
  exact ⟨rfl, ⟨F, h1.below hb, h2, h3, Nat.le_trans h4 hb.size⟩, hb.mono h4⟩
theorem wgives (h : WS B g st K W) (hb : Below W.heap.size W w) (hK : K ≤ 100) (now n : Int) (hnow : now ≤ 9223372036854775807) (hn : n ≤ 9223372036854775807) (bs : List UInt8) {A : Option Addr} {nn cc : Nat} (hs : Sl w w.heap.size A nn cc (bvs bs)) (hA : ∀ ad, A = some ad → W.heap.size ≤ ad.block ∧ ad.block < w.heap.size)
    (hr : (grantR cW st now n).1 = st' ∧ puB (grantR cW st now n).2.1 = bs ∧ (grantR cW st now n).2.2 = 0) :
    Calls Tryz.prog 23 #[.pointer (some ⟨g, 0, none⟩), .int .i64 now, .int .i64 n, .slice A nn cc] w (WO B g st' (K + 3) W (.bool true)) := by
  obtain ⟨F, h1, h2, h3, h4⟩ := h
  have hG := amf_grant (h1.below hb) h2 (by omega) now n hnow hn
  refine (gives35_any now n bs hs (fun ad e => ⟨(hA ad e).2, fun hd => by have := h1.lt _ hd; have := (hA ad e).1; omega⟩) hr.2.1 hr.2.2 hG).mono ?_
  rintro e w' ⟨rfl, hg⟩
  have ho := h2.grant now n hnow
  rw [hr.1] at hg ho
  have hn := ws_next h3 (Nat.le_trans h4 hb.size) hg ho
  exact ⟨rfl, hn.1, (hb.mono h4).trans hn.2⟩
theorem wgives_lit (h : WS B g st K W) (hK : K ≤ 100) (now n : Int) (hnow : now ≤ 9223372036854775807) (hn : n ≤ 9223372036854775807) (bs : List UInt8) (cs : Array Value) (fr : Nat × Nat) (hcs : cs.toList = bvs bs) (m : Nat) (hm : m = bs.length) (hl : bs.length ≤ 1000)
    (hr : (grantR cW st now n).1 = st' ∧ puB (grantR cW st now n).2.1 = bs ∧ (grantR cW st now n).2.2 = 0) :
    Calls Tryz.prog 23 #[.pointer (some ⟨g, 0, none⟩), .int .i64 now, .int .i64 n, .slice (some ⟨W.heap.size, 0, none⟩) m m] (W.alloc (.cells cs 5 fr)) (WO B g st' (K + 3) W (.bool true)) := by
  subst hm
  have hba := (Below.refl W.heap.size W).alloc (Nat.le_refl _) (.cells cs 5 fr)
  have hs : Sl (W.alloc (.cells cs 5 fr)) (W.alloc (.cells cs 5 fr)).heap.size (some ⟨W.heap.size, 0, none⟩) (bvs bs).length (bvs bs).length (bvs bs) := sl_lit (heap_new W _) hcs (by simp; omega)
  rw [bvs_length] at hs
  exact wgives h hba hK now n hnow hn bs hs (fun ad e => by cases e; simp) hr
theorem wgives_no (h : WS B g st K W) (hK : K ≤ 100) (now n : Int) (hnow : now ≤ 9223372036854775807) (hn : n ≤ 9223372036854775807)
    (hr : (grantR cW st now n).1 = st' ∧ puB (grantR cW st now n).2.1 = [] ∧ (grantR cW st now n).2.2 = 0) :
    Calls Tryz.prog 23 #[.pointer (some ⟨g, 0, none⟩), .int .i64 now, .int .i64 n, .slice none 0 0] W (WO B g st' (K + 3) W (.bool true)) :=
  wgives h (Below.refl _ _) hK now n hnow hn [] ⟨rfl, Nat.le_refl _, by omega, fun e => by omega⟩ (fun ad e => by cases e) hr
end
end Go.Proofs.YtmiipkaobloedaaGreat
namespace Go.Proofs.YtmiipkaobloedaaGreat
open Go.RowKit Go.Shelf
attribute [local go_sem] Oper.semAt_some
theorem nk_lit (w : World) (fr : Nat × Nat) : NkAt (w.alloc (.cells #[.int .i64 0, .bool true, .int .i64 1, .int .i64 32767] 68 fr)) (some ⟨w.heap.size, 0, none⟩) 1 1 [⟨0, true, 1, 32767⟩] := by
  refine ⟨rfl, Nat.le_refl _, by omega, fun _ => ⟨_, rfl, by simp, fun j r hj => ?_⟩⟩
  have hj0 : j = 0 := by
    have := (List.getElem?_eq_some_iff.1 hj).1
    simp at this
    omega
  subst hj0
  simp at hj
  subst hj
  have hh := heap_new w (.cells #[.int .i64 0, .bool true, .int .i64 1, .int .i64 32767] 68 fr)
  have hc := fun j u hu => World.news_of_block hh j u hu
  exact ⟨hc 0 _ rfl, hc 1 _ rfl, hc 2 _ rfl, hc 3 _ rfl⟩
set_option maxRecDepth 100000 in
set_option maxHeartbeats 4000000 in
theorem works35_any (w : World) : Calls Tryz.prog 7 #[] w (TrueW w) := by
  have hne := amf_new 0 0 10 0 0 1 1000 w
  have kc := fun (w : World) (C : Array Value) (n c : Nat) => Lib.run_convert_bytes_const (P := Tryz.prog) w 31 5 C n c und29 und5
  unfold cf7 at hne
  go_enter Tryz.func7, Tryz.ntmps7
  go_wp2_with fail
  refine hne.mono ?_
  rintro e1 w1 ⟨hb1, ⟨_, g, rfl, hg, hF, hO⟩ | ⟨hr, _⟩⟩
  rotate_left
  · exact absurd hr (by decide)
  have hs1 : WS w.heap.size g newSd 0 w1 := ⟨_, hF, hO, fun k hk => by rw [show k = g from hk]; exact hg, hb1.size⟩
  have HB1 := Lib.hid hb1
  clear hne hF hO hb1
  generalize hBq : w.heap.size = B at *
  have HBQ := Lib.hid hBq
  clear hBq
  go_wp2_with (go_at_call 9; refine (num35_any _ _).mono ?_; rintro e1 w9 ⟨rfl, rfl⟩)
  refine (wsubmit hs1 exHe _ xW1 _ _ rfl 5 rfl (by decide)).mono ?_
  rintro e2 w2 ⟨rfl, hs2, hb2⟩
  have HB2 := Lib.hid (HB1.out.trans hb2)
  clear hb2 hs1
  go_wp2_with (go_at_call 9; refine (num35_any _ _).mono ?_; rintro e1 w9 ⟨rfl, rfl⟩)
  refine (wgives_lit hs2 (by omega) 0 5 (by omega) (by omega) [136, 0, 104, 101, 108] _ _ rfl 5 rfl (by decide) xW2).mono ?_
  rintro e3 w3 ⟨rfl, hs3, hb3⟩
  have HB3 := Lib.hid (HB2.out.trans hb3)
  clear hb3 hs2
  go_wp2_with (go_at_call 9; refine (num35_any _ _).mono ?_; rintro e1 w9 ⟨rfl, rfl⟩)
  refine (wgives_no hs3 (by omega) 0 2 (by omega) (by omega) xW3).mono ?_
  rintro e4 w4 ⟨rfl, hs4, hb4⟩
  have HB4 := Lib.hid (HB3.out.trans hb4)
  clear hb4 hs3
  go_wp2_with (go_at_call 9; refine (num35_any _ _).mono ?_; rintro e1 w9 ⟨rfl, rfl⟩)
  refine (wgives_lit hs4 (by omega) 1 9 (by omega) (by omega) [176, 1, 108, 111] _ _ rfl 4 rfl (by decide) xW4).mono ?_
  rintro e5 w5 ⟨rfl, hs5, hb5⟩
  have HB5 := Lib.hid (HB4.out.trans hb5)
  clear hb5 hs4
  go_wp2_with (go_at_call 9; refine (num35_any _ _).mono ?_; rintro e1 w9 ⟨rfl, rfl⟩)
  refine (wgives_no hs5 (by omega) 1 9 (by omega) (by omega) xW5).mono ?_
  rintro e6 w6 ⟨rfl, hs6, hb6⟩
  have HB6 := Lib.hid (HB5.out.trans hb6)
  clear hb6 hs5
  go_wp2_with (go_at_call 9; refine (num35_any _ _).mono ?_; rintro e1 w9 ⟨rfl, rfl⟩)
  refine (wstatus hs6 ((Below.refl _ _).alloc (Nat.le_refl _) _) (by omega) 2 2 _ (by omega) _ 1 1 _ (nk_lit w6 (0, 0)) (fun ad e => by cases e; exact Nat.le_refl _) xW6).mono ?_
  rintro e7 w7 ⟨rfl, hs7, hb7⟩
  have HB7 := Lib.hid (HB6.out.trans hb7)
  clear hb7 hs6
  go_wp2_with (go_at_call 9; refine (num35_any _ _).mono ?_; rintro e1 w9 ⟨rfl, rfl⟩)
  refine (wgives_lit hs7 (by omega) 2 99 (by omega) (by omega) [248, 0, 128, 1, 101, 108] _ _ rfl 6 rfl (by decide) xW7).mono ?_
  rintro e8 w8 ⟨rfl, hs8, hb8⟩
  have HB8 := Lib.hid (HB7.out.trans hb8)
  clear hb8 hs7
  go_wp2_with (go_at_call 9; refine (num35_any _ _).mono ?_; rintro e1 w9 ⟨rfl, rfl⟩)
  refine (wstate hs8).mono ?_
  rintro e9 w9 ⟨rfl, hs9, hb9⟩
  have HB9 := Lib.hid (HB8.out.trans hb9)
  clear hb9 hs8
  rw [xS7]
  go_wp2_with (go_at_call 9; refine (num35_any _ _).mono ?_; rintro e1 w9 ⟨rfl, rfl⟩)
  refine (wstatus hs9 (Below.refl _ _) (by omega) 3 2 _ (by omega) none 0 0 [] ⟨rfl, Nat.le_refl _, by omega, fun e => by omega⟩ (fun ad e => by cases e) xW8).mono ?_
  rintro e10 w10 ⟨rfl, hs10, hb10⟩
  have HB10 := Lib.hid (HB9.out.trans hb10)
  clear hb10 hs9
  go_wp2_with (go_at_call 9; refine (num35_any _ _).mono ?_; rintro e1 w9 ⟨rfl, rfl⟩)
  refine (wstate hs10).mono ?_
  rintro e11 w11 ⟨rfl, hs11, hb11⟩
  have HB11 := Lib.hid (HB10.out.trans hb11)
  clear hb11 hs10
  rw [xS8]
  go_wp2_with (go_at_call 9; refine (num35_any _ _).mono ?_; rintro e1 w9 ⟨rfl, rfl⟩)
  refine (wsubmit hs11 [120] _ xW9 _ _ rfl 1 rfl (by decide)).mono ?_
  rintro e12 w12 ⟨rfl, hs12, hb12⟩
  have HB12 := Lib.hid (HB11.out.trans hb12)
  clear hb12 hs11
  go_wp2_with (go_at_call 9; refine (num35_any _ _).mono ?_; rintro e1 w9 ⟨rfl, rfl⟩)
  refine (wgives_lit hs12 (by omega) 4 9 (by omega) (by omega) [160, 2, 120] _ _ rfl 3 rfl (by decide) xW10).mono ?_
  rintro e13 w13 ⟨rfl, hs13, hb13⟩
  have HB13 := Lib.hid (HB12.out.trans hb13)
  clear hb13 hs12
  go_wp2_with (go_at_call 9; refine (num35_any _ _).mono ?_; rintro e1 w9 ⟨rfl, rfl⟩)
  refine (wtick hs13 (by omega) 14 _ (by omega) xW11).mono ?_
  rintro e14 w14 ⟨rfl, hs14, hb14⟩
  have HB14 := Lib.hid (HB13.out.trans hb14)
  clear hb14 hs13
  go_wp2_with (go_at_call 9; refine (num35_any _ _).mono ?_; rintro e1 w9 ⟨rfl, rfl⟩)
  refine (wgives_lit hs14 (by omega) 14 9 (by omega) (by omega) [160, 2, 120] _ _ rfl 3 rfl (by decide) xW12).mono ?_
  rintro e15 w15 ⟨rfl, hs15, hb15⟩
  have HB15 := Lib.hid (HB14.out.trans hb15)
  clear hb15 hs14
  go_wp2_with (go_at_call 9; refine (num35_any _ _).mono ?_; rintro e1 w9 ⟨rfl, rfl⟩)
  refine (wtick hs15 (by omega) 24 _ (by omega) xW13).mono ?_
  rintro e16 w16 ⟨rfl, hs16, hb16⟩
  have HB16 := Lib.hid (HB15.out.trans hb16)
  clear hb16 hs15
  go_wp2_with (go_at_call 9; refine (num35_any _ _).mono ?_; rintro e1 w9 ⟨rfl, rfl⟩)
  go_ret
  exact ⟨rfl, HBQ.out ▸ HB16.out⟩
end Go.Proofs.YtmiipkaobloedaaGreat
