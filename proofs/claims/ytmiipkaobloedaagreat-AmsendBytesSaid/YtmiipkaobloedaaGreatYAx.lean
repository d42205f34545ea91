/- amsend: Submit. -/
import Derived.Test.YtmiipkaobloedaaGreatYFa
import Derived.Test.YtmiipkaobloedaaGreatZb
import Derived.Deep.RegionLaw
namespace Go.Proofs.YtmiipkaobloedaaGreat
open Go.RowKit Go.Shelf
attribute [local go_sem] Oper.semAt_some

section
variable {D F : Nat → Prop} {g : Nat} {c : Cf} {st : Sd} {vq vo : Value} {vs os : List Value} {w : World}
/-- the answer of a call that gives an error: its number, the transmitter behind it -/
def ErOut (w : World) (D F : Nat → Prop) (g : Nat) (c : Cf) (R : Sd × Int) (e : Ending) (w' : World) : Prop := e = .returned (.int .i64 R.2) ∧ AmO w D F g c R.1 w'
set_option maxRecDepth 10000 in
set_option maxHeartbeats 1000000 in
theorem ssubmit_any (h : AmS w D F g c st vq vs vo os) (ht : CfOk c) (hsum : heldP st ≤ 1048576) (hql : st.queue.length ≤ 1048576) {A : Option Addr} {n cc : Nat} {x : List UInt8} (hx : Sl w w.heap.size A n cc (bvs x)) :
    Calls Tryz.prog 10 #[.pointer (some ⟨g, 0, none⟩), .slice A n cc] w (ErOut w D F g c (submitR c st x)) := by
  have hch := scheck_any h ht.timer.1
  have HCH := Lib.hid hch
  have HH := Lib.hid h
  have hxl : x.length = n := by have := hx.len; simpa using this
  have hcap := hx.cap
  have hmx := hx.mx
  clear hch
  cases hf : st.failed with
  | true =>
    rw [hf] at HCH
    have hfin : submitR c st x = (st, 8) := by unfold submitR; rw [if_pos hf]
    rw [hfin]
    simp only [if_pos] at HCH
    clear h hf hfin
    go_enter Tryz.func10, Tryz.ntmps10
    go_wp2_with fail
    refine HCH.out.mono ?_
    rintro e1 w1 ⟨rfl, rfl⟩
    go_wp2
    go_ret
    exact ⟨rfl, HH.out.o (Kept.refl _ w)⟩
  | false =>
    rw [hf] at HCH
    simp only [Bool.false_eq_true, if_false] at HCH
    by_cases h0 : n = 0
    · have hfin : submitR c st x = (st, 2) := by unfold submitR; rw [if_neg (by simp [hf]), if_pos (.inl (by omega))]
      rw [hfin]
      have d0 : ((n : Int) == 0) = true := by simp; omega
      have H0 := Lib.hid h0
      clear h hf hfin h0 hx hxl
      go_enter Tryz.func10, Tryz.ntmps10
      go_wp2_with fail
      refine HCH.out.mono ?_
      rintro e1 w1 ⟨rfl, rfl⟩
      go_wp2
      go_ret
      exact ⟨rfl, HH.out.o (Kept.refl _ w)⟩
    have d0 : ((n : Int) == 0) = false := by simp; omega
    by_cases h9 : 9000 < n
    · have hfin : submitR c st x = (st, 2) := by unfold submitR; rw [if_neg (by simp [hf]), if_pos (.inr (by omega))]
      rw [hfin]
      have d1 : decide ((9000 : Int) < n) = true := by simp; omega
      clear h hf hfin hx hxl
      go_enter Tryz.func10, Tryz.ntmps10
      go_wp2_with fail
      refine HCH.out.mono ?_
      rintro e1 w1 ⟨rfl, rfl⟩
      go_wp2
      go_ret
      exact ⟨rfl, HH.out.o (Kept.refl _ w)⟩
    have d1 : decide ((9000 : Int) < n) = false := by simp; omega
    have hhe := fun k => sheld_any (h.drewN k) hsum
    have HHE := Lib.hid hhe
    have y6 := h.blk.cell 6
    simp [sndC] at y6
    by_cases hfu : c.cap < (heldP st : Int) + (n : Int)
    · have hfin : submitR c st x = (st, 7) := by unfold submitR; rw [if_neg (by simp [hf]), if_neg (by omega), if_pos (by omega)]
      rw [hfin]
      have d2 : decide (c.cap < (heldP st : Int) + (n : Int)) = true := decide_eq_true hfu
      clear h hf hfin hx hxl hhe
      generalize heldP st = H at *
      have hwr : IntKind.i64.wrap ((H : Int) + n) = (H : Int) + n := IntWalk.i64_in _ (by omega)
      go_enter Tryz.func10, Tryz.ntmps10
      go_wp2_with fail
      refine HCH.out.mono ?_
      rintro e1 w1 ⟨rfl, rfl⟩
      go_wp2_with fail
      go_quiet ((go_at_call 26; exact Calls.quiet_of_same ((HHE.out _).mono fun _ _ hh => ⟨hh.1, hh.2.symm⟩)))
      go_wp2
      go_ret
      exact ⟨rfl, (HH.out.o (Kept.refl _ w)).drewN _⟩
    · have hfin : submitR c st x = (submitS st x, 0) := by unfold submitR; rw [if_neg (by simp [hf]), if_neg (by omega), if_neg (by omega)]
      rw [hfin]
      have d2 : decide (c.cap < (heldP st : Int) + (n : Int)) = false := decide_eq_false hfu
      generalize heldP st = H at *
      have hwr : IntKind.i64.wrap ((H : Int) + n) = (H : Int) + n := IntWalk.i64_in _ (by omega)
      obtain ⟨j0, hj0, hm0, hm1, hm2⟩ := info_parts sl_info
      have hcl := fun k => clone_any A n cc x (w.drewN k) (hx.drewN k) (by omega)
      have HCL := Lib.hid hcl
      have y7 := h.blk.cell 7
      have f7 := h.blk.frozen 7
      simp [sndC] at y7
      obtain ⟨Av, cv, rfl, hsv⟩ := h.qr.sl
      have hgl := h.blk.lt
      clear h hf hfin hhe hcl hsv
      go_enter Tryz.func10, Tryz.ntmps10
      go_wp2_with fail
      refine HCH.out.mono ?_
      rintro e1 w1 ⟨rfl, rfl⟩
      go_wp2_with fail
      go_quiet ((go_at_call 26; exact Calls.quiet_of_same ((HHE.out _).mono fun _ _ hh => ⟨hh.1, hh.2.symm⟩)))
      go_wp2_with fail
      have hA0 := HH.out.drewN (nq)
      have hk0 : Kept (fun k _ => D k) w (w.drewN nq) := (Kept.refl _ w).drewN' nq
      have hcl0 : Calls Tryz.prog 27 #[.slice A n cc] (w.drewN nq).drew (GivesRow (w.drewN nq).heap.size 5 (w.drewN nq).drew n (bvs x)) := HCL.out (nq + 1)
      have hz0 := Lib.hid (show (w.drewN nq).heap.size = w.heap.size from rfl)
      generalize w.drewN nq = w0 at *
      have x0 := hA0.blk.cell 7
      have f0 := hA0.blk.frozen 7
      simp [sndC] at x0
      have hgl0 : g < w0.heap.size := hA0.blk.lt
      have HA0 := Lib.hid hA0
      have HCL0 := Lib.hid hcl0
      have HK0 := Lib.hid hk0
      have HXL := Lib.hid hxl
      clear hA0 hcl0 hk0 y6 y7 f7 hx HCL HHE HCH hxl
      go_region_law (first
        | ((refine step_append_q (by rfl) _ _ 49 (by rfl) j0 (.slice none 0 0) 24 und22 hj0 hm0 hm1 hm2 rfl (by rfl) ((HA0.out.qr.drew.below hb1 (Nat.le_refl _)).alloc (.cells #[.slice A1 n c1] 31)) ⟨w1.heap.size, 0, none⟩ 1 (.slice A1 n c1) (by rfl) (World.news_of_block (heap_alloc_new w1 _) 0 _ rfl) rfl (by unfold maxLen; omega) (by omega) (by simp) ?_; intro v5 w5 hown5 hgrow5 hq5; obtain ⟨A5, c5, rfl, hs5⟩ := hown5.sl; have hG5 := ((HA0.out.blk.drew.below hb1 HA0.out.blk.lt).alloc (.cells #[.slice A1 n c1] 31)).grown hgrow5 (fun e => ((HA0.out.qr.drew.below hb1 (Nat.le_refl _)).alloc (.cells #[.slice A1 n c1] 31)).blk_ne ((HA0.out.blk.drew.below hb1 HA0.out.blk.lt).alloc (.cells #[.slice A1 n c1] 31)) (by decide) e.symm); have q2 := hG5.cell 7; have q3 := hG5.frozen 7; simp [sndC] at q2))
        | ((go_simp; (with_reducible refine HCL0.out.mono ?_); rintro e1 w1 ⟨v1, rfl, hv1, hb1⟩; obtain ⟨A1, c1, rfl, hs1, _⟩ := own_sl hv1; have x0' := (hb1.cell (p := ⟨g, 7, none⟩) hgl0).trans x0; have hgl1 : g < w1.heap.size := Nat.lt_of_lt_of_le hgl0 hb1.size; have x0'' := (World.cell?_alloc_lt w1 (.cells #[.slice A1 n c1] 31) ⟨g, 7, none⟩ hgl1).trans x0'; have f0' := (hb1.frozen (p := ⟨g, 7, none⟩) hgl0).trans f0)))
      all_goals
        go_wp2
        go_ret
        have hxl2 := HXL.out
        subst hxl2
        exact ⟨rfl, AmO.step (HK0.out.drewN' 1) (Grows.refl _ _) (Grows.refl _ _) (AmS.submit (w := w0.drewN 1) (HA0.out.drewN 1) (by omega) hb1 hv1 hown5 hgrow5 hq5)⟩
end
end Go.Proofs.YtmiipkaobloedaaGreat
