/- New of layers 31, 32 and, where unacknowledged mode is asked for, of layer 38. -/
import Derived.Test.YtbjajboodohabaaGreatE6
import Derived.Deep.RegionHeld3
namespace Go.Proofs.YtbjajboodohabaaGreat
open Go.RowKit Go.Shelf
attribute [local go_sem] Oper.semAt_some
def newUs (c : Nat) : Us := ⟨[], 0, c, 0⟩
def okS (c : Int) : Bool := decide (1 ≤ c) && decide (c ≤ 1048576)
theorem okS_iff {c : Int} : okS c = true ↔ 1 ≤ c ∧ c ≤ 1048576 := by simp [okS]
theorem newUs_ok {c : Int} (h : okS c = true) : UsOk (newUs c.toNat) 0 := by
  have := okS_iff.1 h
  exact ⟨by show 1 ≤ c.toNat; omega, by show c.toNat ≤ _; omega, Nat.le_refl _, fun s hs => by simp [newUs] at hs, fun x r e => by simp [newUs] at e, fun _ => rfl, Nat.zero_le _⟩
def SnewO (base : Nat) (w : World) (c : Int) (e : Ending) (w' : World) : Prop :=
  Below w.heap.size w w' ∧ ((okS c = true ∧ ∃ s, e = .returned (.tuple #[.pointer (some ⟨s, 0, none⟩), .int .i64 0]) ∧ w.heap.size ≤ s ∧ SndP base s (newUs c.toNat) (fun k => k = s) w') ∨ (okS c = false ∧ e = .returned (.tuple #[.pointer none, .int .i64 2])))
theorem snewP (base : Nat) (c : Int) (w : World) : Calls Tryz.prog 7 #[.int .i64 c] w (SnewO base w c) := by
  cases h : okS c with
  | true =>
    have hc := okS_iff.1 h
    obtain ⟨n, rfl⟩ : ∃ n : Nat, c = n := ⟨c.toNat, by omega⟩
    refine (snew_ok n w (by omega) (by omega)).mono fun e w' ⟨he, hS, hb⟩ => ⟨hb, .inl ⟨h, _, he, Nat.le_refl _, .slice none 0 0, [], ⟨hS.blk, ownQ_nil _ _ _, fun i p hi => by simp [newUs] at hi⟩, fun k => ?_⟩⟩
    simp [qBlock]
  | false =>
    have hc : c < 1 ∨ 1048576 < c := by
      have hn : ¬ (1 ≤ c ∧ c ≤ 1048576) := fun hh => Bool.false_ne_true (h.symm.trans (okS_iff.2 hh))
      omega
    exact (snew_bad c w hc).mono fun e w' ⟨he, hw⟩ => ⟨hw ▸ Below.refl _ _, .inr ⟨h, he⟩⟩
def RnewO (base : Nat) (w : World) (d : Int) (e : Ending) (w' : World) : Prop :=
  Below w.heap.size w w' ∧ ((okS d = true ∧ ∃ r M, e = .returned (.tuple #[.pointer (some ⟨r, 0, none⟩), .int .i64 0]) ∧ w.heap.size ≤ r ∧ w.heap.size ≤ M ∧ RcvP base r 0 (newRs d) (fun k => k = r ∨ k = M) w') ∨ (okS d = false ∧ e = .returned (.tuple #[.pointer none, .int .i64 2])))
theorem rnewP (base : Nat) (d : Int) (w : World) (hb : base ≤ w.heap.size) : Calls Tryz.prog 8 #[.int .i64 d] w (RnewO base w d) := by
  cases h : okS d with
  | true =>
    have hd := okS_iff.1 h
    refine (rnew_ok d w hd.1 hd.2).mono fun e w' ⟨he, hR, hb'⟩ => ⟨hb', .inl ⟨h, _, w.heap.size, he, by omega, Nat.le_refl _, _, _, _, _, hR, newRs_ok hd.1 (by omega), newRs_win d, by omega, fun k => ?_⟩⟩
    simp
  | false =>
    have hc : d < 1 ∨ 1048576 < d := by
      have hn : ¬ (1 ≤ d ∧ d ≤ 1048576) := fun hh => Bool.false_ne_true (h.symm.trans (okS_iff.2 hh))
      omega
    exact (rnew_bad d w hc).mono fun e w' ⟨he, hw⟩ => ⟨hw ▸ Below.refl _ _, .inr ⟨h, he⟩⟩
/-- a new entity of unacknowledged mode -/
structure UNew (base : Nat) (w : World) (c d k : Int) (g u s r : Nat) (Fs Fr : Nat → Prop) (w' : World) : Prop where
  ent : Blk w' g 64 #[.int .i64 k, .iface 97 (.pointer (some ⟨u, 0, none⟩)), .pointer none]
  un : Blk w' u 99 #[.pointer (some ⟨s, 0, none⟩), .pointer (some ⟨r, 0, none⟩)]
  sp : SndP base s (newUs c.toNat) Fs w'
  rp : RcvP base r 0 (newRs d) Fr w'
  dis : ∀ k, Fs k → ¬ Fr k
  ge : ∀ k, Fs k ∨ Fr k → w.heap.size ≤ k ∧ k ≠ g ∧ k ≠ u
  gg : w.heap.size ≤ g
  gu : w.heap.size ≤ u
theorem far_below {P : (Nat → Prop) → World → Prop} (hf : FarP P) {F : Nat → Prop} {w w' : World} (h : P F w) (hb : Below w.heap.size w w') : P F w' :=
  hf F w w' (fun _ _ => False) h ((Kept.of_below hb).mono_at fun k o hk hm => by have := lt_of_heap hk; omega) fun k o hk => hk.elim
def Mk2O (base : Nat) (w : World) (c d : Int) (e : Ending) (w' : World) : Prop :=
  Below w.heap.size w w' ∧ ∃ g, (e = .returned (.tuple #[.pointer (some ⟨g, 0, none⟩), .bool true]) ∧ okS c = true ∧ okS d = true ∧ ∃ u s r Fs Fr, UNew base w c d 0 g u s r Fs Fr w') ∨ (e = .returned (.tuple #[.pointer (some ⟨g, 0, none⟩), .bool false]) ∧ ¬ (okS c = true ∧ okS d = true))
set_option maxRecDepth 100000 in
set_option maxHeartbeats 1000000 in
theorem mk2P (base : Nat) (m c d a0 a1 a2 a3 a4 a5 a6 : Int) (w : World) (hbase : base ≤ w.heap.size) : Calls Tryz.prog 45 #[.agg (Tm.cfg m c d a0 a1 a2 a3 a4 a5 a6)] w (Mk2O base w c d) := by
  unfold Tm.cfg
  have b0 := Blk.new w 33 #[.int .i64 m, .int .i64 c, .int .i64 d, .int .i64 a0, .int .i64 a1, .int .i64 a2, .int .i64 a3, .int .i64 a4, .int .i64 a5, .int .i64 a6]
  have hw0 := (Below.refl w.heap.size w).alloc (Nat.le_refl _) (.cells #[.int .i64 m, .int .i64 c, .int .i64 d, .int .i64 a0, .int .i64 a1, .int .i64 a2, .int .i64 a3, .int .i64 a4, .int .i64 a5, .int .i64 a6] 33)
  obtain ⟨_, x1, x2, _⟩ := b0.ten
  have HB := Lib.hid b0
  have HW := Lib.hid hw0
  clear b0 hw0
  go_enter Tryz.func45, Tryz.ntmps45
  go_wp2_with fail
  generalize w.alloc (.cells #[.int .i64 m, .int .i64 c, .int .i64 d, .int .i64 a0, .int .i64 a1, .int .i64 a2, .int .i64 a3, .int .i64 a4, .int .i64 a5, .int .i64 a6] 33) = w0 at *
  refine (snewP base c w0).mono ?_
  rintro e1 w1 ⟨hk1, h1⟩
  have hb1 := HB.out.below hk1 HB.out.lt
  have hw1 := HW.out.trans (hk1.mono HW.out.size)
  obtain ⟨_, _, y2, _⟩ := hb1.ten
  have hz1 := hw1.size
  have hz0 := HW.out.size
  have HK1 := Lib.hid hw1
  clear hk1 hb1 hw1 x1 x2 HB HW
  have key : ∃ (p : Option Addr) (n : Int), e1 = .returned (.tuple #[.pointer p, .int .i64 n]) ∧ ((okS c = true ∧ n = 0 ∧ ∃ s, p = some ⟨s, 0, none⟩ ∧ w.heap.size ≤ s ∧ SndP base s (newUs c.toNat) (fun k => k = s) w1) ∨ (okS c = false ∧ n = 2 ∧ p = none)) := by
    rcases h1 with ⟨i1, s, rfl, i2, i3⟩ | ⟨i1, rfl⟩
    · exact ⟨_, _, rfl, .inl ⟨i1, rfl, s, rfl, by omega, i3⟩⟩
    · exact ⟨_, _, rfl, .inr ⟨i1, rfl, rfl⟩⟩
  obtain ⟨p, n, rfl, hp⟩ := key
  have HP := Lib.hid hp
  clear h1 hp
  have hbw1 : base ≤ w1.heap.size := by omega
  go_wp2_with fail
  refine (rnewP base d w1 hbw1).mono ?_
  rintro e2 w2 ⟨hk2, h2⟩
  have hw2 := HK1.out.trans (hk2.mono HK1.out.size)
  have hz2 := hk2.size
  have HK2 := Lib.hid hw2
  have HL2 := Lib.hid hk2
  clear hw2 HK1 y2 hk2
  rcases HP.out with ⟨ic, rfl, s, rfl, hs, hS⟩ | ⟨ic, rfl, rfl⟩
  · have HS := Lib.hid (far_below (sndP_far _ _ _) hS HL2.out)
    have hsl := sndP_lt _ _ _ _ _ s hS rfl
    have HIC := Lib.hid ic
    clear hS HP ic
    rcases h2 with ⟨id, r, M, rfl, hr, hM, hR⟩ | ⟨id, rfl⟩
    · have HR := Lib.hid hR
      have HID := Lib.hid id
      have hrl := rcvP_lt _ _ _ _ _ _ r hR (.inl rfl)
      have hMl := rcvP_lt _ _ _ _ _ _ M hR (.inr rfl)
      clear hR id
      go_wp2_with fail
      go_ret2
      have hb3 : Below w2.heap.size w2 ((w2.alloc (.cells #[.pointer (some ⟨s, 0, none⟩), .pointer (some ⟨r, 0, none⟩)] 99)).alloc (.cells #[.int .i64 0, .iface 97 (.pointer (some ⟨w2.heap.size, 0, none⟩)), .pointer none] 64)) := ((Below.refl _ _).alloc (Nat.le_refl _) _).alloc (by simp) _
      refine ⟨HK2.out.trans (hb3.mono HK2.out.size), w2.heap.size + 1, .inl ⟨rfl, HIC.out, HID.out, w2.heap.size, s, r, (fun k => k = s), (fun k => k = r ∨ k = M), ⟨?_, ?_, far_below (sndP_far _ _ _) HS.out hb3, far_below (rcvP_far _ _ _ _) HR.out hb3, ?_, ?_, by omega, by omega⟩⟩⟩
      · have b := Blk.new (w2.alloc (.cells #[.pointer (some ⟨s, 0, none⟩), .pointer (some ⟨r, 0, none⟩)] 99)) 64 #[.int .i64 0, .iface 97 (.pointer (some ⟨w2.heap.size, 0, none⟩)), .pointer none]
        simp only [World.size_alloc] at b
        exact b
      · exact (Blk.new w2 99 #[.pointer (some ⟨s, 0, none⟩), .pointer (some ⟨r, 0, none⟩)]).alloc _
      · rintro k rfl (e | e) <;> omega
      · rintro k (rfl | rfl | rfl) <;> omega
    · have hno : ¬ (okS c = true ∧ okS d = true) := fun h => Bool.false_ne_true (id.symm.trans h.2)
      have HNO := Lib.hid hno
      clear hno id
      go_wp2_with fail
      go_ret2
      exact ⟨((HK2.out.alloc HK2.out.size _).alloc (by simp; omega) _), w2.heap.size + 1, .inr ⟨rfl, HNO.out⟩⟩
  · have hno : ¬ (okS c = true ∧ okS d = true) := fun h => Bool.false_ne_true (ic.symm.trans h.1)
    have HNO := Lib.hid hno
    clear hno ic HP
    rcases h2 with ⟨id, r, M, rfl, hr, hM, hR⟩ | ⟨id, rfl⟩
    · clear hR id
      go_wp2_with fail
      go_ret2
      exact ⟨((HK2.out.alloc HK2.out.size _).alloc (by simp; omega) _), w2.heap.size + 1, .inr ⟨rfl, HNO.out⟩⟩
    · clear id
      go_wp2_with fail
      go_ret2
      exact ⟨((HK2.out.alloc HK2.out.size _).alloc (by simp; omega) _), w2.heap.size + 1, .inr ⟨rfl, HNO.out⟩⟩
theorem UNew.put {base : Nat} {w w' : World} {c d k : Int} {g u s r : Nat} {Fs Fr : Nat → Prop} (h : UNew base w c d k g u s r Fs Fr w') (m : Int) : UNew base w c d m g u s r Fs Fr (w'.setCell ⟨g, 0, none⟩ (.int .i64 m)) := by
  have hne : u ≠ g := by
    rintro rfl
    have h1 := h.ent
    have h2 := h.un
    unfold Blk at h1 h2
    rw [h1] at h2
    cases h2
  have hk : Kept (fun k o => k = g ∧ ¬ IsRow o 5) w' (w'.setCell ⟨g, 0, none⟩ (.int .i64 m)) := (Kept.refl _ w').setCell (p := ⟨g, 0, none⟩) (fun o ho => ⟨rfl, by
    rintro ⟨cs, fr, rfl⟩
    have h1 := h.ent
    unfold Blk at h1
    have ho' : w'.heap[g]? = _ := ho
    rw [h1] at ho'
    cases ho'⟩) _
  refine ⟨by simpa using h.ent.set_ 0 (.int .i64 m), h.un.far (p := ⟨g, 0, none⟩) hne _, sndP_far _ _ _ _ _ _ _ h.sp hk fun k o hm => ⟨fun e => (h.ge k (.inl e)).2.1 hm.1, hm.2⟩, rcvP_far _ _ _ _ _ _ _ _ h.rp hk fun k o hm => ⟨fun e => (h.ge k (.inr e)).2.1 hm.1, hm.2⟩, h.dis, h.ge, h.gg, h.gu⟩
def UNewO (base : Nat) (w : World) (c d : Int) (e : Ending) (w' : World) : Prop :=
  Below w.heap.size w w' ∧ ((∃ g u s r Fs Fr, e = .returned (.tuple #[.pointer (some ⟨g, 0, none⟩), .int .i64 0]) ∧ okS c = true ∧ okS d = true ∧ UNew base w c d 2 g u s r Fs Fr w') ∨ (e = .returned (.tuple #[.pointer none, .int .i64 2]) ∧ ¬ (okS c = true ∧ okS d = true)))
set_option maxRecDepth 100000 in
set_option maxHeartbeats 1000000 in
theorem unewP (base : Nat) (c d a0 a1 a2 a3 a4 a5 a6 : Int) (w : World) (hbase : base ≤ w.heap.size) : Calls Tryz.prog 6 #[.agg (Tm.cfg 2 c d a0 a1 a2 a3 a4 a5 a6)] w (UNewO base w c d) := by
  have hm := fun W hW => mk2P base 2 c d a0 a1 a2 a3 a4 a5 a6 W hW
  have hget := fun W : World => Tm.map_get (W.alloc (.map Tm.mk3 3)).drew W.heap.size 2 (heap_new W _) 45 (.inr (.inl ⟨rfl, rfl⟩))
  unfold Tm.cfg at *
  have HM := Lib.hid hm
  have b0 := Blk.new w 33 #[.int .i64 2, .int .i64 c, .int .i64 d, .int .i64 a0, .int .i64 a1, .int .i64 a2, .int .i64 a3, .int .i64 a4, .int .i64 a5, .int .i64 a6]
  have x0 := b0.ten.1
  have hw0 := (Below.refl w.heap.size w).alloc (Nat.le_refl _) (.cells #[.int .i64 2, .int .i64 c, .int .i64 d, .int .i64 a0, .int .i64 a1, .int .i64 a2, .int .i64 a3, .int .i64 a4, .int .i64 a5, .int .i64 a6] 33)
  have HB := Lib.hid b0
  have HW := Lib.hid hw0
  clear hm b0 hw0
  go_enter Tryz.func6, Tryz.ntmps6
  go_wp2_with fail
  generalize w.alloc (.cells #[.int .i64 2, .int .i64 c, .int .i64 d, .int .i64 a0, .int .i64 a1, .int .i64 a2, .int .i64 a3, .int .i64 a4, .int .i64 a5, .int .i64 a6] 33) = w0 at *
  have hbl : w.heap.size < w0.drew.heap.size := HB.out.lt
  go_region_held3 (fun w' => w'.cell? ⟨w.heap.size, 0, none⟩ = some (.int .i64 2))
    (first | (exact (World.cell?_alloc_lt _ _ ⟨w.heap.size, 0, none⟩ hbl).trans x0) | go_keep)
    ((go_at_call 23; refine (Tm.makers_any _).mono ?_; rintro e1 w1 ⟨rfl, rfl⟩))
  clear hget
  have b1 := (HB.out.alloc (.map Tm.mk3 3)).drew
  obtain ⟨y0, y1, y2, y3, y4, y5, y6, y7, y8, y9⟩ := b1.ten
  have hW1 := (HW.out.alloc HW.out.size (.map Tm.mk3 3)).drew
  have hl1 : w.heap.size < w0.heap.size := HB.out.lt
  generalize (w0.alloc (.map Tm.mk3 3)).drew = w1 at *
  have hz := hW1.size
  have hbw1 : base ≤ w1.heap.size := by omega
  go_wp2_with fail
  refine (HM.out _ hbw1).mono ?_
  rintro e2 w2 ⟨hb2, g, ⟨rfl, ic, id, u, s, r, Fs, Fr, hN⟩ | ⟨rfl, hno⟩⟩
  · have hbw := hW1.trans (hb2.mono hz)
    have b2 := b1.below hb2 b1.lt
    have hm0 := b2.ten.1
    have g0 := hN.ent.cell 0
    simp at g0
    have f0 := hN.ent.frozen 0
    have hgg := hN.gg
    have HN := Lib.hid hN
    have HBW := Lib.hid hbw
    have HIC := Lib.hid ic
    have HID := Lib.hid id
    clear hN HM y0 y1 y2 y3 y4 y5 y6 y7 y8 y9 b1 b2 hb2 hbw ic id
    go_wp2
    go_ret2
    have hp := HN.out.put 2
    refine ⟨HBW.out.setCell (p := ⟨g, 0, none⟩) (Nat.le_trans hz hgg) _, .inl ⟨g, u, s, r, Fs, Fr, rfl, HIC.out, HID.out, ⟨hp.ent, hp.un, hp.sp, hp.rp, hp.dis, fun k hk => ⟨Nat.le_trans hz (hp.ge k hk).1, (hp.ge k hk).2⟩, Nat.le_trans hz hp.gg, Nat.le_trans hz hp.gu⟩⟩⟩
  · have hbw := hW1.trans (hb2.mono hz)
    have HBW := Lib.hid hbw
    have HNO := Lib.hid hno
    clear HM y0 y1 y2 y3 y4 y5 y6 y7 y8 y9 b1 hb2 hbw hno
    go_wp2
    go_ret2
    exact ⟨HBW.out, .inr ⟨rfl, HNO.out⟩⟩
end Go.Proofs.YtbjajboodohabaaGreat
