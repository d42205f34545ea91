/- am: the constructors of the two halves, got, must. -/
import Derived.Test.YthicdlbelhokjaaGreatAr
import Derived.WideLaws
namespace Go.Proofs.YthicdlbelhokjaaGreat
open Go.RowKit
attribute [local go_sem] Oper.semAt_some

set_option maxRecDepth 100000 in
theorem new32 (a0 a1 a2 a3 a4 a5 a6 : Int) (w : World) : Calls Tryz.prog 32 #[.agg (cf7 a0 a1 a2 a3 a4 a5 a6)] w (A32 w a0 a1 a2 a3 a4 a5 a6) := by
  have hc := CfM.new w a0 a1 a2 a3 a4 a5 a6
  have hcall := fun W => right46 a0 a1 a2 a3 a4 a5 a6 W
  obtain ⟨b, hb⟩ : ∃ b, rightB a0 a1 a2 a3 a4 a5 a6 = b := ⟨_, rfl⟩
  simp only [hb] at hcall
  have HB := Lib.hid hb
  clear hb
  unfold cf7 at *
  have hz := World.size_alloc w (.cells #[.int .i64 a0, .int .i64 a1, .int .i64 a2, .int .i64 a3, .int .i64 a4, .int .i64 a5, .int .i64 a6] 24)
  have x := hc.seven
  obtain ⟨x0, x1, x2, x3, x4, x5, x6⟩ := x
  have HC := Lib.hid hc
  have HCA := Lib.hid hcall
  clear hc hcall
  go_enter Tryz.func32, Tryz.ntmps32
  go_wp2_with fail
  generalize w.alloc (.cells #[.int .i64 a0, .int .i64 a1, .int .i64 a2, .int .i64 a3, .int .i64 a4, .int .i64 a5, .int .i64 a6] 24) = w0 at *
  refine (HCA.out _).mono ?_
  rintro e1 w1 ⟨rfl, hb1⟩
  have hc1 : CfM w w.heap.size a0 a1 a2 a3 a4 a5 a6 w1 := ⟨HC.out.1.below hb1 HC.out.1.lt, HC.out.2.trans (hb1.mono HC.out.2.size)⟩
  obtain ⟨y0, y1, y2, y3, y4, y5, y6⟩ := hc1.seven
  have HC1 := Lib.hid hc1
  clear x0 x1 x2 x3 x4 x5 x6 hb1 hc1
  cases b with
  | true =>
    go_wp2
    go_ret2
    exact ⟨HC1.out.2.alloc HC1.out.2.size _, .inl ⟨HB.out, _, rfl, HC1.out.2.size, Blk.new _ _ _⟩⟩
  | false =>
    go_wp2
    go_ret2
    exact ⟨HC1.out.2, .inr ⟨HB.out, rfl⟩⟩

set_option maxRecDepth 100000 in
theorem new35 (a0 a1 a2 a3 a4 a5 a6 : Int) (w : World) : Calls Tryz.prog 35 #[.agg (cf7 a0 a1 a2 a3 a4 a5 a6)] w (A35 w a0 a1 a2 a3 a4 a5 a6) := by
  have hc := CfM.new w a0 a1 a2 a3 a4 a5 a6
  have hcall := fun W => right47 a0 a1 a2 a3 a4 a5 a6 W
  have hmm := @run_makeMap Tryz.prog
  obtain ⟨b, hb⟩ : ∃ b, rightB a0 a1 a2 a3 a4 a5 a6 = b := ⟨_, rfl⟩
  simp only [hb] at hcall
  have HB := Lib.hid hb
  clear hb
  unfold cf7 at *
  have hz := World.size_alloc w (.cells #[.int .i64 a0, .int .i64 a1, .int .i64 a2, .int .i64 a3, .int .i64 a4, .int .i64 a5, .int .i64 a6] 24)
  have x := hc.seven
  obtain ⟨x0, x1, x2, x3, x4, x5, x6⟩ := x
  have HC := Lib.hid hc
  have HCA := Lib.hid hcall
  clear hc hcall
  go_enter Tryz.func35, Tryz.ntmps35
  go_wp2_with fail
  generalize w.alloc (.cells #[.int .i64 a0, .int .i64 a1, .int .i64 a2, .int .i64 a3, .int .i64 a4, .int .i64 a5, .int .i64 a6] 24) = w0 at *
  refine (HCA.out _).mono ?_
  rintro e1 w1 ⟨rfl, hb1⟩
  have hc1 : CfM w w.heap.size a0 a1 a2 a3 a4 a5 a6 w1 := ⟨HC.out.1.below hb1 HC.out.1.lt, HC.out.2.trans (hb1.mono HC.out.2.size)⟩
  obtain ⟨y0, y1, y2, y3, y4, y5, y6⟩ := hc1.seven
  have HC1 := Lib.hid hc1
  clear x0 x1 x2 x3 x4 x5 x6 hb1 hc1
  cases b with
  | true =>
    go_wp2
    go_ret2
    exact ⟨(HC1.out.2.alloc HC1.out.2.size _).alloc (by have := HC1.out.2.size; simp; omega) _, .inl ⟨HB.out, _, rfl⟩⟩
  | false =>
    go_wp2
    go_ret2
    exact ⟨HC1.out.2, .inr ⟨HB.out, rfl⟩⟩

set_option maxRecDepth 100000 in
theorem clo31 (a0 a1 a2 a3 a4 a5 a6 : Int) (c : Nat) (w : World) (hc : Blk w c 24 (cf7 a0 a1 a2 a3 a4 a5 a6)) : Calls Tryz.prog 31 #[.pointer (some ⟨c, 0, none⟩)] w (A32 w a0 a1 a2 a3 a4 a5 a6) := by
  have hcall := new32 a0 a1 a2 a3 a4 a5 a6 w
  have x : w.cell? ⟨c, 0, none⟩ = some (.int .i64 a0) ∧ w.cell? ⟨c, 1, none⟩ = some (.int .i64 a1) ∧ w.cell? ⟨c, 2, none⟩ = some (.int .i64 a2) ∧ w.cell? ⟨c, 3, none⟩ = some (.int .i64 a3) ∧ w.cell? ⟨c, 4, none⟩ = some (.int .i64 a4) ∧ w.cell? ⟨c, 5, none⟩ = some (.int .i64 a5) ∧ w.cell? ⟨c, 6, none⟩ = some (.int .i64 a6) := ⟨hc.cell 0, hc.cell 1, hc.cell 2, hc.cell 3, hc.cell 4, hc.cell 5, hc.cell 6⟩
  obtain ⟨x0, x1, x2, x3, x4, x5, x6⟩ := x
  unfold cf7 at hcall
  have HCA := Lib.hid hcall
  clear hc hcall
  go_enter Tryz.func31, Tryz.ntmps31
  go_wp2_with fail
  refine HCA.out.mono ?_
  rintro e1 w1 ⟨hk, ⟨hr, s, rfl, hs, hb⟩ | ⟨hr, rfl⟩⟩
  · go_wp2
    go_ret2
    exact ⟨hk, .inl ⟨hr, _, rfl, hs, hb⟩⟩
  · go_wp2
    go_ret2
    exact ⟨hk, .inr ⟨hr, rfl⟩⟩

set_option maxRecDepth 100000 in
theorem clo34 (a0 a1 a2 a3 a4 a5 a6 : Int) (c : Nat) (w : World) (hc : Blk w c 24 (cf7 a0 a1 a2 a3 a4 a5 a6)) : Calls Tryz.prog 34 #[.pointer (some ⟨c, 0, none⟩)] w (A35 w a0 a1 a2 a3 a4 a5 a6) := by
  have hcall := new35 a0 a1 a2 a3 a4 a5 a6 w
  have x : w.cell? ⟨c, 0, none⟩ = some (.int .i64 a0) ∧ w.cell? ⟨c, 1, none⟩ = some (.int .i64 a1) ∧ w.cell? ⟨c, 2, none⟩ = some (.int .i64 a2) ∧ w.cell? ⟨c, 3, none⟩ = some (.int .i64 a3) ∧ w.cell? ⟨c, 4, none⟩ = some (.int .i64 a4) ∧ w.cell? ⟨c, 5, none⟩ = some (.int .i64 a5) ∧ w.cell? ⟨c, 6, none⟩ = some (.int .i64 a6) := ⟨hc.cell 0, hc.cell 1, hc.cell 2, hc.cell 3, hc.cell 4, hc.cell 5, hc.cell 6⟩
  obtain ⟨x0, x1, x2, x3, x4, x5, x6⟩ := x
  unfold cf7 at hcall
  have HCA := Lib.hid hcall
  clear hc hcall
  go_enter Tryz.func34, Tryz.ntmps34
  go_wp2_with fail
  refine HCA.out.mono ?_
  rintro e1 w1 ⟨hk, ⟨hr, s, rfl⟩ | ⟨hr, rfl⟩⟩
  · go_wp2
    go_ret2
    exact ⟨hk, .inl ⟨hr, _, rfl⟩⟩
  · go_wp2
    go_ret2
    exact ⟨hk, .inr ⟨hr, rfl⟩⟩

/-- the panic that must raises -/
abbrev raise (er : Int) : Ending := .panicked [{ v := .iface 28 (.int .i64 er), recovered := false }]
theorem must_ok (r : Nat) (w : World) (h : Blk w r 28 #[.int .i64 0]) : Calls Tryz.prog 45 #[.slice (some ⟨r, 0, none⟩) 1 1] w fun e w' => e = .returned (.tuple #[]) ∧ w = w' := by
  have c0 := h.cell 0
  simp at c0
  clear h
  go_enter Tryz.func45, Tryz.ntmps45
  go_wp2
  go_loop [6] (fun i => ∃ k : Nat, k ≤ 1 ∧ i = .int .i64 k) (fun i => 1 - (intOf i).toNat)
  case atStart => exact ⟨0, by decide, rfl⟩
  case round =>
    obtain ⟨k, hk, rfl⟩ := hrel
    obtain rfl | rfl : k = 0 ∨ k = 1 := by omega
    · go_wp2
      go_round
      case rel => exact ⟨1, by decide, by go_num⟩
      case measure => simp [intOf]
    · go_wp2
      go_end0
      exact ⟨rfl, rfl⟩
theorem must_bad (r : Nat) (w : World) (h : Blk w r 28 #[.int .i64 2]) : Calls Tryz.prog 45 #[.slice (some ⟨r, 0, none⟩) 1 1] w fun e w' => e = raise 2 ∧ w = w' := by
  have c0 := h.cell 0
  simp at c0
  clear h
  unfold raise
  go_enter Tryz.func45, Tryz.ntmps45
  go_wp2
  go_loop [6] (fun i => i = .int .i64 0) (fun i => 1 - (intOf i).toNat)
  case atStart => rfl
  case round =>
    subst hrel
    go_wp2
    exact ⟨rfl, rfl, rfl⟩

def G30 (w : World) (a0 a1 a2 a3 a4 a5 a6 : Int) (e : Ending) (w' : World) : Prop :=
  Below w.heap.size w w' ∧ ((rightB a0 a1 a2 a3 a4 a5 a6 = true ∧ ∃ s, e = .returned (.pointer (some ⟨s, 0, none⟩)) ∧ w.heap.size ≤ s ∧ Blk w' s 121 (snd21 a0 a1 a2 a3 a4 a5 a6)) ∨ (rightB a0 a1 a2 a3 a4 a5 a6 = false ∧ e = raise 2))
theorem got30 (a0 a1 a2 a3 a4 a5 a6 : Int) (c : Nat) (w : World) (hc : Blk w c 24 (cf7 a0 a1 a2 a3 a4 a5 a6)) : Calls Tryz.prog 30 #[.func (.func 31) #[] #[.pointer (some ⟨c, 0, none⟩)]] w (G30 w a0 a1 a2 a3 a4 a5 a6) := by
  have hcall := clo31 a0 a1 a2 a3 a4 a5 a6 c w hc
  have HCA := Lib.hid hcall
  clear hc hcall
  go_enter Tryz.func30, Tryz.ntmps30
  go_wp2_with fail
  refine HCA.out.mono ?_
  rintro e1 w1 ⟨hk, ⟨hr, s, rfl, hs, hb⟩ | ⟨hr, rfl⟩⟩
  · have HK := Lib.hid hk
    have hm := must_ok w1.heap.size _ (Blk.new w1 28 #[.int .i64 0])
    have HM := Lib.hid hm
    clear hk hm
    go_wp2_with (go_at_call 45; refine HM.out.mono ?_; rintro e2 w2 ⟨rfl, rfl⟩)
    go_ret
    exact ⟨HK.out.alloc HK.out.size _, .inl ⟨hr, _, rfl, hs, hb.alloc _⟩⟩
  · have HK := Lib.hid hk
    have hm := must_bad w1.heap.size _ (Blk.new w1 28 #[.int .i64 2])
    have HM := Lib.hid hm
    clear hk hm
    go_wp2_with (go_at_call 45; refine HM.out.mono ?_; rintro e2 w2 ⟨rfl, rfl⟩)
    exact ⟨rfl, HK.out.alloc HK.out.size _, .inr ⟨hr, rfl⟩⟩

def G33 (w : World) (a0 a1 a2 a3 a4 a5 a6 : Int) (e : Ending) (w' : World) : Prop :=
  Below w.heap.size w w' ∧ ((rightB a0 a1 a2 a3 a4 a5 a6 = true ∧ ∃ s, e = .returned (.pointer (some ⟨s, 0, none⟩))) ∨ (rightB a0 a1 a2 a3 a4 a5 a6 = false ∧ e = raise 2))
theorem got33 (a0 a1 a2 a3 a4 a5 a6 : Int) (c : Nat) (w : World) (hc : Blk w c 24 (cf7 a0 a1 a2 a3 a4 a5 a6)) : Calls Tryz.prog 33 #[.func (.func 34) #[] #[.pointer (some ⟨c, 0, none⟩)]] w (G33 w a0 a1 a2 a3 a4 a5 a6) := by
  have hcall := clo34 a0 a1 a2 a3 a4 a5 a6 c w hc
  have HCA := Lib.hid hcall
  clear hc hcall
  go_enter Tryz.func33, Tryz.ntmps33
  go_wp2_with fail
  refine HCA.out.mono ?_
  rintro e1 w1 ⟨hk, ⟨hr, s, rfl⟩ | ⟨hr, rfl⟩⟩
  · have HK := Lib.hid hk
    have hm := must_ok w1.heap.size _ (Blk.new w1 28 #[.int .i64 0])
    have HM := Lib.hid hm
    clear hk hm
    go_wp2_with (go_at_call 45; refine HM.out.mono ?_; rintro e2 w2 ⟨rfl, rfl⟩)
    go_ret
    exact ⟨HK.out.alloc HK.out.size _, .inl ⟨hr, _, rfl⟩⟩
  · have HK := Lib.hid hk
    have hm := must_bad w1.heap.size _ (Blk.new w1 28 #[.int .i64 2])
    have HM := Lib.hid hm
    clear hk hm
    go_wp2_with (go_at_call 45; refine HM.out.mono ?_; rintro e2 w2 ⟨rfl, rfl⟩)
    exact ⟨rfl, HK.out.alloc HK.out.size _, .inr ⟨hr, rfl⟩⟩
end Go.Proofs.YthicdlbelhokjaaGreat
