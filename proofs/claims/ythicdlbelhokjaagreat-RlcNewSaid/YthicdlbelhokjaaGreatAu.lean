/- am.New. -/
import Derived.Test.YthicdlbelhokjaaGreatAt
namespace Go.Proofs.YthicdlbelhokjaaGreat
open Go.RowKit
attribute [local go_sem] Oper.semAt_some

/-- am.New's answer -/
def A9 (w : World) (a0 a1 a2 a3 a4 a5 a6 : Int) (e : Ending) (w' : World) : Prop :=
  Below w.heap.size w w' ∧
    ((rightB a0 a1 a2 a3 a4 a5 a6 = true ∧ ∃ a s r, e = .returned (.tuple #[.pointer (some ⟨a, 0, none⟩), .int .i64 0]) ∧ w.heap.size ≤ a ∧ w.heap.size ≤ s ∧ Blk w' a 101 #[.pointer (some ⟨s, 0, none⟩), .pointer (some ⟨r, 0, none⟩)] ∧ Blk w' s 121 (snd21 a0 a1 a2 a3 a4 a5 a6)) ∨
     (rightB a0 a1 a2 a3 a4 a5 a6 = false ∧ e = .returned (.tuple #[.pointer none, .int .i64 2])))

theorem am_raise (w W : World) (a0 a1 a2 a3 a4 a5 a6 : Int) (T : Array Value) (v4 : Value) (h2 : T[2]? = some (.pointer none)) (h3 : T[3]? = some (.pointer (some ⟨w.heap.size + 1, 0, none⟩)))
    (he : Blk W (w.heap.size + 1) 28 #[v4]) (hB : Below w.heap.size w W) (hR : rightB a0 a1 a2 a3 a4 a5 a6 = false) :
    bodyPostD Tryz.prog Tryz.f9 (A9 w a0 a1 a2 a3 a4 a5 a6) (.panic [{ v := .iface 28 (.int .i64 2), recovered := false }]) { tmps := T, defers := [{ target := .fn (.func 29) #[], args := #[.pointer (some ⟨w.heap.size + 1, 0, none⟩)] }] } W := by
  refine leaves_cons (f := 29) (args := #[.pointer (some ⟨w.heap.size + 1, 0, none⟩)]) (by simp) (by simp [go_sem]) ?_
  refine (caught_raised _ (2 : Int) _ W he).mono ?_
  rintro e u' w'' ⟨rfl, rfl, rfl⟩
  have c4 := (he.set_ 0 (.int .i64 2)).cell 0
  simp at c4
  refine ⟨.tuple #[.pointer none, .int .i64 2], ?_, hB.setCell (p := ⟨w.heap.size + 1, 0, none⟩) (by simp) _, .inr ⟨hR, rfl⟩⟩
  simp [results, Tryz.results9, go_sem, h2, h3, c4]

set_option maxRecDepth 100000 in
set_option maxHeartbeats 1000000 in
theorem amnew_any (a0 a1 a2 a3 a4 a5 a6 : Int) (w : World) : Calls Tryz.prog 9 #[.agg (cf7 a0 a1 a2 a3 a4 a5 a6)] w (A9 w a0 a1 a2 a3 a4 a5 a6) := by
  have hB0 := ((Below.refl w.heap.size w).alloc (Nat.le_refl _) (.cells (cf7 a0 a1 a2 a3 a4 a5 a6) 24)).alloc (by simp) (.cells #[.int .i64 0] 28)
  have bc0 := (Blk.new w 24 (cf7 a0 a1 a2 a3 a4 a5 a6)).alloc (.cells #[.int .i64 0] 28)
  have be0 : Blk ((w.alloc (.cells (cf7 a0 a1 a2 a3 a4 a5 a6) 24)).alloc (.cells #[.int .i64 0] 28)) (w.heap.size + 1) 28 #[.int .i64 0] := by simpa using Blk.new (w.alloc (.cells (cf7 a0 a1 a2 a3 a4 a5 a6) 24)) 28 #[.int .i64 0]
  unfold cf7 at *
  have HB0 := Lib.hid hB0
  have BC0 := Lib.hid bc0
  have BE0 := Lib.hid be0
  clear hB0 bc0 be0
  go_enter_defers Tryz.func9, Tryz.ntmps9
  go_wp2_with fail
  generalize (w.alloc (.cells #[.int .i64 a0, .int .i64 a1, .int .i64 a2, .int .i64 a3, .int .i64 a4, .int .i64 a5, .int .i64 a6] 24)).alloc (.cells #[.int .i64 0] 28) = w0 at *
  refine (got30 a0 a1 a2 a3 a4 a5 a6 w.heap.size w0 BC0.out).mono ?_
  rintro e1 w1 ⟨hk1, h1⟩
  have hB1 : Below w.heap.size w w1 := HB0.out.trans (hk1.mono HB0.out.size)
  have bc1 : Blk w1 w.heap.size 24 (cf7 a0 a1 a2 a3 a4 a5 a6) := BC0.out.below hk1 BC0.out.lt
  have be1 := BE0.out.below hk1 BE0.out.lt
  have hsz := HB0.out.size
  clear hk1 HB0 BC0 BE0
  rcases h1 with ⟨hr, s, rfl, hs, hb⟩ | ⟨hr, rfl⟩
  · have BC := Lib.hid bc1
    have BE := Lib.hid be1
    have HB := Lib.hid hB1
    have HS := Lib.hid hb
    clear bc1 be1 hB1 hb
    go_wp2_with fail
    refine (got33 a0 a1 a2 a3 a4 a5 a6 w.heap.size w1 BC.out).mono ?_
    rintro e2 w2 ⟨hk2, h2⟩
    rcases h2 with ⟨_, r, rfl⟩ | ⟨hr', _⟩
    · have hB2 : Below w.heap.size w w2 := HB.out.trans (hk2.mono HB.out.size)
      have be2 := BE.out.below hk2 BE.out.lt
      have bs2 := HS.out.below hk2 HS.out.lt
      have hB3 := (hB2.setCell (p := ⟨w.heap.size + 1, 0, none⟩) (by simp) (.int .i64 0)).alloc (by have := hB2.size; simpa using this) (.cells #[.pointer (some ⟨s, 0, none⟩), .pointer (some ⟨r, 0, none⟩)] 101)
      have hel := be2.lt
      have ba3 := Blk.new (w2.setCell ⟨w.heap.size + 1, 0, none⟩ (.int .i64 0)) 101 #[.pointer (some ⟨s, 0, none⟩), .pointer (some ⟨r, 0, none⟩)]
      have bs3 := (bs2.far (p := ⟨w.heap.size + 1, 0, none⟩) (fun e => by
        have h1 := bs2
        simp at e
        rw [e] at h1
        unfold Blk at h1 be2
        rw [h1] at be2
        injection be2 with h3
        injection h3 with _ h4
        exact absurd h4 (by decide)) (.int .i64 0)).alloc (.cells #[.pointer (some ⟨s, 0, none⟩), .pointer (some ⟨r, 0, none⟩)] 101)
      have be3 := (be2.set_ 0 (.int .i64 0)).alloc (.cells #[.pointer (some ⟨s, 0, none⟩), .pointer (some ⟨r, 0, none⟩)] 101)
      have b4 := be2
      have hzz : (w2.setCell ⟨w.heap.size + 1, 0, none⟩ (.int .i64 0)).heap.size = w2.heap.size := by simp
      rw [hzz] at ba3
      clear hzz
      have c4 := b4.cell 0
      have f4 := b4.frozen 0
      have c5 := be3.cell 0
      simp at c4 c5
      have H3 := Lib.hid hB3
      have HA := Lib.hid ba3
      have HS3 := Lib.hid bs3
      have HZ := Lib.hid (hB2.size)
      have HC5 := Lib.hid c5
      clear hB3 ba3 bs3 be3 be2 bs2 b4 hB2 hk2 BE HB HS BC c5
      go_wp2
      refine leaves_cons (f := 29) (args := #[.pointer (some ⟨w.heap.size + 1, 0, none⟩)]) (by simp) (by simp [go_sem]) ?_
      refine (caught_idle _ _).mono ?_
      rintro e9 u9 w9 ⟨rfl, rfl, rfl⟩
      have q := HC5.out
      refine ⟨.tuple #[.pointer (some ⟨w2.heap.size, 0, none⟩), .int .i64 0], by simp [results, Tryz.results9, go_sem, q], H3.out, .inl ⟨hr, _, s, r, rfl, HZ.out, by omega, HA.out, HS3.out⟩⟩
    · rw [hr] at hr'
      cases hr'
  · go_wp2
    exact am_raise w _ a0 a1 a2 a3 a4 a5 a6 _ _ rfl rfl be1 hB1 hr
end Go.Proofs.YthicdlbelhokjaaGreat
