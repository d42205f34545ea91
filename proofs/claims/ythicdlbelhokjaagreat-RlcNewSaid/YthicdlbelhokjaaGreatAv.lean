/- rlc: the constructors of the unacknowledged and of the acknowledged mode. -/
import Derived.Test.YthicdlbelhokjaaGreatAu
namespace Go.Proofs.YthicdlbelhokjaaGreat
open Go.RowKit
attribute [local go_sem] Oper.semAt_some

theorem Blk.ne {w : World} {g h : Nat} {t u : TypeId} {cs ds : Array Value} (a : Blk w g t cs) (b : Blk w h u ds) (hn : t ≠ u) : g ≠ h := by
  rintro rfl
  unfold Blk at a b
  rw [a] at b
  injection b with h3
  injection h3 with _ h4
  exact hn h4
/-- a new entity of the unacknowledged mode -/
def NewU (w : World) (k c : Int) (g : Nat) (w' : World) : Prop :=
  ∃ u s q, Blk w' g 67 #[.int .i64 k, .iface 113 (.pointer (some ⟨u, 0, none⟩)), .pointer none] ∧ Blk w' u 115 #[.pointer (some ⟨s, 0, none⟩), .pointer q] ∧ Blk w' s 82 #[.slice none 0 0, .int .i64 0, .int .i64 c, .int .i64 0] ∧ w.heap.size ≤ g ∧ w.heap.size ≤ u ∧ w.heap.size ≤ s
def okU (c r : Int) : Bool := (decide (1 ≤ c) && decide (c ≤ 1048576)) && (decide (1 ≤ r) && decide (r ≤ 1048576))
def Mk2 (w : World) (c r : Int) (e : Ending) (w' : World) : Prop :=
  Below w.heap.size w w' ∧ ∃ g, (e = .returned (.tuple #[.pointer (some ⟨g, 0, none⟩), .bool true]) ∧ okU c r = true ∧ NewU w 0 c g w') ∨ (e = .returned (.tuple #[.pointer (some ⟨g, 0, none⟩), .bool false]) ∧ okU c r = false)
set_option maxRecDepth 100000 in
set_option maxHeartbeats 1000000 in
theorem mk2_any (m c r a0 a1 a2 a3 a4 a5 a6 : Int) (w : World) : Calls Tryz.prog 43 #[.agg (cfg m c r a0 a1 a2 a3 a4 a5 a6)] w (Mk2 w c r) := by
  unfold cfg
  have b0 := Blk.new w 26 #[.int .i64 m, .int .i64 c, .int .i64 r, .int .i64 a0, .int .i64 a1, .int .i64 a2, .int .i64 a3, .int .i64 a4, .int .i64 a5, .int .i64 a6]
  have hw0 := (Below.refl w.heap.size w).alloc (Nat.le_refl _) (.cells #[.int .i64 m, .int .i64 c, .int .i64 r, .int .i64 a0, .int .i64 a1, .int .i64 a2, .int .i64 a3, .int .i64 a4, .int .i64 a5, .int .i64 a6] 26)
  obtain ⟨_, x1, x2, _⟩ := b0.ten
  have HB := Lib.hid b0
  have HW := Lib.hid hw0
  clear b0 hw0
  go_enter Tryz.func43, Tryz.ntmps43
  go_wp2_with fail
  generalize w.alloc (.cells #[.int .i64 m, .int .i64 c, .int .i64 r, .int .i64 a0, .int .i64 a1, .int .i64 a2, .int .i64 a3, .int .i64 a4, .int .i64 a5, .int .i64 a6] 26) = w0 at *
  refine (unew_any c w0).mono ?_
  rintro e1 w1 ⟨p, n, rfl, hk1, h1⟩
  have hb1 := HB.out.below hk1 HB.out.lt
  have hw1 := HW.out.trans (hk1.mono HW.out.size)
  obtain ⟨_, _, y2, _⟩ := hb1.ten
  have hz1 := HW.out.size
  have HK1 := Lib.hid hw1
  have H1 := Lib.hid h1
  clear hk1 hb1 hw1 h1 x1 x2 HB HW
  go_wp2_with fail
  refine (urnew_any r w1).mono ?_
  rintro e2 w2 ⟨q, n', rfl, hk2, h2⟩
  have hw2 := HK1.out.trans (hk2.mono HK1.out.size)
  have h1' : (1 ≤ c ∧ c ≤ 1048576 ∧ n = 0 ∧ ∃ s, p = some ⟨s, 0, none⟩ ∧ w.heap.size ≤ s ∧ Blk w2 s 82 #[.slice none 0 0, .int .i64 0, .int .i64 c, .int .i64 0]) ∨ (¬(1 ≤ c ∧ c ≤ 1048576) ∧ n = 2 ∧ p = none) := by
    rcases H1.out with ⟨i1, i2, i3, s, i4, i5, i6⟩ | i
    · exact .inl ⟨i1, i2, i3, s, i4, by omega, i6.below hk2 i6.lt⟩
    · exact .inr i
  have HK2 := Lib.hid hw2
  have HZ2 := Lib.hid hw2.size
  clear hk2 hw2 H1 HK1 y2
  rcases h1' with ⟨i1, i2, rfl, s, rfl, i5, i6⟩ | ⟨i, rfl, rfl⟩
  · rcases h2 with ⟨j1, j2, rfl⟩ | ⟨j, rfl⟩
    · have HO := Lib.hid (show okU c r = true by simp [okU]; omega)
      have I6 := Lib.hid i6
      clear i1 i2 j1 j2 i6
      go_wp2_with fail
      all_goals
        go_ret2
        refine ⟨?_, w2.heap.size + 1, .inl ⟨rfl, HO.out, w2.heap.size, s, q, ?_, ?_, ?_, ?_, ?_, i5⟩⟩
        · exact ((HK2.out.alloc HK2.out.size _).alloc (by have := HZ2.out; simp; omega) _)
        · have b := Blk.new (w2.alloc (.cells #[.pointer (some ⟨s, 0, none⟩), .pointer q] 115)) 67 #[.int .i64 0, .iface 113 (.pointer (some ⟨w2.heap.size, 0, none⟩)), .pointer none]
          simp only [World.size_alloc] at b
          exact b
        · exact (Blk.new w2 115 #[.pointer (some ⟨s, 0, none⟩), .pointer q]).alloc _
        · exact (I6.out.alloc _).alloc _
        · have := HZ2.out; omega
        · exact HZ2.out
    · have HO := Lib.hid (show okU c r = false by simp [okU]; omega)
      clear i1 i2 j i6
      go_wp2_with fail
      all_goals
        go_ret2
        exact ⟨((HK2.out.alloc HK2.out.size _).alloc (by have := HZ2.out; simp; omega) _), w2.heap.size + 1, .inr ⟨rfl, HO.out⟩⟩
  · have HO := Lib.hid (show okU c r = false by simp [okU]; omega)
    rcases h2 with ⟨j1, j2, rfl⟩ | ⟨j, rfl⟩
    all_goals
      go_wp2_with fail
      all_goals
        go_ret2
        exact ⟨((HK2.out.alloc HK2.out.size _).alloc (by have := HZ2.out; simp; omega) _), w2.heap.size + 1, .inr ⟨rfl, HO.out⟩⟩
end Go.Proofs.YthicdlbelhokjaaGreat
