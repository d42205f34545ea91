/- rlc.New of any configuration. -/
import Derived.Test.YthicdlbelhokjaaGreatAv
namespace Go.Proofs.YthicdlbelhokjaaGreat
open Go.RowKit
attribute [local go_sem] Oper.semAt_some

/-- a new entity of the acknowledged mode -/
def NewA (w : World) (k a0 a1 a2 a3 a4 a5 a6 : Int) (g : Nat) (w' : World) : Prop :=
  ∃ u a s r, Blk w' g 67 #[.int .i64 k, .iface 104 (.pointer (some ⟨u, 0, none⟩)), .pointer (some ⟨a, 0, none⟩)] ∧ Blk w' u 107 #[.pointer (some ⟨a, 0, none⟩)] ∧ Blk w' a 101 #[.pointer (some ⟨s, 0, none⟩), .pointer (some ⟨r, 0, none⟩)] ∧ Blk w' s 121 (snd21 a0 a1 a2 a3 a4 a5 a6) ∧ w.heap.size ≤ g ∧ w.heap.size ≤ u ∧ w.heap.size ≤ a ∧ w.heap.size ≤ s
def Mk3 (w : World) (a0 a1 a2 a3 a4 a5 a6 : Int) (e : Ending) (w' : World) : Prop :=
  Below w.heap.size w w' ∧ ∃ g, (e = .returned (.tuple #[.pointer (some ⟨g, 0, none⟩), .bool true]) ∧ rightB a0 a1 a2 a3 a4 a5 a6 = true ∧ NewA w 0 a0 a1 a2 a3 a4 a5 a6 g w') ∨ (e = .returned (.tuple #[.pointer (some ⟨g, 0, none⟩), .bool false]) ∧ rightB a0 a1 a2 a3 a4 a5 a6 = false)
set_option maxRecDepth 100000 in
set_option maxHeartbeats 1000000 in
theorem mk3_any (m c r a0 a1 a2 a3 a4 a5 a6 : Int) (w : World) : Calls Tryz.prog 44 #[.agg (cfg m c r a0 a1 a2 a3 a4 a5 a6)] w (Mk3 w a0 a1 a2 a3 a4 a5 a6) := by
  have hcall := fun W => amnew_any a0 a1 a2 a3 a4 a5 a6 W
  unfold cf7 at hcall
  unfold cfg
  have b0 := Blk.new w 26 #[.int .i64 m, .int .i64 c, .int .i64 r, .int .i64 a0, .int .i64 a1, .int .i64 a2, .int .i64 a3, .int .i64 a4, .int .i64 a5, .int .i64 a6]
  have hw0 := (Below.refl w.heap.size w).alloc (Nat.le_refl _) (.cells #[.int .i64 m, .int .i64 c, .int .i64 r, .int .i64 a0, .int .i64 a1, .int .i64 a2, .int .i64 a3, .int .i64 a4, .int .i64 a5, .int .i64 a6] 26)
  obtain ⟨_, _, _, x3, x4, x5, x6, x7, x8, x9⟩ := b0.ten
  have HCA := Lib.hid hcall
  have HW := Lib.hid hw0
  clear b0 hw0 hcall
  go_enter Tryz.func44, Tryz.ntmps44
  go_wp2_with fail
  generalize w.alloc (.cells #[.int .i64 m, .int .i64 c, .int .i64 r, .int .i64 a0, .int .i64 a1, .int .i64 a2, .int .i64 a3, .int .i64 a4, .int .i64 a5, .int .i64 a6] 26) = w0 at *
  refine (HCA.out _).mono ?_
  rintro e1 w1 ⟨hk1, h1⟩
  have hw1 := HW.out.trans (hk1.mono HW.out.size)
  have hz1 := HW.out.size
  have HK := Lib.hid hw1
  have HZ := Lib.hid hw1.size
  clear hk1 hw1 x3 x4 x5 x6 x7 x8 x9 HW HCA
  rcases h1 with ⟨hr, a, s, q, rfl, ha, hs, hba, hbs⟩ | ⟨hr, rfl⟩
  · have HA := Lib.hid hba
    have HS := Lib.hid hbs
    clear hba hbs
    go_wp2
    go_ret2
    refine ⟨((HK.out.alloc HK.out.size _).alloc (by have := HZ.out; simp; omega) _), w1.heap.size + 1, .inl ⟨rfl, hr, w1.heap.size, a, s, q, ?_, ?_, ?_, ?_, ?_, ?_, ?_, ?_⟩⟩
    · have b := Blk.new (w1.alloc (.cells #[.pointer (some ⟨a, 0, none⟩)] 107)) 67 #[.int .i64 0, .iface 104 (.pointer (some ⟨w1.heap.size, 0, none⟩)), .pointer (some ⟨a, 0, none⟩)]
      simp only [World.size_alloc] at b
      exact b
    · exact (Blk.new w1 107 _).alloc _
    · exact (HA.out.alloc _).alloc _
    · exact (HS.out.alloc _).alloc _
    · have := HZ.out; omega
    · exact HZ.out
    · omega
    · omega
  · go_wp2
    go_ret2
    exact ⟨((HK.out.alloc HK.out.size _).alloc (by have := HZ.out; simp; omega) _), w1.heap.size + 1, .inr ⟨rfl, hr⟩⟩

/-- a configuration is accepted -/
def validB (m c r a0 a1 a2 a3 a4 a5 a6 : Int) : Bool :=
  if m = 1 then (decide (1 ≤ c) && decide (c ≤ 1048576)) else if m = 2 then okU c r else if m = 3 then rightB a0 a1 a2 a3 a4 a5 a6 else false
/-- a new entity in memory, k in its field of the mode -/
def Made (w : World) (m k c a0 a1 a2 a3 a4 a5 a6 : Int) (g : Nat) (w' : World) : Prop :=
  (m = 1 ∧ ∃ t, Blk w' g 67 #[.int .i64 k, .iface 108 (.pointer (some ⟨t, 0, none⟩)), .pointer none] ∧ Blk w' t 112 #[.slice none 0 0, .int .i64 c] ∧ w.heap.size ≤ g ∧ w.heap.size ≤ t) ∨ (m = 2 ∧ NewU w k c g w') ∨ (m = 3 ∧ NewA w k a0 a1 a2 a3 a4 a5 a6 g w')
theorem Made.head {w W : World} {m k c a0 a1 a2 a3 a4 a5 a6 : Int} {g : Nat} (h : Made w m k c a0 a1 a2 a3 a4 a5 a6 g W) : ∃ x y, Blk W g 67 #[.int .i64 k, x, y] ∧ w.heap.size ≤ g := by
  rcases h with ⟨_, t, h1, _, h2, _⟩ | ⟨_, _, _, _, h1, _, _, h2, _⟩ | ⟨_, _, _, _, _, h1, _, _, _, h2, _⟩ <;> exact ⟨_, _, h1, h2⟩
theorem Made.put {w W : World} {m k c a0 a1 a2 a3 a4 a5 a6 : Int} {g : Nat} (h : Made w m k c a0 a1 a2 a3 a4 a5 a6 g W) (k' : Int) : Made w m k' c a0 a1 a2 a3 a4 a5 a6 g (W.setCell ⟨g, 0, none⟩ (.int .i64 k')) := by
  rcases h with ⟨hm, t, h1, h2, h3⟩ | ⟨hm, u, s, q, h1, h2, h3, h4⟩ | ⟨hm, u, a, s, r, h1, h2, h3, h5, h4⟩
  · exact .inl ⟨hm, t, by simpa using h1.set_ 0 (.int .i64 k'), h2.far (h2.ne h1 (by decide)) _, h3⟩
  · exact .inr (.inl ⟨hm, u, s, q, by simpa using h1.set_ 0 (.int .i64 k'), h2.far (h2.ne h1 (by decide)) _, h3.far (h3.ne h1 (by decide)) _, h4⟩)
  · exact .inr (.inr ⟨hm, u, a, s, r, by simpa using h1.set_ 0 (.int .i64 k'), h2.far (h2.ne h1 (by decide)) _, h3.far (h3.ne h1 (by decide)) _, h5.far (h5.ne h1 (by decide)) _, h4⟩)
/-- a constructor's answer -/
def MkOut (w : World) (m c r a0 a1 a2 a3 a4 a5 a6 : Int) (e : Ending) (w' : World) : Prop :=
  Below w.heap.size w w' ∧ ∃ g, (e = .returned (.tuple #[.pointer (some ⟨g, 0, none⟩), .bool true]) ∧ validB m c r a0 a1 a2 a3 a4 a5 a6 = true ∧ Made w m 0 c a0 a1 a2 a3 a4 a5 a6 g w') ∨ (e = .returned (.tuple #[.pointer (some ⟨g, 0, none⟩), .bool false]) ∧ validB m c r a0 a1 a2 a3 a4 a5 a6 = false)
theorem mk_any (m c r a0 a1 a2 a3 a4 a5 a6 : Int) (f : FuncId) (h : (m = 1 ∧ f = 42) ∨ (m = 2 ∧ f = 43) ∨ (m = 3 ∧ f = 44)) (w : World) : Calls Tryz.prog f #[.agg (cfg m c r a0 a1 a2 a3 a4 a5 a6)] w (MkOut w m c r a0 a1 a2 a3 a4 a5 a6) := by
  rcases h with ⟨rfl, rfl⟩ | ⟨rfl, rfl⟩ | ⟨rfl, rfl⟩
  · refine (mk1_any 1 c r a0 a1 a2 a3 a4 a5 a6 w).mono ?_
    rintro e w' ⟨g, t, rfl, h1, h2, h3, h4, h5, h6⟩
    refine ⟨h6, g, ?_⟩
    have hv : validB 1 c r a0 a1 a2 a3 a4 a5 a6 = (decide (1 ≤ c) && decide (c ≤ 1048576)) := rfl
    rw [hv]
    cases decide (1 ≤ c) && decide (c ≤ 1048576) with
    | true => exact .inl ⟨rfl, rfl, .inl ⟨rfl, t, h1, h2, h3, h4⟩⟩
    | false => exact .inr ⟨rfl, rfl⟩
  · refine (mk2_any 2 c r a0 a1 a2 a3 a4 a5 a6 w).mono ?_
    rintro e w' ⟨h6, g, ⟨rfl, h1, h2⟩ | ⟨rfl, h1⟩⟩
    · exact ⟨h6, g, .inl ⟨rfl, h1, .inr (.inl ⟨rfl, h2⟩)⟩⟩
    · exact ⟨h6, g, .inr ⟨rfl, h1⟩⟩
  · refine (mk3_any 3 c r a0 a1 a2 a3 a4 a5 a6 w).mono ?_
    rintro e w' ⟨h6, g, ⟨rfl, h1, h2⟩ | ⟨rfl, h1⟩⟩
    · exact ⟨h6, g, .inl ⟨rfl, h1, .inr (.inr ⟨rfl, h2⟩)⟩⟩
    · exact ⟨h6, g, .inr ⟨rfl, h1⟩⟩
end Go.Proofs.YthicdlbelhokjaaGreat
