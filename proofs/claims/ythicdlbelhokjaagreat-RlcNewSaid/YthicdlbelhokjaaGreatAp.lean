/- rlc: the constructors of the unacknowledged mode. -/
import Derived.Test.YthicdlbelhokjaaGreatAi
namespace Go.Proofs.YthicdlbelhokjaaGreat
open Go.RowKit
attribute [local go_sem] Oper.semAt_some

/-- umsend.New's answer -/
def U7 (w : World) (c : Int) (e : Ending) (w' : World) : Prop :=
  ∃ p n, e = .returned (.tuple #[.pointer p, .int .i64 n]) ∧ Below w.heap.size w w' ∧
    ((1 ≤ c ∧ c ≤ 1048576 ∧ n = 0 ∧ ∃ s, p = some ⟨s, 0, none⟩ ∧ w.heap.size ≤ s ∧ Blk w' s 82 #[.slice none 0 0, .int .i64 0, .int .i64 c, .int .i64 0]) ∨ (¬(1 ≤ c ∧ c ≤ 1048576) ∧ n = 2 ∧ p = none))
theorem unew_any (c : Int) (w : World) : Calls Tryz.prog 7 #[.int .i64 c] w (U7 w c) := by
  by_cases h1 : c < 1
  · go_enter Tryz.func7, Tryz.ntmps7
    go_wp2
    go_ret2
    exact ⟨_, _, rfl, Below.refl _ _, .inr ⟨by omega, rfl, rfl⟩⟩
  · have h1' : decide (c < 1) = false := by simpa using h1
    by_cases h2 : 1048576 < c
    · go_enter Tryz.func7, Tryz.ntmps7
      go_wp2
      go_ret2
      exact ⟨_, _, rfl, Below.refl _ _, .inr ⟨by omega, rfl, rfl⟩⟩
    · have h2' : decide (1048576 < c) = false := by simpa using h2
      go_enter Tryz.func7, Tryz.ntmps7
      go_wp2
      go_ret2
      exact ⟨_, _, rfl, (Below.refl _ _).alloc (Nat.le_refl _) _, .inl ⟨by omega, by omega, rfl, _, rfl, Nat.le_refl _, Blk.new w 82 _⟩⟩
/-- umrecv.New's answer -/
def U8 (w : World) (c : Int) (e : Ending) (w' : World) : Prop :=
  ∃ p n, e = .returned (.tuple #[.pointer p, .int .i64 n]) ∧ Below w.heap.size w w' ∧ ((1 ≤ c ∧ c ≤ 1048576 ∧ n = 0) ∨ (¬(1 ≤ c ∧ c ≤ 1048576) ∧ n = 2))
theorem urnew_any (c : Int) (w : World) : Calls Tryz.prog 8 #[.int .i64 c] w (U8 w c) := by
  have hmm := @run_makeMap Tryz.prog
  by_cases h1 : c < 1
  · go_enter Tryz.func8, Tryz.ntmps8
    go_wp2
    go_ret2
    exact ⟨_, _, rfl, Below.refl _ _, .inr ⟨by omega, rfl⟩⟩
  · have h1' : decide (c < 1) = false := by simpa using h1
    by_cases h2 : 1048576 < c
    · go_enter Tryz.func8, Tryz.ntmps8
      go_wp2
      go_ret2
      exact ⟨_, _, rfl, Below.refl _ _, .inr ⟨by omega, rfl⟩⟩
    · have h2' : decide (1048576 < c) = false := by simpa using h2
      go_enter Tryz.func8, Tryz.ntmps8
      go_wp2
      go_ret2
      exact ⟨_, _, rfl, ((Below.refl _ _).alloc (Nat.le_refl _) _).alloc (by simp) _, .inl ⟨by omega, by omega, rfl⟩⟩
end Go.Proofs.YthicdlbelhokjaaGreat
