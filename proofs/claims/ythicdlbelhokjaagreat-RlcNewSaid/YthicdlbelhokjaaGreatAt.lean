/- am.New: an error is raised and recovered. -/
import Derived.Test.YthicdlbelhokjaaGreatAs
namespace Go.Proofs.YthicdlbelhokjaaGreat
open Go.RowKit
attribute [local go_sem] Oper.semAt_some

/-- the post of a deferred function, its caller's frames fixed -/
def defPost (P : Program) (fn : Func) (c₀ : Frame) (cs cs' : List Frame) (R : Ending → FrameMode → World → Prop) (e : Exit) (a : Act) (w : World) : Prop := bodyPostS P fn c₀ cs R e a cs' w

theorem caught_idle (be : Nat) (w : World) :
    CallsD Tryz.prog 29 #[.pointer (some ⟨be, 0, none⟩)] .returning w fun e u' w' => e = .returned (.tuple #[]) ∧ u' = .returning ∧ w = w' := by
  have hnn := run_eql_nil_nil (P := Tryz.prog) w (t := 20) (by kernel_rfl)
  refine callsD_of_wpS Tryz.func29 rfl fun c₀ cs hu => ?_
  apply wpS_seq
  apply wpS_region
  generalize hQ : Exit.thenS _ _ = Q
  simp [wpOpsS, go_sem, recoverD, hu, Tryz.ntmps29]
  subst hQ
  simp only [Exit.thenS]
  refine wpS_of_wp ?_
  rw [show (#[.pointer (some ⟨be, 0, none⟩)] ++ ((Array.replicate 18 undef).setIfInBounds 4 (.nilIface)).setIfInBounds 1 (.nilIface) : Array Value) = #[.pointer (some ⟨be, 0, none⟩), undef, .nilIface, undef, undef, .nilIface, undef, undef, undef, undef, undef, undef, undef, undef, undef, undef, undef, undef, undef] from by kernel_rfl]
  change Code.wp _ _ (defPost Tryz.prog Tryz.f29 c₀ cs (c₀ :: cs) _) _ w
  go_wp2
  cases c₀
  simp_all [defPost, bodyPostS, results, Tryz.results29]

theorem assert_errno (er : Int) (w : World) : (Instr.typeAssert (.iface 28 (.int .i64 er)) 20 28 true).run Tryz.prog w = .ok (.tuple #[.int .i64 er, .bool true]) w := by kernel_rfl

set_option maxHeartbeats 400000 in
set_option maxRecDepth 100000 in
theorem caught_raised (be : Nat) (er : Int) (v4 : Value) (w : World) (he : Blk w be 28 #[v4]) :
    CallsD Tryz.prog 29 #[.pointer (some ⟨be, 0, none⟩)] (.panicking [{ v := .iface 28 (.int .i64 er), recovered := false }]) w fun e u' w' => e = .returned (.tuple #[]) ∧ u' = .panicking [{ v := .iface 28 (.int .i64 er), recovered := true }] ∧
      w.setCell ⟨be, 0, none⟩ (.int .i64 er) = w' := by
  have hnn := run_eql_held_nil (P := Tryz.prog) w 20 28 (.int .i64 er) (by kernel_rfl)
  have hta := assert_errno er w
  refine callsD_of_wpS Tryz.func29 rfl fun c₀ cs hu => ?_
  apply wpS_seq
  apply wpS_region
  generalize hQ : Exit.thenS _ _ = Q
  simp [wpOpsS, go_sem, recoverD, hu, Tryz.ntmps29]
  subst hQ
  simp only [Exit.thenS]
  refine wpS_of_wp ?_
  rw [show (#[.pointer (some ⟨be, 0, none⟩)] ++ ((Array.replicate 18 undef).setIfInBounds 4 (.iface 28 (.int .i64 er))).setIfInBounds 1 (.iface 28 (.int .i64 er)) : Array Value) = #[.pointer (some ⟨be, 0, none⟩), undef, .iface 28 (.int .i64 er), undef, undef, .iface 28 (.int .i64 er), undef, undef, undef, undef, undef, undef, undef, undef, undef, undef, undef, undef, undef] from by kernel_rfl]
  change Code.wp _ _ (defPost Tryz.prog Tryz.f29 c₀ cs _ _) _ w
  have c4 := he.cell 0
  have f4 := he.frozen 0
  simp at c4
  go_wp2
  exact ⟨rfl, _, rfl, .tuple #[], by simp [results, Tryz.results29], rfl, rfl, rfl⟩
end Go.Proofs.YthicdlbelhokjaaGreat
