/- umpdu.Decode: errors are recovered. -/
import Derived.Test.YtchlbpfeiamieaaD1
import Derived.WideLaws
namespace Go.Proofs.Ytchlbpfeiamieaa
open Go.RowKit
/-- the post of a deferred function, its caller's frames fixed -/
def defPost (P : Program) (fn : Func) (c₀ : Frame) (cs cs' : List Frame) (R : Ending → FrameMode → World → Prop) (e : Exit) (a : Act) (w : World) : Prop := bodyPostS P fn c₀ cs R e a cs' w

theorem dec1_idle (bp be : Nat) (w : World) :
    CallsD Try.prog 81 #[.pointer (some ⟨bp, 0, none⟩), .pointer (some ⟨be, 0, none⟩)] .returning w fun e u' w' => e = .returned (.tuple #[]) ∧ u' = .returning ∧ w = w' := by
  have hnn := run_eql_nil_nil (P := Try.prog) w (t := 20) (by kernel_rfl)
  refine callsD_of_wpS Try.func81 rfl fun c₀ cs hu => ?_
  apply wpS_seq
  apply wpS_region
  generalize hQ : Exit.thenS _ _ = Q
  simp [wpOpsS, go_sem, recoverD, hu, Try.ntmps81]
  subst hQ
  simp only [Exit.thenS]
  refine wpS_of_wp ?_
  change Code.wp _ _ (defPost Try.prog Try.f81 c₀ cs (c₀ :: cs) _) { tmps := #[.pointer (some ⟨bp, 0, none⟩), .pointer (some ⟨be, 0, none⟩), .nilIface, undef, undef, .nilIface, undef, undef, undef, undef, undef, undef, undef, undef, undef, undef, undef, undef], defers := [] } w
  go_wp2
  cases c₀
  simp_all [defPost, bodyPostS, results, Try.results81]

theorem assert_errno (er : Int) (w : World) : (Instr.typeAssert (.iface 30 (.int .i64 er)) 20 30 true).run Try.prog w = .ok (.tuple #[.int .i64 er, .bool true]) w := by kernel_rfl

set_option maxHeartbeats 400000 in
set_option maxRecDepth 100000 in
theorem dec1_caught (bp be : Nat) (er : Int) (v0 v1 v2 v3 v4 : Value) (w : World) (hp : Blk w bp 26 #[v0, v1, v2, v3]) (he : Blk w be 30 #[v4]) (hne : be ≠ bp) :
    CallsD Try.prog 81 #[.pointer (some ⟨bp, 0, none⟩), .pointer (some ⟨be, 0, none⟩)] (.panicking [{ v := .iface 30 (.int .i64 er), recovered := false }]) w fun e u' w' => e = .returned (.tuple #[]) ∧ u' = .panicking [{ v := .iface 30 (.int .i64 er), recovered := true }] ∧
      Blk w' bp 26 #[.int .i64 0, .bool false, .bool false, .slice none 0 0] ∧ Blk w' be 30 #[.int .i64 er] ∧ Kept (fun k _ => k = bp ∨ k = be) w w' := by
  have hnn := run_eql_held_nil (P := Try.prog) w 20 30 (.int .i64 er) (by kernel_rfl)
  have hta := assert_errno er w
  refine callsD_of_wpS Try.func81 rfl fun c₀ cs hu => ?_
  apply wpS_seq
  apply wpS_region
  generalize hQ : Exit.thenS _ _ = Q
  simp [wpOpsS, go_sem, recoverD, hu, Try.ntmps81]
  subst hQ
  simp only [Exit.thenS]
  refine wpS_of_wp ?_
  change Code.wp _ _ (defPost Try.prog Try.f81 c₀ cs _ _) { tmps := #[.pointer (some ⟨bp, 0, none⟩), .pointer (some ⟨be, 0, none⟩), .iface 30 (.int .i64 er), undef, undef, .iface 30 (.int .i64 er), undef, undef, undef, undef, undef, undef, undef, undef, undef, undef, undef, undef], defers := [] } w
  have c0 := hp.cell 0
  have c1 := hp.cell 1
  have c2 := hp.cell 2
  have c3 := hp.cell 3
  have f0 := hp.frozen 0
  have f1 := hp.frozen 1
  have f2 := hp.frozen 2
  have f3 := hp.frozen 3
  have c4 := he.cell 0
  have f4 := he.frozen 0
  simp at c0 c1 c2 c3 c4
  go_wp2
  refine ⟨rfl, _, rfl, .tuple #[], by simp [results, Try.results81], rfl, rfl, ?_, ?_, ?_⟩
  · have := (((hp.set_ 0 (.int .i64 0)).set_ 1 (.bool false)).set_ 2 (.bool false)).set_ 3 (.slice none 0 0)
    simpa using this.far (p := ⟨be, 0, none⟩) (fun e => hne e.symm) (.int .i64 er)
  · have := ((((he.far (p := ⟨bp, 0, none⟩) hne (.int .i64 0)).far (p := ⟨bp, 1, none⟩) hne (.bool false)).far (p := ⟨bp, 2, none⟩) hne (.bool false)).far (p := ⟨bp, 3, none⟩) hne (.slice none 0 0)).set_ 0 (.int .i64 er)
    simpa using this
  · exact (((((Kept.refl _ w).setCell (p := ⟨bp, 0, none⟩) (fun _ _ => .inl rfl) _).setCell (p := ⟨bp, 1, none⟩) (fun _ _ => .inl rfl) _).setCell (p := ⟨bp, 2, none⟩) (fun _ _ => .inl rfl) _).setCell (p := ⟨bp, 3, none⟩) (fun _ _ => .inl rfl) _).setCell (p := ⟨be, 0, none⟩) (fun _ _ => .inr rfl) _

/-- what Decode comes to -/
def DecIs (w : World) (R : Sum Nat (Nat × Bool × Bool × List (List UInt8))) (e : Ending) (w' : World) : Prop :=
  Below w.heap.size w w' ∧
  ((∃ er : Nat, R = .inl er ∧ e = .returned (.tuple #[.agg #[.int .i64 0, .bool false, .bool false, .slice none 0 0], .int .i64 er])) ∨
   (∃ (sn : Nat) (s en : Bool) (ps : List (List UInt8)) (vo : Value), R = .inr (sn, s, en, ps) ∧ e = .returned (.tuple #[.agg #[.int .i64 sn, .bool s, .bool en, vo], .int .i64 0]) ∧ PartsOut w' w.heap.size vo ps))

/-- an error is raised: it is recovered, the results are set -/
theorem dec_raise (w W : World) (R : Sum Nat (Nat × Bool × Bool × List (List UInt8))) (er : Nat) (T : Array Value) (v0 v1 v2 v3 v4 : Value) (h2 : T[2]? = some (.pointer (some ⟨w.heap.size, 0, none⟩))) (h3 : T[3]? = some (.pointer (some ⟨w.heap.size + 1, 0, none⟩)))
    (hp : Blk W w.heap.size 26 #[v0, v1, v2, v3]) (he : Blk W (w.heap.size + 1) 30 #[v4]) (hB : Below w.heap.size w W) (hR : R = .inl er) :
    bodyPostD Try.prog Try.f23 (DecIs w R) (.panic [{ v := .iface 30 (.int .i64 er), recovered := false }]) { tmps := T, defers := [{ target := .fn (.func 81) #[.pointer (some ⟨w.heap.size, 0, none⟩), .pointer (some ⟨w.heap.size + 1, 0, none⟩)], args := #[] }] } W := by
  refine leaves_cons (f := 81) (args := #[.pointer (some ⟨w.heap.size, 0, none⟩), .pointer (some ⟨w.heap.size + 1, 0, none⟩)]) (by simp) (by simp [go_sem]) ?_
  refine (dec1_caught _ _ (er : Int) _ _ _ _ _ W hp he (by omega)).mono ?_
  rintro e u' w'' ⟨rfl, rfl, hp', he', hk⟩
  have c0 := hp'.cell 0
  have c1 := hp'.cell 1
  have c2 := hp'.cell 2
  have c3 := hp'.cell 3
  have c4 := he'.cell 0
  simp at c0 c1 c2 c3 c4
  refine ⟨.tuple #[.agg #[.int .i64 0, .bool false, .bool false, .slice none 0 0], .int .i64 er], ?_, hB.trans (hk.below (fun k _ e => by omega) hB.size), .inl ⟨er, hR, rfl⟩⟩
  simp [results, Try.results23, go_sem, h2, h3, c0, c1, c2, c3, c4]

end Go.Proofs.Ytchlbpfeiamieaa
