/- Arguments opened: a slice of steps. -/
import Derived.Test.YthicdlbelhokjaaGreatOa
import Derived.Test.YthicdlbelhokjaaGreatAl
namespace Go.Proofs.YthicdlbelhokjaaGreat
open Go.ChangeShapes Go.WideShapes Go.ChangeAt Go.RowKit Go.Deep Go.Joins

section
variable {H : Type} {enc : TypeId × Value → H} {w : World} {base : Nat} {spare : Nat → Bool} {held : Bool}
theorem open_steps4 {fuel : Nat} {v : Value} {x : DataW H × List MemPlace} (h : DataW.trod enc Tryz.prog w base spare held fuel 46 [v] = some x) :
    ∃ (A : Option Addr) (n c : Nat) (l : List StepV), v = .slice A n c ∧ SlS w w.heap.size A n c l := by
  rcases open_slice Tryz.underlying46 h with ⟨hcs, _⟩ | ⟨a, len, cap, m, n, D, Pl, hcs, _, hl, hm, hmm, _, hx⟩
  · simp at hcs
    subst hcs
    exact ⟨none, 0, 0, [], rfl, ⟨rfl, by omega, by omega, fun h => by omega⟩⟩
  · simp at hcs
    subst hcs
    have hlm : len ≤ m := by rw [hmm]; split <;> omega
    have key : ∀ i, ∃ y : StepV, i < len → w.cell? (a.add (i * 4)) = some (.int .i64 y.kd) ∧ w.cell? (a.add (i * 4 + 1)) = some (.int .i64 y.now) ∧ w.cell? (a.add (i * 4 + 2)) = some (.int .i64 y.k) ∧ w.cell? (a.add (i * 4 + 3)) = some (.slice y.A y.b.length y.c) ∧ Sl w w.heap.size y.A y.b.length y.c (bvs y.b) := by
      intro i
      by_cases hi : i < len
      · obtain ⟨cs', hc, ht⟩ := hx i (by omega)
        rw [Tryz.cellsStep] at hc
        obtain ⟨_, hcl, hat⟩ := World.cells?_some hc
        match cs', hcl with
        | [c0, c1, c2, c3], _ =>
          obtain ⟨kd, now, k, A, nn, c, l, rfl, rfl, rfl, rfl, hs, _⟩ := open_step4 ht
          have hll : l.length = nn := by simpa using hs.len
          subst hll
          have a0 := hat 0 (by omega)
          have a1 := hat 1 (by omega)
          have a2 := hat 2 (by omega)
          have a3 := hat 3 (by omega)
          rw [Go.Deep.add_add] at a0 a1 a2 a3
          exact ⟨⟨kd, now, k, A, l, c⟩, fun _ => ⟨a0, a1, a2, a3, hs⟩⟩
      · exact ⟨⟨0, 0, 0, none, [], 0⟩, fun h => absurd h hi⟩
    have ⟨L, hL⟩ := Classical.axiomOfChoice key
    refine ⟨some a, len, cap, (List.range len).map L, rfl, ⟨by simp, hl, hm, fun hpos => ⟨a, rfl, ?_, fun j u hu => ?_⟩⟩⟩
    · have := World.block_lt_of_cell? w _ (hL 0 hpos).1
      rwa [block_add] at this
    · have hj : j < len := by
        have := (List.getElem?_eq_some_iff.1 hu).1
        simpa using this
      simp [hj] at hu
      subst hu
      exact hL j hj
set_option maxRecDepth 100000 in
theorem open_steps {r : Reach} {b0 : Nat} {v : Value} {d : DataW H} {p : List MemPlace} (hv : Value.okWide Tryz.prog w r b0 46 v) (h : DataW.Trod enc Tryz.prog w base spare held 46 v d p) :
    ∃ (A : Option Addr) (n c : Nat) (l : List StepV), v = .slice A n c ∧ SlS w w.heap.size A n c l := by
  obtain ⟨A, n, c, rfl⟩ := okWide_slice Tryz.underlying46 hv
  obtain ⟨fuel, hf⟩ := h
  obtain ⟨A2, n2, c2, l, hv2, hh⟩ := open_steps4 (by simpa [Value.cells] using hf)
  cases hv2
  exact ⟨A, n, c, l, rfl, hh⟩
end
end Go.Proofs.YthicdlbelhokjaaGreat
