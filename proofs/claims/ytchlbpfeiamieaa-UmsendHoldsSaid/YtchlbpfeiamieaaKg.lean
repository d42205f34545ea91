/- Arguments opened: a slice of law31's calls. -/
import Derived.Test.YtchlbpfeiamieaaOa
import Derived.Test.YtchlbpfeiamieaaKa
import Derived.Deep.Strs
namespace Go.Proofs.Ytchlbpfeiamieaa
open Go.ChangeShapes Go.WideShapes Go.ChangeAt Go.RowKit Go.Deep Go.Joins

section
variable {H : Type} {enc : TypeId × Value → H} {w : World} {base : Nat} {spare : Nat → Bool} {held : Bool}
theorem Try.cellsAct : Try.prog.cellsOf 92 = 3 := by kernel_rfl
theorem Try.cellsActF : Try.prog.cellsOf 29 = 1 ∧ Try.prog.cellsOf 4 = 1 ∧ Try.prog.cellsOf 3 = 1 := ⟨by kernel_rfl, by kernel_rfl, by kernel_rfl⟩
theorem open_act {fuel : Nat} {c0 c1 c2 : Value} {x : DataW H × List MemPlace} (h : DataW.trod enc Try.prog w base spare held fuel 92 [c0, c1, c2] = some x) :
    ∃ y : ActV, c0 = .slice y.A y.b.length y.c ∧ c1 = .bool y.e ∧ c2 = .int .i64 y.k ∧ Sl w w.heap.size y.A y.b.length y.c (bvs y.b) ∧ -9223372036854775808 ≤ y.k ∧ y.k ≤ 9223372036854775807 := by
  obtain ⟨y0, y1, y2, n, hx, _, h0, h1, h2⟩ := trod_struct3 Try.underlying92 h
  simp [Try.cellsActF] at h0 h1 h2
  obtain ⟨A, nn, c, l, rfl, rfl, hs⟩ := open_bytes h0
  obtain ⟨e, e1, _⟩ := DataW.trod_bool Try.underlying4 h1
  obtain ⟨k, e2, _, hw⟩ := DataW.trod_int Try.underlying3 h2
  simp at e1 e2
  have hb := bounds_i64 hw
  exact ⟨⟨A, l, c, e, k⟩, rfl, e1, e2, hs, hb.1, hb.2⟩
theorem open_acts {fuel : Nat} {v : Value} {x : DataW H × List MemPlace} (h : DataW.trod enc Try.prog w base spare held fuel 85 [v] = some x) :
    ∃ (A : Option Addr) (n c : Nat) (l : List ActV), v = .slice A n c ∧ SlA w w.heap.size A n c l := by
  rcases open_slice Try.underlying85 h with ⟨hcs, _⟩ | ⟨a, len, cap, m, n, D, Pl, hcs, _, hl, hm, hmm, _, hx⟩
  · simp at hcs
    subst hcs
    exact ⟨none, 0, 0, [], rfl, ⟨rfl, by omega, by omega, fun h => by omega⟩⟩
  · simp at hcs
    subst hcs
    have hlm : len ≤ m := by rw [hmm]; split <;> omega
    have key : ∀ i, ∃ y : ActV, i < len → w.cell? (a.add (i * 3)) = some (.slice y.A y.b.length y.c) ∧ w.cell? (a.add (i * 3 + 1)) = some (.bool y.e) ∧ w.cell? (a.add (i * 3 + 2)) = some (.int .i64 y.k) ∧ Sl w w.heap.size y.A y.b.length y.c (bvs y.b) ∧ -9223372036854775808 ≤ y.k ∧ y.k ≤ 9223372036854775807 := by
      intro i
      by_cases hi : i < len
      · obtain ⟨cs', hc, ht⟩ := hx i (by omega)
        rw [Try.cellsAct] at hc
        obtain ⟨_, hcl, hat⟩ := World.cells?_some hc
        match cs', hcl with
        | [c0, c1, c2], _ =>
          obtain ⟨y, rfl, rfl, rfl, hy⟩ := open_act ht
          have a0 := hat 0 (by omega)
          have a1 := hat 1 (by omega)
          have a2 := hat 2 (by omega)
          rw [Go.Deep.add_add] at a0 a1 a2
          exact ⟨y, fun _ => ⟨a0, a1, a2, hy⟩⟩
      · exact ⟨⟨none, [], 0, false, 0⟩, fun h => absurd h hi⟩
    have ⟨L, hL⟩ := Classical.axiomOfChoice key
    refine ⟨some a, len, cap, (List.range len).map L, rfl, ⟨by simp, hl, hm, fun hpos => ⟨a, rfl, ?_, fun j u hu => ?_⟩⟩⟩
    · have := World.block_lt_of_cell? w _ (hL 0 hpos).1
      rwa [block_add] at this
    · have hj : j < len := by
        have := (List.getElem?_eq_some_iff.1 hu).1
        simpa using this
      simp [hj] at hu
      subst hu
      exact hL j hj
set_option maxRecDepth 100000 in
theorem open_acts' {r : Reach} {b0 : Nat} {v : Value} {d : DataW H} {p : List MemPlace} (hv : Value.okWide Try.prog w r b0 85 v) (h : DataW.Trod enc Try.prog w base spare held 85 v d p) :
    ∃ (A : Option Addr) (n c : Nat) (l : List ActV), v = .slice A n c ∧ SlA w w.heap.size A n c l := by
  obtain ⟨A, n, c, rfl⟩ := okWide_slice Try.underlying85 hv
  obtain ⟨fuel, hf⟩ := h
  obtain ⟨A2, n2, c2, l, hv2, hh⟩ := open_acts (by simpa [Value.cells] using hf)
  cases hv2
  exact ⟨A, n, c, l, rfl, hh⟩
end
end Go.Proofs.Ytchlbpfeiamieaa
