/- Arguments opened: a call of law32. -/
import Derived.Test.YtchlbpfeiamieaaOa
import Derived.Deep.Strs
namespace Go.Proofs.Ytchlbpfeiamieaa
open Go.ChangeShapes Go.WideShapes Go.ChangeAt Go.RowKit Go.Deep Go.Joins

section
variable {H : Type} {enc : TypeId × Value → H} {w : World} {base : Nat} {spare : Nat → Bool} {held : Bool}
theorem Try.cellsAct32 : Try.prog.cellsOf 49 = 3 := by kernel_rfl
theorem Try.cellsAct32F : Try.prog.cellsOf 29 = 1 ∧ Try.prog.cellsOf 4 = 1 ∧ Try.prog.cellsOf 3 = 1 := ⟨by kernel_rfl, by kernel_rfl, by kernel_rfl⟩
theorem open_act32c {fuel : Nat} {c0 c1 c2 : Value} {x : DataW H × List MemPlace} (h : DataW.trod enc Try.prog w base spare held fuel 49 [c0, c1, c2] = some x) :
    ∃ (t : Bool) (now : Int) (A : Option Addr) (n c : Nat) (l : List UInt8), c0 = .bool t ∧ c1 = .int .i64 now ∧ c2 = .slice A n c ∧ Sl w w.heap.size A n c (bvs l) := by
  obtain ⟨y0, y1, y2, n, hx, _, h0, h1, h2⟩ := trod_struct3 Try.underlying49 h
  simp [Try.cellsAct32F] at h0 h1 h2
  obtain ⟨A, nn, c, l, rfl, rfl, hs⟩ := open_bytes h2
  obtain ⟨e, e1, _⟩ := DataW.trod_bool Try.underlying4 h0
  obtain ⟨k, e2, _, hw⟩ := DataW.trod_int Try.underlying3 h1
  simp at e1 e2
  exact ⟨e, k, A, _, c, l, e1, e2, rfl, hs⟩
set_option maxRecDepth 100000 in
theorem open_act32 {r : Reach} {b0 : Nat} {v : Value} {d : DataW H} {p : List MemPlace} (hv : Value.okWide Try.prog w r b0 49 v) (h : DataW.Trod enc Try.prog w base spare held 49 v d p) :
    ∃ (t : Bool) (now : Int) (A : Option Addr) (n c : Nat) (l : List UInt8), v = .agg #[.bool t, .int .i64 now, .slice A n c] ∧ Sl w w.heap.size A n c (bvs l) := by
  obtain ⟨cs, rfl, hsz⟩ := okWide_struct Try.underlying49 hv
  obtain ⟨c0, c1, c2, rfl⟩ := array3 (hsz.trans Try.cellsAct32)
  obtain ⟨fuel, hf⟩ := h
  obtain ⟨t, now, A, n, c, l, rfl, rfl, rfl, hs⟩ := open_act32c (by simpa [Value.cells] using hf)
  exact ⟨t, now, A, n, c, l, rfl, hs⟩
end
end Go.Proofs.Ytchlbpfeiamieaa
