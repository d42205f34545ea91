/- Arguments opened: numbers, bools. -/
import Derived.Test.YtchlbpfeiamieaaO1
namespace Go.Proofs.Ytchlbpfeiamieaa
open Go.ChangeShapes Go.WideShapes Go.ChangeAt Go.RowKit Go.Deep Go.Joins
theorem ownKnobsQ : ownKnob Try.prog.godebug = none := by kernel_rfl
theorem laidWholeQ : laidOutB Try.prog = true := by kernel_rfl
section
variable {H : Type} {enc : TypeId × Value → H} {w : World} {base : Nat} {spare : Nat → Bool} {held : Bool}
set_option maxRecDepth 100000 in
theorem open_i64 {r : Reach} {b0 : Nat} {v : Value} {d : DataW H} {p : List MemPlace} (hv : Value.okWide Try.prog w r b0 3 v) (h : DataW.Trod enc Try.prog w base spare held 3 v d p) :
    ∃ n : Int, v = .int .i64 n ∧ (-9223372036854775808 ≤ n ∧ n ≤ 9223372036854775807) := by
  obtain ⟨n, rfl, _, _, hw⟩ := open_int Try.underlying3 hv h
  exact ⟨_, rfl, bounds_i64 hw⟩
set_option maxRecDepth 100000 in
theorem open_b {r : Reach} {b0 : Nat} {v : Value} {d : DataW H} {p : List MemPlace} (hv : Value.okWide Try.prog w r b0 4 v) (h : DataW.Trod enc Try.prog w base spare held 4 v d p) :
    ∃ b : Bool, v = .bool b := by
  obtain ⟨b, rfl, _⟩ := open_bool Try.underlying4 hv h
  exact ⟨_, rfl⟩
set_option maxRecDepth 100000 in
theorem open_bs {r : Reach} {b0 : Nat} {v : Value} {d : DataW H} {p : List MemPlace} (hv : Value.okWide Try.prog w r b0 29 v) (h : DataW.Trod enc Try.prog w base spare held 29 v d p) :
    ∃ (A : Option Addr) (n c : Nat) (l : List UInt8), v = .slice A n c ∧ Sl w w.heap.size A n c (bvs l) := by
  obtain ⟨A, n, c, rfl⟩ := okWide_slice Try.underlying29 hv
  obtain ⟨fuel, hf⟩ := h
  obtain ⟨A2, n2, c2, l, hv2, hn, hh⟩ := open_bytes (by simpa [Value.cells] using hf)
  cases hv2
  exact ⟨A, n, c, l, rfl, hh⟩
end
end Go.Proofs.Ytchlbpfeiamieaa
