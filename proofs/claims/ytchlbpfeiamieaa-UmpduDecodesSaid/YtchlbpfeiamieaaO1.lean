/- Arguments opened: chunks and UMPDUs. -/
import Derived.Test.YtchlbpfeiamieaaO0
namespace Go.Proofs.Ytchlbpfeiamieaa
open Go.ChangeShapes Go.WideShapes Go.ChangeAt Go.RowKit Go.Deep Go.Joins

section
variable {H : Type} {enc : TypeId × Value → H} {w : World} {base : Nat} {spare : Nat → Bool} {held : Bool}
theorem Try.cellsChunk : Try.prog.cellsOf 24 = 3 := by kernel_rfl
theorem Try.cellsUmpdu : Try.prog.cellsOf 26 = 4 := by kernel_rfl
theorem Try.cells1 : Try.prog.cellsOf 4 = 1 ∧ Try.prog.cellsOf 22 = 1 ∧ Try.prog.cellsOf 3 = 1 := ⟨by kernel_rfl, by kernel_rfl, by kernel_rfl⟩

theorem open_chunk3 {fuel : Nat} {v0 v1 v2 : Value} {x : DataW H × List MemPlace} (h : DataW.trod enc Try.prog w base spare held fuel 24 [v0, v1, v2] = some x) :
    ∃ (s e : Bool) (A : Option Addr) (n c : Nat) (vs : List Value) (ps : List (List UInt8)), v0 = .bool s ∧ v1 = .bool e ∧ v2 = .slice A n c ∧ Sls w w.heap.size A n c vs ps := by
  obtain ⟨y0, y1, y2, n, hx, _, h0, h1, h2⟩ := trod_struct3 Try.underlying24 h
  simp [Try.cells1] at h0 h1 h2
  obtain ⟨s, e0, _⟩ := DataW.trod_bool Try.underlying4 h0
  obtain ⟨e, e1, _⟩ := DataW.trod_bool Try.underlying4 h1
  obtain ⟨A, n, c, vs, ps, rfl, hs⟩ := open_parts h2
  simp at e0 e1
  exact ⟨s, e, A, n, c, vs, ps, e0, e1, rfl, hs⟩

set_option maxRecDepth 100000 in
theorem open_chunk {r : Reach} {b0 : Nat} {v : Value} {d : DataW H} {p : List MemPlace} (hv : Value.okWide Try.prog w r b0 24 v) (h : DataW.Trod enc Try.prog w base spare held 24 v d p) :
    ∃ (s e : Bool) (A : Option Addr) (n c : Nat) (vs : List Value) (ps : List (List UInt8)), v = .agg #[.bool s, .bool e, .slice A n c] ∧ Sls w w.heap.size A n c vs ps := by
  obtain ⟨cs, rfl, hsz⟩ := okWide_struct Try.underlying24 hv
  obtain ⟨c0, c1, c2, rfl⟩ := array3 (hsz.trans Try.cellsChunk)
  obtain ⟨fuel, hf⟩ := h
  obtain ⟨s, e, A, n, c, vs, ps, rfl, rfl, rfl, hs⟩ := open_chunk3 (by simpa [Value.cells] using hf)
  exact ⟨s, e, A, n, c, vs, ps, rfl, hs⟩

set_option maxRecDepth 100000 in
theorem open_umpdu {r : Reach} {b0 : Nat} {v : Value} {d : DataW H} {p : List MemPlace} (hv : Value.okWide Try.prog w r b0 26 v) (h : DataW.Trod enc Try.prog w base spare held 26 v d p) :
    ∃ (sn : Int) (s e : Bool) (A : Option Addr) (n c : Nat) (vs : List Value) (ps : List (List UInt8)), v = .agg #[.int .i64 sn, .bool s, .bool e, .slice A n c] ∧ (-9223372036854775808 ≤ sn ∧ sn ≤ 9223372036854775807) ∧ Sls w w.heap.size A n c vs ps := by
  obtain ⟨cs, rfl, hsz⟩ := okWide_struct Try.underlying26 hv
  obtain ⟨c0, c1, c2, c3, rfl⟩ := array4 (hsz.trans Try.cellsUmpdu)
  obtain ⟨fuel, hf⟩ := h
  obtain ⟨y0, y1, n, hx, _, h0, h1⟩ := trod_struct2 Try.underlying26 hf
  simp [Value.cells, Try.cells1, Try.cellsChunk] at h0 h1
  obtain ⟨sn, e0, _, hw⟩ := DataW.trod_int Try.underlying3 h0
  simp at e0
  subst e0
  obtain ⟨s, e, A, n, c, vs, ps, rfl, rfl, rfl, hs⟩ := open_chunk3 h1
  exact ⟨sn, s, e, A, n, c, vs, ps, rfl, bounds_i64 hw, hs⟩
end
end Go.Proofs.Ytchlbpfeiamieaa
