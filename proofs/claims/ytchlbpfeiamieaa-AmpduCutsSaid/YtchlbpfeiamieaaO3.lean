/- Arguments opened: AMPDUs. -/
import Derived.Test.YtchlbpfeiamieaaOa
import Derived.Test.YtchlbpfeiamieaaVa
namespace Go.Proofs.Ytchlbpfeiamieaa
open Go.ChangeShapes Go.WideShapes Go.ChangeAt Go.RowKit Go.Deep Go.Joins
section
variable {H : Type} {enc : TypeId × Value → H} {w : World} {base : Nat} {spare : Nat → Bool} {held : Bool}
theorem Try.cellsAmpdu : Try.prog.cellsOf 68 = 8 := by kernel_rfl
theorem array_eight {α : Type} {cs : Array α} (h : cs.size = 8) : ∃ c0 c1 c2 c3 c4 c5 c6 c7, cs = #[c0, c1, c2, c3, c4, c5, c6, c7] := by
  obtain ⟨l⟩ := cs
  match l, h with
  | [c0, c1, c2, c3, c4, c5, c6, c7], _ => exact ⟨c0, c1, c2, c3, c4, c5, c6, c7, rfl⟩
theorem trod_six {P : Program} {t : TypeId} {f0 f1 f2 f3 f4 f5 : Field} {fuel : Nat} {cs : List Value} {x : DataW H × List MemPlace} (ht : P.underlying t = some (.struct #[f0, f1, f2, f3, f4, f5])) (h : DataW.trod enc P w base spare held fuel t cs = some x) :
    ∃ y0 y1 y2 y3 y4 y5 n, DataW.trod enc P w base spare held n f0.type ((cs.drop f0.offset).take (P.cellsOf f0.type)) = some y0 ∧
      DataW.trod enc P w base spare held n f1.type ((cs.drop f1.offset).take (P.cellsOf f1.type)) = some y1 ∧ DataW.trod enc P w base spare held n f2.type ((cs.drop f2.offset).take (P.cellsOf f2.type)) = some y2 ∧
      DataW.trod enc P w base spare held n f3.type ((cs.drop f3.offset).take (P.cellsOf f3.type)) = some y3 ∧ DataW.trod enc P w base spare held n f4.type ((cs.drop f4.offset).take (P.cellsOf f4.type)) = some y4 ∧
      DataW.trod enc P w base spare held n f5.type ((cs.drop f5.offset).take (P.cellsOf f5.type)) = some y5 := by
  obtain ⟨xs, n, _, rfl, hl, hlen, hf⟩ := DataW.trod_struct ht h
  match xs, hlen with
  | [y0, y1, y2, y3, y4, y5], _ => exact ⟨y0, y1, y2, y3, y4, y5, n, by simpa using hf 0 f0 rfl, by simpa using hf 1 f1 rfl, by simpa using hf 2 f2 rfl, by simpa using hf 3 f3 rfl, by simpa using hf 4 f4 rfl, by simpa using hf 5 f5 rfl⟩

set_option maxRecDepth 100000 in
theorem open_ampdu {r : Reach} {b0 : Nat} {v : Value} {d : DataW H} {p : List MemPlace} (hv : Value.okWide Try.prog w r b0 68 v) (h : DataW.Trod enc Try.prog w base spare held 68 v d p) :
    ∃ (sn : Int) (po sg la : Bool) (off : Int) (s e : Bool) (A : Option Addr) (n c : Nat) (vs : List Value) (ps : List (List UInt8)), v = .agg (apdu sn po sg la off s e A n c) ∧ (-9223372036854775808 ≤ sn ∧ sn ≤ 9223372036854775807) ∧ (-9223372036854775808 ≤ off ∧ off ≤ 9223372036854775807) ∧ Sls w w.heap.size A n c vs ps := by
  obtain ⟨cs, rfl, hsz⟩ := okWide_struct Try.underlying68 hv
  obtain ⟨c0, c1, c2, c3, c4, c5, c6, c7, rfl⟩ := array_eight (hsz.trans Try.cellsAmpdu)
  obtain ⟨fuel, hf⟩ := h
  obtain ⟨y0, y1, y2, y3, y4, y5, n, h0, h1, h2, h3, h4, h5⟩ := trod_six Try.underlying68 hf
  simp [Value.cells, Try.cells1, Try.cellsChunk] at h0 h1 h2 h3 h4 h5
  obtain ⟨sn, e0, _, hw⟩ := DataW.trod_int Try.underlying3 h0
  obtain ⟨po, e1, _⟩ := DataW.trod_bool Try.underlying4 h1
  obtain ⟨sg, e2, _⟩ := DataW.trod_bool Try.underlying4 h2
  obtain ⟨la, e3, _⟩ := DataW.trod_bool Try.underlying4 h3
  obtain ⟨off, e4, _, hw4⟩ := DataW.trod_int Try.underlying3 h4
  simp at e0 e1 e2 e3 e4
  subst e0 e1 e2 e3 e4
  obtain ⟨s, e, A, n, c, vs, ps, rfl, rfl, rfl, hs⟩ := open_chunk3 h5
  exact ⟨sn, po, sg, la, off, s, e, A, n, c, vs, ps, rfl, bounds_i64 hw, bounds_i64 hw4, hs⟩
end
end Go.Proofs.Ytchlbpfeiamieaa
