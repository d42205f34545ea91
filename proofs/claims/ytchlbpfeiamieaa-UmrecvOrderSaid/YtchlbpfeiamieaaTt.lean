/- Arguments opened: a slice of pairs of bytes. -/
import Derived.Test.YtchlbpfeiamieaaOa
import Derived.Deep.Strs
import Derived.OpenShut
namespace Go.Proofs.Ytchlbpfeiamieaa
open Go.ChangeShapes Go.WideShapes Go.ChangeAt Go.RowKit Go.Deep Go.Joins

/-- a slice of pairs of bytes -/
structure SlP (w : World) (B : Nat) (A : Option Addr) (n c : Nat) (l : List (UInt8 × UInt8)) : Prop where
  len : l.length = n
  cap : n ≤ c
  mx : c ≤ 9223372036854775807
  at_ : 0 < n → ∃ ad, A = some ad ∧ ad.block < B ∧ ∀ j x, l[j]? = some x → w.cell? (ad.add (j * 2)) = some (bv x.1) ∧ w.cell? (ad.add (j * 2 + 1)) = some (bv x.2)
theorem SlP.below {w w' : World} {B n c : Nat} {A : Option Addr} {l : List (UInt8 × UInt8)} (h : SlP w B A n c l) (hb : Below B w w') : SlP w' B A n c l :=
  ⟨h.len, h.cap, h.mx, fun hn => by
    obtain ⟨ad, e, hbl, hc⟩ := h.at_ hn
    exact ⟨ad, e, hbl, fun j x hj => ⟨(hb.cell (by rw [block_add]; exact hbl)).trans (hc j x hj).1, (hb.cell (by rw [block_add]; exact hbl)).trans (hc j x hj).2⟩⟩⟩
theorem SlP.get {w : World} {B n c : Nat} {A : Option Addr} {l : List (UInt8 × UInt8)} (h : SlP w B A n c l) {j : Nat} (hj : j < n) : ∃ ad x, A = some ad ∧ ad.block < B ∧ l[j]? = some x ∧ w.cell? (ad.add (j * 2)) = some (bv x.1) ∧ w.cell? (ad.add (j * 2 + 1)) = some (bv x.2) := by
  obtain ⟨ad, e, hb, hc⟩ := h.at_ (by omega)
  have hl : j < l.length := by have := h.len; omega
  exact ⟨ad, l[j], e, hb, List.getElem?_eq_getElem hl, hc j _ (List.getElem?_eq_getElem hl)⟩
section
variable {H : Type} {enc : TypeId × Value → H} {w : World} {base : Nat} {spare : Nat → Bool} {held : Bool}
theorem Try.cellsPair : Try.prog.cellsOf 103 = 2 := by kernel_rfl
theorem Try.cellsU8 : Try.prog.cellsOf 5 = 1 := by kernel_rfl
set_option maxRecDepth 100000 in
theorem open_u8 {fuel : Nat} {c : Value} {x : DataW H × List MemPlace} (h : DataW.trod enc Try.prog w base spare held fuel 5 [c] = some x) : ∃ y : UInt8, c = bv y := by
  obtain ⟨k, e, _, hw⟩ := DataW.trod_int Try.underlying5 h
  simp at e
  subst e
  have hb := bounds_u8 hw
  refine ⟨UInt8.ofNat k.toNat, ?_⟩
  unfold bv
  congr 1
  rw [UInt8.toNat_ofNat']
  omega
set_option maxRecDepth 100000 in
theorem open_pair {fuel : Nat} {c0 c1 : Value} {x : DataW H × List MemPlace} (h : DataW.trod enc Try.prog w base spare held fuel 103 [c0, c1] = some x) :
    ∃ y0 y1 : UInt8, c0 = bv y0 ∧ c1 = bv y1 := by
  obtain ⟨xs, m, rfl, rfl, _, hl, hx⟩ := DataW.trod_array Try.underlying103 h
  have h0 := hx 0 (by omega)
  have h1 := hx 1 (by omega)
  rw [Try.cellsU8] at h0 h1
  rw [List.getElem?_eq_getElem (by omega)] at h0 h1
  obtain ⟨y0, e0⟩ := open_u8 (by simpa using h0)
  obtain ⟨y1, e1⟩ := open_u8 (by simpa using h1)
  exact ⟨y0, y1, e0, e1⟩
set_option maxRecDepth 100000 in
theorem open_pairs {fuel : Nat} {v : Value} {x : DataW H × List MemPlace} (h : DataW.trod enc Try.prog w base spare held fuel 97 [v] = some x) :
    ∃ (A : Option Addr) (n c : Nat) (l : List (UInt8 × UInt8)), v = .slice A n c ∧ SlP w w.heap.size A n c l := by
  rcases open_slice Try.underlying97 h with ⟨hcs, _⟩ | ⟨a, len, cap, m, n, D, Pl, hcs, _, hl, hm, hmm, _, hx⟩
  · simp at hcs
    subst hcs
    exact ⟨none, 0, 0, [], rfl, ⟨rfl, by omega, by omega, fun h => by omega⟩⟩
  · simp at hcs
    subst hcs
    have hlm : len ≤ m := by rw [hmm]; split <;> omega
    have key : ∀ i, ∃ y : UInt8 × UInt8, i < len → w.cell? (a.add (i * 2)) = some (bv y.1) ∧ w.cell? (a.add (i * 2 + 1)) = some (bv y.2) := by
      intro i
      by_cases hi : i < len
      · obtain ⟨cs', hc, ht⟩ := hx i (by omega)
        rw [Try.cellsPair] at hc
        obtain ⟨_, hcl, hat⟩ := World.cells?_some hc
        match cs', hcl with
        | [c0, c1], _ =>
          obtain ⟨y0, y1, rfl, rfl⟩ := open_pair ht
          have a0 := hat 0 (by omega)
          have a1 := hat 1 (by omega)
          rw [Go.Deep.add_add] at a0 a1
          exact ⟨(y0, y1), fun _ => ⟨a0, a1⟩⟩
      · exact ⟨(0, 0), fun h => absurd h hi⟩
    have ⟨L, hL⟩ := Classical.axiomOfChoice key
    refine ⟨some a, len, cap, (List.range len).map L, rfl, ⟨by simp, hl, hm, fun hpos => ⟨a, rfl, ?_, fun j u hu => ?_⟩⟩⟩
    · have := World.block_lt_of_cell? w _ (hL 0 hpos).1
      rwa [block_add] at this
    · have hj : j < len := by
        have := (List.getElem?_eq_some_iff.1 hu).1
        simpa using this
      simp [hj] at hu
      subst hu
      exact hL j hj
set_option maxRecDepth 100000 in
theorem open_pairs' {r : Reach} {b0 : Nat} {v : Value} {d : DataW H} {p : List MemPlace} (hv : Value.okWide Try.prog w r b0 97 v) (h : DataW.Trod enc Try.prog w base spare held 97 v d p) :
    ∃ (A : Option Addr) (n c : Nat) (l : List (UInt8 × UInt8)), v = .slice A n c ∧ SlP w w.heap.size A n c l := by
  obtain ⟨A, n, c, rfl⟩ := okWide_slice Try.underlying97 hv
  obtain ⟨fuel, hf⟩ := h
  obtain ⟨A2, n2, c2, l, hv2, hh⟩ := open_pairs (by simpa [Value.cells] using hf)
  cases hv2
  exact ⟨A, n, c, l, rfl, hh⟩
set_option maxRecDepth 100000 in
theorem open_parts' {r : Reach} {b0 : Nat} {v : Value} {d : DataW H} {p : List MemPlace} (hv : Value.okWide Try.prog w r b0 22 v) (h : DataW.Trod enc Try.prog w base spare held 22 v d p) :
    ∃ (A : Option Addr) (n c : Nat) (vs : List Value) (ps : List (List UInt8)), v = .slice A n c ∧ Sls w w.heap.size A n c vs ps := by
  obtain ⟨A, n, c, rfl⟩ := okWide_slice Try.und22 hv
  obtain ⟨fuel, hf⟩ := h
  obtain ⟨A2, n2, c2, vs, ps, hv2, hh⟩ := open_parts (by simpa [Value.cells] using hf)
  cases hv2
  exact ⟨A, n, c, vs, ps, rfl, hh⟩
end
end Go.Proofs.Ytchlbpfeiamieaa
