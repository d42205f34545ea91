/- Arguments opened: slices of bytes, slices of slices of bytes, chunks. Arguments opened: chunks and UMPDUs. Arguments opened: numbers, bools. -/
import Derived.Test.YtchlbpfeiamieaaBa
import Derived.WalkKit
import Derived.ProofKit
import Derived.OpenShut
import Derived.ShutString
import Derived.ChangeOld
import Derived.Below
import Derived.Deep.Slices
import Derived.Lib.SmallJoins
namespace Go.Proofs.Ytchlbpfeiamieaa
open Go.ChangeShapes Go.WideShapes Go.ChangeAt Go.RowKit Go.Deep Go.Joins

section
variable {H : Type} {enc : TypeId × Value → H} {w : World} {base : Nat} {spare : Nat → Bool} {held : Bool}

theorem Try.und5 : Try.prog.underlying 5 = some (.int .u8) := by kernel_rfl
theorem Try.und29 : Try.prog.underlying 29 = some (.slice 5) := by kernel_rfl
theorem Try.und22 : Try.prog.underlying 22 = some (.slice 29) := by kernel_rfl

theorem open_bytes {fuel : Nat} {v : Value} {x : DataW H × List MemPlace} (h : DataW.trod enc Try.prog w base spare held fuel 29 [v] = some x) :
    ∃ (A : Option Addr) (n c : Nat) (l : List UInt8), v = .slice A n c ∧ n = l.length ∧ Sl w w.heap.size A n c (bvs l) := by
  rcases open_ints Try.und29 Try.und5 (by kernel_rfl) h with ⟨hcs, _⟩ | ⟨a, len, cap, zs, hcs, _, hl, hm, hz, _, hcell, hwz⟩
  · simp at hcs
    subst hcs
    exact ⟨none, 0, 0, [], rfl, rfl, Sl.nil_.2 (by omega)⟩
  · simp at hcs
    subst hcs
    have hlen : len ≤ zs.length := by rw [hz]; split <;> omega
    have hll : ((zs.take len).map fun z => UInt8.ofNat z.toNat).length = len := by simp; omega
    refine ⟨some a, len, cap, (zs.take len).map fun z => UInt8.ofNat z.toNat, rfl, hll.symm, ⟨by rw [bvs_length, hll], hl, hm, fun hpos => ⟨a, rfl, ?_, fun j u hu => ?_⟩⟩⟩
    · have := World.block_lt_of_cell? w _ (hcell 0 (by omega))
      rwa [block_add] at this
    · have hj : j < len := by
        have := (List.getElem?_eq_some_iff.1 hu).1
        rw [bvs_length, hll] at this
        exact this
      rw [hcell j (by omega)]
      unfold bvs at hu
      rw [List.getElem?_map, List.getElem?_map, List.getElem?_take, if_pos hj, List.getElem?_eq_getElem (by omega)] at hu
      simp only [Option.map_some, Option.some.injEq] at hu
      rw [← hu]
      have hw := hwz _ (List.getElem_mem (by omega : j < zs.length))
      have hb := bounds_u8 hw
      have e : zs.getD j 0 = zs[j]'(by omega) := by simp [List.getD_eq_getElem?_getD, List.getElem?_eq_getElem (by omega : j < zs.length)]
      rw [e]
      unfold bv
      congr 2
      rw [UInt8.toNat_ofNat', Nat.mod_eq_of_lt (by omega)]
      omega

theorem open_parts {fuel : Nat} {v : Value} {x : DataW H × List MemPlace} (h : DataW.trod enc Try.prog w base spare held fuel 22 [v] = some x) :
    ∃ (A : Option Addr) (n c : Nat) (vs : List Value) (ps : List (List UInt8)), v = .slice A n c ∧ Sls w w.heap.size A n c vs ps := by
  rcases open_slice1 Try.und22 (by kernel_rfl) h with ⟨hcs, _⟩ | ⟨a, len, cap, m, n, V, D, Pl, hcs, _, hl, hm, hmm, _, hx⟩
  · simp at hcs
    subst hcs
    exact ⟨none, 0, 0, [], [], rfl, ⟨Sl.nil_.2 (by omega), rfl, by simp⟩⟩
  · simp at hcs
    subst hcs
    have hlm : len ≤ m := by rw [hmm]; split <;> omega
    have key : ∀ i, ∃ l : List UInt8, i < len → ∃ Ai ci, V i = .slice Ai l.length ci ∧ Sl w w.heap.size Ai l.length ci (bvs l) := by
      intro i
      by_cases hi : i < len
      · obtain ⟨A, n', c, l, hv, hn', hs⟩ := open_bytes (hx i (by omega)).2
        subst hn'
        exact ⟨l, fun _ => ⟨A, c, hv, hs⟩⟩
      · exact ⟨[], fun h => absurd h hi⟩
    have ⟨L, hL⟩ := Classical.axiomOfChoice key
    refine ⟨some a, len, cap, (List.range len).map V, (List.range len).map L, rfl, ⟨⟨by simp, hl, hm, fun hpos => ⟨a, rfl, ?_, fun j u hu => ?_⟩⟩, by simp, fun i p hi => ?_⟩⟩
    · have := World.block_lt_of_cell? w _ (hx 0 (by omega)).1
      rwa [block_add] at this
    · have hj : j < len := by
        have := (List.getElem?_eq_some_iff.1 hu).1
        simpa using this
      rw [(hx j (by omega)).1]
      simpa [hj] using hu
    · have hj : i < len := by
        have := (List.getElem?_eq_some_iff.1 hi).1
        simpa using this
      simp [hj] at hi
      subst hi
      obtain ⟨Ai, ci, h1, h2⟩ := hL i hj
      exact ⟨Ai, ci, by simp [hj, h1], h2⟩
end
end Go.Proofs.Ytchlbpfeiamieaa
namespace Go.Proofs.Ytchlbpfeiamieaa
open Go.ChangeShapes Go.WideShapes Go.ChangeAt Go.RowKit Go.Deep Go.Joins

section
variable {H : Type} {enc : TypeId × Value → H} {w : World} {base : Nat} {spare : Nat → Bool} {held : Bool}
theorem Try.cellsChunk : Try.prog.cellsOf 24 = 3 := by kernel_rfl
theorem Try.cellsUmpdu : Try.prog.cellsOf 26 = 4 := by kernel_rfl
theorem Try.cells1 : Try.prog.cellsOf 4 = 1 ∧ Try.prog.cellsOf 22 = 1 ∧ Try.prog.cellsOf 3 = 1 := ⟨by kernel_rfl, by kernel_rfl, by kernel_rfl⟩

theorem open_chunk3 {fuel : Nat} {v0 v1 v2 : Value} {x : DataW H × List MemPlace} (h : DataW.trod enc Try.prog w base spare held fuel 24 [v0, v1, v2] = some x) :
    ∃ (s e : Bool) (A : Option Addr) (n c : Nat) (vs : List Value) (ps : List (List UInt8)), v0 = .bool s ∧ v1 = .bool e ∧ v2 = .slice A n c ∧ Sls w w.heap.size A n c vs ps := by
  obtain ⟨y0, y1, y2, n, hx, _, h0, h1, h2⟩ := trod_struct3 Try.underlying24 h
  simp [Try.cells1] at h0 h1 h2
  obtain ⟨s, e0, _⟩ := DataW.trod_bool Try.underlying4 h0
  obtain ⟨e, e1, _⟩ := DataW.trod_bool Try.underlying4 h1
  obtain ⟨A, n, c, vs, ps, rfl, hs⟩ := open_parts h2
  simp at e0 e1
  exact ⟨s, e, A, n, c, vs, ps, e0, e1, rfl, hs⟩

set_option maxRecDepth 100000 in
theorem open_chunk {r : Reach} {b0 : Nat} {v : Value} {d : DataW H} {p : List MemPlace} (hv : Value.okWide Try.prog w r b0 24 v) (h : DataW.Trod enc Try.prog w base spare held 24 v d p) :
    ∃ (s e : Bool) (A : Option Addr) (n c : Nat) (vs : List Value) (ps : List (List UInt8)), v = .agg #[.bool s, .bool e, .slice A n c] ∧ Sls w w.heap.size A n c vs ps := by
  obtain ⟨cs, rfl, hsz⟩ := okWide_struct Try.underlying24 hv
  obtain ⟨c0, c1, c2, rfl⟩ := array3 (hsz.trans Try.cellsChunk)
  obtain ⟨fuel, hf⟩ := h
  obtain ⟨s, e, A, n, c, vs, ps, rfl, rfl, rfl, hs⟩ := open_chunk3 (by simpa [Value.cells] using hf)
  exact ⟨s, e, A, n, c, vs, ps, rfl, hs⟩

set_option maxRecDepth 100000 in
theorem open_umpdu {r : Reach} {b0 : Nat} {v : Value} {d : DataW H} {p : List MemPlace} (hv : Value.okWide Try.prog w r b0 26 v) (h : DataW.Trod enc Try.prog w base spare held 26 v d p) :
    ∃ (sn : Int) (s e : Bool) (A : Option Addr) (n c : Nat) (vs : List Value) (ps : List (List UInt8)), v = .agg #[.int .i64 sn, .bool s, .bool e, .slice A n c] ∧ (-9223372036854775808 ≤ sn ∧ sn ≤ 9223372036854775807) ∧ Sls w w.heap.size A n c vs ps := by
  obtain ⟨cs, rfl, hsz⟩ := okWide_struct Try.underlying26 hv
  obtain ⟨c0, c1, c2, c3, rfl⟩ := array4 (hsz.trans Try.cellsUmpdu)
  obtain ⟨fuel, hf⟩ := h
  obtain ⟨y0, y1, n, hx, _, h0, h1⟩ := trod_struct2 Try.underlying26 hf
  simp [Value.cells, Try.cells1, Try.cellsChunk] at h0 h1
  obtain ⟨sn, e0, _, hw⟩ := DataW.trod_int Try.underlying3 h0
  simp at e0
  subst e0
  obtain ⟨s, e, A, n, c, vs, ps, rfl, rfl, rfl, hs⟩ := open_chunk3 h1
  exact ⟨sn, s, e, A, n, c, vs, ps, rfl, bounds_i64 hw, hs⟩
end
end Go.Proofs.Ytchlbpfeiamieaa
namespace Go.Proofs.Ytchlbpfeiamieaa
open Go.ChangeShapes Go.WideShapes Go.ChangeAt Go.RowKit Go.Deep Go.Joins
theorem ownKnobsQ : ownKnob Try.prog.godebug = none := by kernel_rfl
theorem laidWholeQ : laidOutB Try.prog = true := by kernel_rfl
section
variable {H : Type} {enc : TypeId × Value → H} {w : World} {base : Nat} {spare : Nat → Bool} {held : Bool}
set_option maxRecDepth 100000 in
theorem open_i64 {r : Reach} {b0 : Nat} {v : Value} {d : DataW H} {p : List MemPlace} (hv : Value.okWide Try.prog w r b0 3 v) (h : DataW.Trod enc Try.prog w base spare held 3 v d p) :
    ∃ n : Int, v = .int .i64 n ∧ (-9223372036854775808 ≤ n ∧ n ≤ 9223372036854775807) := by
  obtain ⟨n, rfl, _, _, hw⟩ := open_int Try.underlying3 hv h
  exact ⟨_, rfl, bounds_i64 hw⟩
set_option maxRecDepth 100000 in
theorem open_b {r : Reach} {b0 : Nat} {v : Value} {d : DataW H} {p : List MemPlace} (hv : Value.okWide Try.prog w r b0 4 v) (h : DataW.Trod enc Try.prog w base spare held 4 v d p) :
    ∃ b : Bool, v = .bool b := by
  obtain ⟨b, rfl, _⟩ := open_bool Try.underlying4 hv h
  exact ⟨_, rfl⟩
set_option maxRecDepth 100000 in
theorem open_bs {r : Reach} {b0 : Nat} {v : Value} {d : DataW H} {p : List MemPlace} (hv : Value.okWide Try.prog w r b0 29 v) (h : DataW.Trod enc Try.prog w base spare held 29 v d p) :
    ∃ (A : Option Addr) (n c : Nat) (l : List UInt8), v = .slice A n c ∧ Sl w w.heap.size A n c (bvs l) := by
  obtain ⟨A, n, c, rfl⟩ := okWide_slice Try.underlying29 hv
  obtain ⟨fuel, hf⟩ := h
  obtain ⟨A2, n2, c2, l, hv2, hn, hh⟩ := open_bytes (by simpa [Value.cells] using hf)
  cases hv2
  exact ⟨A, n, c, l, rfl, hh⟩
end
end Go.Proofs.Ytchlbpfeiamieaa
