/- Arguments opened: slices of bytes, slices of slices of bytes, chunks. -/
import Derived.Test.YtchlbpfeiamieaaB0
import Derived.WalkKit
import Derived.ProofKit
import Derived.OpenShut
import Derived.ShutString
import Derived.ChangeOld
import Derived.Below
import Derived.Deep.Slices
import Derived.Lib.SmallJoins
namespace Go.Proofs.Ytchlbpfeiamieaa
open Go.ChangeShapes Go.WideShapes Go.ChangeAt Go.RowKit Go.Deep Go.Joins

section
variable {H : Type} {enc : TypeId × Value → H} {w : World} {base : Nat} {spare : Nat → Bool} {held : Bool}

theorem Try.und5 : Try.prog.underlying 5 = some (.int .u8) := by kernel_rfl
theorem Try.und29 : Try.prog.underlying 29 = some (.slice 5) := by kernel_rfl
theorem Try.und22 : Try.prog.underlying 22 = some (.slice 29) := by kernel_rfl

theorem open_bytes {fuel : Nat} {v : Value} {x : DataW H × List MemPlace} (h : DataW.trod enc Try.prog w base spare held fuel 29 [v] = some x) :
    ∃ (A : Option Addr) (n c : Nat) (l : List UInt8), v = .slice A n c ∧ n = l.length ∧ Sl w w.heap.size A n c (bvs l) := by
  rcases open_ints Try.und29 Try.und5 (by kernel_rfl) h with ⟨hcs, _⟩ | ⟨a, len, cap, zs, hcs, _, hl, hm, hz, _, hcell, hwz⟩
  · simp at hcs
    subst hcs
    exact ⟨none, 0, 0, [], rfl, rfl, Sl.nil_.2 (by omega)⟩
  · simp at hcs
    subst hcs
    have hlen : len ≤ zs.length := by rw [hz]; split <;> omega
    have hll : ((zs.take len).map fun z => UInt8.ofNat z.toNat).length = len := by simp; omega
    refine ⟨some a, len, cap, (zs.take len).map fun z => UInt8.ofNat z.toNat, rfl, hll.symm, ⟨by rw [bvs_length, hll], hl, hm, fun hpos => ⟨a, rfl, ?_, fun j u hu => ?_⟩⟩⟩
    · have := World.block_lt_of_cell? w _ (hcell 0 (by omega))
      rwa [block_add] at this
    · have hj : j < len := by
        have := (List.getElem?_eq_some_iff.1 hu).1
        rw [bvs_length, hll] at this
        exact this
      rw [hcell j (by omega)]
      unfold bvs at hu
      rw [List.getElem?_map, List.getElem?_map, List.getElem?_take, if_pos hj, List.getElem?_eq_getElem (by omega)] at hu
      simp only [Option.map_some, Option.some.injEq] at hu
      rw [← hu]
      have hw := hwz _ (List.getElem_mem (by omega : j < zs.length))
      have hb := bounds_u8 hw
      have e : zs.getD j 0 = zs[j]'(by omega) := by simp [List.getD_eq_getElem?_getD, List.getElem?_eq_getElem (by omega : j < zs.length)]
      rw [e]
      unfold bv
      congr 2
      rw [UInt8.toNat_ofNat', Nat.mod_eq_of_lt (by omega)]
      omega

theorem open_parts {fuel : Nat} {v : Value} {x : DataW H × List MemPlace} (h : DataW.trod enc Try.prog w base spare held fuel 22 [v] = some x) :
    ∃ (A : Option Addr) (n c : Nat) (vs : List Value) (ps : List (List UInt8)), v = .slice A n c ∧ Sls w w.heap.size A n c vs ps := by
  rcases open_slice1 Try.und22 (by kernel_rfl) h with ⟨hcs, _⟩ | ⟨a, len, cap, m, n, V, D, Pl, hcs, _, hl, hm, hmm, _, hx⟩
  · simp at hcs
    subst hcs
    exact ⟨none, 0, 0, [], [], rfl, ⟨Sl.nil_.2 (by omega), rfl, by simp⟩⟩
  · simp at hcs
    subst hcs
    have hlm : len ≤ m := by rw [hmm]; split <;> omega
    have key : ∀ i, ∃ l : List UInt8, i < len → ∃ Ai ci, V i = .slice Ai l.length ci ∧ Sl w w.heap.size Ai l.length ci (bvs l) := by
      intro i
      by_cases hi : i < len
      · obtain ⟨A, n', c, l, hv, hn', hs⟩ := open_bytes (hx i (by omega)).2
        subst hn'
        exact ⟨l, fun _ => ⟨A, c, hv, hs⟩⟩
      · exact ⟨[], fun h => absurd h hi⟩
    have ⟨L, hL⟩ := Classical.axiomOfChoice key
    refine ⟨some a, len, cap, (List.range len).map V, (List.range len).map L, rfl, ⟨⟨by simp, hl, hm, fun hpos => ⟨a, rfl, ?_, fun j u hu => ?_⟩⟩, by simp, fun i p hi => ?_⟩⟩
    · have := World.block_lt_of_cell? w _ (hx 0 (by omega)).1
      rwa [block_add] at this
    · have hj : j < len := by
        have := (List.getElem?_eq_some_iff.1 hu).1
        simpa using this
      rw [(hx j (by omega)).1]
      simpa [hj] using hu
    · have hj : i < len := by
        have := (List.getElem?_eq_some_iff.1 hi).1
        simpa using this
      simp [hj] at hi
      subst hi
      obtain ⟨Ai, ci, h1, h2⟩ := hL i hj
      exact ⟨Ai, ci, by simp [hj, h1], h2⟩
end
end Go.Proofs.Ytchlbpfeiamieaa
