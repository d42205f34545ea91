/- Arguments opened: numbers, slices of bytes, steps, configurations. -/
import Derived.Test.YthicdlbelhokjaaGreatAa
import Derived.WalkKit
import Derived.ProofKit
import Derived.OpenShut
import Derived.ShutString
import Derived.ChangeOld
import Derived.Below
import Derived.Deep.Slices
import Derived.Lib.SmallJoins
import Derived.Deep.Strs
namespace Go.Proofs.YthicdlbelhokjaaGreat
open Go.ChangeShapes Go.WideShapes Go.ChangeAt Go.RowKit Go.Deep Go.Joins

section
variable {H : Type} {enc : TypeId × Value → H} {w : World} {base : Nat} {spare : Nat → Bool} {held : Bool}
theorem Tryz.und5 : Tryz.prog.underlying 5 = some (.int .u8) := by kernel_rfl
theorem Tryz.und51 : Tryz.prog.underlying 51 = some (.slice 5) := by kernel_rfl
theorem open_bytes {fuel : Nat} {v : Value} {x : DataW H × List MemPlace} (h : DataW.trod enc Tryz.prog w base spare held fuel 51 [v] = some x) :
    ∃ (A : Option Addr) (n c : Nat) (l : List UInt8), v = .slice A n c ∧ n = l.length ∧ Sl w w.heap.size A n c (bvs l) := by
  rcases open_ints Tryz.und51 Tryz.und5 (by kernel_rfl) h with ⟨hcs, _⟩ | ⟨a, len, cap, zs, hcs, _, hl, hm, hz, _, hcell, hwz⟩
  · simp at hcs
    subst hcs
    exact ⟨none, 0, 0, [], rfl, rfl, Sl.nil_.2 (by omega)⟩
  · simp at hcs
    subst hcs
    have hlen : len ≤ zs.length := by rw [hz]; split <;> omega
    have hll : ((zs.take len).map fun z => UInt8.ofNat z.toNat).length = len := by simp; omega
    refine ⟨some a, len, cap, (zs.take len).map fun z => UInt8.ofNat z.toNat, rfl, hll.symm, ⟨by rw [bvs_length, hll], hl, hm, fun hpos => ⟨a, rfl, ?_, fun j u hu => ?_⟩⟩⟩
    · have := World.block_lt_of_cell? w _ (hcell 0 (by omega))
      rwa [block_add] at this
    · have hj : j < len := by
        have := (List.getElem?_eq_some_iff.1 hu).1
        rw [bvs_length, hll] at this
        exact this
      rw [hcell j (by omega)]
      unfold bvs at hu
      rw [List.getElem?_map, List.getElem?_map, List.getElem?_take, if_pos hj, List.getElem?_eq_getElem (by omega)] at hu
      simp only [Option.map_some, Option.some.injEq] at hu
      rw [← hu]
      have hw := hwz _ (List.getElem_mem (by omega : j < zs.length))
      have hb := bounds_u8 hw
      have e : zs.getD j 0 = zs[j]'(by omega) := by simp [List.getD_eq_getElem?_getD, List.getElem?_eq_getElem (by omega : j < zs.length)]
      rw [e]
      unfold bv
      congr 2
      rw [UInt8.toNat_ofNat', Nat.mod_eq_of_lt (by omega)]
      omega
theorem ownKnobsQ : ownKnob Tryz.prog.godebug = none := by kernel_rfl
theorem laidWholeQ : laidOutB Tryz.prog = true := by kernel_rfl
set_option maxRecDepth 100000 in
theorem open_i64 {r : Reach} {b0 : Nat} {v : Value} {d : DataW H} {p : List MemPlace} (hv : Value.okWide Tryz.prog w r b0 3 v) (h : DataW.Trod enc Tryz.prog w base spare held 3 v d p) :
    ∃ n : Int, v = .int .i64 n ∧ (-9223372036854775808 ≤ n ∧ n ≤ 9223372036854775807) := by
  obtain ⟨n, rfl, _, _, hw⟩ := open_int Tryz.underlying3 hv h
  exact ⟨_, rfl, bounds_i64 hw⟩
set_option maxRecDepth 100000 in
theorem open_b {r : Reach} {b0 : Nat} {v : Value} {d : DataW H} {p : List MemPlace} (hv : Value.okWide Tryz.prog w r b0 4 v) (h : DataW.Trod enc Tryz.prog w base spare held 4 v d p) :
    ∃ b : Bool, v = .bool b := by
  obtain ⟨b, rfl, _⟩ := open_bool Tryz.underlying4 hv h
  exact ⟨_, rfl⟩
set_option maxRecDepth 100000 in
theorem open_bs {r : Reach} {b0 : Nat} {v : Value} {d : DataW H} {p : List MemPlace} (hv : Value.okWide Tryz.prog w r b0 51 v) (h : DataW.Trod enc Tryz.prog w base spare held 51 v d p) :
    ∃ (A : Option Addr) (n c : Nat) (l : List UInt8), v = .slice A n c ∧ Sl w w.heap.size A n c (bvs l) := by
  obtain ⟨A, n, c, rfl⟩ := okWide_slice Tryz.underlying51 hv
  obtain ⟨fuel, hf⟩ := h
  obtain ⟨A2, n2, c2, l, hv2, hn, hh⟩ := open_bytes (by simpa [Value.cells] using hf)
  cases hv2
  exact ⟨A, n, c, l, rfl, hh⟩

theorem Tryz.cells1 : Tryz.prog.cellsOf 51 = 1 ∧ Tryz.prog.cellsOf 22 = 1 ∧ Tryz.prog.cellsOf 3 = 1 := ⟨by kernel_rfl, by kernel_rfl, by kernel_rfl⟩
theorem Tryz.cellsStep : Tryz.prog.cellsOf 53 = 4 := by kernel_rfl
theorem open_step4 {fuel : Nat} {c0 c1 c2 c3 : Value} {x : DataW H × List MemPlace} (h : DataW.trod enc Tryz.prog w base spare held fuel 53 [c0, c1, c2, c3] = some x) :
    ∃ (kd now k : Int) (A : Option Addr) (n c : Nat) (l : List UInt8), c0 = .int .i64 kd ∧ c1 = .int .i64 now ∧ c2 = .int .i64 k ∧ c3 = .slice A n c ∧ Sl w w.heap.size A n c (bvs l) ∧ (-9223372036854775808 ≤ k ∧ k ≤ 9223372036854775807) ∧ (-9223372036854775808 ≤ now ∧ now ≤ 9223372036854775807) := by
  obtain ⟨y0, y1, y2, y3, n, hx, _, h0, h1, h2, h3⟩ := trod_struct4 Tryz.underlying53 h
  simp [Tryz.cells1] at h0 h1 h2 h3
  obtain ⟨k0, e0, _, hw0⟩ := DataW.trod_int Tryz.underlying3 h0
  obtain ⟨k1, e1, _, hw1⟩ := DataW.trod_int Tryz.underlying3 h1
  obtain ⟨k2, e2, _, hw2⟩ := DataW.trod_int Tryz.underlying3 h2
  obtain ⟨A, nn, c, l, rfl, rfl, hs⟩ := open_bytes h3
  simp at e0 e1 e2
  exact ⟨k0, k1, k2, A, _, c, l, e0, e1, e2, rfl, hs, bounds_i64 hw2, bounds_i64 hw1⟩
set_option maxRecDepth 100000 in
theorem open_step {r : Reach} {b0 : Nat} {v : Value} {d : DataW H} {p : List MemPlace} (hv : Value.okWide Tryz.prog w r b0 53 v) (h : DataW.Trod enc Tryz.prog w base spare held 53 v d p) :
    ∃ (kd now k : Int) (A : Option Addr) (n c : Nat) (l : List UInt8), v = .agg #[.int .i64 kd, .int .i64 now, .int .i64 k, .slice A n c] ∧ Sl w w.heap.size A n c (bvs l) := by
  obtain ⟨cs, rfl, hsz⟩ := okWide_struct Tryz.underlying53 hv
  obtain ⟨c0, c1, c2, c3, rfl⟩ := array4 (hsz.trans Tryz.cellsStep)
  obtain ⟨fuel, hf⟩ := h
  obtain ⟨kd, now, k, A, n, c, l, rfl, rfl, rfl, rfl, hs, _⟩ := open_step4 (by simpa [Value.cells] using hf)
  exact ⟨kd, now, k, A, n, c, l, rfl, hs⟩
end
end Go.Proofs.YthicdlbelhokjaaGreat
