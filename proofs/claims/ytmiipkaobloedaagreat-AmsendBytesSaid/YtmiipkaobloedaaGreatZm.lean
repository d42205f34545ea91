/- Arguments opened: slices of bytes, slices of slices of bytes, chunks. Arguments opened: chunks and UMPDUs. Arguments opened: numbers, bools. Arguments opened: a configuration, a call, a slice of calls of law35. -/
import Derived.Test.YtmiipkaobloedaaGreatYBa
import Derived.Test.YtmiipkaobloedaaGreatZh
import Derived.WalkKit
import Derived.ProofKit
import Derived.OpenShut
import Derived.ShutString
import Derived.ChangeOld
import Derived.Below
import Derived.Deep.Slices
import Derived.Lib.SmallJoins
import Derived.Deep.Strs
namespace Go.Proofs.YtmiipkaobloedaaGreat
open Go.ChangeShapes Go.WideShapes Go.ChangeAt Go.RowKit Go.Deep Go.Joins

section
variable {H : Type} {enc : TypeId × Value → H} {w : World} {base : Nat} {spare : Nat → Bool} {held : Bool}

theorem Tryz.und5 : Tryz.prog.underlying 5 = some (.int .u8) := by kernel_rfl
theorem Tryz.und29 : Tryz.prog.underlying 31 = some (.slice 5) := by kernel_rfl
theorem Tryz.und22 : Tryz.prog.underlying 49 = some (.slice 31) := by kernel_rfl

theorem open_bytes {fuel : Nat} {v : Value} {x : DataW H × List MemPlace} (h : DataW.trod enc Tryz.prog w base spare held fuel 31 [v] = some x) :
    ∃ (A : Option Addr) (n c : Nat) (l : List UInt8), v = .slice A n c ∧ n = l.length ∧ Sl w w.heap.size A n c (bvs l) := by
  rcases open_ints Tryz.und29 Tryz.und5 (by kernel_rfl) h with ⟨hcs, _⟩ | ⟨a, len, cap, zs, hcs, _, hl, hm, hz, _, hcell, hwz⟩
  · simp at hcs
    subst hcs
    exact ⟨none, 0, 0, [], rfl, rfl, Sl.nil_.2 (by omega)⟩
  · simp at hcs
    subst hcs
    have hlen : len ≤ zs.length := by rw [hz]; split <;> omega
    have hll : ((zs.take len).map fun z => UInt8.ofNat z.toNat).length = len := by simp; omega
    refine ⟨some a, len, cap, (zs.take len).map fun z => UInt8.ofNat z.toNat, rfl, hll.symm, ⟨by rw [bvs_length, hll], hl, hm, fun hpos => ⟨a, rfl, ?_, fun j u hu => ?_⟩⟩⟩
    · have := World.block_lt_of_cell? w _ (hcell 0 (by omega))
      rwa [block_add] at this
    · have hj : j < len := by
        have := (List.getElem?_eq_some_iff.1 hu).1
        rw [bvs_length, hll] at this
        exact this
      rw [hcell j (by omega)]
      unfold bvs at hu
      rw [List.getElem?_map, List.getElem?_map, List.getElem?_take, if_pos hj, List.getElem?_eq_getElem (by omega)] at hu
      simp only [Option.map_some, Option.some.injEq] at hu
      rw [← hu]
      have hw := hwz _ (List.getElem_mem (by omega : j < zs.length))
      have hb := bounds_u8 hw
      have e : zs.getD j 0 = zs[j]'(by omega) := by simp [List.getD_eq_getElem?_getD, List.getElem?_eq_getElem (by omega : j < zs.length)]
      rw [e]
      unfold bv
      congr 2
      rw [UInt8.toNat_ofNat', Nat.mod_eq_of_lt (by omega)]
      omega

theorem open_parts {fuel : Nat} {v : Value} {x : DataW H × List MemPlace} (h : DataW.trod enc Tryz.prog w base spare held fuel 49 [v] = some x) :
    ∃ (A : Option Addr) (n c : Nat) (vs : List Value) (ps : List (List UInt8)), v = .slice A n c ∧ Sls w w.heap.size A n c vs ps := by
  rcases open_slice1 Tryz.und22 (by kernel_rfl) h with ⟨hcs, _⟩ | ⟨a, len, cap, m, n, V, D, Pl, hcs, _, hl, hm, hmm, _, hx⟩
  · simp at hcs
    subst hcs
    exact ⟨none, 0, 0, [], [], rfl, ⟨Sl.nil_.2 (by omega), rfl, by simp⟩⟩
  · simp at hcs
    subst hcs
    have hlm : len ≤ m := by rw [hmm]; split <;> omega
    have key : ∀ i, ∃ l : List UInt8, i < len → ∃ Ai ci, V i = .slice Ai l.length ci ∧ Sl w w.heap.size Ai l.length ci (bvs l) := by
      intro i
      by_cases hi : i < len
      · obtain ⟨A, n', c, l, hv, hn', hs⟩ := open_bytes (hx i (by omega)).2
        subst hn'
        exact ⟨l, fun _ => ⟨A, c, hv, hs⟩⟩
      · exact ⟨[], fun h => absurd h hi⟩
    have ⟨L, hL⟩ := Classical.axiomOfChoice key
    refine ⟨some a, len, cap, (List.range len).map V, (List.range len).map L, rfl, ⟨⟨by simp, hl, hm, fun hpos => ⟨a, rfl, ?_, fun j u hu => ?_⟩⟩, by simp, fun i p hi => ?_⟩⟩
    · have := World.block_lt_of_cell? w _ (hx 0 (by omega)).1
      rwa [block_add] at this
    · have hj : j < len := by
        have := (List.getElem?_eq_some_iff.1 hu).1
        simpa using this
      rw [(hx j (by omega)).1]
      simpa [hj] using hu
    · have hj : i < len := by
        have := (List.getElem?_eq_some_iff.1 hi).1
        simpa using this
      simp [hj] at hi
      subst hi
      obtain ⟨Ai, ci, h1, h2⟩ := hL i hj
      exact ⟨Ai, ci, by simp [hj, h1], h2⟩
end
end Go.Proofs.YtmiipkaobloedaaGreat
namespace Go.Proofs.YtmiipkaobloedaaGreat
open Go.ChangeShapes Go.WideShapes Go.ChangeAt Go.RowKit Go.Deep Go.Joins

section
variable {H : Type} {enc : TypeId × Value → H} {w : World} {base : Nat} {spare : Nat → Bool} {held : Bool}
theorem Tryz.cellsChunk : Tryz.prog.cellsOf 59 = 3 := by kernel_rfl
theorem Tryz.cells1 : Tryz.prog.cellsOf 4 = 1 ∧ Tryz.prog.cellsOf 49 = 1 ∧ Tryz.prog.cellsOf 3 = 1 := ⟨by kernel_rfl, by kernel_rfl, by kernel_rfl⟩

theorem open_chunk3 {fuel : Nat} {v0 v1 v2 : Value} {x : DataW H × List MemPlace} (h : DataW.trod enc Tryz.prog w base spare held fuel 59 [v0, v1, v2] = some x) :
    ∃ (s e : Bool) (A : Option Addr) (n c : Nat) (vs : List Value) (ps : List (List UInt8)), v0 = .bool s ∧ v1 = .bool e ∧ v2 = .slice A n c ∧ Sls w w.heap.size A n c vs ps := by
  obtain ⟨y0, y1, y2, n, hx, _, h0, h1, h2⟩ := trod_struct3 Tryz.underlying59 h
  simp [Tryz.cells1] at h0 h1 h2
  obtain ⟨s, e0, _⟩ := DataW.trod_bool Tryz.underlying4 h0
  obtain ⟨e, e1, _⟩ := DataW.trod_bool Tryz.underlying4 h1
  obtain ⟨A, n, c, vs, ps, rfl, hs⟩ := open_parts h2
  simp at e0 e1
  exact ⟨s, e, A, n, c, vs, ps, e0, e1, rfl, hs⟩

set_option maxRecDepth 100000 in
theorem open_chunk {r : Reach} {b0 : Nat} {v : Value} {d : DataW H} {p : List MemPlace} (hv : Value.okWide Tryz.prog w r b0 59 v) (h : DataW.Trod enc Tryz.prog w base spare held 59 v d p) :
    ∃ (s e : Bool) (A : Option Addr) (n c : Nat) (vs : List Value) (ps : List (List UInt8)), v = .agg #[.bool s, .bool e, .slice A n c] ∧ Sls w w.heap.size A n c vs ps := by
  obtain ⟨cs, rfl, hsz⟩ := okWide_struct Tryz.underlying59 hv
  obtain ⟨c0, c1, c2, rfl⟩ := array3 (hsz.trans Tryz.cellsChunk)
  obtain ⟨fuel, hf⟩ := h
  obtain ⟨s, e, A, n, c, vs, ps, rfl, rfl, rfl, hs⟩ := open_chunk3 (by simpa [Value.cells] using hf)
  exact ⟨s, e, A, n, c, vs, ps, rfl, hs⟩

end
end Go.Proofs.YtmiipkaobloedaaGreat
namespace Go.Proofs.YtmiipkaobloedaaGreat
open Go.ChangeShapes Go.WideShapes Go.ChangeAt Go.RowKit Go.Deep Go.Joins
theorem ownKnobsQ : ownKnob Tryz.prog.godebug = none := by kernel_rfl
theorem laidWholeQ : laidOutB Tryz.prog = true := by kernel_rfl
section
variable {H : Type} {enc : TypeId × Value → H} {w : World} {base : Nat} {spare : Nat → Bool} {held : Bool}
set_option maxRecDepth 100000 in
theorem open_i64 {r : Reach} {b0 : Nat} {v : Value} {d : DataW H} {p : List MemPlace} (hv : Value.okWide Tryz.prog w r b0 3 v) (h : DataW.Trod enc Tryz.prog w base spare held 3 v d p) :
    ∃ n : Int, v = .int .i64 n ∧ (-9223372036854775808 ≤ n ∧ n ≤ 9223372036854775807) := by
  obtain ⟨n, rfl, _, _, hw⟩ := open_int Tryz.underlying3 hv h
  exact ⟨_, rfl, bounds_i64 hw⟩
set_option maxRecDepth 100000 in
theorem open_b {r : Reach} {b0 : Nat} {v : Value} {d : DataW H} {p : List MemPlace} (hv : Value.okWide Tryz.prog w r b0 4 v) (h : DataW.Trod enc Tryz.prog w base spare held 4 v d p) :
    ∃ b : Bool, v = .bool b := by
  obtain ⟨b, rfl, _⟩ := open_bool Tryz.underlying4 hv h
  exact ⟨_, rfl⟩
set_option maxRecDepth 100000 in
theorem open_bs {r : Reach} {b0 : Nat} {v : Value} {d : DataW H} {p : List MemPlace} (hv : Value.okWide Tryz.prog w r b0 31 v) (h : DataW.Trod enc Tryz.prog w base spare held 31 v d p) :
    ∃ (A : Option Addr) (n c : Nat) (l : List UInt8), v = .slice A n c ∧ Sl w w.heap.size A n c (bvs l) := by
  obtain ⟨A, n, c, rfl⟩ := okWide_slice Tryz.underlying31 hv
  obtain ⟨fuel, hf⟩ := h
  obtain ⟨A2, n2, c2, l, hv2, hn, hh⟩ := open_bytes (by simpa [Value.cells] using hf)
  cases hv2
  exact ⟨A, n, c, l, rfl, hh⟩
end
end Go.Proofs.YtmiipkaobloedaaGreat
namespace Go.Proofs.YtmiipkaobloedaaGreat
open Go.ChangeShapes Go.WideShapes Go.ChangeAt Go.RowKit Go.Deep Go.Joins

theorem array7 {α : Type} {cs : Array α} (h : cs.size = 7) : ∃ c0 c1 c2 c3 c4 c5 c6, cs = #[c0, c1, c2, c3, c4, c5, c6] := by
  obtain ⟨l⟩ := cs
  match l, h with
  | [c0, c1, c2, c3, c4, c5, c6], _ => exact ⟨c0, c1, c2, c3, c4, c5, c6, rfl⟩
theorem array6 {α : Type} {cs : Array α} (h : cs.size = 6) : ∃ c0 c1 c2 c3 c4 c5, cs = #[c0, c1, c2, c3, c4, c5] := by
  obtain ⟨l⟩ := cs
  match l, h with
  | [c0, c1, c2, c3, c4, c5], _ => exact ⟨c0, c1, c2, c3, c4, c5, rfl⟩
theorem Tryz.cellsAm : Tryz.prog.cellsOf 23 = 7 ∧ Tryz.prog.cellsOf 3 = 1 := ⟨by kernel_rfl, by kernel_rfl⟩
theorem Tryz.cellsAct : Tryz.prog.cellsOf 47 = 6 ∧ Tryz.prog.cellsOf 41 = 2 ∧ Tryz.prog.cellsOf 31 = 1 ∧ Tryz.prog.cellsOf 39 = 1 ∧ Tryz.prog.cellsOf 3 = 1 ∧ Tryz.prog.cellsOf 68 = 4 ∧ Tryz.prog.cellsOf 4 = 1 := ⟨by kernel_rfl, by kernel_rfl, by kernel_rfl, by kernel_rfl, by kernel_rfl, by kernel_rfl, by kernel_rfl⟩
section
variable {H : Type} {enc : TypeId × Value → H} {w : World} {base : Nat} {spare : Nat → Bool} {held : Bool}
theorem one_int {fuel : Nat} {c : Value} {x : DataW H × List MemPlace} (h : DataW.trod enc Tryz.prog w base spare held fuel 3 [c] = some x) : ∃ k : Int, c = .int .i64 k ∧ isI k := by
  obtain ⟨k0, e0, _, hw⟩ := DataW.trod_int Tryz.underlying3 h
  simp at e0
  exact ⟨k0, e0, bounds_i64 hw⟩
theorem open_am7 {fuel : Nat} {c0 c1 c2 c3 c4 c5 c6 : Value} {x : DataW H × List MemPlace} (h : DataW.trod enc Tryz.prog w base spare held fuel 23 [c0, c1, c2, c3, c4, c5, c6] = some x) :
    ∃ a0 a1 a2 a3 a4 a5 a6 : Int, c0 = .int .i64 a0 ∧ c1 = .int .i64 a1 ∧ c2 = .int .i64 a2 ∧ c3 = .int .i64 a3 ∧ c4 = .int .i64 a4 ∧ c5 = .int .i64 a5 ∧ c6 = .int .i64 a6 := by
  obtain ⟨xs, n, _, _, _, hlen, hf⟩ := DataW.trod_struct Tryz.underlying23 h
  match xs, hlen with
  | [y0, y1, y2, y3, y4, y5, y6], _ =>
    have h0 := hf 0 _ rfl
    have h1 := hf 1 _ rfl
    have h2 := hf 2 _ rfl
    have h3 := hf 3 _ rfl
    have h4 := hf 4 _ rfl
    have h5 := hf 5 _ rfl
    have h6 := hf 6 _ rfl
    simp [Tryz.cellsAm] at h0 h1 h2 h3 h4 h5 h6
    obtain ⟨k0, rfl, _⟩ := one_int h0
    obtain ⟨k1, rfl, _⟩ := one_int h1
    obtain ⟨k2, rfl, _⟩ := one_int h2
    obtain ⟨k3, rfl, _⟩ := one_int h3
    obtain ⟨k4, rfl, _⟩ := one_int h4
    obtain ⟨k5, rfl, _⟩ := one_int h5
    obtain ⟨k6, rfl, _⟩ := one_int h6
    exact ⟨k0, k1, k2, k3, k4, k5, k6, rfl, rfl, rfl, rfl, rfl, rfl, rfl⟩
set_option maxRecDepth 100000 in
theorem open_am {r : Reach} {b0 : Nat} {v : Value} {d : DataW H} {p : List MemPlace} (hv : Value.okWide Tryz.prog w r b0 23 v) (h : DataW.Trod enc Tryz.prog w base spare held 23 v d p) :
    ∃ a0 a1 a2 a3 a4 a5 a6 : Int, v = .agg #[.int .i64 a0, .int .i64 a1, .int .i64 a2, .int .i64 a3, .int .i64 a4, .int .i64 a5, .int .i64 a6] := by
  obtain ⟨cs, rfl, hsz⟩ := okWide_struct Tryz.underlying23 hv
  obtain ⟨c0, c1, c2, c3, c4, c5, c6, rfl⟩ := array7 (hsz.trans Tryz.cellsAm.1)
  obtain ⟨fuel, hf⟩ := h
  obtain ⟨a0, a1, a2, a3, a4, a5, a6, rfl, rfl, rfl, rfl, rfl, rfl, rfl⟩ := open_am7 (by simpa [Value.cells] using hf)
  exact ⟨a0, a1, a2, a3, a4, a5, a6, rfl⟩
theorem open_nk4 {fuel : Nat} {c0 c1 c2 c3 : Value} {x : DataW H × List MemPlace} (h : DataW.trod enc Tryz.prog w base spare held fuel 68 [c0, c1, c2, c3] = some x) :
    ∃ y : Nk, c0 = .int .i64 y.sn ∧ c1 = .bool y.part ∧ c2 = .int .i64 y.fr ∧ c3 = .int .i64 y.lt := by
  obtain ⟨y0, y1, y2, y3, n, hx, _, h0, h1, h2, h3⟩ := trod_struct4 Tryz.underlying68 h
  simp [Tryz.cellsAct] at h0 h1 h2 h3
  obtain ⟨k0, e0, _⟩ := one_int h0
  obtain ⟨e, e1, _⟩ := DataW.trod_bool Tryz.underlying4 h1
  obtain ⟨k2, e2, _⟩ := one_int h2
  obtain ⟨k3, e3, _⟩ := one_int h3
  simp at e1
  exact ⟨⟨k0, e, k2, k3⟩, e0, e1, e2, e3⟩
theorem add_four (a : Addr) (i j : Nat) (hj : 0 < j) : (⟨(a.add (i * 4)).block, (a.add (i * 4)).off + j, none⟩ : Addr) = (a.add (i * 4)).add j := by
  rw [add_spot _ _ _ hj, Go.Deep.add_add]
theorem open_nacks {fuel : Nat} {v : Value} {x : DataW H × List MemPlace} (h : DataW.trod enc Tryz.prog w base spare held fuel 39 [v] = some x) :
    ∃ (A : Option Addr) (c : Nat) (l : List Nk), v = .slice A l.length c ∧ NkAt w A l.length c l ∧ ∀ ad, A = some ad → 0 < l.length → ad.block < w.heap.size := by
  rcases open_slice Tryz.underlying39 h with ⟨hcs, _⟩ | ⟨a, len, cap, m, n, D, Pl, hcs, _, hl, hm, hmm, _, hx⟩
  · simp at hcs
    subst hcs
    exact ⟨none, 0, [], rfl, ⟨rfl, Nat.le_refl _, by omega, fun h => by simp at h⟩, fun ad e => by cases e⟩
  · simp at hcs
    subst hcs
    have hlm : len ≤ m := by rw [hmm]; split <;> omega
    have key : ∀ i, ∃ y : Nk, i < len → w.cell? (a.add (i * 4)) = some (.int .i64 y.sn) ∧ w.cell? ((a.add (i * 4)).add 1) = some (.bool y.part) ∧ w.cell? ((a.add (i * 4)).add 2) = some (.int .i64 y.fr) ∧ w.cell? ((a.add (i * 4)).add 3) = some (.int .i64 y.lt) := by
      intro i
      by_cases hi : i < len
      · obtain ⟨cs', hc, ht⟩ := hx i (by omega)
        rw [Tryz.cellsAct.2.2.2.2.2.1] at hc
        obtain ⟨_, hcl, hat⟩ := World.cells?_some hc
        match cs', hcl with
        | [c0, c1, c2, c3], _ =>
          obtain ⟨y, rfl, rfl, rfl, rfl⟩ := open_nk4 ht
          have a0 := hat 0 (by omega)
          exact ⟨y, fun _ => ⟨a0, hat 1 (by omega), hat 2 (by omega), hat 3 (by omega)⟩⟩
      · exact ⟨⟨0, false, 0, 0⟩, fun h => absurd h hi⟩
    have ⟨L, hL⟩ := Classical.axiomOfChoice key
    have hlen : ((List.range len).map L).length = len := by simp
    have hblk : 0 < len → a.block < w.heap.size := fun hpos => by
      have := World.block_lt_of_cell? w _ (hL 0 hpos).1
      rwa [block_add] at this
    refine ⟨some a, cap, (List.range len).map L, by rw [hlen], ?_, fun ad e hz => by cases e; exact hblk (by rw [hlen] at hz; exact hz)⟩
    rw [hlen]
    refine ⟨hlen, hl, hm, fun hpos => ⟨a, rfl, hblk hpos, fun j u hu => ?_⟩⟩
    have hj : j < len := by
      have := (List.getElem?_eq_some_iff.1 hu).1
      simpa using this
    simp [hj] at hu
    subst hu
    obtain ⟨k0, k1, k2, k3⟩ := hL j hj
    rw [add_four _ _ _ (by decide), add_four _ _ _ (by decide), add_four _ _ _ (by decide)]
    exact ⟨k0, k1, k2, k3⟩
theorem open_act6 {fuel : Nat} {c0 c1 c2 c3 c4 c5 : Value} {x : DataW H × List MemPlace} (h : DataW.trod enc Tryz.prog w base spare held fuel 47 [c0, c1, c2, c3, c4, c5] = some x) :
    ∃ y : ActQ, [c0, c1, c2, c3, c4, c5] = actC y ∧ ActI w w.heap.size y := by
  obtain ⟨xs, n, _, _, _, hlen, hf⟩ := DataW.trod_struct Tryz.underlying47 h
  match xs, hlen with
  | [y0, y1, y2, y3, y4], _ =>
    have h0 := hf 0 _ rfl
    have h1 := hf 1 _ rfl
    have h2 := hf 2 _ rfl
    have h3 := hf 3 _ rfl
    have h4 := hf 4 _ rfl
    simp [Tryz.cellsAct] at h0 h1 h2 h3 h4
    obtain ⟨k0, rfl, b0⟩ := one_int h0
    obtain ⟨k1, rfl, b1⟩ := one_int h1
    obtain ⟨k2, rfl, b2⟩ := one_int h2
    obtain ⟨A, nn, c, l, rfl, rfl, hs⟩ := open_bytes h3
    obtain ⟨z0, z1, _, _, _, g0, g1⟩ := trod_struct2 Tryz.underlying41 h4
    simp [Tryz.cellsAct] at g0 g1
    obtain ⟨k4, rfl, b4⟩ := one_int g0
    obtain ⟨Ar, cr, nks, rfl, hn, hb⟩ := open_nacks g1
    exact ⟨⟨k0, k1, k2, A, l, c, k4, Ar, nks, cr⟩, rfl, b0, b1, b2, b4, hs, hn, hb⟩
set_option maxRecDepth 100000 in
theorem open_act {r : Reach} {b0 : Nat} {v : Value} {d : DataW H} {p : List MemPlace} (hv : Value.okWide Tryz.prog w r b0 47 v) (h : DataW.Trod enc Tryz.prog w base spare held 47 v d p) :
    ∃ y : ActQ, v = .agg #[.int .i64 y.k, .int .i64 y.now, .int .i64 y.n, .slice y.A y.b.length y.c, .int .i64 y.ack, .slice y.Ar y.nks.length y.cr] ∧ ActI w w.heap.size y := by
  obtain ⟨cs, rfl, hsz⟩ := okWide_struct Tryz.underlying47 hv
  obtain ⟨c0, c1, c2, c3, c4, c5, rfl⟩ := array6 (hsz.trans Tryz.cellsAct.1)
  obtain ⟨fuel, hf⟩ := h
  obtain ⟨y, hy, hi⟩ := open_act6 (by simpa [Value.cells] using hf)
  unfold actC at hy
  simp only [List.cons.injEq, and_true] at hy
  obtain ⟨rfl, rfl, rfl, rfl, rfl, rfl⟩ := hy
  exact ⟨y, rfl, hi⟩
theorem open_acts1 {fuel : Nat} {v : Value} {x : DataW H × List MemPlace} (h : DataW.trod enc Tryz.prog w base spare held fuel 44 [v] = some x) :
    ∃ (A : Option Addr) (n c : Nat) (l : List ActQ), v = .slice A n c ∧ SlQ w w.heap.size A n c l := by
  rcases open_slice Tryz.underlying44 h with ⟨hcs, _⟩ | ⟨a, len, cap, m, n, D, Pl, hcs, _, hl, hm, hmm, _, hx⟩
  · simp at hcs
    subst hcs
    exact ⟨none, 0, 0, [], rfl, ⟨rfl, by omega, by omega, fun h => by omega⟩⟩
  · simp at hcs
    subst hcs
    have hlm : len ≤ m := by rw [hmm]; split <;> omega
    have key : ∀ i, ∃ y : ActQ, i < len → (∀ j v, (actC y)[j]? = some v → w.cell? (a.add (i * 6 + j)) = some v) ∧ ActI w w.heap.size y := by
      intro i
      by_cases hi : i < len
      · obtain ⟨cs', hc, ht⟩ := hx i (by omega)
        rw [Tryz.cellsAct.1] at hc
        obtain ⟨_, hcl, hat⟩ := World.cells?_some hc
        match cs', hcl with
        | [c0, c1, c2, c3, c4, c5], _ =>
          obtain ⟨y, hy, hiy⟩ := open_act6 ht
          refine ⟨y, fun _ => ⟨fun j v hv => ?_, hiy⟩⟩
          rw [← hy] at hv
          obtain ⟨hj, hv⟩ := List.getElem?_eq_some_iff.1 hv
          have := hat j (by simpa using hj)
          rw [Go.Deep.add_add] at this
          rw [this]
          simp [List.getElem?_eq_getElem hj, hv]
      · exact ⟨⟨0, 0, 0, none, [], 0, 0, none, [], 0⟩, fun h => absurd h hi⟩
    have ⟨L, hL⟩ := Classical.axiomOfChoice key
    refine ⟨some a, len, cap, (List.range len).map L, rfl, ⟨by simp, hl, hm, fun hpos => ⟨a, rfl, ?_, fun j u hu => ?_⟩⟩⟩
    · have := World.block_lt_of_cell? w _ ((hL 0 hpos).1 0 _ rfl)
      rwa [block_add] at this
    · have hj : j < len := by
        have := (List.getElem?_eq_some_iff.1 hu).1
        simpa using this
      simp [hj] at hu
      subst hu
      exact hL j hj
set_option maxRecDepth 100000 in
theorem open_acts {r : Reach} {b0 : Nat} {v : Value} {d : DataW H} {p : List MemPlace} (hv : Value.okWide Tryz.prog w r b0 44 v) (h : DataW.Trod enc Tryz.prog w base spare held 44 v d p) :
    ∃ (A : Option Addr) (n c : Nat) (l : List ActQ), v = .slice A n c ∧ SlQ w w.heap.size A n c l := by
  obtain ⟨A, n, c, rfl⟩ := okWide_slice Tryz.underlying44 hv
  obtain ⟨fuel, hf⟩ := h
  obtain ⟨A2, n2, c2, l, hv2, hh⟩ := open_acts1 (by simpa [Value.cells] using hf)
  cases hv2
  exact ⟨A, n, c, l, rfl, hh⟩
end
end Go.Proofs.YtmiipkaobloedaaGreat
