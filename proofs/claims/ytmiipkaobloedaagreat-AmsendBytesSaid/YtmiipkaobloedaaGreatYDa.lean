/- umpdu.Decode: the lengths. umpdu.Decode: the parts. umpdu.Decode: errors are recovered. umpdu.Decode. -/
import Derived.Test.YtmiipkaobloedaaGreatYRa
import Derived.WideLaws
namespace Go.Proofs.YtmiipkaobloedaaGreat
open Go.RowKit

/-- what reading the lengths comes to -/
def LensIs (w : World) (r : Nat) (v : Value) (bs : List UInt8) (R : Sum Nat (List Nat × Nat)) (e : Ending) (w' : World) : Prop :=
  Kept (fun k _ => k = r ∨ w.heap.size ≤ k) w w' ∧
  ((∃ er : Nat, R = .inl er ∧ e = raise er) ∨
   (∃ ls p vo, R = .inr (ls, p) ∧ e = .returned (.tuple #[vo, .int .i64 (ls.sum : Nat)]) ∧ w'.ownsRow w.heap.size 3 1 vo ls.length (i64s ls) ∧ Rdr w' r v bs p ∧ p ≤ 8 * bs.length))

/-- a slice value's length -/
def lenOfV : Value → Nat
  | .slice _ n _ => n
  | _ => 0
theorem lenOfV_own {w : World} {base : Nat} {e : TypeId} {size n : Nat} {v : Value} {xs : List Value} (h : w.ownsRow base e size v n xs) : lenOfV v = n := by
  rcases h.2 with ⟨rfl, h0⟩ | ⟨g', cap, cur, rfl, _⟩
  · exact h0.symm
  · rfl
theorem and2047 (V : Nat) (h : V < 4096) : bits BinOp.and IntKind.u64 (V : Int) 2047 = ((V % 2048 : Nat) : Int) := by
  have h1 := u64_and_nat V 2047 (by omega) (by omega)
  have h1' : bits BinOp.and IntKind.u64 (V : Int) 2047 = ((V &&& 2047 : Nat) : Int) := h1
  rw [h1']
  have : V &&& 2047 = V % 2048 := Nat.and_two_pow_sub_one_eq_mod V 11
  rw [this]

end Go.Proofs.YtmiipkaobloedaaGreat
namespace Go.Proofs.YtmiipkaobloedaaGreat
open Go.RowKit

theorem sl_info : (Tryz.prog.info? 31).map (fun i => (i.zero, i.size, i.bytes)) = some (some (.slice none 0 0), 1, 24) := by kernel_rfl
theorem und22 : Tryz.prog.underlying 49 = some (.slice 31) := by kernel_rfl

theorem Sl.cut {w : World} {B n c k : Nat} {A : Option Addr} {xs : List Value} (h : Sl w B A n c xs) (hk : k ≤ n) : Sl w B (if c = k then A else A.map (·.add k)) (n - k) (c - k) (xs.drop k) := by
  refine ⟨by rw [List.length_drop, h.len], by have := h.cap; omega, by have := h.mx; omega, fun hn => ?_⟩
  obtain ⟨ad, rfl, hb, hc⟩ := h.at_ (by omega)
  have := h.cap
  rw [if_neg (by omega)]
  refine ⟨ad.add k, rfl, by rw [block_add]; exact hb, fun j u hu => ?_⟩
  rw [add_add]
  exact hc _ u (by rw [← hu, List.getElem?_drop])

/-- Parts in memory of their own: a row of slices into one row of bytes. -/
def PartsOut (w : World) (base : Nat) (vo : Value) (ps : List (List UInt8)) : Prop :=
  ∃ vs g cap data, w.ownsRow base 31 1 vo ps.length vs ∧ w.ownsRow base 5 1 (.slice (some ⟨g, 0, none⟩) data.length cap) data.length (bvs data) ∧
    ∀ (i : Nat) (p : List UInt8), ps[i]? = some p → ∃ off c, vs[i]? = some (Value.slice (some ⟨g, off, none⟩) p.length c) ∧ p.length ≤ c ∧ c ≤ 9223372036854775807 ∧ p = (data.drop off).take p.length

theorem PartsOut.kept {w w' : World} {base : Nat} {vo : Value} {ps : List (List UInt8)} (h : PartsOut w base vo ps) (hk : ∀ k o, base ≤ k → w.heap[k]? = some o → w'.heap[k]? = some o) : PartsOut w' base vo ps := by
  obtain ⟨vs, g, cap, data, h1, h2, h3⟩ := h
  have go : ∀ {e : TypeId} {v : Value} {n : Nat} {xs : List Value}, w.ownsRow base e 1 v n xs → w'.ownsRow base e 1 v n xs := by
    intro e v n xs hh
    rcases hh.2 with ⟨rfl, h0⟩ | ⟨g', cap, cur, rfl, h1, h2, h3⟩
    · exact ⟨hh.1, .inl ⟨rfl, h0⟩⟩
    · exact ⟨hh.1, .inr ⟨g', cap, cur, rfl, h1, hk _ _ h1 h2, h3⟩⟩
  exact ⟨vs, g, cap, data, go h1, go h2, h3⟩
theorem PartsOut.base {w : World} {base base' : Nat} {vo : Value} {ps : List (List UInt8)} (h : PartsOut w base vo ps) (hb : base' ≤ base) : PartsOut w base' vo ps := by
  obtain ⟨vs, g, cap, data, h1, h2, h3⟩ := h
  exact ⟨vs, g, cap, data, own_base h1 hb, own_base h2 hb, h3⟩
theorem PartsOut.sls {w : World} {base : Nat} {vo : Value} {ps : List (List UInt8)} (h : PartsOut w base vo ps) : ∃ A c vs, vo = .slice A ps.length c ∧ Sls w w.heap.size A ps.length c vs ps := by
  obtain ⟨vs, g, cap, data, h1, h2, h3⟩ := h
  obtain ⟨A, c, rfl, hs, _⟩ := own_sl h1
  refine ⟨A, c, vs, rfl, hs, rfl, fun i p hi => ?_⟩
  obtain ⟨off, ci, e, hc1, hc2, hp⟩ := h3 i p hi
  refine ⟨_, ci, e, ⟨by simp, hc1, hc2, fun hpos => ⟨_, rfl, (h2.lt g rfl).2, fun j u hu => ?_⟩⟩⟩
  have hj : j < p.length := by
    have := (List.getElem?_eq_some_iff.1 hu).1
    simpa using this
  have hcell := h2.cells (g := g) rfl (off + j) u (by
    unfold bvs at hu ⊢
    rw [List.getElem?_map] at hu ⊢
    rw [hp, List.getElem?_take, if_pos hj, List.getElem?_drop] at hu
    exact hu)
  have e2 : (⟨g, off, none⟩ : Addr).add j = (⟨g, 0, none⟩ : Addr).add (off + j) := by
    unfold Addr.add
    by_cases hj0 : j = 0
    · subst hj0
      by_cases ho : off = 0
      · simp [ho]
      · simp [ho]
    · simp [hj0]
  rw [e2]
  exact hcell

/-- the first k parts as values -/
def partVals (g : Nat) (ls : List Nat) (k : Nat) : List Value := (List.range k).map fun i => .slice (some ⟨g, (ls.take i).sum, none⟩) (ls[i]?.getD 0) (ls[i]?.getD 0)
theorem partVals_succ (g : Nat) (ls : List Nat) (k n : Nat) (h : ls[k]? = some n) : partVals g ls (k + 1) = partVals g ls k ++ [.slice (some ⟨g, (ls.take k).sum, none⟩) n n] := by
  simp [partVals, List.range_succ, h]
/-- what reading the parts comes to -/
def PartsIs (w : World) (R : Sum Nat (List (List UInt8))) (e : Ending) (w' : World) : Prop :=
  Below w.heap.size w w' ∧ ((∃ er : Nat, R = .inl er ∧ e = raise er) ∨ (∃ ps vo, R = .inr ps ∧ e = .returned vo ∧ PartsOut w' w.heap.size vo ps))

end Go.Proofs.YtmiipkaobloedaaGreat
namespace Go.Proofs.YtmiipkaobloedaaGreat
open Go.RowKit
/-- the post of a deferred function, its caller's frames fixed -/
def defPost (P : Program) (fn : Func) (c₀ : Frame) (cs cs' : List Frame) (R : Ending → FrameMode → World → Prop) (e : Exit) (a : Act) (w : World) : Prop := bodyPostS P fn c₀ cs R e a cs' w

theorem assert_errno (er : Int) (w : World) : (Instr.typeAssert (.iface 26 (.int .i64 er)) 20 26 true).run Tryz.prog w = .ok (.tuple #[.int .i64 er, .bool true]) w := by kernel_rfl

/-- what Decode comes to -/
def DecIs (w : World) (R : Sum Nat (Nat × Bool × Bool × List (List UInt8))) (e : Ending) (w' : World) : Prop :=
  Below w.heap.size w w' ∧
  ((∃ er : Nat, R = .inl er ∧ e = .returned (.tuple #[.agg #[.int .i64 0, .bool false, .bool false, .slice none 0 0], .int .i64 er])) ∨
   (∃ (sn : Nat) (s en : Bool) (ps : List (List UInt8)) (vo : Value), R = .inr (sn, s, en, ps) ∧ e = .returned (.tuple #[.agg #[.int .i64 sn, .bool s, .bool en, vo], .int .i64 0]) ∧ PartsOut w' w.heap.size vo ps))

end Go.Proofs.YtmiipkaobloedaaGreat
namespace Go.Proofs.YtmiipkaobloedaaGreat
open Go.RowKit

end Go.Proofs.YtmiipkaobloedaaGreat
