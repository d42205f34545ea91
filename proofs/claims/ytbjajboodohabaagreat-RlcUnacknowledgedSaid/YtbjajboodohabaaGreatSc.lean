/- umrecv: the receiver's memory. -/
import Derived.Test.YtbjajboodohabaaGreatSa
import Derived.Test.YtbjajboodohabaaGreatSb
import Derived.Test.YtbjajboodohabaaGreatDa
import Derived.Test.YtbjajboodohabaaGreatJ9
namespace Go.Proofs.YtbjajboodohabaaGreat
open Go.RowKit

theorem undMap : Tryz.prog.underlying 69 = some (.map 3 80) := by kernel_rfl
theorem undKey : Tryz.prog.underlying 3 = some (.int .i64) := by kernel_rfl
/-- how a PDU lies -/
def pdv (p : Pd) (vo : Value) : Value := .agg #[.int .i64 p.sn, .bool p.s, .bool p.en, vo]
/-- the map of the stored PDUs -/
def PdMap (w : World) (lo : Nat) (hi : Nat → Prop) (M n : Nat) (m : Nat → Option Pd) : Prop :=
  ∃ F, MapIs Tryz.prog 3 w M n F ∧ ∀ k, (m k = none → F k = none) ∧ ∀ p, m k = some p → ∃ vo, F k = some (pdv p vo) ∧ PartsOut w lo vo p.ps ∧ ∀ j, vo.ownBlock = some j → hi j
/-- the receiver's cells -/
def rcv (vb : Value) (M : Nat) (st : Rs) : Array Value :=
  #[vb, .bool st.sm, .int .i64 st.last, .int .i64 st.dur, .map (some M), .int .i64 st.next, .int .i64 st.high, .bool st.ro, .int .i64 st.trig, .int .i64 st.exp, .int .i64 st.now]
/-- the receiver's memory: its cells, the open SDU, the map; what they lead to lies from lo on -/
structure Rcv (w : World) (lo : Nat) (hi : Nat → Prop) (g M n : Nat) (vb : Value) (st : Rs) : Prop where
  blk : Blk w g 73 (rcv vb M st)
  row : w.ownsRow lo 5 1 vb st.b.length (bvs st.b)
  mp : PdMap w lo hi M n st.m
  hg : g < lo
  hM : M < lo
  ne : g ≠ M
  hlo : lo ≤ w.heap.size
  hhi : ∀ j, hi j → j < w.heap.size
/-- what a receiver's calls may write -/
def MR (g M : Nat) (k : Nat) (_ : Obj) : Prop := k = g ∨ k = M
section
variable {w w' : World} {lo : Nat} {hi : Nat → Prop} {g M n : Nat} {vb : Value} {st : Rs}
theorem own_from {base : Nat} {e : TypeId} {v : Value} {k : Nat} {xs : List Value} (h : w.ownsRow base e 1 v k xs) (hk : ∀ j o, base ≤ j → w.heap[j]? = some o → w'.heap[j]? = some o) : w'.ownsRow base e 1 v k xs := by
  rcases h.2 with ⟨rfl, h0⟩ | ⟨g', cap, cur, rfl, h1, h2, h3⟩
  · exact ⟨h.1, .inl ⟨rfl, h0⟩⟩
  · exact ⟨h.1, .inr ⟨g', cap, cur, rfl, h1, hk _ _ h1 h2, h3⟩⟩
theorem PdMap.kept {m : Nat → Option Pd} (h : PdMap w lo hi M n m) (hk : ∀ j o, lo ≤ j → w.heap[j]? = some o → w'.heap[j]? = some o) (hM : w'.heap[M]? = w.heap[M]?) : PdMap w' lo hi M n m := by
  obtain ⟨F, h1, h2⟩ := h
  exact ⟨F, h1.same hM, fun k => ⟨(h2 k).1, fun p hp => let ⟨vo, e, ho, hj⟩ := (h2 k).2 p hp; ⟨vo, e, ho.kept hk, hj⟩⟩⟩
theorem PdMap.mono {m : Nat → Option Pd} (h : PdMap w lo hi M n m) {n' : Nat} (hn : n ≤ n') : PdMap w lo hi M n' m := let ⟨F, h1, h2⟩ := h; ⟨F, h1.mono hn, h2⟩
/-- nothing that was there turns -/
theorem Rcv.below (h : Rcv w lo hi g M n vb st) (hb : Below w.heap.size w w') : Rcv w' lo hi g M n vb st :=
  have hk : ∀ j o, w.heap[j]? = some o → w'.heap[j]? = some o := fun j _ hj => (hb.block j (lt_of_heap hj)).trans hj
  ⟨h.blk.below hb h.blk.lt, own_from h.row (fun j o _ hj => hk j o hj), h.mp.kept (fun j o _ hj => hk j o hj) (hb.block M (Nat.lt_of_lt_of_le h.hM h.hlo)), h.hg, h.hM, h.ne, Nat.le_trans h.hlo hb.size, fun j hj => Nat.lt_of_lt_of_le (h.hhi j hj) hb.size⟩
theorem Rcv.alloc (h : Rcv w lo hi g M n vb st) (o : Obj) : Rcv (w.alloc o) lo hi g M n vb st := h.below ((Below.refl _ w).alloc (Nat.le_refl _) o)
theorem Rcv.drew (h : Rcv w lo hi g M n vb st) : Rcv w.drew lo hi g M n vb st := h.below ((Below.refl _ w).drew)
theorem Rcv.drewN (h : Rcv w lo hi g M n vb st) (k : Nat) : Rcv (w.drewN k) lo hi g M n vb st := h.below ((Below.refl _ w).drewN k)
theorem Rcv.mono (h : Rcv w lo hi g M n vb st) {n' : Nat} (hn : n ≤ n') : Rcv w lo hi g M n' vb st := ⟨h.blk, h.row, h.mp.mono hn, h.hg, h.hM, h.ne, h.hlo, h.hhi⟩
/-- a cell of the receiver is written: what is asked of the new state -/
theorem Rcv.put (h : Rcv w lo hi g M n vb st) (i : Nat) (u : Value) {vb' : Value} {st' : Rs} (he : (rcv vb M st).setIfInBounds i u = rcv vb' M st') (hm : st'.m = st.m)
    (hrow : w.ownsRow lo 5 1 vb' st'.b.length (bvs st'.b)) : Rcv (w.setCell ⟨g, i, none⟩ u) lo hi g M n vb' st' := by
  have hk : ∀ j o, lo ≤ j → w.heap[j]? = some o → (w.setCell ⟨g, i, none⟩ u).heap[j]? = some o := fun j o hj ho => (Below.heap_setCell w ⟨g, i, none⟩ u j (fun e => by have := h.hg; have e2 : j = g := e; omega)).trans ho
  refine ⟨?_, own_from hrow hk, ?_, h.hg, h.hM, h.ne, by simpa [World.setCell] using h.hlo, fun j hj => by simpa [World.setCell] using h.hhi j hj⟩
  · have := h.blk.set_ i u
    rw [he] at this
    exact this
  · rw [hm]
    exact h.mp.kept hk (Below.heap_setCell w ⟨g, i, none⟩ u M (fun e => h.ne e.symm))
/-- the cells -/
theorem Rcv.cells (h : Rcv w lo hi g M n vb st) : w.cell? ⟨g, 0, none⟩ = some vb ∧ w.cell? ⟨g, 1, none⟩ = some (.bool st.sm) ∧ w.cell? ⟨g, 2, none⟩ = some (.int .i64 st.last) ∧ w.cell? ⟨g, 3, none⟩ = some (.int .i64 st.dur) ∧ w.cell? ⟨g, 4, none⟩ = some (.map (some M)) ∧
    w.cell? ⟨g, 5, none⟩ = some (.int .i64 st.next) ∧ w.cell? ⟨g, 6, none⟩ = some (.int .i64 st.high) ∧ w.cell? ⟨g, 7, none⟩ = some (.bool st.ro) ∧ w.cell? ⟨g, 8, none⟩ = some (.int .i64 st.trig) ∧ w.cell? ⟨g, 9, none⟩ = some (.int .i64 st.exp) ∧ w.cell? ⟨g, 10, none⟩ = some (.int .i64 st.now) :=
  ⟨h.blk.cell 0, h.blk.cell 1, h.blk.cell 2, h.blk.cell 3, h.blk.cell 4, h.blk.cell 5, h.blk.cell 6, h.blk.cell 7, h.blk.cell 8, h.blk.cell 9, h.blk.cell 10⟩
end
/-- SDUs that are returned: a row of slices from base on, the bytes from lo on -/
def OutIs (w : World) (base lo : Nat) (v : Value) (outs : List (List UInt8)) : Prop :=
  ∃ vs, w.ownsRow base 40 1 v outs.length vs ∧ ∀ (i : Nat) (q : List UInt8), outs[i]? = some q → ∃ vi, vs[i]? = some vi ∧ w.ownsRow lo 5 1 vi q.length (bvs q)
section
variable {w w' : World} {base lo g M : Nat} {v : Value} {outs : List (List UInt8)}
theorem OutIs.nil (w : World) (base lo : Nat) : OutIs w base lo (.slice none 0 0) [] := ⟨[], World.ownsRow_nil _ _ _ _, fun i q h => by simp at h⟩
theorem OutIs.kept (h : OutIs w base lo v outs) (hbl : lo ≤ base) (hk : ∀ j o, lo ≤ j → w.heap[j]? = some o → w'.heap[j]? = some o) : OutIs w' base lo v outs := by
  obtain ⟨vs, h1, h2⟩ := h
  exact ⟨vs, own_from h1 (fun j o hj => hk j o (Nat.le_trans hbl hj)), fun i q hi => let ⟨vi, e, ho⟩ := h2 i q hi; ⟨vi, e, own_from ho hk⟩⟩
theorem OutIs.keptR (h : OutIs w base lo v outs) (hbl : lo ≤ base) (hk : Kept (MR g M) w w') (hg : g < lo) (hM : M < lo) : OutIs w' base lo v outs :=
  h.kept hbl fun j o hj ho => hk.same j o ho (by rintro (rfl | rfl) <;> omega)
theorem OutIs.base_ (h : OutIs w base lo v outs) {base' : Nat} (hb : base' ≤ base) : OutIs w base' lo v outs := let ⟨vs, h1, h2⟩ := h; ⟨vs, own_base h1 hb, h2⟩
end
end Go.Proofs.YtbjajboodohabaaGreat
