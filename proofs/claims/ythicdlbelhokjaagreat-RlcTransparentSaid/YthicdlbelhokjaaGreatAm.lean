/- law38: RlcTransparent: the entity and the reference's queue beside each other. -/
import Derived.Test.YthicdlbelhokjaaGreatAl
namespace Go.Proofs.YthicdlbelhokjaaGreat
open Go.RowKit

/-- the entity holds se, the queue sr -/
structure RMem (w : World) (cap g t q : Nat) (v : Value) (vs : List Value) (se : List (List UInt8)) (u : Value) (us : List Value) (sr : List (List UInt8)) (W : World) : Prop where
  ent : Ent W w.heap.size g t v vs se cap
  rf : Ref W w.heap.size q u us sr cap
  ap : ∀ k, qBlock v = some k → qBlock u ≠ some k
  gt : g ≠ t
  gb : w.heap.size ≤ g
  tb : w.heap.size ≤ t
  qb : w.heap.size ≤ q
  bel : Below w.heap.size w W
section
variable {w : World} {cap g t q : Nat} {v : Value} {vs : List Value} {se : List (List UInt8)} {u : Value} {us : List Value} {sr : List (List UInt8)} {W W' : World}
theorem RMem.more (h : RMem w cap g t q v vs se u us sr W) (hb : Below W.heap.size W W') : RMem w cap g t q v vs se u us sr W' :=
  ⟨h.ent.below hb (Nat.le_refl _), h.rf.below hb (Nat.le_refl _), h.ap, h.gt, h.gb, h.tb, h.qb, h.bel.trans (hb.mono h.bel.size)⟩
theorem RMem.drew (h : RMem w cap g t q v vs se u us sr W) : RMem w cap g t q v vs se u us sr W.drew := h.more ((Below.refl _ _).drew)
theorem RMem.drewn (h : RMem w cap g t q v vs se u us sr W) (hd : Drew W W') : RMem w cap g t q v vs se u us sr W' := h.more (hd.below _)
/-- blocks of other types are other blocks -/
theorem RMem.tq (h : RMem w cap g t q v vs se u us sr W) : t ≠ q ∧ g ≠ q := by
  constructor
  · rintro rfl
    have h1 := h.ent.blk
    have h2 := h.rf.blk
    unfold Blk at h1 h2
    rw [h1] at h2
    cases h2
  · rintro rfl
    have h1 := h.ent.ent
    have h2 := h.rf.blk
    unfold Blk at h1 h2
    rw [h1] at h2
    cases h2
/-- the entity's calls -/
theorem RMem.turnE (h : RMem w cap g t q v vs se u us sr W) {se' : List (List UInt8)} {v' : Value} {vs' : List Value} (hs : Ent W' w.heap.size g t v' vs' se' cap) (hk : Kept (MQ t v) W W') (hq : ∀ k, qBlock v' = some k → qBlock v = some k ∨ W.heap.size ≤ k) :
    RMem w cap g t q v' vs' se' u us sr W' := by
  have hb : Below w.heap.size W W' := hk.below (by
    rintro k o (rfl | e)
    · exact h.tb
    · exact (h.ent.row.lt e).1) h.bel.size
  refine ⟨hs, ⟨h.rf.blk.kept hk ?_, h.rf.row.keptM hk ?_, fun i p hi => let ⟨A, c, e, hs⟩ := h.rf.each i p hi; ⟨A, c, e, hs.below hb⟩⟩, fun k hk1 hk2 => ?_, h.gt, h.gb, h.tb, h.qb, h.bel.trans hb⟩
  · rintro (e | e)
    · exact h.tq.1 e.symm
    · have h1 := h.ent.row.isRow e h.rf.blk
      exact isRow_ne h1 ⟨_, _, rfl⟩ (by decide : (51 : TypeId) ≠ 50)
  · intro k o hu ho
    rintro (e | e)
    · subst e
      exact isRow_ne (h.rf.row.isRow hu ho) (h.ent.blk.isRow ho) (by decide)
    · exact h.ap k e hu
  · rcases hq k hk1 with e | e
    · exact h.ap k e hk2
    · have := (h.rf.row.lt hk2).2
      omega
/-- the queue's calls -/
theorem RMem.turnR (h : RMem w cap g t q v vs se u us sr W) {sr' : List (List UInt8)} {u' : Value} {us' : List Value} (hb' : Blk W' q 50 #[.int .i64 cap, u']) (hr' : OwnQ W' w.heap.size 51 u' sr'.length us') (he' : ∀ (i : Nat) (p : List UInt8), sr'[i]? = some p → ∃ A c, us'[i]? = some (.slice A p.length c) ∧ Sl w w.heap.size A p.length c (bvs p))
    (hk : Kept (MQ q u) W W') (hq : ∀ k, qBlock u' = some k → qBlock u = some k ∨ W.heap.size ≤ k) : RMem w cap g t q v vs se u' us' sr' W' := by
  have hb : Below w.heap.size W W' := hk.below (by
    rintro k o (rfl | e)
    · exact h.qb
    · exact (h.rf.row.lt e).1) h.bel.size
  have n67 : ¬ MQ q u g (.cells #[.int .i64 1, .iface 108 (.pointer (some ⟨t, 0, none⟩)), .pointer none] 67 (0, 0)) := by
    rintro (e | e)
    · exact h.tq.2 e
    · exact isRow_ne (h.rf.row.isRow e h.ent.ent) ⟨_, _, rfl⟩ (by decide : (51 : TypeId) ≠ 67)
  have n112 : ¬ MQ q u t (.cells #[v, .int .i64 cap] 112 (0, 0)) := by
    rintro (e | e)
    · exact h.tq.1 e
    · exact isRow_ne (h.rf.row.isRow e h.ent.blk) ⟨_, _, rfl⟩ (by decide : (51 : TypeId) ≠ 112)
  refine ⟨⟨h.ent.ent.kept hk n67, h.ent.blk.kept hk n112, h.ent.row.keptM hk ?_, fun i p hi => ?_⟩, ⟨hb', hr', fun i p hi => let ⟨A, c, e, hs⟩ := he' i p hi; ⟨A, c, e, hs.below (h.bel.trans hb)⟩⟩, fun k hk1 hk2 => ?_, h.gt, h.gb, h.tb, h.qb, h.bel.trans hb⟩
  · intro k o hv ho
    rintro (e | e)
    · subst e
      exact isRow_ne (h.ent.row.isRow hv ho) (h.rf.blk.isRow ho) (by decide)
    · exact h.ap k hv e
  · obtain ⟨A, c, e, ho⟩ := h.ent.each i p hi
    refine ⟨A, c, e, own_keptB ho hk fun k o hb1 hh hr => ?_⟩
    rintro (e1 | e1)
    · subst e1
      exact isRow_ne hr (h.rf.blk.isRow hh) (by decide)
    · exact isRow_ne hr (h.rf.row.isRow e1 hh) (by decide)
  · rcases hq k hk2 with e | e
    · exact h.ap k hk1 e
    · have := (h.ent.row.lt hk1).2
      omega
end
/-- lists in the caller's memory -/
def InCall (w : World) (us : List Value) (sr : List (List UInt8)) : Prop := ∀ (i : Nat) (p : List UInt8), sr[i]? = some p → ∃ A c, us[i]? = some (.slice A p.length c) ∧ Sl w w.heap.size A p.length c (bvs p)
theorem InCall.snoc {w : World} {v7 : List Value} {sd : List (List UInt8)} {A : Option Addr} {c : Nat} {p : List UInt8} (h : InCall w v7 sd) (hl : v7.length = sd.length) (hs : Sl w w.heap.size A p.length c (bvs p)) : InCall w (v7 ++ [.slice A p.length c]) (sd ++ [p]) := by
  intro i q hi
  rcases Nat.lt_or_ge i sd.length with hlt | hge
  · rw [List.getElem?_append_left hlt] at hi
    obtain ⟨A', c', e, ho⟩ := h i q hi
    exact ⟨A', c', by rw [List.getElem?_append_left (by omega)]; exact e, ho⟩
  · have hi0 : i = sd.length := by
      have := (List.getElem?_eq_some_iff.1 hi).1
      simp at this
      omega
    subst hi0
    simp at hi
    subst hi
    exact ⟨A, c, by rw [← hl]; simp, hs⟩
theorem InCall.tail {w : World} {x : Value} {us : List Value} {p : List UInt8} {sr : List (List UInt8)} (h : InCall w (x :: us) (p :: sr)) : InCall w us sr := fun i r hi => by simpa using h (i + 1) r (by simpa using hi)
end Go.Proofs.YthicdlbelhokjaaGreat
