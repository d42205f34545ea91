/- law38: RlcTransparent: the calls of a round. -/
import Derived.Test.YthicdlbelhokjaaGreatAm
import Derived.Deep.CutBlock
namespace Go.Proofs.YthicdlbelhokjaaGreat
open Go.RowKit

/-- the two beside the step in memory -/
def RMx (w : World) (cap g t q : Nat) (v : Value) (vs : List Value) (se : List (List UInt8)) (u : Value) (us : List Value) (sr : List (List UInt8)) (xb : Nat) (X : Array Value) (W : World) : Prop := RMem w cap g t q v vs se u us sr W ∧ Blk W xb 53 X
section
variable {w : World} {cap g t q : Nat} {v : Value} {vs : List Value} {se : List (List UInt8)} {u : Value} {us : List Value} {sr : List (List UInt8)} {xb : Nat} {X : Array Value} {W W' : World}
theorem RMx.more (h : RMx w cap g t q v vs se u us sr xb X W) (hb : Below W.heap.size W W') : RMx w cap g t q v vs se u us sr xb X W' := ⟨h.1.more hb, h.2.below hb h.2.lt⟩
theorem RMx.drewn (h : RMx w cap g t q v vs se u us sr xb X W) (hd : Drew W W') : RMx w cap g t q v vs se u us sr xb X W' := h.more (hd.below _)
theorem RMx.turnE (h : RMx w cap g t q v vs se u us sr xb X W) {se' : List (List UInt8)} {v' : Value} {vs' : List Value} (hs : Ent W' w.heap.size g t v' vs' se' cap) (hk : Kept (MQ t v) W W') (hq : ∀ k, qBlock v' = some k → qBlock v = some k ∨ W.heap.size ≤ k) :
    RMx w cap g t q v' vs' se' u us sr xb X W' := by
  refine ⟨h.1.turnE hs hk hq, h.2.kept hk ?_⟩
  rintro (e | e)
  · subst e
    exact isRow_ne (h.2.isRow h.2) (h.1.ent.blk.isRow h.2) (by decide)
  · exact isRow_ne (h.1.ent.row.isRow e h.2) ⟨_, _, rfl⟩ (by decide : (51 : TypeId) ≠ 53)
theorem RMx.turnR (h : RMx w cap g t q v vs se u us sr xb X W) {sr' : List (List UInt8)} {u' : Value} {us' : List Value} (hb' : Blk W' q 50 #[.int .i64 cap, u']) (hr' : OwnQ W' w.heap.size 51 u' sr'.length us') (he' : InCall w us' sr')
    (hk : Kept (MQ q u) W W') (hq : ∀ k, qBlock u' = some k → qBlock u = some k ∨ W.heap.size ≤ k) : RMx w cap g t q v vs se u' us' sr' xb X W' := by
  refine ⟨h.1.turnR hb' hr' he' hk hq, h.2.kept hk ?_⟩
  rintro (e | e)
  · subst e
    exact isRow_ne (h.2.isRow h.2) (h.1.rf.blk.isRow h.2) (by decide)
  · exact isRow_ne (h.1.rf.row.isRow e h.2) ⟨_, _, rfl⟩ (by decide : (51 : TypeId) ≠ 53)

/-- a number comes, and the two as they were -/
def NumX (P : World → Prop) (x : Int) (e : Ending) (w' : World) : Prop := e = .returned (.int .i64 x) ∧ P w'
theorem c17_bad (h : RMx w cap g t q v vs se u us sr xb X W) (A : Option Addr) (n c : Nat) (hn : n = 0 ∨ 9000 < n) (hnm : n ≤ c) (hcm : c ≤ 9223372036854775807) :
    Calls Tryz.prog 17 #[.pointer (some ⟨g, 0, none⟩), .slice A n c] W (NumX (RMx w cap g t q v vs se u us sr xb X) 2) :=
  (rsubmit_of _ g t v vs se cap A n c W h.1.ent 2 _ (tsubmit_size _ g t v vs se cap A n c W h.1.ent hn hnm hcm)).mono fun _ _ ⟨e, hd⟩ => ⟨e, h.drewn hd⟩
theorem c17_full (h : RMx w cap g t q v vs se u us sr xb X W) (A : Option Addr) (n c : Nat) (hn0 : 0 < n) (hn : n ≤ 9000) (hnm : n ≤ c) (hcm : c ≤ 9223372036854775807) (hf : cap ≤ se.length) :
    Calls Tryz.prog 17 #[.pointer (some ⟨g, 0, none⟩), .slice A n c] W (NumX (RMx w cap g t q v vs se u us sr xb X) 7) :=
  (rsubmit_of _ g t v vs se cap A n c W h.1.ent 7 _ (tsubmit_full _ g t v vs se cap A n c W h.1.ent hn0 hn hnm hcm hf)).mono fun _ _ ⟨e, hd⟩ => ⟨e, h.drewn hd⟩
theorem c17_ok (h : RMx w cap g t q v vs se u us sr xb X W) (A : Option Addr) (n c : Nat) (x : List UInt8) (hx : Sl w w.heap.size A n c (bvs x)) (hn0 : 0 < n) (hn : n ≤ 9000) (hf : se.length < cap) (hsd : se.length ≤ 1000000) :
    Calls Tryz.prog 17 #[.pointer (some ⟨g, 0, none⟩), .slice A n c] W (NumX (fun w' => ∃ v' vs', RMx w cap g t q v' vs' (se ++ [x]) u us sr xb X w') 0) :=
  (rsubmit_of _ g t v vs se cap A n c W h.1.ent 0 _ (tsubmit_ok _ g t v vs se cap A n c x W h.1.ent h.1.gt ((hx.below h.1.bel).more h.1.bel.size) hn0 hn hf hsd h.1.bel.size)).mono fun _ _ ⟨e, v', vs', h1, h2, h3⟩ => ⟨e, v', vs', h.turnE h1 h2 h3⟩
theorem c18_bad (h : RMx w cap g t q v vs se u us sr xb X W) (A : Option Addr) (n c : Nat) (hn : n = 0 ∨ 9000 < n) (hnm : n ≤ c) (hcm : c ≤ 9223372036854775807) :
    Calls Tryz.prog 18 #[.pointer (some ⟨q, 0, none⟩), .slice A n c] W (NumX (RMx w cap g t q v vs se u us sr xb X) 2) :=
  (qsubmit_bad q A n c W hn hnm hcm).mono fun _ _ ⟨e, hd⟩ => ⟨e, h.drewn hd⟩
theorem c18_full (h : RMx w cap g t q v vs se u us sr xb X W) (A : Option Addr) (n c : Nat) (hn0 : 0 < n) (hn : n ≤ 9000) (hnm : n ≤ c) (hcm : c ≤ 9223372036854775807) (hf : cap ≤ sr.length) :
    Calls Tryz.prog 18 #[.pointer (some ⟨q, 0, none⟩), .slice A n c] W (NumX (RMx w cap g t q v vs se u us sr xb X) 7) :=
  (qsubmit_full _ q u us sr cap A n c W h.1.rf h.1.bel.size hn0 hn hnm hcm hf).mono fun _ _ ⟨e, hd⟩ => ⟨e, h.drewn hd⟩
theorem c18_ok (h : RMx w cap g t q v vs se u us sr xb X W) (A : Option Addr) (n c : Nat) (x : List UInt8) (hi : InCall w us sr) (hx : Sl w w.heap.size A n c (bvs x)) (hn0 : 0 < n) (hn : n ≤ 9000) (hf : sr.length < cap) (hsd : sr.length ≤ 1000000) :
    Calls Tryz.prog 18 #[.pointer (some ⟨q, 0, none⟩), .slice A n c] W (NumX (fun w' => ∃ u', RMx w cap g t q v vs se u' (us ++ [.slice A n c]) (sr ++ [x]) xb X w') 0) := by
  have hxl : x.length = n := by simpa using hx.len
  subst hxl
  refine (qsubmit_ok _ q u us sr cap A x.length c W h.1.rf h.1.bel.size hn0 hn hx.cap hx.mx hf hsd).mono ?_
  rintro e w' ⟨rfl, u', h1, h2, h3, h4⟩
  exact ⟨rfl, u', h.turnR h1 (by simpa using h2) (hi.snoc (by simpa using h.1.rf.row.1) hx) h3 h4⟩
theorem cGrant_none (h : RMx w cap g t q v vs se u us sr xb X W) (now k : Int) (hn : se = [] ∨ ∃ x r, se = x :: r ∧ k < x.length) :
    Calls Tryz.prog 19 #[.pointer (some ⟨g, 0, none⟩), .int .i64 now, .int .i64 k] W (NoGrant W) := by
  rcases hn with rfl | ⟨x, r, rfl, hk⟩
  · exact rgrant_of _ g t v vs [] cap now k W h.1.ent _ noGrant_two (tgrant_empty _ g t v vs cap now k W h.1.ent)
  · exact rgrant_of _ g t v vs (x :: r) cap now k W h.1.ent _ noGrant_two (tgrant_long _ g t v vs cap x r now k W h.1.ent hk)
theorem c20_none (h : RMx w cap g t q v vs se u us sr xb X W) (k : Int) (hn : sr = [] ∨ ∃ x r, sr = x :: r ∧ k < x.length) :
    Calls Tryz.prog 20 #[.pointer (some ⟨q, 0, none⟩), .int .i64 k] W fun e w' => e = .returned (.slice none 0 0) ∧ W = w' := by
  rcases hn with rfl | ⟨x, r, rfl, hk⟩
  · exact qgrant_empty _ q u us cap k W h.1.rf h.1.bel.size
  · exact qgrant_long _ q u us cap x r k W h.1.rf h.1.bel.size hk
/-- the entity grants its first SDU -/
def GotE (w : World) (cap g t q : Nat) (u : Value) (us : List Value) (sr : List (List UInt8)) (xb : Nat) (X : Array Value) (x : List UInt8) (rest : List (List UInt8)) (e : Ending) (w' : World) : Prop :=
  ∃ A c v' vs', e = .returned (.tuple #[.slice A x.length c, .int .i64 0]) ∧ w'.ownsRow w.heap.size 5 1 (.slice A x.length c) x.length (bvs x) ∧ RMx w cap g t q v' vs' rest u us sr xb X w'
theorem cGrant_ok {x : List UInt8} {rest : List (List UInt8)} (h : RMx w cap g t q v vs (x :: rest) u us sr xb X W) (now k : Int) (hk : x.length ≤ k) :
    Calls Tryz.prog 19 #[.pointer (some ⟨g, 0, none⟩), .int .i64 now, .int .i64 k] W (GotE w cap g t q u us sr xb X x rest) := by
  refine (rgrant_of _ g t v vs (x :: rest) cap now k W h.1.ent _ oneGrant_two (tgrant_ok _ g t v vs cap x rest now k W h.1.ent h.1.gt hk)).mono ?_
  rintro e w' ⟨A, c, v', vs', rfl, ho, h1, h2, h3⟩
  exact ⟨A, c, v', vs', rfl, ho, h.turnE h1 (h3.mono fun k o e => .inl e) (fun k hk => .inl (by rw [← h2]; exact hk))⟩
/-- the queue grants its first SDU -/
def GotR (w : World) (cap g t q : Nat) (v : Value) (vs : List Value) (se : List (List UInt8)) (xb : Nat) (X : Array Value) (x : List UInt8) (rest : List (List UInt8)) (W : World) (e : Ending) (w' : World) : Prop :=
  ∃ A c u' us', e = .returned (.slice A x.length c) ∧ Sl w' w'.heap.size A x.length c (bvs x) ∧ RMx w cap g t q v vs se u' us' rest xb X w' ∧ InCall w us' rest ∧ (∀ A1 n1 c1 l, W.ownsRow w.heap.size 5 1 (.slice A1 n1 c1) n1 (bvs l) → w'.ownsRow w.heap.size 5 1 (.slice A1 n1 c1) n1 (bvs l))
theorem c20_ok {x : List UInt8} {rest : List (List UInt8)} (h : RMx w cap g t q v vs se u us (x :: rest) xb X W) (hi : InCall w us (x :: rest)) (k : Int) (hk : x.length ≤ k) :
    Calls Tryz.prog 20 #[.pointer (some ⟨q, 0, none⟩), .int .i64 k] W (GotR w cap g t q v vs se xb X x rest W) := by
  obtain ⟨v0, us', rfl⟩ : ∃ v0 us', us = v0 :: us' := by
    cases us with
    | nil => have := h.1.rf.row.1; simp at this
    | cons a b => exact ⟨a, b, rfl⟩
  refine (qgrant_ok _ q u (v0 :: us') cap x rest k W h.1.rf h.1.qb hk).mono ?_
  rintro e w' ⟨A, c, u', us'', rfl, hs, h1, h2, h3, h4⟩
  have hin : InCall w us'' rest := fun i p hp => by
    rw [h4 i]
    exact hi (i + 1) p (by simpa using hp)
  refine ⟨A, c, u', us'', rfl, hs.more (Nat.le_trans h.1.bel.size h3.size), h.turnR h1.blk h1.row hin (h3.mono fun k o e => .inl e) (fun k hk => .inl (by rw [← h2]; exact hk)), hin, fun A1 n1 c1 l ho => own_keptB ho h3 fun k o hb hh hr e => ?_⟩
  subst e
  exact isRow_ne hr (h.1.rf.blk.isRow hh) (by decide)
end
end Go.Proofs.YthicdlbelhokjaaGreat
