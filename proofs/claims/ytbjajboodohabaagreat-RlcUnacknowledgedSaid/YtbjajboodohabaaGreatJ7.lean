/- umsend: chunk: what a round does to the memory. -/
import Derived.Test.YtbjajboodohabaaGreatJ6
import Derived.Test.YtbjajboodohabaaGreatK0
import Derived.Test.YtbjajboodohabaaGreatRa
import Derived.Deep.DeepCutAuto
namespace Go.Proofs.YtbjajboodohabaaGreat
open Go.RowKit Go.Shelf
attribute [local go_sem] Oper.semAt_some

/-- parts that lie in rows of bytes of base -/
def PartsAt (w : World) (base : Nat) (vl : List Value) (qs : List (List UInt8)) : Prop :=
  ∀ (j : Nat) (q : List UInt8), qs[j]? = some q → ∃ (adx : Addr) (cx off : Nat) (x : List UInt8), vl[j]? = some (.slice (some (adx.add off)) q.length q.length) ∧ w.ownsRow base 5 1 (.slice (some adx) x.length cx) x.length (bvs x) ∧ q = (x.drop off).take q.length ∧ 1 ≤ q.length ∧ off + q.length ≤ x.length
theorem PartsAt.keep {w w' : World} {base : Nat} {vl : List Value} {qs : List (List UInt8)} (h : PartsAt w base vl qs) (hk : ∀ (v : Value) (n : Nat) (xs : List Value), w.ownsRow base 5 1 v n xs → w'.ownsRow base 5 1 v n xs) : PartsAt w' base vl qs :=
  fun j q hj => let ⟨adx, cx, off, x, h1, h2, h3⟩ := h j q hj; ⟨adx, cx, off, x, h1, hk _ _ _ h2, h3⟩
theorem PartsAt.each {w : World} {base : Nat} {vl : List Value} {qs : List (List UInt8)} (h : PartsAt w base vl qs) (j : Nat) (q : List UInt8) (hj : qs[j]? = some q) : ∃ A c, vl[j]? = some (.slice A q.length c) ∧ Sl w w.heap.size A q.length c (bvs q) := by
  obtain ⟨adx, cx, off, x, h1, h2, h3, h4, h5⟩ := h j q hj
  refine ⟨_, _, h1, ?_⟩
  have := take_sl (sent := off) (m := q.length) h2 h4 h5
  rw [← h3] at this
  exact this
theorem PartsAt.snoc {w : World} {base : Nat} {vl : List Value} {qs : List (List UInt8)} {adx : Addr} {cx off m : Nat} {x : List UInt8} (h : PartsAt w base vl qs) (hl : vl.length = qs.length) (h2 : w.ownsRow base 5 1 (.slice (some adx) x.length cx) x.length (bvs x)) (h4 : 1 ≤ m) (h5 : off + m ≤ x.length) :
    PartsAt w base (vl ++ [.slice (some (adx.add off)) m m]) (qs ++ [(x.drop off).take m]) := by
  have hm : ((x.drop off).take m).length = m := by rw [List.length_take, List.length_drop]; omega
  intro j r hj
  rcases Nat.lt_or_ge j qs.length with hlt | hge
  · rw [List.getElem?_append_left hlt] at hj
    obtain ⟨a, b, c, d, k1, k2⟩ := h j r hj
    exact ⟨a, b, c, d, by rw [List.getElem?_append_left (by omega)]; exact k1, k2⟩
  · have hj0 : j = qs.length := by
      have := (List.getElem?_eq_some_iff.1 hj).1
      simp at this
      omega
    subst hj0
    simp at hj
    subst hj
    exact ⟨adx, cx, off, x, by rw [← hl, hm]; simp, h2, by rw [hm], by omega, by omega⟩
/-- the length of the last part -/
def lastLen (qs : List (List UInt8)) : Nat := (qs.getLast?.getD []).length
theorem lastLen_snoc (qs : List (List UInt8)) (q : List UInt8) : lastLen (qs ++ [q]) = q.length := by simp [lastLen]
/-- what chunk gives -/
def ChunkOut (w : World) (base g : Nat) (v : Value) (cap next : Nat) (st : Bool) (R : List (List UInt8) × Bool × List (List UInt8) × Nat) (en : Ending) (w' : World) : Prop :=
  ∃ Ap cp vl v' vs', en = .returned (.agg #[.bool st, .bool R.2.1, .slice Ap R.1.length cp]) ∧ w'.ownsRow w.heap.size 40 1 (.slice Ap R.1.length cp) R.1.length vl ∧ PartsAt w' base vl R.1 ∧ Snd w' base g v' vs' R.2.2.1 R.2.2.2 cap next ∧ qBlock v' = qBlock v ∧ Kept (fun k _ => k = g) w w'
theorem ChunkOut.sls {w w' : World} {base : Nat} {Ap : Option Addr} {cp : Nat} {vl : List Value} {qs : List (List UInt8)} (h1 : w'.ownsRow w.heap.size 40 1 (.slice Ap qs.length cp) qs.length vl) (h2 : PartsAt w' base vl qs) : Sls w' w'.heap.size Ap qs.length cp vl qs :=
  ⟨own_sl' h1, rfl, fun i p hi => h2.each i p hi⟩

theorem OwnQ.keptM {M : Nat → Obj → Prop} {w w' : World} {base : Nat} {e : TypeId} {v : Value} {n : Nat} {xs : List Value} (h : OwnQ w base e v n xs) (hk : Kept M w w') (hq : ∀ k o, qBlock v = some k → w.heap[k]? = some o → ¬ M k o) : OwnQ w' base e v n xs :=
  h.keep fun g hg => by
    obtain ⟨cur, hh, _⟩ := h.row hg
    exact (hk.same g _ hh (hq g _ hg hh)).trans hh.symm
theorem Snd.keptM {M : Nat → Obj → Prop} {w w' : World} {base g : Nat} {v : Value} {vs : List Value} {sdus : List (List UInt8)} {sent cap next : Nat} (h : Snd w base g v vs sdus sent cap next) (hk : Kept M w w')
    (hg : ∀ cs, ¬ M g (.cells cs 68 (0, 0))) (hq : ∀ k o, qBlock v = some k → w.heap[k]? = some o → ¬ M k o) (h5 : ∀ k o, IsRow o 5 → ¬ M k o) : Snd w' base g v vs sdus sent cap next :=
  ⟨h.blk.kept hk (hg _), h.row.keptM hk hq, fun i p hi => let ⟨A, c, e, ho⟩ := h.each i p hi; ⟨A, c, e, own_kept ho hk fun k o hr _ => h5 k o hr⟩⟩

/-- the memory at a round's head -/
structure ChkAt (w : World) (base g cap next : Nat) (st : Bool) (q0 : Option Nat) (sr : List (List UInt8)) (tr : Nat) (qs : List (List UInt8)) (e : Bool) (Ap : Option Addr) (cp : Nat) (vl : List Value) (v : Value) (vs : List Value) (wr : World) : Prop where
  blk : Blk wr (w.heap.size + 1) 76 #[.bool st, .bool e, .slice Ap qs.length cp]
  res : Blk wr w.heap.size 76 #[.bool false, .bool false, .slice none 0 0]
  row : wr.ownsRow w.heap.size 40 1 (.slice Ap qs.length cp) qs.length vl
  parts : PartsAt wr base vl qs
  snd : Snd wr base g v vs sr tr cap next
  qb : qBlock v = q0
  kept : Kept (fun k _ => k = g) w wr
/-- what may be written when a part is appended -/
def MChk (gB : Nat) (b : Option Nat) (k : Nat) (o : Obj) : Prop := (k = gB ∧ IsRow o 76) ∨ (b = some k ∧ IsRow o 40)
theorem mchk_5 {gB : Nat} {b : Option Nat} (k : Nat) (o : Obj) (h : IsRow o 5) : ¬ MChk gB b k o := by
  obtain ⟨cs, fr, rfl⟩ := h
  rintro (⟨_, cs', fr', e⟩ | ⟨_, cs', fr', e⟩) <;> cases e
theorem mchk_175 {gB : Nat} {b : Option Nat} (k : Nat) (cs : Array Value) : ¬ MChk gB b k (.cells cs 68 (0, 0)) := by
  rintro (⟨_, cs', fr', e⟩ | ⟨_, cs', fr', e⟩) <;> cases e

theorem ChkAt.push {w : World} {base g cap next : Nat} {st : Bool} {q0 : Option Nat} {sr : List (List UInt8)} {tr : Nat} {qs : List (List UInt8)} {e : Bool} {Ap : Option Addr} {cp : Nat} {vl : List Value} {v : Value} {vs : List Value} {wr : World}
    (h : ChkAt w base g cap next st q0 sr tr qs e Ap cp vl v vs wr) (hgl : g < w.heap.size) (hq0 : ∀ k, q0 = some k → k < w.heap.size)
    {w1 w2 : World} {adx : Addr} {cx m tr' c2 : Nat} {ends : Bool} {x : List UInt8} {sr' : List (List UInt8)} {v' : Value} {vs' : List Value} {A2 : Option Addr}
    (hx : w1.ownsRow base 5 1 (.slice (some adx) x.length cx) x.length (bvs x)) (hs : Snd w1 base g v' vs' sr' tr' cap next) (hqv : qBlock v' = qBlock v) (hk : Kept (fun k _ => k = g) wr w1) (hm1 : 1 ≤ m) (hm : tr + m ≤ x.length)
    (hown2 : w2.ownsRow w.heap.size 40 1 (.slice A2 (qs.length + 1) c2) (qs.length + 1) (vl ++ [.slice (some (adx.add tr)) m m])) (hgrow : (w1.alloc (.cells #[.slice (some (adx.add tr)) m m] 40)).grownBy w2 (Value.slice Ap qs.length cp).ownBlock) :
    ChkAt w base g cap next st q0 sr' tr' (qs ++ [(x.drop tr).take m]) ends A2 c2 (vl ++ [.slice (some (adx.add tr)) m m]) v' vs' ((w2.setCell ⟨w.heap.size + 1, 2, none⟩ (.slice A2 (qs.length + 1) c2)).setCell ⟨w.heap.size + 1, 1, none⟩ (.bool ends)) := by
  have b1 := h.blk.kept hk (by omega)
  have r1 := h.res.kept hk (by omega)
  have row1 : w1.ownsRow w.heap.size 40 1 (.slice Ap qs.length cp) qs.length vl := own_kept h.row hk fun k o hr hb e => by
    obtain ⟨_, _, _, hb2⟩ := own_isRow h.row hb
    omega
  have rowA := row1.alloc (.cells #[.slice (some (adx.add tr)) m m] 40)
  have b2 := (b1.alloc (.cells #[.slice (some (adx.add tr)) m m] 40)).grown hgrow (fun e => own_blk_ne rowA (b1.alloc _) (by decide) e.symm)
  have r2 := (r1.alloc (.cells #[.slice (some (adx.add tr)) m m] 40)).grown hgrow (fun e => own_blk_ne rowA (r1.alloc _) (by decide) e.symm)
  have b3 := (b2.set_ 2 (.slice A2 (qs.length + 1) c2)).set_ 1 (.bool ends)
  have b4 := b2.set_ 2 (.slice A2 (qs.length + 1) c2)
  simp at b3 b4
  have hkM : Kept (MChk (w.heap.size + 1) (Value.slice Ap qs.length cp).ownBlock) w1 ((w2.setCell ⟨w.heap.size + 1, 2, none⟩ (.slice A2 (qs.length + 1) c2)).setCell ⟨w.heap.size + 1, 1, none⟩ (.bool ends)) := by
    refine ((((Kept.refl _ w1).alloc _).grown hgrow (fun k hk o ho => .inr ⟨hk, ?_⟩)).setCell (p := ⟨w.heap.size + 1, 2, none⟩) (fun o ho => .inl ⟨rfl, ?_⟩) _).setCell (p := ⟨w.heap.size + 1, 1, none⟩) (fun o ho => .inl ⟨rfl, ?_⟩) _
    · obtain ⟨o', ho', hr', _⟩ := own_isRow row1 hk
      rw [ho] at ho'
      cases ho'
      exact hr'
    · unfold Blk at b1
      rw [b1] at ho
      cases ho
      exact ⟨_, _, rfl⟩
    · unfold Blk at b1
      rw [b1] at ho
      cases ho
      exact ⟨_, _, rfl⟩
  have keep5 : ∀ (v : Value) (n : Nat) (xs : List Value), w1.ownsRow base 5 1 v n xs → ((w2.setCell ⟨w.heap.size + 1, 2, none⟩ (.slice A2 (qs.length + 1) c2)).setCell ⟨w.heap.size + 1, 1, none⟩ (.bool ends)).ownsRow base 5 1 v n xs :=
    fun v n xs ho => own_kept ho hkM fun k o hr _ => mchk_5 k o hr
  have hp1 : PartsAt w1 base vl qs := h.parts.keep fun v n xs ho => own_kept ho hk fun k o hr hb e => by
    subst e
    exact own_blk_ne ho h.snd.blk (by decide) hb
  refine ⟨by simpa using b3, (r2.far (by simp) _).far (by simp) _, by simpa using own_store (i := 1) (own_store (i := 2) hown2 b2 (by decide) _) b4 (by decide) _, (hp1.keep keep5).snoc (by simpa using h.row.1) (keep5 _ _ _ hx) hm1 hm, ?_, by rw [hqv, h.qb], ?_⟩
  · refine hs.keptM hkM (mchk_175 g) (fun k o hkq ho => ?_) mchk_5
    rw [hqv, h.qb] at hkq
    have hkl := hq0 k hkq
    rintro (⟨e, _⟩ | ⟨e, _⟩)
    · omega
    · obtain ⟨_, _, _, hb2⟩ := own_isRow row1 e
      omega
  · refine (((h.kept.trans hk).alloc _).grown hgrow (fun k hk o ho => ?_) |>.setCell (p := ⟨w.heap.size + 1, 2, none⟩) (fun o ho => ?_) _).setCell (p := ⟨w.heap.size + 1, 1, none⟩) (fun o ho => ?_) _
    · obtain ⟨_, _, _, hb2⟩ := own_isRow row1 hk
      have := lt_of_heap ho
      omega
    · have : w.heap.size + 1 < w.heap.size := lt_of_heap ho
      omega
    · have : w.heap.size + 1 < w.heap.size := lt_of_heap ho
      omega

theorem ChkAt.out {w : World} {base g cap next : Nat} {st : Bool} {v0 : Value} {sr : List (List UInt8)} {tr : Nat} {qs : List (List UInt8)} {e : Bool} {Ap : Option Addr} {cp : Nat} {vl : List Value} {v : Value} {vs : List Value} {wr : World}
    (h : ChkAt w base g cap next st (qBlock v0) sr tr qs e Ap cp vl v vs wr) (hq0 : ∀ k, qBlock v0 = some k → k < w.heap.size) (u0 u1 u2 : Value) :
    ChunkOut w base g v0 cap next st (qs, e, sr, tr) (.returned (.agg #[.bool st, .bool e, .slice Ap qs.length cp])) (((wr.setCell ⟨w.heap.size, 0, none⟩ u0).setCell ⟨w.heap.size, 1, none⟩ u1).setCell ⟨w.heap.size, 2, none⟩ u2) := by
  have hr : ∀ o, wr.heap[w.heap.size]? = some o → IsRow o 76 := fun o ho => by
    have := h.res
    unfold Blk at this
    rw [this] at ho
    cases ho
    exact ⟨_, _, rfl⟩
  have hkM : Kept (fun k o => k = w.heap.size ∧ IsRow o 76) wr (((wr.setCell ⟨w.heap.size, 0, none⟩ u0).setCell ⟨w.heap.size, 1, none⟩ u1).setCell ⟨w.heap.size, 2, none⟩ u2) :=
    (((Kept.refl _ wr).setCell (p := ⟨w.heap.size, 0, none⟩) (fun o ho => ⟨rfl, hr o ho⟩) _).setCell (p := ⟨w.heap.size, 1, none⟩) (fun o ho => ⟨rfl, hr o ho⟩) _).setCell (p := ⟨w.heap.size, 2, none⟩) (fun o ho => ⟨rfl, hr o ho⟩) _
  have n5 : ∀ k o, IsRow o 5 → ¬ (k = w.heap.size ∧ IsRow o 76) := by
    rintro k o ⟨cs, fr, rfl⟩ ⟨_, cs', fr', e⟩
    cases e
  have n29 : ∀ k o, IsRow o 40 → ¬ (k = w.heap.size ∧ IsRow o 76) := by
    rintro k o ⟨cs, fr, rfl⟩ ⟨_, cs', fr', e⟩
    cases e
  refine ⟨Ap, cp, vl, v, vs, rfl, own_kept h.row hkM fun k o hr _ => n29 k o hr, h.parts.keep fun v n xs ho => own_kept ho hkM fun k o hr _ => n5 k o hr, h.snd.keptM hkM (fun cs => ?_) (fun k o hk ho => ?_) n5, h.qb, ?_⟩
  · rintro ⟨_, cs', fr', e⟩
    cases e
  · rintro ⟨e, _⟩
    have := hq0 k (by rw [← h.qb]; exact hk)
    omega
  · refine ((h.kept.setCell (p := ⟨w.heap.size, 0, none⟩) (fun o ho => ?_) _).setCell (p := ⟨w.heap.size, 1, none⟩) (fun o ho => ?_) _).setCell (p := ⟨w.heap.size, 2, none⟩) (fun o ho => ?_) _ <;>
    · have : w.heap.size < w.heap.size := lt_of_heap ho
      omega
end Go.Proofs.YtbjajboodohabaaGreat
