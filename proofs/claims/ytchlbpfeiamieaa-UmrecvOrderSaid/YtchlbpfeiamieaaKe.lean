/- law31: what the law's loops hold in memory. -/
import Derived.Test.YtchlbpfeiamieaaKd
import Derived.Test.YtchlbpfeiamieaaK1
namespace Go.Proofs.Ytchlbpfeiamieaa
open Go.RowKit Go.Shelf

theorem own_keptB {M : Nat → Obj → Prop} {w w' : World} {base : Nat} {e : TypeId} {n : Nat} {v : Value} {xs : List Value} (h : w.ownsRow base e 1 v n xs) (hk : Kept M w w') (hn : ∀ g o, v.ownBlock = some g → w.heap[g]? = some o → IsRow o e → ¬ M g o) : w'.ownsRow base e 1 v n xs := by
  rcases h.2 with ⟨rfl, h0⟩ | ⟨g, cap, cur, rfl, hb, hh, hr⟩
  · exact ⟨h.1, .inl ⟨rfl, h0⟩⟩
  · exact ⟨h.1, .inr ⟨g, cap, cur, rfl, hb, hk.same g _ hh (hn g _ (by simp [Value.ownBlock]) hh ⟨_, _, rfl⟩), hr⟩⟩
theorem isRow_ne {o : Obj} {a b : TypeId} (h : IsRow o a) (h' : IsRow o b) (hne : a ≠ b) : False := by
  obtain ⟨cs, fr, rfl⟩ := h
  obtain ⟨cs', fr', e⟩ := h'
  cases e
  exact hne rfl
theorem Blk.isRow {w : World} {g : Nat} {t : TypeId} {cs : Array Value} (h : Blk w g t cs) {o : Obj} (ho : w.heap[g]? = some o) : IsRow o t := by
  unfold Blk at h
  rw [h] at ho
  cases ho
  exact ⟨_, _, rfl⟩
theorem own_isRow' {w : World} {base : Nat} {e : TypeId} {n k : Nat} {v : Value} {xs : List Value} {o : Obj} (h : w.ownsRow base e 1 v n xs) (hk : v.ownBlock = some k) (ho : w.heap[k]? = some o) : IsRow o e := by
  obtain ⟨o', ho', hr, _⟩ := own_isRow h hk
  rw [ho] at ho'
  cases ho'
  exact hr
theorem OwnQ.isRow {w : World} {base : Nat} {e : TypeId} {n k : Nat} {v : Value} {xs : List Value} {o : Obj} (h : OwnQ w base e v n xs) (hk : qBlock v = some k) (ho : w.heap[k]? = some o) : IsRow o e := by
  obtain ⟨cur, hh, _⟩ := h.row hk
  rw [ho] at hh
  cases hh
  exact ⟨_, _, rfl⟩

/-- the memory between the calls -/
structure Mem (w : World) (cap next : Nat) (left : List (List UInt8)) (sent : Nat) (v : Value) (vs : List Value) (s7 : Value) (sd : List (List UInt8)) (v7 : List Value) (s8 : Value) (gt : List (List UInt8)) (v8 : List Value) (s9 : Value) (op : List UInt8) (wr : World) : Prop where
  snd : Snd wr w.heap.size w.heap.size v vs left sent cap next
  r7 : wr.ownsRow w.heap.size 29 1 s7 sd.length v7
  r8 : wr.ownsRow w.heap.size 29 1 s8 gt.length v8
  e8 : ∀ (i : Nat) (p : List UInt8), gt[i]? = some p → ∃ A c, v8[i]? = some (.slice A p.length c) ∧ wr.ownsRow w.heap.size 5 1 (.slice A p.length c) p.length (bvs p)
  r9 : wr.ownsRow w.heap.size 5 1 s9 op.length (bvs op)
  q7 : ∀ k, qBlock v = some k → s7.ownBlock ≠ some k
  q8 : ∀ k, qBlock v = some k → s8.ownBlock ≠ some k
  q78 : ∀ k, s7.ownBlock = some k → s8.ownBlock ≠ some k
  bel : Below w.heap.size w wr
section
variable {w : World} {cap next : Nat} {left : List (List UInt8)} {sent : Nat} {v : Value} {vs : List Value} {s7 : Value} {sd : List (List UInt8)} {v7 : List Value} {s8 : Value} {gt : List (List UInt8)} {v8 : List Value} {s9 : Value} {op : List UInt8} {wr w' : World}
theorem Mem.more (h : Mem w cap next left sent v vs s7 sd v7 s8 gt v8 s9 op wr) (hb : Below wr.heap.size wr w') : Mem w cap next left sent v vs s7 sd v7 s8 gt v8 s9 op w' :=
  ⟨h.snd.below hb (Nat.le_refl _), own_below h.r7 hb (Nat.le_refl _), own_below h.r8 hb (Nat.le_refl _), fun i p hi => let ⟨A, c, e, ho⟩ := h.e8 i p hi; ⟨A, c, e, own_below ho hb (Nat.le_refl _)⟩, own_below h.r9 hb (Nat.le_refl _), h.q7, h.q8, h.q78, h.bel.trans (hb.mono h.bel.size)⟩
theorem Mem.set9 (h : Mem w cap next left sent v vs s7 sd v7 s8 gt v8 s9 op wr) {s9' : Value} {op' : List UInt8} (h9 : wr.ownsRow w.heap.size 5 1 s9' op'.length (bvs op')) : Mem w cap next left sent v vs s7 sd v7 s8 gt v8 s9' op' wr :=
  ⟨h.snd, h.r7, h.r8, h.e8, h9, h.q7, h.q8, h.q78, h.bel⟩
/-- the transmitter's calls -/
theorem Mem.turn (h : Mem w cap next left sent v vs s7 sd v7 s8 gt v8 s9 op wr) {left' : List (List UInt8)} {sent' next' : Nat} {v' : Value} {vs' : List Value} (hs : Snd w' w.heap.size w.heap.size v' vs' left' sent' cap next') (hk : Kept (MQ w.heap.size v) wr w') (hq : ∀ k, qBlock v' = some k → qBlock v = some k ∨ wr.heap.size ≤ k) :
    Mem w cap next' left' sent' v' vs' s7 sd v7 s8 gt v8 s9 op w' := by
  have go29 : ∀ {s : Value} {n : Nat} {xs : List Value}, wr.ownsRow w.heap.size 29 1 s n xs → (∀ k, qBlock v = some k → s.ownBlock ≠ some k) → w'.ownsRow w.heap.size 29 1 s n xs := fun ho hn => own_keptB ho hk fun g o hg hh hr => by
    rintro (e | e)
    · subst e
      exact own_blk_ne ho h.snd.blk (by decide) hg
    · exact hn g e hg
  have go5 : ∀ {s : Value} {n : Nat} {xs : List Value}, wr.ownsRow w.heap.size 5 1 s n xs → w'.ownsRow w.heap.size 5 1 s n xs := fun ho => own_keptB ho hk fun g o hg hh hr => by
    rintro (e | e)
    · subst e
      exact own_blk_ne ho h.snd.blk (by decide) hg
    · exact isRow_ne hr (h.snd.row.isRow e hh) (by decide)
  refine ⟨hs, go29 h.r7 h.q7, go29 h.r8 h.q8, fun i p hi => let ⟨A, c, e, ho⟩ := h.e8 i p hi; ⟨A, c, e, go5 ho⟩, go5 h.r9, fun k hk1 hk2 => ?_, fun k hk1 hk2 => ?_, h.q78, h.bel.trans (hk.below ?_ h.bel.size)⟩
  · rcases hq k hk1 with e | e
    · exact h.q7 k e hk2
    · have := (h.r7.lt k hk2).2
      omega
  · rcases hq k hk1 with e | e
    · exact h.q8 k e hk2
    · have := (h.r8.lt k hk2).2
      omega
  · rintro k o (rfl | e)
    · exact Nat.le_refl _
    · exact (h.snd.row.lt e).1
/-- an SDU is noted -/
theorem Mem.push7 (h : Mem w cap next left sent v vs s7 sd v7 s8 gt v8 s9 op wr) {w2 : World} {o1 : Obj} {s7' u : Value} {p : List UInt8} (hown : w2.ownsRow w.heap.size 29 1 s7' (sd.length + 1) (v7 ++ [u])) (hg : (wr.alloc o1).grownBy w2 s7.ownBlock) (hb : s7'.ownBlock = s7.ownBlock ∨ s7'.ownBlock = some (wr.alloc o1).heap.size) :
    Mem w cap next left sent v vs s7' (sd ++ [p]) (v7 ++ [u]) s8 gt v8 s9 op w2 := by
  have h1 := h.more ((Below.refl wr.heap.size wr).alloc (Nat.le_refl _) o1)
  have hz : (wr.alloc o1).heap.size = wr.heap.size + 1 := by simp
  generalize wr.alloc o1 = W at *
  have hk : Kept (fun k o => s7.ownBlock = some k ∧ IsRow o 29) W w2 := (Kept.refl _ W).grown hg (fun k hk o ho => ⟨hk, own_isRow' h1.r7 hk ho⟩)
  have n5 : ∀ k o, IsRow o 5 → ¬ (s7.ownBlock = some k ∧ IsRow o 29) := fun k o hr ⟨_, hr'⟩ => isRow_ne hr hr' (by decide)
  have go5 : ∀ {s : Value} {n : Nat} {xs : List Value}, W.ownsRow w.heap.size 5 1 s n xs → w2.ownsRow w.heap.size 5 1 s n xs := fun ho => own_keptB ho hk fun g o _ _ hr => n5 g o hr
  refine ⟨h1.snd.keptM hk (fun cs ⟨_, _, _, e⟩ => by cases e) (fun k o hq _ ⟨e, _⟩ => h1.q7 k hq e) n5, by simpa using hown, own_keptB h1.r8 hk fun g o hb _ _ ⟨e, _⟩ => h1.q78 g e hb, fun i p hi => let ⟨A, c, e, ho⟩ := h1.e8 i p hi; ⟨A, c, e, go5 ho⟩, go5 h1.r9, fun k hq hk2 => ?_, h1.q8, fun k hk2 hk8 => ?_, h1.bel.grown hg h1.bel.size (fun g hg => (h1.r7.lt g hg).1)⟩
  · rcases hb with e | e
    · exact h1.q7 k hq (e ▸ hk2)
    · rw [e] at hk2
      cases hk2
      have := (h1.snd.row.lt hq).2
      omega
  · rcases hb with e | e
    · exact h1.q78 k (e ▸ hk2) hk8
    · rw [e] at hk2
      cases hk2
      have := (h1.r8.lt _ hk8).2
      omega
/-- an SDU is complete -/
theorem Mem.push8 (h : Mem w cap next left sent v vs s7 sd v7 s8 gt v8 s9 op wr) {w2 : World} {o1 : Obj} {s8' : Value} {A : Option Addr} {c : Nat} (h9 : s9 = .slice A op.length c) (hown : w2.ownsRow w.heap.size 29 1 s8' (gt.length + 1) (v8 ++ [s9])) (hg : (wr.alloc o1).grownBy w2 s8.ownBlock) (hb : s8'.ownBlock = s8.ownBlock ∨ s8'.ownBlock = some (wr.alloc o1).heap.size) :
    Mem w cap next left sent v vs s7 sd v7 s8' (gt ++ [op]) (v8 ++ [s9]) (.slice none 0 0) [] w2 := by
  have h1 := h.more ((Below.refl wr.heap.size wr).alloc (Nat.le_refl _) o1)
  generalize wr.alloc o1 = W at *
  have hk : Kept (fun k o => s8.ownBlock = some k ∧ IsRow o 29) W w2 := (Kept.refl _ W).grown hg (fun k hk o ho => ⟨hk, own_isRow' h1.r8 hk ho⟩)
  have n5 : ∀ k o, IsRow o 5 → ¬ (s8.ownBlock = some k ∧ IsRow o 29) := fun k o hr ⟨_, hr'⟩ => isRow_ne hr hr' (by decide)
  have go5 : ∀ {s : Value} {n : Nat} {xs : List Value}, W.ownsRow w.heap.size 5 1 s n xs → w2.ownsRow w.heap.size 5 1 s n xs := fun ho => own_keptB ho hk fun g o _ _ hr => n5 g o hr
  refine ⟨h1.snd.keptM hk (fun cs ⟨_, _, _, e⟩ => by cases e) (fun k o hq _ ⟨e, _⟩ => h1.q8 k hq e) n5, own_keptB h1.r7 hk fun g o hb _ _ ⟨e, _⟩ => h1.q78 g hb e, by simpa using hown, fun i p hi => ?_, World.ownsRow_nil _ _ _ _, h1.q7, fun k hq hk2 => ?_, fun k hk7 hk2 => ?_, h1.bel.grown hg h1.bel.size (fun g hg => (h1.r8.lt g hg).1)⟩
  · have hl : v8.length = gt.length := by simpa using h1.r8.1
    rcases Nat.lt_or_ge i gt.length with hlt | hge
    · rw [List.getElem?_append_left hlt] at hi
      obtain ⟨A', c', e, ho⟩ := h1.e8 i p hi
      exact ⟨A', c', by rw [List.getElem?_append_left (by omega)]; exact e, go5 ho⟩
    · have hi0 : i = gt.length := by
        have := (List.getElem?_eq_some_iff.1 hi).1
        simp at this
        omega
      subst hi0
      simp at hi
      subst hi
      refine ⟨A, c, by rw [← hl, h9]; simp, ?_⟩
      have := go5 h1.r9
      rw [h9] at this
      exact this
  · rcases hb with e | e
    · exact h1.q8 k hq (e ▸ hk2)
    · rw [e] at hk2
      cases hk2
      have := (h1.snd.row.lt hq).2
      omega
  · rcases hb with e | e
    · exact h1.q78 k hk7 (e ▸ hk2)
    · rw [e] at hk2
      cases hk2
      have := (h1.r7.lt _ hk7).2
      omega
end
/-- the parts of a decoded PDU, whose row is not got's -/
def DecAt (base : Nat) (vo : Value) (ps : List (List UInt8)) (s8 : Value) (wr : World) : Prop := PartsOut wr base vo ps ∧ ∀ k, vo.ownBlock = some k → s8.ownBlock ≠ some k
theorem PartsOut.keptB {M : Nat → Obj → Prop} {w w' : World} {base : Nat} {vo : Value} {ps : List (List UInt8)} (h : PartsOut w base vo ps) (hk : Kept M w w') (h29 : ∀ k o, vo.ownBlock = some k → w.heap[k]? = some o → ¬ M k o) (h5 : ∀ k o, w.heap[k]? = some o → IsRow o 5 → ¬ M k o) : PartsOut w' base vo ps := by
  obtain ⟨vs, g, cap, data, h1, h2, h3⟩ := h
  exact ⟨vs, g, cap, data, own_keptB h1 hk fun g o hg hh _ => h29 g o hg hh, own_keptB h2 hk fun g o _ hh hr => h5 g o hh hr, h3⟩
theorem PartsOut.lt {w : World} {base : Nat} {vo : Value} {ps : List (List UInt8)} (h : PartsOut w base vo ps) {k : Nat} (hk : vo.ownBlock = some k) : base ≤ k ∧ k < w.heap.size := by
  obtain ⟨vs, g, cap, data, h1, h2, h3⟩ := h
  exact h1.lt k hk
theorem PartsOut.below {w w' : World} {base B : Nat} {vo : Value} {ps : List (List UInt8)} (h : PartsOut w base vo ps) (hb : Below B w w') (hB : w.heap.size ≤ B) : PartsOut w' base vo ps := by
  obtain ⟨vs, g, cap, data, h1, h2, h3⟩ := h
  exact ⟨vs, g, cap, data, own_below h1 hb hB, own_below h2 hb hB, h3⟩
theorem DecAt.more {base : Nat} {vo : Value} {ps : List (List UInt8)} {s8 : Value} {wr w' : World} (h : DecAt base vo ps s8 wr) (hb : Below wr.heap.size wr w') : DecAt base vo ps s8 w' := ⟨h.1.below hb (Nat.le_refl _), h.2⟩
theorem DecAt.push8 {base b8 n8 : Nat} {vo : Value} {ps : List (List UInt8)} {s8 s8' : Value} {v8 : List Value} {wr w2 : World} {o1 : Obj} (h : DecAt base vo ps s8 wr) (hr8 : wr.ownsRow b8 29 1 s8 n8 v8) (hg : (wr.alloc o1).grownBy w2 s8.ownBlock) (hb : s8'.ownBlock = s8.ownBlock ∨ s8'.ownBlock = some (wr.alloc o1).heap.size) : DecAt base vo ps s8' w2 := by
  have h1 := h.more ((Below.refl wr.heap.size wr).alloc (Nat.le_refl _) o1)
  have hr := hr8.alloc o1
  generalize wr.alloc o1 = W at *
  have hk : Kept (fun k o => s8.ownBlock = some k ∧ IsRow o 29) W w2 := (Kept.refl _ W).grown hg (fun k hk o ho => ⟨hk, own_isRow' hr hk ho⟩)
  refine ⟨h1.1.keptB hk (fun k o hv _ ⟨e, _⟩ => h1.2 k hv e) (fun k o _ hr ⟨_, hr'⟩ => isRow_ne hr hr' (by decide)), fun k hk hk2 => ?_⟩
  rcases hb with e | e
  · exact h1.2 k hk (e ▸ hk2)
  · rw [e] at hk2
    cases hk2
    have := (h1.1.lt hk).2
    omega
end Go.Proofs.Ytchlbpfeiamieaa
