/- law30.UmpduHolds: the walk. Lemmas for the walk of law30.UmpduCuts: the wanted chunk that the law builds. -/
import Derived.Test.YtbjajboodohabaaGreatLa
import Derived.Test.YtbjajboodohabaaGreatNa
import Derived.Deep.DeepCutAuto
namespace Go.Proofs.YtbjajboodohabaaGreat
open Go.RowKit

theorem Blk.four {w : World} {g : Nat} {t : TypeId} {x y z u : Value} (b : Blk w g t #[x, y, z, u]) : w.cell? ⟨g, 0, none⟩ = some x ∧ w.cell? ⟨g, 1, none⟩ = some y ∧ w.cell? ⟨g, 2, none⟩ = some z ∧ w.cell? ⟨g, 3, none⟩ = some u :=
  ⟨b.cell 0, b.cell 1, b.cell 2, b.cell 3⟩
theorem keep_two {w w' : World} {B a b : Nat} {x y z u x' y' z' u' : Value} (hb : Below B w w') (ha : a < B) (hb' : b < B)
    (h : w.cell? ⟨a, 0, none⟩ = some x ∧ w.cell? ⟨a, 1, none⟩ = some y ∧ w.cell? ⟨a, 2, none⟩ = some z ∧ w.cell? ⟨a, 3, none⟩ = some u ∧ w.cell? ⟨b, 0, none⟩ = some x' ∧ w.cell? ⟨b, 1, none⟩ = some y' ∧ w.cell? ⟨b, 2, none⟩ = some z' ∧ w.cell? ⟨b, 3, none⟩ = some u') :
    w'.cell? ⟨a, 0, none⟩ = some x ∧ w'.cell? ⟨a, 1, none⟩ = some y ∧ w'.cell? ⟨a, 2, none⟩ = some z ∧ w'.cell? ⟨a, 3, none⟩ = some u ∧ w'.cell? ⟨b, 0, none⟩ = some x' ∧ w'.cell? ⟨b, 1, none⟩ = some y' ∧ w'.cell? ⟨b, 2, none⟩ = some z' ∧ w'.cell? ⟨b, 3, none⟩ = some u' := by
  rw [hb.cell (p := ⟨a, 0, none⟩) ha, hb.cell (p := ⟨a, 1, none⟩) ha, hb.cell (p := ⟨a, 2, none⟩) ha, hb.cell (p := ⟨a, 3, none⟩) ha, hb.cell (p := ⟨b, 0, none⟩) hb', hb.cell (p := ⟨b, 1, none⟩) hb', hb.cell (p := ⟨b, 2, none⟩) hb', hb.cell (p := ⟨b, 3, none⟩) hb']
  exact h
theorem keep_one {w w' : World} {B a : Nat} {x y z u : Value} (hb : Below B w w') (ha : a < B)
    (h : w.cell? ⟨a, 0, none⟩ = some x ∧ w.cell? ⟨a, 1, none⟩ = some y ∧ w.cell? ⟨a, 2, none⟩ = some z ∧ w.cell? ⟨a, 3, none⟩ = some u) :
    w'.cell? ⟨a, 0, none⟩ = some x ∧ w'.cell? ⟨a, 1, none⟩ = some y ∧ w'.cell? ⟨a, 2, none⟩ = some z ∧ w'.cell? ⟨a, 3, none⟩ = some u := by
  rw [hb.cell (p := ⟨a, 0, none⟩) ha, hb.cell (p := ⟨a, 1, none⟩) ha, hb.cell (p := ⟨a, 2, none⟩) ha, hb.cell (p := ⟨a, 3, none⟩) ha]
  exact h
theorem Below.drew' {w w' : World} (h : Below w.drew.heap.size w.drew w') : Below w.heap.size w w' := ((Below.refl w.heap.size w).drew).trans h
theorem few_small {ps : List (List UInt8)} (h : Few ps) : ps.length ≤ 1048576 ∧ ∀ p ∈ ps, p.length ≤ 1099511627776 :=
  ⟨by have := h.1; omega, fun p hp => by have := h.2.1 p hp; omega⟩

end Go.Proofs.YtbjajboodohabaaGreat
namespace Go.Proofs.YtbjajboodohabaaGreat
open Go.RowKit

theorem Sl.upto' {w : World} {B : Nat} {A : Option Addr} {n c k : Nat} {xs : List Value} (h : Sl w B A n c xs) (hk : k ≤ n) : Sl w B A k c (xs.take k) := by
  have hl := h.len
  refine ⟨by simp; omega, by have := h.cap; omega, h.mx, fun hp => ?_⟩
  obtain ⟨ad, e, hb, hc⟩ := h.at_ (by omega)
  refine ⟨ad, e, hb, fun j u hu => hc j u ?_⟩
  rw [List.getElem?_take] at hu
  split at hu
  · exact hu
  · cases hu
theorem Sls.one {w : World} {B : Nat} {A : Option Addr} {n c : Nat} {vs : List Value} {ps : List (List UInt8)} (h : Sls w B A n c vs ps) : ∀ u ∈ vs, u.oneCell' = true := by
  intro u hu
  obtain ⟨i, hi, rfl⟩ := List.mem_iff_getElem.1 hu
  have h1 := h.len
  have h2 := h.sl.len
  have hp : i < ps.length := by omega
  obtain ⟨Ai, ci, e, _⟩ := h.each i _ (List.getElem?_eq_getElem hp)
  rw [List.getElem?_eq_getElem hi] at e
  injection e with e
  have e' : vs.get ⟨i, hi⟩ = Value.slice Ai ps[i].length ci := e
  first | rw [e'] | rw [e]
  rfl
theorem cuts_b8 {w7 W w8 : World} {b n c : Nat} (hB : Below w7.heap.size w7 W) (hg : W.grownBy w8 (Value.slice (some ⟨b, 0, none⟩) n c).ownBlock) (hb : w7.heap.size ≤ b) : Below w7.heap.size w7 w8 :=
  hB.grown hg hB.size (fun g e => by
    have : b = g := by simpa [Value.ownBlock] using e
    omega)
theorem cuts_b9 {w7 W w8 w9 : World} {v8 : Value} {n : Nat} {xs : List Value} (hB : Below w7.heap.size w7 W) (hown : w8.ownsRow w7.heap.size 40 1 v8 n xs) (hg : W.grownBy w9 v8.ownBlock) : Below w7.heap.size w7 w9 :=
  hB.grown hg hB.size (fun g e => by
    obtain ⟨_, _, _, h⟩ := own_isRow hown e
    exact h)
theorem cuts_lit_b {w7 w8 : World} {y : Value} (hg : ((w7.alloc (.cells #[] 40)).alloc (.cells #[y] 40)).drew.grownBy w8 (Value.slice (some ⟨w7.heap.size, 0, none⟩) 0 0).ownBlock) :
    Sl w8 w8.heap.size (some ⟨w7.heap.size + 1, 0, none⟩) 1 1 [y] := by
  have h1 := hg.block (w7.heap.size + 1) (by simp [World.drew]) (by simp [Value.ownBlock])
  have h2 : ((w7.alloc (.cells #[] 40)).alloc (.cells #[y] 40)).drew.heap[w7.heap.size + 1]? = some (.cells #[y] 40) := by
    have := heap_new (w7.alloc (.cells #[] 40)) (.cells #[y] 40)
    rw [World.size_alloc] at this
    exact this
  exact sl_lit (h1.trans h2) rfl (by simp)
theorem cuts_lit_c {w7 w8 : World} {y : Value} (hg : ((w7.alloc (.cells #[y] 40)).alloc (.cells #[] 40)).drew.grownBy w8 (Value.slice (some ⟨w7.heap.size + 1, 0, none⟩) 0 0).ownBlock) :
    Sl w8 w8.heap.size (some ⟨w7.heap.size, 0, none⟩) 1 1 [y] := by
  have h1 := hg.block w7.heap.size (by simp [World.drew]; omega) (by simp [Value.ownBlock])
  have h2 : ((w7.alloc (.cells #[y] 40)).alloc (.cells #[] 40)).drew.heap[w7.heap.size]? = some (.cells #[y] 40) :=
    (Below.heap_alloc (w7.alloc (.cells #[y] 40)) (.cells #[] 40) w7.heap.size (by simp)).trans (heap_new w7 _)
  exact sl_lit (h1.trans h2) rfl (by simp)
theorem cuts_own_b (w7 : World) (y : Value) : ((w7.alloc (.cells #[] 40)).alloc (.cells #[y] 40)).drew.ownsRow w7.heap.size 40 1 (.slice (some ⟨w7.heap.size, 0, none⟩) 0 0) 0 [] :=
  World.ownsRow.drew' ((World.ownsRow_lit w7 #[] 0 (Nat.le_refl _) (by unfold maxLen; omega) rfl).alloc _)
theorem cuts_own_c (w7 : World) (y : Value) : ((w7.alloc (.cells #[y] 40)).alloc (.cells #[] 40)).drew.ownsRow w7.heap.size 40 1 (.slice (some ⟨w7.heap.size + 1, 0, none⟩) 0 0) 0 [] := by
  have hh := World.ownsRow.drew' (World.ownsRow_lit (e := 40) (size := 1) (base := w7.heap.size) (w7.alloc (.cells #[y] 40)) #[] 0 (by simp) (by unfold maxLen; omega) rfl)
  rw [World.size_alloc] at hh
  exact hh

theorem cuts_meet {w7 w9 : World} {g q c cc r c9 : Nat} {s e : Bool} {A A9 : Option Addr} {ai : Addr} {vs : List Value} {ps l : List (List UInt8)} {x : List UInt8} {u : Value}
    (hb9 : Below w7.heap.size w7 w9) (hg : g + 1 + 1 ≤ w7.heap.size) (bw : Blk w7 (g + 1) 76 #[.bool s, .bool e, u])
    (hA : Sls w7 (g + 1) A (q + 1) c vs ps) (hps : ps = l ++ [x]) (hlq : l.length = q) (hsx : Sl w7 (g + 1) (some ai) x.length cc (bvs x)) (hr : r ≤ x.length)
    (hs9 : Sl w9 w9.heap.size A9 (q + 1) c9 (vs.take q ++ [.slice (some ai) r cc])) (hbase : 0 < q + 1 → ∃ ad, A9 = some ad ∧ w7.heap.size ≤ ad.block) :
    ∃ (Aw : Option Addr) (cw : Nat) (vw : List Value), Blk (w9.setCell ⟨g + 1, 2, none⟩ (.slice A9 (q + 1) c9)) (g + 1) 76 #[.bool s, .bool e, .slice Aw (q + 1) cw] ∧
      Sls (w9.setCell ⟨g + 1, 2, none⟩ (.slice A9 (q + 1) c9)) (w9.setCell ⟨g + 1, 2, none⟩ (.slice A9 (q + 1) c9)).heap.size Aw (q + 1) cw vw (l ++ [x.take r]) ∧
      Below (g + 1) w7 (w9.setCell ⟨g + 1, 2, none⟩ (.slice A9 (q + 1) c9)) := by
  have hsz : (w9.setCell ⟨g + 1, 2, none⟩ (.slice A9 (q + 1) c9)).heap.size = w9.heap.size := by simp [World.setCell]
  have h79 := hb9.size
  have hbb : Below (g + 1) w7 (w9.setCell ⟨g + 1, 2, none⟩ (.slice A9 (q + 1) c9)) := (hb9.mono (by omega)).setCell (by simp) _
  have hkeep : ∀ p : Addr, p.block ≠ g + 1 → (w9.setCell ⟨g + 1, 2, none⟩ (.slice A9 (q + 1) c9)).cell? p = w9.cell? p := fun p hp =>
    World.cell?_setCell_other w9 ⟨g + 1, 2, none⟩ p _ (fun e => hp (by rw [← e]))
  refine ⟨A9, c9, vs.take q ++ [.slice (some ai) r cc], ?_, ⟨⟨hs9.len, hs9.cap, hs9.mx, fun hn => ?_⟩, by simp [hlq], fun i p hi => ?_⟩, hbb⟩
  · exact (bw.below hb9 (by omega)).set_ 2 _
  · obtain ⟨ad, e, hb, hc⟩ := hs9.at_ hn
    obtain ⟨ad', e', hb'⟩ := hbase hn
    rw [e] at e'
    cases e'
    refine ⟨ad, e, by rw [hsz]; exact hb, fun j v hv => (hkeep _ ?_).trans (hc j v hv)⟩
    rw [block_add]
    omega
  · have hvl := hA.sl.len
    by_cases hiq : i < q
    · rw [List.getElem?_append_left (by omega)] at hi
      obtain ⟨Ai, ci', e1, h1⟩ := hA.each i p (by rw [hps, List.getElem?_append_left (by omega)]; exact hi)
      refine ⟨Ai, ci', ?_, (h1.below hbb).more (by omega)⟩
      rw [List.getElem?_append_left (by simp; omega), List.getElem?_take, if_pos hiq]
      exact e1
    · rw [List.getElem?_append_right (by omega)] at hi
      have hi0 : i = q := by
        have : i - l.length < [x.take r].length := (List.getElem?_eq_some_iff.1 hi).1
        simp at this
        omega
      subst hi0
      rw [hlq] at hi
      simp at hi
      subst hi
      have hl : (x.take r).length = r := by simp; omega
      refine ⟨some ai, cc, ?_, ?_⟩
      · rw [List.getElem?_append_right (by simp; omega), hl]
        simp [show i - min i vs.length = 0 by omega]
      · rw [hl]
        have := (hsx.upto' hr)
        unfold bvs at this ⊢
        rw [List.map_take]
        exact (this.below hbb).more (by omega)
theorem keep_cuts {w w' : World} {B a g k : Nat} {x0 y0 y1 y2 y3 z0 z1 z2 : Value} (hb : Below B w w') (ha : a < B) (hg : g < B) (hk : k < B)
    (h : w.cell? ⟨a, 0, none⟩ = some x0 ∧ w.cell? ⟨g, 0, none⟩ = some y0 ∧ w.cell? ⟨g, 1, none⟩ = some y1 ∧ w.cell? ⟨g, 2, none⟩ = some y2 ∧ w.cell? ⟨g, 3, none⟩ = some y3 ∧ w.cell? ⟨k, 0, none⟩ = some z0 ∧ w.cell? ⟨k, 1, none⟩ = some z1 ∧ w.cell? ⟨k, 2, none⟩ = some z2) :
    w'.cell? ⟨a, 0, none⟩ = some x0 ∧ w'.cell? ⟨g, 0, none⟩ = some y0 ∧ w'.cell? ⟨g, 1, none⟩ = some y1 ∧ w'.cell? ⟨g, 2, none⟩ = some y2 ∧ w'.cell? ⟨g, 3, none⟩ = some y3 ∧ w'.cell? ⟨k, 0, none⟩ = some z0 ∧ w'.cell? ⟨k, 1, none⟩ = some z1 ∧ w'.cell? ⟨k, 2, none⟩ = some z2 := by
  obtain ⟨h0, h1, h2, h3, h4, h5, h6, h7⟩ := h
  exact ⟨(hb.cell (p := ⟨a, 0, none⟩) ha).trans h0, (hb.cell (p := ⟨g, 0, none⟩) hg).trans h1, (hb.cell (p := ⟨g, 1, none⟩) hg).trans h2, (hb.cell (p := ⟨g, 2, none⟩) hg).trans h3, (hb.cell (p := ⟨g, 3, none⟩) hg).trans h4,
    (hb.cell (p := ⟨k, 0, none⟩) hk).trans h5, (hb.cell (p := ⟨k, 1, none⟩) hk).trans h6, (hb.cell (p := ⟨k, 2, none⟩) hk).trans h7⟩
end Go.Proofs.YtbjajboodohabaaGreat
