/- Frames: what may have been turned. -/
import Derived.Test.YtchlbpfeiamieaaB0
import Derived.RangeFuncNested
namespace Go.Proofs.Ytchlbpfeiamieaa
open Go.RowKit

/-- Block object o is a row of cells of element type t. -/
def IsRow (o : Obj) (t : TypeId) : Prop := ∃ cs fr, o = .cells cs t fr

/-- From w to w': each block k that held o lies as it lay, unless M k o. -/
structure Kept (M : Nat → Obj → Prop) (w w' : World) : Prop where
  os : w'.os = w.os
  tape : w'.tape = w.tape
  output : w'.output = w.output
  size : w.heap.size ≤ w'.heap.size
  same : ∀ k o, w.heap[k]? = some o → ¬ M k o → w'.heap[k]? = some o

section
variable {M M' : Nat → Obj → Prop} {a b c w w' : World}
theorem Kept.refl (M : Nat → Obj → Prop) (w : World) : Kept M w w := ⟨rfl, rfl, rfl, Nat.le_refl _, fun _ _ h _ => h⟩
theorem Kept.trans (h : Kept M a b) (k : Kept M b c) : Kept M a c :=
  ⟨k.os.trans h.os, k.tape.trans h.tape, k.output.trans h.output, Nat.le_trans h.size k.size, fun i o hi hn => k.same i o (h.same i o hi hn) hn⟩
theorem Kept.mono (h : Kept M a b) (hM : ∀ k o, M k o → M' k o) : Kept M' a b :=
  ⟨h.os, h.tape, h.output, h.size, fun i o hi hn => h.same i o hi (fun hm => hn (hM i o hm))⟩
/-- what lay in a is all that counts -/
theorem Kept.mono_at (h : Kept M a b) (hM : ∀ k o, a.heap[k]? = some o → M k o → M' k o) : Kept M' a b :=
  ⟨h.os, h.tape, h.output, h.size, fun i o hi hn => h.same i o hi (fun hm => hn (hM i o hi hm))⟩
theorem Kept.drew (h : Kept M a w) : Kept M a w.drew := ⟨h.os, h.tape, h.output, h.size, h.same⟩
theorem Kept.drewN (h : Kept M a w) (n : Nat) : Kept M a (w.drewN n) := ⟨h.os, h.tape, h.output, h.size, h.same⟩
theorem _root_.Go.RowKit.Below.drewN {B : Nat} {a w : World} (h : Below B a w) (n : Nat) : Below B a (w.drewN n) := ⟨h.os, h.tape, h.output, h.size, h.block⟩
theorem lt_of_heap {w : World} {k : Nat} {o : Obj} (h : w.heap[k]? = some o) : k < w.heap.size := (Array.getElem?_eq_some_iff.1 h).1
theorem Kept.alloc (h : Kept M a w) (o : Obj) : Kept M a (w.alloc o) :=
  ⟨h.os, h.tape, h.output, Nat.le_trans h.size (by simp), fun i x hi hn => (Below.heap_alloc w o i (lt_of_heap (h.same i x hi hn))).trans (h.same i x hi hn)⟩
theorem Kept.setCell (h : Kept M a w) {p : Addr} (hp : ∀ o, a.heap[p.block]? = some o → M p.block o) (u : Value) : Kept M a (w.setCell p u) :=
  ⟨h.os, h.tape, h.output, by simpa [World.setCell] using h.size, fun i x hi hn => by
    refine (Below.heap_setCell w p u i ?_).trans (h.same i x hi hn)
    rintro rfl
    exact hn (hp x hi)⟩
theorem Kept.grown (h : Kept M a w) {row : Option Nat} (hg : w.grownBy w' row) (hr : ∀ k, row = some k → ∀ o, a.heap[k]? = some o → M k o) : Kept M a w' :=
  ⟨hg.os.trans h.os, hg.tape.trans h.tape, hg.output.trans h.output, Nat.le_trans h.size hg.size, fun i x hi hn => by
    have hs := h.same i x hi hn
    refine (hg.block i (lt_of_heap hs) ?_).trans hs
    intro e
    exact hn (hr i e.symm x hi)⟩
theorem Kept.below (h : Kept M a b) {B : Nat} (hM : ∀ k o, M k o → B ≤ k) (hB : B ≤ a.heap.size) : Below B a b :=
  ⟨h.os, h.tape, h.output, h.size, fun k hk => by
    have hlt : k < a.heap.size := by omega
    have e : a.heap[k]? = some a.heap[k] := Array.getElem?_eq_getElem hlt
    rw [e]
    exact h.same k _ e (fun hm => by have := hM _ _ hm; omega)⟩
theorem Kept.of_below {B : Nat} (h : Below B a b) : Kept (fun k _ => B ≤ k) a b :=
  ⟨h.os, h.tape, h.output, h.size, fun k o hk hn => by
    rw [h.block k (by omega)]; exact hk⟩
theorem Kept.cell (h : Kept M a b) {p : Addr} {o : Obj} (ho : a.heap[p.block]? = some o) (hn : ¬ M p.block o) : b.cell? p = a.cell? p :=
  World.cell?_of_block ((h.same _ _ ho hn).trans ho.symm)
end

/-- Block g is just the cells cs of element type t, none frozen. -/
def Blk (w : World) (g : Nat) (t : TypeId) (cs : Array Value) : Prop := w.heap[g]? = some (.cells cs t (0, 0))
section
variable {w w' : World} {g : Nat} {t : TypeId} {cs : Array Value}
theorem Blk.lt (h : Blk w g t cs) : g < w.heap.size := lt_of_heap h
theorem Blk.cell (h : Blk w g t cs) (i : Nat) : w.cell? ⟨g, i, none⟩ = cs[i]? := cell_of_row w g i cs t (0, 0) h
theorem Blk.frozen (h : Blk w g t cs) (i : Nat) : w.frozen? ⟨g, i, none⟩ = false := by
  unfold Blk at h
  simp [World.frozen?, h]
theorem Blk.new (w : World) (t : TypeId) (cs : Array Value) : Blk (w.alloc (.cells cs t)) w.heap.size t cs := heap_alloc_new w _
theorem Blk.drew (h : Blk w g t cs) : Blk w.drew g t cs := h
theorem Blk.drewN (h : Blk w g t cs) (n : Nat) : Blk (w.drewN n) g t cs := h
theorem Blk.alloc (h : Blk w g t cs) (o : Obj) : Blk (w.alloc o) g t cs := (Below.heap_alloc w o g h.lt).trans h
theorem Blk.set_ (h : Blk w g t cs) (i : Nat) (u : Value) : Blk (w.setCell ⟨g, i, none⟩ u) g t (cs.setIfInBounds i u) := by
  unfold Blk at h ⊢
  simp [World.setCell, Array.getElem?_modify, h]
theorem Blk.far (h : Blk w g t cs) {p : Addr} (hp : g ≠ p.block) (u : Value) : Blk (w.setCell p u) g t cs := (Below.heap_setCell w p u g hp).trans h
theorem Blk.below {B : Nat} (h : Blk w g t cs) (hb : Below B w w') (hg : g < B) : Blk w' g t cs := (hb.block g hg).trans h
theorem Blk.grown {row : Option Nat} (h : Blk w g t cs) (hb : w.grownBy w' row) (hg : some g ≠ row) : Blk w' g t cs := (hb.block g h.lt hg).trans h
theorem Blk.kept {M : Nat → Obj → Prop} (h : Blk w g t cs) (hb : Kept M w w') (hn : ¬ M g (.cells cs t (0, 0))) : Blk w' g t cs := hb.same _ _ h hn
theorem own_blk_ne {base : Nat} {e : TypeId} {size n : Nat} {v : Value} {xs : List Value} (h : w.ownsRow base e size v n xs) (hg : Blk w g t cs) (hne : e ≠ t) : v.ownBlock ≠ some g := by
  rcases h.2 with ⟨rfl, _⟩ | ⟨g', cap, cur, rfl, _, hh, _⟩
  · simp [Value.ownBlock]
  · intro he
    have : g' = g := by simpa [Value.ownBlock] using he
    subst this
    unfold Blk at hg
    rw [hg] at hh
    injection hh with hh
    injection hh with _ ht
    exact hne ht.symm
end
theorem grownBy_setAt (W : World) (b i : Nat) (v : Value) : W.grownBy (W.setCell ⟨b, i, none⟩ v) (some b) :=
  ⟨rfl, rfl, rfl, by simp [World.setCell], fun k _ hk => Below.heap_setCell W ⟨b, i, none⟩ v k (fun e => hk (by rw [e]))⟩
theorem _root_.Go.World.ownsRow.drew' {w : World} {base : Nat} {e : TypeId} {size n : Nat} {v : Value} {xs : List Value} (h : w.ownsRow base e size v n xs) : w.drew.ownsRow base e size v n xs := h
/-- an owned row's block is a row of its element type -/
theorem own_isRow {w : World} {base : Nat} {e : TypeId} {size n k : Nat} {v : Value} {xs : List Value} (h : w.ownsRow base e size v n xs) (hk : v.ownBlock = some k) : ∃ o, w.heap[k]? = some o ∧ IsRow o e ∧ base ≤ k := by
  rcases h.2 with ⟨rfl, _⟩ | ⟨g', cap, cur, rfl, hb, hh, _⟩
  · simp [Value.ownBlock] at hk
  · have : g' = k := by simpa [Value.ownBlock] using hk
    subst this
    exact ⟨_, hh, ⟨_, _, rfl⟩, hb⟩

/-- M, and whatever is no cells from block N on -/
def MB (M : Nat → Obj → Prop) (N : Nat) (k : Nat) (o : Obj) : Prop := M k o ∨ (N ≤ k ∧ o.isCells = false)
theorem MB.b {M : Nat → Obj → Prop} (w : World) : ∀ (W : World) (l : Nat) (o o' : Obj), w.heap.size ≤ l → W.heap[l]? = some o → o.isCells = false → o.isWalk = false → Kept (MB M w.heap.size) W (W.putObj l o') :=
  fun W l o o' hl ho hc _ => (Kept.refl _ W).grown (grownBy_putObj' W l o') (fun k e x hx => by
    cases e
    rw [ho] at hx
    cases hx
    exact .inr ⟨hl, hc⟩)
theorem ownFrom_kept {β : Type} {M : Nat → Obj → Prop} {N : Nat} {w₀ : World} : OwnFrom N (fun (_ : β) W => Kept (MB M N) w₀ W) :=
  fun _ X Y row hs hg hr => hs.trans ((Kept.refl _ X).grown hg (fun k e x hx => by
    obtain ⟨h1, o, ho, hc⟩ := hr k e
    rw [ho] at hx
    cases hx
    exact .inr ⟨h1, hc⟩))
theorem Kept.drop {M : Nat → Obj → Prop} {w W : World} (h : Kept (MB M w.heap.size) w W) : Kept M w W :=
  h.mono_at fun k o ho hm => hm.resolve_right fun hh => by have := lt_of_heap ho; omega
theorem Kept.mb {M : Nat → Obj → Prop} {N : Nat} {w W : World} (h : Kept M w W) : Kept (MB M N) w W := h.mono fun _ _ hm => .inl hm
/-- what turns cells alone keeps the rest -/
theorem Kept.from {M : Nat → Obj → Prop} {N : Nat} {w W : World} (h : Kept M w W) (hM : ∀ k o, w.heap[k]? = some o → o.isCells = false → N ≤ k → ¬ M k o) : KeepsFrom N w W :=
  ⟨h.size, fun k o hk ho hc => h.same k o ho (hM k o ho hc hk)⟩
theorem Kept.taken {M : Nat → Obj → Prop} {N : Nat} {w W : World} (h : Kept (MB M N) w W) {D : Nat} {o : Obj} (o' : Obj) (hD : N ≤ D) (ho : W.heap[D]? = some o) (hc : o.isCells = false) : Kept (MB M N) w (W.putObj D o') :=
  h.trans ((Kept.refl _ W).grown (grownBy_putObj' W D o') (fun k e x hx => by
    cases e
    rw [ho] at hx
    cases hx
    exact .inr ⟨hD, hc⟩))
end Go.Proofs.Ytchlbpfeiamieaa
