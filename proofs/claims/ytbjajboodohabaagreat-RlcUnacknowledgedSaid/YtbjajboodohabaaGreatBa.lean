/- Words for memory: slices that read as lists, nil included; blocks that are known whole. Frames: what may have been turned. append onto a row of the call's own, from a source that is nil, empty or not. -/
import Derived.Test.YtbjajboodohabaaGreatProg
import Derived.WalkKit
import Derived.WalkSpells
import Derived.WalkLawsBesides
import Derived.Lib.Hide
import Derived.Deep.QuietTactic
import Derived.BigQuiet
import Derived.Deep.LoopGhost
import Derived.Maps.AppendAt
import Derived.Deep.AppendLies
import Derived.Laws.OwnMore
import Derived.RangeFuncNested
import Derived.RegionTactic
import Derived.OwnWalk
namespace Go.Proofs.YtbjajboodohabaaGreat
open Go.RowKit

theorem block_add (a : Addr) (n : Nat) : (a.add n).block = a.block := by unfold Addr.add; split <;> rfl
theorem add_add (a : Addr) (i j : Nat) : (a.add i).add j = a.add (i + j) := by
  unfold Addr.add
  by_cases hi : i = 0 <;> by_cases hj : j = 0 <;> simp [hi, hj, Nat.add_assoc]

/-- A slice value '.slice A n c' holds the cells xs; they lie below block B. -/
structure Sl (w : World) (B : Nat) (A : Option Addr) (n c : Nat) (xs : List Value) : Prop where
  len : xs.length = n
  cap : n ≤ c
  mx : c ≤ 9223372036854775807
  at_ : 0 < n → ∃ ad, A = some ad ∧ ad.block < B ∧ ∀ j u, xs[j]? = some u → w.cell? (ad.add j) = some u

section
variable {w w' : World} {B B' n c : Nat} {A : Option Addr} {xs : List Value}
theorem Sl.keep (h : Sl w B A n c xs) (hk : ∀ p : Addr, p.block < B → w'.cell? p = w.cell? p) : Sl w' B A n c xs :=
  ⟨h.len, h.cap, h.mx, fun hn => by
    obtain ⟨ad, e, hb, hc⟩ := h.at_ hn
    exact ⟨ad, e, hb, fun j u hu => (hk _ (by rw [block_add]; exact hb)).trans (hc j u hu)⟩⟩
theorem Sl.more (h : Sl w B A n c xs) (hB : B ≤ B') : Sl w B' A n c xs :=
  ⟨h.len, h.cap, h.mx, fun hn => by
    obtain ⟨ad, e, hb, hc⟩ := h.at_ hn
    exact ⟨ad, e, by omega, hc⟩⟩
theorem Sl.below (h : Sl w B A n c xs) (hb : Below B w w') : Sl w' B A n c xs := h.keep fun _ hp => hb.cell hp
theorem Sl.drew (h : Sl w B A n c xs) : Sl w.drew B A n c xs := ⟨h.len, h.cap, h.mx, h.at_⟩
theorem Sl.drewN (h : Sl w B A n c xs) (k : Nat) : Sl (w.drewN k) B A n c xs := ⟨h.len, h.cap, h.mx, h.at_⟩
theorem Sl.alloc (h : Sl w B A n c xs) (hB : B ≤ w.heap.size) (o : Obj) : Sl (w.alloc o) B A n c xs := h.keep fun p hp => World.cell?_alloc_lt w o p (by omega)
theorem Sl.setCell (h : Sl w B A n c xs) {p : Addr} (hB : B ≤ p.block) (u : Value) : Sl (w.setCell p u) B A n c xs :=
  h.keep fun q hq => World.cell?_setCell_other w p q u (fun e => by subst e; omega)
theorem Sl.grown (h : Sl w B A n c xs) {row : Option Nat} (hg : w.grownBy w' row) (hB : B ≤ w.heap.size) (hr : ∀ g, row = some g → B ≤ g) : Sl w' B A n c xs :=
  h.keep fun p hp => World.cell?_of_block (hg.block p.block (by omega) (fun e => by have := hr _ e.symm; omega))
theorem Sl.get (h : Sl w B A n c xs) {k : Nat} (hk : k < n) : ∃ ad u, A = some ad ∧ ad.block < B ∧ xs[k]? = some u ∧ w.cell? (ad.add k) = some u := by
  obtain ⟨ad, e, hb, hc⟩ := h.at_ (by omega)
  have hl : k < xs.length := by have := h.len; omega
  exact ⟨ad, xs[k], e, hb, List.getElem?_eq_getElem hl, hc k _ (List.getElem?_eq_getElem hl)⟩
theorem Sl.nil_ : Sl w B A 0 c [] ↔ c ≤ 9223372036854775807 := ⟨fun h => h.mx, fun h => ⟨rfl, Nat.zero_le _, h, fun h => absurd h (by omega)⟩⟩
end

/-- a byte as a value -/
def bv (b : UInt8) : Value := .int .u8 (b.toNat : Int)
/-- bytes as values -/
def bvs (l : List UInt8) : List Value := l.map bv
@[simp] theorem bvs_length (l : List UInt8) : (bvs l).length = l.length := by simp [bvs]

/-- A slice of slices of bytes. -/
structure Sls (w : World) (B : Nat) (A : Option Addr) (n c : Nat) (vs : List Value) (ps : List (List UInt8)) : Prop where
  sl : Sl w B A n c vs
  len : ps.length = n
  each : ∀ (i : Nat) (p : List UInt8), ps[i]? = some p → ∃ Ai ci, vs[i]? = some (Value.slice Ai p.length ci) ∧ Sl w B Ai p.length ci (bvs p)
section
variable {w w' : World} {B B' n c : Nat} {A : Option Addr} {vs : List Value} {ps : List (List UInt8)}
theorem Sls.keep (h : Sls w B A n c vs ps) (hk : ∀ p : Addr, p.block < B → w'.cell? p = w.cell? p) : Sls w' B A n c vs ps :=
  ⟨h.sl.keep hk, h.len, fun i p hi => let ⟨Ai, ci, e, hs⟩ := h.each i p hi; ⟨Ai, ci, e, hs.keep hk⟩⟩
theorem Sls.more (h : Sls w B A n c vs ps) (hB : B ≤ B') : Sls w B' A n c vs ps :=
  ⟨h.sl.more hB, h.len, fun i p hi => let ⟨Ai, ci, e, hs⟩ := h.each i p hi; ⟨Ai, ci, e, hs.more hB⟩⟩
theorem Sls.below (h : Sls w B A n c vs ps) (hb : Below B w w') : Sls w' B A n c vs ps := h.keep fun _ hp => hb.cell hp
theorem Sls.alloc (h : Sls w B A n c vs ps) (hB : B ≤ w.heap.size) (o : Obj) : Sls (w.alloc o) B A n c vs ps := h.keep fun p hp => World.cell?_alloc_lt w o p (by omega)
theorem Sls.get (h : Sls w B A n c vs ps) {k : Nat} (hk : k < n) :
    ∃ ad Ai ci, A = some ad ∧ ad.block < B ∧ w.cell? (ad.add k) = some (.slice Ai (ps[k]?.getD []).length ci) ∧ Sl w B Ai (ps[k]?.getD []).length ci (bvs (ps[k]?.getD [])) := by
  have hl : k < ps.length := by have := h.len; omega
  obtain ⟨Ai, ci, e, hs⟩ := h.each k _ (List.getElem?_eq_getElem hl)
  obtain ⟨ad, u, rfl, hb, hu, hc⟩ := h.sl.get hk
  rw [e] at hu
  cases hu
  refine ⟨ad, Ai, ci, rfl, hb, ?_, ?_⟩ <;> simpa [List.getElem?_eq_getElem hl] using ‹_›
end
end Go.Proofs.YtbjajboodohabaaGreat
namespace Go.Proofs.YtbjajboodohabaaGreat
open Go.RowKit

/-- Block object o is a row of cells of element type t. -/
def IsRow (o : Obj) (t : TypeId) : Prop := ∃ cs fr, o = .cells cs t fr

/-- From w to w': each block k that held o lies as it lay, unless M k o. -/
structure Kept (M : Nat → Obj → Prop) (w w' : World) : Prop where
  os : w'.os = w.os
  tape : w'.tape = w.tape
  output : w'.output = w.output
  size : w.heap.size ≤ w'.heap.size
  same : ∀ k o, w.heap[k]? = some o → ¬ M k o → w'.heap[k]? = some o

section
variable {M M' : Nat → Obj → Prop} {a b c w w' : World}
theorem Kept.refl (M : Nat → Obj → Prop) (w : World) : Kept M w w := ⟨rfl, rfl, rfl, Nat.le_refl _, fun _ _ h _ => h⟩
theorem Kept.trans (h : Kept M a b) (k : Kept M b c) : Kept M a c :=
  ⟨k.os.trans h.os, k.tape.trans h.tape, k.output.trans h.output, Nat.le_trans h.size k.size, fun i o hi hn => k.same i o (h.same i o hi hn) hn⟩
theorem Kept.mono (h : Kept M a b) (hM : ∀ k o, M k o → M' k o) : Kept M' a b :=
  ⟨h.os, h.tape, h.output, h.size, fun i o hi hn => h.same i o hi (fun hm => hn (hM i o hm))⟩
/-- what lay in a is all that counts -/
theorem Kept.mono_at (h : Kept M a b) (hM : ∀ k o, a.heap[k]? = some o → M k o → M' k o) : Kept M' a b :=
  ⟨h.os, h.tape, h.output, h.size, fun i o hi hn => h.same i o hi (fun hm => hn (hM i o hi hm))⟩
theorem Kept.drew (h : Kept M a w) : Kept M a w.drew := ⟨h.os, h.tape, h.output, h.size, h.same⟩
theorem Kept.drewN (h : Kept M a w) (n : Nat) : Kept M a (w.drewN n) := ⟨h.os, h.tape, h.output, h.size, h.same⟩
theorem _root_.Go.RowKit.Below.drewN {B : Nat} {a w : World} (h : Below B a w) (n : Nat) : Below B a (w.drewN n) := ⟨h.os, h.tape, h.output, h.size, h.block⟩
theorem lt_of_heap {w : World} {k : Nat} {o : Obj} (h : w.heap[k]? = some o) : k < w.heap.size := (Array.getElem?_eq_some_iff.1 h).1
theorem Kept.alloc (h : Kept M a w) (o : Obj) : Kept M a (w.alloc o) :=
  ⟨h.os, h.tape, h.output, Nat.le_trans h.size (by simp), fun i x hi hn => (Below.heap_alloc w o i (lt_of_heap (h.same i x hi hn))).trans (h.same i x hi hn)⟩
theorem Kept.setCell (h : Kept M a w) {p : Addr} (hp : ∀ o, a.heap[p.block]? = some o → M p.block o) (u : Value) : Kept M a (w.setCell p u) :=
  ⟨h.os, h.tape, h.output, by simpa [World.setCell] using h.size, fun i x hi hn => by
    refine (Below.heap_setCell w p u i ?_).trans (h.same i x hi hn)
    rintro rfl
    exact hn (hp x hi)⟩
theorem Kept.grown (h : Kept M a w) {row : Option Nat} (hg : w.grownBy w' row) (hr : ∀ k, row = some k → ∀ o, a.heap[k]? = some o → M k o) : Kept M a w' :=
  ⟨hg.os.trans h.os, hg.tape.trans h.tape, hg.output.trans h.output, Nat.le_trans h.size hg.size, fun i x hi hn => by
    have hs := h.same i x hi hn
    refine (hg.block i (lt_of_heap hs) ?_).trans hs
    intro e
    exact hn (hr i e.symm x hi)⟩
theorem Kept.below (h : Kept M a b) {B : Nat} (hM : ∀ k o, M k o → B ≤ k) (hB : B ≤ a.heap.size) : Below B a b :=
  ⟨h.os, h.tape, h.output, h.size, fun k hk => by
    have hlt : k < a.heap.size := by omega
    have e : a.heap[k]? = some a.heap[k] := Array.getElem?_eq_getElem hlt
    rw [e]
    exact h.same k _ e (fun hm => by have := hM _ _ hm; omega)⟩
theorem Kept.of_below {B : Nat} (h : Below B a b) : Kept (fun k _ => B ≤ k) a b :=
  ⟨h.os, h.tape, h.output, h.size, fun k o hk hn => by
    rw [h.block k (by omega)]; exact hk⟩
theorem Kept.cell (h : Kept M a b) {p : Addr} {o : Obj} (ho : a.heap[p.block]? = some o) (hn : ¬ M p.block o) : b.cell? p = a.cell? p :=
  World.cell?_of_block ((h.same _ _ ho hn).trans ho.symm)
end

/-- Block g is just the cells cs of element type t, none frozen. -/
def Blk (w : World) (g : Nat) (t : TypeId) (cs : Array Value) : Prop := w.heap[g]? = some (.cells cs t (0, 0))
section
variable {w w' : World} {g : Nat} {t : TypeId} {cs : Array Value}
theorem Blk.lt (h : Blk w g t cs) : g < w.heap.size := lt_of_heap h
theorem Blk.cell (h : Blk w g t cs) (i : Nat) : w.cell? ⟨g, i, none⟩ = cs[i]? := cell_of_row w g i cs t (0, 0) h
theorem Blk.frozen (h : Blk w g t cs) (i : Nat) : w.frozen? ⟨g, i, none⟩ = false := by
  unfold Blk at h
  simp [World.frozen?, h]
theorem Blk.new (w : World) (t : TypeId) (cs : Array Value) : Blk (w.alloc (.cells cs t)) w.heap.size t cs := heap_alloc_new w _
theorem Blk.drew (h : Blk w g t cs) : Blk w.drew g t cs := h
theorem Blk.drewN (h : Blk w g t cs) (n : Nat) : Blk (w.drewN n) g t cs := h
theorem Blk.alloc (h : Blk w g t cs) (o : Obj) : Blk (w.alloc o) g t cs := (Below.heap_alloc w o g h.lt).trans h
theorem Blk.set_ (h : Blk w g t cs) (i : Nat) (u : Value) : Blk (w.setCell ⟨g, i, none⟩ u) g t (cs.setIfInBounds i u) := by
  unfold Blk at h ⊢
  simp [World.setCell, Array.getElem?_modify, h]
theorem Blk.far (h : Blk w g t cs) {p : Addr} (hp : g ≠ p.block) (u : Value) : Blk (w.setCell p u) g t cs := (Below.heap_setCell w p u g hp).trans h
theorem Blk.below {B : Nat} (h : Blk w g t cs) (hb : Below B w w') (hg : g < B) : Blk w' g t cs := (hb.block g hg).trans h
theorem Blk.grown {row : Option Nat} (h : Blk w g t cs) (hb : w.grownBy w' row) (hg : some g ≠ row) : Blk w' g t cs := (hb.block g h.lt hg).trans h
theorem Blk.kept {M : Nat → Obj → Prop} (h : Blk w g t cs) (hb : Kept M w w') (hn : ¬ M g (.cells cs t (0, 0))) : Blk w' g t cs := hb.same _ _ h hn
theorem own_blk_ne {base : Nat} {e : TypeId} {size n : Nat} {v : Value} {xs : List Value} (h : w.ownsRow base e size v n xs) (hg : Blk w g t cs) (hne : e ≠ t) : v.ownBlock ≠ some g := by
  rcases h.2 with ⟨rfl, _⟩ | ⟨g', cap, cur, rfl, _, hh, _⟩
  · simp [Value.ownBlock]
  · intro he
    have : g' = g := by simpa [Value.ownBlock] using he
    subst this
    unfold Blk at hg
    rw [hg] at hh
    injection hh with hh
    injection hh with _ ht
    exact hne ht.symm
end
theorem grownBy_setAt (W : World) (b i : Nat) (v : Value) : W.grownBy (W.setCell ⟨b, i, none⟩ v) (some b) :=
  ⟨rfl, rfl, rfl, by simp [World.setCell], fun k _ hk => Below.heap_setCell W ⟨b, i, none⟩ v k (fun e => hk (by rw [e]))⟩
theorem _root_.Go.World.ownsRow.drew' {w : World} {base : Nat} {e : TypeId} {size n : Nat} {v : Value} {xs : List Value} (h : w.ownsRow base e size v n xs) : w.drew.ownsRow base e size v n xs := h
/-- an owned row's block is a row of its element type -/
theorem own_isRow {w : World} {base : Nat} {e : TypeId} {size n k : Nat} {v : Value} {xs : List Value} (h : w.ownsRow base e size v n xs) (hk : v.ownBlock = some k) : ∃ o, w.heap[k]? = some o ∧ IsRow o e ∧ base ≤ k := by
  rcases h.2 with ⟨rfl, _⟩ | ⟨g', cap, cur, rfl, hb, hh, _⟩
  · simp [Value.ownBlock] at hk
  · have : g' = k := by simpa [Value.ownBlock] using hk
    subst this
    exact ⟨_, hh, ⟨_, _, rfl⟩, hb⟩

/-- M, and whatever is no cells from block N on -/
def MB (M : Nat → Obj → Prop) (N : Nat) (k : Nat) (o : Obj) : Prop := M k o ∨ (N ≤ k ∧ o.isCells = false)
theorem MB.b {M : Nat → Obj → Prop} (w : World) : ∀ (W : World) (l : Nat) (o o' : Obj), w.heap.size ≤ l → W.heap[l]? = some o → o.isCells = false → o.isWalk = false → Kept (MB M w.heap.size) W (W.putObj l o') :=
  fun W l o o' hl ho hc _ => (Kept.refl _ W).grown (grownBy_putObj' W l o') (fun k e x hx => by
    cases e
    rw [ho] at hx
    cases hx
    exact .inr ⟨hl, hc⟩)
theorem ownFrom_kept {β : Type} {M : Nat → Obj → Prop} {N : Nat} {w₀ : World} : OwnFrom N (fun (_ : β) W => Kept (MB M N) w₀ W) :=
  fun _ X Y row hs hg hr => hs.trans ((Kept.refl _ X).grown hg (fun k e x hx => by
    obtain ⟨h1, o, ho, hc⟩ := hr k e
    rw [ho] at hx
    cases hx
    exact .inr ⟨h1, hc⟩))
theorem Kept.drop {M : Nat → Obj → Prop} {w W : World} (h : Kept (MB M w.heap.size) w W) : Kept M w W :=
  h.mono_at fun k o ho hm => hm.resolve_right fun hh => by have := lt_of_heap ho; omega
theorem Kept.mb {M : Nat → Obj → Prop} {N : Nat} {w W : World} (h : Kept M w W) : Kept (MB M N) w W := h.mono fun _ _ hm => .inl hm
/-- what turns cells alone keeps the rest -/
theorem Kept.from {M : Nat → Obj → Prop} {N : Nat} {w W : World} (h : Kept M w W) (hM : ∀ k o, w.heap[k]? = some o → o.isCells = false → N ≤ k → ¬ M k o) : KeepsFrom N w W :=
  ⟨h.size, fun k o hk ho hc => h.same k o ho (hM k o ho hc hk)⟩
theorem Kept.taken {M : Nat → Obj → Prop} {N : Nat} {w W : World} (h : Kept (MB M N) w W) {D : Nat} {o : Obj} (o' : Obj) (hD : N ≤ D) (ho : W.heap[D]? = some o) (hc : o.isCells = false) : Kept (MB M N) w (W.putObj D o') :=
  h.trans ((Kept.refl _ W).grown (grownBy_putObj' W D o') (fun k e x hx => by
    cases e
    rw [ho] at hx
    cases hx
    exact .inr ⟨hD, hc⟩))
end Go.Proofs.YtbjajboodohabaaGreat
namespace Go.Proofs.YtbjajboodohabaaGreat
open Go.RowKit
section
variable {P : Program} (w : World)

theorem run_append_of_nil (base : Nat) (t ty e : TypeId) (i : TypeInfo) (size : Nat) (ht : P.underlying t = some (.slice e)) (hi : P.info? e = some i)
    (v : Value) (n : Nat) (xs : List Value) (hown : w.ownsRow base e size v n xs) (c : Nat) : (Builtin.append_ #[t, t] ty #[v, .slice none 0 c]).run P w = .ok v w := by
  rcases hown.2 with ⟨rfl, rfl⟩ | ⟨g, cap, cur, rfl, _, _, hnc, _⟩
  · simp [Builtin.append_, run_underlying ht, sizeOf, typeInfo, hi, Builtin.lenOf, Builtin.firstCells]
  · simp [Builtin.append_, run_underlying ht, sizeOf, typeInfo, hi, Builtin.lenOf, Builtin.firstCells, hnc, storeCells]

/-- append of a source that reads as news -/
theorem run_append_sl (base : Nat) (t ty e : TypeId) (i : TypeInfo) (z : Value) (bytes : Nat) (ht : P.underlying t = some (.slice e)) (hi : P.info? e = some i) (hz : i.zero = some z)
    (hsize : i.size = 1) (hby : i.bytes = bytes) (hzs : z.cells.size = 1)
    (v : Value) (n : Nat) (xs : List Value) (hown : w.ownsRow base e 1 v n xs)
    (B : Nat) (A : Option Addr) (m c : Nat) (news : List Value) (hr : Sl w B A m c news) (h1 : ∀ u ∈ news, u.oneCell' = true)
    (h63 : n + m ≤ maxLen) (hbytes : (n + m) * bytes ≤ 140737488355328) (hbase : base ≤ w.heap.size) :
    ∃ v' w', (Builtin.append_ #[t, t] ty #[v, .slice A m c]).run P w = .ok v' w' ∧ w'.ownsRow base e 1 v' (n + m) (xs ++ news) ∧ w.grownBy w' v.ownBlock ∧
      (v'.ownBlock = v.ownBlock ∨ v'.ownBlock = some w.heap.size) := by
  rcases A with _ | ad
  · have hm : m = 0 := by
      rcases Nat.eq_zero_or_pos m with h0 | h0
      · exact h0
      · obtain ⟨ad, h, _⟩ := hr.at_ h0
        cases h
    subst hm
    have hn : news = [] := List.eq_nil_of_length_eq_zero hr.len
    subst hn
    exact ⟨v, w, run_append_of_nil w base t ty e i 1 ht hi v n xs hown c, by simpa using hown, World.grownBy.refl w _, .inl rfl⟩
  · have hcells : ∀ j u, news[j]? = some u → w.cell? (ad.add j) = some u := by
      intro j u hu
      rcases Nat.eq_zero_or_pos m with h0 | h0
      · subst h0
        have hn : news = [] := List.eq_nil_of_length_eq_zero hr.len
        subst hn
        simp at hu
      · obtain ⟨ad', h, _, hc⟩ := hr.at_ h0
        injection h with h
        subst h
        exact hc j u hu
    obtain ⟨v', w', hrun, h2, h3, _, h5⟩ := run_append_own_at (P := P) w base t ty e i z 1 bytes ht hi hz hsize hby hzs (by omega) v n xs hown ad m c news (by rw [hr.len]; omega) hcells h1 h63 hbytes hbase
    exact ⟨v', w', hrun, h2, h3, h5⟩

theorem wp_append_sl {o : Oper} {a : Act} {K : Act → World → Prop} {Q : Exit → Act → World → Prop} (s x : Operand) (t : TypeId)
    (ho : o.op = .call { callee := .builtin .append, args := #[s, x], argTypes := #[t, t] })
    (base : Nat) (e : TypeId) (i : TypeInfo) (z : Value) (bytes : Nat) (ht : P.underlying t = some (.slice e)) (hi : P.info? e = some i) (hz : i.zero = some z)
    (hsize : i.size = 1) (hby : i.bytes = bytes) (hzs : z.cells.size = 1)
    (v : Value) (n : Nat) (xs : List Value) (hs : a.eval s = v) (hown : w.ownsRow base e 1 v n xs)
    (B : Nat) (A : Option Addr) (m c : Nat) (news : List Value) (hx : a.eval x = .slice A m c) (hr : Sl w B A m c news) (h1 : ∀ u ∈ news, u.oneCell' = true)
    (h63 : n + m ≤ maxLen) (hbytes : (n + m) * bytes ≤ 140737488355328) (hbase : base ≤ w.heap.size)
    (h : ∀ v' w', w'.ownsRow base e 1 v' (n + m) (xs ++ news) → w.grownBy w' v.ownBlock → (v'.ownBlock = v.ownBlock ∨ v'.ownBlock = some w.heap.size) → K (a.put o.dst v') w') : o.wp P a w K Q := by
  obtain ⟨v', w', hrun, h2, h3, h4⟩ := run_append_sl (P := P) w base t o.type e i z bytes ht hi hz hsize hby hzs v n xs hown B A m c news hr h1 h63 hbytes hbase
  unfold Oper.wp execOp
  simp only [ho, resolve, invoke, builtin, Sem.run_bind, Sem.run_pure, Result.andThen_ok, List.map_toArray, List.map_cons, List.map_nil, hs, hx, hrun]
  exact h v' w' h2 h3 h4

theorem wpList_append_sl {ops : Array Oper} {rest : List Oper} {o : Oper} {a : Act} {Q : Exit → Act → World → Prop} (hgd : o.guard = none) (s x : Operand) (t : TypeId)
    (ho : o.op = .call { callee := .builtin .append, args := #[s, x], argTypes := #[t, t] })
    (base : Nat) (e : TypeId) (i : TypeInfo) (z : Value) (bytes : Nat) (ht : P.underlying t = some (.slice e)) (hi : P.info? e = some i) (hz : i.zero = some z)
    (hsize : i.size = 1) (hby : i.bytes = bytes) (hzs : z.cells.size = 1)
    (v : Value) (n : Nat) (xs : List Value) (hs : a.eval s = v) (hown : w.ownsRow base e 1 v n xs)
    (B : Nat) (A : Option Addr) (m c : Nat) (news : List Value) (hx : a.eval x = .slice A m c) (hr : Sl w B A m c news) (h1 : ∀ u ∈ news, u.oneCell' = true)
    (h63 : n + m ≤ maxLen) (hbytes : (n + m) * bytes ≤ 140737488355328) (hbase : base ≤ w.heap.size)
    (h : ∀ v' w', w'.ownsRow base e 1 v' (n + m) (xs ++ news) → w.grownBy w' v.ownBlock → (v'.ownBlock = v.ownBlock ∨ v'.ownBlock = some w.heap.size) → wpList P ops Q rest (a.put o.dst v') w') : wpList P ops Q (o :: rest) a w :=
  wpList_plain hgd fun _ hK => wp_append_sl w s x t ho base e i z bytes ht hi hz hsize hby hzs v n xs hs hown B A m c news hx hr h1 h63 hbytes hbase fun v' w' h2 h3 h4 => hK _ _ (h v' w' h2 h3 h4)

theorem step_append_sl {ops : Array Oper} {o : Oper} {a : Act} {K : Act → World → Prop} {Q : Exit → Act → World → Prop} {E : Prop} (hgd : o.guard = none) (s x : Operand) (t : TypeId)
    (ho : o.op = .call { callee := .builtin .append, args := #[s, x], argTypes := #[t, t] })
    (base : Nat) (e : TypeId) (i : TypeInfo) (z : Value) (bytes : Nat) (ht : P.underlying t = some (.slice e)) (hi : P.info? e = some i) (hz : i.zero = some z)
    (hsize : i.size = 1) (hby : i.bytes = bytes) (hzs : z.cells.size = 1)
    (v : Value) (n : Nat) (xs : List Value) (hs : a.eval s = v) (hown : w.ownsRow base e 1 v n xs)
    (B : Nat) (A : Option Addr) (m c : Nat) (news : List Value) (hx : a.eval x = .slice A m c) (hr : Sl w B A m c news) (h1 : ∀ u ∈ news, u.oneCell' = true)
    (h63 : n + m ≤ maxLen) (hbytes : (n + m) * bytes ≤ 140737488355328) (hbase : base ≤ w.heap.size)
    (h : ∀ v' w', w'.ownsRow base e 1 v' (n + m) (xs ++ news) → w.grownBy w' v.ownBlock → (v'.ownBlock = v.ownBlock ∨ v'.ownBlock = some w.heap.size) → K (a.put o.dst v') w') :
    if Region.wanted o (yielded ops a.tmps) = true then Oper.wp P o a w K Q else E := by
  have hw : Region.wanted o (yielded ops a.tmps) = true := by simp [Region.wanted, hgd]
  rw [if_pos hw]
  exact wp_append_sl w s x t ho base e i z bytes ht hi hz hsize hby hzs v n xs hs hown B A m c news hx hr h1 h63 hbytes hbase h
end

theorem one_bvs (l : List UInt8) : ∀ u ∈ bvs l, u.oneCell' = true := by
  intro u hu
  simp only [bvs, List.mem_map] at hu
  obtain ⟨b, _, rfl⟩ := hu
  rfl

/-- an owned row in a later world -/
theorem own_below {w w' : World} {base B : Nat} {e : TypeId} {size n : Nat} {v : Value} {xs : List Value} (h : w.ownsRow base e size v n xs) (hb : Below B w w') (hB : w.heap.size ≤ B) : w'.ownsRow base e size v n xs := by
  rcases h.2 with ⟨rfl, h0⟩ | ⟨g', cap, cur, rfl, h1, h2, h3⟩
  · exact ⟨h.1, .inl ⟨rfl, h0⟩⟩
  · exact ⟨h.1, .inr ⟨g', cap, cur, rfl, h1, (hb.block _ (by have := lt_of_heap h2; omega)).trans h2, h3⟩⟩
theorem own_base {w : World} {base base' : Nat} {e : TypeId} {size n : Nat} {v : Value} {xs : List Value} (h : w.ownsRow base e size v n xs) (hb : base' ≤ base) : w.ownsRow base' e size v n xs := by
  rcases h.2 with ⟨rfl, h0⟩ | ⟨g', cap, cur, rfl, h1, h3⟩
  · exact ⟨h.1, .inl ⟨rfl, h0⟩⟩
  · exact ⟨h.1, .inr ⟨g', cap, cur, rfl, by omega, h3⟩⟩
/-- an owned row reads as a slice; the row's value in its parts -/
theorem own_sl {w : World} {base : Nat} {e : TypeId} {v : Value} {n : Nat} {xs : List Value} (h : w.ownsRow base e 1 v n xs) :
    ∃ A c, v = .slice A n c ∧ Sl w w.heap.size A n c xs ∧ (0 < n → ∃ ad, A = some ad ∧ base ≤ ad.block) := by
  rcases h.2 with ⟨rfl, rfl⟩ | ⟨g, cap, cur, rfl, hb, hg, hnc, hcm, hcs, ht⟩
  · exact ⟨none, 0, rfl, ⟨by simpa using h.1, Nat.le_refl _, by omega, fun h => absurd h (by omega)⟩, fun h => absurd h (by omega)⟩
  · refine ⟨_, _, rfl, ⟨by simpa using h.1, hnc, hcm, fun _ => ⟨_, rfl, lt_of_heap hg, h.cells (g := g) rfl⟩⟩, fun _ => ⟨_, rfl, hb⟩⟩
end Go.Proofs.YtbjajboodohabaaGreat
