/- Words for memory: slices that read as lists, nil included; blocks that are known whole. -/
import Derived.Test.YtchlbpfeiamieaaProg
import Derived.WalkKit
import Derived.WalkSpells
import Derived.WalkLawsBesides
import Derived.Lib.Hide
import Derived.Deep.QuietTactic
import Derived.BigQuiet
import Derived.Deep.LoopGhost
import Derived.Maps.AppendAt
import Derived.Deep.AppendLies
import Derived.Laws.OwnMore
namespace Go.Proofs.Ytchlbpfeiamieaa
open Go.RowKit

theorem block_add (a : Addr) (n : Nat) : (a.add n).block = a.block := by unfold Addr.add; split <;> rfl
theorem add_add (a : Addr) (i j : Nat) : (a.add i).add j = a.add (i + j) := by
  unfold Addr.add
  by_cases hi : i = 0 <;> by_cases hj : j = 0 <;> simp [hi, hj, Nat.add_assoc]

/-- A slice value '.slice A n c' holds the cells xs; they lie below block B. -/
structure Sl (w : World) (B : Nat) (A : Option Addr) (n c : Nat) (xs : List Value) : Prop where
  len : xs.length = n
  cap : n ≤ c
  mx : c ≤ 9223372036854775807
  at_ : 0 < n → ∃ ad, A = some ad ∧ ad.block < B ∧ ∀ j u, xs[j]? = some u → w.cell? (ad.add j) = some u

section
variable {w w' : World} {B B' n c : Nat} {A : Option Addr} {xs : List Value}
theorem Sl.keep (h : Sl w B A n c xs) (hk : ∀ p : Addr, p.block < B → w'.cell? p = w.cell? p) : Sl w' B A n c xs :=
  ⟨h.len, h.cap, h.mx, fun hn => by
    obtain ⟨ad, e, hb, hc⟩ := h.at_ hn
    exact ⟨ad, e, hb, fun j u hu => (hk _ (by rw [block_add]; exact hb)).trans (hc j u hu)⟩⟩
theorem Sl.more (h : Sl w B A n c xs) (hB : B ≤ B') : Sl w B' A n c xs :=
  ⟨h.len, h.cap, h.mx, fun hn => by
    obtain ⟨ad, e, hb, hc⟩ := h.at_ hn
    exact ⟨ad, e, by omega, hc⟩⟩
theorem Sl.below (h : Sl w B A n c xs) (hb : Below B w w') : Sl w' B A n c xs := h.keep fun _ hp => hb.cell hp
theorem Sl.drew (h : Sl w B A n c xs) : Sl w.drew B A n c xs := ⟨h.len, h.cap, h.mx, h.at_⟩
theorem Sl.drewN (h : Sl w B A n c xs) (k : Nat) : Sl (w.drewN k) B A n c xs := ⟨h.len, h.cap, h.mx, h.at_⟩
theorem Sl.alloc (h : Sl w B A n c xs) (hB : B ≤ w.heap.size) (o : Obj) : Sl (w.alloc o) B A n c xs := h.keep fun p hp => World.cell?_alloc_lt w o p (by omega)
theorem Sl.setCell (h : Sl w B A n c xs) {p : Addr} (hB : B ≤ p.block) (u : Value) : Sl (w.setCell p u) B A n c xs :=
  h.keep fun q hq => World.cell?_setCell_other w p q u (fun e => by subst e; omega)
theorem Sl.grown (h : Sl w B A n c xs) {row : Option Nat} (hg : w.grownBy w' row) (hB : B ≤ w.heap.size) (hr : ∀ g, row = some g → B ≤ g) : Sl w' B A n c xs :=
  h.keep fun p hp => World.cell?_of_block (hg.block p.block (by omega) (fun e => by have := hr _ e.symm; omega))
theorem Sl.get (h : Sl w B A n c xs) {k : Nat} (hk : k < n) : ∃ ad u, A = some ad ∧ ad.block < B ∧ xs[k]? = some u ∧ w.cell? (ad.add k) = some u := by
  obtain ⟨ad, e, hb, hc⟩ := h.at_ (by omega)
  have hl : k < xs.length := by have := h.len; omega
  exact ⟨ad, xs[k], e, hb, List.getElem?_eq_getElem hl, hc k _ (List.getElem?_eq_getElem hl)⟩
theorem Sl.nil_ : Sl w B A 0 c [] ↔ c ≤ 9223372036854775807 := ⟨fun h => h.mx, fun h => ⟨rfl, Nat.zero_le _, h, fun h => absurd h (by omega)⟩⟩
end

/-- a byte as a value -/
def bv (b : UInt8) : Value := .int .u8 (b.toNat : Int)
/-- bytes as values -/
def bvs (l : List UInt8) : List Value := l.map bv
@[simp] theorem bvs_length (l : List UInt8) : (bvs l).length = l.length := by simp [bvs]

/-- A slice of slices of bytes. -/
structure Sls (w : World) (B : Nat) (A : Option Addr) (n c : Nat) (vs : List Value) (ps : List (List UInt8)) : Prop where
  sl : Sl w B A n c vs
  len : ps.length = n
  each : ∀ (i : Nat) (p : List UInt8), ps[i]? = some p → ∃ Ai ci, vs[i]? = some (Value.slice Ai p.length ci) ∧ Sl w B Ai p.length ci (bvs p)
section
variable {w w' : World} {B B' n c : Nat} {A : Option Addr} {vs : List Value} {ps : List (List UInt8)}
theorem Sls.keep (h : Sls w B A n c vs ps) (hk : ∀ p : Addr, p.block < B → w'.cell? p = w.cell? p) : Sls w' B A n c vs ps :=
  ⟨h.sl.keep hk, h.len, fun i p hi => let ⟨Ai, ci, e, hs⟩ := h.each i p hi; ⟨Ai, ci, e, hs.keep hk⟩⟩
theorem Sls.more (h : Sls w B A n c vs ps) (hB : B ≤ B') : Sls w B' A n c vs ps :=
  ⟨h.sl.more hB, h.len, fun i p hi => let ⟨Ai, ci, e, hs⟩ := h.each i p hi; ⟨Ai, ci, e, hs.more hB⟩⟩
theorem Sls.below (h : Sls w B A n c vs ps) (hb : Below B w w') : Sls w' B A n c vs ps := h.keep fun _ hp => hb.cell hp
theorem Sls.alloc (h : Sls w B A n c vs ps) (hB : B ≤ w.heap.size) (o : Obj) : Sls (w.alloc o) B A n c vs ps := h.keep fun p hp => World.cell?_alloc_lt w o p (by omega)
theorem Sls.get (h : Sls w B A n c vs ps) {k : Nat} (hk : k < n) :
    ∃ ad Ai ci, A = some ad ∧ ad.block < B ∧ w.cell? (ad.add k) = some (.slice Ai (ps[k]?.getD []).length ci) ∧ Sl w B Ai (ps[k]?.getD []).length ci (bvs (ps[k]?.getD [])) := by
  have hl : k < ps.length := by have := h.len; omega
  obtain ⟨Ai, ci, e, hs⟩ := h.each k _ (List.getElem?_eq_getElem hl)
  obtain ⟨ad, u, rfl, hb, hu, hc⟩ := h.sl.get hk
  rw [e] at hu
  cases hu
  refine ⟨ad, Ai, ci, rfl, hb, ?_, ?_⟩ <;> simpa [List.getElem?_eq_getElem hl] using ‹_›
end
end Go.Proofs.Ytchlbpfeiamieaa
