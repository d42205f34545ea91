/- A range over a function that gives no element, within a function that is itself ranged over. -/
import Derived.Test.YtchlbpfeiamieaaVb
namespace Go.Proofs.Ytchlbpfeiamieaa
open Go.RowKit Go.Shelf

/-- The iterator gives nothing; what abides whatever is no cells from its heap on stays. -/
def SeqNone (F : Fence) (n : Nat) (P : Program) (g : Nat) (lb : Array Value) (w : World) : Prop :=
  ∀ (l : Nat) (J : World → Prop) (W : World), Below w.heap.size w W → OwnFrom W.heap.size (fun (_ : Unit) X => J X) → J W →
    CallsIn F n P g (#[.func (.yield l) #[] #[]] ++ lb) W fun e W' => (∃ v, e = .returned v) ∧ J W'
variable {F : Fence} {n : Nat} {P : Program}
theorem wpIn_range_none {g : Operand} {ps : Array Tmp} {assign body : Code} {Q : Exit → Act → World → Prop} {a : Act} {w : World}
    (hro : F.round = none) (h1 : 1 ≤ n) {gf : Nat} {lb : Array Value} (hg : a.eval g = .func (.func gf) #[] lb) (hFg : F.fn gf) (eg : ∀ args w, (callFunc gf args).run P w = .ok (.enter gf args) w)
    {w0 : World} (hseq : SeqNone F (n - 1) P gf lb w0) (hb0 : Below w0.heap.size w0 w)
    (I : World → Prop) (hI : OwnFrom w.heap.size (fun (_ : Unit) X => I X)) (h0 : I w)
    (hdone : ∀ (D : Nat) (W : World), w.heap.size ≤ D → I W → W.heap[D]? = some (.deferred (some [])) → Q .normal { a with defers := { target := .collected D, args := #[] } :: a.defers } W) :
    (Code.rangeFunc g ps assign body).wpIn F n P Q a w := by
  refine wpIn_rangeFunc fun fn hfn => ?_
  rw [hro]
  let R : LoopState → Loop := fun st => { state := st, pending := none, fn, tmps := a.tmps, params := ps, assign, body, defers := w.heap.size }
  let W1 := (w.alloc (.deferred (some []))).alloc (.loop (R .ready))
  have hsz : W1.heap.size = w.heap.size + 2 := by simp [W1]
  have hL1 : W1.heap[w.heap.size + 1]? = some (.loop (R .ready)) := by
    have := World.alloc_heap_new (w.alloc (.deferred (some []))) (.loop (R .ready)); rwa [World.size_alloc] at this
  have hD1 : W1.heap[w.heap.size]? = some (.deferred (some [])) := (Below.heap_alloc _ _ _ (by simp)).trans (World.alloc_heap_new w _)
  have hBW : Below w0.heap.size w0 W1 := hb0.trans ((((Below.refl _ w).alloc (Nat.le_refl _) _).alloc (by simp) _).mono hb0.size)
  let J : World → Prop := fun W => I W ∧ W.heap[w.heap.size + 1]? = some (.loop (R .ready)) ∧ W.heap[w.heap.size]? = some (.deferred (some []))
  have hJ : OwnFrom W1.heap.size (fun (_ : Unit) X => J X) := fun k A B row hs hgr hr => by
    have keeps := fun (i : Nat) (o : Obj) (ho : A.heap[i]? = some o) (hi : i < W1.heap.size) => (hgr.block i (lt_of_heap ho) (fun e => by have := (hr i e.symm).1; omega)).trans ho
    refine ⟨hI () A B row hs.1 hgr (fun r e => ?_), keeps _ _ hs.2.1 (by omega), keeps _ _ hs.2.2 (by omega)⟩
    obtain ⟨h2, o, ho, hw⟩ := hr r e
    exact ⟨by omega, o, ho, hw⟩
  refine ⟨w.heap.size + 1, [{ target := .collected w.heap.size, args := #[] }], W1, { target := .fn (.func gf) lb, args := #[.func (.yield (w.heap.size + 1)) #[] #[]] }, W1, gf,
    #[.func (.yield (w.heap.size + 1)) #[] #[]] ++ lb, W1, run_enterLoop_outer _ _ _ _ _, ?_, ?_, ?_, fun _ => h1, ?_⟩
  · simp only [resolve, hg]
    simp [go_sem]
  · intro f' hf'
    simp [Target.leads] at hf'
    subst hf'
    exact hFg
  · simp [invoke, go_sem, eg]
  refine (hseq (w.heap.size + 1) J W1 hBW hJ ⟨hI.alloc (s := ()) _ (hI.alloc (s := ()) _ h0), hL1, hD1⟩).mono ?_
  rintro e W2 ⟨⟨v, rfl⟩, hi, hl, hd⟩
  exact ⟨none, _, run_endLoop (P := P) hl (by simp [R]), hdone _ _ (Nat.le_refl _) (hI.putObj (s := ()) _ hi (by omega) hl rfl) ((World.putObj_heap_other (by omega)).trans hd)⟩
end Go.Proofs.Ytchlbpfeiamieaa
