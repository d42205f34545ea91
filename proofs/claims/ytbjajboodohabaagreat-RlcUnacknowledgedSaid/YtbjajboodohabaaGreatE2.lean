/- Four components beside each other in memory. -/
import Derived.Test.YtbjajboodohabaaGreatE1
namespace Go.Proofs.YtbjajboodohabaaGreat
open Go.RowKit Go.Shelf
/-- components P i with blocks F i, apart from each other and from the blocks of E, all from base on -/
structure Bag (base : Nat) (E : Nat → Prop) (P : Fin 4 → (Nat → Prop) → World → Prop) (F : Fin 4 → Nat → Prop) (W : World) : Prop where
  p : ∀ i, P i (F i) W
  dis : ∀ i j, i ≠ j → ∀ k, F i k → ¬ F j k
  ge : ∀ i k, F i k → base ≤ k ∧ ¬ E k
  ent : ∀ k, E k → k < W.heap.size
def putP {α : Type} (P : Fin 4 → α) (i : Fin 4) (Q : α) : Fin 4 → α := fun j => if j = i then Q else P j
section
variable {base : Nat} {E : Nat → Prop} {P : Fin 4 → (Nat → Prop) → World → Prop} {F : Fin 4 → Nat → Prop} {W W' : World}
theorem Bag.size (h : Bag base E P F W) (hl : ∀ i, LtP (P i)) {i : Fin 4} {k : Nat} (hk : F i k) : k < W.heap.size := hl i _ _ _ (h.p i) hk
/-- nothing of them turns -/
theorem Bag.below (h : Bag base E P F W) (hf : ∀ i, FarP (P i)) (hb : Below W.heap.size W W') : Bag base E P F W' :=
  ⟨fun i => hf i _ _ _ (fun _ _ => False) (h.p i) ((Kept.of_below hb).mono_at fun k o hk hm => by have := lt_of_heap hk; omega) fun k o hk => hk.elim, h.dis, h.ge, fun k hk => Nat.lt_of_lt_of_le (h.ent k hk) hb.size⟩
/-- one of them is called -/
theorem Bag.callG (h : Bag base E P F W) (hf : ∀ i, FarP (P i)) (hl : ∀ i, LtP (P i)) (hb : base ≤ W.heap.size) (i : Fin 4) {Q : (Nat → Prop) → World → Prop} {G : Nat → Prop} (hQ : Q G W') (hg : ∀ k, G k → F i k ∨ W.heap.size ≤ k) (hk : Kept (OnF (F i)) W W') :
    Bag base E (putP P i Q) (putP F i G) W' ∧ Below base W W' := by
  refine ⟨⟨fun j => ?_, fun a b hab k ha hb' => ?_, fun j k hj => ?_, fun k hk' => Nat.lt_of_lt_of_le (h.ent k hk') hk.size⟩, hk.below (fun k o hm => (h.ge i k hm.1).1) hb⟩
  · unfold putP
    by_cases hj : j = i
    · rw [if_pos hj, if_pos hj]
      exact hQ
    · rw [if_neg hj, if_neg hj]
      exact hf j _ _ _ _ (h.p j) hk fun k o hm => ⟨h.dis i j (fun e => hj e.symm) k hm.1, hm.2⟩
  · unfold putP at ha hb'
    by_cases h1 : a = i
    · rw [if_pos h1] at ha
      rw [if_neg (fun e => hab (h1.trans e.symm))] at hb'
      rcases hg k ha with e | e
      · exact h.dis i b (fun e => hab (h1.trans e)) k e hb'
      · have := h.size hl hb'; omega
    · rw [if_neg h1] at ha
      by_cases h2 : b = i
      · rw [if_pos h2] at hb'
        rcases hg k hb' with e | e
        · exact h.dis a i h1 k ha e
        · have := h.size hl ha; omega
      · rw [if_neg h2] at hb'
        exact h.dis a b hab k ha hb'
  · unfold putP at hj
    by_cases h1 : j = i
    · rw [if_pos h1] at hj
      rcases hg k hj with e | e
      · exact h.ge i k e
      · exact ⟨by omega, fun he => by have := h.ent k he; omega⟩
    · rw [if_neg h1] at hj
      exact h.ge j k hj
end
end Go.Proofs.YtbjajboodohabaaGreat
