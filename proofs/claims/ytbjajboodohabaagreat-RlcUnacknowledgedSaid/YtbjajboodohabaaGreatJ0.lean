/- A queue's row: a row of its own from an offset on ('q = q[1:]', 'q = append(q, x)'). -/
import Derived.Test.YtbjajboodohabaaGreatBa
import Derived.ArgAppend
namespace Go.Proofs.YtbjajboodohabaaGreat
open Go.RowKit

/-- v is a slice of n elements xs (one cell each) in a row that lies at base or behind it, from whatever offset on. -/
def OwnQ (w : World) (base : Nat) (e : TypeId) (v : Value) (n : Nat) (xs : List Value) : Prop :=
  xs.length = n ∧ ((v = .slice none 0 0 ∧ n = 0) ∨ ∃ g o cap cur, v = .slice (some ⟨g, o, none⟩) n cap ∧ base ≤ g ∧ w.heap[g]? = some (.cells cur e (0, 0)) ∧ n ≤ cap ∧ cap ≤ maxLen ∧ o + cap ≤ cur.size ∧ (cur.toList.drop o).take n = xs)
/-- the block of a queue's row -/
def qBlock : Value → Option Nat
  | .slice (some ad) _ _ => some ad.block
  | _ => none
section
variable {w w' : World} {base : Nat} {e : TypeId} {v : Value} {n : Nat} {xs : List Value}
theorem ownQ_nil (w : World) (base : Nat) (e : TypeId) : OwnQ w base e (.slice none 0 0) 0 [] := ⟨rfl, .inl ⟨rfl, rfl⟩⟩
theorem OwnQ.of_own (h : w.ownsRow base e 1 v n xs) : OwnQ w base e v n xs := by
  rcases h.2 with ⟨rfl, h0⟩ | ⟨g, cap, cur, rfl, hb, hg, hnc, hcm, hcs, ht⟩
  · exact ⟨by simpa using h.1, .inl ⟨rfl, h0⟩⟩
  · exact ⟨by simpa using h.1, .inr ⟨g, 0, cap, cur, rfl, hb, hg, hnc, hcm, by omega, by simpa using ht⟩⟩
theorem OwnQ.keep (h : OwnQ w base e v n xs) (hk : ∀ g, qBlock v = some g → w'.heap[g]? = w.heap[g]?) : OwnQ w' base e v n xs := by
  rcases h.2 with ⟨rfl, h0⟩ | ⟨g, o, cap, cur, rfl, hb, hg, hr⟩
  · exact ⟨h.1, .inl ⟨rfl, h0⟩⟩
  · exact ⟨h.1, .inr ⟨g, o, cap, cur, rfl, hb, (hk g rfl).trans hg, hr⟩⟩
theorem OwnQ.row (h : OwnQ w base e v n xs) {g : Nat} (hg : qBlock v = some g) : ∃ cur, w.heap[g]? = some (.cells cur e (0, 0)) ∧ base ≤ g := by
  rcases h.2 with ⟨rfl, _⟩ | ⟨g', o, cap, cur, rfl, hb, hh, _⟩
  · simp [qBlock] at hg
  · have : g' = g := by simpa [qBlock] using hg
    subst this
    exact ⟨cur, hh, hb⟩
theorem OwnQ.lt (h : OwnQ w base e v n xs) {g : Nat} (hg : qBlock v = some g) : base ≤ g ∧ g < w.heap.size := by
  obtain ⟨cur, hh, hb⟩ := h.row hg
  exact ⟨hb, lt_of_heap hh⟩
theorem OwnQ.below {B : Nat} (h : OwnQ w base e v n xs) (hb : Below B w w') (hB : w.heap.size ≤ B) : OwnQ w' base e v n xs :=
  h.keep fun g hg => hb.block g (by have := (h.lt hg).2; omega)
theorem OwnQ.alloc (h : OwnQ w base e v n xs) (o : Obj) : OwnQ (w.alloc o) base e v n xs := h.keep fun g hg => Below.heap_alloc w o g (h.lt hg).2
theorem OwnQ.drew (h : OwnQ w base e v n xs) : OwnQ w.drew base e v n xs := h
theorem OwnQ.base_ {b' : Nat} (h : OwnQ w base e v n xs) (hb : b' ≤ base) : OwnQ w b' e v n xs := by
  rcases h.2 with ⟨rfl, h0⟩ | ⟨g, o, cap, cur, rfl, hg, hr⟩
  · exact ⟨h.1, .inl ⟨rfl, h0⟩⟩
  · exact ⟨h.1, .inr ⟨g, o, cap, cur, rfl, by omega, hr⟩⟩
/-- a row of another type is another block -/
theorem OwnQ.blk_ne {g : Nat} {t : TypeId} {cs : Array Value} (h : OwnQ w base e v n xs) (hb : Blk w g t cs) (hne : e ≠ t) : qBlock v ≠ some g := by
  intro hg
  obtain ⟨cur, hh, _⟩ := h.row hg
  unfold Blk at hb
  rw [hh] at hb
  cases hb
  exact hne rfl
theorem OwnQ.store {g i : Nat} {t : TypeId} {cs : Array Value} (h : OwnQ w base e v n xs) (hb : Blk w g t cs) (hne : e ≠ t) (u : Value) : OwnQ (w.setCell ⟨g, i, none⟩ u) base e v n xs :=
  h.keep fun k hk => Below.heap_setCell w _ _ k (fun ek => by
    have e2 : k = g := ek
    subst e2
    exact h.blk_ne hb hne hk)
theorem OwnQ.grown {row : Option Nat} (h : OwnQ w base e v n xs) (hg : w.grownBy w' row) (hr : ∀ g, row = some g → qBlock v ≠ some g) : OwnQ w' base e v n xs :=
  h.keep fun g hgv => hg.block g (h.lt hgv).2 (fun e => hr g e.symm hgv)
theorem OwnQ.cells {g o cap : Nat} (h : OwnQ w base e (.slice (some ⟨g, o, none⟩) n cap) n xs) : ∀ j u, xs[j]? = some u → w.cell? ⟨g, o + j, none⟩ = some u := by
  intro j u hu
  rcases h.2 with ⟨hv, _⟩ | ⟨g', o', cap', cur, hv, hb, hh, hnc, hcm, hs, ht⟩
  · cases hv
  · cases hv
    rw [cell_of_row w g (o + j) cur e (0, 0) hh]
    rw [← ht, List.getElem?_take] at hu
    split at hu
    · rw [List.getElem?_drop] at hu
      simpa using hu
    · cases hu
theorem OwnQ.sl (h : OwnQ w base e v n xs) : ∃ A c, v = .slice A n c ∧ Sl w w.heap.size A n c xs := by
  rcases h.2 with ⟨rfl, rfl⟩ | ⟨g, o, cap, cur, rfl, hb, hh, hnc, hcm, hs, ht⟩
  · exact ⟨none, 0, rfl, by have := List.eq_nil_of_length_eq_zero h.1; subst this; exact Sl.nil_.2 (by omega)⟩
  · refine ⟨_, _, rfl, h.1, hnc, by unfold maxLen at hcm; omega, fun _ => ⟨_, rfl, lt_of_heap hh, fun j u hu => ?_⟩⟩
    rw [Addr.add_lit]
    exact h.cells j u hu
/-- the first element left out -/
theorem OwnQ.tail {x : Value} {g o cap : Nat} (h : OwnQ w base e (.slice (some ⟨g, o, none⟩) (n + 1) cap) (n + 1) (x :: xs)) : OwnQ w base e (.slice (some (if cap = 1 then ⟨g, o, none⟩ else ⟨g, o + 1, none⟩)) n (cap - 1)) n xs := by
  have hl : xs.length = n := by have := h.1; simpa using this
  rcases h.2 with ⟨hv, _⟩ | ⟨g', o', cap', cur, hv, hb, hh, hnc, hcm, hs, ht⟩
  · cases hv
  · cases hv
    by_cases hc : cap = 1
    · subst hc
      have hn : n = 0 := by omega
      subst hn
      have hx := List.eq_nil_of_length_eq_zero hl
      subst hx
      exact ⟨rfl, .inr ⟨g, o, 0, cur, by simp, hb, hh, by omega, by omega, by omega, by simp⟩⟩
    · refine ⟨hl, .inr ⟨g, o + 1, cap - 1, cur, by simp [hc], hb, hh, by omega, by omega, by omega, ?_⟩⟩
      have h2 := congrArg (List.drop 1) ht
      rw [List.drop_take, List.drop_drop] at h2
      simpa using h2

variable {P : Program}
/-- append of one element to a queue's row -/
theorem run_append_q (t ty : TypeId) (i : TypeInfo) (z : Value) (bytes : Nat) (ht : P.underlying t = some (.slice e)) (hi : P.info? e = some i) (hz : i.zero = some z)
    (hsize : i.size = 1) (hby : i.bytes = bytes) (hzs : z.cells.size = 1) (hown : OwnQ w base e v n xs)
    (a : Addr) (c : Nat) (u : Value) (hu : w.cell? a = some u) (h1 : u.oneCell' = true)
    (h63 : n + 1 ≤ maxLen) (hbytes : (n + 1) * bytes ≤ 140737488355328) (hbase : base ≤ w.heap.size) :
    ∃ v' w', (Builtin.append_ #[t, t] ty #[v, .slice (some a) 1 c]).run P w = .ok v' w' ∧ OwnQ w' base e v' (n + 1) (xs ++ [u]) ∧ w.grownBy w' (qBlock v) ∧ (∀ k, qBlock v' = some k → qBlock v = some k ∨ w.heap.size ≤ k) := by
  have hnews : ∀ j x, [u][j]? = some x → w.cell? (a.add j) = some x := by
    intro j x hx
    cases j with
    | zero => simp at hx; subst hx; simpa [Addr.add] using hu
    | succ j => simp at hx
  rcases hown.2 with ⟨rfl, rfl⟩ | ⟨g, o, cap, cur, rfl, hbg, hg, hnc, hcm, hcs, htake⟩
  · have hx := List.eq_nil_of_length_eq_zero hown.1
    subst hx
    obtain ⟨v', w', hr, h2, h3, _⟩ := run_append_own (P := P) w w.heap.size t ty e i z 1 bytes ht hi hz hsize hby hzs (by omega) (.slice none 0 0) 0 [] (World.ownsRow_nil _ _ _ _) a 1 c [u] rfl hnews (by simpa using h1) h63 hbytes (Nat.le_refl _)
    exact ⟨v', w', hr, (OwnQ.of_own h2).base_ hbase, h3, fun k hk => .inr ((OwnQ.of_own h2).lt hk).1⟩
  · by_cases hroom : n + 1 ≤ cap
    · have hcell : (w.cell? ⟨g, o + n, none⟩).isSome = true := by
        rw [cell_of_row w g (o + n) cur e (0, 0) hg, Array.getElem?_eq_getElem (by omega)]
        rfl
      have hfr : w.frozen? ⟨g, o + n, none⟩ = false := by simp [World.frozen?, hg]
      have hc0 : ∀ j, j < [u].length → (w.cell? ⟨g, o + n * i.size + j, none⟩).isSome = true := by
        intro j hj
        have hj0 : j = 0 := by simpa using hj
        subst hj0
        simpa [hsize] using hcell
      have hf0 : ∀ j, j < [u].length → w.frozen? ⟨g, o + n * i.size + j, none⟩ = false := by
        intro j hj
        have hj0 : j = 0 := by simpa using hj
        subst hj0
        simpa [hsize] using hfr
      have hr := run_append_room_cells (P := P) w t ty e i ht hi g o n cap a 1 c [u] (by rw [hsize]; rfl) hnews (by simpa using h1) hroom hc0 hf0
      rw [hsize, Nat.mul_one] at hr
      have hset : w.setCells g (o + n) [u] = w.setCell ⟨g, o + n, none⟩ u := rfl
      rw [hset] at hr
      refine ⟨_, _, hr, ⟨by simp [hown.1], .inr ⟨g, o, cap, cur.setIfInBounds (o + n) u, rfl, hbg, heap_setCell_same w g (o + n) cur e u hg, hroom, hcm, by simpa using hcs, ?_⟩⟩, grownBy_setAt w g (o + n) u, fun k hk => .inl hk⟩
      rw [Array.toList_setIfInBounds]
      apply List.ext_getElem?
      intro j
      rw [List.getElem?_take, List.getElem?_drop, List.getElem?_set]
      rcases Nat.lt_trichotomy j n with hj | hj | hj
      · rw [if_pos (by omega), if_neg (by omega), List.getElem?_append_left (by rw [hown.1]; exact hj), ← htake, List.getElem?_take, if_pos hj, List.getElem?_drop]
      · subst hj
        rw [if_pos (by omega), if_pos rfl, if_pos (by simp; omega), List.getElem?_append_right (by rw [hown.1]; omega), hown.1, Nat.sub_self]
        rfl
      · rw [if_neg (by omega), List.getElem?_eq_none (by simp [hown.1]; omega)]
    · obtain ⟨v', w', hr, h2, h3⟩ := run_append_arg_grows (P := P) w t ty e i z 1 bytes ht hi hz hsize hby hzs (by omega) ⟨g, o, none⟩ n cap xs (by simpa using hown.1) (fun j x hx => by rw [Addr.add_lit]; exact hown.cells j x hx) a 1 c [u] rfl hnews (by omega) h63 hbytes
      exact ⟨v', w', hr, (OwnQ.of_own h2).base_ hbase, ⟨h3.os, h3.tape, h3.output, h3.size, fun k hk _ => h3.block k hk (by simp)⟩, fun k hk => .inr ((OwnQ.of_own h2).lt hk).1⟩
theorem wp_append_q {o : Oper} {a : Act} {K : Act → World → Prop} {Q : Exit → Act → World → Prop} (s x : Operand) (t : TypeId)
    (ho : o.op = .call { callee := .builtin .append, args := #[s, x], argTypes := #[t, t] })
    (i : TypeInfo) (z : Value) (bytes : Nat) (ht : P.underlying t = some (.slice e)) (hi : P.info? e = some i) (hz : i.zero = some z)
    (hsize : i.size = 1) (hby : i.bytes = bytes) (hzs : z.cells.size = 1) (hs : a.eval s = v) (hown : OwnQ w base e v n xs)
    (ad : Addr) (c : Nat) (u : Value) (hx : a.eval x = .slice (some ad) 1 c) (hu : w.cell? ad = some u) (h1 : u.oneCell' = true)
    (h63 : n + 1 ≤ maxLen) (hbytes : (n + 1) * bytes ≤ 140737488355328) (hbase : base ≤ w.heap.size)
    (h : ∀ v' w', OwnQ w' base e v' (n + 1) (xs ++ [u]) → w.grownBy w' (qBlock v) → (∀ k, qBlock v' = some k → qBlock v = some k ∨ w.heap.size ≤ k) → K (a.put o.dst v') w') : o.wp P a w K Q := by
  obtain ⟨v', w', hr, h2, h3, h4⟩ := run_append_q (P := P) t o.type i z bytes ht hi hz hsize hby hzs hown ad c u hu h1 h63 hbytes hbase
  unfold Oper.wp execOp
  simp only [ho, resolve, invoke, builtin, Sem.run_bind, Sem.run_pure, Result.andThen_ok, List.map_toArray, List.map_cons, List.map_nil, hs, hx, hr]
  exact h v' w' h2 h3 h4
theorem wpList_append_q {ops : Array Oper} {rest : List Oper} {o : Oper} {a : Act} {Q : Exit → Act → World → Prop} (hgd : o.guard = none) (s x : Operand) (t : TypeId)
    (ho : o.op = .call { callee := .builtin .append, args := #[s, x], argTypes := #[t, t] })
    (i : TypeInfo) (z : Value) (bytes : Nat) (ht : P.underlying t = some (.slice e)) (hi : P.info? e = some i) (hz : i.zero = some z)
    (hsize : i.size = 1) (hby : i.bytes = bytes) (hzs : z.cells.size = 1) (hs : a.eval s = v) (hown : OwnQ w base e v n xs)
    (ad : Addr) (c : Nat) (u : Value) (hx : a.eval x = .slice (some ad) 1 c) (hu : w.cell? ad = some u) (h1 : u.oneCell' = true)
    (h63 : n + 1 ≤ maxLen) (hbytes : (n + 1) * bytes ≤ 140737488355328) (hbase : base ≤ w.heap.size)
    (h : ∀ v' w', OwnQ w' base e v' (n + 1) (xs ++ [u]) → w.grownBy w' (qBlock v) → (∀ k, qBlock v' = some k → qBlock v = some k ∨ w.heap.size ≤ k) → wpList P ops Q rest (a.put o.dst v') w') : wpList P ops Q (o :: rest) a w :=
  wpList_plain hgd fun _ hK => wp_append_q s x t ho i z bytes ht hi hz hsize hby hzs hs hown ad c u hx hu h1 h63 hbytes hbase fun v' w' h2 h3 h4 => hK _ _ (h v' w' h2 h3 h4)
theorem step_append_q {ops : Array Oper} {o : Oper} {a : Act} {K : Act → World → Prop} {Q : Exit → Act → World → Prop} {E : Prop} (hgd : o.guard = none) (s x : Operand) (t : TypeId)
    (ho : o.op = .call { callee := .builtin .append, args := #[s, x], argTypes := #[t, t] })
    (i : TypeInfo) (z : Value) (bytes : Nat) (ht : P.underlying t = some (.slice e)) (hi : P.info? e = some i) (hz : i.zero = some z)
    (hsize : i.size = 1) (hby : i.bytes = bytes) (hzs : z.cells.size = 1) (hs : a.eval s = v) (hown : OwnQ w base e v n xs)
    (ad : Addr) (c : Nat) (u : Value) (hx : a.eval x = .slice (some ad) 1 c) (hu : w.cell? ad = some u) (h1 : u.oneCell' = true)
    (h63 : n + 1 ≤ maxLen) (hbytes : (n + 1) * bytes ≤ 140737488355328) (hbase : base ≤ w.heap.size)
    (h : ∀ v' w', OwnQ w' base e v' (n + 1) (xs ++ [u]) → w.grownBy w' (qBlock v) → (∀ k, qBlock v' = some k → qBlock v = some k ∨ w.heap.size ≤ k) → K (a.put o.dst v') w') : if Region.wanted o (yielded ops a.tmps) = true then Oper.wp P o a w K Q else E := by
  have hw : Region.wanted o (yielded ops a.tmps) = true := by simp [Region.wanted, hgd]
  rw [if_pos hw]
  exact wp_append_q s x t ho i z bytes ht hi hz hsize hby hzs hs hown ad c u hx hu h1 h63 hbytes hbase h
end
end Go.Proofs.YtbjajboodohabaaGreat
