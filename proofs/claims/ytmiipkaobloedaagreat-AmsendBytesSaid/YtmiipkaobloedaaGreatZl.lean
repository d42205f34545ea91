/- Plain mathematics: what a transmitter's chunk is, and how its parts join. A queue's row: a row of its own from an offset on ('q = q[1:]', 'q = append(q, x)'). A region that draws its order: loads first, then stores to cells that it loads: what the loads read is asked only as long as a load may still come up. A range over a function whose elements are known by their number: the round's body may use which element it is given. A region that draws its order, within a round of a range over a function: it may be walked as outside of one. -/
import Derived.Test.YtmiipkaobloedaaGreatYBa
import Derived.Test.YtmiipkaobloedaaGreatYUa
import Derived.Test.YtmiipkaobloedaaGreatYWa
import Derived.ArgAppend
import Derived.Deep.RegionHeld3
namespace Go.Proofs.YtmiipkaobloedaaGreat

/-- the parts of a chunk of at most n bytes (cnt parts of size bytes are there, the last of lst bytes, e: it ended an SDU): the new parts, Ends, the SDUs left, the bytes sent of the first -/
def chk (n : Int) : Nat → List (List UInt8) → Nat → Nat → Nat → Nat → Bool → List (List UInt8) × Bool × List (List UInt8) × Nat
  | 0, sdus, sent, _, _, _, e => ([], e, sdus, sent)
  | _ + 1, [], sent, _, _, _, e => ([], e, [], sent)
  | f + 1, x :: rest, sent, cnt, lst, size, e =>
    if cnt = 64 ∨ (0 < cnt ∧ 2047 < lst) then ([], e, x :: rest, sent)
    else if min (n - hdrN ((cnt : Int) + 1)) 32767 - (size : Int) < 1 then ([], e, x :: rest, sent)
    else if sent + (min (n - hdrN ((cnt : Int) + 1)) 32767 - (size : Int)).toNat < x.length then
      ([(x.drop sent).take (min (n - hdrN ((cnt : Int) + 1)) 32767 - (size : Int)).toNat], false, x :: rest, sent + (min (n - hdrN ((cnt : Int) + 1)) 32767 - (size : Int)).toNat)
    else (x.drop sent :: (chk n f rest 0 (cnt + 1) (x.length - sent) (size + (x.length - sent)) true).1, (chk n f rest 0 (cnt + 1) (x.length - sent) (size + (x.length - sent)) true).2)
/-- parts joined at the boundaries: the SDUs that are complete, the one that is open, and whether one is -/
def joinG (op : List UInt8) (sm : Bool) : List (List UInt8) → Bool → List (List UInt8) × List UInt8 × Bool
  | [], _ => ([], op, sm)
  | [p], e => if e then ([op ++ p], [], false) else ([], op ++ p, true)
  | p :: q :: r, e => ((op ++ p) :: (joinG [] false (q :: r) e).1, (joinG [] false (q :: r) e).2)

/-- what a chunk does to the SDUs -/
structure ChkOk (sdus : List (List UInt8)) (sent : Nat) (e : Bool) (R : List (List UInt8) × Bool × List (List UInt8) × Nat) : Prop where
  none_ : R.1 = [] → R = ([], e, sdus, sent)
  some_ : R.1 ≠ [] → ∃ g, sdus = g ++ R.2.2.1 ∧ joinG ((sdus.headD []).take sent) (decide (0 < sent)) R.1 R.2.1 = (g, (R.2.2.1.headD []).take R.2.2.2, decide (0 < R.2.2.2))
  lt_ : ∀ x r, R.2.2.1 = x :: r → R.2.2.2 < x.length
  z_ : R.2.2.1 = [] → R.2.2.2 = 0
theorem chkOk_stop {sdus : List (List UInt8)} {sent : Nat} {e : Bool} (h1 : ∀ x r, sdus = x :: r → sent < x.length) (h2 : sdus = [] → sent = 0) : ChkOk sdus sent e ([], e, sdus, sent) :=
  ⟨fun _ => rfl, fun h => absurd rfl h, h1, h2⟩
theorem chk_ok (n : Int) : ∀ (f : Nat) (sdus : List (List UInt8)) (sent cnt lst size : Nat) (e : Bool), (∀ s ∈ sdus, 1 ≤ s.length) → (∀ x r, sdus = x :: r → sent < x.length) → (sdus = [] → sent = 0) →
    ChkOk sdus sent e (chk n f sdus sent cnt lst size e)
  | 0, sdus, sent, cnt, lst, size, e, _, h1, h2 => by rw [chk]; exact chkOk_stop h1 h2
  | f + 1, [], sent, cnt, lst, size, e, _, h1, h2 => by rw [chk]; exact chkOk_stop h1 h2
  | f + 1, x :: rest, sent, cnt, lst, size, e, hp, h1, h2 => by
    have hs := h1 x rest rfl
    rw [chk]
    split
    · exact chkOk_stop h1 h2
    split
    · exact chkOk_stop h1 h2
    rename_i hroom
    have hr1 : 1 ≤ (min (n - hdrN ((cnt : Int) + 1)) 32767 - (size : Int)).toNat := by omega
    generalize (min (n - hdrN ((cnt : Int) + 1)) 32767 - (size : Int)).toNat = room at *
    split
    · rename_i hlt
      refine ⟨(fun h => by cases h), (fun _ => ⟨[], rfl, ?_⟩), (fun y r hy => ?_), (fun h => by cases h)⟩
      · have e1 : x.take sent ++ (x.drop sent).take room = x.take (sent + room) := by rw [List.take_add]
        simp only [joinG, Bool.false_eq_true, if_false, List.headD_cons, e1]
        rw [show decide (0 < sent + room) = true by simp; omega]
      · simp only [List.cons.injEq] at hy
        obtain ⟨rfl, _⟩ := hy
        exact hlt
    · have ih := chk_ok n f rest 0 (cnt + 1) (x.length - sent) (size + (x.length - sent)) true (fun s hs => hp s (by simp [hs])) (fun y r hy => by have := hp y (by simp [hy]); omega) (fun _ => rfl)
      generalize chk n f rest 0 (cnt + 1) (x.length - sent) (size + (x.length - sent)) true = R at *
      refine ⟨(fun h => by cases h), (fun _ => ?_), ih.lt_, ih.z_⟩
      obtain ⟨q, e', s', t'⟩ := R
      cases q with
      | nil =>
        have hR := ih.none_ rfl
        cases hR
        exact ⟨[x], rfl, by simp [joinG]⟩
      | cons a b =>
        obtain ⟨g, hg1, hg2⟩ := ih.some_ (by simp)
        refine ⟨x :: g, by rw [List.cons_append, ← hg1], ?_⟩
        simp only [joinG, List.headD_cons]
        rw [List.take_append_drop]
        simp only [List.take_zero, Nat.lt_irrefl, decide_false] at hg2
        rw [hg2]

/-- the parts of a chunk: at most 64, none empty, all but the last at most 2047 bytes, in all at most 32767 bytes -/
structure ChkParts (cnt size : Nat) (q : List (List UInt8)) : Prop where
  num : cnt ≤ 64 → cnt + q.length ≤ 64
  pos : ∀ p ∈ q, 1 ≤ p.length
  short : ∀ i, i + 1 < q.length → (q[i]?.getD []).length ≤ 2047
  sum : size ≤ 32767 → size + sumLen q ≤ 32767
theorem chkParts_nil (cnt size : Nat) : ChkParts cnt size [] := ⟨fun h => by simpa using h, by simp, fun i hi => by simp at hi, fun h => by simpa [sumLen] using h⟩
theorem chk_long (n : Int) (f : Nat) (sdus : List (List UInt8)) (sent cnt lst size : Nat) (e : Bool) (hc : 0 < cnt) (hl : 2047 < lst) : (chk n f sdus sent cnt lst size e).1 = [] := by
  cases f with
  | zero => rfl
  | succ f =>
    cases sdus with
    | nil => rfl
    | cons x r => rw [chk, if_pos (.inr ⟨hc, hl⟩)]
theorem chk_parts (n : Int) : ∀ (f : Nat) (sdus : List (List UInt8)) (sent cnt lst size : Nat) (e : Bool), (∀ s ∈ sdus, 1 ≤ s.length) → (∀ x r, sdus = x :: r → sent < x.length) →
    ChkParts cnt size (chk n f sdus sent cnt lst size e).1
  | 0, sdus, sent, cnt, lst, size, e, _, _ => by rw [chk]; exact chkParts_nil _ _
  | f + 1, [], sent, cnt, lst, size, e, _, _ => by rw [chk]; exact chkParts_nil _ _
  | f + 1, x :: rest, sent, cnt, lst, size, e, hp, h1 => by
    have hs := h1 x rest rfl
    rw [chk]
    split
    · exact chkParts_nil _ _
    rename_i hc
    split
    · exact chkParts_nil _ _
    rename_i hroom
    have hr1 : 1 ≤ (min (n - hdrN ((cnt : Int) + 1)) 32767 - (size : Int)).toNat := by omega
    have hr2 : size + (min (n - hdrN ((cnt : Int) + 1)) 32767 - (size : Int)).toNat ≤ 32767 := by omega
    generalize (min (n - hdrN ((cnt : Int) + 1)) 32767 - (size : Int)).toNat = room at *
    split
    · rename_i hlt
      have hl : ((x.drop sent).take room).length = room := by rw [List.length_take, List.length_drop]; omega
      refine ⟨fun h => by simp; omega, fun p hm => ?_, fun i hi => by simp at hi, fun h => ?_⟩
      · simp only [List.mem_singleton] at hm
        rw [hm, hl]
        exact hr1
      · simp only [sumLen, List.map_cons, List.map_nil, List.sum_cons, List.sum_nil, hl]
        omega
    · rename_i hge
      have ih := chk_parts n f rest 0 (cnt + 1) (x.length - sent) (size + (x.length - sent)) true (fun s hs => hp s (by simp [hs])) (fun y r hy => by have := hp y (by simp [hy]); omega)
      have hlong := chk_long n f rest 0 (cnt + 1) (x.length - sent) (size + (x.length - sent)) true (by omega)
      generalize (chk n f rest 0 (cnt + 1) (x.length - sent) (size + (x.length - sent)) true).1 = q at *
      have hl : (x.drop sent).length = x.length - sent := List.length_drop
      refine ⟨fun h => ?_, fun p hm => ?_, fun i hi => ?_, fun h => ?_⟩
      · have := ih.num (by omega)
        simp
        omega
      · simp only [List.mem_cons] at hm
        rcases hm with rfl | hm
        · omega
        · exact ih.pos p hm
      · cases i with
        | zero =>
          simp only [List.getElem?_cons_zero, Option.getD_some]
          rw [hl]
          rcases Nat.lt_or_ge 2047 (x.length - sent) with hg | hg
          · rw [hlong hg] at hi
            simp at hi
          · exact hg
        | succ i =>
          have := ih.short i (by simp at hi; omega)
          simpa using this
      · have := ih.sum (by omega)
        simp only [sumLen, List.map_cons, List.sum_cons, hl] at this ⊢
        omega
theorem chk_valid (n : Int) (f : Nat) (sdus : List (List UInt8)) (sent : Nat) (e : Bool) (hp : ∀ s ∈ sdus, 1 ≤ s.length) (h1 : ∀ x r, sdus = x :: r → sent < x.length) (hne : (chk n f sdus sent 0 0 0 e).1 ≠ []) : ValidP (chk n f sdus sent 0 0 0 e).1 := by
  have h := chk_parts n f sdus sent 0 0 0 e hp h1
  have hpos : 1 ≤ (chk n f sdus sent 0 0 0 e).1.length := List.length_pos_iff.2 hne
  exact ⟨hpos, by have := h.num (by omega); omega, h.pos, h.short, by have := h.sum (by omega); omega⟩
end Go.Proofs.YtmiipkaobloedaaGreat
namespace Go.Proofs.YtmiipkaobloedaaGreat
open Go.RowKit

/-- v is a slice of n elements xs (one cell each) in a row that lies at base or behind it, from whatever offset on. -/
def OwnQ (w : World) (base : Nat) (e : TypeId) (v : Value) (n : Nat) (xs : List Value) : Prop :=
  xs.length = n ∧ ((v = .slice none 0 0 ∧ n = 0) ∨ ∃ g o cap cur, v = .slice (some ⟨g, o, none⟩) n cap ∧ base ≤ g ∧ w.heap[g]? = some (.cells cur e (0, 0)) ∧ n ≤ cap ∧ cap ≤ maxLen ∧ o + cap ≤ cur.size ∧ (cur.toList.drop o).take n = xs)
/-- the block of a queue's row -/
def qBlock : Value → Option Nat
  | .slice (some ad) _ _ => some ad.block
  | _ => none
section
variable {w w' : World} {base : Nat} {e : TypeId} {v : Value} {n : Nat} {xs : List Value}
theorem ownQ_nil (w : World) (base : Nat) (e : TypeId) : OwnQ w base e (.slice none 0 0) 0 [] := ⟨rfl, .inl ⟨rfl, rfl⟩⟩
theorem OwnQ.of_own (h : w.ownsRow base e 1 v n xs) : OwnQ w base e v n xs := by
  rcases h.2 with ⟨rfl, h0⟩ | ⟨g, cap, cur, rfl, hb, hg, hnc, hcm, hcs, ht⟩
  · exact ⟨by simpa using h.1, .inl ⟨rfl, h0⟩⟩
  · exact ⟨by simpa using h.1, .inr ⟨g, 0, cap, cur, rfl, hb, hg, hnc, hcm, by omega, by simpa using ht⟩⟩
theorem OwnQ.keep (h : OwnQ w base e v n xs) (hk : ∀ g, qBlock v = some g → w'.heap[g]? = w.heap[g]?) : OwnQ w' base e v n xs := by
  rcases h.2 with ⟨rfl, h0⟩ | ⟨g, o, cap, cur, rfl, hb, hg, hr⟩
  · exact ⟨h.1, .inl ⟨rfl, h0⟩⟩
  · exact ⟨h.1, .inr ⟨g, o, cap, cur, rfl, hb, (hk g rfl).trans hg, hr⟩⟩
theorem OwnQ.row (h : OwnQ w base e v n xs) {g : Nat} (hg : qBlock v = some g) : ∃ cur, w.heap[g]? = some (.cells cur e (0, 0)) ∧ base ≤ g := by
  rcases h.2 with ⟨rfl, _⟩ | ⟨g', o, cap, cur, rfl, hb, hh, _⟩
  · simp [qBlock] at hg
  · have : g' = g := by simpa [qBlock] using hg
    subst this
    exact ⟨cur, hh, hb⟩
theorem OwnQ.lt (h : OwnQ w base e v n xs) {g : Nat} (hg : qBlock v = some g) : base ≤ g ∧ g < w.heap.size := by
  obtain ⟨cur, hh, hb⟩ := h.row hg
  exact ⟨hb, lt_of_heap hh⟩
theorem OwnQ.below {B : Nat} (h : OwnQ w base e v n xs) (hb : Below B w w') (hB : w.heap.size ≤ B) : OwnQ w' base e v n xs :=
  h.keep fun g hg => hb.block g (by have := (h.lt hg).2; omega)
theorem OwnQ.alloc (h : OwnQ w base e v n xs) (o : Obj) : OwnQ (w.alloc o) base e v n xs := h.keep fun g hg => Below.heap_alloc w o g (h.lt hg).2
theorem OwnQ.drew (h : OwnQ w base e v n xs) : OwnQ w.drew base e v n xs := h
theorem OwnQ.base_ {b' : Nat} (h : OwnQ w base e v n xs) (hb : b' ≤ base) : OwnQ w b' e v n xs := by
  rcases h.2 with ⟨rfl, h0⟩ | ⟨g, o, cap, cur, rfl, hg, hr⟩
  · exact ⟨h.1, .inl ⟨rfl, h0⟩⟩
  · exact ⟨h.1, .inr ⟨g, o, cap, cur, rfl, by omega, hr⟩⟩
/-- a row of another type is another block -/
theorem OwnQ.blk_ne {g : Nat} {t : TypeId} {cs : Array Value} (h : OwnQ w base e v n xs) (hb : Blk w g t cs) (hne : e ≠ t) : qBlock v ≠ some g := by
  intro hg
  obtain ⟨cur, hh, _⟩ := h.row hg
  unfold Blk at hb
  rw [hh] at hb
  cases hb
  exact hne rfl
theorem OwnQ.store {g i : Nat} {t : TypeId} {cs : Array Value} (h : OwnQ w base e v n xs) (hb : Blk w g t cs) (hne : e ≠ t) (u : Value) : OwnQ (w.setCell ⟨g, i, none⟩ u) base e v n xs :=
  h.keep fun k hk => Below.heap_setCell w _ _ k (fun ek => by
    have e2 : k = g := ek
    subst e2
    exact h.blk_ne hb hne hk)
theorem OwnQ.grown {row : Option Nat} (h : OwnQ w base e v n xs) (hg : w.grownBy w' row) (hr : ∀ g, row = some g → qBlock v ≠ some g) : OwnQ w' base e v n xs :=
  h.keep fun g hgv => hg.block g (h.lt hgv).2 (fun e => hr g e.symm hgv)
theorem OwnQ.cells {g o cap : Nat} (h : OwnQ w base e (.slice (some ⟨g, o, none⟩) n cap) n xs) : ∀ j u, xs[j]? = some u → w.cell? ⟨g, o + j, none⟩ = some u := by
  intro j u hu
  rcases h.2 with ⟨hv, _⟩ | ⟨g', o', cap', cur, hv, hb, hh, hnc, hcm, hs, ht⟩
  · cases hv
  · cases hv
    rw [cell_of_row w g (o + j) cur e (0, 0) hh]
    rw [← ht, List.getElem?_take] at hu
    split at hu
    · rw [List.getElem?_drop] at hu
      simpa using hu
    · cases hu
theorem OwnQ.sl (h : OwnQ w base e v n xs) : ∃ A c, v = .slice A n c ∧ Sl w w.heap.size A n c xs := by
  rcases h.2 with ⟨rfl, rfl⟩ | ⟨g, o, cap, cur, rfl, hb, hh, hnc, hcm, hs, ht⟩
  · exact ⟨none, 0, rfl, by have := List.eq_nil_of_length_eq_zero h.1; subst this; exact Sl.nil_.2 (by omega)⟩
  · refine ⟨_, _, rfl, h.1, hnc, by unfold maxLen at hcm; omega, fun _ => ⟨_, rfl, lt_of_heap hh, fun j u hu => ?_⟩⟩
    rw [Addr.add_lit]
    exact h.cells j u hu
/-- the first element left out -/
theorem OwnQ.tail {x : Value} {g o cap : Nat} (h : OwnQ w base e (.slice (some ⟨g, o, none⟩) (n + 1) cap) (n + 1) (x :: xs)) : OwnQ w base e (.slice (some (if cap = 1 then ⟨g, o, none⟩ else ⟨g, o + 1, none⟩)) n (cap - 1)) n xs := by
  have hl : xs.length = n := by have := h.1; simpa using this
  rcases h.2 with ⟨hv, _⟩ | ⟨g', o', cap', cur, hv, hb, hh, hnc, hcm, hs, ht⟩
  · cases hv
  · cases hv
    by_cases hc : cap = 1
    · subst hc
      have hn : n = 0 := by omega
      subst hn
      have hx := List.eq_nil_of_length_eq_zero hl
      subst hx
      exact ⟨rfl, .inr ⟨g, o, 0, cur, by simp, hb, hh, by omega, by omega, by omega, by simp⟩⟩
    · refine ⟨hl, .inr ⟨g, o + 1, cap - 1, cur, by simp [hc], hb, hh, by omega, by omega, by omega, ?_⟩⟩
      have h2 := congrArg (List.drop 1) ht
      rw [List.drop_take, List.drop_drop] at h2
      simpa using h2

variable {P : Program}
/-- append of one element to a queue's row -/
theorem run_append_q (t ty : TypeId) (i : TypeInfo) (z : Value) (bytes : Nat) (ht : P.underlying t = some (.slice e)) (hi : P.info? e = some i) (hz : i.zero = some z)
    (hsize : i.size = 1) (hby : i.bytes = bytes) (hzs : z.cells.size = 1) (hown : OwnQ w base e v n xs)
    (a : Addr) (c : Nat) (u : Value) (hu : w.cell? a = some u) (h1 : u.oneCell' = true)
    (h63 : n + 1 ≤ maxLen) (hbytes : (n + 1) * bytes ≤ 140737488355328) (hbase : base ≤ w.heap.size) :
    ∃ v' w', (Builtin.append_ #[t, t] ty #[v, .slice (some a) 1 c]).run P w = .ok v' w' ∧ OwnQ w' base e v' (n + 1) (xs ++ [u]) ∧ w.grownBy w' (qBlock v) ∧ (∀ k, qBlock v' = some k → qBlock v = some k ∨ w.heap.size ≤ k) := by
  have hnews : ∀ j x, [u][j]? = some x → w.cell? (a.add j) = some x := by
    intro j x hx
    cases j with
    | zero => simp at hx; subst hx; simpa [Addr.add] using hu
    | succ j => simp at hx
  rcases hown.2 with ⟨rfl, rfl⟩ | ⟨g, o, cap, cur, rfl, hbg, hg, hnc, hcm, hcs, htake⟩
  · have hx := List.eq_nil_of_length_eq_zero hown.1
    subst hx
    obtain ⟨v', w', hr, h2, h3, _⟩ := run_append_own (P := P) w w.heap.size t ty e i z 1 bytes ht hi hz hsize hby hzs (by omega) (.slice none 0 0) 0 [] (World.ownsRow_nil _ _ _ _) a 1 c [u] rfl hnews (by simpa using h1) h63 hbytes (Nat.le_refl _)
    exact ⟨v', w', hr, (OwnQ.of_own h2).base_ hbase, h3, fun k hk => .inr ((OwnQ.of_own h2).lt hk).1⟩
  · by_cases hroom : n + 1 ≤ cap
    · have hcell : (w.cell? ⟨g, o + n, none⟩).isSome = true := by
        rw [cell_of_row w g (o + n) cur e (0, 0) hg, Array.getElem?_eq_getElem (by omega)]
        rfl
      have hfr : w.frozen? ⟨g, o + n, none⟩ = false := by simp [World.frozen?, hg]
      have hc0 : ∀ j, j < [u].length → (w.cell? ⟨g, o + n * i.size + j, none⟩).isSome = true := by
        intro j hj
        have hj0 : j = 0 := by simpa using hj
        subst hj0
        simpa [hsize] using hcell
      have hf0 : ∀ j, j < [u].length → w.frozen? ⟨g, o + n * i.size + j, none⟩ = false := by
        intro j hj
        have hj0 : j = 0 := by simpa using hj
        subst hj0
        simpa [hsize] using hfr
      have hr := run_append_room_cells (P := P) w t ty e i ht hi g o n cap a 1 c [u] (by rw [hsize]; rfl) hnews (by simpa using h1) hroom hc0 hf0
      rw [hsize, Nat.mul_one] at hr
      have hset : w.setCells g (o + n) [u] = w.setCell ⟨g, o + n, none⟩ u := rfl
      rw [hset] at hr
      refine ⟨_, _, hr, ⟨by simp [hown.1], .inr ⟨g, o, cap, cur.setIfInBounds (o + n) u, rfl, hbg, heap_setCell_same w g (o + n) cur e u hg, hroom, hcm, by simpa using hcs, ?_⟩⟩, grownBy_setAt w g (o + n) u, fun k hk => .inl hk⟩
      rw [Array.toList_setIfInBounds]
      apply List.ext_getElem?
      intro j
      rw [List.getElem?_take, List.getElem?_drop, List.getElem?_set]
      rcases Nat.lt_trichotomy j n with hj | hj | hj
      · rw [if_pos (by omega), if_neg (by omega), List.getElem?_append_left (by rw [hown.1]; exact hj), ← htake, List.getElem?_take, if_pos hj, List.getElem?_drop]
      · subst hj
        rw [if_pos (by omega), if_pos rfl, if_pos (by simp; omega), List.getElem?_append_right (by rw [hown.1]; omega), hown.1, Nat.sub_self]
        rfl
      · rw [if_neg (by omega), List.getElem?_eq_none (by simp [hown.1]; omega)]
    · obtain ⟨v', w', hr, h2, h3⟩ := run_append_arg_grows (P := P) w t ty e i z 1 bytes ht hi hz hsize hby hzs (by omega) ⟨g, o, none⟩ n cap xs (by simpa using hown.1) (fun j x hx => by rw [Addr.add_lit]; exact hown.cells j x hx) a 1 c [u] rfl hnews (by omega) h63 hbytes
      exact ⟨v', w', hr, (OwnQ.of_own h2).base_ hbase, ⟨h3.os, h3.tape, h3.output, h3.size, fun k hk _ => h3.block k hk (by simp)⟩, fun k hk => .inr ((OwnQ.of_own h2).lt hk).1⟩
theorem wp_append_q {o : Oper} {a : Act} {K : Act → World → Prop} {Q : Exit → Act → World → Prop} (s x : Operand) (t : TypeId)
    (ho : o.op = .call { callee := .builtin .append, args := #[s, x], argTypes := #[t, t] })
    (i : TypeInfo) (z : Value) (bytes : Nat) (ht : P.underlying t = some (.slice e)) (hi : P.info? e = some i) (hz : i.zero = some z)
    (hsize : i.size = 1) (hby : i.bytes = bytes) (hzs : z.cells.size = 1) (hs : a.eval s = v) (hown : OwnQ w base e v n xs)
    (ad : Addr) (c : Nat) (u : Value) (hx : a.eval x = .slice (some ad) 1 c) (hu : w.cell? ad = some u) (h1 : u.oneCell' = true)
    (h63 : n + 1 ≤ maxLen) (hbytes : (n + 1) * bytes ≤ 140737488355328) (hbase : base ≤ w.heap.size)
    (h : ∀ v' w', OwnQ w' base e v' (n + 1) (xs ++ [u]) → w.grownBy w' (qBlock v) → (∀ k, qBlock v' = some k → qBlock v = some k ∨ w.heap.size ≤ k) → K (a.put o.dst v') w') : o.wp P a w K Q := by
  obtain ⟨v', w', hr, h2, h3, h4⟩ := run_append_q (P := P) t o.type i z bytes ht hi hz hsize hby hzs hown ad c u hu h1 h63 hbytes hbase
  unfold Oper.wp execOp
  simp only [ho, resolve, invoke, builtin, Sem.run_bind, Sem.run_pure, Result.andThen_ok, List.map_toArray, List.map_cons, List.map_nil, hs, hx, hr]
  exact h v' w' h2 h3 h4
theorem wpList_append_q {ops : Array Oper} {rest : List Oper} {o : Oper} {a : Act} {Q : Exit → Act → World → Prop} (hgd : o.guard = none) (s x : Operand) (t : TypeId)
    (ho : o.op = .call { callee := .builtin .append, args := #[s, x], argTypes := #[t, t] })
    (i : TypeInfo) (z : Value) (bytes : Nat) (ht : P.underlying t = some (.slice e)) (hi : P.info? e = some i) (hz : i.zero = some z)
    (hsize : i.size = 1) (hby : i.bytes = bytes) (hzs : z.cells.size = 1) (hs : a.eval s = v) (hown : OwnQ w base e v n xs)
    (ad : Addr) (c : Nat) (u : Value) (hx : a.eval x = .slice (some ad) 1 c) (hu : w.cell? ad = some u) (h1 : u.oneCell' = true)
    (h63 : n + 1 ≤ maxLen) (hbytes : (n + 1) * bytes ≤ 140737488355328) (hbase : base ≤ w.heap.size)
    (h : ∀ v' w', OwnQ w' base e v' (n + 1) (xs ++ [u]) → w.grownBy w' (qBlock v) → (∀ k, qBlock v' = some k → qBlock v = some k ∨ w.heap.size ≤ k) → wpList P ops Q rest (a.put o.dst v') w') : wpList P ops Q (o :: rest) a w :=
  wpList_plain hgd fun _ hK => wp_append_q s x t ho i z bytes ht hi hz hsize hby hzs hs hown ad c u hx hu h1 h63 hbytes hbase fun v' w' h2 h3 h4 => hK _ _ (h v' w' h2 h3 h4)
theorem step_append_q {ops : Array Oper} {o : Oper} {a : Act} {K : Act → World → Prop} {Q : Exit → Act → World → Prop} {E : Prop} (hgd : o.guard = none) (s x : Operand) (t : TypeId)
    (ho : o.op = .call { callee := .builtin .append, args := #[s, x], argTypes := #[t, t] })
    (i : TypeInfo) (z : Value) (bytes : Nat) (ht : P.underlying t = some (.slice e)) (hi : P.info? e = some i) (hz : i.zero = some z)
    (hsize : i.size = 1) (hby : i.bytes = bytes) (hzs : z.cells.size = 1) (hs : a.eval s = v) (hown : OwnQ w base e v n xs)
    (ad : Addr) (c : Nat) (u : Value) (hx : a.eval x = .slice (some ad) 1 c) (hu : w.cell? ad = some u) (h1 : u.oneCell' = true)
    (h63 : n + 1 ≤ maxLen) (hbytes : (n + 1) * bytes ≤ 140737488355328) (hbase : base ≤ w.heap.size)
    (h : ∀ v' w', OwnQ w' base e v' (n + 1) (xs ++ [u]) → w.grownBy w' (qBlock v) → (∀ k, qBlock v' = some k → qBlock v = some k ∨ w.heap.size ≤ k) → K (a.put o.dst v') w') : if Region.wanted o (yielded ops a.tmps) = true then Oper.wp P o a w K Q else E := by
  have hw : Region.wanted o (yielded ops a.tmps) = true := by simp [Region.wanted, hgd]
  rw [if_pos hw]
  exact wp_append_q s x t ho i z bytes ht hi hz hsize hby hzs hs hown ad c u hx hu h1 h63 hbytes hbase h
end
end Go.Proofs.YtmiipkaobloedaaGreat
namespace Go.Proofs.YtmiipkaobloedaaGreat
open Go
section
variable {P : Program} {ops : Array Oper} {Q : Exit → Act → World → Prop} {md : Region.Mode} {S : World → Prop} {L : List Nat}
/-- no operation of L has come up -/
def cleanB (L : List Nat) (listed : Array Bool) : Bool := L.all fun d => !listed.getD d true
/-- whatever order is picked; S holds as long as no operation of L has come up -/
def wpAnyE (P : Program) (md : Region.Mode) (ops : Array Oper) (Q : Exit → Act → World → Prop) (S : World → Prop) (L : List Nat) : Nat → Array Bool → Act → World → Prop
  | 0, listed, a, w => Region.ready md ops listed = [] ∧ Q .normal a w
  | fuel + 1, listed, a, w =>
    (Region.ready md ops listed = [] → Q .normal a w) ∧
    ∀ i ∈ Region.ready md ops listed, wpOp P ops Q i (fun a' w' => (cleanB L (listed.setIfInBounds i true) = true → S w') ∧ wpAnyE P md ops Q S L fuel (listed.setIfInBounds i true) a' w') a w
theorem wpAny_of_E : ∀ (fuel : Nat) (listed : Array Bool) (a : Act) (w : World), wpAnyE P md ops Q S L fuel listed a w → wpAny P md ops Q fuel listed a w
  | 0, _, _, _, h => h
  | fuel + 1, _, _, _, h => ⟨h.1, fun i hi => wpOp_mono (fun a' w' h' => wpAny_of_E fuel _ a' w' h'.2) (h.2 i hi)⟩
theorem getD_un {listed : Array Bool} {k : Nat} (h3 : listed.getD k true = false) (h4 : listed.getD k false = true) : False := by
  rcases Nat.lt_or_ge k listed.size with h' | h'
  · simp [h'] at h3 h4
    rw [h3] at h4
    cases h4
  · simp [Array.getElem?_eq_none h'] at h3
theorem cleanB_set {listed : Array Bool} {j : Nat} (hj : j ∉ L) : cleanB L (listed.setIfInBounds j true) = cleanB L listed := by
  unfold cleanB
  rw [Bool.eq_iff_iff, List.all_eq_true, List.all_eq_true]
  constructor
  · intro h d hd
    have := h d hd
    rwa [getD_set_ne true (fun e => hj (by rw [e]; exact hd))] at this
  · intro h d hd
    rw [getD_set_ne true (fun e => hj (by rw [e]; exact hd))]
    exact h d hd
/-- the operations of W have not come up; each of them waits for i, or for another one of W -/
def lateB (md : Region.Mode) (ops : Array Oper) (W : List Nat) (listed : Array Bool) (i : Nat) : Bool :=
  W.all fun j => !listed.getD j true && (match ops[j]? with
    | some oj => oj.after.any fun e => Region.binds md e && (e.on == i || W.contains e.on)
    | none => false)
theorem lateB_spec {W : List Nat} {listed : Array Bool} {i : Nat} (h : lateB md ops W listed i = true) (hun : listed.getD i true = false) : ∀ j ∈ W, j ∉ Region.ready md ops listed := by
  intro j hj hr
  obtain ⟨hju, oj, hoj, hall⟩ := mem_ready.1 hr
  have h1 := List.all_eq_true.1 h j hj
  rw [hoj, Bool.and_eq_true] at h1
  obtain ⟨e, he, hb⟩ := Array.any_eq_true'.1 h1.2
  simp only [Bool.and_eq_true, Bool.or_eq_true, beq_iff_eq] at hb
  have h2 := hall e he hb.1
  rcases hb.2 with h3 | h3
  · rw [h3] at h2
    exact getD_un hun h2
  · have h4 := List.all_eq_true.1 h e.on (by simpa using h3)
    simp only [Bool.and_eq_true, Bool.not_eq_true'] at h4
    exact getD_un h4.1 h2
theorem lateB_set {W : List Nat} {listed : Array Bool} {i j : Nat} (h : lateB md ops W listed i = true) (hj : j ∉ W) : lateB md ops W (listed.setIfInBounds j true) i = true := by
  unfold lateB at h ⊢
  rw [List.all_eq_true] at h ⊢
  intro k hk
  have h1 := h k hk
  rwa [getD_set_ne true (fun e => hj (by rw [e]; exact hk))]
theorem lateB_clean {W : List Nat} {listed : Array Bool} {i : Nat} (h : lateB md ops W listed i = true) (hW : ∀ d ∈ L, d ∈ W) : cleanB L listed = true := by
  unfold cleanB
  rw [List.all_eq_true]
  intro d hd
  have h1 := List.all_eq_true.1 h d (hW d hd)
  rw [Bool.and_eq_true] at h1
  exact h1.1
section
variable {i : Nat} {oi : Oper} {v : Value} (hi : ops[i]? = some oi) (hsel : ∀ (j : Nat) (o : Oper) cs b, ops[j]? = some o → o.op ≠ .select cs b) (hQ : ∀ c a w, Q (.panic c) (a.put oi.dst v) w → Q (.panic c) a w)
theorem wpAnyE_free {listed : Array Bool} (hfree : ∀ j oj, ops[j]? = some oj → j ≠ i → listed.getD j true = false → (∀ e ∈ oj.after, Region.binds md e = true → e.on ≠ i) → oi.apart ops oj = true) (j : Nat) :
    ∀ k ok, ops[k]? = some ok → k ≠ i → (listed.setIfInBounds j true).getD k true = false → (∀ e ∈ ok.after, Region.binds md e = true → e.on ≠ i) → oi.apart ops ok = true := fun k ok hk hki hun hno => by
  refine hfree k ok hk hki ?_ hno
  by_cases hjk : j = k
  · subst hjk
    rcases Nat.lt_or_ge j listed.size with h' | h'
    · simp [h'] at hun
    · simp at hun
  · rw [getD_set_ne true hjk] at hun; exact hun
include hi hsel hQ in
theorem wpAnyE_first (W : List Nat) (hil : i ∉ L) (hW : ∀ d ∈ L, d ∈ W) : ∀ (fuel : Nat) (listed : Array Bool) (a : Act) (w : World),
      (∀ j oj, ops[j]? = some oj → j ≠ i → listed.getD j true = false → (∀ e ∈ oj.after, Region.binds md e = true → e.on ≠ i) → oi.apart ops oj = true) →
      i ∈ Region.ready md ops listed → YieldsIf P ops S oi v a → S w → lateB md ops W listed i = true →
      wpAnyE P md ops Q S L fuel (listed.setIfInBounds i true) (a.put oi.dst v) w → wpAnyE P md ops Q S L (fuel + 1) listed a w := by
  intro fuel
  induction fuel with
  | zero =>
    intro listed a w _ hr hy hS hc H
    refine ⟨fun h => (by rw [h] at hr; cases hr), fun j hj => ?_⟩
    by_cases hji : j = i
    · subst hji; exact hy.wpOp hi hS ⟨fun _ => hS, H⟩
    · have := ready_mono hj hji
      rw [H.1] at this
      cases this
  | succ fuel ih =>
    intro listed a w hfree hr hy hS hc H
    refine ⟨fun h => (by rw [h] at hr; cases hr), fun j hj => ?_⟩
    by_cases hji : j = i
    · subst hji; exact hy.wpOp hi hS ⟨fun _ => hS, H⟩
    · have h1 := H.2 j (ready_mono hj hji)
      have hjw : j ∉ W := fun hm => lateB_spec hc (mem_ready.1 hr).1 j hm hj
      have hjl : j ∉ L := fun hm => hjw (hW j hm)
      have hcl := lateB_clean hc hW
      have hcij : cleanB L ((listed.setIfInBounds i true).setIfInBounds j true) = true := by rw [cleanB_set hjl, cleanB_set hil]; exact hcl
      obtain ⟨hjun, oj, hoj, hall⟩ := mem_ready.1 hj
      have hnot : ∀ e ∈ oj.after, Region.binds md e = true → e.on ≠ i := fun e he hb heq => by
        have h1 := hall e he hb
        have h0 := (mem_ready.1 hr).1
        rw [heq] at h1
        exact getD_un h0 h1
      have h2 := wpOp_putIf hoj (hfree j oj hoj hji hjun hnot) (fun cs b => hsel i oi cs b hi) (fun cs b => hsel j oj cs b hoj) hQ hy h1
      refine wpOp_mono (fun a' w' h3 => ⟨fun _ => h3.2.1 hcij, ih (listed.setIfInBounds j true) a' w' (wpAnyE_free hfree j) (ready_mono hr (Ne.symm hji)) h3.1 (h3.2.1 hcij) (lateB_set hc hjw) ?_⟩) h2
      rw [Array.setIfInBounds_comm _ _ hji]
      exact h3.2.2
include hi hsel hQ in
theorem wpAnyE_firstY (hil : i ∉ L) : ∀ (fuel : Nat) (listed : Array Bool) (a : Act) (w : World),
      (∀ j oj, ops[j]? = some oj → j ≠ i → listed.getD j true = false → (∀ e ∈ oj.after, Region.binds md e = true → e.on ≠ i) → oi.apart ops oj = true) →
      i ∈ Region.ready md ops listed → YieldsIf P ops (fun _ => True) oi v a → (cleanB L listed = true → S w) →
      wpAnyE P md ops Q S L fuel (listed.setIfInBounds i true) (a.put oi.dst v) w → wpAnyE P md ops Q S L (fuel + 1) listed a w := by
  intro fuel
  induction fuel with
  | zero =>
    intro listed a w _ hr hy hS H
    refine ⟨fun h => (by rw [h] at hr; cases hr), fun j hj => ?_⟩
    by_cases hji : j = i
    · subst hji; exact hy.wpOp hi trivial ⟨fun h => hS (by rwa [cleanB_set hil] at h), H⟩
    · have := ready_mono hj hji
      rw [H.1] at this
      cases this
  | succ fuel ih =>
    intro listed a w hfree hr hy hS H
    refine ⟨fun h => (by rw [h] at hr; cases hr), fun j hj => ?_⟩
    by_cases hji : j = i
    · subst hji; exact hy.wpOp hi trivial ⟨fun h => hS (by rwa [cleanB_set hil] at h), H⟩
    · have h1 := H.2 j (ready_mono hj hji)
      obtain ⟨hjun, oj, hoj, hall⟩ := mem_ready.1 hj
      have hnot : ∀ e ∈ oj.after, Region.binds md e = true → e.on ≠ i := fun e he hb heq => by
        have h1 := hall e he hb
        have h0 := (mem_ready.1 hr).1
        rw [heq] at h1
        exact getD_un h0 h1
      have hcc : cleanB L (listed.setIfInBounds j true) = true → cleanB L ((listed.setIfInBounds i true).setIfInBounds j true) = true := fun h => by
        rw [Array.setIfInBounds_comm _ _ (Ne.symm hji), cleanB_set hil]
        exact h
      have h2 := wpOp_putIf hoj (hfree j oj hoj hji hjun hnot) (fun cs b => hsel i oi cs b hi) (fun cs b => hsel j oj cs b hoj) hQ hy h1
      refine wpOp_mono (fun a' w' h3 => ⟨fun h => h3.2.1 (hcc h), ih (listed.setIfInBounds j true) a' w' (wpAnyE_free hfree j) (ready_mono hr (Ne.symm hji)) h3.1 (fun h => h3.2.1 (hcc h)) ?_⟩) h2
      rw [Array.setIfInBounds_comm _ _ hji]
      exact h3.2.2
end
/-- a load is taken first -/
theorem wpAnyE_take {i : Nat} {oi : Oper} {v : Value} {fuel : Nat} {listed : Array Bool} {a : Act} {w : World} (W : List Nat) (hi : ops[i]? = some oi)
    (hs : Region.noSelect ops = true) (hf : Region.free md ops listed i = true) (hr : (Region.ready md ops listed).contains i = true) (hl : (!L.contains i && (lateB md ops W listed i && L.all fun d => W.contains d)) = true)
    (hQ : ∀ c a w, Q (.panic c) (a.put oi.dst v) w → Q (.panic c) a w) (hy : YieldsIf P ops S oi v a) (hS : S w)
    (h : wpAnyE P md ops Q S L fuel (listed.setIfInBounds i true) (a.put oi.dst v) w) : wpAnyE P md ops Q S L (fuel + 1) listed a w := by
  simp only [Bool.and_eq_true, Bool.not_eq_true'] at hl
  exact wpAnyE_first hi (Region.noSelect_spec hs) hQ W (by simpa using hl.1) (fun d hd => by simpa using List.all_eq_true.1 hl.2.2 d hd) fuel listed a w (Region.free_spec hi hf) (by simpa using hr) hy hS hl.2.1 h
/-- an operation that asks nothing of the world is taken first -/
theorem wpAnyE_takeY {i : Nat} {oi : Oper} {v : Value} {fuel : Nat} {listed : Array Bool} {a : Act} {w : World} (hi : ops[i]? = some oi)
    (hs : Region.noSelect ops = true) (hf : Region.free md ops listed i = true) (hr : (Region.ready md ops listed).contains i = true) (hl : (!L.contains i) = true)
    (hQ : ∀ c a w, Q (.panic c) (a.put oi.dst v) w → Q (.panic c) a w) (hy : YieldsIf P ops (fun _ => True) oi v a) (hS : S w)
    (h : wpAnyE P md ops Q S L fuel (listed.setIfInBounds i true) (a.put oi.dst v) w) : wpAnyE P md ops Q S L (fuel + 1) listed a w :=
  wpAnyE_firstY hi (Region.noSelect_spec hs) hQ (by simpa using hl) fuel listed a w (Region.free_spec hi hf) (by simpa using hr) hy (fun _ => hS) h
/-- the same, behind an operation of L -/
theorem wpAnyE_takeZ {i : Nat} {oi : Oper} {v : Value} {fuel : Nat} {listed : Array Bool} {a : Act} {w : World} (hi : ops[i]? = some oi)
    (hs : Region.noSelect ops = true) (hf : Region.free md ops listed i = true) (hr : (Region.ready md ops listed).contains i = true) (hl : (!L.contains i && !cleanB L listed) = true)
    (hQ : ∀ c a w, Q (.panic c) (a.put oi.dst v) w → Q (.panic c) a w) (hy : YieldsIf P ops (fun _ => True) oi v a)
    (h : wpAnyE P md ops Q S L fuel (listed.setIfInBounds i true) (a.put oi.dst v) w) : wpAnyE P md ops Q S L (fuel + 1) listed a w := by
  simp only [Bool.and_eq_true, Bool.not_eq_true'] at hl
  exact wpAnyE_firstY hi (Region.noSelect_spec hs) hQ (by simpa using hl.1) fuel listed a w (Region.free_spec hi hf) (by simpa using hr) hy (fun h => by rw [hl.2] at h; cases h) h
/-- the one operation that may come up, of L -/
theorem wpAnyE_one {i : Nat} {oi : Oper} {fuel : Nat} {listed : Array Bool} {a : Act} {w : World} (hi : ops[i]? = some oi) (hr : Region.ready md ops listed = [i]) (hl : cleanB L (listed.setIfInBounds i true) = false) (hw : Region.wanted oi (yielded ops a.tmps) = true)
    (h : ∀ K : Act → World → Prop, (∀ a' w', wpAnyE P md ops Q S L fuel (listed.setIfInBounds i true) a' w' → K a' w') → oi.wp P a w K Q) : wpAnyE P md ops Q S L (fuel + 1) listed a w := by
  refine ⟨fun h0 => (by rw [hr] at h0; cases h0), fun j hj => ?_⟩
  rw [hr] at hj
  have hji : j = i := by simpa using hj
  subst hji
  unfold wpOp
  simp only [hi, hw, if_true]
  exact .inl (h _ fun a' w' h' => ⟨fun hc => (by rw [hl] at hc; cases hc), h'⟩)
/-- the one operation that may come up; S is shown anew behind it -/
theorem wpAnyE_oneS {i : Nat} {oi : Oper} {fuel : Nat} {listed : Array Bool} {a : Act} {w : World} (hi : ops[i]? = some oi) (hr : Region.ready md ops listed = [i]) (hw : Region.wanted oi (yielded ops a.tmps) = true)
    (h : ∀ K : Act → World → Prop, (∀ a' w', S w' → wpAnyE P md ops Q S L fuel (listed.setIfInBounds i true) a' w' → K a' w') → oi.wp P a w K Q) : wpAnyE P md ops Q S L (fuel + 1) listed a w := by
  refine ⟨fun h0 => (by rw [hr] at h0; cases h0), fun j hj => ?_⟩
  rw [hr] at hj
  have hji : j = i := by simpa using hj
  subst hji
  unfold wpOp
  simp only [hi, hw, if_true]
  exact .inl (h _ fun a' w' hs h' => ⟨fun _ => hs, h'⟩)
/-- all have come up -/
theorem wpAnyE_done {listed : Array Bool} {a : Act} {w : World} (hr : Region.ready md ops listed = []) (h : Q .normal a w) : ∀ fuel, wpAnyE P md ops Q S L fuel listed a w
  | 0 => ⟨hr, h⟩
  | _ + 1 => ⟨fun _ => h, by rw [hr]; simp⟩
/-- the beginning -/
theorem wp_region_E {id : Nat} {a : Act} {w : World} (S : World → Prop) (L : List Nat) (hm : P.follows .mixedOrders = true)
    (h : wpAnyE P .any ops Q S L ops.size (Array.replicate ops.size false) a w.drew) : (Code.region id ops true).wp P Q a w :=
  wp_region_any hm (wpAny_of_E _ _ _ _ h)
end
end Go.Proofs.YtmiipkaobloedaaGreat
namespace Go.Proofs.YtmiipkaobloedaaGreat
open Go.RowKit Go.Shelf

/-- The iterator gives vals 0, vals 1, .. vals (N - 1), each round going on; between two rounds Kp is kept. -/
def SeqIdx (F : Fence) (n : Nat) (P : Program) (g : Nat) (lb : Array Value) (vals : Nat → Array Value) (N : Nat) (Kp : World → World → Prop) (w : World) : Prop :=
  ∀ (l : Nat) (J : Nat → World → Prop) (W : World), Below w.heap.size w W → AbidesFrom W.heap.size J →
    (∀ k W1, k < N → J k W1 → YieldAt F (n - 1) P l (vals k) W1 fun e W' => e = .returned (.bool true) ∧ J (k + 1) W' ∧ Kp W1 W') → J 0 W →
    CallsIn F n P g (#[.func (.yield l) #[] #[]] ++ lb) W fun e W' => (∃ v, e = .returned v) ∧ J N W'

/-- How a round's body is left: it goes on. -/
def onPost (B : Nat) (Kp : World → World → Prop) (I : Nat → World → Prop) (k : Nat) (W : World) : Exit → Act → World → Prop
  | .normal, _, W' => KeepsFrom B W W' ∧ Kp W W' ∧ I k W'
  | _, _, _ => False

variable {F : Fence} {n : Nat} {P : Program}

theorem wpIn_range_idx {g : Operand} {ps : Array Tmp} {assign body : Code} {Q : Exit → Act → World → Prop} {a : Act} {w : World}
    (hro : F.round = none) (h1 : 1 ≤ n) {gf : Nat} {lb : Array Value} (hg : a.eval g = .func (.func gf) #[] lb) (hFg : F.fn gf) (eg : ∀ args w, (callFunc gf args).run P w = .ok (.enter gf args) w)
    {vals : Nat → Array Value} {N : Nat} {Kp : World → World → Prop} {w0 : World} (hseq : SeqIdx F (n - 1) P gf lb vals N Kp w0)
    (hKt : ∀ {A B C : World}, Kp A B → Kp B C → Kp A C) (hKb : ∀ (W : World) (l : Nat) (o o' : Obj), w.heap.size ≤ l → W.heap[l]? = some o → o.isCells = false → o.isWalk = false → Kp W (W.putObj l o')) (hb0 : Below w0.heap.size w0 w)
    (hps : ∀ k, (vals k).size = ps.size) (I : Nat → World → Prop) (hI : OwnFrom w.heap.size I) (h0 : I 0 w) (a₁ : Nat → Act)
    (hassign : ∀ (l k : Nat) (W : World) (K : Act → World → Prop), K (a₁ k) W →
      assign.wpIn (F.inRound l) (n - 1 - 1) P (Exit.then K (fun _ _ _ => False)) { tmps := (ps.zip (vals k)).foldl (fun t (p, v) => t.setIfInBounds p v) a.tmps, defers := [] } W)
    (hbody : ∀ (l k : Nat) (W : World), k < N → I k W → body.wpIn (F.inRound l) (n - 1 - 1) P (onPost w.heap.size Kp I (k + 1) W) (a₁ k) W)
    (hdone : ∀ (D : Nat) (W : World), w.heap.size ≤ D → I N W → W.heap[D]? = some (.deferred (some [])) → Q .normal { a with defers := { target := .collected D, args := #[] } :: a.defers } W) :
    (Code.rangeFunc g ps assign body).wpIn F n P Q a w := by
  refine wpIn_rangeFunc fun fn hfn => ?_
  rw [hro]
  -- the loop's record, in its three states
  let R : LoopState → Loop := fun st => { state := st, pending := none, fn, tmps := a.tmps, params := ps, assign, body, defers := w.heap.size }
  let W1 := (w.alloc (.deferred (some []))).alloc (.loop (R .ready))
  have hsz : W1.heap.size = w.heap.size + 2 := by simp [W1]
  have hL1 : W1.heap[w.heap.size + 1]? = some (.loop (R .ready)) := by
    have := World.alloc_heap_new (w.alloc (.deferred (some []))) (.loop (R .ready)); rwa [World.size_alloc] at this
  have hD1 : W1.heap[w.heap.size]? = some (.deferred (some [])) := (Below.heap_alloc _ _ _ (by simp)).trans (World.alloc_heap_new w _)
  have hBW : Below w0.heap.size w0 W1 := hb0.trans ((((Below.refl _ w).alloc (Nat.le_refl _) _).alloc (by simp) _).mono hb0.size)
  -- what holds whenever the iterator has the word
  let J : Nat → World → Prop := fun k W => I k W ∧ W.heap[w.heap.size + 1]? = some (.loop (R .ready)) ∧ W.heap[w.heap.size]? = some (.deferred (some []))
  have hJ : AbidesFrom W1.heap.size J := fun k A B row hs hgr hr => by
    have keeps := fun (i : Nat) (o : Obj) (ho : A.heap[i]? = some o) (hw : o.isWalk = false) => (grownBy_keeps hgr (fun r e => (hr r e).2) ho hw).trans ho
    refine ⟨hI k A B row hs.1 hgr (fun r e => ?_), keeps _ _ hs.2.1 rfl, keeps _ _ hs.2.2 rfl⟩
    obtain ⟨h2, o, ho, hw⟩ := hr r e
    exact ⟨by omega, o, ho, Obj.not_cells_of_walk hw⟩
  refine ⟨w.heap.size + 1, [{ target := .collected w.heap.size, args := #[] }], W1, { target := .fn (.func gf) lb, args := #[.func (.yield (w.heap.size + 1)) #[] #[]] }, W1, gf,
    #[.func (.yield (w.heap.size + 1)) #[] #[]] ++ lb, W1, run_enterLoop_outer _ _ _ _ _, ?_, ?_, ?_, fun _ => h1, ?_⟩
  · simp only [resolve, hg]
    simp [go_sem]
  · intro f' hf'
    simp [Target.leads] at hf'
    subst hf'
    exact hFg
  · simp [invoke, go_sem, eg]
  refine (hseq (w.heap.size + 1) J W1 hBW hJ (fun k W hk hjk => ?_) ⟨hI.alloc _ (hI.alloc _ h0), hL1, hD1⟩).mono ?_
  · -- one round
    obtain ⟨hi, hl, hd⟩ := hjk
    have hlt : w.heap.size + 1 < W.heap.size := (Array.getElem?_eq_some_iff.1 hl).1
    refine ⟨fn, _, assign, body, run_yield (P := P) (args := vals k) hl (hps k), roundIn_of_wpIn hfn (hassign _ k W _ ⟨_, run_beginRound hl rfl, ?_⟩)⟩
    have hlb : (W.putObj (w.heap.size + 1) (.loop (R .busy))).heap[w.heap.size + 1]? = some (.loop (R .busy)) := World.putObj_heap_same hlt
    have hdb : (W.putObj (w.heap.size + 1) (.loop (R .busy))).heap[w.heap.size]? = some (.deferred (some [])) := (World.putObj_heap_other (by omega)).trans hd
    refine wpIn_mono (hbody _ k _ hk (hI.putObj _ hi (by omega) hl rfl)) ?_
    rintro ex a3 W3 hp
    cases ex with
    | normal =>
      obtain ⟨hk3, hkp, hi3⟩ := hp
      have hl3 := hk3.same _ _ (by omega) hlb rfl
      have hd3 := hk3.same _ _ (Nat.le_refl _) hdb rfl
      refine ⟨_, _, run_endRound (P := P) none hl3, rfl, ⟨hI.putObj _ hi3 (by omega) hl3 rfl, World.putObj_heap_same (Array.getElem?_eq_some_iff.1 hl3).1, (World.putObj_heap_other (by omega)).trans hd3⟩, ?_⟩
      exact hKt (hKt (hKb _ _ _ _ (by omega) hl rfl rfl) hkp) (hKb _ _ _ _ (by omega) hl3 rfl rfl)
    | ret => exact hp.elim
    | exit id => exact hp.elim
    | goto t => exact hp.elim
    | panic ch => exact hp.elim
    | outgrown => exact hp.elim
  · -- behind the iterator
    rintro e W2 ⟨⟨v, rfl⟩, hi, hl, hd⟩
    exact ⟨none, _, run_endLoop (P := P) hl (by simp [R]), hdone _ _ (Nat.le_refl _) (hI.putObj _ hi (by omega) hl rfl) ((World.putObj_heap_other (by omega)).trans hd)⟩
end Go.Proofs.YtmiipkaobloedaaGreat
namespace Go.Proofs.YtmiipkaobloedaaGreat
open Go.RowKit Go.Shelf
variable {n : Nat} {P : Program} {Q : Exit → Act → World → Prop}

theorem uponIn_of_upon {l : Nat} {o : Oper} {a : Act} {K : Act → World → Prop} {r : Result Next} (h : o.upon P a K Q r) : o.uponIn (Fence.wide.inRound l) n P a K Q r := by
  cases r with
  | ok nx w =>
    cases nx <;> simp only [Oper.upon, Oper.uponIn] at h ⊢
    case value v => exact h
    case skip => exact h
    case defer d => exact h
    case enter f args => exact ⟨fun hh => (by cases hh), CallsIn.inRound l (callsIn_wide.2 h)⟩
    case row row args => exact ⟨fun hh => (by cases hh), fun c cs _ => let ⟨v, w', r, s⟩ := h c cs; ⟨v, w', r, stepsIn_wide.2 s⟩⟩
    all_goals exact h.elim
  | halt x w =>
    cases x <;> simp only [Oper.upon, Oper.uponIn] at h ⊢
    all_goals first | exact h | exact h.elim
/-- an operation that is no defer statement -/
def plainOp (o : Oper) : Bool := match o.op with
  | .defer _ => false
  | _ => true
theorem plainOp_spec {o : Oper} (h : plainOp o = true) : ∀ c, o.op ≠ .defer c := fun c e => by
  unfold plainOp at h
  rw [e] at h
  cases h
variable {ops : Array Oper} {md : Region.Mode} {l : Nat}
theorem wpOpIn_of_wpOp (hd : ops.toList.all plainOp = true) (hout : ¬ LetsOut Q) {i : Nat} {K : Act → World → Prop} {a : Act} {w : World} (h : wpOp P ops Q i K a w) : wpOpIn (Fence.wide.inRound l) n P ops Q i K a w := by
  unfold wpOp at h
  unfold wpOpIn
  cases ho : ops[i]? with
  | none => rw [ho] at h; exact h
  | some o =>
    rw [ho] at h
    simp only [] at h ⊢
    have hp : plainOp o = true := by
      rw [List.all_eq_true] at hd
      exact hd o (by rw [Array.mem_toList_iff]; exact Array.mem_of_getElem? ho)
    split
    · rename_i hw
      rw [if_pos hw] at h
      rcases h with h | h
      · refine ⟨fun _ _ => trivial, ?_⟩
        rw [Oper.semAt_eq _ _ _ (plainOp_spec hp)]
        exact uponIn_of_upon h
      · exact absurd h.2 hout
    · rename_i hw
      rw [if_neg hw] at h
      exact ⟨fun _ _ => trivial, h⟩
theorem wpAnyIn_of_wpAny (hd : ops.toList.all plainOp = true) (hout : ¬ LetsOut Q) : ∀ (fuel : Nat) (listed : Array Bool) (a : Act) (w : World), wpAny P md ops Q fuel listed a w → wpAnyIn (Fence.wide.inRound l) n P md ops Q fuel listed a w
  | 0, _, _, _, h => h
  | fuel + 1, _, _, _, h => ⟨h.1, fun i hi => wpOpIn_of_wpOp hd hout (wpOp_mono (fun a' w' h' => wpAnyIn_of_wpAny hd hout fuel _ a' w' h') (h.2 i hi))⟩
/-- A region that draws its order, within a round: whatever S's cells give is taken first. -/
theorem wpIn_region_round {S : World → Prop} {id : Nat} {a : Act} {w : World} (hm : P.follows .mixedOrders = true) (hd : ops.toList.all plainOp = true) (hout : ¬ LetsOut Q) (hS : S w.drew)
    (h : S w.drew → wpAnyH P .any ops Q S ops.size (Array.replicate ops.size false) a w.drew) : (Code.region id ops true).wpIn (Fence.wide.inRound l) n P Q a w :=
  wpIn_region_any hm (wpAnyIn_of_wpAny hd hout _ _ _ _ (wpAny_of_held _ _ _ _ (h hS)))
end Go.Proofs.YtmiipkaobloedaaGreat
