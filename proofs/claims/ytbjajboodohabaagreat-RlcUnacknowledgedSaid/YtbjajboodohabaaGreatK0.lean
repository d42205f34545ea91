/- Plain mathematics: what a transmitter's chunk is, and how its parts join. -/
import Derived.Test.YtbjajboodohabaaGreatUa
namespace Go.Proofs.YtbjajboodohabaaGreat

/-- the parts of a chunk of at most n bytes (cnt parts of size bytes are there, the last of lst bytes, e: it ended an SDU): the new parts, Ends, the SDUs left, the bytes sent of the first -/
def chk (n : Int) : Nat → List (List UInt8) → Nat → Nat → Nat → Nat → Bool → List (List UInt8) × Bool × List (List UInt8) × Nat
  | 0, sdus, sent, _, _, _, e => ([], e, sdus, sent)
  | _ + 1, [], sent, _, _, _, e => ([], e, [], sent)
  | f + 1, x :: rest, sent, cnt, lst, size, e =>
    if cnt = 64 ∨ (0 < cnt ∧ 2047 < lst) then ([], e, x :: rest, sent)
    else if min (n - hdrN ((cnt : Int) + 1)) 32767 - (size : Int) < 1 then ([], e, x :: rest, sent)
    else if sent + (min (n - hdrN ((cnt : Int) + 1)) 32767 - (size : Int)).toNat < x.length then
      ([(x.drop sent).take (min (n - hdrN ((cnt : Int) + 1)) 32767 - (size : Int)).toNat], false, x :: rest, sent + (min (n - hdrN ((cnt : Int) + 1)) 32767 - (size : Int)).toNat)
    else (x.drop sent :: (chk n f rest 0 (cnt + 1) (x.length - sent) (size + (x.length - sent)) true).1, (chk n f rest 0 (cnt + 1) (x.length - sent) (size + (x.length - sent)) true).2)
/-- parts joined at the boundaries: the SDUs that are complete, the one that is open, and whether one is -/
def joinG (op : List UInt8) (sm : Bool) : List (List UInt8) → Bool → List (List UInt8) × List UInt8 × Bool
  | [], _ => ([], op, sm)
  | [p], e => if e then ([op ++ p], [], false) else ([], op ++ p, true)
  | p :: q :: r, e => ((op ++ p) :: (joinG [] false (q :: r) e).1, (joinG [] false (q :: r) e).2)

/-- what a chunk does to the SDUs -/
structure ChkOk (sdus : List (List UInt8)) (sent : Nat) (e : Bool) (R : List (List UInt8) × Bool × List (List UInt8) × Nat) : Prop where
  none_ : R.1 = [] → R = ([], e, sdus, sent)
  some_ : R.1 ≠ [] → ∃ g, sdus = g ++ R.2.2.1 ∧ joinG ((sdus.headD []).take sent) (decide (0 < sent)) R.1 R.2.1 = (g, (R.2.2.1.headD []).take R.2.2.2, decide (0 < R.2.2.2))
  lt_ : ∀ x r, R.2.2.1 = x :: r → R.2.2.2 < x.length
  z_ : R.2.2.1 = [] → R.2.2.2 = 0
theorem chkOk_stop {sdus : List (List UInt8)} {sent : Nat} {e : Bool} (h1 : ∀ x r, sdus = x :: r → sent < x.length) (h2 : sdus = [] → sent = 0) : ChkOk sdus sent e ([], e, sdus, sent) :=
  ⟨fun _ => rfl, fun h => absurd rfl h, h1, h2⟩
theorem chk_ok (n : Int) : ∀ (f : Nat) (sdus : List (List UInt8)) (sent cnt lst size : Nat) (e : Bool), (∀ s ∈ sdus, 1 ≤ s.length) → (∀ x r, sdus = x :: r → sent < x.length) → (sdus = [] → sent = 0) →
    ChkOk sdus sent e (chk n f sdus sent cnt lst size e)
  | 0, sdus, sent, cnt, lst, size, e, _, h1, h2 => by rw [chk]; exact chkOk_stop h1 h2
  | f + 1, [], sent, cnt, lst, size, e, _, h1, h2 => by rw [chk]; exact chkOk_stop h1 h2
  | f + 1, x :: rest, sent, cnt, lst, size, e, hp, h1, h2 => by
    have hs := h1 x rest rfl
    rw [chk]
    split
    · exact chkOk_stop h1 h2
    split
    · exact chkOk_stop h1 h2
    rename_i hroom
    have hr1 : 1 ≤ (min (n - hdrN ((cnt : Int) + 1)) 32767 - (size : Int)).toNat := by omega
    generalize (min (n - hdrN ((cnt : Int) + 1)) 32767 - (size : Int)).toNat = room at *
    split
    · rename_i hlt
      refine ⟨(fun h => by cases h), (fun _ => ⟨[], rfl, ?_⟩), (fun y r hy => ?_), (fun h => by cases h)⟩
      · have e1 : x.take sent ++ (x.drop sent).take room = x.take (sent + room) := by rw [List.take_add]
        simp only [joinG, Bool.false_eq_true, if_false, List.headD_cons, e1]
        rw [show decide (0 < sent + room) = true by simp; omega]
      · simp only [List.cons.injEq] at hy
        obtain ⟨rfl, _⟩ := hy
        exact hlt
    · have ih := chk_ok n f rest 0 (cnt + 1) (x.length - sent) (size + (x.length - sent)) true (fun s hs => hp s (by simp [hs])) (fun y r hy => by have := hp y (by simp [hy]); omega) (fun _ => rfl)
      generalize chk n f rest 0 (cnt + 1) (x.length - sent) (size + (x.length - sent)) true = R at *
      refine ⟨(fun h => by cases h), (fun _ => ?_), ih.lt_, ih.z_⟩
      obtain ⟨q, e', s', t'⟩ := R
      cases q with
      | nil =>
        have hR := ih.none_ rfl
        cases hR
        exact ⟨[x], rfl, by simp [joinG]⟩
      | cons a b =>
        obtain ⟨g, hg1, hg2⟩ := ih.some_ (by simp)
        refine ⟨x :: g, by rw [List.cons_append, ← hg1], ?_⟩
        simp only [joinG, List.headD_cons]
        rw [List.take_append_drop]
        simp only [List.take_zero, Nat.lt_irrefl, decide_false] at hg2
        rw [hg2]

/-- the parts of a chunk: at most 64, none empty, all but the last at most 2047 bytes, in all at most 32767 bytes -/
structure ChkParts (cnt size : Nat) (q : List (List UInt8)) : Prop where
  num : cnt ≤ 64 → cnt + q.length ≤ 64
  pos : ∀ p ∈ q, 1 ≤ p.length
  short : ∀ i, i + 1 < q.length → (q[i]?.getD []).length ≤ 2047
  sum : size ≤ 32767 → size + sumLen q ≤ 32767
theorem chkParts_nil (cnt size : Nat) : ChkParts cnt size [] := ⟨fun h => by simpa using h, by simp, fun i hi => by simp at hi, fun h => by simpa [sumLen] using h⟩
theorem chk_long (n : Int) (f : Nat) (sdus : List (List UInt8)) (sent cnt lst size : Nat) (e : Bool) (hc : 0 < cnt) (hl : 2047 < lst) : (chk n f sdus sent cnt lst size e).1 = [] := by
  cases f with
  | zero => rfl
  | succ f =>
    cases sdus with
    | nil => rfl
    | cons x r => rw [chk, if_pos (.inr ⟨hc, hl⟩)]
theorem chk_parts (n : Int) : ∀ (f : Nat) (sdus : List (List UInt8)) (sent cnt lst size : Nat) (e : Bool), (∀ s ∈ sdus, 1 ≤ s.length) → (∀ x r, sdus = x :: r → sent < x.length) →
    ChkParts cnt size (chk n f sdus sent cnt lst size e).1
  | 0, sdus, sent, cnt, lst, size, e, _, _ => by rw [chk]; exact chkParts_nil _ _
  | f + 1, [], sent, cnt, lst, size, e, _, _ => by rw [chk]; exact chkParts_nil _ _
  | f + 1, x :: rest, sent, cnt, lst, size, e, hp, h1 => by
    have hs := h1 x rest rfl
    rw [chk]
    split
    · exact chkParts_nil _ _
    rename_i hc
    split
    · exact chkParts_nil _ _
    rename_i hroom
    have hr1 : 1 ≤ (min (n - hdrN ((cnt : Int) + 1)) 32767 - (size : Int)).toNat := by omega
    have hr2 : size + (min (n - hdrN ((cnt : Int) + 1)) 32767 - (size : Int)).toNat ≤ 32767 := by omega
    generalize (min (n - hdrN ((cnt : Int) + 1)) 32767 - (size : Int)).toNat = room at *
    split
    · rename_i hlt
      have hl : ((x.drop sent).take room).length = room := by rw [List.length_take, List.length_drop]; omega
      refine ⟨fun h => by simp; omega, fun p hm => ?_, fun i hi => by simp at hi, fun h => ?_⟩
      · simp only [List.mem_singleton] at hm
        rw [hm, hl]
        exact hr1
      · simp only [sumLen, List.map_cons, List.map_nil, List.sum_cons, List.sum_nil, hl]
        omega
    · rename_i hge
      have ih := chk_parts n f rest 0 (cnt + 1) (x.length - sent) (size + (x.length - sent)) true (fun s hs => hp s (by simp [hs])) (fun y r hy => by have := hp y (by simp [hy]); omega)
      have hlong := chk_long n f rest 0 (cnt + 1) (x.length - sent) (size + (x.length - sent)) true (by omega)
      generalize (chk n f rest 0 (cnt + 1) (x.length - sent) (size + (x.length - sent)) true).1 = q at *
      have hl : (x.drop sent).length = x.length - sent := List.length_drop
      refine ⟨fun h => ?_, fun p hm => ?_, fun i hi => ?_, fun h => ?_⟩
      · have := ih.num (by omega)
        simp
        omega
      · simp only [List.mem_cons] at hm
        rcases hm with rfl | hm
        · omega
        · exact ih.pos p hm
      · cases i with
        | zero =>
          simp only [List.getElem?_cons_zero, Option.getD_some]
          rw [hl]
          rcases Nat.lt_or_ge 2047 (x.length - sent) with hg | hg
          · rw [hlong hg] at hi
            simp at hi
          · exact hg
        | succ i =>
          have := ih.short i (by simp at hi; omega)
          simpa using this
      · have := ih.sum (by omega)
        simp only [sumLen, List.map_cons, List.sum_cons, hl] at this ⊢
        omega
theorem chk_valid (n : Int) (f : Nat) (sdus : List (List UInt8)) (sent : Nat) (e : Bool) (hp : ∀ s ∈ sdus, 1 ≤ s.length) (h1 : ∀ x r, sdus = x :: r → sent < x.length) (hne : (chk n f sdus sent 0 0 0 e).1 ≠ []) : ValidP (chk n f sdus sent 0 0 0 e).1 := by
  have h := chk_parts n f sdus sent 0 0 0 e hp h1
  have hpos : 1 ≤ (chk n f sdus sent 0 0 0 e).1.length := List.length_pos_iff.2 hne
  exact ⟨hpos, by have := h.num (by omega); omega, h.pos, h.short, by have := h.sum (by omega); omega⟩
end Go.Proofs.YtbjajboodohabaaGreat
