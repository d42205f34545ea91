/- Plain mathematics: what cutting a PDU comes to. Plain mathematics: cutting a segment again is cutting the PDU. -/
import Derived.Test.YtmiipkaobloedaaGreatYMa
import Derived.Test.YtmiipkaobloedaaGreatYUa
import Derived.Test.YtmiipkaobloedaaGreatYWa
namespace Go.Proofs.YtmiipkaobloedaaGreat

/-- part k, cut -/
def cutPart (ps : List (List UInt8)) (off fr to k : Nat) : List UInt8 :=
  ((ps[k]?.getD []).drop (max (off + sumLen (ps.take k)) fr - (off + sumLen (ps.take k)))).take (min (off + sumLen (ps.take (k + 1))) to - max (off + sumLen (ps.take k)) fr)
/-- does part k meet the range? -/
def cutHits (ps : List (List UInt8)) (off fr to k : Nat) : Bool := decide (max (off + sumLen (ps.take k)) fr < min (off + sumLen (ps.take (k + 1))) to)
/-- the parts of the first k parts, cut -/
def cutParts (ps : List (List UInt8)) (off fr to : Nat) : Nat → List (List UInt8)
  | 0 => []
  | k + 1 => if cutHits ps off fr to k then cutParts ps off fr to k ++ [cutPart ps off fr to k] else cutParts ps off fr to k
/-- Starts, after k parts -/
def cutStarts (ps : List (List UInt8)) (s : Bool) (off fr : Nat) : Nat → Bool
  | 0 => false
  | k + 1 => cutStarts ps s off fr k || (decide (off + sumLen (ps.take k) = fr) && (decide (0 < k) || s))
/-- Ends, after k parts -/
def cutEnds (ps : List (List UInt8)) (e : Bool) (off to : Nat) : Nat → Bool
  | 0 => false
  | k + 1 => cutEnds ps e off to k || (decide (off + sumLen (ps.take (k + 1)) = to) && (decide (k + 1 < ps.length) || e))
theorem cutParts_length (ps : List (List UInt8)) (off fr to : Nat) : ∀ k, (cutParts ps off fr to k).length ≤ k
  | 0 => Nat.le_refl _
  | k + 1 => by
    have := cutParts_length ps off fr to k
    unfold cutParts
    split
    · simp; omega
    · omega
end Go.Proofs.YtmiipkaobloedaaGreat
namespace Go.Proofs.YtmiipkaobloedaaGreat

theorem sumLen_cons (p : List UInt8) (ps : List (List UInt8)) : sumLen (p :: ps) = p.length + sumLen ps := by simp [sumLen]
/-- the bytes x to y of parts, as parts -/
def cutL : List (List UInt8) → Nat → Nat → List (List UInt8)
  | [], _, _ => []
  | p :: ps, x, y => if x < min p.length y then (p.take y).drop x :: cutL ps (x - p.length) (y - p.length) else cutL ps (x - p.length) (y - p.length)
/-- does a part that begins lie at x? -/
def startL : List (List UInt8) → Bool → Nat → Bool
  | [], _, _ => false
  | p :: ps, s, x => (decide (x = 0) && s) || (decide (p.length ≤ x) && startL ps true (x - p.length))
/-- does a part that ends lie at y? -/
def endL : List (List UInt8) → Bool → Nat → Bool
  | [], _, _ => false
  | p :: ps, e, y => (decide (y = p.length) && (decide (0 < ps.length) || e)) || (decide (p.length ≤ y) && endL ps e (y - p.length))

theorem cutL_zero : ∀ (ps : List (List UInt8)) (x : Nat), cutL ps x 0 = []
  | [], _ => rfl
  | p :: ps, x => by simp [cutL, cutL_zero ps]
theorem cutL_cutL : ∀ (ps : List (List UInt8)) (x y u v : Nat), x + v ≤ y → cutL (cutL ps x y) u v = cutL ps (x + u) (x + v)
  | [], _, _, _, _, _ => rfl
  | p :: ps, x, y, u, v, h => by
    by_cases hx : x < min p.length y
    · have hq : ((p.take y).drop x).length = min p.length y - x := by simp; omega
      simp only [cutL]
      rw [if_pos hx, cutL, hq]
      by_cases hy : p.length ≤ y
      · have ih := cutL_cutL ps (x - p.length) (y - p.length) (u - (min p.length y - x)) (v - (min p.length y - x)) (by omega)
        rw [ih, show x - p.length + (u - (min p.length y - x)) = x + u - p.length by omega, show x - p.length + (v - (min p.length y - x)) = x + v - p.length by omega]
        by_cases hh : u < min (min p.length y - x) v
        · rw [if_pos hh, if_pos (by omega)]
          congr 1
          rw [List.take_drop, List.drop_drop, List.take_take]
          congr 2
          omega
        · rw [if_neg hh, if_neg (by omega)]
      · have e1 : v - (min p.length y - x) = 0 := by omega
        have e2 : x + v - p.length = 0 := by omega
        rw [e1, e2, cutL_zero, cutL_zero]
        by_cases hh : u < min (min p.length y - x) v
        · rw [if_pos hh, if_pos (by omega)]
          congr 1
          rw [List.take_drop, List.drop_drop, List.take_take]
          congr 2
          omega
        · rw [if_neg hh, if_neg (by omega)]
    · simp only [cutL]
      rw [if_neg hx]
      by_cases hy : p.length ≤ x
      · rw [cutL_cutL ps (x - p.length) (y - p.length) u v (by omega), show x - p.length + u = x + u - p.length by omega, show x - p.length + v = x + v - p.length by omega, if_neg (by omega)]
      · have e1 : v = 0 := by omega
        subst e1
        rw [cutL_zero, if_neg (by omega), show x + 0 - p.length = 0 by omega, cutL_zero]

theorem cutL_flatten : ∀ (ps : List (List UInt8)) (x y : Nat), (cutL ps x y).flatten = (ps.flatten.take y).drop x
  | [], _, _ => by simp [cutL]
  | p :: ps, x, y => by
    have ih := cutL_flatten ps (x - p.length) (y - p.length)
    rw [List.flatten_cons, List.take_append, List.drop_append, List.length_take]
    simp only [cutL]
    by_cases hx : x < min p.length y
    · rw [if_pos hx, List.flatten_cons, ih]
      congr 1
      by_cases hy : p.length ≤ y
      · rw [show x - min y p.length = x - p.length by omega]
      · rw [show y - p.length = 0 by omega]; simp
    · rw [if_neg hx, ih, List.drop_of_length_le (i := x) (l := p.take y) (by simp; omega)]
      by_cases hy : p.length ≤ y
      · rw [show x - min y p.length = x - p.length by omega]; simp
      · rw [show y - p.length = 0 by omega]; simp
theorem cutL_sum (ps : List (List UInt8)) (x y : Nat) (h : y ≤ sumLen ps) : sumLen (cutL ps x y) = y - x := by
  rw [← flatten_length, cutL_flatten, List.length_drop, List.length_take, flatten_length]
  omega
theorem cutL_pos : ∀ (ps : List (List UInt8)) (x y : Nat), ∀ q ∈ cutL ps x y, 1 ≤ q.length
  | [], _, _, q, hq => by simp [cutL] at hq
  | p :: ps, x, y, q, hq => by
    simp only [cutL] at hq
    by_cases hx : x < min p.length y
    · rw [if_pos hx, List.mem_cons] at hq
      rcases hq with rfl | hq
      · simp; omega
      · exact cutL_pos ps _ _ q hq
    · rw [if_neg hx] at hq
      exact cutL_pos ps _ _ q hq
theorem cutL_length : ∀ (ps : List (List UInt8)) (x y : Nat), (cutL ps x y).length ≤ ps.length
  | [], _, _ => by simp [cutL]
  | p :: ps, x, y => by
    have := cutL_length ps (x - p.length) (y - p.length)
    simp only [cutL]
    split
    · simp; omega
    · simp; omega
theorem cutL_short : ∀ (ps : List (List UInt8)) (x y : Nat), (∀ i, i + 1 < ps.length → (ps[i]?.getD []).length ≤ 2047) → ∀ i, i + 1 < (cutL ps x y).length → ((cutL ps x y)[i]?.getD []).length ≤ 2047
  | [], _, _, _, i, hi => by simp [cutL] at hi
  | p :: ps, x, y, h, i, hi => by
    have hr : ∀ i, i + 1 < ps.length → (ps[i]?.getD []).length ≤ 2047 := fun i hi => by
      have := h (i + 1) (by simp; omega)
      simpa using this
    have ih := cutL_short ps (x - p.length) (y - p.length) hr
    have hl := cutL_length ps (x - p.length) (y - p.length)
    simp only [cutL] at hi ⊢
    by_cases hx : x < min p.length y
    · rw [if_pos hx] at hi ⊢
      cases i with
      | zero =>
        have := h 0 (by simp at hi ⊢; omega)
        simp at this ⊢
        omega
      | succ i =>
        have := ih i (by simp at hi; omega)
        simpa using this
    · rw [if_neg hx] at hi ⊢
      exact ih i hi
theorem cutL_ne (ps : List (List UInt8)) (x y : Nat) (h : x < y) (hy : y ≤ sumLen ps) : 1 ≤ (cutL ps x y).length := by
  have := cutL_sum ps x y hy
  rcases Nat.eq_zero_or_pos (cutL ps x y).length with h0 | h0
  · rw [List.length_eq_zero_iff] at h0
    rw [h0] at this
    simp [sumLen] at this
    omega
  · exact h0
theorem cutL_valid (ps : List (List UInt8)) (x y : Nat) (hv : ValidP ps) (h : x < y) (hy : y ≤ sumLen ps) : ValidP (cutL ps x y) :=
  ⟨cutL_ne ps x y h hy, Nat.le_trans (cutL_length ps x y) hv.hi, cutL_pos ps x y, cutL_short ps x y hv.short, by rw [cutL_sum ps x y hy]; have := hv.sum; omega⟩

/-- where a cut begins -/
theorem startL_cutL : ∀ (ps : List (List UInt8)) (s : Bool) (x y u : Nat), (∀ p ∈ ps, 1 ≤ p.length) → x + u < y → y ≤ sumLen ps → startL (cutL ps x y) (startL ps s x) u = startL ps s (x + u)
  | [], _, _, _, _, _, h, hy => by simp [sumLen] at hy; omega
  | p :: ps, s, x, y, u, hp, h, hy => by
    have hp1 := hp p (by simp)
    have hps : ∀ q ∈ ps, 1 ≤ q.length := fun q hq => hp q (by simp [hq])
    rw [sumLen_cons] at hy
    by_cases hx : x < min p.length y
    · have hq : ((p.take y).drop x).length = min p.length y - x := by simp; omega
      simp only [cutL]
      rw [if_pos hx]
      simp only [startL]
      rw [hq, show decide (p.length ≤ x) = false by simp; omega, Bool.false_and, Bool.or_false]
      by_cases hu : p.length ≤ x + u
      · have ih := startL_cutL ps true (x - p.length) (y - p.length) (u - (min p.length y - x)) hps (by omega) (by omega)
        rw [show x - p.length = 0 by omega] at ih ⊢
        rw [show decide (min p.length y - x ≤ u) = true by simp; omega, show decide (p.length ≤ x + u) = true by simp; omega, show decide (x + u = 0) = false by simp; omega, show decide (u = 0) = false by simp; omega]
        simp only [Bool.false_and, Bool.true_and, Bool.false_or]
        rw [show x + u - p.length = 0 + (u - (min p.length y - x)) by omega, ← ih]
        by_cases hps0 : ps = []
        · subst hps0; simp [sumLen] at hy; omega
        · obtain ⟨r, rs, rfl⟩ := List.exists_cons_of_ne_nil hps0
          have : startL (r :: rs) true 0 = true := by simp [startL]
          rw [this]
      · rw [show decide (min p.length y - x ≤ u) = false by simp; omega, show decide (p.length ≤ x + u) = false by simp; omega]
        simp only [Bool.false_and, Bool.or_false]
        by_cases hx0 : x = 0
        · subst hx0; simp
        · simp [hx0]
    · have hpx : p.length ≤ x := by omega
      have ih := startL_cutL ps true (x - p.length) (y - p.length) u hps (by omega) (by omega)
      simp only [cutL]
      rw [if_neg hx]
      simp only [startL]
      rw [show decide (p.length ≤ x) = true by simp; omega, show decide (p.length ≤ x + u) = true by simp; omega, show decide (x + u = 0) = false by simp; omega, show decide (x = 0) = false by simp; omega]
      simp only [Bool.false_and, Bool.true_and, Bool.false_or]
      rw [ih, show x - p.length + u = x + u - p.length by omega]

theorem endL_zero : ∀ (ps : List (List UInt8)) (e : Bool), (∀ p ∈ ps, 1 ≤ p.length) → endL ps e 0 = false
  | [], _, _ => rfl
  | p :: ps, e, hp => by
    have hp1 := hp p (by simp)
    simp only [endL]
    rw [decide_eq_false (p := 0 = p.length) (by omega), decide_eq_false (p := p.length ≤ 0) (by omega)]
    rfl
/-- where a cut ends -/
theorem endL_cutL : ∀ (ps : List (List UInt8)) (e : Bool) (x y v : Nat), (∀ p ∈ ps, 1 ≤ p.length) → 0 < v → x + v ≤ y → y ≤ sumLen ps → endL (cutL ps x y) (endL ps e y) v = endL ps e (x + v)
  | [], _, _, _, _, _, _, h, hy => by simp [sumLen] at hy; omega
  | p :: ps, e, x, y, v, hp, hv, h, hy => by
    have hp1 := hp p (by simp)
    have hps : ∀ q ∈ ps, 1 ≤ q.length := fun q hq => hp q (by simp [hq])
    rw [sumLen_cons] at hy
    by_cases hx : x < min p.length y
    · have hq : ((p.take y).drop x).length = min p.length y - x := by simp; omega
      simp only [cutL]
      rw [if_pos hx]
      simp only [endL]
      rw [hq]
      by_cases hvp : p.length < x + v
      · have ih := endL_cutL ps e (x - p.length) (y - p.length) (v - (min p.length y - x)) hps (by omega) (by omega) (by omega)
        rw [show decide (v = min p.length y - x) = false by simp; omega, show decide (min p.length y - x ≤ v) = true by simp; omega, show decide (x + v = p.length) = false by simp; omega, show decide (p.length ≤ x + v) = true by simp; omega, show decide (p.length ≤ y) = true by simp; omega, show decide (y = p.length) = false by simp; omega]
        simp only [Bool.false_and, Bool.true_and, Bool.false_or]
        rw [ih, show x - p.length + (v - (min p.length y - x)) = x + v - p.length by omega]
      · by_cases hve : x + v = p.length
        · rw [show decide (v = min p.length y - x) = true by simp; omega, show decide (x + v = p.length) = true by simp; omega, show v - (min p.length y - x) = 0 by omega, show x + v - p.length = 0 by omega, endL_zero _ _ (cutL_pos _ _ _), endL_zero _ _ hps]
          simp only [Bool.true_and, Bool.and_false, Bool.or_false]
          by_cases hyp : y = p.length
          · subst hyp
            rw [show decide (p.length = p.length) = true by simp, Nat.sub_self, cutL_zero, endL_zero _ _ hps]
            simp
          · have h1 := cutL_ne ps (x - p.length) (y - p.length) (by omega) (by omega)
            have h2 : 0 < ps.length := by have := cutL_length ps (x - p.length) (y - p.length); omega
            rw [show decide (0 < (cutL ps (x - p.length) (y - p.length)).length) = true by simp; omega, show decide (0 < ps.length) = true by simpa using h2]
            simp
        · rw [show decide (x + v = p.length) = false by simpa using hve, show decide (p.length ≤ x + v) = false by simp; omega]
          simp only [Bool.false_and, Bool.or_false]
          by_cases hvy : x + v = y
          · have e0 : y - p.length = 0 := by omega
            rw [e0, cutL_zero, show decide (v = min p.length y - x) = true by simp; omega, show decide (y = p.length) = false by simp; omega, show decide (p.length ≤ y) = false by simp; omega]
            simp [endL]
          · rw [show decide (v = min p.length y - x) = false by simp; omega, show decide (min p.length y - x ≤ v) = false by simp; omega]
            simp
    · have hpx : p.length ≤ x := by omega
      have ih := endL_cutL ps e (x - p.length) (y - p.length) v hps hv (by omega) (by omega)
      simp only [cutL]
      rw [if_neg hx]
      simp only [endL]
      rw [show decide (y = p.length) = false by simp; omega, show decide (p.length ≤ y) = true by simp; omega, show decide (x + v = p.length) = false by simp; omega, show decide (p.length ≤ x + v) = true by simp; omega]
      simp only [Bool.false_and, Bool.true_and, Bool.false_or]
      rw [ih, show x - p.length + v = x + v - p.length by omega]
/-- inside, a part ends where the next one begins -/
theorem endL_startL : ∀ (ps : List (List UInt8)) (s e : Bool) (v : Nat), (∀ p ∈ ps, 1 ≤ p.length) → 0 < v → v < sumLen ps → endL ps e v = startL ps s v
  | [], _, _, _, _, _, h => by simp [sumLen] at h
  | p :: ps, s, e, v, hp, hv, h => by
    have hp1 := hp p (by simp)
    have hps : ∀ q ∈ ps, 1 ≤ q.length := fun q hq => hp q (by simp [hq])
    rw [sumLen_cons] at h
    simp only [endL, startL]
    rw [show decide (v = 0) = false by simp; omega]
    simp only [Bool.false_and, Bool.false_or]
    by_cases h1 : v = p.length
    · have h2 : ps ≠ [] := by rintro rfl; simp [sumLen] at h; omega
      obtain ⟨r, rs, rfl⟩ := List.exists_cons_of_ne_nil h2
      subst h1
      simp [startL]
    · rw [show decide (v = p.length) = false by simpa using h1]
      simp only [Bool.false_and, Bool.false_or]
      by_cases h2 : p.length ≤ v
      · rw [endL_startL ps true e (v - p.length) hps (by omega) (by omega)]
      · rw [show decide (p.length ≤ v) = false by simp; omega]
        simp

/-! ### the program's way of cutting -/
theorem cutHits_cons (p : List UInt8) (ps : List (List UInt8)) (off fr till k : Nat) : cutHits (p :: ps) off fr till (k + 1) = cutHits ps (off + p.length) fr till k := by
  unfold cutHits
  simp only [List.take_succ_cons, sumLen_cons, Nat.add_assoc]
theorem cutPart_cons (p : List UInt8) (ps : List (List UInt8)) (off fr till k : Nat) : cutPart (p :: ps) off fr till (k + 1) = cutPart ps (off + p.length) fr till k := by
  unfold cutPart
  simp only [List.take_succ_cons, sumLen_cons, Nat.add_assoc, List.getElem?_cons_succ]
theorem cutParts_cons (p : List UInt8) (ps : List (List UInt8)) (off fr till : Nat) : ∀ k, cutParts (p :: ps) off fr till (k + 1) = (if cutHits (p :: ps) off fr till 0 then [cutPart (p :: ps) off fr till 0] else []) ++ cutParts ps (off + p.length) fr till k
  | 0 => by
    simp only [cutParts]
    split <;> simp
  | k + 1 => by
    have ih := cutParts_cons p ps off fr till k
    rw [cutParts, ih, cutHits_cons, cutPart_cons]
    conv => rhs; rw [cutParts]
    split <;> split <;> simp
theorem cutParts_cutL : ∀ (ps : List (List UInt8)) (off fr till : Nat), cutParts ps off fr till ps.length = cutL ps (fr - off) (till - off)
  | [], _, _, _ => rfl
  | p :: ps, off, fr, till => by
    have ih := cutParts_cutL ps (off + p.length) fr till
    rw [List.length_cons, cutParts_cons, ih, cutL, show fr - (off + p.length) = fr - off - p.length by omega, show till - (off + p.length) = till - off - p.length by omega]
    have hh : cutHits (p :: ps) off fr till 0 = decide (fr - off < min p.length (till - off)) := by
      unfold cutHits
      simp only [List.take_zero, List.take_succ_cons, sumLen_cons, sumLen_nil]
      rw [Bool.eq_iff_iff]
      simp only [decide_eq_true_eq]
      omega
    rw [hh]
    by_cases hx : fr - off < min p.length (till - off)
    · rw [if_pos (by simpa using hx), if_pos hx, List.singleton_append]
      congr 1
      unfold cutPart
      simp only [List.take_zero, List.take_succ_cons, sumLen_cons, sumLen_nil, List.getElem?_cons_zero, Option.getD_some, Nat.add_zero]
      rw [List.take_drop, show max off fr - off = fr - off by omega]
      congr 1
      by_cases h1 : p.length ≤ till - off
      · rw [List.take_of_length_le (by omega), List.take_of_length_le h1]
      · congr 1; omega
    · rw [if_neg (by simpa using hx), if_neg hx, List.nil_append]
theorem cutStarts_cons (p : List UInt8) (ps : List (List UInt8)) (s : Bool) (off fr : Nat) : ∀ k, cutStarts (p :: ps) s off fr (k + 1) = ((decide (off = fr) && s) || cutStarts ps true (off + p.length) fr k)
  | 0 => by simp [cutStarts, sumLen]
  | k + 1 => by
    rw [cutStarts, cutStarts_cons p ps s off fr k]
    conv => rhs; rw [cutStarts]
    simp only [List.take_succ_cons, sumLen_cons, Nat.add_assoc, Bool.or_assoc, Nat.zero_lt_succ, decide_true, Bool.true_or, Bool.or_true, Bool.and_true]
theorem cutStarts_startL : ∀ (ps : List (List UInt8)) (s : Bool) (off fr : Nat), cutStarts ps s off fr ps.length = (decide (off ≤ fr) && startL ps s (fr - off))
  | [], _, _, _ => by simp [cutStarts, startL]
  | p :: ps, s, off, fr => by
    rw [List.length_cons, cutStarts_cons, cutStarts_startL ps true (off + p.length) fr]
    simp only [startL]
    rw [show fr - (off + p.length) = fr - off - p.length by omega]
    by_cases h : off ≤ fr
    · rw [show decide (off ≤ fr) = true by simpa using h, show decide (off = fr) = decide (fr - off = 0) by rw [Bool.eq_iff_iff]; simp; omega, show decide (off + p.length ≤ fr) = decide (p.length ≤ fr - off) by rw [Bool.eq_iff_iff]; simp; omega]
      simp
    · rw [show decide (off ≤ fr) = false by simpa using h, show decide (off = fr) = false by simp; omega, show decide (off + p.length ≤ fr) = false by simp; omega]
      simp
theorem cutEnds_cons (p : List UInt8) (ps : List (List UInt8)) (e : Bool) (off till : Nat) : ∀ k, cutEnds (p :: ps) e off till (k + 1) = ((decide (off + p.length = till) && (decide (0 < ps.length) || e)) || cutEnds ps e (off + p.length) till k)
  | 0 => by simp [cutEnds, sumLen]
  | k + 1 => by
    rw [cutEnds, cutEnds_cons p ps e off till k]
    conv => rhs; rw [cutEnds]
    simp only [List.take_succ_cons, sumLen_cons, Nat.add_assoc, Bool.or_assoc, List.length_cons]
    rw [show decide (k + (1 + 1) < ps.length + 1) = decide (k + 1 < ps.length) by rw [Bool.eq_iff_iff]; simp only [decide_eq_true_eq]; omega]
theorem cutEnds_endL : ∀ (ps : List (List UInt8)) (e : Bool) (off till : Nat), cutEnds ps e off till ps.length = (decide (off ≤ till) && endL ps e (till - off))
  | [], _, _, _ => by simp [cutEnds, endL]
  | p :: ps, e, off, till => by
    rw [List.length_cons, cutEnds_cons, cutEnds_endL ps e (off + p.length) till]
    simp only [endL]
    rw [show till - (off + p.length) = till - off - p.length by omega]
    by_cases h : off ≤ till
    · rw [show decide (off ≤ till) = true by simpa using h, show decide (off + p.length = till) = decide (till - off = p.length) by rw [Bool.eq_iff_iff]; simp; omega, show decide (off + p.length ≤ till) = decide (p.length ≤ till - off) by rw [Bool.eq_iff_iff]; simp; omega]
      simp
    · rw [show decide (off ≤ till) = false by simpa using h, show decide (off + p.length = till) = false by simp; omega, show decide (off + p.length ≤ till) = false by simp; omega]
      simp

/-- cutting again -/
theorem cut_again (ps : List (List UInt8)) (s e : Bool) (off a b c d : Nat) (hv : ValidP ps) (h0 : off ≤ a) (h1 : a ≤ b) (h2 : b < c) (h3 : c ≤ d) (h4 : d ≤ off + sumLen ps) :
    cutParts (cutParts ps off a d ps.length) a b c (cutParts ps off a d ps.length).length = cutParts ps off b c ps.length ∧
    cutStarts (cutParts ps off a d ps.length) (cutStarts ps s off a ps.length) a b (cutParts ps off a d ps.length).length = cutStarts ps s off b ps.length ∧
    cutEnds (cutParts ps off a d ps.length) (cutEnds ps e off d ps.length) a c (cutParts ps off a d ps.length).length = cutEnds ps e off c ps.length := by
  refine ⟨?_, ?_, ?_⟩
  · rw [cutParts_cutL, cutParts_cutL, cutParts_cutL, cutL_cutL _ _ _ _ _ (by omega), show a - off + (b - a) = b - off by omega, show a - off + (c - a) = c - off by omega]
  · rw [cutParts_cutL, cutStarts_startL, cutStarts_startL, cutStarts_startL, show decide (off ≤ a) = true by simpa using h0, show decide (a ≤ b) = true by simpa using h1, show decide (off ≤ b) = true by simp; omega]
    simp only [Bool.true_and]
    rw [startL_cutL ps s _ _ _ hv.pos (by omega) (by omega), show a - off + (b - a) = b - off by omega]
  · rw [cutParts_cutL, cutEnds_endL, cutEnds_endL, cutEnds_endL, show decide (off ≤ d) = true by simp; omega, show decide (a ≤ c) = true by simp; omega, show decide (off ≤ c) = true by simp; omega]
    simp only [Bool.true_and]
    rw [endL_cutL ps e _ _ _ hv.pos (by omega) (by omega) (by omega), show a - off + (c - a) = c - off by omega]
theorem cut_sum (ps : List (List UInt8)) (off a d : Nat) (h0 : off ≤ a) (h4 : d ≤ off + sumLen ps) : sumLen (cutParts ps off a d ps.length) = d - a := by
  rw [cutParts_cutL, cutL_sum _ _ _ (by omega)]
  omega
theorem cut_valid (ps : List (List UInt8)) (off a d : Nat) (hv : ValidP ps) (h0 : off ≤ a) (h1 : a < d) (h4 : d ≤ off + sumLen ps) : ValidP (cutParts ps off a d ps.length) := by
  rw [cutParts_cutL]
  exact cutL_valid ps _ _ hv (by omega) (by omega)
theorem cut_bytes (ps : List (List UInt8)) (off a d : Nat) : (cutParts ps off a d ps.length).flatten = (ps.flatten.take (d - off)).drop (a - off) := by
  rw [cutParts_cutL, cutL_flatten]
/-- the left neighbour ends where the cut begins -/
theorem cut_left (ps : List (List UInt8)) (s e : Bool) (off a b d : Nat) (hv : ValidP ps) (h0 : off ≤ a) (h1 : a < b) (h2 : b < d) (h4 : d ≤ off + sumLen ps) :
    cutEnds (cutParts ps off a d ps.length) (cutEnds ps e off d ps.length) a b (cutParts ps off a d ps.length).length = cutStarts ps s off b ps.length := by
  rw [cutParts_cutL, cutEnds_endL, cutEnds_endL, cutStarts_startL, show decide (off ≤ d) = true by simp; omega, show decide (a ≤ b) = true by simp; omega, show decide (off ≤ b) = true by simp; omega]
  simp only [Bool.true_and]
  rw [endL_cutL ps e _ _ _ hv.pos (by omega) (by omega) (by omega), show a - off + (b - a) = b - off by omega]
  exact endL_startL ps s e _ hv.pos (by omega) (by omega)
end Go.Proofs.YtmiipkaobloedaaGreat
