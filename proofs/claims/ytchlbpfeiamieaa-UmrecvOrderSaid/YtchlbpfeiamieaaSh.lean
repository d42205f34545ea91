/- umrecv: what is delivered of a transmitter's PDU. -/
import Derived.Test.YtchlbpfeiamieaaSe
import Derived.Test.YtchlbpfeiamieaaK0
namespace Go.Proofs.Ytchlbpfeiamieaa

theorem tailStep_more {en : Bool} {n i : Nat} {q b : List UInt8} (hl : b.length + q.length ≤ 9000) (h : i + 1 < n ∨ en = true) : tailStep en n i q b = ([], false, [b ++ q]) := by
  unfold tailStep
  rw [if_neg (by omega), if_pos h]
theorem tailStep_last {n i : Nat} {q b : List UInt8} (hl : b.length + q.length ≤ 9000) (h : ¬ i + 1 < n) : tailStep false n i q b = (b ++ q, true, []) := by
  unfold tailStep
  rw [if_neg (by omega), if_neg (by simp; omega)]
/-- behind the first part -/
theorem partsFrom_from (s e : Bool) (n : Nat) : ∀ (r : List (List UInt8)) (i : Nat) (b : List UInt8) (sm : Bool), 1 ≤ i → i + r.length = n → r ≠ [] → (∀ q ∈ r, q.length ≤ 9000) →
    partsFrom s e n i r b sm = ((joinG [] false r e).2.1, (joinG [] false r e).2.2, (joinG [] false r e).1)
  | [], _, _, _, _, _, h, _ => absurd rfl h
  | [p], i, b, sm, hi, hn, _, hq => by
    have hp := hq p (by simp)
    simp only [List.length_cons, List.length_nil] at hn
    have h1 : partStep s e n i p b sm = tailStep e n i p [] := by unfold partStep; rw [if_pos (.inl (by omega))]
    cases e with
    | true => simp [partsFrom, h1, tailStep_more (b := []) (q := p) (en := true) (n := n) (i := i) (by simpa using hp) (.inr rfl), joinG]
    | false => simp [partsFrom, h1, tailStep_last (b := []) (q := p) (n := n) (i := i) (by simpa using hp) (by omega), joinG]
  | p :: q :: r, i, b, sm, hi, hn, _, hq => by
    have hp := hq p (by simp)
    simp only [List.length_cons] at hn
    have h1 : partStep s e n i p b sm = tailStep e n i p [] := by unfold partStep; rw [if_pos (.inl (by omega))]
    have ih := partsFrom_from s e n (q :: r) (i + 1) [] false (by omega) (by simp; omega) (by simp) (fun x hx => hq x (by simp [hx]))
    rw [partsFrom, h1, tailStep_more (b := []) (q := p) (by simpa using hp) (.inl (by omega)), ih]
    simp [joinG]
/-- the first part goes on with what is open (or begins) -/
theorem partsFrom_on (s e : Bool) (r : List (List UInt8)) (b : List UInt8) (sm : Bool) (b0 : List UInt8) (hr : r ≠ []) (hb : (s = true ∧ b0 = []) ∨ (s = false ∧ sm = true ∧ b0 = b)) (hq : ∀ q ∈ r, b0.length + q.length ≤ 9000) (sm0 : Bool) :
    partsFrom s e r.length 0 r b sm = ((joinG b0 sm0 r e).2.1, (joinG b0 sm0 r e).2.2, (joinG b0 sm0 r e).1) := by
  cases r with
  | nil => exact absurd rfl hr
  | cons p r =>
    have hp := hq p (by simp)
    have h1 : partStep s e (r.length + 1) 0 p b sm = tailStep e (r.length + 1) 0 p b0 := by
      unfold partStep
      rcases hb with ⟨rfl, rfl⟩ | ⟨rfl, rfl, rfl⟩ <;> simp
    cases r with
    | nil =>
      simp only [List.length_nil] at h1
      cases e with
      | true => simp [partsFrom, h1, tailStep_more (b := b0) (q := p) (en := true) (n := 1) (i := 0) hp (.inr rfl), joinG]
      | false => simp [partsFrom, h1, tailStep_last (b := b0) (q := p) (n := 1) (i := 0) hp (by omega), joinG]
    | cons q r =>
      have ih := partsFrom_from s e (r.length + 2) (q :: r) 1 [] false (by omega) (by simp; omega) (by simp) (fun x hx => by have := hq x (by simp [hx]); omega)
      simp only [List.length_cons] at h1 ⊢
      rw [partsFrom, h1, tailStep_more (b := b0) (q := p) hp (.inl (by omega)), ih]
      simp [joinG]
/-- the first part is left out: the SDU that it belongs to is not open -/
theorem partsFrom_off (e : Bool) (r : List (List UInt8)) (b b0 : List UInt8) (hr : r ≠ []) (hq : ∀ q ∈ r, q.length ≤ 9000) :
    partsFrom false e r.length 0 r b false = (if r.length = 1 then (b, false, []) else ((joinG b0 true r e).2.1, (joinG b0 true r e).2.2, (joinG b0 true r e).1.tail)) := by
  cases r with
  | nil => exact absurd rfl hr
  | cons p r =>
    have h1 : partStep false e (r.length + 1) 0 p b false = (b, false, []) := by
      unfold partStep
      simp
    cases r with
    | nil =>
      simp only [List.length_nil] at h1
      simp [partsFrom, h1]
    | cons q r =>
      have ih := partsFrom_from false e (r.length + 2) (q :: r) 1 b false (by omega) (by simp; omega) (by simp) (fun x hx => hq x (by simp [hx]))
      simp only [List.length_cons] at h1 ⊢
      rw [partsFrom, h1, ih, if_neg (by omega)]
      simp [joinG]
end Go.Proofs.Ytchlbpfeiamieaa
