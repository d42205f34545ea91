/- Plain mathematics: what decoding an unacknowledged mode PDU means. -/
import Derived.Test.YtchlbpfeiamieaaM0
namespace Go.Proofs.Ytchlbpfeiamieaa

/-- bits up to the next byte -/
def padN (pos : Nat) : Nat := (8 - pos % 8) % 8
/-- the lengths from position pos on; fuel is what is left of 64 -/
def readLens (bs : List UInt8) : Nat → Bool → Nat → List Nat → Sum Nat (List Nat × Nat)
  | _, false, pos, acc => .inr (acc, pos)
  | 0, true, _, _ => .inl 9
  | f + 1, true, pos, acc =>
    if 8 * bs.length < pos + 12 then .inl 5
    else if val (bitsAt bs pos 12) % 2048 = 0 ∨ 63 ≤ acc.length then .inl 9
    else readLens bs f (decide (val (bitsAt bs pos 12) / 2048 = 1)) (pos + 12) (acc ++ [val (bitsAt bs pos 12) % 2048])
/-- behind the lengths: the padding -/
def afterAlign (bs : List UInt8) : Sum Nat (List Nat × Nat) → Sum Nat (List Nat × Nat)
  | .inl er => .inl er
  | .inr (ls, p) => if val (bitsAt bs p (padN p)) = 0 then .inr (ls, p + padN p) else .inl 9
/-- the lengths and the padding -/
def lenRes (bs : List UInt8) (more : Bool) (pos : Nat) : Sum Nat (List Nat × Nat) := afterAlign bs (readLens bs 64 more pos [])
/-- data cut by lengths; the rest is the last part -/
def splitBy : List Nat → List UInt8 → List (List UInt8)
  | [], d => [d]
  | n :: l, d => d.take n :: splitBy l (d.drop n)
/-- the parts -/
def partsRes (ls : List Nat) (d : List UInt8) : Sum Nat (List (List UInt8)) :=
  if d.length ≤ ls.sum then .inl 5 else if 32767 < d.length then .inl 9 else .inr (splitBy ls d)
/-- what decoding gives: an error, or SN, Starts, Ends and the parts -/
def decU (bs : List UInt8) : Sum Nat (Nat × Bool × Bool × List (List UInt8)) :=
  if bs.length < 2 then .inl 5
  else if val (bitsAt bs 0 3) ≠ 0 then .inl 9
  else match lenRes bs (decide (val (bitsAt bs 5 1) = 1)) 16 with
    | .inl er => .inl er
    | .inr (ls, p) => match partsRes ls (bs.drop (p / 8)) with
      | .inl er => .inl er
      | .inr ps => .inr (val (bitsAt bs 6 10), decide (val (bitsAt bs 3 1) = 0), decide (val (bitsAt bs 4 1) = 0), ps)
theorem readLens_pos (bs : List UInt8) : ∀ (f : Nat) (more : Bool) (pos : Nat) (acc ls : List Nat) (p : Nat), readLens bs f more pos acc = .inr (ls, p) → pos ≤ 8 * bs.length → p ≤ 8 * bs.length ∧ pos ≤ p
  | _, false, pos, acc, ls, p, h, hp => by
    simp only [readLens] at h
    cases h
    exact ⟨hp, Nat.le_refl _⟩
  | 0, true, _, _, _, _, h, _ => by simp [readLens] at h
  | f + 1, true, pos, acc, ls, p, h, hp => by
    simp only [readLens] at h
    split at h
    · cases h
    · split at h
      · cases h
      · have := readLens_pos bs f _ _ _ ls p h (by omega)
        omega
theorem readLens_props (bs : List UInt8) : ∀ (f : Nat) (more : Bool) (pos : Nat) (acc ls : List Nat) (p : Nat), readLens bs f more pos acc = .inr (ls, p) → acc.length ≤ 63 → (∀ n ∈ acc, 1 ≤ n ∧ n ≤ 2047) → ls.length ≤ 63 ∧ ∀ n ∈ ls, 1 ≤ n ∧ n ≤ 2047
  | _, false, pos, acc, ls, p, h, h1, h2 => by
    simp only [readLens] at h
    cases h
    exact ⟨h1, h2⟩
  | 0, true, _, _, _, _, h, _, _ => by simp [readLens] at h
  | f + 1, true, pos, acc, ls, p, h, h1, h2 => by
    simp only [readLens] at h
    split at h
    · cases h
    · split at h
      · cases h
      · rename_i hb
        refine readLens_props bs f _ _ _ ls p h (by simp; omega) (fun n hn => ?_)
        rw [List.mem_append] at hn
        rcases hn with hn | hn
        · exact h2 n hn
        · rw [List.mem_singleton] at hn
          omega
theorem lenRes_props {bs : List UInt8} {more : Bool} {pos : Nat} {ls : List Nat} {p : Nat} (h : lenRes bs more pos = .inr (ls, p)) : ls.length ≤ 63 ∧ ∀ n ∈ ls, 1 ≤ n ∧ n ≤ 2047 := by
  unfold lenRes afterAlign at h
  split at h
  · cases h
  · rename_i ls' p' hr
    split at h
    · cases h
      exact readLens_props bs _ _ _ _ _ _ hr (by simp) (by simp)
    · cases h
theorem splitBy_length (ls : List Nat) : ∀ d, (splitBy ls d).length = ls.length + 1 := by
  induction ls with
  | nil => intro d; rfl
  | cons n l ih => intro d; simp [splitBy, ih]
theorem splitBy_get (ls : List Nat) : ∀ (d : List UInt8) (i n : Nat), ls[i]? = some n → (splitBy ls d)[i]? = some ((d.drop (ls.take i).sum).take n) := by
  induction ls with
  | nil => intro d i n h; simp at h
  | cons m l ih =>
    intro d i n h
    cases i with
    | zero => simp at h; subst h; simp [splitBy]
    | succ i =>
      simp at h
      have := ih (d.drop m) i n h
      simp [splitBy, this]
theorem splitBy_last (ls : List Nat) : ∀ (d : List UInt8), (splitBy ls d)[ls.length]? = some (d.drop ls.sum) := by
  induction ls with
  | nil => intro d; simp [splitBy]
  | cons m l ih =>
    intro d
    have := ih (d.drop m)
    simp [splitBy, this]
theorem splitBy_flatten (ls : List Nat) : ∀ (d : List UInt8), (splitBy ls d).flatten = d := by
  induction ls with
  | nil => intro d; simp [splitBy]
  | cons m l ih => intro d; simp [splitBy, ih]
end Go.Proofs.Ytchlbpfeiamieaa
