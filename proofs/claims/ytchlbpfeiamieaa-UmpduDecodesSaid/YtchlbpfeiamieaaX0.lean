/- Plain mathematics: bits laid out as bytes, one bit a byte; packing them. -/
import Derived.Test.YtchlbpfeiamieaaM1
namespace Go.Proofs.Ytchlbpfeiamieaa

/-- a bit as a byte -/
def bb (b : Bool) : UInt8 := if b then 1 else 0
/-- bits as bytes -/
def bbs (l : List Bool) : List UInt8 := l.map bb
@[simp] theorem bbs_length (l : List Bool) : (bbs l).length = l.length := by simp [bbs]
theorem bbs_append (a b : List Bool) : bbs (a ++ b) = bbs a ++ bbs b := by simp [bbs]
theorem bbs_get (l : List Bool) (i : Nat) (b : Bool) (h : l[i]? = some b) : (bbs l)[i]? = some (bb b) := by simp [bbs, h]
theorem bb_toNat (b : Bool) : (bb b).toNat = b.toNat := by cases b <;> rfl
theorem bbs_take (l : List Bool) (k : Nat) : bbs (l.take k) = (bbs l).take k := by simp [bbs]
theorem bbs_replicate (k : Nat) (b : Bool) : bbs (List.replicate k b) = List.replicate k (bb b) := by simp [bbs]

/-- the row of FromUint when the last k bits are laid -/
def fromTo (v n k : Nat) : List UInt8 := List.replicate (n - k) 0 ++ (bbs (bitsOf v n)).drop (n - k)
theorem fromTo_zero (v n : Nat) : fromTo v n 0 = List.replicate n 0 := by
  unfold fromTo
  rw [List.drop_of_length_le (by simp)]
  simp
theorem fromTo_all (v n : Nat) : fromTo v n n = bbs (bitsOf v n) := by simp [fromTo]
@[simp] theorem fromTo_length (v n k : Nat) (h : k ≤ n) : (fromTo v n k).length = n := by simp [fromTo]
theorem bitsOf_get (v n j : Nat) (h : j < n) : (bitsOf v n)[j]? = some (decide (v / 2 ^ (n - 1 - j) % 2 = 1)) := by simp [bitsOf, h]
theorem fromTo_succ (v n k : Nat) (h : k < n) : fromTo v n (k + 1) = (fromTo v n k).set (n - 1 - k) (bb (decide (v / 2 ^ k % 2 = 1))) := by
  have hg := bbs_get _ _ _ (bitsOf_get v n (n - 1 - k) (by omega))
  rw [show n - 1 - (n - 1 - k) = k by omega] at hg
  apply List.ext_getElem?
  intro i
  unfold fromTo
  rw [List.getElem?_set]
  by_cases e : n - 1 - k = i
  · subst e
    rw [if_pos rfl, if_pos (by simp; omega), List.getElem?_append_right (by simp; omega), List.getElem?_drop, ← hg]
    congr 1
    simp; omega
  · rw [if_neg e]
    rcases Nat.lt_or_ge i (n - 1 - k) with h1 | h1
    · rw [List.getElem?_append_left (by simp; omega), List.getElem?_append_left (by simp; omega)]
      simp [show i < n - (k + 1) by omega, show i < n - k by omega]
    · rw [List.getElem?_append_right (by simp; omega), List.getElem?_append_right (by simp; omega), List.getElem?_drop, List.getElem?_drop]
      congr 1
      simp; omega

/-- the row of Pack when the first k bits are packed -/
def packTo (l : List Bool) (k : Nat) : List UInt8 := (List.range (nbytes l.length)).map fun i => UInt8.ofNat (packN (l.take k) i)
@[simp] theorem packTo_length (l : List Bool) (k : Nat) : (packTo l k).length = nbytes l.length := by simp [packTo]
theorem packN_nil (i : Nat) : packN [] i = 0 := by simp [packN, bitv]
theorem packTo_zero (l : List Bool) : packTo l 0 = List.replicate (nbytes l.length) 0 := by
  unfold packTo
  simp only [List.take_zero, packN_nil]
  rw [List.map_const']
  simp
theorem packTo_all (l : List Bool) : packTo l l.length = pack l := by simp [packTo, pack]
theorem packTo_get (l : List Bool) (k i : Nat) (h : i < nbytes l.length) : (packTo l k)[i]? = some (UInt8.ofNat (packN (l.take k) i)) := by simp [packTo, h]
theorem take_snocB (l : List Bool) (k : Nat) (b : Bool) (h : l[k]? = some b) : l.take (k + 1) = l.take k ++ [b] := by
  rw [List.take_add_one, h]; rfl
theorem packTo_no (l : List Bool) (k : Nat) (h : l[k]? = some false) : packTo l (k + 1) = packTo l k := by
  have hk : k < l.length := (List.getElem?_eq_some_iff.1 h).1
  have hl : (l.take k).length = k := by simp; omega
  unfold packTo
  rw [take_snocB l k false h]
  apply List.map_congr_left
  intro i _
  congr 1
  by_cases e : i = k / 8
  · subst e
    have := packN_snoc_same (l.take k) false
    rw [hl] at this
    rw [this]; simp
  · exact packN_snoc_other _ _ _ (by rw [hl]; exact e)
theorem packTo_yes (l : List Bool) (k : Nat) (h : l[k]? = some true) : packTo l (k + 1) = (packTo l k).set (k / 8) (UInt8.ofNat (packN (l.take k) (k / 8) + 2 ^ (7 - k % 8))) ∧ packN (l.take k) (k / 8) + 2 ^ (7 - k % 8) < 256 := by
  have hk : k < l.length := (List.getElem?_eq_some_iff.1 h).1
  have hl : (l.take k).length = k := by simp; omega
  have hs := packN_snoc_same (l.take k) true
  rw [hl] at hs
  have hlt := packN_lt (l.take k ++ [true]) (k / 8)
  rw [hs] at hlt
  simp only [Bool.toNat_true, Nat.one_mul] at hlt hs
  refine ⟨?_, hlt⟩
  apply List.ext_getElem?
  intro i
  have hn : k / 8 < nbytes l.length := by unfold nbytes; omega
  rw [List.getElem?_set]
  by_cases e : k / 8 = i
  · subst e
    rw [if_pos rfl, if_pos (by simpa using hn), packTo_get _ _ _ hn, take_snocB l k true h, hs]
  · rw [if_neg e]
    rcases Nat.lt_or_ge i (nbytes l.length) with h1 | h1
    · rw [packTo_get _ _ _ h1, packTo_get _ _ _ h1, take_snocB l k true h, packN_snoc_other _ _ _ (by rw [hl]; omega)]
    · rw [List.getElem?_eq_none (by simpa using h1), List.getElem?_eq_none (by simpa using h1)]

/-- framing bits and extension bit as a number -/
def framN (s e : Bool) (n : Nat) : Nat := 4 * (!s).toNat + 2 * (!e).toNat + (decide (1 < n)).toNat
theorem framN_le (s e : Bool) (n : Nat) : framN s e n ≤ 7 := by
  unfold framN
  cases s <;> cases e <;> cases decide (1 < n) <;> simp
end Go.Proofs.Ytchlbpfeiamieaa
