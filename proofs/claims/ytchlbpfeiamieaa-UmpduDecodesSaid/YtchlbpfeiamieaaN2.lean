/- Plain mathematics: encodings cut short. -/
import Derived.Test.YtchlbpfeiamieaaN1
namespace Go.Proofs.Ytchlbpfeiamieaa

theorem readLens_err (bs : List UInt8) : ∀ (f : Nat) (more : Bool) (pos : Nat) (acc : List Nat) (er : Nat), readLens bs f more pos acc = .inl er → er ≠ 0
  | _, false, pos, acc, er, h => by simp [readLens] at h
  | 0, true, _, _, er, h => by simp [readLens] at h; omega
  | f + 1, true, pos, acc, er, h => by
    simp only [readLens] at h
    split at h
    · cases h; omega
    · split at h
      · cases h; omega
      · exact readLens_err bs f _ _ _ er h
theorem decU_err (bs : List UInt8) (er : Nat) (h : decU bs = .inl er) : er ≠ 0 := by
  unfold decU at h
  split at h
  · cases h; omega
  split at h
  · cases h; omega
  split at h
  · rename_i er' hlr
    cases h
    unfold lenRes afterAlign at hlr
    split at hlr
    · rename_i er'' hrl
      cases hlr
      exact readLens_err _ _ _ _ _ _ hrl
    · split at hlr
      · cases hlr
      · cases hlr; omega
  · split at h
    · rename_i er' hpr
      cases h
      unfold partsRes at hpr
      split at hpr
      · cases hpr; omega
      · split at hpr
        · cases hpr; omega
        · cases hpr
    · cases h

theorem enc_more (sn : Nat) (s e : Bool) (l : List (List UInt8)) (x : List UInt8) : val (bitsAt (encU sn s e (l ++ [x])) 5 1) = (decide (0 < l.length)).toNat := by
  rw [encU_last]
  have f3 : bitsAt (pack (fieldBits (umHead sn s e (l.length + 1)) ++ (lb (l.map List.length) ++ [])) ++ (l.flatten ++ x)) 5 1 = bitsOf (decide (1 < l.length + 1)).toNat 1 := by
    have := bitsAt_mid (bitsOf 0 3 ++ (bitsOf (!s).toNat 1 ++ bitsOf (!e).toNat 1)) (bitsOf (decide (1 < l.length + 1)).toNat 1) (bitsOf sn 10 ++ (lb (l.map List.length) ++ [])) (l.flatten ++ x) 5 1 (by simp) (by simp)
    rw [head_bits]
    simpa only [List.append_assoc] using this
  rw [f3, val_bit]
  congr 1
  simp
theorem enc_lens (sn : Nat) (s e : Bool) (l : List (List UInt8)) (x : List UInt8) (hl : l.length ≤ 63) (hs : ∀ p ∈ l, 1 ≤ p.length ∧ p.length ≤ 2047) :
    readLens (encU sn s e (l ++ [x])) 64 (decide (0 < l.length)) 16 [] = .inr (l.map List.length, 16 + 12 * l.length) := by
  rw [encU_last]
  have rl := readLens_enc [] (l.flatten ++ x) (l.map List.length) (fieldBits (umHead sn s e (l.length + 1))) 64 [] (by
    intro n hn
    rw [List.mem_map] at hn
    obtain ⟨p, hp, rfl⟩ := hn
    exact hs p hp) (by simp; omega) (by simpa using hl)
  have hL : (fieldBits (umHead sn s e (l.length + 1))).length = 16 := by rw [head_bits]; simp
  rw [hL] at rl
  simpa using rl
theorem valid_init {l : List (List UInt8)} {x : List UInt8} (hv : ValidP (l ++ [x])) : l.length ≤ 63 ∧ ∀ p ∈ l, 1 ≤ p.length ∧ p.length ≤ 2047 := by
  refine ⟨by have := hv.hi; simp at this; omega, fun p hp => ⟨hv.pos p (by simp [hp]), ?_⟩⟩
  obtain ⟨i, hi, rfl⟩ := List.getElem_of_mem hp
  have := hv.short i (by simp; omega)
  rw [List.getElem?_append_left hi, List.getElem?_eq_getElem hi] at this
  exact this
theorem encU_snoc (sn : Nat) (s e : Bool) (l : List (List UInt8)) (x y : List UInt8) : encU sn s e (l ++ [x]) ++ y = encU sn s e (l ++ [x ++ y]) := by
  rw [encU_last, encU_last]
  simp

/-- cut before the last part's first byte, an encoding does not decode -/
theorem cut_bad (sn : Nat) (s e : Bool) (l : List (List UInt8)) (x : List UInt8) (hv : ValidP (l ++ [x])) (k : Nat) (hk : k + x.length ≤ (encU sn s e (l ++ [x])).length) :
    ∃ er, decU ((encU sn s e (l ++ [x])).take k) = .inl er := by
  cases hd : decU ((encU sn s e (l ++ [x])).take k) with
  | inl er => exact ⟨er, rfl⟩
  | inr r =>
    exfalso
    obtain ⟨sn', s', e', ps'⟩ := r
    obtain ⟨_, hv', he⟩ := enc_dec _ _ _ _ _ hd
    obtain ⟨l', x', rfl⟩ := split_last hv'.lo
    have hb : encU sn s e (l ++ [x]) = encU sn' s' e' (l' ++ [x' ++ (encU sn s e (l ++ [x])).drop k]) := by
      rw [← encU_snoc, he, List.take_append_drop]
    generalize hy : (encU sn s e (l ++ [x])).drop k = y at *
    have m1 := enc_more sn s e l x
    have m2 := enc_more sn' s' e' l' (x' ++ y)
    obtain ⟨h63, hsh⟩ := valid_init hv
    obtain ⟨h63', hsh'⟩ := valid_init hv'
    have r1 := enc_lens sn s e l x h63 hsh
    have r2 := enc_lens sn' s' e' l' (x' ++ y) h63' hsh'
    rw [← hb] at m2 r2
    have hm : decide (0 < l.length) = decide (0 < l'.length) := by
      rw [m1] at m2
      revert m2
      cases decide (0 < l.length) <;> cases decide (0 < l'.length) <;> simp
    rw [← hm, r1] at r2
    simp only [Sum.inr.injEq, Prod.mk.injEq] at r2
    have hs : sumLen l = sumLen l' := by unfold sumLen; rw [r2.1]
    have hl1 := encU_length sn s e (l ++ [x])
    have hl2 := encU_length sn' s' e' (l' ++ [x'])
    have hx' : 1 ≤ x'.length := hv'.pos x' (by simp)
    rw [he, List.length_take] at hl2
    have s1 : sumLen (l ++ [x]) = sumLen l + x.length := by simp [sumLen]
    have s2 : sumLen (l' ++ [x']) = sumLen l' + x'.length := by simp [sumLen]
    rw [s1] at hl1
    rw [s2] at hl2
    simp only [List.length_append, List.length_cons, List.length_nil, Nat.zero_add, Nat.add_sub_cancel] at hl1 hl2
    have : l.length = l'.length := by omega
    rw [this] at hl1
    omega

/-- cut within the last part -/
theorem cut_ok (sn : Nat) (s e : Bool) (l : List (List UInt8)) (x : List UInt8) (hv : ValidP (l ++ [x])) (k r : Nat) (hr1 : 1 ≤ r) (hr2 : r ≤ x.length) (hk : k + x.length = (encU sn s e (l ++ [x])).length + r) :
    (encU sn s e (l ++ [x])).take k = encU sn s e (l ++ [x.take r]) ∧ ValidP (l ++ [x.take r]) := by
  constructor
  · have hb : encU sn s e (l ++ [x]) = encU sn s e (l ++ [x.take r]) ++ x.drop r := by rw [encU_snoc, List.take_append_drop]
    have hl1 := encU_length sn s e (l ++ [x])
    have hl2 := encU_length sn s e (l ++ [x.take r])
    have s1 : sumLen (l ++ [x]) = sumLen l + x.length := by simp [sumLen]
    have s2 : sumLen (l ++ [x.take r]) = sumLen l + r := by simp [sumLen]; omega
    rw [s1] at hl1
    rw [s2] at hl2
    simp only [List.length_append, List.length_cons, List.length_nil, Nat.zero_add, Nat.add_sub_cancel] at hl1 hl2
    rw [hb, List.take_left' (by omega)]
  · obtain ⟨h63, hsh⟩ := valid_init hv
    refine ⟨by simp, by simp; omega, fun p hp => ?_, fun i hi => ?_, ?_⟩
    · rw [List.mem_append, List.mem_singleton] at hp
      rcases hp with hp | rfl
      · exact (hsh p hp).1
      · simp; omega
    · simp at hi
      rw [List.getElem?_append_left hi, List.getElem?_eq_getElem hi]
      exact (hsh _ (List.getElem_mem hi)).2
    · have := hv.sum
      simp [sumLen] at this ⊢
      omega
end Go.Proofs.Ytchlbpfeiamieaa
