/- Plain mathematics: packing and unpacking are inverse. -/
import Derived.Test.YtchlbpfeiamieaaM1
namespace Go.Proofs.Ytchlbpfeiamieaa

theorem bitB_append_left (bs d : List UInt8) (j : Nat) (h : j < 8 * bs.length) : bitB (bs ++ d) j = bitB bs j := by
  unfold bitB
  rw [List.getD_eq_getElem?_getD, List.getD_eq_getElem?_getD, List.getElem?_append_left (by omega)]
theorem bitsAt_append_left (bs d : List UInt8) (p k : Nat) (h : p + k ≤ 8 * bs.length) : bitsAt (bs ++ d) p k = bitsAt bs p k := by
  unfold bitsAt
  apply List.map_congr_left
  intro x hx
  rw [List.mem_range] at hx
  exact bitB_append_left _ _ _ (by omega)
theorem bitsAt_take (bs : List UInt8) (m p k : Nat) (h : p + k ≤ 8 * m) (hm : m ≤ bs.length) : bitsAt (bs.take m) p k = bitsAt bs p k := by
  have := bitsAt_append_left (bs.take m) (bs.drop m) p k (by rw [List.length_take]; omega)
  rw [List.take_append_drop] at this
  exact this.symm
theorem bitsAt_add (bs : List UInt8) (p a b : Nat) : bitsAt bs p (a + b) = bitsAt bs p a ++ bitsAt bs (p + a) b := by
  induction b with
  | zero => simp [bitsAt]
  | succ b ih => rw [← Nat.add_assoc, bitsAt_succ, bitsAt_succ, ih, List.append_assoc, Nat.add_assoc]
theorem bitsAt_eq (bs : List UInt8) (p k : Nat) (l : List Bool) (hl : l.length = k) (h : ∀ i, i < k → bitB bs (p + i) = l.getD i false) : bitsAt bs p k = l := by
  apply List.ext_getElem?
  intro i
  unfold bitsAt
  rw [List.getElem?_map]
  by_cases hi : i < k
  · rw [List.getElem?_range hi, List.getElem?_eq_getElem (by omega)]
    have := h i hi
    simp only [Option.map_some, this, List.getD_eq_getElem?_getD, List.getElem?_eq_getElem (show i < l.length by omega), Option.getD_some]
  · rw [List.getElem?_eq_none (by simp; omega), List.getElem?_eq_none (by omega)]
    rfl

theorem bitv_iff (l : List Bool) (j : Nat) : decide (bitv l j = 1) = l.getD j false := by
  unfold bitv
  cases l.getD j false <;> simp
theorem packN_bit (l : List Bool) (j : Nat) : packN l (j / 8) / 2 ^ (7 - j % 8) % 2 = bitv l j := by
  have hq := Nat.div_add_mod j 8
  have hr := Nat.mod_lt j (show 0 < 8 by omega)
  generalize j / 8 = q at *
  generalize j % 8 = r at *
  subst hq
  unfold packN
  have h0 := bitv_le l (8 * q)
  have h1 := bitv_le l (8 * q + 1)
  have h2 := bitv_le l (8 * q + 2)
  have h3 := bitv_le l (8 * q + 3)
  have h4 := bitv_le l (8 * q + 4)
  have h5 := bitv_le l (8 * q + 5)
  have h6 := bitv_le l (8 * q + 6)
  have h7 := bitv_le l (8 * q + 7)
  match r, hr with
  | 0, _ => simp only [Nat.add_zero]; omega
  | 1, _ => omega
  | 2, _ => omega
  | 3, _ => omega
  | 4, _ => omega
  | 5, _ => omega
  | 6, _ => omega
  | 7, _ => simp; omega
theorem bitB_pack (l : List Bool) (j : Nat) (h : j < 8 * nbytes l.length) : bitB (pack l) j = l.getD j false := by
  unfold bitB
  rw [List.getD_eq_getElem?_getD, pack_get l _ (by omega), Option.getD_some, UInt8.toNat_ofNat', Nat.mod_eq_of_lt (packN_lt l _), packN_bit, bitv_iff]
theorem bitsAt_pack (l : List Bool) (d : List UInt8) (p k : Nat) (h : p + k ≤ l.length) : bitsAt (pack l ++ d) p k = (l.drop p).take k := by
  have hn : l.length ≤ 8 * nbytes l.length := by unfold nbytes; omega
  rw [bitsAt_append_left _ _ _ _ (by rw [pack_length]; omega)]
  refine bitsAt_eq _ _ _ _ (by simp; omega) (fun i hi => ?_)
  rw [bitB_pack _ _ (by omega)]
  simp [List.getD_eq_getElem?_getD, hi]
theorem bitsAt_pack_pad (l : List Bool) (d : List UInt8) : bitsAt (pack l ++ d) l.length (padN l.length) = List.replicate (padN l.length) false := by
  have hn : l.length + padN l.length = 8 * nbytes l.length := by unfold nbytes padN; omega
  rw [bitsAt_append_left _ _ _ _ (by rw [pack_length]; omega)]
  refine bitsAt_eq _ _ _ _ (by simp) (fun i hi => ?_)
  rw [bitB_pack _ _ (by omega)]
  simp only [List.getD_eq_getElem?_getD, List.getElem?_eq_none (show l.length ≤ l.length + i by omega), List.getElem?_replicate]
  split <;> rfl

theorem val_replicate (n : Nat) : val (List.replicate n false) = 0 := by
  induction n with
  | zero => rfl
  | succ n ih => rw [List.replicate_succ, val_cons, ih]; simp
theorem val_zero : ∀ l : List Bool, val l = 0 → l = List.replicate l.length false
  | [], _ => rfl
  | b :: l, h => by
    rw [val_cons] at h
    have h1 : val l = 0 := by omega
    have h2 : b.toNat * 2 ^ l.length = 0 := by omega
    have h3 : b = false := by
      rcases Nat.mul_eq_zero.1 h2 with h | h
      · cases b <;> simp_all
      · have := Nat.two_pow_pos l.length; omega
    rw [List.length_cons, List.replicate_succ, ← val_zero l h1, h3]
theorem bitsOf_succ (v n : Nat) : bitsOf v (n + 1) = bitsOf (v / 2) n ++ [decide (v % 2 = 1)] := by
  unfold bitsOf
  rw [List.range_succ, List.map_append]
  congr 1
  · apply List.map_congr_left
    intro k hk
    rw [List.mem_range] at hk
    rw [show n + 1 - 1 - k = (n - 1 - k) + 1 by omega, Nat.pow_succ, Nat.mul_comm, ← Nat.div_div_eq_div_mul]
  · simp
theorem val_bitsOf : ∀ (n v : Nat), v < 2 ^ n → val (bitsOf v n) = v
  | 0, v, h => by simp at h; subst h; rfl
  | n + 1, v, h => by
    rw [bitsOf_succ, val_snoc, val_bitsOf n (v / 2) (by rw [Nat.pow_succ] at h; omega)]
    rcases Nat.mod_two_eq_zero_or_one v with hv | hv
    · simp [hv]; omega
    · simp [hv]; omega
theorem val_inj : ∀ (a b : List Bool), a.length = b.length → val a = val b → a = b
  | [], [], _, _ => rfl
  | [], _ :: _, h, _ => by simp at h
  | _ :: _, [], h, _ => by simp at h
  | x :: a, y :: b, h, hv => by
    simp at h
    rw [val_cons, val_cons, h] at hv
    have ha := val_lt a
    have hb := val_lt b
    rw [h] at ha
    generalize 2 ^ b.length = K at *
    have hxy : x = y := by
      cases x <;> cases y <;> simp at hv ⊢ <;> omega
    subst hxy
    rw [val_inj a b h (by omega)]
theorem bitsOf_val (l : List Bool) : bitsOf (val l) l.length = l :=
  val_inj _ _ (by simp) (val_bitsOf _ _ (val_lt l))
theorem bitsOf_val' (l : List Bool) (n : Nat) (h : l.length = n) : bitsOf (val l) n = l := by subst h; exact bitsOf_val l

theorem pack_ext (l l' : List Bool) (hn : nbytes l.length = nbytes l'.length) (h : ∀ j, l.getD j false = l'.getD j false) : pack l = pack l' := by
  unfold pack
  rw [hn]
  apply List.map_congr_left
  intro i _
  unfold packN bitv
  simp only [h]
theorem pack_padded (l : List Bool) : pack (l ++ List.replicate (padN l.length) false) = pack l := by
  apply pack_ext
  · simp [nbytes, padN]; omega
  · intro j
    rw [List.getD_eq_getElem?_getD, List.getD_eq_getElem?_getD]
    by_cases hj : j < l.length
    · rw [List.getElem?_append_left hj]
    · rw [List.getElem?_append_right (by omega), List.getElem?_eq_none (show l.length ≤ j by omega)]
      rw [List.getElem?_replicate]
      split <;> rfl
theorem byte_of_bits (b : Nat) (h : b < 256) : 128 * (b / 2 ^ 7 % 2) + 64 * (b / 2 ^ 6 % 2) + 32 * (b / 2 ^ 5 % 2) + 16 * (b / 2 ^ 4 % 2) + 8 * (b / 2 ^ 3 % 2) + 4 * (b / 2 ^ 2 % 2) + 2 * (b / 2 ^ 1 % 2) + b / 2 ^ 0 % 2 = b := by
  omega
theorem bit_nat (x : Nat) : (decide (x % 2 = 1)).toNat = x % 2 := by
  rcases Nat.mod_two_eq_zero_or_one x with h | h <;> simp [h]
theorem pack_bitsAt (bs : List UInt8) (m : Nat) (h : m ≤ bs.length) : pack (bitsAt bs 0 (8 * m)) = bs.take m := by
  have hnb : nbytes (bitsAt bs 0 (8 * m)).length = m := by simp [nbytes]; omega
  apply List.ext_getElem?
  intro i
  by_cases hi : i < m
  · rw [pack_get _ _ (by omega), List.getElem?_take, if_pos hi, List.getElem?_eq_getElem (by omega)]
    have key : ∀ r, r < 8 → bitv (bitsAt bs 0 (8 * m)) (8 * i + r) = (bs[i]'(by omega)).toNat / 2 ^ (7 - r) % 2 := by
      intro r hr
      unfold bitv bitsAt
      rw [List.getD_eq_getElem?_getD, List.getElem?_map, List.getElem?_range (by omega)]
      simp only [Option.map_some, Option.getD_some, Nat.zero_add]
      unfold bitB
      rw [show (8 * i + r) / 8 = i by omega, show (8 * i + r) % 8 = r by omega, List.getD_eq_getElem?_getD, List.getElem?_eq_getElem (by omega), Option.getD_some, bit_nat]
    have k0 := key 0 (by omega)
    have e : packN (bitsAt bs 0 (8 * m)) i = (bs[i]'(by omega)).toNat := by
      unfold packN
      rw [Nat.add_zero] at k0
      rw [k0, key 1 (by omega), key 2 (by omega), key 3 (by omega), key 4 (by omega), key 5 (by omega), key 6 (by omega), key 7 (by omega)]
      exact byte_of_bits _ (UInt8.toNat_lt _)
    rw [e]
    simp
  · rw [List.getElem?_eq_none (by rw [pack_length, hnb]; omega), List.getElem?_eq_none (by simp; omega)]
end Go.Proofs.Ytchlbpfeiamieaa
