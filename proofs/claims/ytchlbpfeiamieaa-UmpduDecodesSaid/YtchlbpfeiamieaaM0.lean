/- Plain mathematics: bits, bytes, packing. No program in sight. -/
namespace Go.Proofs.Ytchlbpfeiamieaa

/-- bit j of a list, 0 beyond its end -/
def bitv (l : List Bool) (j : Nat) : Nat := (l.getD j false).toNat
theorem bitv_le (l : List Bool) (j : Nat) : bitv l j ≤ 1 := by unfold bitv; cases l.getD j false <;> simp
/-- byte i of the packed list -/
def packN (l : List Bool) (i : Nat) : Nat :=
  128 * bitv l (8 * i) + 64 * bitv l (8 * i + 1) + 32 * bitv l (8 * i + 2) + 16 * bitv l (8 * i + 3) + 8 * bitv l (8 * i + 4) + 4 * bitv l (8 * i + 5) + 2 * bitv l (8 * i + 6) + bitv l (8 * i + 7)
theorem packN_lt (l : List Bool) (i : Nat) : packN l i < 256 := by
  unfold packN
  have h0 := bitv_le l (8 * i)
  have h1 := bitv_le l (8 * i + 1)
  have h2 := bitv_le l (8 * i + 2)
  have h3 := bitv_le l (8 * i + 3)
  have h4 := bitv_le l (8 * i + 4)
  have h5 := bitv_le l (8 * i + 5)
  have h6 := bitv_le l (8 * i + 6)
  have h7 := bitv_le l (8 * i + 7)
  omega
/-- the number of bytes that n bits take -/
def nbytes (n : Nat) : Nat := (n + 7) / 8
/-- the packed bytes of a list of bits -/
def pack (l : List Bool) : List UInt8 := (List.range (nbytes l.length)).map fun i => UInt8.ofNat (packN l i)
@[simp] theorem pack_length (l : List Bool) : (pack l).length = nbytes l.length := by simp [pack]
theorem pack_nil : pack [] = [] := rfl
theorem pack_get (l : List Bool) (i : Nat) (h : i < nbytes l.length) : (pack l)[i]? = some (UInt8.ofNat (packN l i)) := by
  simp [pack, List.getElem?_range, h]

theorem bitv_snoc_same (l : List Bool) (b : Bool) : bitv (l ++ [b]) l.length = b.toNat := by simp [bitv]
theorem bitv_snoc_other (l : List Bool) (b : Bool) (j : Nat) (h : j ≠ l.length) : bitv (l ++ [b]) j = bitv l j := by
  unfold bitv
  congr 1
  rcases Nat.lt_or_ge j l.length with hl | hl
  · simp [List.getD_eq_getElem?_getD, List.getElem?_append_left hl]
  · simp [List.getD_eq_getElem?_getD, List.getElem?_eq_none hl, List.getElem?_eq_none (show (l ++ [b]).length ≤ j by simp; omega)]
theorem bitv_past (l : List Bool) (j : Nat) (h : l.length ≤ j) : bitv l j = 0 := by
  unfold bitv; simp [List.getD_eq_getElem?_getD, List.getElem?_eq_none h]

theorem packN_snoc_other (l : List Bool) (b : Bool) (i : Nat) (h : i ≠ l.length / 8) : packN (l ++ [b]) i = packN l i := by
  unfold packN
  rw [bitv_snoc_other l b _ (by omega), bitv_snoc_other l b _ (by omega), bitv_snoc_other l b _ (by omega), bitv_snoc_other l b _ (by omega),
    bitv_snoc_other l b _ (by omega), bitv_snoc_other l b _ (by omega), bitv_snoc_other l b _ (by omega), bitv_snoc_other l b _ (by omega)]

theorem packN_snoc_same (l : List Bool) (b : Bool) : packN (l ++ [b]) (l.length / 8) = packN l (l.length / 8) + b.toNat * 2 ^ (7 - l.length % 8) := by
  have key : ∀ j, bitv (l ++ [b]) j = bitv l j + if j = l.length then b.toNat else 0 := by
    intro j
    by_cases e : j = l.length
    · subst e; rw [bitv_snoc_same, bitv_past l _ (Nat.le_refl _), if_pos rfl]; omega
    · rw [bitv_snoc_other l b j e, if_neg e]; omega
  unfold packN
  simp only [key]
  have hq := Nat.div_add_mod l.length 8
  have hr := Nat.mod_lt l.length (show 0 < 8 by omega)
  generalize l.length / 8 = q at *
  generalize hr' : l.length % 8 = r at *
  generalize l.length = n at *
  subst hq
  match r, hr with
  | 0, _ => simp; omega
  | 1, _ => simp; omega
  | 2, _ => simp; omega
  | 3, _ => simp; omega
  | 4, _ => simp; omega
  | 5, _ => simp; omega
  | 6, _ => simp; omega
  | 7, _ => simp; omega
theorem packN_mult (l : List Bool) : packN l (l.length / 8) % 2 ^ (8 - l.length % 8) = 0 := by
  unfold packN
  have key : ∀ j, l.length ≤ j → bitv l j = 0 := fun j h => bitv_past l j h
  have hq := Nat.div_add_mod l.length 8
  have hr := Nat.mod_lt l.length (show 0 < 8 by omega)
  generalize l.length / 8 = q at *
  generalize hr' : l.length % 8 = r at *
  generalize l.length = n at *
  subst hq
  match r, hr with
  | 0, _ => simp only [key _ (show 8 * q + 0 ≤ 8 * q + 7 by omega), key _ (show 8 * q + 0 ≤ 8 * q + 6 by omega), key _ (show 8 * q + 0 ≤ 8 * q + 5 by omega), key _ (show 8 * q + 0 ≤ 8 * q + 4 by omega), key _ (show 8 * q + 0 ≤ 8 * q + 3 by omega), key _ (show 8 * q + 0 ≤ 8 * q + 2 by omega), key _ (show 8 * q + 0 ≤ 8 * q + 1 by omega), key _ (show 8 * q + 0 ≤ 8 * q by omega)]
  | 1, _ => simp only [key _ (show 8 * q + 1 ≤ 8 * q + 7 by omega), key _ (show 8 * q + 1 ≤ 8 * q + 6 by omega), key _ (show 8 * q + 1 ≤ 8 * q + 5 by omega), key _ (show 8 * q + 1 ≤ 8 * q + 4 by omega), key _ (show 8 * q + 1 ≤ 8 * q + 3 by omega), key _ (show 8 * q + 1 ≤ 8 * q + 2 by omega), key _ (show 8 * q + 1 ≤ 8 * q + 1 by omega)]; omega
  | 2, _ => simp only [key _ (show 8 * q + 2 ≤ 8 * q + 7 by omega), key _ (show 8 * q + 2 ≤ 8 * q + 6 by omega), key _ (show 8 * q + 2 ≤ 8 * q + 5 by omega), key _ (show 8 * q + 2 ≤ 8 * q + 4 by omega), key _ (show 8 * q + 2 ≤ 8 * q + 3 by omega), key _ (show 8 * q + 2 ≤ 8 * q + 2 by omega)]; omega
  | 3, _ => simp only [key _ (show 8 * q + 3 ≤ 8 * q + 7 by omega), key _ (show 8 * q + 3 ≤ 8 * q + 6 by omega), key _ (show 8 * q + 3 ≤ 8 * q + 5 by omega), key _ (show 8 * q + 3 ≤ 8 * q + 4 by omega), key _ (show 8 * q + 3 ≤ 8 * q + 3 by omega)]; omega
  | 4, _ => simp only [key _ (show 8 * q + 4 ≤ 8 * q + 7 by omega), key _ (show 8 * q + 4 ≤ 8 * q + 6 by omega), key _ (show 8 * q + 4 ≤ 8 * q + 5 by omega), key _ (show 8 * q + 4 ≤ 8 * q + 4 by omega)]; omega
  | 5, _ => simp only [key _ (show 8 * q + 5 ≤ 8 * q + 7 by omega), key _ (show 8 * q + 5 ≤ 8 * q + 6 by omega), key _ (show 8 * q + 5 ≤ 8 * q + 5 by omega)]; omega
  | 6, _ => simp only [key _ (show 8 * q + 6 ≤ 8 * q + 7 by omega), key _ (show 8 * q + 6 ≤ 8 * q + 6 by omega)]; omega
  | 7, _ => simp only [key _ (show 8 * q + 7 ≤ 8 * q + 7 by omega)]; omega

theorem or_low (a b k : Nat) (ha : a % 2 ^ (k + 1) = 0) (hb : b ≤ 1) : a ||| b * 2 ^ k = a + b * 2 ^ k := by
  have h1 : b * 2 ^ k < 2 ^ (k + 1) := by
    rw [Nat.pow_succ]
    have h2 : 0 < 2 ^ k := Nat.two_pow_pos k
    have : b * 2 ^ k ≤ 1 * 2 ^ k := Nat.mul_le_mul_right _ hb
    omega
  have h2 := Nat.two_pow_add_eq_or_of_lt h1 (a / 2 ^ (k + 1))
  have h3 : 2 ^ (k + 1) * (a / 2 ^ (k + 1)) = a := Nat.mul_div_cancel' (Nat.dvd_of_mod_eq_zero ha)
  rw [h3] at h2
  exact h2.symm

/-- one bit more, at a byte's beginning -/
theorem pack_snoc_new (l : List Bool) (b : Bool) (h : l.length % 8 = 0) : pack (l ++ [b]) = pack l ++ [UInt8.ofNat (b.toNat * 2 ^ 7)] := by
  apply List.ext_getElem?
  intro i
  have hl : nbytes (l ++ [b]).length = nbytes l.length + 1 := by simp [nbytes]; omega
  have hn : nbytes l.length = l.length / 8 := by simp [nbytes]; omega
  rcases Nat.lt_trichotomy i (nbytes l.length) with hi | hi | hi
  · rw [List.getElem?_append_left (by simpa using hi), pack_get _ _ (by omega), pack_get _ _ hi, packN_snoc_other _ _ _ (by omega)]
  · subst hi
    rw [pack_get _ _ (by omega), List.getElem?_append_right (by simp), hn, packN_snoc_same, h]
    have : packN l (l.length / 8) = 0 := by
      have := packN_mult l
      rw [h] at this
      have h2 := packN_lt l (l.length / 8)
      simp at this
      omega
    simp [this, hn]
  · rw [List.getElem?_eq_none (by simp [nbytes] at hi ⊢; omega), List.getElem?_eq_none (by simp [nbytes] at hi ⊢; omega)]
/-- one bit more, inside a byte -/
theorem pack_snoc_in (l : List Bool) (b : Bool) (h : l.length % 8 ≠ 0) :
    pack (l ++ [b]) = (pack l).set (l.length / 8) (UInt8.ofNat (packN l (l.length / 8) ||| b.toNat * 2 ^ (7 - l.length % 8))) := by
  apply List.ext_getElem?
  intro i
  have hl : nbytes (l ++ [b]).length = nbytes l.length := by simp [nbytes]; omega
  have hn : nbytes l.length = l.length / 8 + 1 := by simp [nbytes]; omega
  have hr := Nat.mod_lt l.length (show 0 < 8 by omega)
  rcases Nat.lt_or_ge i (nbytes l.length) with hi | hi
  · rw [pack_get _ _ (by omega), List.getElem?_set]
    by_cases e : l.length / 8 = i
    · subst e
      rw [if_pos rfl, if_pos (by simp; omega), packN_snoc_same, or_low _ _ _ (by
        have := packN_mult l
        rw [show 7 - l.length % 8 + 1 = 8 - l.length % 8 by omega]
        exact this) (by cases b <;> simp)]
    · rw [if_neg e, pack_get _ _ hi, packN_snoc_other _ _ _ (by omega)]
  · rw [List.getElem?_eq_none (by simp [nbytes] at hi ⊢; omega), List.getElem?_eq_none (by simp [nbytes] at hi ⊢; omega)]

/-- the n low bits of v, the most significant first -/
def bitsOf (v n : Nat) : List Bool := (List.range n).map fun k => decide (v / 2 ^ (n - 1 - k) % 2 = 1)
@[simp] theorem bitsOf_length (v n : Nat) : (bitsOf v n).length = n := by simp [bitsOf]
/-- the value of bits -/
def val (l : List Bool) : Nat := l.foldl (fun v b => 2 * v + b.toNat) 0
theorem val_snoc (l : List Bool) (b : Bool) : val (l ++ [b]) = 2 * val l + b.toNat := by simp [val]
theorem val_aux (l : List Bool) : ∀ a, l.foldl (fun v b => 2 * v + b.toNat) a = a * 2 ^ l.length + val l := by
  induction l with
  | nil => intro a; simp [val]
  | cons b l ih =>
    intro a
    unfold val
    simp only [List.foldl_cons, List.length_cons]
    rw [ih, ih (2 * 0 + b.toNat), Nat.pow_succ, Nat.add_mul, ← Nat.add_assoc]
    simp only [Nat.mul_zero, Nat.zero_add]
    rw [Nat.mul_comm 2 a, Nat.mul_assoc, Nat.mul_comm 2 (2 ^ l.length)]
theorem val_cons (b : Bool) (l : List Bool) : val (b :: l) = b.toNat * 2 ^ l.length + val l := by
  show l.foldl _ (2 * 0 + b.toNat) = _
  rw [val_aux]; simp
theorem val_append (a b : List Bool) : val (a ++ b) = val a * 2 ^ b.length + val b := by
  show (a ++ b).foldl _ 0 = _
  rw [List.foldl_append, val_aux]; rfl
theorem val_lt (l : List Bool) : val l < 2 ^ l.length := by
  induction l with
  | nil => simp [val]
  | cons b l ih =>
    rw [val_cons, List.length_cons, Nat.pow_succ]
    have : b.toNat * 2 ^ l.length ≤ 1 * 2 ^ l.length := Nat.mul_le_mul_right _ (by cases b <;> simp)
    omega
/-- bit j of the bytes bs -/
def bitB (bs : List UInt8) (j : Nat) : Bool := decide ((bs.getD (j / 8) 0).toNat / 2 ^ (7 - j % 8) % 2 = 1)
/-- all bits of bytes -/
def unpack (bs : List UInt8) : List Bool := (List.range (8 * bs.length)).map (bitB bs)
@[simp] theorem unpack_length (bs : List UInt8) : (unpack bs).length = 8 * bs.length := by simp [unpack]
/-- width bits from position pos on -/
def bitsAt (bs : List UInt8) (pos width : Nat) : List Bool := (List.range width).map fun k => bitB bs (pos + k)
@[simp] theorem bitsAt_length (bs : List UInt8) (p n : Nat) : (bitsAt bs p n).length = n := by simp [bitsAt]
theorem bitsAt_succ (bs : List UInt8) (p n : Nat) : bitsAt bs p (n + 1) = bitsAt bs p n ++ [bitB bs (p + n)] := by simp [bitsAt, List.range_succ]
end Go.Proofs.Ytchlbpfeiamieaa
