/- Plain mathematics: bits, bytes, packing. No program in sight. Plain mathematics: what decoding an unacknowledged mode PDU means. Plain mathematics: packing and unpacking are inverse. Plain mathematics: bits laid out as bytes, one bit a byte; packing them. -/
namespace Go.Proofs.YtbjajboodohabaaGreat

/-- bit j of a list, 0 beyond its end -/
def bitv (l : List Bool) (j : Nat) : Nat := (l.getD j false).toNat
theorem bitv_le (l : List Bool) (j : Nat) : bitv l j ≤ 1 := by unfold bitv; cases l.getD j false <;> simp
/-- byte i of the packed list -/
def packN (l : List Bool) (i : Nat) : Nat :=
  128 * bitv l (8 * i) + 64 * bitv l (8 * i + 1) + 32 * bitv l (8 * i + 2) + 16 * bitv l (8 * i + 3) + 8 * bitv l (8 * i + 4) + 4 * bitv l (8 * i + 5) + 2 * bitv l (8 * i + 6) + bitv l (8 * i + 7)
theorem packN_lt (l : List Bool) (i : Nat) : packN l i < 256 := by
  unfold packN
  have h0 := bitv_le l (8 * i)
  have h1 := bitv_le l (8 * i + 1)
  have h2 := bitv_le l (8 * i + 2)
  have h3 := bitv_le l (8 * i + 3)
  have h4 := bitv_le l (8 * i + 4)
  have h5 := bitv_le l (8 * i + 5)
  have h6 := bitv_le l (8 * i + 6)
  have h7 := bitv_le l (8 * i + 7)
  omega
/-- the number of bytes that n bits take -/
def nbytes (n : Nat) : Nat := (n + 7) / 8
/-- the packed bytes of a list of bits -/
def pack (l : List Bool) : List UInt8 := (List.range (nbytes l.length)).map fun i => UInt8.ofNat (packN l i)
@[simp] theorem pack_length (l : List Bool) : (pack l).length = nbytes l.length := by simp [pack]
theorem pack_nil : pack [] = [] := rfl
theorem pack_get (l : List Bool) (i : Nat) (h : i < nbytes l.length) : (pack l)[i]? = some (UInt8.ofNat (packN l i)) := by
  simp [pack, h]

theorem bitv_snoc_same (l : List Bool) (b : Bool) : bitv (l ++ [b]) l.length = b.toNat := by simp [bitv]
theorem bitv_snoc_other (l : List Bool) (b : Bool) (j : Nat) (h : j ≠ l.length) : bitv (l ++ [b]) j = bitv l j := by
  unfold bitv
  congr 1
  rcases Nat.lt_or_ge j l.length with hl | hl
  · simp [List.getD_eq_getElem?_getD, List.getElem?_append_left hl]
  · simp [List.getD_eq_getElem?_getD, List.getElem?_eq_none hl, List.getElem?_eq_none (show (l ++ [b]).length ≤ j by simp; omega)]
theorem bitv_past (l : List Bool) (j : Nat) (h : l.length ≤ j) : bitv l j = 0 := by
  unfold bitv; simp [List.getD_eq_getElem?_getD, List.getElem?_eq_none h]

theorem packN_snoc_other (l : List Bool) (b : Bool) (i : Nat) (h : i ≠ l.length / 8) : packN (l ++ [b]) i = packN l i := by
  unfold packN
  rw [bitv_snoc_other l b _ (by omega), bitv_snoc_other l b _ (by omega), bitv_snoc_other l b _ (by omega), bitv_snoc_other l b _ (by omega),
    bitv_snoc_other l b _ (by omega), bitv_snoc_other l b _ (by omega), bitv_snoc_other l b _ (by omega), bitv_snoc_other l b _ (by omega)]

theorem packN_snoc_same (l : List Bool) (b : Bool) : packN (l ++ [b]) (l.length / 8) = packN l (l.length / 8) + b.toNat * 2 ^ (7 - l.length % 8) := by
  have key : ∀ j, bitv (l ++ [b]) j = bitv l j + if j = l.length then b.toNat else 0 := by
    intro j
    by_cases e : j = l.length
    · subst e; rw [bitv_snoc_same, bitv_past l _ (Nat.le_refl _), if_pos rfl]; omega
    · rw [bitv_snoc_other l b j e, if_neg e]; omega
  unfold packN
  simp only [key]
  have hq := Nat.div_add_mod l.length 8
  have hr := Nat.mod_lt l.length (show 0 < 8 by omega)
  generalize l.length / 8 = q at *
  generalize hr' : l.length % 8 = r at *
  generalize l.length = n at *
  subst hq
  match r, hr with
  | 0, _ => simp; omega
  | 1, _ => simp; omega
  | 2, _ => simp; omega
  | 3, _ => simp; omega
  | 4, _ => simp; omega
  | 5, _ => simp; omega
  | 6, _ => simp; omega
  | 7, _ => simp; omega
theorem packN_mult (l : List Bool) : packN l (l.length / 8) % 2 ^ (8 - l.length % 8) = 0 := by
  unfold packN
  have key : ∀ j, l.length ≤ j → bitv l j = 0 := fun j h => bitv_past l j h
  have hq := Nat.div_add_mod l.length 8
  have hr := Nat.mod_lt l.length (show 0 < 8 by omega)
  generalize l.length / 8 = q at *
  generalize hr' : l.length % 8 = r at *
  generalize l.length = n at *
  subst hq
  match r, hr with
  | 0, _ => simp only [key _ (show 8 * q + 0 ≤ 8 * q + 7 by omega), key _ (show 8 * q + 0 ≤ 8 * q + 6 by omega), key _ (show 8 * q + 0 ≤ 8 * q + 5 by omega), key _ (show 8 * q + 0 ≤ 8 * q + 4 by omega), key _ (show 8 * q + 0 ≤ 8 * q + 3 by omega), key _ (show 8 * q + 0 ≤ 8 * q + 2 by omega), key _ (show 8 * q + 0 ≤ 8 * q + 1 by omega), key _ (show 8 * q + 0 ≤ 8 * q by omega)]
  | 1, _ => simp only [key _ (show 8 * q + 1 ≤ 8 * q + 7 by omega), key _ (show 8 * q + 1 ≤ 8 * q + 6 by omega), key _ (show 8 * q + 1 ≤ 8 * q + 5 by omega), key _ (show 8 * q + 1 ≤ 8 * q + 4 by omega), key _ (show 8 * q + 1 ≤ 8 * q + 3 by omega), key _ (show 8 * q + 1 ≤ 8 * q + 2 by omega), key _ (show 8 * q + 1 ≤ 8 * q + 1 by omega)]; omega
  | 2, _ => simp only [key _ (show 8 * q + 2 ≤ 8 * q + 7 by omega), key _ (show 8 * q + 2 ≤ 8 * q + 6 by omega), key _ (show 8 * q + 2 ≤ 8 * q + 5 by omega), key _ (show 8 * q + 2 ≤ 8 * q + 4 by omega), key _ (show 8 * q + 2 ≤ 8 * q + 3 by omega), key _ (show 8 * q + 2 ≤ 8 * q + 2 by omega)]; omega
  | 3, _ => simp only [key _ (show 8 * q + 3 ≤ 8 * q + 7 by omega), key _ (show 8 * q + 3 ≤ 8 * q + 6 by omega), key _ (show 8 * q + 3 ≤ 8 * q + 5 by omega), key _ (show 8 * q + 3 ≤ 8 * q + 4 by omega), key _ (show 8 * q + 3 ≤ 8 * q + 3 by omega)]; omega
  | 4, _ => simp only [key _ (show 8 * q + 4 ≤ 8 * q + 7 by omega), key _ (show 8 * q + 4 ≤ 8 * q + 6 by omega), key _ (show 8 * q + 4 ≤ 8 * q + 5 by omega), key _ (show 8 * q + 4 ≤ 8 * q + 4 by omega)]; omega
  | 5, _ => simp only [key _ (show 8 * q + 5 ≤ 8 * q + 7 by omega), key _ (show 8 * q + 5 ≤ 8 * q + 6 by omega), key _ (show 8 * q + 5 ≤ 8 * q + 5 by omega)]; omega
  | 6, _ => simp only [key _ (show 8 * q + 6 ≤ 8 * q + 7 by omega), key _ (show 8 * q + 6 ≤ 8 * q + 6 by omega)]; omega
  | 7, _ => simp only [key _ (show 8 * q + 7 ≤ 8 * q + 7 by omega)]; omega

theorem or_low (a b k : Nat) (ha : a % 2 ^ (k + 1) = 0) (hb : b ≤ 1) : a ||| b * 2 ^ k = a + b * 2 ^ k := by
  have h1 : b * 2 ^ k < 2 ^ (k + 1) := by
    rw [Nat.pow_succ]
    have h2 : 0 < 2 ^ k := Nat.two_pow_pos k
    have : b * 2 ^ k ≤ 1 * 2 ^ k := Nat.mul_le_mul_right _ hb
    omega
  have h2 := Nat.two_pow_add_eq_or_of_lt h1 (a / 2 ^ (k + 1))
  have h3 : 2 ^ (k + 1) * (a / 2 ^ (k + 1)) = a := Nat.mul_div_cancel' (Nat.dvd_of_mod_eq_zero ha)
  rw [h3] at h2
  exact h2.symm

/-- one bit more, at a byte's beginning -/
theorem pack_snoc_new (l : List Bool) (b : Bool) (h : l.length % 8 = 0) : pack (l ++ [b]) = pack l ++ [UInt8.ofNat (b.toNat * 2 ^ 7)] := by
  apply List.ext_getElem?
  intro i
  have hl : nbytes (l ++ [b]).length = nbytes l.length + 1 := by simp [nbytes]; omega
  have hn : nbytes l.length = l.length / 8 := by simp [nbytes]; omega
  rcases Nat.lt_trichotomy i (nbytes l.length) with hi | hi | hi
  · rw [List.getElem?_append_left (by simpa using hi), pack_get _ _ (by omega), pack_get _ _ hi, packN_snoc_other _ _ _ (by omega)]
  · subst hi
    rw [pack_get _ _ (by omega), List.getElem?_append_right (by simp), hn, packN_snoc_same, h]
    have : packN l (l.length / 8) = 0 := by
      have := packN_mult l
      rw [h] at this
      have h2 := packN_lt l (l.length / 8)
      simp at this
      omega
    simp [this, hn]
  · rw [List.getElem?_eq_none (by simp [nbytes] at hi ⊢; omega), List.getElem?_eq_none (by simp [nbytes] at hi ⊢; omega)]
/-- one bit more, inside a byte -/
theorem pack_snoc_in (l : List Bool) (b : Bool) (h : l.length % 8 ≠ 0) :
    pack (l ++ [b]) = (pack l).set (l.length / 8) (UInt8.ofNat (packN l (l.length / 8) ||| b.toNat * 2 ^ (7 - l.length % 8))) := by
  apply List.ext_getElem?
  intro i
  have hl : nbytes (l ++ [b]).length = nbytes l.length := by simp [nbytes]; omega
  have hn : nbytes l.length = l.length / 8 + 1 := by simp [nbytes]; omega
  have hr := Nat.mod_lt l.length (show 0 < 8 by omega)
  rcases Nat.lt_or_ge i (nbytes l.length) with hi | hi
  · rw [pack_get _ _ (by omega), List.getElem?_set]
    by_cases e : l.length / 8 = i
    · subst e
      rw [if_pos rfl, if_pos (by simp; omega), packN_snoc_same, or_low _ _ _ (by
        have := packN_mult l
        rw [show 7 - l.length % 8 + 1 = 8 - l.length % 8 by omega]
        exact this) (by cases b <;> simp)]
    · rw [if_neg e, pack_get _ _ hi, packN_snoc_other _ _ _ (by omega)]
  · rw [List.getElem?_eq_none (by simp [nbytes] at hi ⊢; omega), List.getElem?_eq_none (by simp [nbytes] at hi ⊢; omega)]

/-- the n low bits of v, the most significant first -/
def bitsOf (v n : Nat) : List Bool := (List.range n).map fun k => decide (v / 2 ^ (n - 1 - k) % 2 = 1)
@[simp] theorem bitsOf_length (v n : Nat) : (bitsOf v n).length = n := by simp [bitsOf]
/-- the value of bits -/
def val (l : List Bool) : Nat := l.foldl (fun v b => 2 * v + b.toNat) 0
theorem val_snoc (l : List Bool) (b : Bool) : val (l ++ [b]) = 2 * val l + b.toNat := by simp [val]
theorem val_aux (l : List Bool) : ∀ a, l.foldl (fun v b => 2 * v + b.toNat) a = a * 2 ^ l.length + val l := by
  induction l with
  | nil => intro a; simp [val]
  | cons b l ih =>
    intro a
    unfold val
    simp only [List.foldl_cons, List.length_cons]
    rw [ih, ih (2 * 0 + b.toNat), Nat.pow_succ, Nat.add_mul, ← Nat.add_assoc]
    simp only [Nat.mul_zero, Nat.zero_add]
    rw [Nat.mul_comm 2 a, Nat.mul_assoc, Nat.mul_comm 2 (2 ^ l.length)]
theorem val_cons (b : Bool) (l : List Bool) : val (b :: l) = b.toNat * 2 ^ l.length + val l := by
  show l.foldl _ (2 * 0 + b.toNat) = _
  rw [val_aux]; simp
theorem val_append (a b : List Bool) : val (a ++ b) = val a * 2 ^ b.length + val b := by
  show (a ++ b).foldl _ 0 = _
  rw [List.foldl_append, val_aux]; rfl
theorem val_lt (l : List Bool) : val l < 2 ^ l.length := by
  induction l with
  | nil => simp [val]
  | cons b l ih =>
    rw [val_cons, List.length_cons, Nat.pow_succ]
    have : b.toNat * 2 ^ l.length ≤ 1 * 2 ^ l.length := Nat.mul_le_mul_right _ (by cases b <;> simp)
    omega
/-- bit j of the bytes bs -/
def bitB (bs : List UInt8) (j : Nat) : Bool := decide ((bs.getD (j / 8) 0).toNat / 2 ^ (7 - j % 8) % 2 = 1)
/-- all bits of bytes -/
def unpack (bs : List UInt8) : List Bool := (List.range (8 * bs.length)).map (bitB bs)
@[simp] theorem unpack_length (bs : List UInt8) : (unpack bs).length = 8 * bs.length := by simp [unpack]
/-- width bits from position pos on -/
def bitsAt (bs : List UInt8) (pos width : Nat) : List Bool := (List.range width).map fun k => bitB bs (pos + k)
@[simp] theorem bitsAt_length (bs : List UInt8) (p n : Nat) : (bitsAt bs p n).length = n := by simp [bitsAt]
theorem bitsAt_succ (bs : List UInt8) (p n : Nat) : bitsAt bs p (n + 1) = bitsAt bs p n ++ [bitB bs (p + n)] := by simp [bitsAt, List.range_succ]
end Go.Proofs.YtbjajboodohabaaGreat
namespace Go.Proofs.YtbjajboodohabaaGreat

/-- bits up to the next byte -/
def padN (pos : Nat) : Nat := (8 - pos % 8) % 8
/-- the lengths from position pos on; fuel is what is left of 64 -/
def readLens (bs : List UInt8) : Nat → Bool → Nat → List Nat → Sum Nat (List Nat × Nat)
  | _, false, pos, acc => .inr (acc, pos)
  | 0, true, _, _ => .inl 9
  | f + 1, true, pos, acc =>
    if 8 * bs.length < pos + 12 then .inl 5
    else if val (bitsAt bs pos 12) % 2048 = 0 ∨ 63 ≤ acc.length then .inl 9
    else readLens bs f (decide (val (bitsAt bs pos 12) / 2048 = 1)) (pos + 12) (acc ++ [val (bitsAt bs pos 12) % 2048])
/-- behind the lengths: the padding -/
def afterAlign (bs : List UInt8) : Sum Nat (List Nat × Nat) → Sum Nat (List Nat × Nat)
  | .inl er => .inl er
  | .inr (ls, p) => if val (bitsAt bs p (padN p)) = 0 then .inr (ls, p + padN p) else .inl 9
/-- the lengths and the padding -/
def lenRes (bs : List UInt8) (more : Bool) (pos : Nat) : Sum Nat (List Nat × Nat) := afterAlign bs (readLens bs 64 more pos [])
/-- data cut by lengths; the rest is the last part -/
def splitBy : List Nat → List UInt8 → List (List UInt8)
  | [], d => [d]
  | n :: l, d => d.take n :: splitBy l (d.drop n)
/-- the parts -/
def partsRes (ls : List Nat) (d : List UInt8) : Sum Nat (List (List UInt8)) :=
  if d.length ≤ ls.sum then .inl 5 else if 32767 < d.length then .inl 9 else .inr (splitBy ls d)
/-- what decoding gives: an error, or SN, Starts, Ends and the parts -/
def decU (bs : List UInt8) : Sum Nat (Nat × Bool × Bool × List (List UInt8)) :=
  if bs.length < 2 then .inl 5
  else if val (bitsAt bs 0 3) ≠ 0 then .inl 9
  else match lenRes bs (decide (val (bitsAt bs 5 1) = 1)) 16 with
    | .inl er => .inl er
    | .inr (ls, p) => match partsRes ls (bs.drop (p / 8)) with
      | .inl er => .inl er
      | .inr ps => .inr (val (bitsAt bs 6 10), decide (val (bitsAt bs 3 1) = 0), decide (val (bitsAt bs 4 1) = 0), ps)
theorem readLens_pos (bs : List UInt8) : ∀ (f : Nat) (more : Bool) (pos : Nat) (acc ls : List Nat) (p : Nat), readLens bs f more pos acc = .inr (ls, p) → pos ≤ 8 * bs.length → p ≤ 8 * bs.length ∧ pos ≤ p
  | _, false, pos, acc, ls, p, h, hp => by
    simp only [readLens] at h
    cases h
    exact ⟨hp, Nat.le_refl _⟩
  | 0, true, _, _, _, _, h, _ => by simp [readLens] at h
  | f + 1, true, pos, acc, ls, p, h, hp => by
    simp only [readLens] at h
    split at h
    · cases h
    · split at h
      · cases h
      · have := readLens_pos bs f _ _ _ ls p h (by omega)
        omega
theorem readLens_props (bs : List UInt8) : ∀ (f : Nat) (more : Bool) (pos : Nat) (acc ls : List Nat) (p : Nat), readLens bs f more pos acc = .inr (ls, p) → acc.length ≤ 63 → (∀ n ∈ acc, 1 ≤ n ∧ n ≤ 2047) → ls.length ≤ 63 ∧ ∀ n ∈ ls, 1 ≤ n ∧ n ≤ 2047
  | _, false, pos, acc, ls, p, h, h1, h2 => by
    simp only [readLens] at h
    cases h
    exact ⟨h1, h2⟩
  | 0, true, _, _, _, _, h, _, _ => by simp [readLens] at h
  | f + 1, true, pos, acc, ls, p, h, h1, h2 => by
    simp only [readLens] at h
    split at h
    · cases h
    · split at h
      · cases h
      · rename_i hb
        refine readLens_props bs f _ _ _ ls p h (by simp; omega) (fun n hn => ?_)
        rw [List.mem_append] at hn
        rcases hn with hn | hn
        · exact h2 n hn
        · rw [List.mem_singleton] at hn
          omega
theorem lenRes_props {bs : List UInt8} {more : Bool} {pos : Nat} {ls : List Nat} {p : Nat} (h : lenRes bs more pos = .inr (ls, p)) : ls.length ≤ 63 ∧ ∀ n ∈ ls, 1 ≤ n ∧ n ≤ 2047 := by
  unfold lenRes afterAlign at h
  split at h
  · cases h
  · rename_i ls' p' hr
    split at h
    · cases h
      exact readLens_props bs _ _ _ _ _ _ hr (by simp) (by simp)
    · cases h
theorem splitBy_length (ls : List Nat) : ∀ d, (splitBy ls d).length = ls.length + 1 := by
  induction ls with
  | nil => intro d; rfl
  | cons n l ih => intro d; simp [splitBy, ih]
theorem splitBy_get (ls : List Nat) : ∀ (d : List UInt8) (i n : Nat), ls[i]? = some n → (splitBy ls d)[i]? = some ((d.drop (ls.take i).sum).take n) := by
  induction ls with
  | nil => intro d i n h; simp at h
  | cons m l ih =>
    intro d i n h
    cases i with
    | zero => simp at h; subst h; simp [splitBy]
    | succ i =>
      simp at h
      have := ih (d.drop m) i n h
      simp [splitBy, this]
theorem splitBy_last (ls : List Nat) : ∀ (d : List UInt8), (splitBy ls d)[ls.length]? = some (d.drop ls.sum) := by
  induction ls with
  | nil => intro d; simp [splitBy]
  | cons m l ih =>
    intro d
    have := ih (d.drop m)
    simp [splitBy, this]
theorem splitBy_flatten (ls : List Nat) : ∀ (d : List UInt8), (splitBy ls d).flatten = d := by
  induction ls with
  | nil => intro d; simp [splitBy]
  | cons m l ih => intro d; simp [splitBy, ih]
end Go.Proofs.YtbjajboodohabaaGreat
namespace Go.Proofs.YtbjajboodohabaaGreat

theorem bitB_append_left (bs d : List UInt8) (j : Nat) (h : j < 8 * bs.length) : bitB (bs ++ d) j = bitB bs j := by
  unfold bitB
  rw [List.getD_eq_getElem?_getD, List.getD_eq_getElem?_getD, List.getElem?_append_left (by omega)]
theorem bitsAt_append_left (bs d : List UInt8) (p k : Nat) (h : p + k ≤ 8 * bs.length) : bitsAt (bs ++ d) p k = bitsAt bs p k := by
  unfold bitsAt
  apply List.map_congr_left
  intro x hx
  rw [List.mem_range] at hx
  exact bitB_append_left _ _ _ (by omega)
theorem bitsAt_take (bs : List UInt8) (m p k : Nat) (h : p + k ≤ 8 * m) (hm : m ≤ bs.length) : bitsAt (bs.take m) p k = bitsAt bs p k := by
  have := bitsAt_append_left (bs.take m) (bs.drop m) p k (by rw [List.length_take]; omega)
  rw [List.take_append_drop] at this
  exact this.symm
theorem bitsAt_add (bs : List UInt8) (p a b : Nat) : bitsAt bs p (a + b) = bitsAt bs p a ++ bitsAt bs (p + a) b := by
  induction b with
  | zero => simp [bitsAt]
  | succ b ih => rw [← Nat.add_assoc, bitsAt_succ, bitsAt_succ, ih, List.append_assoc, Nat.add_assoc]
theorem bitsAt_eq (bs : List UInt8) (p k : Nat) (l : List Bool) (hl : l.length = k) (h : ∀ i, i < k → bitB bs (p + i) = l.getD i false) : bitsAt bs p k = l := by
  apply List.ext_getElem?
  intro i
  unfold bitsAt
  rw [List.getElem?_map]
  by_cases hi : i < k
  · rw [List.getElem?_range hi, List.getElem?_eq_getElem (by omega)]
    have := h i hi
    simp only [Option.map_some, this, List.getD_eq_getElem?_getD, List.getElem?_eq_getElem (show i < l.length by omega), Option.getD_some]
  · rw [List.getElem?_eq_none (by simp; omega), List.getElem?_eq_none (by omega)]
    rfl

theorem bitv_iff (l : List Bool) (j : Nat) : decide (bitv l j = 1) = l.getD j false := by
  unfold bitv
  cases l.getD j false <;> simp
theorem packN_bit (l : List Bool) (j : Nat) : packN l (j / 8) / 2 ^ (7 - j % 8) % 2 = bitv l j := by
  have hq := Nat.div_add_mod j 8
  have hr := Nat.mod_lt j (show 0 < 8 by omega)
  generalize j / 8 = q at *
  generalize j % 8 = r at *
  subst hq
  unfold packN
  have h0 := bitv_le l (8 * q)
  have h1 := bitv_le l (8 * q + 1)
  have h2 := bitv_le l (8 * q + 2)
  have h3 := bitv_le l (8 * q + 3)
  have h4 := bitv_le l (8 * q + 4)
  have h5 := bitv_le l (8 * q + 5)
  have h6 := bitv_le l (8 * q + 6)
  have h7 := bitv_le l (8 * q + 7)
  match r, hr with
  | 0, _ => simp only [Nat.add_zero]; omega
  | 1, _ => omega
  | 2, _ => omega
  | 3, _ => omega
  | 4, _ => omega
  | 5, _ => omega
  | 6, _ => omega
  | 7, _ => simp; omega
theorem bitB_pack (l : List Bool) (j : Nat) (h : j < 8 * nbytes l.length) : bitB (pack l) j = l.getD j false := by
  unfold bitB
  rw [List.getD_eq_getElem?_getD, pack_get l _ (by omega), Option.getD_some, UInt8.toNat_ofNat', Nat.mod_eq_of_lt (packN_lt l _), packN_bit, bitv_iff]
theorem bitsAt_pack (l : List Bool) (d : List UInt8) (p k : Nat) (h : p + k ≤ l.length) : bitsAt (pack l ++ d) p k = (l.drop p).take k := by
  have hn : l.length ≤ 8 * nbytes l.length := by unfold nbytes; omega
  rw [bitsAt_append_left _ _ _ _ (by rw [pack_length]; omega)]
  refine bitsAt_eq _ _ _ _ (by simp; omega) (fun i hi => ?_)
  rw [bitB_pack _ _ (by omega)]
  simp [List.getD_eq_getElem?_getD, hi]
theorem bitsAt_pack_pad (l : List Bool) (d : List UInt8) : bitsAt (pack l ++ d) l.length (padN l.length) = List.replicate (padN l.length) false := by
  have hn : l.length + padN l.length = 8 * nbytes l.length := by unfold nbytes padN; omega
  rw [bitsAt_append_left _ _ _ _ (by rw [pack_length]; omega)]
  refine bitsAt_eq _ _ _ _ (by simp) (fun i hi => ?_)
  rw [bitB_pack _ _ (by omega)]
  simp only [List.getD_eq_getElem?_getD, List.getElem?_eq_none (show l.length ≤ l.length + i by omega), List.getElem?_replicate]
  split <;> rfl

theorem val_replicate (n : Nat) : val (List.replicate n false) = 0 := by
  induction n with
  | zero => rfl
  | succ n ih => rw [List.replicate_succ, val_cons, ih]; simp
theorem val_zero : ∀ l : List Bool, val l = 0 → l = List.replicate l.length false
  | [], _ => rfl
  | b :: l, h => by
    rw [val_cons] at h
    have h1 : val l = 0 := by omega
    have h2 : b.toNat * 2 ^ l.length = 0 := by omega
    have h3 : b = false := by
      rcases Nat.mul_eq_zero.1 h2 with h | h
      · cases b <;> simp_all
      · have := Nat.two_pow_pos l.length; omega
    rw [List.length_cons, List.replicate_succ, ← val_zero l h1, h3]
theorem bitsOf_succ (v n : Nat) : bitsOf v (n + 1) = bitsOf (v / 2) n ++ [decide (v % 2 = 1)] := by
  unfold bitsOf
  rw [List.range_succ, List.map_append]
  congr 1
  · apply List.map_congr_left
    intro k hk
    rw [List.mem_range] at hk
    rw [show n + 1 - 1 - k = (n - 1 - k) + 1 by omega, Nat.pow_succ, Nat.mul_comm, ← Nat.div_div_eq_div_mul]
  · simp
theorem val_bitsOf : ∀ (n v : Nat), v < 2 ^ n → val (bitsOf v n) = v
  | 0, v, h => by simp at h; subst h; rfl
  | n + 1, v, h => by
    rw [bitsOf_succ, val_snoc, val_bitsOf n (v / 2) (by rw [Nat.pow_succ] at h; omega)]
    rcases Nat.mod_two_eq_zero_or_one v with hv | hv
    · simp [hv]; omega
    · simp [hv]; omega
theorem val_inj : ∀ (a b : List Bool), a.length = b.length → val a = val b → a = b
  | [], [], _, _ => rfl
  | [], _ :: _, h, _ => by simp at h
  | _ :: _, [], h, _ => by simp at h
  | x :: a, y :: b, h, hv => by
    simp at h
    rw [val_cons, val_cons, h] at hv
    have ha := val_lt a
    have hb := val_lt b
    rw [h] at ha
    generalize 2 ^ b.length = K at *
    have hxy : x = y := by
      cases x <;> cases y <;> simp at hv ⊢ <;> omega
    subst hxy
    rw [val_inj a b h (by omega)]
theorem bitsOf_val (l : List Bool) : bitsOf (val l) l.length = l :=
  val_inj _ _ (by simp) (val_bitsOf _ _ (val_lt l))
theorem bitsOf_val' (l : List Bool) (n : Nat) (h : l.length = n) : bitsOf (val l) n = l := by subst h; exact bitsOf_val l

theorem pack_ext (l l' : List Bool) (hn : nbytes l.length = nbytes l'.length) (h : ∀ j, l.getD j false = l'.getD j false) : pack l = pack l' := by
  unfold pack
  rw [hn]
  apply List.map_congr_left
  intro i _
  unfold packN bitv
  simp only [h]
theorem pack_padded (l : List Bool) : pack (l ++ List.replicate (padN l.length) false) = pack l := by
  apply pack_ext
  · simp [nbytes, padN]; omega
  · intro j
    rw [List.getD_eq_getElem?_getD, List.getD_eq_getElem?_getD]
    by_cases hj : j < l.length
    · rw [List.getElem?_append_left hj]
    · rw [List.getElem?_append_right (by omega), List.getElem?_eq_none (show l.length ≤ j by omega)]
      rw [List.getElem?_replicate]
      split <;> rfl
theorem byte_of_bits (b : Nat) (h : b < 256) : 128 * (b / 2 ^ 7 % 2) + 64 * (b / 2 ^ 6 % 2) + 32 * (b / 2 ^ 5 % 2) + 16 * (b / 2 ^ 4 % 2) + 8 * (b / 2 ^ 3 % 2) + 4 * (b / 2 ^ 2 % 2) + 2 * (b / 2 ^ 1 % 2) + b / 2 ^ 0 % 2 = b := by
  omega
theorem bit_nat (x : Nat) : (decide (x % 2 = 1)).toNat = x % 2 := by
  rcases Nat.mod_two_eq_zero_or_one x with h | h <;> simp [h]
theorem pack_bitsAt (bs : List UInt8) (m : Nat) (h : m ≤ bs.length) : pack (bitsAt bs 0 (8 * m)) = bs.take m := by
  have hnb : nbytes (bitsAt bs 0 (8 * m)).length = m := by simp [nbytes]; omega
  apply List.ext_getElem?
  intro i
  by_cases hi : i < m
  · rw [pack_get _ _ (by omega), List.getElem?_take, if_pos hi, List.getElem?_eq_getElem (by omega)]
    have key : ∀ r, r < 8 → bitv (bitsAt bs 0 (8 * m)) (8 * i + r) = (bs[i]'(by omega)).toNat / 2 ^ (7 - r) % 2 := by
      intro r hr
      unfold bitv bitsAt
      rw [List.getD_eq_getElem?_getD, List.getElem?_map, List.getElem?_range (by omega)]
      simp only [Option.map_some, Option.getD_some, Nat.zero_add]
      unfold bitB
      rw [show (8 * i + r) / 8 = i by omega, show (8 * i + r) % 8 = r by omega, List.getD_eq_getElem?_getD, List.getElem?_eq_getElem (by omega), Option.getD_some, bit_nat]
    have k0 := key 0 (by omega)
    have e : packN (bitsAt bs 0 (8 * m)) i = (bs[i]'(by omega)).toNat := by
      unfold packN
      rw [Nat.add_zero] at k0
      rw [k0, key 1 (by omega), key 2 (by omega), key 3 (by omega), key 4 (by omega), key 5 (by omega), key 6 (by omega), key 7 (by omega)]
      exact byte_of_bits _ (UInt8.toNat_lt _)
    rw [e]
    simp
  · rw [List.getElem?_eq_none (by rw [pack_length, hnb]; omega), List.getElem?_eq_none (by simp; omega)]
end Go.Proofs.YtbjajboodohabaaGreat
namespace Go.Proofs.YtbjajboodohabaaGreat

/-- a bit as a byte -/
def bb (b : Bool) : UInt8 := if b then 1 else 0
/-- bits as bytes -/
def bbs (l : List Bool) : List UInt8 := l.map bb
@[simp] theorem bbs_length (l : List Bool) : (bbs l).length = l.length := by simp [bbs]
theorem bbs_append (a b : List Bool) : bbs (a ++ b) = bbs a ++ bbs b := by simp [bbs]
theorem bbs_get (l : List Bool) (i : Nat) (b : Bool) (h : l[i]? = some b) : (bbs l)[i]? = some (bb b) := by simp [bbs, h]
theorem bb_toNat (b : Bool) : (bb b).toNat = b.toNat := by cases b <;> rfl
theorem bbs_take (l : List Bool) (k : Nat) : bbs (l.take k) = (bbs l).take k := by simp [bbs]
theorem bbs_replicate (k : Nat) (b : Bool) : bbs (List.replicate k b) = List.replicate k (bb b) := by simp [bbs]

/-- the row of FromUint when the last k bits are laid -/
def fromTo (v n k : Nat) : List UInt8 := List.replicate (n - k) 0 ++ (bbs (bitsOf v n)).drop (n - k)
theorem fromTo_zero (v n : Nat) : fromTo v n 0 = List.replicate n 0 := by
  unfold fromTo
  rw [List.drop_of_length_le (by simp)]
  simp
theorem fromTo_all (v n : Nat) : fromTo v n n = bbs (bitsOf v n) := by simp [fromTo]
@[simp] theorem fromTo_length (v n k : Nat) (_h : k ≤ n) : (fromTo v n k).length = n := by simp [fromTo]
theorem bitsOf_get (v n j : Nat) (h : j < n) : (bitsOf v n)[j]? = some (decide (v / 2 ^ (n - 1 - j) % 2 = 1)) := by simp [bitsOf, h]
theorem fromTo_succ (v n k : Nat) (h : k < n) : fromTo v n (k + 1) = (fromTo v n k).set (n - 1 - k) (bb (decide (v / 2 ^ k % 2 = 1))) := by
  have hg := bbs_get _ _ _ (bitsOf_get v n (n - 1 - k) (by omega))
  rw [show n - 1 - (n - 1 - k) = k by omega] at hg
  apply List.ext_getElem?
  intro i
  unfold fromTo
  rw [List.getElem?_set]
  by_cases e : n - 1 - k = i
  · subst e
    rw [if_pos rfl, if_pos (by simp; omega), List.getElem?_append_right (by simp; omega), List.getElem?_drop, ← hg]
    congr 1
    simp; omega
  · rw [if_neg e]
    rcases Nat.lt_or_ge i (n - 1 - k) with h1 | h1
    · rw [List.getElem?_append_left (by simp; omega), List.getElem?_append_left (by simp; omega)]
      simp [show i < n - (k + 1) by omega, show i < n - k by omega]
    · rw [List.getElem?_append_right (by simp; omega), List.getElem?_append_right (by simp; omega), List.getElem?_drop, List.getElem?_drop]
      congr 1
      simp; omega

/-- the row of Pack when the first k bits are packed -/
def packTo (l : List Bool) (k : Nat) : List UInt8 := (List.range (nbytes l.length)).map fun i => UInt8.ofNat (packN (l.take k) i)
@[simp] theorem packTo_length (l : List Bool) (k : Nat) : (packTo l k).length = nbytes l.length := by simp [packTo]
theorem packN_nil (i : Nat) : packN [] i = 0 := by simp [packN, bitv]
theorem packTo_zero (l : List Bool) : packTo l 0 = List.replicate (nbytes l.length) 0 := by
  unfold packTo
  simp only [List.take_zero, packN_nil]
  rw [List.map_const']
  simp
theorem packTo_all (l : List Bool) : packTo l l.length = pack l := by simp [packTo, pack]
theorem packTo_get (l : List Bool) (k i : Nat) (h : i < nbytes l.length) : (packTo l k)[i]? = some (UInt8.ofNat (packN (l.take k) i)) := by simp [packTo, h]
theorem take_snocB (l : List Bool) (k : Nat) (b : Bool) (h : l[k]? = some b) : l.take (k + 1) = l.take k ++ [b] := by
  rw [List.take_add_one, h]; rfl
theorem packTo_no (l : List Bool) (k : Nat) (h : l[k]? = some false) : packTo l (k + 1) = packTo l k := by
  have hk : k < l.length := (List.getElem?_eq_some_iff.1 h).1
  have hl : (l.take k).length = k := by simp; omega
  unfold packTo
  rw [take_snocB l k false h]
  apply List.map_congr_left
  intro i _
  congr 1
  by_cases e : i = k / 8
  · subst e
    have := packN_snoc_same (l.take k) false
    rw [hl] at this
    rw [this]; simp
  · exact packN_snoc_other _ _ _ (by rw [hl]; exact e)
theorem packTo_yes (l : List Bool) (k : Nat) (h : l[k]? = some true) : packTo l (k + 1) = (packTo l k).set (k / 8) (UInt8.ofNat (packN (l.take k) (k / 8) + 2 ^ (7 - k % 8))) ∧ packN (l.take k) (k / 8) + 2 ^ (7 - k % 8) < 256 := by
  have hk : k < l.length := (List.getElem?_eq_some_iff.1 h).1
  have hl : (l.take k).length = k := by simp; omega
  have hs := packN_snoc_same (l.take k) true
  rw [hl] at hs
  have hlt := packN_lt (l.take k ++ [true]) (k / 8)
  rw [hs] at hlt
  simp only [Bool.toNat_true, Nat.one_mul] at hlt hs
  refine ⟨?_, hlt⟩
  apply List.ext_getElem?
  intro i
  have hn : k / 8 < nbytes l.length := by unfold nbytes; omega
  rw [List.getElem?_set]
  by_cases e : k / 8 = i
  · subst e
    rw [if_pos rfl, if_pos (by simpa using hn), packTo_get _ _ _ hn, take_snocB l k true h, hs]
  · rw [if_neg e]
    rcases Nat.lt_or_ge i (nbytes l.length) with h1 | h1
    · rw [packTo_get _ _ _ h1, packTo_get _ _ _ h1, take_snocB l k true h, packN_snoc_other _ _ _ (by rw [hl]; omega)]
    · rw [List.getElem?_eq_none (by simpa using h1), List.getElem?_eq_none (by simpa using h1)]

/-- framing bits and extension bit as a number -/
def framN (s e : Bool) (n : Nat) : Nat := 4 * (!s).toNat + 2 * (!e).toNat + (decide (1 < n)).toNat
theorem framN_le (s e : Bool) (n : Nat) : framN s e n ≤ 7 := by
  unfold framN
  cases s <;> cases e <;> cases decide (1 < n) <;> simp
end Go.Proofs.YtbjajboodohabaaGreat
