/- Plain mathematics: decoding undoes encoding of unacknowledged mode PDUs, and encoding undoes decoding. Plain mathematics: encodings cut short. -/
import Derived.Test.YtbjajboodohabaaGreatMa
import Derived.Test.YtbjajboodohabaaGreatUa
namespace Go.Proofs.YtbjajboodohabaaGreat

theorem bitsAt_mid (a b c : List Bool) (d : List UInt8) (p k : Nat) (hp : a.length = p) (hk : b.length = k) : bitsAt (pack (a ++ (b ++ c)) ++ d) p k = b := by
  subst hp hk
  rw [bitsAt_pack _ _ _ _ (by simp), List.drop_left, List.take_left]
/-- the bits of the lengths -/
def lb : List Nat → List Bool
  | [] => []
  | n :: l => (bitsOf (decide (0 < l.length)).toNat 1 ++ bitsOf n 11) ++ lb l
theorem lb_length : ∀ l, (lb l).length = 12 * l.length
  | [] => rfl
  | n :: l => by simp [lb, lb_length l]; omega
theorem readLens_enc (c : List Bool) (d : List UInt8) : ∀ (l : List Nat) (a : List Bool) (f : Nat) (acc : List Nat), (∀ n ∈ l, 1 ≤ n ∧ n ≤ 2047) → l.length < f → acc.length + l.length ≤ 63 →
    readLens (pack (a ++ (lb l ++ c)) ++ d) f (decide (0 < l.length)) a.length acc = .inr (acc ++ l, a.length + 12 * l.length)
  | [], a, f, acc, _, _, _ => by simp [readLens]
  | n :: l, a, f, acc, hl, hf, hacc => by
    obtain ⟨f, rfl⟩ : ∃ g, f = g + 1 := ⟨f - 1, by simp at hf; omega⟩
    have hn := hl n (by simp)
    have e : a ++ (lb (n :: l) ++ c) = a ++ ((bitsOf (decide (0 < l.length)).toNat 1 ++ bitsOf n 11) ++ (lb l ++ c)) := by simp [lb]
    have hv := bitsAt_mid a (bitsOf (decide (0 < l.length)).toNat 1 ++ bitsOf n 11) (lb l ++ c) d a.length 12 rfl (by simp)
    have hval : val (bitsOf (decide (0 < l.length)).toNat 1 ++ bitsOf n 11) = (decide (0 < l.length)).toNat * 2048 + n := by
      rw [val_append, val_bitsOf 11 n (by omega), val_bitsOf 1 _ (by cases decide (0 < l.length) <;> simp)]
      simp
    have ih := readLens_enc c d l (a ++ (bitsOf (decide (0 < l.length)).toNat 1 ++ bitsOf n 11)) f (acc ++ [n]) (fun m hm => hl m (by simp [hm])) (by simp at hf; omega) (by simp at hacc ⊢; omega)
    rw [e]
    have hlen : a.length + 12 ≤ 8 * (pack (a ++ ((bitsOf (decide (0 < l.length)).toNat 1 ++ bitsOf n 11) ++ (lb l ++ c))) ++ d).length := by
      simp [nbytes]; omega
    simp only [List.length_cons, show decide (0 < l.length + 1) = true by simp, readLens]
    rw [if_neg (by omega), hv, hval, if_neg (by simp at hacc; omega)]
    rw [show ((decide (0 < l.length)).toNat * 2048 + n) % 2048 = n by omega, show decide (((decide (0 < l.length)).toNat * 2048 + n) / 2048 = 1) = decide (0 < l.length) by
      rw [show ((decide (0 < l.length)).toNat * 2048 + n) / 2048 = (decide (0 < l.length)).toNat by omega]
      cases decide (0 < l.length) <;> simp]
    simp only [List.append_assoc] at ih ⊢
    rw [show (a ++ (bitsOf (decide (0 < l.length)).toNat 1 ++ bitsOf n 11)).length = a.length + 12 by simp] at ih
    rw [ih]
    simp
    omega

theorem lenBits_lb (ps : List (List UInt8)) : lenBits ps (ps.length - 1) = lb ((ps.take (ps.length - 1)).map List.length) := by
  have key : ∀ j i, i + j = ps.length - 1 → ((List.range' i j).flatMap fun i => fieldBits (lenField ps i)) = lb (((ps.drop i).take j).map List.length) := by
    intro j
    induction j with
    | zero => intro i _; simp [lb]
    | succ j ih =>
      intro i hi
      have hlt : i < ps.length := by omega
      rw [List.range'_succ, List.flatMap_cons, ih (i + 1) (by omega), List.drop_eq_getElem_cons hlt, List.take_succ_cons, List.map_cons, lb]
      congr 1
      have h1 : fieldBits (lenField ps i) = bitsOf (decide (i + 2 < ps.length)).toNat 1 ++ bitsOf (ps[i]?.getD []).length 11 := by simp [fieldBits, lenField]
      rw [h1, List.getElem?_eq_getElem hlt, Option.getD_some]
      congr 4
      simp
      omega
  have := key (ps.length - 1) 0 (by omega)
  rw [List.drop_zero, ← List.range_eq_range'] at this
  exact this

theorem splitBy_self : ∀ (l : List (List UInt8)) (x : List UInt8), splitBy (l.map List.length) (l.flatten ++ x) = l ++ [x]
  | [], x => by simp [splitBy]
  | p :: l, x => by simp [splitBy, splitBy_self l x]

theorem head_bits (sn : Nat) (s e : Bool) (n : Nat) : fieldBits (umHead sn s e n) = bitsOf 0 3 ++ (bitsOf (!s).toNat 1 ++ (bitsOf (!e).toNat 1 ++ (bitsOf (decide (1 < n)).toNat 1 ++ bitsOf sn 10))) := by
  simp [fieldBits, umHead]
theorem val_bit (b : Bool) : val (bitsOf b.toNat 1) = b.toNat := val_bitsOf 1 _ (by cases b <;> simp)

/-- parts as all but the last, and the last -/
theorem split_last {ps : List (List UInt8)} (h : 1 ≤ ps.length) : ∃ l x, ps = l ++ [x] := by
  have hne : ps ≠ [] := by intro e; simp [e] at h
  exact ⟨ps.dropLast, ps.getLast hne, (List.dropLast_concat_getLast hne).symm⟩

theorem encU_last (sn : Nat) (s e : Bool) (l : List (List UInt8)) (x : List UInt8) : encU sn s e (l ++ [x]) = pack (fieldBits (umHead sn s e (l.length + 1)) ++ (lb (l.map List.length) ++ [])) ++ (l.flatten ++ x) := by
  unfold encU
  rw [lenBits_lb]
  simp

theorem encU_length (sn : Nat) (s e : Bool) (ps : List (List UInt8)) : (encU sn s e ps).length = nbytes (16 + 12 * (ps.length - 1)) + sumLen ps := by
  unfold encU
  rw [List.length_append, pack_length, List.length_append, head_bits, lenBits_lb, lb_length, flatten_length]
  simp
theorem encU_length_hdr (sn : Nat) (s e : Bool) (ps : List (List UInt8)) (h1 : 1 ≤ ps.length) (h2 : ps.length ≤ 64) : ((encU sn s e ps).length : Int) = hdrN ps.length + sumLen ps := by
  rw [encU_length]
  unfold hdrN nbytes
  rw [if_neg (by omega)]
  omega

theorem dec_enc (sn : Nat) (s e : Bool) (ps : List (List UInt8)) (hsn : sn < 1024) (hv : ValidP ps) : decU (encU sn s e ps) = .inr (sn, s, e, ps) := by
  obtain ⟨l, x, rfl⟩ := split_last hv.lo
  have hl63 : l.length ≤ 63 := by have := hv.hi; simp at this; omega
  have hpos : ∀ p ∈ l, 1 ≤ p.length := fun p hp => hv.pos p (by simp [hp])
  have hx : 1 ≤ x.length := hv.pos x (by simp)
  have hsh : ∀ n ∈ l.map List.length, 1 ≤ n ∧ n ≤ 2047 := by
    intro n hn
    rw [List.mem_map] at hn
    obtain ⟨p, hp, rfl⟩ := hn
    refine ⟨hpos p hp, ?_⟩
    obtain ⟨i, hi, rfl⟩ := List.getElem_of_mem hp
    have := hv.short i (by simp; omega)
    rw [List.getElem?_append_left hi, List.getElem?_eq_getElem hi] at this
    exact this
  have hsum : sumLen l + x.length ≤ 32767 := by have := hv.sum; simpa [sumLen] using this
  rw [encU_last]
  have hm : decide (1 < l.length + 1) = decide (0 < (l.map List.length).length) := by simp
  have rl := readLens_enc [] (l.flatten ++ x) (l.map List.length) (fieldBits (umHead sn s e (l.length + 1))) 64 [] hsh (by simp; omega) (by simpa using hl63)
  have hL : (fieldBits (umHead sn s e (l.length + 1))).length = 16 := by rw [head_bits]; simp
  have hpad := bitsAt_pack_pad (fieldBits (umHead sn s e (l.length + 1)) ++ (lb (l.map List.length) ++ [])) (l.flatten ++ x)
  have hlen : (fieldBits (umHead sn s e (l.length + 1)) ++ (lb (l.map List.length) ++ [])).length = 16 + 12 * l.length := by simp [hL, lb_length]
  rw [hlen] at hpad
  rw [hL] at rl
  have hdrop : (pack (fieldBits (umHead sn s e (l.length + 1)) ++ (lb (l.map List.length) ++ [])) ++ (l.flatten ++ x)).drop ((16 + 12 * l.length + padN (16 + 12 * l.length)) / 8) = l.flatten ++ x := by
    rw [List.drop_left' (by rw [pack_length, hlen]; unfold nbytes padN; omega)]
  have f0 : bitsAt (pack (fieldBits (umHead sn s e (l.length + 1)) ++ (lb (l.map List.length) ++ [])) ++ (l.flatten ++ x)) 0 3 = bitsOf 0 3 := by
    have := bitsAt_mid [] (bitsOf 0 3) (bitsOf (!s).toNat 1 ++ (bitsOf (!e).toNat 1 ++ (bitsOf (decide (1 < l.length + 1)).toNat 1 ++ (bitsOf sn 10 ++ (lb (l.map List.length) ++ []))))) (l.flatten ++ x) 0 3 (by simp) (by simp)
    rw [head_bits]
    simpa only [List.append_assoc, List.nil_append] using this
  have f1 : bitsAt (pack (fieldBits (umHead sn s e (l.length + 1)) ++ (lb (l.map List.length) ++ [])) ++ (l.flatten ++ x)) 3 1 = bitsOf (!s).toNat 1 := by
    have := bitsAt_mid (bitsOf 0 3) (bitsOf (!s).toNat 1) (bitsOf (!e).toNat 1 ++ (bitsOf (decide (1 < l.length + 1)).toNat 1 ++ (bitsOf sn 10 ++ (lb (l.map List.length) ++ [])))) (l.flatten ++ x) 3 1 (by simp) (by simp)
    rw [head_bits]
    simpa only [List.append_assoc] using this
  have f2 : bitsAt (pack (fieldBits (umHead sn s e (l.length + 1)) ++ (lb (l.map List.length) ++ [])) ++ (l.flatten ++ x)) 4 1 = bitsOf (!e).toNat 1 := by
    have := bitsAt_mid (bitsOf 0 3 ++ bitsOf (!s).toNat 1) (bitsOf (!e).toNat 1) (bitsOf (decide (1 < l.length + 1)).toNat 1 ++ (bitsOf sn 10 ++ (lb (l.map List.length) ++ []))) (l.flatten ++ x) 4 1 (by simp) (by simp)
    rw [head_bits]
    simpa only [List.append_assoc] using this
  have f3 : bitsAt (pack (fieldBits (umHead sn s e (l.length + 1)) ++ (lb (l.map List.length) ++ [])) ++ (l.flatten ++ x)) 5 1 = bitsOf (decide (1 < l.length + 1)).toNat 1 := by
    have := bitsAt_mid (bitsOf 0 3 ++ (bitsOf (!s).toNat 1 ++ bitsOf (!e).toNat 1)) (bitsOf (decide (1 < l.length + 1)).toNat 1) (bitsOf sn 10 ++ (lb (l.map List.length) ++ [])) (l.flatten ++ x) 5 1 (by simp) (by simp)
    rw [head_bits]
    simpa only [List.append_assoc] using this
  have f4 : bitsAt (pack (fieldBits (umHead sn s e (l.length + 1)) ++ (lb (l.map List.length) ++ [])) ++ (l.flatten ++ x)) 6 10 = bitsOf sn 10 := by
    have := bitsAt_mid (bitsOf 0 3 ++ (bitsOf (!s).toNat 1 ++ (bitsOf (!e).toNat 1 ++ bitsOf (decide (1 < l.length + 1)).toNat 1))) (bitsOf sn 10) (lb (l.map List.length) ++ []) (l.flatten ++ x) 6 10 (by simp) (by simp)
    rw [head_bits]
    simpa only [List.append_assoc] using this
  have hlen2 : 2 ≤ (pack (fieldBits (umHead sn s e (l.length + 1)) ++ (lb (l.map List.length) ++ [])) ++ (l.flatten ++ x)).length := by
    rw [List.length_append, pack_length, hlen]
    unfold nbytes
    omega
  generalize pack (fieldBits (umHead sn s e (l.length + 1)) ++ (lb (l.map List.length) ++ [])) ++ (l.flatten ++ x) = b at *
  unfold decU
  rw [if_neg (by omega), f0, f1, f2, f3, f4, val_bit, val_bit, val_bit, val_bitsOf 3 0 (by omega), val_bitsOf 10 sn (by omega), if_neg (by simp)]
  have hmore : decide ((decide (1 < l.length + 1)).toNat = 1) = decide (0 < (l.map List.length).length) := by
    rw [hm]
    cases decide (0 < (l.map List.length).length) <;> simp
  have hlr : lenRes b (decide ((decide (1 < l.length + 1)).toNat = 1)) 16 = .inr (l.map List.length, 16 + 12 * l.length + padN (16 + 12 * l.length)) := by
    unfold lenRes
    rw [hmore, rl]
    simp only [afterAlign, List.length_map, List.nil_append]
    rw [hpad, val_replicate, if_pos rfl]
  rw [hlr]
  simp only
  rw [hdrop]
  have hpr : partsRes (l.map List.length) (l.flatten ++ x) = .inr (l ++ [x]) := by
    unfold partsRes
    have h1 : (l.flatten ++ x).length = sumLen l + x.length := by rw [List.length_append, flatten_length]
    have h2 : (l.map List.length).sum = sumLen l := rfl
    rw [h1, h2, if_neg (by omega), if_neg (by omega), splitBy_self]
  rw [hpr]
  cases s <;> cases e <;> simp

/-! ### the other way -/
theorem readLens_bits (bs : List UInt8) : ∀ (f : Nat) (more : Bool) (pos : Nat) (acc ls : List Nat) (p : Nat), readLens bs f more pos acc = .inr (ls, p) →
    ∃ l, ls = acc ++ l ∧ p = pos + 12 * l.length ∧ more = decide (0 < l.length) ∧ bitsAt bs pos (12 * l.length) = lb l
  | _, false, pos, acc, ls, p, h => by
    simp only [readLens] at h
    cases h
    exact ⟨[], by simp [lb, bitsAt]⟩
  | 0, true, _, _, _, _, h => by simp [readLens] at h
  | f + 1, true, pos, acc, ls, p, h => by
    simp only [readLens] at h
    split at h
    · cases h
    · split at h
      · cases h
      · obtain ⟨l, h1, h2, h3, h4⟩ := readLens_bits bs f _ _ _ ls p h
        refine ⟨val (bitsAt bs pos 12) % 2048 :: l, by rw [h1]; simp, by rw [h2]; simp; omega, by simp, ?_⟩
        have hb : bitsAt bs pos 12 = bitsAt bs pos 1 ++ bitsAt bs (pos + 1) 11 := bitsAt_add bs pos 1 11
        have l1 := val_lt (bitsAt bs pos 1)
        have l2 := val_lt (bitsAt bs (pos + 1) 11)
        rw [bitsAt_length] at l1 l2
        have hv : val (bitsAt bs pos 12) = val (bitsAt bs pos 1) * 2048 + val (bitsAt bs (pos + 1) 11) := by
          have h11 := val_append (bitsAt bs pos 1) (bitsAt bs (pos + 1) 11)
          rw [bitsAt_length, ← hb] at h11
          omega
        rw [List.length_cons, show 12 * (l.length + 1) = 12 + 12 * l.length by omega, bitsAt_add, h4, lb, ← h3]
        congr 1
        rw [hb]
        congr 1
        · have : (decide (val (bitsAt bs pos 12) / 2048 = 1)).toNat = val (bitsAt bs pos 1) := by
            rw [hv, show (val (bitsAt bs pos 1) * 2048 + val (bitsAt bs (pos + 1) 11)) / 2048 = val (bitsAt bs pos 1) by omega]
            have hy : val (bitsAt bs pos 1) = 0 ∨ val (bitsAt bs pos 1) = 1 := by omega
            rcases hy with hy | hy <;> rw [hy] <;> rfl
          rw [← hb, this]
          exact (bitsOf_val' _ _ (by simp)).symm
        · rw [← hb, hv, show (val (bitsAt bs pos 1) * 2048 + val (bitsAt bs (pos + 1) 11)) % 2048 = val (bitsAt bs (pos + 1) 11) by omega]
          exact (bitsOf_val' _ _ (by simp)).symm

theorem splitBy_lens : ∀ (ls : List Nat) (d : List UInt8), ls.sum ≤ d.length → ((splitBy ls d).take ls.length).map List.length = ls
  | [], d, _ => by simp
  | n :: l, d, h => by
    simp at h
    simp [splitBy, splitBy_lens l (d.drop n) (by simp; omega)]
    omega
theorem splitBy_pos : ∀ (ls : List Nat) (d : List UInt8), ls.sum < d.length → (∀ n ∈ ls, 1 ≤ n) → ∀ p ∈ splitBy ls d, 1 ≤ p.length
  | [], d, h, _, p, hp => by
    simp [splitBy] at hp h
    subst hp; omega
  | n :: l, d, h, hn, p, hp => by
    simp at h
    simp only [splitBy, List.mem_cons] at hp
    rcases hp with rfl | hp
    · have := hn n (by simp)
      simp; omega
    · exact splitBy_pos l (d.drop n) (by simp; omega) (fun m hm => hn m (by simp [hm])) p hp

theorem bit_of (l : List Bool) (h : l.length = 1) : bitsOf (!(decide (val l = 0))).toNat 1 = l := by
  have : (!(decide (val l = 0))).toNat = val l := by
    have := val_lt l
    rw [h] at this
    generalize val l = y at *
    match y, this with
    | 0, _ => simp
    | 1, _ => simp
  rw [this]
  exact bitsOf_val' l 1 h

theorem enc_dec (bs : List UInt8) (sn : Nat) (s e : Bool) (ps : List (List UInt8)) (h : decU bs = .inr (sn, s, e, ps)) : sn < 1024 ∧ ValidP ps ∧ encU sn s e ps = bs := by
  unfold decU at h
  split at h
  · cases h
  rename_i hlen
  split at h
  · cases h
  rename_i h0
  split at h
  · cases h
  rename_i ls p' hlr
  split at h
  · cases h
  rename_i ps' hpr
  simp only [Sum.inr.injEq, Prod.mk.injEq] at h
  obtain ⟨rfl, rfl, rfl, rfl⟩ := h
  have hprops := lenRes_props hlr
  unfold lenRes afterAlign at hlr
  split at hlr
  · cases hlr
  rename_i ls2 p hrl
  split at hlr
  · rename_i hpad
    simp only [Sum.inr.injEq, Prod.mk.injEq] at hlr
    obtain ⟨rfl, rfl⟩ := hlr
    obtain ⟨hp1, hp2⟩ := readLens_pos bs _ _ _ _ _ _ hrl (by omega)
    obtain ⟨l, hl, hp, hmore, hbits⟩ := readLens_bits bs _ _ _ _ _ _ hrl
    simp only [List.nil_append] at hl
    subst hl hp
    unfold partsRes at hpr
    split at hpr
    · cases hpr
    rename_i hd1
    split at hpr
    · cases hpr
    rename_i hd2
    simp only [Sum.inr.injEq] at hpr
    subst hpr
    have hm8 : 16 + 12 * ls2.length + padN (16 + 12 * ls2.length) = 8 * ((16 + 12 * ls2.length + padN (16 + 12 * ls2.length)) / 8) := by unfold padN; omega
    have hmle : (16 + 12 * ls2.length + padN (16 + 12 * ls2.length)) / 8 ≤ bs.length := by unfold padN; omega
    generalize hm : (16 + 12 * ls2.length + padN (16 + 12 * ls2.length)) / 8 = m at *
    have hsl := splitBy_length ls2 (bs.drop m)
    have hlens := splitBy_lens ls2 (bs.drop m) (by omega)
    refine ⟨?_, ⟨by omega, by omega, splitBy_pos _ _ (by omega) (fun n hn => (hprops.2 n hn).1), fun i hi => ?_, ?_⟩, ?_⟩
    · have := val_lt (bitsAt bs 6 10)
      simpa using this
    · have hi2 : i < ls2.length := by omega
      have h1 := splitBy_get ls2 (bs.drop m) i ls2[i] (List.getElem?_eq_getElem hi2)
      rw [h1, Option.getD_some]
      have := (hprops.2 _ (List.getElem_mem hi2)).2
      simp; omega
    · rw [← flatten_length, splitBy_flatten]
      omega
    · unfold encU
      rw [lenBits_lb, hsl, Nat.add_sub_cancel, hlens, splitBy_flatten, head_bits]
      have hk := pack_bitsAt bs m hmle
      rw [← hm8, bitsAt_add, Nat.zero_add, val_zero _ hpad, bitsAt_length, bitsAt_add, Nat.zero_add, hbits, show (16 : Nat) = 3 + (1 + (1 + (1 + 10))) by rfl] at hk
      simp only [bitsAt_add, Nat.zero_add] at hk
      have e0 : bitsOf 0 3 = bitsAt bs 0 3 := by
        have h00 : val (bitsAt bs 0 3) = 0 := by omega
        have := bitsOf_val' (bitsAt bs 0 3) 3 (by simp)
        rw [h00] at this
        exact this
      have e4 := bitsOf_val' (bitsAt bs 6 10) 10 (by simp)
      have e3 : bitsOf (decide (1 < ls2.length + 1)).toNat 1 = bitsAt bs 5 1 := by
        have h1 : decide (1 < ls2.length + 1) = decide (0 < ls2.length) := by simp
        rw [h1, ← hmore]
        have := bitsOf_val' (bitsAt bs 5 1) 1 (by simp)
        have hlt := val_lt (bitsAt bs 5 1)
        rw [bitsAt_length] at hlt
        have e : (decide (val (bitsAt bs 5 1) = 1)).toNat = val (bitsAt bs 5 1) := by
          generalize val (bitsAt bs 5 1) = y at *
          match y, hlt with
          | 0, _ => simp
          | 1, _ => simp
        rw [e]
        exact this
      rw [bit_of _ (by simp), bit_of _ (by simp), e0, e4, e3]
      have hpp := pack_padded (bitsAt bs 0 3 ++ (bitsAt bs 3 1 ++ (bitsAt bs 4 1 ++ (bitsAt bs 5 1 ++ bitsAt bs 6 10))) ++ lb ls2)
      have hll : (bitsAt bs 0 3 ++ (bitsAt bs 3 1 ++ (bitsAt bs 4 1 ++ (bitsAt bs 5 1 ++ bitsAt bs 6 10))) ++ lb ls2).length = 16 + 12 * ls2.length := by simp [lb_length]; omega
      rw [hll] at hpp
      rw [← hpp]
      have := List.take_append_drop m bs
      rw [← hk] at this
      simpa using this
  · cases hlr
end Go.Proofs.YtbjajboodohabaaGreat
namespace Go.Proofs.YtbjajboodohabaaGreat

theorem readLens_err (bs : List UInt8) : ∀ (f : Nat) (more : Bool) (pos : Nat) (acc : List Nat) (er : Nat), readLens bs f more pos acc = .inl er → er ≠ 0
  | _, false, pos, acc, er, h => by simp [readLens] at h
  | 0, true, _, _, er, h => by simp [readLens] at h; omega
  | f + 1, true, pos, acc, er, h => by
    simp only [readLens] at h
    split at h
    · cases h; omega
    · split at h
      · cases h; omega
      · exact readLens_err bs f _ _ _ er h
theorem decU_err (bs : List UInt8) (er : Nat) (h : decU bs = .inl er) : er ≠ 0 := by
  unfold decU at h
  split at h
  · cases h; omega
  split at h
  · cases h; omega
  split at h
  · rename_i er' hlr
    cases h
    unfold lenRes afterAlign at hlr
    split at hlr
    · rename_i er'' hrl
      cases hlr
      exact readLens_err _ _ _ _ _ _ hrl
    · split at hlr
      · cases hlr
      · cases hlr; omega
  · split at h
    · rename_i er' hpr
      cases h
      unfold partsRes at hpr
      split at hpr
      · cases hpr; omega
      · split at hpr
        · cases hpr; omega
        · cases hpr
    · cases h

theorem enc_more (sn : Nat) (s e : Bool) (l : List (List UInt8)) (x : List UInt8) : val (bitsAt (encU sn s e (l ++ [x])) 5 1) = (decide (0 < l.length)).toNat := by
  rw [encU_last]
  have f3 : bitsAt (pack (fieldBits (umHead sn s e (l.length + 1)) ++ (lb (l.map List.length) ++ [])) ++ (l.flatten ++ x)) 5 1 = bitsOf (decide (1 < l.length + 1)).toNat 1 := by
    have := bitsAt_mid (bitsOf 0 3 ++ (bitsOf (!s).toNat 1 ++ bitsOf (!e).toNat 1)) (bitsOf (decide (1 < l.length + 1)).toNat 1) (bitsOf sn 10 ++ (lb (l.map List.length) ++ [])) (l.flatten ++ x) 5 1 (by simp) (by simp)
    rw [head_bits]
    simpa only [List.append_assoc] using this
  rw [f3, val_bit]
  congr 1
  simp
theorem enc_lens (sn : Nat) (s e : Bool) (l : List (List UInt8)) (x : List UInt8) (hl : l.length ≤ 63) (hs : ∀ p ∈ l, 1 ≤ p.length ∧ p.length ≤ 2047) :
    readLens (encU sn s e (l ++ [x])) 64 (decide (0 < l.length)) 16 [] = .inr (l.map List.length, 16 + 12 * l.length) := by
  rw [encU_last]
  have rl := readLens_enc [] (l.flatten ++ x) (l.map List.length) (fieldBits (umHead sn s e (l.length + 1))) 64 [] (by
    intro n hn
    rw [List.mem_map] at hn
    obtain ⟨p, hp, rfl⟩ := hn
    exact hs p hp) (by simp; omega) (by simpa using hl)
  have hL : (fieldBits (umHead sn s e (l.length + 1))).length = 16 := by rw [head_bits]; simp
  rw [hL] at rl
  simpa using rl
theorem valid_init {l : List (List UInt8)} {x : List UInt8} (hv : ValidP (l ++ [x])) : l.length ≤ 63 ∧ ∀ p ∈ l, 1 ≤ p.length ∧ p.length ≤ 2047 := by
  refine ⟨by have := hv.hi; simp at this; omega, fun p hp => ⟨hv.pos p (by simp [hp]), ?_⟩⟩
  obtain ⟨i, hi, rfl⟩ := List.getElem_of_mem hp
  have := hv.short i (by simp; omega)
  rw [List.getElem?_append_left hi, List.getElem?_eq_getElem hi] at this
  exact this
theorem encU_snoc (sn : Nat) (s e : Bool) (l : List (List UInt8)) (x y : List UInt8) : encU sn s e (l ++ [x]) ++ y = encU sn s e (l ++ [x ++ y]) := by
  rw [encU_last, encU_last]
  simp

/-- cut before the last part's first byte, an encoding does not decode -/
theorem cut_bad (sn : Nat) (s e : Bool) (l : List (List UInt8)) (x : List UInt8) (hv : ValidP (l ++ [x])) (k : Nat) (hk : k + x.length ≤ (encU sn s e (l ++ [x])).length) :
    ∃ er, decU ((encU sn s e (l ++ [x])).take k) = .inl er := by
  cases hd : decU ((encU sn s e (l ++ [x])).take k) with
  | inl er => exact ⟨er, rfl⟩
  | inr r =>
    exfalso
    obtain ⟨sn', s', e', ps'⟩ := r
    obtain ⟨_, hv', he⟩ := enc_dec _ _ _ _ _ hd
    obtain ⟨l', x', rfl⟩ := split_last hv'.lo
    have hb : encU sn s e (l ++ [x]) = encU sn' s' e' (l' ++ [x' ++ (encU sn s e (l ++ [x])).drop k]) := by
      rw [← encU_snoc, he, List.take_append_drop]
    generalize hy : (encU sn s e (l ++ [x])).drop k = y at *
    have m1 := enc_more sn s e l x
    have m2 := enc_more sn' s' e' l' (x' ++ y)
    obtain ⟨h63, hsh⟩ := valid_init hv
    obtain ⟨h63', hsh'⟩ := valid_init hv'
    have r1 := enc_lens sn s e l x h63 hsh
    have r2 := enc_lens sn' s' e' l' (x' ++ y) h63' hsh'
    rw [← hb] at m2 r2
    have hm : decide (0 < l.length) = decide (0 < l'.length) := by
      rw [m1] at m2
      revert m2
      cases decide (0 < l.length) <;> cases decide (0 < l'.length) <;> simp
    rw [← hm, r1] at r2
    simp only [Sum.inr.injEq, Prod.mk.injEq] at r2
    have hs : sumLen l = sumLen l' := by unfold sumLen; rw [r2.1]
    have hl1 := encU_length sn s e (l ++ [x])
    have hl2 := encU_length sn' s' e' (l' ++ [x'])
    have hx' : 1 ≤ x'.length := hv'.pos x' (by simp)
    rw [he, List.length_take] at hl2
    have s1 : sumLen (l ++ [x]) = sumLen l + x.length := by simp [sumLen]
    have s2 : sumLen (l' ++ [x']) = sumLen l' + x'.length := by simp [sumLen]
    rw [s1] at hl1
    rw [s2] at hl2
    simp only [List.length_append, List.length_cons, List.length_nil, Nat.zero_add, Nat.add_sub_cancel] at hl1 hl2
    have : l.length = l'.length := by omega
    rw [this] at hl1
    omega

/-- cut within the last part -/
theorem cut_ok (sn : Nat) (s e : Bool) (l : List (List UInt8)) (x : List UInt8) (hv : ValidP (l ++ [x])) (k r : Nat) (hr1 : 1 ≤ r) (hr2 : r ≤ x.length) (hk : k + x.length = (encU sn s e (l ++ [x])).length + r) :
    (encU sn s e (l ++ [x])).take k = encU sn s e (l ++ [x.take r]) ∧ ValidP (l ++ [x.take r]) := by
  constructor
  · have hb : encU sn s e (l ++ [x]) = encU sn s e (l ++ [x.take r]) ++ x.drop r := by rw [encU_snoc, List.take_append_drop]
    have hl1 := encU_length sn s e (l ++ [x])
    have hl2 := encU_length sn s e (l ++ [x.take r])
    have s1 : sumLen (l ++ [x]) = sumLen l + x.length := by simp [sumLen]
    have s2 : sumLen (l ++ [x.take r]) = sumLen l + r := by simp [sumLen]; omega
    rw [s1] at hl1
    rw [s2] at hl2
    simp only [List.length_append, List.length_cons, List.length_nil, Nat.zero_add, Nat.add_sub_cancel] at hl1 hl2
    rw [hb, List.take_left' (by omega)]
  · obtain ⟨h63, hsh⟩ := valid_init hv
    refine ⟨by simp, by simp; omega, fun p hp => ?_, fun i hi => ?_, ?_⟩
    · rw [List.mem_append, List.mem_singleton] at hp
      rcases hp with hp | rfl
      · exact (hsh p hp).1
      · simp; omega
    · simp at hi
      rw [List.getElem?_append_left hi, List.getElem?_eq_getElem hi]
      exact (hsh _ (List.getElem_mem hi)).2
    · have := hv.sum
      simp [sumLen] at this ⊢
      omega
end Go.Proofs.YtbjajboodohabaaGreat
