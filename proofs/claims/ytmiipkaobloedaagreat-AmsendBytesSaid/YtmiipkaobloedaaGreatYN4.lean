/- Plain mathematics: decoding undoes encoding of acknowledged mode PDUs, and encoding undoes decoding. -/
import Derived.Test.YtmiipkaobloedaaGreatYFa
import Derived.Test.YtmiipkaobloedaaGreatYNa
namespace Go.Proofs.YtmiipkaobloedaaGreat

theorem chunk_enc (H : List Bool) (q : Nat) (hq : H.length = q) (l : List (List UInt8)) (x : List UInt8) (hv : ValidP (l ++ [x])) :
    chunkRes (pack (H ++ (lb (l.map List.length) ++ [])) ++ (l.flatten ++ x)) (decide (0 < l.length)) q = .inr (l ++ [x]) := by
  subst hq
  obtain ⟨hl63, hsh'⟩ := valid_init hv
  have hx : 1 ≤ x.length := hv.pos x (by simp)
  have hsh : ∀ n ∈ l.map List.length, 1 ≤ n ∧ n ≤ 2047 := by
    intro n hn
    rw [List.mem_map] at hn
    obtain ⟨p, hp, rfl⟩ := hn
    exact hsh' p hp
  have hsum : sumLen l + x.length ≤ 32767 := by have := hv.sum; simpa [sumLen] using this
  have rl := readLens_enc [] (l.flatten ++ x) (l.map List.length) H 64 [] hsh (by simp; omega) (by simpa using hl63)
  have hpad := bitsAt_pack_pad (H ++ (lb (l.map List.length) ++ [])) (l.flatten ++ x)
  have hlen : (H ++ (lb (l.map List.length) ++ [])).length = H.length + 12 * l.length := by simp [lb_length]
  rw [hlen] at hpad
  have hdrop : (pack (H ++ (lb (l.map List.length) ++ [])) ++ (l.flatten ++ x)).drop ((H.length + 12 * l.length + padN (H.length + 12 * l.length)) / 8) = l.flatten ++ x := by
    rw [List.drop_left' (by rw [pack_length, hlen]; unfold nbytes padN; omega)]
  generalize pack (H ++ (lb (l.map List.length) ++ [])) ++ (l.flatten ++ x) = b at *
  have hlr : lenRes b (decide (0 < l.length)) H.length = .inr (l.map List.length, H.length + 12 * l.length + padN (H.length + 12 * l.length)) := by
    unfold lenRes
    rw [List.length_map] at rl
    rw [rl]
    simp only [afterAlign, List.nil_append]
    rw [hpad, val_replicate, if_pos rfl]
  unfold chunkRes
  rw [hlr]
  simp only
  rw [hdrop]
  unfold partsRes
  have h1 : (l.flatten ++ x).length = sumLen l + x.length := by rw [List.length_append, flatten_length]
  have h2 : (l.map List.length).sum = sumLen l := rfl
  rw [h1, h2, if_neg (by omega), if_neg (by omega), splitBy_self]

theorem chunk_bits (bs : List UInt8) (more : Bool) (q : Nat) (ps : List (List UInt8)) (hq : q ≤ 8 * bs.length) (h : chunkRes bs more q = .inr ps) :
    ValidP ps ∧ more = decide (1 < ps.length) ∧ pack (bitsAt bs 0 q ++ lenBits ps (ps.length - 1)) ++ ps.flatten = bs := by
  unfold chunkRes at h
  split at h
  · cases h
  rename_i ls p' hlr
  have hpr := h
  have hprops := lenRes_props hlr
  unfold lenRes afterAlign at hlr
  split at hlr
  · cases hlr
  rename_i ls2 p hrl
  split at hlr
  · rename_i hpad
    simp only [Sum.inr.injEq, Prod.mk.injEq] at hlr
    obtain ⟨rfl, rfl⟩ := hlr
    obtain ⟨hp1, hp2⟩ := readLens_pos bs _ _ _ _ _ _ hrl hq
    obtain ⟨l, hl, hp, hmore, hbits⟩ := readLens_bits bs _ _ _ _ _ _ hrl
    simp only [List.nil_append] at hl
    subst hl hp
    unfold partsRes at hpr
    split at hpr
    · cases hpr
    rename_i hd1
    split at hpr
    · cases hpr
    rename_i hd2
    simp only [Sum.inr.injEq] at hpr
    subst hpr
    have hm8 : q + 12 * ls2.length + padN (q + 12 * ls2.length) = 8 * ((q + 12 * ls2.length + padN (q + 12 * ls2.length)) / 8) := by unfold padN; omega
    have hmle : (q + 12 * ls2.length + padN (q + 12 * ls2.length)) / 8 ≤ bs.length := by unfold padN; omega
    generalize hm : (q + 12 * ls2.length + padN (q + 12 * ls2.length)) / 8 = m at *
    have hsl := splitBy_length ls2 (bs.drop m)
    have hlens := splitBy_lens ls2 (bs.drop m) (by omega)
    refine ⟨⟨by omega, by omega, splitBy_pos _ _ (by omega) (fun n hn => (hprops.2 n hn).1), fun i hi => ?_, ?_⟩, ?_, ?_⟩
    · have hi2 : i < ls2.length := by omega
      have h1 := splitBy_get ls2 (bs.drop m) i ls2[i] (List.getElem?_eq_getElem hi2)
      rw [h1, Option.getD_some]
      have := (hprops.2 _ (List.getElem_mem hi2)).2
      simp; omega
    · rw [← flatten_length, splitBy_flatten]
      omega
    · rw [hmore, hsl]
      simp
    · rw [lenBits_lb, hsl, Nat.add_sub_cancel, hlens, splitBy_flatten]
      have hk := pack_bitsAt bs m hmle
      rw [← hm8, bitsAt_add, Nat.zero_add, val_zero _ hpad, bitsAt_length, bitsAt_add, Nat.zero_add, hbits] at hk
      have hpp := pack_padded (bitsAt bs 0 q ++ lb ls2)
      have hll : (bitsAt bs 0 q ++ lb ls2).length = q + 12 * ls2.length := by simp [lb_length]
      rw [hll] at hpp
      rw [← hpp]
      have := List.take_append_drop m bs
      rw [← hk] at this
      simpa using this
  · cases hlr

theorem am_head (sn : Nat) (po sg la : Bool) (off : Nat) (s e : Bool) (n : Nat) : amBits sn po sg la off s e n =
    bitsOf 1 1 ++ (bitsOf sg.toNat 1 ++ (bitsOf po.toNat 1 ++ (bitsOf (!s).toNat 1 ++ (bitsOf (!e).toNat 1 ++ (bitsOf (decide (1 < n)).toNat 1 ++ (bitsOf sn 10 ++ (if sg then bitsOf la.toNat 1 ++ bitsOf off 15 else []))))))) := by
  cases sg <;> simp [amBits, fieldBits, amHead1, amHead2, amHead3]
theorem am_fields (a b c d e f sn : Nat) (T : List Bool) (D : List UInt8) (bs : List UInt8) (hbs : bs = pack (bitsOf a 1 ++ (bitsOf b 1 ++ (bitsOf c 1 ++ (bitsOf d 1 ++ (bitsOf e 1 ++ (bitsOf f 1 ++ (bitsOf sn 10 ++ T))))))) ++ D) :
    bitsAt bs 0 1 = bitsOf a 1 ∧ bitsAt bs 1 1 = bitsOf b 1 ∧ bitsAt bs 2 1 = bitsOf c 1 ∧ bitsAt bs 3 1 = bitsOf d 1 ∧ bitsAt bs 4 1 = bitsOf e 1 ∧ bitsAt bs 5 1 = bitsOf f 1 ∧ bitsAt bs 6 10 = bitsOf sn 10 := by
  subst hbs
  refine ⟨?_, ?_, ?_, ?_, ?_, ?_, ?_⟩
  · exact bitsAt_mid [] (bitsOf a 1) _ D 0 1 (by simp) (by simp)
  · exact bitsAt_mid (bitsOf a 1) (bitsOf b 1) _ D 1 1 (by simp) (by simp)
  · have := bitsAt_mid (bitsOf a 1 ++ bitsOf b 1) (bitsOf c 1) (bitsOf d 1 ++ (bitsOf e 1 ++ (bitsOf f 1 ++ (bitsOf sn 10 ++ T)))) D 2 1 (by simp) (by simp)
    simpa only [List.append_assoc] using this
  · have := bitsAt_mid (bitsOf a 1 ++ bitsOf b 1 ++ bitsOf c 1) (bitsOf d 1) (bitsOf e 1 ++ (bitsOf f 1 ++ (bitsOf sn 10 ++ T))) D 3 1 (by simp) (by simp)
    simpa only [List.append_assoc] using this
  · have := bitsAt_mid (bitsOf a 1 ++ bitsOf b 1 ++ bitsOf c 1 ++ bitsOf d 1) (bitsOf e 1) (bitsOf f 1 ++ (bitsOf sn 10 ++ T)) D 4 1 (by simp) (by simp)
    simpa only [List.append_assoc] using this
  · have := bitsAt_mid (bitsOf a 1 ++ bitsOf b 1 ++ bitsOf c 1 ++ bitsOf d 1 ++ bitsOf e 1) (bitsOf f 1) (bitsOf sn 10 ++ T) D 5 1 (by simp) (by simp)
    simpa only [List.append_assoc] using this
  · have := bitsAt_mid (bitsOf a 1 ++ bitsOf b 1 ++ bitsOf c 1 ++ bitsOf d 1 ++ bitsOf e 1 ++ bitsOf f 1) (bitsOf sn 10) T D 6 10 (by simp) (by simp)
    simpa only [List.append_assoc] using this
theorem am_fields2 (H : List Bool) (hH : H.length = 16) (la off : Nat) (T : List Bool) (D : List UInt8) (bs : List UInt8) (hbs : bs = pack (H ++ (bitsOf la 1 ++ (bitsOf off 15 ++ T))) ++ D) :
    bitsAt bs 16 1 = bitsOf la 1 ∧ bitsAt bs 17 15 = bitsOf off 15 := by
  subst hbs
  refine ⟨bitsAt_mid H (bitsOf la 1) _ D 16 1 hH (by simp), ?_⟩
  have := bitsAt_mid (H ++ bitsOf la 1) (bitsOf off 15) T D 17 15 (by simp [hH]) (by simp)
  simpa only [List.append_assoc] using this
theorem toNat_one (b : Bool) : decide (b.toNat = 1) = b := by cases b <;> rfl
theorem toNat_not (b : Bool) : decide ((!b).toNat = 0) = b := by cases b <;> rfl

theorem encA_length (sn : Nat) (po sg la : Bool) (off : Nat) (s e : Bool) (ps : List (List UInt8)) : (encA sn po sg la off s e ps).length = nbytes ((if sg then 32 else 16) + 12 * (ps.length - 1)) + sumLen ps := by
  unfold encA
  rw [List.length_append, pack_length, List.length_append, amBits_length, lenBits_length, flatten_length]

theorem dec_encA (sn : Nat) (po sg la : Bool) (off : Nat) (s e : Bool) (ps : List (List UInt8)) (hv : validA sn sg la off ps = true) :
    decA (encA sn po sg la off s e ps) = .inr ⟨sn, po, sg, la, off, s, e, ps⟩ := by
  have hva := (validA_iff _ _ _ _ _).1 hv
  have hvp := (validB_iff ps).1 hva.vp
  have hsn : sn < 1024 := by have := hva.sn1; omega
  have hlen := encA_length sn po sg la off s e ps
  obtain ⟨l, x, rfl⟩ := split_last hvp.lo
  have he : encA sn po sg la off s e (l ++ [x]) = pack (amBits sn po sg la off s e (l.length + 1) ++ (lb (l.map List.length) ++ [])) ++ (l.flatten ++ x) := by
    unfold encA
    rw [lenBits_lb]
    simp
  have hch := chunk_enc (amBits sn po sg la off s e (l.length + 1)) (if sg then 32 else 16) (amBits_length _ _ _ _ _ _ _ _) l x hvp
  rw [← he] at hch
  rw [am_head] at he
  generalize encA sn po sg la off s e (l ++ [x]) = bs at *
  obtain ⟨f0, f1, f2, f3, f4, f5, f6⟩ := am_fields 1 sg.toNat po.toNat (!s).toNat (!e).toNat (decide (1 < l.length + 1)).toNat sn ((if sg then bitsOf la.toNat 1 ++ bitsOf off 15 else []) ++ (lb (l.map List.length) ++ [])) (l.flatten ++ x) bs (by rw [he]; simp only [List.append_assoc])
  have hmore : decide ((decide (1 < l.length + 1)).toNat = 1) = decide (0 < l.length) := by rw [toNat_one]; simp
  have hn2 : 2 ≤ bs.length := by rw [hlen]; unfold nbytes; split <;> omega
  unfold decA
  rw [if_neg (by omega), f0, f1, f2, f3, f4, f5, f6, val_bit, val_bit, val_bit, val_bit, val_bit, val_bitsOf 1 1 (by omega), val_bitsOf 10 sn (by omega), if_neg (by simp), hmore]
  cases sg with
  | true =>
    obtain ⟨g0, g1⟩ := am_fields2 (bitsOf 1 1 ++ (bitsOf true.toNat 1 ++ (bitsOf po.toNat 1 ++ (bitsOf (!s).toNat 1 ++ (bitsOf (!e).toNat 1 ++ (bitsOf (decide (1 < l.length + 1)).toNat 1 ++ bitsOf sn 10)))))) (by simp) la.toNat off (lb (l.map List.length) ++ []) (l.flatten ++ x) bs (by rw [he]; simp only [List.append_assoc, if_true])
    have hoff : off < 32768 := by have := hva.seg rfl; omega
    have hn4 : 4 ≤ bs.length := by rw [hlen]; unfold nbytes; simp; omega
    simp only [if_true] at hch
    rw [if_pos (by rfl), if_neg (by omega), hch, g0, g1, val_bit, val_bitsOf 15 off (by omega)]
    simp only [toNat_one, toNat_not]
    rw [if_pos hv]
  | false =>
    obtain ⟨rfl, h0⟩ := hva.whole rfl
    obtain rfl : off = 0 := by omega
    simp only [Bool.false_eq_true, if_false] at hch
    rw [if_neg (by simp), hch]
    simp only [toNat_one, toNat_not]
    rw [if_pos hv]

theorem bit_is (l : List Bool) (h : l.length = 1) : bitsOf (decide (val l = 1)).toNat 1 = l := by
  have : (decide (val l = 1)).toNat = val l := by
    have := val_lt l
    rw [h] at this
    generalize val l = y at *
    match y, this with
    | 0, _ => simp
    | 1, _ => simp
  rw [this]
  exact bitsOf_val' l 1 h
theorem bit_true (l : List Bool) (h : l.length = 1) (hv : val l = 1) : bitsOf 1 1 = l := by
  have := bitsOf_val' l 1 h
  rw [hv] at this
  exact this
theorem bit_false (l : List Bool) (h : l.length = 1) (hv : ¬ val l = 1) : bitsOf 0 1 = l := by
  have h1 := bitsOf_val' l 1 h
  have := val_lt l
  rw [h] at this
  rw [show val l = 0 by omega] at h1
  exact h1

theorem enc_decA (bs : List UInt8) (p : APdu) (h : decA bs = .inr p) : validA p.sn p.sg p.la p.off p.ps = true ∧ p.off ≤ 32767 ∧ encA p.sn p.po p.sg p.la p.off p.s p.e p.ps = bs := by
  unfold decA at h
  split at h
  · cases h
  rename_i hlen
  split at h
  · cases h
  rename_i h0
  have h0 : val (bitsAt bs 0 1) = 1 := by omega
  have e16 : bitsAt bs 0 16 = bitsAt bs 0 1 ++ (bitsAt bs 1 1 ++ (bitsAt bs 2 1 ++ (bitsAt bs 3 1 ++ (bitsAt bs 4 1 ++ (bitsAt bs 5 1 ++ bitsAt bs 6 10))))) := by
    rw [show (16 : Nat) = 1 + (1 + (1 + (1 + (1 + (1 + 10))))) by rfl]
    simp only [bitsAt_add, Nat.zero_add]
  split at h
  · rename_i h1
    split at h
    · cases h
    rename_i hlen4
    split at h
    · cases h
    rename_i ps hch
    split at h
    · rename_i hv
      simp only [Sum.inr.injEq] at h
      subst h
      obtain ⟨_, hm, hb⟩ := chunk_bits bs _ 32 ps (by omega) hch
      have ho := val_lt (bitsAt bs 17 15)
      rw [bitsAt_length] at ho
      refine ⟨hv, by simp only; omega, ?_⟩
      unfold encA
      rw [am_head]
      have e32 : bitsAt bs 0 32 = bitsAt bs 0 16 ++ (bitsAt bs 16 1 ++ bitsAt bs 17 15) := by
        rw [show (32 : Nat) = 16 + (1 + 15) by rfl, bitsAt_add, bitsAt_add]
      rw [← hm, bit_is _ (by simp), bit_is _ (by simp), bit_is _ (by simp), bit_of _ (by simp), bit_of _ (by simp), bitsOf_val' _ 10 (by simp), bitsOf_val' _ 15 (by simp), bit_true _ (by simp) h0, show bitsOf true.toNat 1 = bitsAt bs 1 1 from bit_true _ (by simp) h1, if_pos rfl]
      rw [e32, e16] at hb
      simp only [List.append_assoc] at hb ⊢
      exact hb
    · cases h
  · rename_i h1
    split at h
    · cases h
    rename_i ps hch
    split at h
    · rename_i hv
      simp only [Sum.inr.injEq] at h
      subst h
      obtain ⟨_, hm, hb⟩ := chunk_bits bs _ 16 ps (by omega) hch
      refine ⟨hv, by simp only; omega, ?_⟩
      unfold encA
      rw [am_head]
      rw [← hm, bit_is _ (by simp), bit_is _ (by simp), bit_of _ (by simp), bit_of _ (by simp), bitsOf_val' _ 10 (by simp), bit_true _ (by simp) h0, show bitsOf false.toNat 1 = bitsAt bs 1 1 from bit_false _ (by simp) h1, if_neg (by simp)]
      rw [e16] at hb
      simp only [List.append_assoc, List.append_nil] at hb ⊢
      exact hb
    · cases h

theorem lenRes_err {bs : List UInt8} {m : Bool} {q er : Nat} (h : lenRes bs m q = .inl er) : er ≠ 0 := by
  unfold lenRes afterAlign at h
  split at h
  · rename_i er' hr
    cases h
    exact readLens_err bs _ _ _ _ _ hr
  · split at h
    · cases h
    · cases h; omega
theorem chunkRes_err {bs : List UInt8} {m : Bool} {q er : Nat} (h : chunkRes bs m q = .inl er) : er ≠ 0 := by
  unfold chunkRes at h
  split at h
  · rename_i er' hl
    cases h
    exact lenRes_err hl
  · unfold partsRes at h
    split at h
    · cases h; omega
    · split at h
      · cases h; omega
      · cases h
theorem decA_err (bs : List UInt8) (er : Nat) (h : decA bs = .inl er) : er ≠ 0 := by
  unfold decA at h
  split at h
  · cases h; omega
  split at h
  · cases h; omega
  split at h
  · split at h
    · cases h; omega
    · split at h
      · rename_i hc
        cases h
        exact chunkRes_err hc
      · split at h
        · cases h
        · cases h; omega
  · split at h
    · rename_i hc
      cases h
      exact chunkRes_err hc
    · split at h
      · cases h
      · cases h; omega
end Go.Proofs.YtmiipkaobloedaaGreat
