/- law35: AmsendBytes' plain steps: a grant's PDU. -/
import Derived.Test.YtmiipkaobloedaaGreatYN4
import Derived.Test.YtmiipkaobloedaaGreatZa
import Derived.Test.YtmiipkaobloedaaGreatZc
import Derived.Test.YtmiipkaobloedaaGreatZh
namespace Go.Proofs.YtmiipkaobloedaaGreat
/-- the ends of the SDUs so far -/
def endsL (acc : List (List UInt8)) : List Nat := (List.range (acc.length + 1)).map fun i => sumLen (acc.take i)
theorem endsL_nil : endsL [] = [0] := rfl
theorem endsL_length (acc : List (List UInt8)) : (endsL acc).length = acc.length + 1 := by simp [endsL]
theorem mem_endsL {acc : List (List UInt8)} {a : Nat} : a ∈ endsL acc ↔ isE acc a := by
  unfold endsL isE
  simp only [List.mem_map, List.mem_range]
  constructor
  · rintro ⟨i, hi, rfl⟩
    exact ⟨i, by omega, rfl⟩
  · rintro ⟨i, hi, rfl⟩
    exact ⟨i, by omega, rfl⟩
theorem endsL_snoc (acc : List (List UInt8)) (x : List UInt8) : endsL (acc ++ [x]) = endsL acc ++ [sumLen acc + x.length] := by
  unfold endsL
  rw [List.length_append, List.length_singleton, List.range_succ, List.map_append]
  congr 1
  · refine List.map_congr_left fun i hi => ?_
    rw [List.mem_range] at hi
    rw [List.take_append_of_le_length (by omega)]
  · rw [List.map_singleton, List.take_of_length_le (by simp), sumL_app]
    simp [sumLen]
theorem chk_fits (n : Int) : ∀ (f : Nat) (sdus : List (List UInt8)) (sent cnt lst size : Nat) (e : Bool), (chk n f sdus sent cnt lst size e).1 ≠ [] →
    hdrN (((cnt + (chk n f sdus sent cnt lst size e).1.length : Nat)) : Int) + (size : Int) + (sumLen (chk n f sdus sent cnt lst size e).1 : Int) ≤ n
  | 0, sdus, sent, cnt, lst, size, e, h => by rw [chk] at h; exact absurd rfl h
  | f + 1, [], sent, cnt, lst, size, e, h => by rw [chk] at h; exact absurd rfl h
  | f + 1, x :: rest, sent, cnt, lst, size, e, h => by
    rw [chk] at h ⊢
    split
    · rename_i hc; rw [if_pos hc] at h; exact absurd rfl h
    rename_i hc
    rw [if_neg hc] at h
    split
    · rename_i hr; rw [if_pos hr] at h; exact absurd rfl h
    rename_i hr
    rw [if_neg hr] at h
    have hcn : (((cnt + 1 : Nat)) : Int) = (cnt : Int) + 1 := by omega
    have hr1 : ((min (n - hdrN ((cnt : Int) + 1)) 32767 - (size : Int)).toNat : Int) = min (n - hdrN ((cnt : Int) + 1)) 32767 - (size : Int) := by omega
    split
    · rename_i hlt
      rw [List.length_singleton, hcn]
      simp only [sumLen, List.map_cons, List.map_nil, List.sum_cons, List.sum_nil, List.length_take, List.length_drop]
      omega
    · rename_i hge
      have ih := chk_fits n f rest 0 (cnt + 1) (x.length - sent) (size + (x.length - sent)) true
      generalize (chk n f rest 0 (cnt + 1) (x.length - sent) (size + (x.length - sent)) true) = R at *
      dsimp only
      by_cases hn : R.1 = []
      · rw [hn, List.length_singleton, hcn]
        simp only [sumLen, List.map_cons, List.map_nil, List.sum_cons, List.sum_nil, List.length_drop]
        omega
      · have := ih hn
        rw [List.length_cons, show cnt + (R.1.length + 1) = cnt + 1 + R.1.length by omega, sumL_cons, List.length_drop]
        omega
theorem enc_len {p : Pu} (hv : validA p.sn p.seg p.last p.off p.ps = true) : ((puB (some p)).length : Int) = hdrN (p.ps.length : Int) + (if p.seg = true then 2 else 0) + (sumLen p.ps : Int) := by
  have h1 := ((validB_iff _).1 ((validA_iff _ _ _ _ _).1 hv).vp).lo
  have h2 := ((validB_iff _).1 ((validA_iff _ _ _ _ _).1 hv).vp).hi
  show ((encA p.sn p.poll p.seg p.last p.off p.s p.e p.ps).length : Int) = _
  rw [encA_length]
  unfold hdrN nbytes
  obtain ⟨k, hk⟩ : ∃ k, p.ps.length = k + 1 := ⟨p.ps.length - 1, by omega⟩
  rw [hk, if_neg (show ¬ (((k + 1 : Nat) : Int) < 1 ∨ 64 < ((k + 1 : Nat) : Int)) by omega), show k + 1 - 1 = k by omega, show ((k + 1 : Nat) : Int) - 1 = (k : Int) by omega]
  have e1 : (16 + 12 * k + 7) / 8 = (12 * k + 7) / 8 + 2 := by rw [show 16 + 12 * k + 7 = 12 * k + 7 + 8 * 2 by omega, Nat.add_mul_div_left _ _ (by decide)]
  have e2 : (32 + 12 * k + 7) / 8 = (12 * k + 7) / 8 + 4 := by rw [show 32 + 12 * k + 7 = 12 * k + 7 + 8 * 4 by omega, Nat.add_mul_div_left _ _ (by decide)]
  have e3 : (12 * (k : Int) + 7) / 8 = (((12 * k + 7) / 8 : Nat) : Int) := by omega
  rw [e3]
  generalize (12 * k + 7) / 8 = d at *
  cases p.seg with
  | true => simp only [if_true, e2]; omega
  | false => simp only [Bool.false_eq_true, if_false, e1]; omega
theorem enc_bd {p : Pu} (hv : validA p.sn p.seg p.last p.off p.ps = true) : 0 < (puB (some p)).length ∧ (puB (some p)).length ≤ 40000 := by
  have h := (validB_iff _).1 ((validA_iff _ _ _ _ _).1 hv).vp
  have h1 := h.lo
  have h2 := h.hi
  have h3 := h.sum
  have e := enc_len hv
  have hb : 2 ≤ hdrN (p.ps.length : Int) ∧ hdrN (p.ps.length : Int) ≤ 200 := by
    unfold hdrN
    split <;> omega
  split at e <;> omega
/-- a PDU that a grant of n bytes gives: valid, and not longer than n -/
structure PuOk (n : Int) (p : Pu) : Prop where
  v : validA p.sn p.seg p.last p.off p.ps = true
  len : ((puB (some p)).length : Int) ≤ n
  off : p.off ≤ 32767
/-- what a grant gives, for the law -/
def BytG (_c : Cf) (n : Int) (acc : List (List UInt8)) (a next : Nat) (R : Sd × Option Pu × Int) : Prop :=
  (R.2.1 = none ∧ Byt R.1 acc a next) ∨
  (∃ p, R.2.1 = some p ∧ R.2.2 = 0 ∧ PuOk n p ∧ ((nextP R.1 = next ∧ Byt R.1 acc a next) ∨
    (p.sn = next ∧ p.seg = false ∧ (p.s = true ↔ isE acc a) ∧ PartsAt acc a true p.ps ∧ (p.e = true ↔ isE acc (a + sumLen p.ps)) ∧ nextP R.1 = (next + 1) % 1024 ∧ next < 1024 ∧ Byt R.1 acc (a + sumLen p.ps) ((next + 1) % 1024))))
theorem byt_again {st : Sd} {K : Nat} (_hi : Inv35 st) (hb : Bnd st K) (c : Cf) (n : Int) {acc : List (List UInt8)} {a next : Nat} (h : Byt st acc a next) {i : Nat} {x : Ou} (hx : st.out[i]? = some x) :
    BytG c n acc a next ((againP c n st i x).1, (againP c n st i x).2, 0) := by
  obtain ⟨s1, s2, s3, s4⟩ := again_same c n st i x
  have hB : Byt (againP c n st i x).1 acc a next := h.same s1 s2 s3 s4
  have hN : nextP (againP c n st i x).1 = next := by rw [h.nx]; unfold nextP; rw [s3, s4]
  have hok := hb.ou x (List.mem_of_getElem? hx)
  have hsz := ouOk_size hok
  revert hB hN
  unfold againP
  cases hp : x.pend with
  | nil => exact fun hB _ => .inl ⟨rfl, hB⟩
  | cons r rest =>
    obtain ⟨fr, e0⟩ := r
    obtain ⟨hr1, hr2⟩ := hok.pr (fr, e0) (by rw [hp]; simp)
    dsimp only at hr1 hr2 ⊢
    split
    · rename_i hc
      intro hB hN
      have hv := validA_whole hok
      refine .inr ⟨_, rfl, rfl, ⟨hv, ?_, Nat.zero_le _⟩, .inl ⟨hN, hB⟩⟩
      refine Int.le_trans (Int.le_of_eq (enc_len ?_)) ?_
      · exact hv
      have := hc.2.2
      unfold sizeO at this
      simp only [Bool.false_eq_true, if_false]
      omega
    · split
      · exact fun hB _ => .inl ⟨rfl, hB⟩
      · rename_i hg
        have hgb := goTo_bd (segFits x fr n) (e0 + 1 - fr) fr
        have hgo := (goTo_ok (segFits x fr n) (e0 + 1 - fr) fr).resolve_left hg
        generalize goTo (segFits x fr n) (e0 + 1 - fr) fr = J at *
        intro hB hN
        have hJs : J ≤ 0 + sumLen x.ps := by
          have h1 : J ≤ sizeO x := by omega
          unfold sizeO at h1
          omega
        have hvp := cut_valid x.ps 0 fr J hok.ps (Nat.zero_le _) (by omega) hJs
        have hcs := cut_sum x.ps 0 fr J (Nat.zero_le _) hJs
        have hvA : validA (x.sn : Nat) true (decide (J = sizeO x)) (fr : Nat) (cutParts x.ps 0 fr J x.ps.length) = true :=
          (validA_iff _ _ _ _ _).2 ⟨by omega, by have := hok.sn; omega, (validB_iff _).2 hvp, fun _ => by rw [hcs]; omega, fun e => by cases e⟩
        refine .inr ⟨_, rfl, rfl, ⟨hvA, ?_, by dsimp only; omega⟩, .inl ⟨hN, hB⟩⟩
        refine Int.le_trans (Int.le_of_eq (enc_len ?_)) ?_
        · exact hvA
        dsimp only
        rw [hcs]
        unfold segFits at hgo
        simp only [decide_eq_true_eq] at hgo
        simp only [if_true]
        omega
theorem byt_grant {st : Sd} {K : Nat} {c : Cf} (hi : Inv35 st) (hb : Bnd st K) (now n : Int) (hnow : now ≤ 9223372036854775807) {acc : List (List UInt8)} {a next : Nat} (h : Byt st acc a next) : BytG c n acc a next (grantR c st now n) := by
  unfold Go.Proofs.YtmiipkaobloedaaGreat.grantR
  split
  · exact .inl ⟨rfl, h⟩
  split
  · exact .inl ⟨rfl, h⟩
  obtain ⟨t1, t2, t3, t4, _⟩ := tick_same c st now
  have hB : Byt (tickS c st now) acc a next := h.same t1 t2 t3 t4
  have hi1 := hi.tick c now
  have hb1 := hb.tick c hnow
  unfold grantS
  generalize tickS c st now = s1 at *
  split
  · exact .inl ⟨rfl, hB⟩
  · cases hp : pendAt s1.out with
    | some i =>
      obtain ⟨x, hx, _⟩ := pendAt_some hp
      simp only [hx]
      exact byt_again hi1 hb1 c n hB hx
    | none =>
      dsimp only
      by_cases hw : 512 ≤ s1.out.length
      · rw [show freshP c n s1 = (s1, none) by unfold freshP; rw [if_pos hw]]
        exact .inl ⟨rfl, hB⟩
      by_cases hne : (chunkS n s1).ps = []
      · rw [show freshP c n s1 = (s1, none) by unfold freshP; rw [if_neg hw, if_pos hne]]
        exact .inl ⟨rfl, hB⟩
      rw [show freshP c n s1 = ((finishP c (addO s1 (chunkS n s1)) (pollsNow c (addO s1 (chunkS n s1)))).1, some (chunkS n s1, (finishP c (addO s1 (chunkS n s1)) (pollsNow c (addO s1 (chunkS n s1)))).2)) by unfold freshP; rw [if_neg hw, if_neg hne]]
      have hok := chunk_ok hb1 hi1.toInvV n hne
      have hNew := hB.chunk hi1.toInvV n hne
      have hF := hB.fresh c n (pollsNow c (addO s1 (chunkS n s1)))
      have hv := validA_whole hok
      have hnx : (chunkS n s1).sn = next := hB.nx.symm
      have hlt : next < 1024 := by rw [hB.nx]; exact Nat.mod_lt _ (by decide)
      have hfit : hdrN ((chunkS n s1).ps.length : Int) + (sumLen (chunkS n s1).ps : Int) ≤ n := by
        have := chk_fits n ((skipTo s1.queue s1.taken).1.length + 1) (skipTo s1.queue s1.taken).1 (skipTo s1.queue s1.taken).2 0 0 0 false hne
        have e : (chunkS n s1).ps = (chk n ((skipTo s1.queue s1.taken).1.length + 1) (skipTo s1.queue s1.taken).1 (skipTo s1.queue s1.taken).2 0 0 0 false).1 := rfl
        rw [e]
        simp only [Nat.zero_add] at this
        omega
      refine .inr ⟨_, rfl, rfl, ⟨hv, ?_, Nat.zero_le _⟩, .inr ⟨hnx, rfl, hNew.s, hNew.at_, hNew.e, hF.nx.symm, hlt, hF⟩⟩
      refine Int.le_trans (Int.le_of_eq (enc_len ?_)) ?_
      · exact hv
      simp only [Bool.false_eq_true, if_false]
      omega
theorem nextP_ne {x : Nat} (_h : x < 1024) : (x + 1) % 1024 ≠ x := by omega
end Go.Proofs.YtmiipkaobloedaaGreat
