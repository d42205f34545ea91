/- The reference's bits: FromUint, Put. The reference's bits: Valid, Pack, Bytes, Align. The reference of layer 30: Size, Valid, Framing. The reference of layer 30: Tail, Encode. -/
import Derived.Test.YtchlbpfeiamieaaUa
import Derived.Test.YtchlbpfeiamieaaMa
import Derived.Test.YtchlbpfeiamieaaDa
namespace Go.Proofs.Ytchlbpfeiamieaa
open Go.RowKit

theorem bvs_replicate (n : Nat) : (madeCells #[Value.int .u8 0] n).toList = bvs (List.replicate n 0) := by
  rw [toList_madeCells_one]
  simp [bvs, bv]
theorem bv_bit (x : Nat) : Value.int .u8 ((x : Int) % 2) = bv (bb (decide (x % 2 = 1))) := by
  unfold bv
  rw [bb_toNat]
  congr 1
  rcases Nat.mod_two_eq_zero_or_one x with h | h <;> simp [h] <;> omega

set_option maxRecDepth 100000 in
set_option maxHeartbeats 800000 in
theorem fromUint_ok (v n : Nat) (w : World) (hn : n ≤ 64) (hv : v < 2 ^ n) (hv64 : v < 18446744073709551616) :
    Calls Try.prog 139 #[.int .u64 v, .int .i64 n] w (GivesRowErr w.heap.size 5 w n (bvs (bbs (bitsOf v n))) 0) := by
  obtain ⟨i0, hi, hz0, hz1, hz2⟩ := info_parts u8_info
  have HV := Lib.hid hv
  clear hv
  have hd1 : decide ((n : Int) < 0) = false := by simp
  have hd2 : decide ((64 : Int) < n) = false := by simp; omega
  go_enter Try.func139, Try.ntmps139
  go_wp2_with (refine wpList_make_full _ rfl _ _ 29 rfl w.heap.size 5 i0 (.int .u8 0) 1 und29 hi hz0 hz1 .i64 .i64 _ _ n rfl rfl rfl rfl ?c1 ?c2 ?c3 ?_)
  case c1 => rw [hz2]; omega
  case c2 => unfold maxLen; omega
  case c3 => exact Nat.le_refl _
  intro w1 hown hgrow
  rw [bvs_replicate, ← fromTo_zero v n] at hown
  have hb1 : Below w.heap.size w w1 := (Below.refl _ w).grown hgrow (Nat.le_refl _) (by simp)
  go_wp2
  clear hd1 hd2
  go_loopw [0, 7] (fun vv i wr => ∃ k : Nat, k ≤ n ∧ i = .int .i64 ((n : Int) - 1 - k) ∧ vv = .int .u64 ((v / 2 ^ k : Nat) : Int) ∧ wr.ownsRow w.heap.size 5 1 (.slice (some ⟨w.heap.size, 0, none⟩) n n) n (bvs (fromTo v n k)) ∧ Below w.heap.size w wr) (fun _ i _ => (intOf i + 1).toNat)
  case atStart => exact ⟨0, Nat.zero_le _, by simp, by simp, hown, hb1⟩
  case round =>
    clear hown hb1 hgrow
    obtain ⟨k, hk, rfl, rfl, hown, hb⟩ := hrel
    by_cases hlt : k < n
    · obtain ⟨q, hq⟩ : ∃ q : Nat, n = q + k + 1 := ⟨n - 1 - k, by omega⟩
      have hqq : (n : Int) - 1 - k = (q : Int) := by omega
      rw [hqq]
      have hst := fun u => (hown.stored q u).1
      have hsb := fun u => hb.setCell (p := ⟨w.heap.size, q, none⟩) (Nat.le_refl _) u
      have hfr := hown.frozenAt q
      have hc := hown.cellAt q (by omega)
      obtain ⟨u0, hu0⟩ : ∃ u0, (bvs (fromTo v n k))[q]? = some u0 := ⟨_, List.getElem?_eq_getElem (by rw [bvs_length, fromTo_length v n k hk]; omega)⟩
      rw [hu0] at hc
      have hle : v / 2 ^ k ≤ v := Nat.div_le_self _ _
      have hfs := fromTo_succ v n k hlt
      have hdd : v / 2 ^ (k + 1) = v / 2 ^ k / 2 := by rw [Nat.pow_succ, Nat.div_div_eq_div_mul]
      have hvb := bv_bit (v / 2 ^ k)
      generalize v / 2 ^ k = x at *
      have HST := Lib.hid hst
      have HSB := Lib.hid hsb
      have HFS := Lib.hid hfs
      have HDD := Lib.hid hdd
      have HVB := Lib.hid hvb
      have HQ := Lib.hid hq
      clear hst hsb hfs hdd hvb hq hu0 hqq
      have hqn : q < n := by have := HQ.out; omega
      go_wp2
      go_roundw
      case rel =>
        refine ⟨k + 1, by omega, ?_, ?_, ?_, ?_⟩
        · have := HQ.out
          go_num
        · rw [HDD.out]
          go_num
        · rw [HFS.out, ← bvs_set, ← HVB.out, show n - 1 - k = q by have := HQ.out; omega]
          exact HST.out _
        · exact HSB.out _
      case measure => simp [intOf]
    · obtain rfl : k = n := by omega
      have h0 : v / 2 ^ k = 0 := Nat.div_eq_of_lt HV.out
      rw [h0]
      rw [fromTo_all] at hown
      clear h0
      go_wp2
      go_ret2
      exact ⟨_, rfl, hown, hb⟩

set_option maxHeartbeats 800000 in
theorem put_ok (A : Option Addr) (m c : Nat) (l : List UInt8) (v n : Nat) (w : World) (h : Sl w w.heap.size A m c (bvs l)) (hm : m ≤ 1000000000) (hn : n ≤ 64) (hv : v < 2 ^ n) (hv64 : v < 18446744073709551616) :
    Calls Try.prog 78 #[.slice A m c, .int .u64 v, .int .i64 n] w (GivesRowErr w.heap.size 5 w (m + n) (bvs (l ++ bbs (bitsOf v n))) 0) := by
  obtain ⟨i0, hi, hz0, hz1, hz2⟩ := info_parts u8_info
  have hf := fromUint_ok v n w hn hv hv64
  have HF := Lib.hid hf
  clear hf hv hv64
  go_enter Try.func78, Try.ntmps78
  go_wp2_with fail
  refine HF.out.mono ?_
  rintro e1 w1 ⟨v1, rfl, hv1, hb1⟩
  obtain ⟨A1, c1, rfl, hs1, _⟩ := own_sl hv1
  have hs := (h.below hb1).alloc hb1.size (.cells #[] 5)
  have hs1a := hs1.alloc (Nat.le_refl _) (.cells #[] 5)
  have hb2 := hb1.alloc hb1.size (.cells #[] 5)
  have hlit : (w1.alloc (.cells #[] 5)).ownsRow w1.heap.size 5 1 (.slice (some ⟨w1.heap.size, 0, none⟩) 0 0) 0 [] := World.ownsRow_lit w1 #[] 0 (Nat.le_refl _) (by unfold maxLen; omega) rfl
  clear HF h hs1 hv1
  go_wp2_with (at_builtin; refine wpList_append_sl _ rfl (.tmp 20) (.tmp 21) 29 rfl w1.heap.size 5 i0 (.int .u8 0) 1 und29 hi hz0 hz1 hz2 rfl _ 0 [] rfl hlit w.heap.size A m c (bvs l) rfl hs (one_bvs l) ?c3 ?c4 ?c5 ?_)
  case c3 => unfold maxLen; omega
  case c4 => omega
  case c5 => simp
  intro v2 w2 hown2 hgrow2 _
  have hs2 := hs1a.grown hgrow2 (by simp) (fun g e => by simp [Value.ownBlock] at e; omega)
  have hb3 := hb2.grown hgrow2 hb2.size (fun g e => by have := hb1.size; simp [Value.ownBlock] at e; omega)
  have hsz2 := hgrow2.size
  rw [World.size_alloc] at hsz2
  clear hs hs1a hb2 hgrow2 hlit
  go_wp2_with (at_builtin; refine wpList_append_sl _ rfl (.tmp 22) (.tmp 23) 29 rfl w1.heap.size 5 i0 (.int .u8 0) 1 und29 hi hz0 hz1 hz2 rfl _ m (bvs l) rfl hown2 w1.heap.size A1 n c1 _ rfl hs2 (one_bvs _) ?d3 ?d4 ?d5 ?_)
  case d3 => unfold maxLen; omega
  case d4 => omega
  case d5 => omega
  intro v3 w3 hown3 hgrow3 _
  have hb4 := hb3.grown hgrow3 hb3.size (fun g e => by have := hown2.lt g e; have := hb1.size; omega)
  go_wp2
  go_ret2
  refine ⟨_, rfl, own_base ?_ hb1.size, hb4⟩
  simpa [bvs] using hown3
end Go.Proofs.Ytchlbpfeiamieaa
namespace Go.Proofs.Ytchlbpfeiamieaa
open Go.RowKit

theorem bits_cell {w : World} {B n c : Nat} {A : Option Addr} {l : List Bool} (h : Sl w B A n c (bvs (bbs l))) {k : Nat} (hk : k < n) : ∃ ad b, A = some ad ∧ l[k]? = some b ∧ w.cell? (ad.add k) = some (.int .u8 ((b : Bool).toNat : Int)) := by
  obtain ⟨ad, u, e, _, hu, hc⟩ := h.get hk
  have hl : l.length = n := by simpa using h.len
  have hlk : l[k]? = some l[k] := List.getElem?_eq_getElem (by omega)
  refine ⟨ad, l[k], e, hlk, ?_⟩
  rw [hc, ← hu]
  simp only [bvs, List.getElem?_map, bbs_get l k _ hlk]
  simp only [Option.map_some, bv, bb_toNat]

theorem add_bit (x k : Nat) (h : x + 2 ^ (7 - k % 8) < 256) : Value.int .u8 (((x : Int) + 2 ^ (7 - k % 8)) % 256) = bv (UInt8.ofNat (x + 2 ^ (7 - k % 8))) := by
  unfold bv
  have e : ((x : Int) + 2 ^ (7 - k % 8)) = ((x + 2 ^ (7 - k % 8) : Nat) : Int) := by push_cast; rfl
  rw [e, UInt8.toNat_ofNat', Nat.mod_eq_of_lt h]
  generalize x + 2 ^ (7 - k % 8) = y at *
  rw [show (y : Int) % 256 = (y : Int) by omega]

set_option maxHeartbeats 400000 in
theorem bvalid_any (A : Option Addr) (n c B : Nat) (l : List Bool) (w : World) (h : Sl w B A n c (bvs (bbs l))) :
    Calls Try.prog 171 #[.slice A n c] w fun e w' => e = .returned (.bool true) ∧ w = w' := by
  have hcap := h.cap
  have hmx := h.mx
  go_enter Try.func171, Try.ntmps171
  go_wp2
  go_loop [3] (fun i => ∃ k : Nat, k ≤ n ∧ i = .int .i64 k) (fun i => n - (intOf i).toNat)
  case atStart => exact ⟨0, Nat.zero_le _, rfl⟩
  case round =>
    obtain ⟨k, hk, rfl⟩ := hrel
    by_cases hlt : k < n
    · obtain ⟨ad, b, rfl, _, hc⟩ := bits_cell h hlt
      have hb : b.toNat ≤ 1 := by cases b <;> simp
      generalize b.toNat = x at *
      go_wp2
      go_round
      case rel => exact ⟨k + 1, by omega, by go_num⟩
      case measure => simp [intOf]; omega
    · go_wp2
      go_ret
      exact ⟨rfl, rfl⟩

set_option maxRecDepth 100000 in
set_option maxHeartbeats 1000000 in
theorem pack_any (A : Option Addr) (n c : Nat) (l : List Bool) (w : World) (h : Sl w w.heap.size A n c (bvs (bbs l))) (hn : n ≤ 1000000000) :
    Calls Try.prog 168 #[.slice A n c] w (GivesRowErr w.heap.size 5 w (nbytes l.length) (bvs (pack l)) 0) := by
  obtain ⟨i0, hi, hz0, hz1, hz2⟩ := info_parts u8_info
  have hl : l.length = n := by simpa using h.len
  have hva := bvalid_any A n c _ l w h
  have HVA := Lib.hid hva
  have HL := Lib.hid hl
  have hN : nbytes l.length = (n + 7) / 8 := by unfold nbytes; rw [hl]
  obtain ⟨N, hNN⟩ : ∃ N : Nat, (n + 7) / 8 = N := ⟨_, rfl⟩
  rw [hNN] at hN
  have HN := Lib.hid hN
  have hNi : ((n : Int) + 7) / 8 = (N : Int) := by omega
  have hN8 : n ≤ 8 * N := by omega
  have hNs : N ≤ 1000000000 := by omega
  have hz := packTo_zero l
  rw [hN] at hz
  have HZ := Lib.hid hz
  rw [hN]
  clear hva hl hN hNN hz
  go_enter Try.func168, Try.ntmps168
  go_wp2_with fail
  refine HVA.out.mono ?_
  rintro e0 w0 ⟨rfl, rfl⟩
  clear HVA
  go_wp2_with (refine wpList_make_full _ rfl _ _ 29 rfl w.heap.size 5 i0 (.int .u8 0) 1 und29 hi hz0 hz1 .i64 .i64 _ _ N rfl rfl (by omega) (by omega) ?c1 ?c2 ?c3 ?_)
  case c1 => rw [hz2]; omega
  case c2 => unfold maxLen; omega
  case c3 => exact Nat.le_refl _
  intro w1 hown hgrow
  rw [bvs_replicate, ← HZ.out] at hown
  have hb1 : Below w.heap.size w w1 := (Below.refl _ w).grown hgrow (Nat.le_refl _) (by simp)
  clear hNi
  go_wp2
  go_loopw [5] (fun i wr => ∃ k : Nat, k ≤ n ∧ i = .int .i64 k ∧ wr.ownsRow w.heap.size 5 1 (.slice (some ⟨w.heap.size, 0, none⟩) N N) N (bvs (packTo l k)) ∧ Below w.heap.size w wr) (fun i _ => n - (intOf i).toNat)
  case atStart => exact ⟨0, Nat.zero_le _, rfl, hown, hb1⟩
  case round =>
    clear hown hb1 hgrow
    obtain ⟨k, hk, rfl, hown, hb⟩ := hrel
    by_cases hlt : k < n
    · obtain ⟨ad, b, rfl, hlk, hc⟩ := bits_cell (h.below hb) hlt
      cases b with
      | false =>
        have hp := packTo_no l k hlk
        have HP := Lib.hid hp
        clear hp hlk
        have hc' : wr.cell? (ad.add k) = some (.int .u8 0) := hc
        clear hc
        go_wp2
        go_roundw
        case rel => exact ⟨k + 1, by omega, by go_num, by rw [HP.out]; exact hown, hb⟩
        case measure => simp [intOf]; omega
      | true =>
        obtain ⟨hp, hlt256⟩ := packTo_yes l k hlk
        have HP := Lib.hid hp
        have hc' : wr.cell? (ad.add k) = some (.int .u8 1) := hc
        clear hp hlk hc
        have hq : k / 8 < N := by omega
        have hst := fun u => (hown.stored (k / 8) u).1
        have hsb := fun u => hb.setCell (p := ⟨w.heap.size, k / 8, none⟩) (Nat.le_refl _) u
        have hfr := hown.frozenAt (k / 8)
        have hcc := hown.cellAt (k / 8) (by omega)
        have hgt : (bvs (packTo l k))[k / 8]? = some (.int .u8 ((packN (l.take k) (k / 8) : Nat) : Int)) := by
          unfold bvs
          rw [List.getElem?_map, packTo_get l k (k / 8) (by rw [HN.out]; exact hq)]
          have := packN_lt (l.take k) (k / 8)
          simp [bv]
          omega
        rw [hgt] at hcc
        generalize packN (l.take k) (k / 8) = x at *
        have HST := Lib.hid hst
        have HSB := Lib.hid hsb
        clear hst hsb hgt
        have hkq : ((k : Int) / 8).toNat = k / 8 := by omega
        have hkq2 : (k : Int) / 8 < N := by omega
        go_wp2
        go_region
        go_wp2
        go_roundw
        case rel =>
          refine ⟨k + 1, by omega, by go_num, ?_, ?_⟩
          · rw [HP.out, ← bvs_set, ← add_bit x k hlt256]
            exact (HST.out _).drew'
          · exact (HSB.out _).drew
        case measure => simp [intOf]; omega
    · obtain rfl : k = n := by omega
      have hall := packTo_all l
      rw [HL.out] at hall
      rw [hall] at hown
      clear hall
      go_wp2
      go_ret2
      exact ⟨_, rfl, hown, hb⟩

/-- Bytes packs. -/
theorem rbytes_any (A : Option Addr) (n c : Nat) (l : List Bool) (w : World) (h : Sl w w.heap.size A n c (bvs (bbs l))) (hn : n ≤ 1000000000) :
    Calls Try.prog 140 #[.slice A n c] w (GivesRow w.heap.size 5 w (nbytes l.length) (bvs (pack l))) := by
  have hp := pack_any A n c l w h hn
  have HP := Lib.hid hp
  clear hp
  go_enter Try.func140, Try.ntmps140
  go_wp2_with fail
  refine HP.out.mono ?_
  rintro e0 w0 ⟨v0, rfl, hv0, hb0⟩
  go_wp2
  go_ret
  exact ⟨_, rfl, hv0, hb0⟩

set_option maxRecDepth 100000 in
set_option maxHeartbeats 1000000 in
/-- Align pads with zeros. -/
theorem ralign_any (A : Option Addr) (n c : Nat) (l : List Bool) (w : World) (h : Sl w w.heap.size A n c (bvs (bbs l))) (hn : n ≤ 100000000) :
    Calls Try.prog 141 #[.slice A n c] w (GivesRow w.heap.size 5 w (8 * nbytes l.length) (bvs (bbs (l ++ List.replicate (8 * nbytes l.length - l.length) false)))) := by
  obtain ⟨i0, hi, hz0, hz1, hz2⟩ := info_parts u8_info
  have hl : l.length = n := by simpa using h.len
  have hN : 8 * nbytes l.length = 8 * ((n + 7) / 8) := by unfold nbytes; rw [hl]
  rw [hN, hl]
  have hs := h.alloc (Nat.le_refl _) (.cells #[] 5)
  have hb2 := (Below.refl w.heap.size w).alloc (Nat.le_refl _) (.cells #[] 5)
  have hlit : (w.alloc (.cells #[] 5)).ownsRow w.heap.size 5 1 (.slice (some ⟨w.heap.size, 0, none⟩) 0 0) 0 [] := World.ownsRow_lit w #[] 0 (Nat.le_refl _) (by unfold maxLen; omega) rfl
  have hm2 : 8 * ((n + 7) / 8) = n + (8 * ((n + 7) / 8) - n) := by omega
  obtain ⟨M, hM⟩ : ∃ M, 8 * ((n + 7) / 8) - n = M := ⟨_, rfl⟩
  rw [hM] at hm2 ⊢
  rw [hm2]
  have hM8 : M < 8 := by omega
  have hMm : (n + M) % 8 = 0 := by omega
  have HMm := Lib.hid hMm
  clear hl hN hm2 hM hMm
  go_enter Try.func141, Try.ntmps141
  go_wp2_with (at_builtin; refine wpList_append_sl _ rfl (.tmp 4) (.tmp 5) 29 rfl w.heap.size 5 i0 (.int .u8 0) 1 und29 hi hz0 hz1 hz2 rfl _ 0 [] rfl hlit w.heap.size A n c (bvs (bbs l)) rfl hs (one_bvs _) ?c3 ?c4 ?c5 ?_)
  case c3 => unfold maxLen; omega
  case c4 => omega
  case c5 => simp
  intro v2 w2 hown2 hgrow2 _
  have hb3 := hb2.grown hgrow2 hb2.size (fun g e => by simp [Value.ownBlock] at e; omega)
  clear hs hb2 hgrow2 hlit h
  go_wp2
  go_loopw [3] (fun v wr => ∃ k : Nat, k ≤ M ∧ lenOfV v = n + k ∧ wr.ownsRow w.heap.size 5 1 v (n + k) (bvs (bbs (l ++ List.replicate k false))) ∧ Below w.heap.size w wr) (fun v _ => n + M - lenOfV v)
  case atStart => exact ⟨0, Nat.zero_le _, by simpa using lenOfV_own hown2, by simpa using hown2, hb3⟩
  case round =>
    clear hown2 hb3
    obtain ⟨k, hk, hlv, hown, hb⟩ := hrel
    obtain ⟨A3, c3, rfl, hs3, _⟩ := own_sl hown
    clear hlv
    by_cases hlt : k < M
    · have hmod : ((n : Int) + k) % 8 ≠ 0 := by have := HMm.out; omega
      have hpos : (0 : Int) < ((n : Int) + k) % 8 := by omega
      clear hmod
      have hrep : l ++ List.replicate (k + 1) false = (l ++ List.replicate k false) ++ [false] := by rw [List.replicate_succ', List.append_assoc]
      have HR := Lib.hid hrep
      clear hrep
      go_wp2_with (at_builtin; refine wpList_append_own _ rfl _ _ 29 rfl w.heap.size 5 i0 (.int .u8 0) 1 1 und29 hi hz0 hz1 hz2 rfl (by decide) _ _ _ rfl (hown.alloc _) ⟨wr.heap.size, 0, none⟩ 1 1 [.int .u8 0] rfl rfl ?d1 ?d2 ?d3 ?d4 ?d5 ?_)
      case d1 => exact cell_one_new _ _ _
      case d2 => simp [Value.oneCell']
      case d3 => unfold maxLen; omega
      case d4 => omega
      case d5 => have := hb.size; simp; omega
      intro v4 w4 hown4 hgrow4 _
      have hb4 := (hb.alloc hb.size (.cells #[.int .u8 0] 5)).grown hgrow4 (by have := hb.size; simp; omega) (fun j hj => (hown.lt j hj).1)
      go_wp2
      go_roundw
      case rel => exact ⟨k + 1, by omega, lenOfV_own hown4, by rw [HR.out, bbs_append, ← Nat.add_assoc]; simpa [bvs, bbs, bb, bv] using hown4, hb4⟩
      case measure => have e := lenOfV_own hown4; show n + M - lenOfV v4 < n + M - (n + k); omega
    · obtain rfl : k = M := by omega
      have hmod : ((n : Int) + k) % 8 = 0 := by have := HMm.out; omega
      go_wp2
      go_ret
      exact ⟨_, rfl, hown, hb⟩
end Go.Proofs.Ytchlbpfeiamieaa
namespace Go.Proofs.Ytchlbpfeiamieaa
open Go.RowKit

theorem sumLen_bound (ps : List (List UInt8)) (M : Nat) (h : ∀ p ∈ ps, p.length ≤ M) : sumLen ps ≤ M * ps.length := by
  induction ps with
  | nil => simp [sumLen]
  | cons p ps ih =>
    have h1 := h p (by simp)
    have h2 := ih (fun q hq => h q (by simp [hq]))
    unfold sumLen at h2 ⊢
    rw [List.map_cons, List.sum_cons, List.length_cons, Nat.mul_succ]
    omega

/-- a call answers a number and keeps what lay -/
def Numbers (x : Int) (w : World) (e : Ending) (w' : World) : Prop := e = .returned (.int .i64 x) ∧ Below w.heap.size w w'

set_option maxHeartbeats 400000 in
theorem rsize_any (s e : Bool) (A : Option Addr) (n c : Nat) (vs : List Value) (ps : List (List UInt8)) (w : World) (h : Sls w w.heap.size A n c vs ps) (hn : n ≤ 1048576) (hle : ∀ p ∈ ps, p.length ≤ 1099511627776) :
    Calls Try.prog 55 #[.agg #[.bool s, .bool e, .slice A n c]] w (Numbers (sumLen ps) w) := by
  have HL := Lib.hid h.len
  have hA := h.alloc (Nat.le_refl _) (.cells #[.bool s, .bool e, .slice A n c] 24)
  have hsum : sumLen ps ≤ 1152921504606846976 := by
    have := sumLen_bound ps _ hle
    have h2 := HL.out
    have : 1099511627776 * ps.length ≤ 1099511627776 * 1048576 := Nat.mul_le_mul_left _ (by omega)
    omega
  have HSM := Lib.hid hsum
  clear hle hsum
  go_enter Try.func55, Try.ntmps55
  go_wp2
  go_loop [3, 4] (fun t i => ∃ k : Nat, k ≤ n ∧ i = .int .i64 k ∧ t = .int .i64 (sumLen (ps.take k))) (fun _ i => n - (intOf i).toNat)
  case atStart => exact ⟨0, Nat.zero_le _, rfl, rfl⟩
  case round =>
    obtain ⟨k, hk, rfl, rfl⟩ := hrel
    by_cases hlt : k < n
    · obtain ⟨ad, Ai, ci, rfl, hb, hc, hsl⟩ := hA.get hlt
      have hs1 := sumLen_take ps k (by rw [HL.out]; exact hlt)
      have hle1 := Nat.le_trans (sumLen_take_le ps (k + 1)) HSM.out
      generalize ps[k]?.getD [] = p at *
      generalize sumLen (List.take k ps) = S at *
      have hle2 : S + p.length ≤ 1152921504606846976 := by omega
      have HS := Lib.hid hs1
      clear hs1 hle1
      go_wp2
      go_round
      case rel => exact ⟨k + 1, by omega, by go_num, by rw [HS.out]; go_num⟩
      case measure => simp [intOf]; omega
    · have e : ps.take k = ps := List.take_of_length_le (by rw [HL.out]; omega)
      rw [e]
      clear e
      go_wp2
      go_ret
      exact ⟨rfl, (Below.refl _ _).alloc (Nat.le_refl _) _⟩

/-- the first k parts are as they must be -/
def partsOk (ps : List (List UInt8)) (k : Nat) : Prop := ∀ i, i < k → 1 ≤ (ps[i]?.getD []).length ∧ (i + 1 < ps.length → (ps[i]?.getD []).length ≤ 2047)
theorem validB_end (ps : List (List UInt8)) (h1 : 1 ≤ ps.length) (h2 : ps.length ≤ 64) (h : partsOk ps ps.length) : validB ps = decide (sumLen ps ≤ 32767) := by
  rw [Bool.eq_iff_iff, validB_iff]
  simp only [decide_eq_true_eq]
  constructor
  · exact fun hv => hv.sum
  · intro hs
    refine ⟨h1, h2, fun p hp => ?_, fun i hi => (h i (by omega)).2 hi, hs⟩
    obtain ⟨i, hi, rfl⟩ := List.mem_iff_getElem.1 hp
    have := (h i hi).1
    rwa [List.getElem?_eq_getElem hi] at this
theorem validB_no (ps : List (List UInt8)) (k : Nat) (hk : k < ps.length) (h : (ps[k]?.getD []).length < 1 ∨ 32767 < (ps[k]?.getD []).length ∨ (k + 1 < ps.length ∧ 2047 < (ps[k]?.getD []).length)) : validB ps = false := by
  rw [← Bool.not_eq_true, validB_iff]
  intro hv
  have hm : ps[k]?.getD [] ∈ ps := by rw [List.getElem?_eq_getElem hk]; exact List.getElem_mem hk
  have h1 := hv.pos _ hm
  have h2 := mem_le_sumLen hm
  have h3 := hv.sum
  rcases h with h | h | ⟨h, h'⟩
  · omega
  · omega
  · have := hv.short k h; omega
theorem partsOk_succ (ps : List (List UInt8)) (k : Nat) (h : partsOk ps k) (h1 : 1 ≤ (ps[k]?.getD []).length) (h2 : k + 1 < ps.length → (ps[k]?.getD []).length ≤ 2047) : partsOk ps (k + 1) := fun i hi => by
  rcases Nat.lt_or_ge i k with hk | hk
  · exact h i hk
  · obtain rfl : i = k := by omega
    exact ⟨h1, h2⟩
/-- a call answers b and keeps what lay -/
def Tells' (b : Bool) (w : World) (e : Ending) (w' : World) : Prop := e = .returned (.bool b) ∧ Below w.heap.size w w'

set_option maxHeartbeats 1600000 in
theorem rvalid_any (s e : Bool) (A : Option Addr) (n c : Nat) (vs : List Value) (ps : List (List UInt8)) (w : World) (h : Sls w w.heap.size A n c vs ps) (hn : n ≤ 1048576) (hle : ∀ p ∈ ps, p.length ≤ 1099511627776) :
    Calls Try.prog 77 #[.agg #[.bool s, .bool e, .slice A n c]] w (Tells' (validB ps) w) := by
  have HL := Lib.hid h.len
  have hB := (Below.refl w.heap.size w).alloc (Nat.le_refl _) (.cells #[.bool s, .bool e, .slice A n c] 24)
  have hA := (h.below hB).more hB.size
  have hsz := rsize_any s e A n c vs ps _ hA hn hle
  have hcap := h.sl.cap
  have hmx := h.sl.mx
  obtain ⟨r, hr⟩ : ∃ r, validB ps = r := ⟨_, rfl⟩
  rw [hr]
  have HR := Lib.hid hr
  have HZ := Lib.hid hsz
  have HB := Lib.hid hB
  clear hr hle hsz hB
  by_cases h0 : n < 1
  · have hrf : r = false := by rw [← HR.out, ← Bool.not_eq_true, validB_iff]; intro hv; have := hv.lo; have := HL.out; omega
    subst hrf
    go_enter Try.func77, Try.ntmps77
    go_wp2
    go_ret
    exact ⟨rfl, HB.out⟩
  by_cases h64 : 64 < n
  · have hrf : r = false := by rw [← HR.out, ← Bool.not_eq_true, validB_iff]; intro hv; have := hv.hi; have := HL.out; omega
    subst hrf
    go_enter Try.func77, Try.ntmps77
    go_wp2
    go_ret
    exact ⟨rfl, HB.out⟩
  have hd1 : decide ((n : Int) < 1) = false := by simp; omega
  have hd2 : decide ((64 : Int) < n) = false := by simp; omega
  go_enter Try.func77, Try.ntmps77
  go_wp2
  clear hd1 hd2
  go_loop [3] (fun i => ∃ k : Nat, k ≤ n ∧ i = .int .i64 k ∧ Hid (partsOk ps k)) (fun i => n - (intOf i).toNat)
  case atStart => exact ⟨0, Nat.zero_le _, rfl, Lib.hid (fun i hi => absurd hi (by omega))⟩
  case round =>
    obtain ⟨k, hk, rfl, HK⟩ := hrel
    by_cases hlt : k < n
    · obtain ⟨ad, Ai, ci, rfl, hb, hc, hsl⟩ := hA.get hlt
      have hno := validB_no ps k (by rw [HL.out]; exact hlt)
      have hsu := partsOk_succ ps k HK.out
      rw [HL.out] at hno hsu
      have hpm : (ps[k]?.getD []).length ≤ 9223372036854775807 := by have := hsl.cap; have := hsl.mx; omega
      generalize ps[k]?.getD [] = p at *
      have HNO := Lib.hid hno
      have HSU := Lib.hid hsu
      clear hno hsu
      by_cases h1 : p.length < 1
      · have hrf : r = false := by rw [← HR.out]; exact HNO.out (.inl h1)
        subst hrf
        go_wp2
        go_ret
        exact ⟨rfl, HB.out⟩
      by_cases h2 : 32767 < p.length
      · have hrf : r = false := by rw [← HR.out]; exact HNO.out (.inr (.inl h2))
        subst hrf
        go_wp2
        go_ret
        exact ⟨rfl, HB.out⟩
      by_cases h3 : k + 1 < n
      · by_cases h4 : 2047 < p.length
        · have hrf : r = false := by rw [← HR.out]; exact HNO.out (.inr (.inr ⟨h3, h4⟩))
          subst hrf
          have h3' : (k : Int) < (n : Int) - 1 := by omega
          go_wp2
          go_ret
          exact ⟨rfl, HB.out⟩
        · have h3' : (k : Int) < (n : Int) - 1 := by omega
          go_wp2
          go_round
          case rel => exact ⟨k + 1, by omega, by go_num, Lib.hid (HSU.out (by omega) (fun _ => by omega))⟩
          case measure => simp [intOf]; omega
      · have h3' : ¬ (k : Int) < (n : Int) - 1 := by omega
        go_wp2
        go_round
        case rel => exact ⟨k + 1, by omega, by go_num, Lib.hid (HSU.out (by omega) (fun h => absurd h h3))⟩
        case measure => simp [intOf]; omega
    · have hfin : r = decide (sumLen ps ≤ 32767) := by
        rw [← HR.out]
        have e := HL.out
        exact validB_end ps (by omega) (by omega) (by have := HK.out; rw [e, ← show k = n by omega]; exact this)
      have hd : decide ((sumLen ps : Int) ≤ 32767) = r := by rw [hfin, Bool.eq_iff_iff]; simp; omega
      clear hfin
      go_wp2_with (go_at_call 55; refine HZ.out.mono ?_; rintro e1 w1 ⟨rfl, hb1⟩)
      go_ret
      exact ⟨rfl, HB.out.trans (hb1.mono HB.out.size)⟩

set_option maxHeartbeats 800000 in
theorem framing_any (s e : Bool) (A : Option Addr) (n c : Nat) (w : World) :
    Calls Try.prog 79 #[.agg #[.bool s, .bool e, .slice A n c]] w fun e' w' => e' = .returned (.int .u64 (framN s e n)) ∧ w.alloc (.cells #[.bool s, .bool e, .slice A n c] 24) = w' := by
  have hf : framN s e n = 4 * (!s).toNat + 2 * (!e).toNat + (decide (1 < n)).toNat := rfl
  have HF := Lib.hid hf
  clear hf
  by_cases h1 : 1 < n
  · have hd : decide (1 < n) = true := by simpa using h1
    rw [hd] at HF
    clear hd
    generalize framN s e n = F at *
    cases s <;> cases e <;> (
      go_enter Try.func79, Try.ntmps79
      go_wp2
      go_ret
      exact ⟨by rw [HF.out]; rfl, rfl⟩)
  · have hd : decide (1 < n) = false := by simpa using h1
    rw [hd] at HF
    clear hd
    generalize framN s e n = F at *
    cases s <;> cases e <;> (
      go_enter Try.func79, Try.ntmps79
      go_wp2
      go_ret
      exact ⟨by rw [HF.out]; rfl, rfl⟩)
end Go.Proofs.Ytchlbpfeiamieaa
namespace Go.Proofs.Ytchlbpfeiamieaa
open Go.RowKit

theorem lenBits_step (ps : List (List UInt8)) (k : Nat) (p : List UInt8) (hp : ps[k]?.getD [] = p) (L : List Bool) : bbs (L ++ lenBits ps (k + 1)) = bbs (L ++ lenBits ps k) ++ bbs (bitsOf (decide (k + 2 < ps.length)).toNat 1) ++ bbs (bitsOf p.length 11) := by
  rw [lenBits_succ]
  unfold lenField
  rw [hp]
  simp [fieldBits, bbs]

set_option maxRecDepth 100000 in
set_option maxHeartbeats 2000000 in
theorem tail_ok (A0 : Option Addr) (m c0 : Nat) (L : List Bool) (s e : Bool) (A : Option Addr) (n c : Nat) (vs : List Value) (ps : List (List UInt8)) (w : World) (h0 : Sl w w.heap.size A0 m c0 (bvs (bbs L))) (hm : m ≤ 1000) (h : Sls w w.heap.size A n c vs ps) (hv : validB ps = true) :
    Calls Try.prog 80 #[.slice A0 m c0, .agg #[.bool s, .bool e, .slice A n c]] w (GivesRow w.heap.size 5 w (pack (L ++ lenBits ps (n - 1)) ++ ps.flatten).length (bvs (pack (L ++ lenBits ps (n - 1)) ++ ps.flatten))) := by
  obtain ⟨i0, hi, hz0, hz1, hz2⟩ := info_parts u8_info
  obtain ⟨hlo, hhi, hpos, hshort, hsum⟩ := (validB_iff ps).1 hv
  have hlen := h.len
  have HL := Lib.hid hlen
  have HS := Lib.hid hshort
  have HSM := Lib.hid hsum
  have hLm : L.length = m := by have := h0.len; simpa using this
  have HLm := Lib.hid hLm
  obtain ⟨N, hN⟩ : ∃ N, n = N + 1 := ⟨n - 1, by omega⟩
  subst hN
  have hN63 : N ≤ 63 := by omega
  rw [show N + 1 - 1 = N by omega]
  have hB := (Below.refl w.heap.size w).alloc (Nat.le_refl _) (.cells #[.bool s, .bool e, .slice A (N + 1) c] 24)
  have hA := (h.below hB).more hB.size
  have h0' := (h0.below hB).more hB.size
  have bx := Blk.new w 24 #[.bool s, .bool e, .slice A (N + 1) c]
  have HB := Lib.hid hB
  clear hlo hhi hpos hshort hlen hsum hv hLm h h0 hB
  go_enter Try.func80, Try.ntmps80
  go_wp2
  generalize hw1 : w.alloc (.cells #[.bool s, .bool e, .slice A (N + 1) c] 24) = w1 at *
  have hsz1 : w1.heap.size = w.heap.size + 1 := by rw [← hw1]; simp
  have HSZ := Lib.hid hsz1
  clear hsz1 hw1
  go_loopw [0, 5] (fun v i wr => ∃ k : Nat, k ≤ N ∧ i = .int .i64 k ∧ (∃ Ab cb, v = .slice Ab (m + 12 * k) cb ∧ Sl wr wr.heap.size Ab (m + 12 * k) cb (bvs (bbs (L ++ lenBits ps k)))) ∧ Below w1.heap.size w1 wr) (fun _ i _ => N - (intOf i).toNat)
  case atStart => exact ⟨0, Nat.zero_le _, rfl, ⟨_, _, rfl, by simpa [lenBits] using h0'⟩, Below.refl _ _⟩
  case round =>
    clear h0'
    obtain ⟨k, hk, rfl, ⟨Ab, cb, rfl, hbits⟩, hb⟩ := hrel
    have bxk := bx.below hb bx.lt
    have x2 := bxk.cell 2
    simp at x2
    by_cases hlt : k < N
    · have hAk := (hA.below hb)
      obtain ⟨ad, Ai, ci, rfl, hbk, hc, hsl⟩ := hAk.get (k := k) (by omega)
      have hp := HS.out k (by rw [HL.out]; omega)
      have hst := fun p hp => lenBits_step ps k p hp L
      rw [HL.out] at hst
      obtain ⟨p, hpp⟩ : ∃ p, ps[k]?.getD [] = p := ⟨_, rfl⟩
      replace hst := hst p hpp
      rw [hpp] at hp hc
      clear hsl hpp
      obtain ⟨d, hd⟩ : ∃ d : Bool, decide (k + 2 < N + 1) = d := ⟨_, rfl⟩
      rw [hd] at hst
      have HST := Lib.hid hst
      have HD := Lib.hid hd
      clear hst hd
      have hd1 : d.toNat < 2 ^ 1 := by cases d <;> simp
      have hput := put_ok Ab (m + 12 * k) cb (bbs (L ++ lenBits ps k)) d.toNat 1 wr hbits (by omega) (by omega) hd1 (by omega)
      have HPut := Lib.hid hput
      have hwp : IntKind.u64.wrap (p.length : Int) = p.length := by rw [IntKind.wrap_u64]; omega
      clear hput hbits
      cases d
      all_goals
        first
          | have h2 : k + 2 < N + 1 := by simpa using HD.out
          | have h2 : ¬ k + 2 < N + 1 := by simpa using HD.out
        go_wp2_with fail
        refine HPut.out.mono ?_
        rintro e1 w2 ⟨v2, rfl, hv2, hb2⟩
        obtain ⟨A2, c2, rfl, hs2, _⟩ := own_sl hv2
        have hb12 := hb.trans (hb2.mono hb.size)
        have hc' := (hb2.cell (p := ad.add k) (by rw [block_add]; have := hb.size; omega)).trans hc
        have x2' := (hb2.cell (p := ⟨w.heap.size, 2, none⟩) (by have := hb.size; have := HSZ.out; simp; omega)).trans x2
        have hput2 := put_ok A2 _ c2 _ p.length 11 w2 hs2 (by omega) (by omega) (by omega) (by omega)
        have HPut2 := Lib.hid hput2
        clear hput2 HPut hs2 hc x2 hv2
        go_wp2_with fail
        refine HPut2.out.mono ?_
        rintro e3 w3 ⟨v3, rfl, hv3, hb3⟩
        obtain ⟨A3, c3, rfl, hs3, _⟩ := own_sl hv3
        rw [← HST.out] at hs3
        have hb13 := hb12.trans (hb3.mono hb12.size)
        clear HPut2 hv3 hc' x2' hb2 hb3 hb12
        go_wp2
        go_roundw
        case rel => exact ⟨k + 1, by omega, by go_num, ⟨A3, c3, by rw [show m + 12 * (k + 1) = m + 12 * k + 1 + 11 by omega], by rw [show m + 12 * (k + 1) = m + 12 * k + 1 + 11 by omega]; exact hs3⟩, hb13⟩
        case measure => simp [intOf]; omega
    · obtain rfl : k = N := by omega
      have hLl : (L ++ lenBits ps k).length = m + 12 * k := by rw [List.length_append, lenBits_length, HLm.out]
      have hal := ralign_any Ab (m + 12 * k) cb (L ++ lenBits ps k) wr hbits (by omega)
      have hpk := pack_pad (L ++ lenBits ps k) (8 * nbytes (L ++ lenBits ps k).length - (L ++ lenBits ps k).length) (by unfold nbytes; omega)
      have hpl : (pack (L ++ lenBits ps k)).length ≤ 1000 := by rw [pack_length, hLl]; unfold nbytes; omega
      have hpn : nbytes (L ++ lenBits ps k ++ List.replicate (8 * nbytes (L ++ lenBits ps k).length - (L ++ lenBits ps k).length) false).length = (pack (L ++ lenBits ps k)).length := by
        rw [← pack_length, hpk]
      have hl8 : 8 * nbytes (L ++ lenBits ps k).length ≤ 100000 := by rw [hLl]; unfold nbytes; omega
      generalize (L ++ lenBits ps k) ++ List.replicate (8 * nbytes (L ++ lenBits ps k).length - (L ++ lenBits ps k).length) false = L2 at *
      generalize 8 * nbytes (L ++ lenBits ps k).length = M8 at *
      generalize pack (L ++ lenBits ps k) = PK at *
      have HAL := Lib.hid hal
      have HPK := Lib.hid hpk
      have HPN := Lib.hid hpn
      clear hal hpk hLl hbits hlt hk hpn
      go_wp2_with fail
      refine HAL.out.mono ?_
      rintro e2 w2 ⟨v2, rfl, hv2, hb2⟩
      obtain ⟨A2, c2, rfl, hs2, _⟩ := own_sl hv2
      have hby := rbytes_any A2 M8 c2 L2 w2 hs2 (by omega)
      rw [HPK.out, HPN.out] at hby
      have HBY := Lib.hid hby
      have hb12 := hb.trans (hb2.mono hb.size)
      clear hby HAL hs2 hv2 hb2
      go_wp2_with fail
      refine HBY.out.mono ?_
      rintro e3 w3 ⟨v3, rfl, hv3, hb3⟩
      have hb13 := hb12.trans (hb3.mono hb12.size)
      have hv3' := own_base hv3 (show w.heap.size ≤ w2.heap.size by have := hb12.size; have := HSZ.out; omega)
      have hob : ∀ g, v3.ownBlock = some g → w1.heap.size ≤ g := fun g hg => by have := (hv3.lt g hg).1; have := hb12.size; omega
      have hv31 := own_base hv3 hb12.size
      clear HBY hb12 hb3 hv3 hb x2 bxk hob hv3'
      have hb := hb13
      clear hb13
      go_wp2
      go_loopw [7, 8] (fun v i wr => ∃ j : Nat, j ≤ k + 1 ∧ i = .int .i64 j ∧ wr.ownsRow w1.heap.size 5 1 v (PK.length + sumLen (ps.take j)) (bvs (PK ++ (ps.take j).flatten)) ∧ Below w1.heap.size w1 wr) (fun _ i _ => k + 1 - (intOf i).toNat)
      case atStart => exact ⟨0, Nat.zero_le _, rfl, by simpa [sumLen] using hv31, hb⟩
      case round =>
        clear hv31 hb
        obtain ⟨j, hj, rfl, hown, hb⟩ := hrel
        have bxk := bx.below hb bx.lt
        have x2 := bxk.cell 2
        simp at x2
        by_cases hlt : j < k + 1
        · obtain ⟨ad, Ai, ci, rfl, hbk, hc, hsl⟩ := (hA.below hb).get hlt
          have hs1 := sumLen_take ps j (by rw [HL.out]; exact hlt)
          have hf1 := flatten_take ps j (by rw [HL.out]; exact hlt)
          have hle1 := Nat.le_trans (sumLen_take_le ps (j + 1)) HSM.out
          generalize ps[j]?.getD [] = p at *
          generalize sumLen (List.take j ps) = S1 at *
          generalize (List.take j ps).flatten = F1 at *
          have hle2 : S1 + p.length ≤ 32767 := by omega
          have HS1 := Lib.hid hs1
          have HF1 := Lib.hid hf1
          clear hs1 hle1 hf1
          go_wp2_with (at_builtin; refine wpList_append_sl _ rfl _ _ 29 rfl w1.heap.size 5 i0 (.int .u8 0) 1 und29 hi hz0 hz1 hz2 rfl _ (PK.length + S1) (bvs (PK ++ F1)) rfl hown w1.heap.size Ai p.length ci (bvs p) rfl hsl (one_bvs p) ?c3 ?c4 ?c5 ?_)
          case c3 => unfold maxLen; omega
          case c4 => omega
          case c5 => exact hb.size
          intro v' w4 hown' hgrow _
          have hb4 := hb.grown hgrow hb.size (fun q hq => (hown.lt q hq).1)
          go_wp2
          go_roundw
          case rel => exact ⟨j + 1, by omega, by go_num, by rw [HS1.out, HF1.out, ← Nat.add_assoc]; simpa [bvs] using hown', hb4⟩
          case measure => simp [intOf]; omega
        · have e : ps.take j = ps := List.take_of_length_le (by rw [HL.out]; omega)
          rw [e] at hown
          clear e
          go_wp2
          go_ret
          refine ⟨_, rfl, ?_, HB.out.trans (hb.mono HB.out.size)⟩
          rw [List.length_append, flatten_length]
          exact own_base hown HB.out.size

set_option maxRecDepth 100000 in
set_option maxHeartbeats 2000000 in
theorem rencode_bad (sn : Int) (s e : Bool) (A : Option Addr) (n c : Nat) (vs : List Value) (ps : List (List UInt8)) (w : World) (h : Sls w w.heap.size A n c vs ps) (hn : n ≤ 1048576) (hle : ∀ p ∈ ps, p.length ≤ 1099511627776)
    (hbad : sn < 0 ∨ 1023 < sn ∨ validB ps = false) :
    Calls Try.prog 20 #[.agg #[.int .i64 sn, .bool s, .bool e, .slice A n c]] w (GivesRowErr w.heap.size 5 w 0 [] 2) := by
  have hB := (Below.refl w.heap.size w).alloc (Nat.le_refl _) (.cells #[.int .i64 sn, .bool s, .bool e, .slice A n c] 26)
  have hv := rvalid_any s e A n c vs ps _ ((h.below hB).more hB.size) hn hle
  have HB := Lib.hid hB
  have HV := Lib.hid hv
  clear hB hv hle
  by_cases h1 : sn < 0
  · clear hbad
    go_enter Try.func20, Try.ntmps20
    go_wp2
    go_ret2
    exact ⟨_, rfl, World.ownsRow_nil _ _ _ _, HB.out⟩
  · by_cases h2 : 1023 < sn
    · clear hbad
      go_enter Try.func20, Try.ntmps20
      go_wp2
      go_ret2
      exact ⟨_, rfl, World.ownsRow_nil _ _ _ _, HB.out⟩
    · have h3 : validB ps = false := by rcases hbad with h | h | h; omega; omega; exact h
      rw [h3] at HV
      clear hbad h3
      go_enter Try.func20, Try.ntmps20
      go_wp2_with (go_at_call 77; refine HV.out.mono ?_; rintro e w' ⟨rfl, hb⟩)
      go_ret2
      exact ⟨_, rfl, World.ownsRow_nil _ _ _ _, HB.out.trans (hb.mono HB.out.size)⟩
theorem encU_ref (sn : Nat) (s e : Bool) (ps : List (List UInt8)) : encU sn s e ps = pack (bitsOf 0 3 ++ bitsOf (framN s e ps.length) 3 ++ bitsOf sn 10 ++ lenBits ps (ps.length - 1)) ++ ps.flatten := by
  have hh : fieldBits (umHead sn s e ps.length) = bitsOf 0 3 ++ bitsOf (framN s e ps.length) 3 ++ bitsOf sn 10 := by
    have h3 : fieldBits [((!s).toNat, 1), ((!e).toNat, 1), ((decide (1 < ps.length)).toNat, 1)] = bitsOf (framN s e ps.length) 3 := by
      unfold framN
      generalize decide (1 < ps.length) = d
      cases s <;> cases e <;> cases d <;> decide
    rw [← h3]
    simp [fieldBits, umHead]
  unfold encU
  rw [hh]
end Go.Proofs.Ytchlbpfeiamieaa
