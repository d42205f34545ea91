/- The reference's bits: Valid, Pack, Bytes, Align. -/
import Derived.Test.YtchlbpfeiamieaaX1
import Derived.Test.YtchlbpfeiamieaaD0
namespace Go.Proofs.Ytchlbpfeiamieaa
open Go.RowKit

theorem bits_cell {w : World} {B n c : Nat} {A : Option Addr} {l : List Bool} (h : Sl w B A n c (bvs (bbs l))) {k : Nat} (hk : k < n) : ∃ ad b, A = some ad ∧ l[k]? = some b ∧ w.cell? (ad.add k) = some (.int .u8 ((b : Bool).toNat : Int)) := by
  obtain ⟨ad, u, e, _, hu, hc⟩ := h.get hk
  have hl : l.length = n := by simpa using h.len
  have hlk : l[k]? = some l[k] := List.getElem?_eq_getElem (by omega)
  refine ⟨ad, l[k], e, hlk, ?_⟩
  rw [hc, ← hu]
  simp only [bvs, List.getElem?_map, bbs_get l k _ hlk]
  simp only [Option.map_some, bv, bb_toNat]

theorem add_bit (x k : Nat) (h : x + 2 ^ (7 - k % 8) < 256) : Value.int .u8 (((x : Int) + 2 ^ (7 - k % 8)) % 256) = bv (UInt8.ofNat (x + 2 ^ (7 - k % 8))) := by
  unfold bv
  have e : ((x : Int) + 2 ^ (7 - k % 8)) = ((x + 2 ^ (7 - k % 8) : Nat) : Int) := by push_cast; rfl
  rw [e, UInt8.toNat_ofNat', Nat.mod_eq_of_lt h]
  generalize x + 2 ^ (7 - k % 8) = y at *
  rw [show (y : Int) % 256 = (y : Int) by omega]

set_option maxHeartbeats 400000 in
theorem bvalid_any (A : Option Addr) (n c B : Nat) (l : List Bool) (w : World) (h : Sl w B A n c (bvs (bbs l))) :
    Calls Try.prog 171 #[.slice A n c] w fun e w' => e = .returned (.bool true) ∧ w = w' := by
  have hcap := h.cap
  have hmx := h.mx
  go_enter Try.func171, Try.ntmps171
  go_wp2
  go_loop [3] (fun i => ∃ k : Nat, k ≤ n ∧ i = .int .i64 k) (fun i => n - (intOf i).toNat)
  case atStart => exact ⟨0, Nat.zero_le _, rfl⟩
  case round =>
    obtain ⟨k, hk, rfl⟩ := hrel
    by_cases hlt : k < n
    · obtain ⟨ad, b, rfl, _, hc⟩ := bits_cell h hlt
      have hb : b.toNat ≤ 1 := by cases b <;> simp
      generalize b.toNat = x at *
      go_wp2
      go_round
      case rel => exact ⟨k + 1, by omega, by go_num⟩
      case measure => simp [intOf]; omega
    · go_wp2
      go_ret
      exact ⟨rfl, rfl⟩

set_option maxRecDepth 100000 in
set_option maxHeartbeats 1000000 in
theorem pack_any (A : Option Addr) (n c : Nat) (l : List Bool) (w : World) (h : Sl w w.heap.size A n c (bvs (bbs l))) (hn : n ≤ 1000000000) :
    Calls Try.prog 168 #[.slice A n c] w (GivesRowErr w.heap.size 5 w (nbytes l.length) (bvs (pack l)) 0) := by
  obtain ⟨i0, hi, hz0, hz1, hz2⟩ := info_parts u8_info
  have hl : l.length = n := by simpa using h.len
  have hva := bvalid_any A n c _ l w h
  have HVA := Lib.hid hva
  have HL := Lib.hid hl
  have hN : nbytes l.length = (n + 7) / 8 := by unfold nbytes; rw [hl]
  obtain ⟨N, hNN⟩ : ∃ N : Nat, (n + 7) / 8 = N := ⟨_, rfl⟩
  rw [hNN] at hN
  have HN := Lib.hid hN
  have hNi : ((n : Int) + 7) / 8 = (N : Int) := by omega
  have hN8 : n ≤ 8 * N := by omega
  have hNs : N ≤ 1000000000 := by omega
  have hz := packTo_zero l
  rw [hN] at hz
  have HZ := Lib.hid hz
  rw [hN]
  clear hva hl hN hNN hz
  go_enter Try.func168, Try.ntmps168
  go_wp2_with fail
  refine HVA.out.mono ?_
  rintro e0 w0 ⟨rfl, rfl⟩
  clear HVA
  go_wp2_with (refine wpList_make_full _ rfl _ _ 29 rfl w.heap.size 5 i0 (.int .u8 0) 1 und29 hi hz0 hz1 .i64 .i64 _ _ N rfl rfl (by omega) (by omega) ?c1 ?c2 ?c3 ?_)
  case c1 => rw [hz2]; omega
  case c2 => unfold maxLen; omega
  case c3 => exact Nat.le_refl _
  intro w1 hown hgrow
  rw [bvs_replicate, ← HZ.out] at hown
  have hb1 : Below w.heap.size w w1 := (Below.refl _ w).grown hgrow (Nat.le_refl _) (by simp)
  clear hNi
  go_wp2
  go_loopw [5] (fun i wr => ∃ k : Nat, k ≤ n ∧ i = .int .i64 k ∧ wr.ownsRow w.heap.size 5 1 (.slice (some ⟨w.heap.size, 0, none⟩) N N) N (bvs (packTo l k)) ∧ Below w.heap.size w wr) (fun i _ => n - (intOf i).toNat)
  case atStart => exact ⟨0, Nat.zero_le _, rfl, hown, hb1⟩
  case round =>
    clear hown hb1 hgrow
    obtain ⟨k, hk, rfl, hown, hb⟩ := hrel
    by_cases hlt : k < n
    · obtain ⟨ad, b, rfl, hlk, hc⟩ := bits_cell (h.below hb) hlt
      cases b with
      | false =>
        have hp := packTo_no l k hlk
        have HP := Lib.hid hp
        clear hp hlk
        have hc' : wr.cell? (ad.add k) = some (.int .u8 0) := hc
        clear hc
        go_wp2
        go_roundw
        case rel => exact ⟨k + 1, by omega, by go_num, by rw [HP.out]; exact hown, hb⟩
        case measure => simp [intOf]; omega
      | true =>
        obtain ⟨hp, hlt256⟩ := packTo_yes l k hlk
        have HP := Lib.hid hp
        have hc' : wr.cell? (ad.add k) = some (.int .u8 1) := hc
        clear hp hlk hc
        have hq : k / 8 < N := by omega
        have hst := fun u => (hown.stored (k / 8) u).1
        have hsb := fun u => hb.setCell (p := ⟨w.heap.size, k / 8, none⟩) (Nat.le_refl _) u
        have hfr := hown.frozenAt (k / 8)
        have hcc := hown.cellAt (k / 8) (by omega)
        have hgt : (bvs (packTo l k))[k / 8]? = some (.int .u8 ((packN (l.take k) (k / 8) : Nat) : Int)) := by
          unfold bvs
          rw [List.getElem?_map, packTo_get l k (k / 8) (by rw [HN.out]; exact hq)]
          have := packN_lt (l.take k) (k / 8)
          simp [bv]
          omega
        rw [hgt] at hcc
        generalize packN (l.take k) (k / 8) = x at *
        have HST := Lib.hid hst
        have HSB := Lib.hid hsb
        clear hst hsb hgt
        have hkq : ((k : Int) / 8).toNat = k / 8 := by omega
        have hkq2 : (k : Int) / 8 < N := by omega
        go_wp2
        go_region
        go_wp2
        go_roundw
        case rel =>
          refine ⟨k + 1, by omega, by go_num, ?_, ?_⟩
          · rw [HP.out, ← bvs_set, ← add_bit x k hlt256]
            exact (HST.out _).drew'
          · exact (HSB.out _).drew
        case measure => simp [intOf]; omega
    · obtain rfl : k = n := by omega
      have hall := packTo_all l
      rw [HL.out] at hall
      rw [hall] at hown
      clear hall
      go_wp2
      go_ret2
      exact ⟨_, rfl, hown, hb⟩

/-- Bytes packs. -/
theorem rbytes_any (A : Option Addr) (n c : Nat) (l : List Bool) (w : World) (h : Sl w w.heap.size A n c (bvs (bbs l))) (hn : n ≤ 1000000000) :
    Calls Try.prog 140 #[.slice A n c] w (GivesRow w.heap.size 5 w (nbytes l.length) (bvs (pack l))) := by
  have hp := pack_any A n c l w h hn
  have HP := Lib.hid hp
  clear hp
  go_enter Try.func140, Try.ntmps140
  go_wp2_with fail
  refine HP.out.mono ?_
  rintro e0 w0 ⟨v0, rfl, hv0, hb0⟩
  go_wp2
  go_ret
  exact ⟨_, rfl, hv0, hb0⟩

set_option maxRecDepth 100000 in
set_option maxHeartbeats 1000000 in
/-- Align pads with zeros. -/
theorem ralign_any (A : Option Addr) (n c : Nat) (l : List Bool) (w : World) (h : Sl w w.heap.size A n c (bvs (bbs l))) (hn : n ≤ 100000000) :
    Calls Try.prog 141 #[.slice A n c] w (GivesRow w.heap.size 5 w (8 * nbytes l.length) (bvs (bbs (l ++ List.replicate (8 * nbytes l.length - l.length) false)))) := by
  obtain ⟨i0, hi, hz0, hz1, hz2⟩ := info_parts u8_info
  have hl : l.length = n := by simpa using h.len
  have hN : 8 * nbytes l.length = 8 * ((n + 7) / 8) := by unfold nbytes; rw [hl]
  rw [hN, hl]
  have hs := h.alloc (Nat.le_refl _) (.cells #[] 5)
  have hb2 := (Below.refl w.heap.size w).alloc (Nat.le_refl _) (.cells #[] 5)
  have hlit : (w.alloc (.cells #[] 5)).ownsRow w.heap.size 5 1 (.slice (some ⟨w.heap.size, 0, none⟩) 0 0) 0 [] := World.ownsRow_lit w #[] 0 (Nat.le_refl _) (by unfold maxLen; omega) rfl
  have hm2 : 8 * ((n + 7) / 8) = n + (8 * ((n + 7) / 8) - n) := by omega
  obtain ⟨M, hM⟩ : ∃ M, 8 * ((n + 7) / 8) - n = M := ⟨_, rfl⟩
  rw [hM] at hm2 ⊢
  rw [hm2]
  have hM8 : M < 8 := by omega
  have hMm : (n + M) % 8 = 0 := by omega
  have HMm := Lib.hid hMm
  clear hl hN hm2 hM hMm
  go_enter Try.func141, Try.ntmps141
  go_wp2_with (at_builtin; refine wpList_append_sl _ rfl (.tmp 4) (.tmp 5) 29 rfl w.heap.size 5 i0 (.int .u8 0) 1 und29 hi hz0 hz1 hz2 rfl _ 0 [] rfl hlit w.heap.size A n c (bvs (bbs l)) rfl hs (one_bvs _) ?c3 ?c4 ?c5 ?_)
  case c3 => unfold maxLen; omega
  case c4 => omega
  case c5 => simp
  intro v2 w2 hown2 hgrow2 _
  have hb3 := hb2.grown hgrow2 hb2.size (fun g e => by simp [Value.ownBlock] at e; omega)
  clear hs hb2 hgrow2 hlit h
  go_wp2
  go_loopw [3] (fun v wr => ∃ k : Nat, k ≤ M ∧ lenOfV v = n + k ∧ wr.ownsRow w.heap.size 5 1 v (n + k) (bvs (bbs (l ++ List.replicate k false))) ∧ Below w.heap.size w wr) (fun v _ => n + M - lenOfV v)
  case atStart => exact ⟨0, Nat.zero_le _, by simpa using lenOfV_own hown2, by simpa using hown2, hb3⟩
  case round =>
    clear hown2 hb3
    obtain ⟨k, hk, hlv, hown, hb⟩ := hrel
    obtain ⟨A3, c3, rfl, hs3, _⟩ := own_sl hown
    clear hlv
    by_cases hlt : k < M
    · have hmod : ((n : Int) + k) % 8 ≠ 0 := by have := HMm.out; omega
      have hpos : (0 : Int) < ((n : Int) + k) % 8 := by omega
      clear hmod
      have hrep : l ++ List.replicate (k + 1) false = (l ++ List.replicate k false) ++ [false] := by rw [List.replicate_succ', List.append_assoc]
      have HR := Lib.hid hrep
      clear hrep
      go_wp2_with (at_builtin; refine wpList_append_own _ rfl _ _ 29 rfl w.heap.size 5 i0 (.int .u8 0) 1 1 und29 hi hz0 hz1 hz2 rfl (by decide) _ _ _ rfl (hown.alloc _) ⟨wr.heap.size, 0, none⟩ 1 1 [.int .u8 0] rfl rfl ?d1 ?d2 ?d3 ?d4 ?d5 ?_)
      case d1 => exact cell_one_new _ _ _
      case d2 => simp [Value.oneCell']
      case d3 => unfold maxLen; omega
      case d4 => omega
      case d5 => have := hb.size; simp; omega
      intro v4 w4 hown4 hgrow4 _
      have hb4 := (hb.alloc hb.size (.cells #[.int .u8 0] 5)).grown hgrow4 (by have := hb.size; simp; omega) (fun j hj => (hown.lt j hj).1)
      go_wp2
      go_roundw
      case rel => exact ⟨k + 1, by omega, lenOfV_own hown4, by rw [HR.out, bbs_append, ← Nat.add_assoc]; simpa [bvs, bbs, bb, bv] using hown4, hb4⟩
      case measure => have e := lenOfV_own hown4; show n + M - lenOfV v4 < n + M - (n + k); omega
    · obtain rfl : k = M := by omega
      have hmod : ((n : Int) + k) % 8 = 0 := by have := HMm.out; omega
      go_wp2
      go_ret
      exact ⟨_, rfl, hown, hb⟩
end Go.Proofs.Ytchlbpfeiamieaa
