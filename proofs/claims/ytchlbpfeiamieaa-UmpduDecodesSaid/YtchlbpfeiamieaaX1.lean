/- The reference's bits: FromUint, Put. -/
import Derived.Test.YtchlbpfeiamieaaU4
import Derived.Test.YtchlbpfeiamieaaX0
namespace Go.Proofs.Ytchlbpfeiamieaa
open Go.RowKit

theorem bvs_replicate (n : Nat) : (madeCells #[Value.int .u8 0] n).toList = bvs (List.replicate n 0) := by
  rw [toList_madeCells_one]
  simp [bvs, bv]
theorem bv_bit (x : Nat) : Value.int .u8 ((x : Int) % 2) = bv (bb (decide (x % 2 = 1))) := by
  unfold bv
  rw [bb_toNat]
  congr 1
  rcases Nat.mod_two_eq_zero_or_one x with h | h <;> simp [h] <;> omega

set_option maxRecDepth 100000 in
set_option maxHeartbeats 800000 in
theorem fromUint_ok (v n : Nat) (w : World) (hn : n ≤ 64) (hv : v < 2 ^ n) (hv64 : v < 18446744073709551616) :
    Calls Try.prog 139 #[.int .u64 v, .int .i64 n] w (GivesRowErr w.heap.size 5 w n (bvs (bbs (bitsOf v n))) 0) := by
  obtain ⟨i0, hi, hz0, hz1, hz2⟩ := info_parts u8_info
  have HV := Lib.hid hv
  clear hv
  have hd1 : decide ((n : Int) < 0) = false := by simp
  have hd2 : decide ((64 : Int) < n) = false := by simp; omega
  go_enter Try.func139, Try.ntmps139
  go_wp2_with (refine wpList_make_full _ rfl _ _ 29 rfl w.heap.size 5 i0 (.int .u8 0) 1 und29 hi hz0 hz1 .i64 .i64 _ _ n rfl rfl rfl rfl ?c1 ?c2 ?c3 ?_)
  case c1 => rw [hz2]; omega
  case c2 => unfold maxLen; omega
  case c3 => exact Nat.le_refl _
  intro w1 hown hgrow
  rw [bvs_replicate, ← fromTo_zero v n] at hown
  have hb1 : Below w.heap.size w w1 := (Below.refl _ w).grown hgrow (Nat.le_refl _) (by simp)
  go_wp2
  clear hd1 hd2
  go_loopw [0, 7] (fun vv i wr => ∃ k : Nat, k ≤ n ∧ i = .int .i64 ((n : Int) - 1 - k) ∧ vv = .int .u64 ((v / 2 ^ k : Nat) : Int) ∧ wr.ownsRow w.heap.size 5 1 (.slice (some ⟨w.heap.size, 0, none⟩) n n) n (bvs (fromTo v n k)) ∧ Below w.heap.size w wr) (fun _ i _ => (intOf i + 1).toNat)
  case atStart => exact ⟨0, Nat.zero_le _, by simp, by simp, hown, hb1⟩
  case round =>
    clear hown hb1 hgrow
    obtain ⟨k, hk, rfl, rfl, hown, hb⟩ := hrel
    by_cases hlt : k < n
    · obtain ⟨q, hq⟩ : ∃ q : Nat, n = q + k + 1 := ⟨n - 1 - k, by omega⟩
      have hqq : (n : Int) - 1 - k = (q : Int) := by omega
      rw [hqq]
      have hst := fun u => (hown.stored q u).1
      have hsb := fun u => hb.setCell (p := ⟨w.heap.size, q, none⟩) (Nat.le_refl _) u
      have hfr := hown.frozenAt q
      have hc := hown.cellAt q (by omega)
      obtain ⟨u0, hu0⟩ : ∃ u0, (bvs (fromTo v n k))[q]? = some u0 := ⟨_, List.getElem?_eq_getElem (by rw [bvs_length, fromTo_length v n k hk]; omega)⟩
      rw [hu0] at hc
      have hle : v / 2 ^ k ≤ v := Nat.div_le_self _ _
      have hfs := fromTo_succ v n k hlt
      have hdd : v / 2 ^ (k + 1) = v / 2 ^ k / 2 := by rw [Nat.pow_succ, Nat.div_div_eq_div_mul]
      have hvb := bv_bit (v / 2 ^ k)
      generalize v / 2 ^ k = x at *
      have HST := Lib.hid hst
      have HSB := Lib.hid hsb
      have HFS := Lib.hid hfs
      have HDD := Lib.hid hdd
      have HVB := Lib.hid hvb
      have HQ := Lib.hid hq
      clear hst hsb hfs hdd hvb hq hu0 hqq
      have hqn : q < n := by have := HQ.out; omega
      go_wp2
      go_roundw
      case rel =>
        refine ⟨k + 1, by omega, ?_, ?_, ?_, ?_⟩
        · have := HQ.out
          go_num
        · rw [HDD.out]
          go_num
        · rw [HFS.out, ← bvs_set, ← HVB.out, show n - 1 - k = q by have := HQ.out; omega]
          exact HST.out _
        · exact HSB.out _
      case measure => simp [intOf]
    · obtain rfl : k = n := by omega
      have h0 : v / 2 ^ k = 0 := Nat.div_eq_of_lt HV.out
      rw [h0]
      rw [fromTo_all] at hown
      clear h0
      go_wp2
      go_ret2
      exact ⟨_, rfl, hown, hb⟩

set_option maxHeartbeats 800000 in
theorem put_ok (A : Option Addr) (m c : Nat) (l : List UInt8) (v n : Nat) (w : World) (h : Sl w w.heap.size A m c (bvs l)) (hm : m ≤ 1000000000) (hn : n ≤ 64) (hv : v < 2 ^ n) (hv64 : v < 18446744073709551616) :
    Calls Try.prog 78 #[.slice A m c, .int .u64 v, .int .i64 n] w (GivesRowErr w.heap.size 5 w (m + n) (bvs (l ++ bbs (bitsOf v n))) 0) := by
  obtain ⟨i0, hi, hz0, hz1, hz2⟩ := info_parts u8_info
  have hf := fromUint_ok v n w hn hv hv64
  have HF := Lib.hid hf
  clear hf hv hv64
  go_enter Try.func78, Try.ntmps78
  go_wp2_with fail
  refine HF.out.mono ?_
  rintro e1 w1 ⟨v1, rfl, hv1, hb1⟩
  obtain ⟨A1, c1, rfl, hs1, _⟩ := own_sl hv1
  have hs := (h.below hb1).alloc hb1.size (.cells #[] 5)
  have hs1a := hs1.alloc (Nat.le_refl _) (.cells #[] 5)
  have hb2 := hb1.alloc hb1.size (.cells #[] 5)
  have hlit : (w1.alloc (.cells #[] 5)).ownsRow w1.heap.size 5 1 (.slice (some ⟨w1.heap.size, 0, none⟩) 0 0) 0 [] := World.ownsRow_lit w1 #[] 0 (Nat.le_refl _) (by unfold maxLen; omega) rfl
  clear HF h hs1 hv1
  go_wp2_with (at_builtin; refine wpList_append_sl _ rfl (.tmp 20) (.tmp 21) 29 rfl w1.heap.size 5 i0 (.int .u8 0) 1 und29 hi hz0 hz1 hz2 rfl _ 0 [] rfl hlit w.heap.size A m c (bvs l) rfl hs (one_bvs l) ?c3 ?c4 ?c5 ?_)
  case c3 => unfold maxLen; omega
  case c4 => omega
  case c5 => simp
  intro v2 w2 hown2 hgrow2 _
  have hs2 := hs1a.grown hgrow2 (by simp) (fun g e => by simp [Value.ownBlock] at e; omega)
  have hb3 := hb2.grown hgrow2 hb2.size (fun g e => by have := hb1.size; simp [Value.ownBlock] at e; omega)
  have hsz2 := hgrow2.size
  rw [World.size_alloc] at hsz2
  clear hs hs1a hb2 hgrow2 hlit
  go_wp2_with (at_builtin; refine wpList_append_sl _ rfl (.tmp 22) (.tmp 23) 29 rfl w1.heap.size 5 i0 (.int .u8 0) 1 und29 hi hz0 hz1 hz2 rfl _ m (bvs l) rfl hown2 w1.heap.size A1 n c1 _ rfl hs2 (one_bvs _) ?d3 ?d4 ?d5 ?_)
  case d3 => unfold maxLen; omega
  case d4 => omega
  case d5 => omega
  intro v3 w3 hown3 hgrow3 _
  have hb4 := hb3.grown hgrow3 hb3.size (fun g e => by have := hown2.lt g e; have := hb1.size; omega)
  go_wp2
  go_ret2
  refine ⟨_, rfl, own_base ?_ hb1.size, hb4⟩
  simpa [bvs] using hown3
end Go.Proofs.Ytchlbpfeiamieaa
