/- The reference's reader: Unpack, NewReader, Uint, Get, Align. -/
import Derived.Test.YtchlbpfeiamieaaX2
import Derived.Test.YtchlbpfeiamieaaD1
import Derived.Test.YtchlbpfeiamieaaC0
namespace Go.Proofs.Ytchlbpfeiamieaa
open Go.RowKit

theorem unpack_snoc (bs : List UInt8) (k : Nat) (h : k < 8 * bs.length) : (unpack bs).take (k + 1) = (unpack bs).take k ++ [bitB bs k] := by
  rw [List.take_add_one]
  congr 1
  simp [unpack, h]
theorem bv_bitB (bs : List UInt8) (k : Nat) (b : UInt8) (hb : bs[k / 8]? = some b) : Value.int .u8 ((b.toNat : Int) / 2 ^ (7 - k % 8) % 2) = bv (bb (bitB bs k)) := by
  have e : (b.toNat : Int) / 2 ^ (7 - k % 8) = ((b.toNat / 2 ^ (7 - k % 8) : Nat) : Int) := by push_cast; rfl
  rw [e, bv_bit]
  unfold bitB
  rw [List.getD_eq_getElem?_getD, hb]
  rfl

set_option maxRecDepth 100000 in
set_option maxHeartbeats 1000000 in
theorem runpack_any (A : Option Addr) (n c N : Nat) (bs : List UInt8) (w : World) (h : Sl w w.heap.size A n c (bvs bs)) (hn : n ≤ 1000000) (hN : N = 8 * n) :
    Calls Try.prog 147 #[.slice A n c, .int .i64 N] w (GivesRowErr w.heap.size 5 w N (bvs (bbs (unpack bs))) 0) := by
  obtain ⟨i0, hi, hz0, hz1, hz2⟩ := info_parts u8_info
  have hl : bs.length = n := by simpa using h.len
  have HL := Lib.hid hl
  have HN := Lib.hid hN
  have hq1 : (N : Int) / 8 = n := by omega
  have hq2 : (N : Int) % 8 = 0 := by omega
  have hq3 : N ≤ 8000000 := by omega
  have hq4 : decide ((n : Int) < (n : Int)) = false := by simp
  have hq5 : ((n : Int) == (n : Int)) = true := by simp
  have hq6 : decide ((N : Int) < 0) = false := by simp
  clear hl hN
  go_enter Try.func147, Try.ntmps147
  go_wp2
  clear hq1 hq2 hq4 hq5 hq6
  go_loopw [6, 7] (fun v i wr => ∃ k : Nat, k ≤ N ∧ i = .int .i64 k ∧ wr.ownsRow w.heap.size 5 1 v k (bvs (bbs ((unpack bs).take k))) ∧ Below w.heap.size w wr) (fun _ i _ => N - (intOf i).toNat)
  case atStart => exact ⟨0, Nat.zero_le _, rfl, World.ownsRow_nil _ _ _ _, Below.refl _ _⟩
  case round =>
    obtain ⟨k, hk, rfl, hown, hb⟩ := hrel
    by_cases hlt : k < N
    · have hk8 : k / 8 < n := by have := HN.out; omega
      obtain ⟨ad, u, rfl, _, hu, hc⟩ := (h.below hb).get hk8
      obtain ⟨b, hbb⟩ : ∃ b, bs[k / 8]? = some b := ⟨_, List.getElem?_eq_getElem (by rw [HL.out]; exact hk8)⟩
      have hu' : u = .int .u8 (b.toNat : Int) := by
        unfold bvs at hu
        rw [List.getElem?_map, hbb] at hu
        simpa [bv] using hu.symm
      subst hu'
      have hbl := b.toNat_lt
      have hval := bv_bitB bs k b hbb
      have hsn := unpack_snoc bs k (by have := HL.out; have := HN.out; omega)
      have HVAL := Lib.hid hval
      have HSN := Lib.hid hsn
      clear hval hsn hu hbb
      have hkq : ((k : Int) / 8).toNat = k / 8 := by omega
      have hkq2 : (k : Int) / 8 < n := by omega
      have hnn : (0 : Int) ≤ (b.toNat : Int) / 2 ^ (7 - k % 8) := Int.ediv_nonneg (by omega) (Int.le_of_lt (Int.pow_pos (by omega)))
      go_wp2_with (at_builtin; refine wpList_append_own _ rfl _ _ 29 rfl w.heap.size 5 i0 (.int .u8 0) 1 1 und29 hi hz0 hz1 hz2 rfl (by decide) _ _ _ rfl (hown.alloc _) ⟨wr.heap.size, 0, none⟩ 1 1 [.int .u8 ((b.toNat : Int) / 2 ^ (7 - k % 8) % 2)] rfl rfl ?d1 ?d2 ?d3 ?d4 ?d5 ?_)
      case d1 => exact cell_one_new _ _ _
      case d2 => simp [Value.oneCell']
      case d3 => unfold maxLen; omega
      case d4 => omega
      case d5 => have := hb.size; simp; omega
      intro v4 w4 hown4 hgrow4 _
      have hb4 := (hb.alloc hb.size (.cells #[.int .u8 ((b.toNat : Int) / 2 ^ (7 - k % 8) % 2)] 5)).grown hgrow4 (by have := hb.size; simp; omega) (fun j hj => (hown.lt j hj).1)
      go_wp2
      go_roundw
      case rel => exact ⟨k + 1, by omega, by go_num, by rw [HSN.out, bbs_append]; rw [HVAL.out] at hown4; simpa [bvs, bbs] using hown4, hb4⟩
      case measure => simp [intOf]; omega
    · obtain rfl : k = N := by omega
      rw [List.take_of_length_le (by rw [unpack_length, HL.out, HN.out]; exact Nat.le_refl _)] at hown
      go_wp2
      go_ret2
      exact ⟨_, rfl, hown, hb⟩

theorem own_sl' {w : World} {base : Nat} {e : TypeId} {A : Option Addr} {c n : Nat} {xs : List Value} (h : w.ownsRow base e 1 (.slice A n c) n xs) : Sl w w.heap.size A n c xs := by
  obtain ⟨A', c', he, hs, _⟩ := own_sl h
  cases he
  exact hs
/-- an owned row behind a store into a block of another type -/
theorem own_store {w : World} {base : Nat} {e t : TypeId} {v : Value} {n g i : Nat} {xs : List Value} {cs : Array Value} (h : w.ownsRow base e 1 v n xs) (hg : Blk w g t cs) (hne : e ≠ t) (u : Value) : (w.setCell ⟨g, i, none⟩ u).ownsRow base e 1 v n xs :=
  h.kept (grownBy_setAt w g i u) (.inr (own_blk_ne h hg hne))
/-- what NewReader gives -/
def GivesReader (w : World) (n : Nat) (l : List Bool) (at_ : Nat) (e : Ending) (w' : World) : Prop :=
  ∃ A c, e = .returned (.agg #[.slice A n c, .int .i64 at_]) ∧ Sl w' w'.heap.size A n c (bvs (bbs l)) ∧ Below w.heap.size w w'

set_option maxHeartbeats 400000 in
theorem rnewReader_any (A : Option Addr) (n c : Nat) (bs : List UInt8) (w : World) (h : Sl w w.heap.size A n c (bvs bs)) (hn : n ≤ 1000000) :
    Calls Try.prog 88 #[.slice A n c] w (GivesReader w (8 * n) (unpack bs) 0) := by
  have hB := (Below.refl w.heap.size w).alloc (Nat.le_refl _) (.cells #[.slice none 0 0, .int .i64 0] 141)
  have bx := Blk.new w 141 #[.slice none 0 0, .int .i64 0]
  obtain ⟨N, hN⟩ : ∃ N, N = 8 * n := ⟨_, rfl⟩
  have hu := runpack_any A n c N bs _ ((h.below hB).more hB.size) hn hN
  rw [← hN]
  have HU := Lib.hid hu
  have HB := Lib.hid hB
  clear hu hB
  have h8 : 8 * (n : Int) = (N : Int) := by omega
  clear hN
  go_enter Try.func88, Try.ntmps88
  go_wp2_with fail
  refine HU.out.mono ?_
  rintro e1 w1 ⟨v1, rfl, hv1, hb1⟩
  obtain ⟨A1, c1, rfl, hs1, hbase⟩ := own_sl hv1
  have bx1 := bx.below hb1 bx.lt
  have x0 := bx1.cell 0
  have x1 := bx1.cell 1
  have g0 := bx1.frozen 0
  have g1 := bx1.frozen 1
  simp at x0 x1
  have hB1 : Below w.heap.size w w1 := HB.out.trans (hb1.mono HB.out.size)
  clear h8
  go_wp2
  have hv2 := own_store (i := 0) hv1 bx1 (by decide) (.slice A1 N c1)
  have bx2 := bx1.set_ 0 (.slice A1 N c1)
  simp at bx2
  have hv3 := own_store (i := 1) hv2 bx2 (by decide) (.int .i64 0)
  have bx3 := bx2.set_ 1 (.int .i64 0)
  simp at bx3
  have hB3 := (hB1.setCell (p := ⟨w.heap.size, 0, none⟩) (by simp) (.slice A1 N c1)).setCell (p := ⟨w.heap.size, 1, none⟩) (by simp) (.int .i64 0)
  have y0 := bx3.cell 0
  have y1 := bx3.cell 1
  simp at y0 y1
  exact bodyPost_ret (v := .agg #[.slice A1 N c1, .int .i64 0]) (by simp [results, Try.results88, go_sem, y0, y1]) rfl ⟨A1, c1, rfl, own_sl' hv3, hB3⟩

set_option maxRecDepth 100000 in
set_option maxHeartbeats 800000 in
theorem ruint_any (A : Option Addr) (n c B : Nat) (l : List Bool) (w : World) (h : Sl w B A n c (bvs (bbs l))) (hn : n ≤ 64) :
    Calls Try.prog 148 #[.slice A n c] w fun e w' => e = .returned (.tuple #[.int .u64 (val l), .int .i64 0]) ∧ w = w' := by
  have hl : l.length = n := by simpa using h.len
  have HL := Lib.hid hl
  have hva := bvalid_any A n c _ l w h
  have HVA := Lib.hid hva
  clear hva hl
  go_enter Try.func148, Try.ntmps148
  go_wp2_with fail
  refine HVA.out.mono ?_
  rintro e0 w0 ⟨rfl, rfl⟩
  clear HVA
  go_wp2
  go_loop [4, 5] (fun v i => ∃ k : Nat, k ≤ n ∧ i = .int .i64 k ∧ v = .int .u64 (val (l.take k))) (fun _ i => n - (intOf i).toNat)
  case atStart => exact ⟨0, Nat.zero_le _, rfl, rfl⟩
  case round =>
    obtain ⟨k, hk, rfl, rfl⟩ := hrel
    by_cases hlt : k < n
    · obtain ⟨ad, b, rfl, hlk, hc⟩ := bits_cell h hlt
      have hb : b.toNat ≤ 1 := by cases b <;> simp
      have hvs : val (l.take (k + 1)) = 2 * val (l.take k) + b.toNat := by rw [take_snocB l k b hlk, val_snoc]
      have hvl := val_lt (l.take k)
      have hkl : (l.take k).length ≤ 63 := by simp; omega
      have h63 : val (l.take k) < 9223372036854775808 := Nat.lt_of_lt_of_le hvl (by have := Nat.pow_le_pow_right (n := 2) (by omega) hkl; simpa using this)
      have HVS := Lib.hid hvs
      clear hvs hvl hkl hlk
      generalize b.toNat = x at *
      generalize val (l.take k) = V at *
      have hwx : IntKind.u64.wrap (x : Int) = x := by rw [IntKind.wrap_u64]; omega
      go_wp2
      go_round
      case rel => exact ⟨k + 1, by omega, by go_num, by rw [HVS.out]; go_num⟩
      case measure => simp [intOf]; omega
    · have e : l.take k = l := List.take_of_length_le (by rw [HL.out]; omega)
      rw [e]
      go_wp2
      go_ret2
      exact ⟨rfl, rfl⟩
end Go.Proofs.Ytchlbpfeiamieaa
