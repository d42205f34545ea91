/- The reference's reader: Unpack, NewReader, Uint, Get, Align. The reference's reader: Get, Align. The reference's Rest: lengths. -/
import Derived.Test.YtchlbpfeiamieaaXa
import Derived.Test.YtchlbpfeiamieaaDa
import Derived.Test.YtchlbpfeiamieaaPa
import Derived.Test.YtchlbpfeiamieaaLa
import Derived.Deep.RegionLaw
namespace Go.Proofs.Ytchlbpfeiamieaa
open Go.RowKit

theorem unpack_snoc (bs : List UInt8) (k : Nat) (h : k < 8 * bs.length) : (unpack bs).take (k + 1) = (unpack bs).take k ++ [bitB bs k] := by
  rw [List.take_add_one]
  congr 1
  simp [unpack, h]
theorem bv_bitB (bs : List UInt8) (k : Nat) (b : UInt8) (hb : bs[k / 8]? = some b) : Value.int .u8 ((b.toNat : Int) / 2 ^ (7 - k % 8) % 2) = bv (bb (bitB bs k)) := by
  have e : (b.toNat : Int) / 2 ^ (7 - k % 8) = ((b.toNat / 2 ^ (7 - k % 8) : Nat) : Int) := by push_cast; rfl
  rw [e, bv_bit]
  unfold bitB
  rw [List.getD_eq_getElem?_getD, hb]
  rfl

set_option maxRecDepth 100000 in
set_option maxHeartbeats 1000000 in
theorem runpack_any (A : Option Addr) (n c N : Nat) (bs : List UInt8) (w : World) (h : Sl w w.heap.size A n c (bvs bs)) (hn : n ≤ 1000000) (hN : N = 8 * n) :
    Calls Try.prog 147 #[.slice A n c, .int .i64 N] w (GivesRowErr w.heap.size 5 w N (bvs (bbs (unpack bs))) 0) := by
  obtain ⟨i0, hi, hz0, hz1, hz2⟩ := info_parts u8_info
  have hl : bs.length = n := by simpa using h.len
  have HL := Lib.hid hl
  have HN := Lib.hid hN
  have hq1 : (N : Int) / 8 = n := by omega
  have hq2 : (N : Int) % 8 = 0 := by omega
  have hq3 : N ≤ 8000000 := by omega
  have hq4 : decide ((n : Int) < (n : Int)) = false := by simp
  have hq5 : ((n : Int) == (n : Int)) = true := by simp
  have hq6 : decide ((N : Int) < 0) = false := by simp
  clear hl hN
  go_enter Try.func147, Try.ntmps147
  go_wp2
  clear hq1 hq2 hq4 hq5 hq6
  go_loopw [6, 7] (fun v i wr => ∃ k : Nat, k ≤ N ∧ i = .int .i64 k ∧ wr.ownsRow w.heap.size 5 1 v k (bvs (bbs ((unpack bs).take k))) ∧ Below w.heap.size w wr) (fun _ i _ => N - (intOf i).toNat)
  case atStart => exact ⟨0, Nat.zero_le _, rfl, World.ownsRow_nil _ _ _ _, Below.refl _ _⟩
  case round =>
    obtain ⟨k, hk, rfl, hown, hb⟩ := hrel
    by_cases hlt : k < N
    · have hk8 : k / 8 < n := by have := HN.out; omega
      obtain ⟨ad, u, rfl, _, hu, hc⟩ := (h.below hb).get hk8
      obtain ⟨b, hbb⟩ : ∃ b, bs[k / 8]? = some b := ⟨_, List.getElem?_eq_getElem (by rw [HL.out]; exact hk8)⟩
      have hu' : u = .int .u8 (b.toNat : Int) := by
        unfold bvs at hu
        rw [List.getElem?_map, hbb] at hu
        simpa [bv] using hu.symm
      subst hu'
      have hbl := b.toNat_lt
      have hval := bv_bitB bs k b hbb
      have hsn := unpack_snoc bs k (by have := HL.out; have := HN.out; omega)
      have HVAL := Lib.hid hval
      have HSN := Lib.hid hsn
      clear hval hsn hu hbb
      have hkq : ((k : Int) / 8).toNat = k / 8 := by omega
      have hkq2 : (k : Int) / 8 < n := by omega
      have hnn : (0 : Int) ≤ (b.toNat : Int) / 2 ^ (7 - k % 8) := Int.ediv_nonneg (by omega) (Int.le_of_lt (Int.pow_pos (by omega)))
      go_wp2_with (at_builtin; refine wpList_append_own _ rfl _ _ 29 rfl w.heap.size 5 i0 (.int .u8 0) 1 1 und29 hi hz0 hz1 hz2 rfl (by decide) _ _ _ rfl (hown.alloc _) ⟨wr.heap.size, 0, none⟩ 1 1 [.int .u8 ((b.toNat : Int) / 2 ^ (7 - k % 8) % 2)] rfl rfl ?d1 ?d2 ?d3 ?d4 ?d5 ?_)
      case d1 => exact cell_one_new _ _ _
      case d2 => simp [Value.oneCell']
      case d3 => unfold maxLen; omega
      case d4 => omega
      case d5 => have := hb.size; simp; omega
      intro v4 w4 hown4 hgrow4 _
      have hb4 := (hb.alloc hb.size (.cells #[.int .u8 ((b.toNat : Int) / 2 ^ (7 - k % 8) % 2)] 5)).grown hgrow4 (by have := hb.size; simp; omega) (fun j hj => (hown.lt j hj).1)
      go_wp2
      go_roundw
      case rel => exact ⟨k + 1, by omega, by go_num, by rw [HSN.out, bbs_append]; rw [HVAL.out] at hown4; simpa [bvs, bbs] using hown4, hb4⟩
      case measure => simp [intOf]; omega
    · obtain rfl : k = N := by omega
      rw [List.take_of_length_le (by rw [unpack_length, HL.out, HN.out]; exact Nat.le_refl _)] at hown
      go_wp2
      go_ret2
      exact ⟨_, rfl, hown, hb⟩

theorem own_sl' {w : World} {base : Nat} {e : TypeId} {A : Option Addr} {c n : Nat} {xs : List Value} (h : w.ownsRow base e 1 (.slice A n c) n xs) : Sl w w.heap.size A n c xs := by
  obtain ⟨A', c', he, hs, _⟩ := own_sl h
  cases he
  exact hs
/-- an owned row behind a store into a block of another type -/
theorem own_store {w : World} {base : Nat} {e t : TypeId} {v : Value} {n g i : Nat} {xs : List Value} {cs : Array Value} (h : w.ownsRow base e 1 v n xs) (hg : Blk w g t cs) (hne : e ≠ t) (u : Value) : (w.setCell ⟨g, i, none⟩ u).ownsRow base e 1 v n xs :=
  h.kept (grownBy_setAt w g i u) (.inr (own_blk_ne h hg hne))
/-- what NewReader gives -/
def GivesReader (w : World) (n : Nat) (l : List Bool) (at_ : Nat) (e : Ending) (w' : World) : Prop :=
  ∃ A c, e = .returned (.agg #[.slice A n c, .int .i64 at_]) ∧ Sl w' w'.heap.size A n c (bvs (bbs l)) ∧ Below w.heap.size w w'

set_option maxHeartbeats 400000 in
theorem rnewReader_any (A : Option Addr) (n c : Nat) (bs : List UInt8) (w : World) (h : Sl w w.heap.size A n c (bvs bs)) (hn : n ≤ 1000000) :
    Calls Try.prog 88 #[.slice A n c] w (GivesReader w (8 * n) (unpack bs) 0) := by
  have hB := (Below.refl w.heap.size w).alloc (Nat.le_refl _) (.cells #[.slice none 0 0, .int .i64 0] 141)
  have bx := Blk.new w 141 #[.slice none 0 0, .int .i64 0]
  obtain ⟨N, hN⟩ : ∃ N, N = 8 * n := ⟨_, rfl⟩
  have hu := runpack_any A n c N bs _ ((h.below hB).more hB.size) hn hN
  rw [← hN]
  have HU := Lib.hid hu
  have HB := Lib.hid hB
  clear hu hB
  have h8 : 8 * (n : Int) = (N : Int) := by omega
  clear hN
  go_enter Try.func88, Try.ntmps88
  go_wp2_with fail
  refine HU.out.mono ?_
  rintro e1 w1 ⟨v1, rfl, hv1, hb1⟩
  obtain ⟨A1, c1, rfl, hs1, hbase⟩ := own_sl hv1
  have bx1 := bx.below hb1 bx.lt
  have x0 := bx1.cell 0
  have x1 := bx1.cell 1
  have g0 := bx1.frozen 0
  have g1 := bx1.frozen 1
  simp at x0 x1
  have hB1 : Below w.heap.size w w1 := HB.out.trans (hb1.mono HB.out.size)
  clear h8
  go_wp2
  have hv2 := own_store (i := 0) hv1 bx1 (by decide) (.slice A1 N c1)
  have bx2 := bx1.set_ 0 (.slice A1 N c1)
  simp at bx2
  have hv3 := own_store (i := 1) hv2 bx2 (by decide) (.int .i64 0)
  have bx3 := bx2.set_ 1 (.int .i64 0)
  simp at bx3
  have hB3 := (hB1.setCell (p := ⟨w.heap.size, 0, none⟩) (by simp) (.slice A1 N c1)).setCell (p := ⟨w.heap.size, 1, none⟩) (by simp) (.int .i64 0)
  have y0 := bx3.cell 0
  have y1 := bx3.cell 1
  simp at y0 y1
  exact bodyPost_ret (v := .agg #[.slice A1 N c1, .int .i64 0]) (by simp [results, Try.results88, go_sem, y0, y1]) rfl ⟨A1, c1, rfl, own_sl' hv3, hB3⟩

set_option maxRecDepth 100000 in
set_option maxHeartbeats 800000 in
theorem ruint_any (A : Option Addr) (n c B : Nat) (l : List Bool) (w : World) (h : Sl w B A n c (bvs (bbs l))) (hn : n ≤ 64) :
    Calls Try.prog 148 #[.slice A n c] w fun e w' => e = .returned (.tuple #[.int .u64 (val l), .int .i64 0]) ∧ w = w' := by
  have hl : l.length = n := by simpa using h.len
  have HL := Lib.hid hl
  have hva := bvalid_any A n c _ l w h
  have HVA := Lib.hid hva
  clear hva hl
  go_enter Try.func148, Try.ntmps148
  go_wp2_with fail
  refine HVA.out.mono ?_
  rintro e0 w0 ⟨rfl, rfl⟩
  clear HVA
  go_wp2
  go_loop [4, 5] (fun v i => ∃ k : Nat, k ≤ n ∧ i = .int .i64 k ∧ v = .int .u64 (val (l.take k))) (fun _ i => n - (intOf i).toNat)
  case atStart => exact ⟨0, Nat.zero_le _, rfl, rfl⟩
  case round =>
    obtain ⟨k, hk, rfl, rfl⟩ := hrel
    by_cases hlt : k < n
    · obtain ⟨ad, b, rfl, hlk, hc⟩ := bits_cell h hlt
      have hb : b.toNat ≤ 1 := by cases b <;> simp
      have hvs : val (l.take (k + 1)) = 2 * val (l.take k) + b.toNat := by rw [take_snocB l k b hlk, val_snoc]
      have hvl := val_lt (l.take k)
      have hkl : (l.take k).length ≤ 63 := by simp; omega
      have h63 : val (l.take k) < 9223372036854775808 := Nat.lt_of_lt_of_le hvl (by have := Nat.pow_le_pow_right (n := 2) (by omega) hkl; simpa using this)
      have HVS := Lib.hid hvs
      clear hvs hvl hkl hlk
      generalize b.toNat = x at *
      generalize val (l.take k) = V at *
      have hwx : IntKind.u64.wrap (x : Int) = x := by rw [IntKind.wrap_u64]; omega
      go_wp2
      go_round
      case rel => exact ⟨k + 1, by omega, by go_num, by rw [HVS.out]; go_num⟩
      case measure => simp [intOf]; omega
    · have e : l.take k = l := List.take_of_length_le (by rw [HL.out]; omega)
      rw [e]
      go_wp2
      go_ret2
      exact ⟨rfl, rfl⟩
end Go.Proofs.Ytchlbpfeiamieaa
namespace Go.Proofs.Ytchlbpfeiamieaa
open Go.RowKit

theorem unpack_cut (bs : List UInt8) (pos n : Nat) (h : pos + n ≤ 8 * bs.length) : ((unpack bs).drop pos).take n = bitsAt bs pos n := by
  apply List.ext_getElem?
  intro i
  unfold unpack bitsAt
  rw [List.getElem?_take]
  by_cases hi : i < n
  · rw [if_pos hi, List.getElem?_drop, List.getElem?_map, List.getElem?_map, List.getElem?_range (by omega), List.getElem?_range hi]
    rfl
  · rw [if_neg hi, List.getElem?_eq_none (by simp; omega)]
/-- a part of a slice -/
theorem Sl.mid {w : World} {B n c a m : Nat} {A : Option Addr} {xs : List Value} (h : Sl w B A n c xs) (hm : a + m ≤ n) : Sl w B (if c = a then A else A.map (·.add a)) m (c - a) ((xs.drop a).take m) := by
  have h1 := h.cut (k := a) (by omega)
  exact h1.upto' (k := m) (by omega)

/-- what Get gives -/
def GotIs (w : World) (A : Option Addr) (n c pos v : Nat) (er : Int) (e : Ending) (w' : World) : Prop :=
  e = .returned (.tuple #[.agg #[.slice A n c, .int .i64 pos], .int .u64 v, .int .i64 er]) ∧ Below w.heap.size w w'

set_option maxRecDepth 100000 in
set_option maxHeartbeats 1000000 in
theorem rget_short (A : Option Addr) (n c pos wd : Nat) (w : World) (_hn : n ≤ 100000000) (hp : pos ≤ n) (hw : wd ≤ 64) (hs : n < pos + wd) :
    Calls Try.prog 89 #[.agg #[.slice A n c, .int .i64 pos], .int .i64 wd] w (GotIs w A n c pos 0 5) := by
  have h1 : (n : Int) - pos < wd := by omega
  go_enter Try.func89, Try.ntmps89
  go_wp2
  exact bodyPost_ret (v := .tuple #[.agg #[.slice A n c, .int .i64 pos], .int .u64 0, .int .i64 5]) (by simp [results, Try.results89, go_sem]) rfl ⟨rfl, ((Below.refl _ w).alloc (Nat.le_refl _) _).alloc (by simp) _⟩

set_option maxRecDepth 100000 in
set_option maxHeartbeats 1000000 in
theorem rget_ok (A : Option Addr) (n c pos wd : Nat) (l : List Bool) (w : World) (h : Sl w w.heap.size A n c (bvs (bbs l))) (hn : n ≤ 100000000) (hw : wd ≤ 64) (hs : pos + wd ≤ n) :
    Calls Try.prog 89 #[.agg #[.slice A n c, .int .i64 pos], .int .i64 wd] w (GotIs w A n c (pos + wd) (val ((l.drop pos).take wd)) 0) := by
  have hB := ((Below.refl w.heap.size w).alloc (Nat.le_refl _) (.cells #[.slice A n c, .int .i64 pos] 141)).alloc (by simp) (.cells #[.slice none 0 0, .int .i64 0] 141)
  have h1 : ¬ (n : Int) - pos < wd := by omega
  have hmid := h.mid hs
  have e1 : ((bvs (bbs l)).drop pos).take wd = bvs (bbs ((l.drop pos).take wd)) := by simp [bvs, bbs]
  rw [e1] at hmid
  have hcap := h.cap
  have hmx := h.mx
  replace hmid := hmid.below hB
  generalize hV : val ((l.drop pos).take wd) = V at *
  generalize (l.drop pos).take wd = ll at *
  subst hV
  clear e1 h
  by_cases hcp : c = pos
  · rw [if_pos hcp] at hmid
    subst hcp
    rw [Nat.sub_self] at hmid
    have hu := ruint_any _ _ _ _ ll _ hmid hw
    have HU := Lib.hid hu
    have HB := Lib.hid hB
    clear hu hmid hB
    go_enter Try.func89, Try.ntmps89
    go_wp2_with (go_at_call 148; refine HU.out.mono ?_; rintro e1 w1 ⟨rfl, rfl⟩)
    exact bodyPost_ret (v := .tuple #[.agg #[.slice A n c, .int .i64 ((c : Int) + wd)], .int .u64 (val ll), .int .i64 0]) (by simp [results, Try.results89, go_sem]) rfl ⟨by push_cast; rfl, ((Below.refl _ w).alloc (Nat.le_refl _) _).alloc (by simp) _⟩
  · rw [if_neg hcp] at hmid
    have hu := ruint_any _ _ _ _ ll _ hmid hw
    have HU := Lib.hid hu
    have HB := Lib.hid hB
    clear hu hmid hB
    go_enter Try.func89, Try.ntmps89
    go_wp2_with (go_at_call 148; refine HU.out.mono ?_; rintro e1 w1 ⟨rfl, rfl⟩)
    exact bodyPost_ret (v := .tuple #[.agg #[.slice A n c, .int .i64 ((pos : Int) + wd)], .int .u64 (val ll), .int .i64 0]) (by simp [results, Try.results89, go_sem]) rfl ⟨by push_cast; rfl, ((Below.refl _ w).alloc (Nat.le_refl _) _).alloc (by simp) _⟩

theorem val_none (l : List Bool) : val l = 0 ↔ ∀ b ∈ l, b = false := by
  induction l with
  | nil => simp [val]
  | cons b l ih =>
    rw [val_cons]
    have hp : 0 < 2 ^ l.length := Nat.two_pow_pos _
    cases b with
    | true => simp
    | false => simpa using ih

set_option maxRecDepth 100000 in
set_option maxHeartbeats 1000000 in
/-- the reader's Align -/
theorem ralignR_any (A : Option Addr) (n c pos : Nat) (bs : List UInt8) (w : World) (h : Sl w w.heap.size A n c (bvs (bbs (unpack bs)))) (hn : n ≤ 100000000) (hp : pos ≤ n) :
    Calls Try.prog 149 #[.agg #[.slice A n c, .int .i64 pos]] w fun e w' => e = .returned (.tuple #[.agg #[.slice A n c, .int .i64 (if val (bitsAt bs pos (padN pos)) = 0 then pos + padN pos else pos : Nat)], .int .i64 (if val (bitsAt bs pos (padN pos)) = 0 then 0 else 9)]) ∧ Below w.heap.size w w' := by
  have hl : 8 * bs.length = n := by have := h.len; simpa using this
  have hB := ((Below.refl w.heap.size w).alloc (Nat.le_refl _) (.cells #[.slice A n c, .int .i64 pos] 141)).alloc (by simp) (.cells #[.slice none 0 0, .int .i64 0] 141)
  have hh := h.below hB
  have HL := Lib.hid hl
  have hN : (pos + 7) / 8 * 8 = pos + padN pos := by unfold padN; omega
  have HN := Lib.hid hN
  have hpd : padN pos < 8 := by unfold padN; omega
  have hpm : ∀ k, k ≤ padN pos → ((pos + k) % 8 = 0 ↔ k = padN pos) := by intro k hk; unfold padN at hk ⊢; omega
  have HPM := Lib.hid hpm
  have hfit : pos + padN pos ≤ n := by rw [← hl]; unfold padN; omega
  clear hl hN hpm h hB
  generalize hP : padN pos = P at *
  clear hP
  have hcap := hh.cap
  have hmx := hh.mx
  obtain ⟨Z, hZ⟩ : ∃ Z, (if val (bitsAt bs pos P) = 0 then (0 : Int) else 9) = Z := ⟨_, rfl⟩
  obtain ⟨Q, hQ⟩ : ∃ Q, (if val (bitsAt bs pos P) = 0 then pos + P else pos) = Q := ⟨_, rfl⟩
  rw [hZ, hQ]
  have HZ := Lib.hid hZ
  have HQ := Lib.hid hQ
  clear hZ hQ
  go_enter Try.func149, Try.ntmps149
  go_wp2
  go_loop [4] (fun i => ∃ k : Nat, k ≤ P ∧ i = .int .i64 ((pos : Int) + k) ∧ Hid (∀ j, j < k → bitB bs (pos + j) = false)) (fun i => P - (intOf i - pos).toNat)
  case atStart => exact ⟨0, Nat.zero_le _, by simp, Lib.hid (fun j hj => absurd hj (by omega))⟩
  case round =>
    obtain ⟨k, hk, rfl, HK⟩ := hrel
    by_cases hlt : k < P
    · obtain ⟨ad, b, rfl, hlk, hc⟩ := bits_cell hh (k := pos + k) (by omega)
      have hbb : b = bitB bs (pos + k) := by
        unfold unpack at hlk
        rw [List.getElem?_map, List.getElem?_range (by have := HL.out; omega)] at hlk
        simpa using hlk.symm
      have hm : (0 : Int) < ((pos : Int) + k) % 8 := by have := (HPM.out k hk); omega
      have HBB := Lib.hid hbb
      clear hbb hlk
      cases b with
      | false =>
        have hc' : ((w.alloc (.cells #[.slice (some ad) n c, .int .i64 pos] 141)).alloc (.cells #[.slice none 0 0, .int .i64 0] 141)).cell? (ad.add (pos + k)) = some (.int .u8 0) := hc
        clear hc
        have hi3 : ((pos : Int) + k).toNat = pos + k := by omega
        go_wp2
        go_round
        case rel => exact ⟨k + 1, by omega, by go_num, Lib.hid (fun j hj => by
          rcases Nat.lt_or_ge j k with h1 | h1
          · exact HK.out j h1
          · obtain rfl : j = k := by omega
            exact HBB.out.symm)⟩
        case measure => simp [intOf]; omega
      | true =>
        have hc' : ((w.alloc (.cells #[.slice (some ad) n c, .int .i64 pos] 141)).alloc (.cells #[.slice none 0 0, .int .i64 0] 141)).cell? (ad.add (pos + k)) = some (.int .u8 1) := hc
        clear hc
        have hi3 : ((pos : Int) + k).toNat = pos + k := by omega
        have hv : val (bitsAt bs pos P) ≠ 0 := by
          rw [Ne, val_none]
          intro hall
          have := hall true (by unfold bitsAt; rw [List.mem_map]; exact ⟨k, List.mem_range.2 hlt, HBB.out.symm⟩)
          cases this
        have hZ9 : Z = 9 := by rw [← HZ.out, if_neg hv]
        have hQp : Q = pos := by rw [← HQ.out, if_neg hv]
        subst hZ9 hQp
        clear hv
        go_wp2
        exact bodyPost_ret (v := .tuple #[.agg #[.slice (some ad) n c, .int .i64 Q], .int .i64 9]) (by simp [results, Try.results149, go_sem]) rfl ⟨rfl, ((Below.refl _ w).alloc (Nat.le_refl _) _).alloc (by simp) _⟩
    · obtain rfl : k = P := by omega
      have hm : ((pos : Int) + k) % 8 = 0 := by have := (HPM.out k hk); omega
      have hv : val (bitsAt bs pos k) = 0 := by
        rw [val_none]
        intro b hb
        unfold bitsAt at hb
        rw [List.mem_map] at hb
        obtain ⟨j, hj, rfl⟩ := hb
        exact HK.out j (List.mem_range.1 hj)
      have hZ9 : Z = 0 := by rw [← HZ.out, if_pos hv]
      have hQp : Q = pos + k := by rw [← HQ.out, if_pos hv]
      subst hZ9 hQp
      clear hv
      have h8 : ((pos : Int) + 7) / 8 * 8 = (pos : Int) + k := by have := HN.out; omega
      go_wp2
      exact bodyPost_ret (v := .tuple #[.agg #[.slice A n c, .int .i64 ((pos : Int) + k)], .int .i64 0]) (by simp [results, Try.results149, go_sem]) rfl ⟨by push_cast; rfl, ((Below.refl _ w).alloc (Nat.le_refl _) _).alloc (by simp) _⟩
end Go.Proofs.Ytchlbpfeiamieaa
namespace Go.Proofs.Ytchlbpfeiamieaa
open Go.RowKit

/-- what lengths, padding and data give -/
def afterLens (bs : List UInt8) : Sum Nat (List Nat × Nat) → Sum Nat (List (List UInt8))
  | .inl er => .inl er
  | .inr (ls, p) => partsRes ls (bs.drop (p / 8))
def restRes (bs : List UInt8) (more : Bool) (pos : Nat) : Sum Nat (List (List UInt8)) := afterLens bs (lenRes bs more pos)

/-- parts that read as ps as long as the cells below Bb and those from base on stay -/
def Stays (base Bb : Nat) (w : World) (A : Option Addr) (c : Nat) (vs : List Value) (ps : List (List UInt8)) : Prop :=
  ∀ w2 : World, (∀ p : Addr, p.block < Bb ∨ (base ≤ p.block ∧ p.block < w.heap.size) → w2.cell? p = w.cell? p) → w.heap.size ≤ w2.heap.size → Sls w2 w2.heap.size A ps.length c vs ps
theorem Stays.sls {base Bb : Nat} {w : World} {A : Option Addr} {c : Nat} {vs : List Value} {ps : List (List UInt8)} (h : Stays base Bb w A c vs ps) : Sls w w.heap.size A ps.length c vs ps := h w (fun _ _ => rfl) (Nat.le_refl _)
/-- what Rest gives -/
def RestIs (w : World) (Bb : Nat) (s e : Bool) (R : Sum Nat (List (List UInt8))) (en : Ending) (w' : World) : Prop :=
  Below w.heap.size w w' ∧ ((∃ er : Nat, R = .inl er ∧ en = .returned (.tuple #[.agg #[.bool false, .bool false, .slice none 0 0], .int .i64 er])) ∨
    (∃ ps A c vs, R = .inr ps ∧ en = .returned (.tuple #[.agg #[.bool s, .bool e, .slice A ps.length c], .int .i64 0]) ∧ Stays w.heap.size Bb w' A c vs ps))

/-- the first k parts as values: slices that share the array -/
def restVals (ad : Addr) (cd : Nat) (ls : List Nat) (k : Nat) : List Value := (List.range k).map fun i => .slice (some (ad.add (ls.take i).sum)) (ls[i]?.getD 0) (cd - (ls.take i).sum)
theorem restVals_succ (ad : Addr) (cd : Nat) (ls : List Nat) (k n : Nat) (h : ls[k]? = some n) : restVals ad cd ls (k + 1) = restVals ad cd ls k ++ [.slice (some (ad.add (ls.take k).sum)) n (cd - (ls.take k).sum)] := by
  simp [restVals, List.range_succ, h]
theorem rest_sls {w : World} {base B : Nat} {A : Option Addr} {c cd m : Nat} {ad : Addr} {ls : List Nat} {D : List UInt8}
    (how : w.ownsRow base 29 1 (.slice A (ls.length + 1) c) (ls.length + 1) (restVals ad cd ls ls.length ++ [.slice (some (ad.add ls.sum)) (m - ls.sum) (cd - ls.sum)]))
    (hD : Sl w B (some ad) m cd (bvs D)) (hB : B ≤ w.heap.size) (hs : ls.sum < m) :
    Stays base B w A c (restVals ad cd ls ls.length ++ [.slice (some (ad.add ls.sum)) (m - ls.sum) (cd - ls.sum)]) (splitBy ls D) := by
  intro w2 hkeep hsz2
  have hl : D.length = m := by have := hD.len; simpa using this
  have hcap := hD.cap
  have hD2 : Sl w2 B (some ad) m cd (bvs D) := hD.keep fun p hp => hkeep p (.inl hp)
  have key : ∀ a k, a + k ≤ m → a < m → Sl w2 w2.heap.size (some (ad.add a)) k (cd - a) (bvs ((D.drop a).take k)) := by
    intro a k h1 h2
    have h3 := (hD2.mid h1).more (show B ≤ w2.heap.size by omega)
    rw [if_neg (by omega)] at h3
    have e : ((bvs D).drop a).take k = bvs ((D.drop a).take k) := by simp [bvs]
    rw [e] at h3
    exact h3
  rw [splitBy_length]
  have hout : Sl w2 w2.heap.size A (ls.length + 1) c (restVals ad cd ls ls.length ++ [.slice (some (ad.add ls.sum)) (m - ls.sum) (cd - ls.sum)]) := by
    obtain ⟨A', c', he, hs', hbase⟩ := own_sl how
    cases he
    refine ⟨hs'.len, hs'.cap, hs'.mx, fun hn => ?_⟩
    obtain ⟨a1, e1, hb1, hc1⟩ := hs'.at_ hn
    obtain ⟨a2, e2, hb2⟩ := hbase hn
    rw [e1] at e2
    cases e2
    exact ⟨a1, e1, by omega, fun j u hu => (hkeep _ (.inr (by rw [block_add]; exact ⟨hb2, hb1⟩))).trans (hc1 j u hu)⟩
  refine ⟨hout, splitBy_length _ _, fun i p hi => ?_⟩
  have hil : i < ls.length + 1 := by
    have := (List.getElem?_eq_some_iff.1 hi).1
    rwa [splitBy_length] at this
  have hvl : (restVals ad cd ls ls.length).length = ls.length := by simp [restVals]
  by_cases hik : i < ls.length
  · obtain ⟨n, hn⟩ : ∃ n, ls[i]? = some n := ⟨_, List.getElem?_eq_getElem hik⟩
    rw [splitBy_get ls D i n hn] at hi
    injection hi with hi
    have hsn := sum_take ls i n hn
    have hsl := sum_take_le ls (i + 1)
    have hk := key (ls.take i).sum n (by omega) (by omega)
    rw [hi] at hk
    have hlen : p.length = n := by rw [← hi, List.length_take, List.length_drop, hl]; omega
    rw [hlen]
    refine ⟨_, _, ?_, hk⟩
    rw [List.getElem?_append_left (by omega)]
    unfold restVals
    rw [List.getElem?_map, List.getElem?_range hik]
    simp only [Option.map_some, hn, Option.getD_some]
  · obtain rfl : i = ls.length := by omega
    rw [splitBy_last] at hi
    injection hi with hi
    have hlen : p.length = m - ls.sum := by rw [← hi, List.length_drop, hl]
    have hk := key ls.sum (m - ls.sum) (by omega) (by omega)
    rw [List.take_of_length_le (by rw [List.length_drop, hl]; omega), hi] at hk
    rw [hlen]
    refine ⟨_, _, ?_, hk⟩
    rw [List.getElem?_append_right (by omega), hvl]
    simp
/-- a new block of one cell reads as a slice, behind a draw too -/
theorem sl_new1 (W : World) (x : Value) (t : TypeId) : Sl (W.alloc (.cells #[x] t)).drew (W.alloc (.cells #[x] t)).heap.size (some ⟨W.heap.size, 0, none⟩) 1 1 [x] :=
  (sl_lit (xs := [x]) (heap_new W (.cells #[x] t)) rfl (by simp)).drew
theorem Blk.put3 {w : World} {g : Nat} {t : TypeId} {x0 x1 x2 : Value} (b : Blk w g t #[x0, x1, x2]) (u0 u1 u2 : Value) : Blk (((w.setCell ⟨g, 0, none⟩ u0).setCell ⟨g, 1, none⟩ u1).setCell ⟨g, 2, none⟩ u2) g t #[u0, u1, u2] := by
  have := ((b.set_ 0 u0).set_ 1 u1).set_ 2 u2
  simpa using this
theorem Blk.put2 {w : World} {g : Nat} {t : TypeId} {x0 x1 : Value} (b : Blk w g t #[x0, x1]) (u0 u1 : Value) : Blk ((w.setCell ⟨g, 0, none⟩ u0).setCell ⟨g, 1, none⟩ u1) g t #[u0, u1] := by
  have := (b.set_ 0 u0).set_ 1 u1
  simpa using this
theorem below_put3 {B : Nat} {a w : World} (hb : Below B a w) {g : Nat} (hg : B ≤ g) (u0 u1 u2 : Value) : Below B a (((w.setCell ⟨g, 0, none⟩ u0).setCell ⟨g, 1, none⟩ u1).setCell ⟨g, 2, none⟩ u2) :=
  ((hb.setCell (p := ⟨g, 0, none⟩) hg u0).setCell (p := ⟨g, 1, none⟩) hg u1).setCell (p := ⟨g, 2, none⟩) hg u2
theorem below_put2 {B : Nat} {a w : World} (hb : Below B a w) {g : Nat} (hg : B ≤ g) (u0 u1 : Value) : Below B a ((w.setCell ⟨g, 0, none⟩ u0).setCell ⟨g, 1, none⟩ u1) :=
  (hb.setCell (p := ⟨g, 0, none⟩) hg u0).setCell (p := ⟨g, 1, none⟩) hg u1

set_option maxRecDepth 100000 in
set_option maxHeartbeats 4000000 in
theorem rest_any (A : Option Addr) (n c pos : Nat) (Ab : Option Addr) (nb cb : Nat) (bs : List UInt8) (F : Nat) (w : World) (Bb : Nat) (h : Sl w w.heap.size A n c (bvs (bbs (unpack bs)))) (hb : Sl w Bb Ab nb cb (bvs bs)) (hBb : Bb ≤ w.heap.size) (hn : nb ≤ 1000000) (hp : pos ≤ n) (hF : F ≤ 7) :
    Calls Try.prog 90 #[.agg #[.slice A n c, .int .i64 pos], .slice Ab nb cb, .int .u64 F] w (RestIs w Bb (decide (F < 4)) (decide (F / 2 % 2 = 0)) (restRes bs (decide (F % 2 = 1)) pos)) := by
  obtain ⟨i0, hi, hz0, hz1, hz2⟩ := info_parts int_info
  have hnb : bs.length = nb := by simpa using hb.len
  have hn8 : n = 8 * bs.length := by have := h.len; simp at this; omega
  have HNB := Lib.hid hnb
  have HN8 := Lib.hid hn8
  obtain ⟨R, hR⟩ : ∃ R, readLens bs 64 (decide (F % 2 = 1)) pos [] = R := ⟨_, rfl⟩
  obtain ⟨RR, hRR⟩ : ∃ RR, lenRes bs (decide (F % 2 = 1)) pos = RR := ⟨_, rfl⟩
  obtain ⟨RF, hRF⟩ : ∃ RF, restRes bs (decide (F % 2 = 1)) pos = RF := ⟨_, rfl⟩
  have hRR2 : RR = afterAlign bs R := by rw [← hR, ← hRR]; rfl
  have hRF2 : RF = afterLens bs RR := by rw [← hRF, ← hRR]; rfl
  rw [hRF]
  have HR := Lib.hid hR
  have HRR := Lib.hid hRR2
  have HRF := Lib.hid hRF2
  have HRR0 := Lib.hid hRR
  clear hR hRR hRR2 hRF hRF2
  have hB0 := ((Below.refl w.heap.size w).alloc (Nat.le_refl _) (.cells #[.slice A n c, .int .i64 pos] 141)).alloc (by simp) (.cells #[.bool false, .bool false, .slice none 0 0] 24)
  have b3 := (Blk.new w 141 #[.slice A n c, .int .i64 pos]).alloc (.cells #[.bool false, .bool false, .slice none 0 0] 24)
  have b6 := Blk.new (w.alloc (.cells #[.slice A n c, .int .i64 pos] 141)) 24 #[.bool false, .bool false, .slice none 0 0]
  rw [World.size_alloc] at b6
  have hsz0 : ((w.alloc (.cells #[.slice A n c, .int .i64 pos] 141)).alloc (.cells #[.bool false, .bool false, .slice none 0 0] 24)).heap.size = w.heap.size + 2 := by simp
  obtain ⟨m0, hm0⟩ : ∃ m0, decide (F % 2 = 1) = m0 := ⟨_, rfl⟩
  have hm1 : ((F : Int) % 2 == 1) = m0 := by rw [← hm0, Bool.eq_iff_iff]; simp; omega
  rw [hm0] at HR HRR0
  have HM0 := Lib.hid hm0
  clear hm0 hnb hn8
  go_enter Try.func90, Try.ntmps90
  go_wp2
  clear hm1
  generalize (w.alloc (.cells #[.slice A n c, .int .i64 pos] 141)).alloc (.cells #[.bool false, .bool false, .slice none 0 0] 24) = w1 at *
  have HSZ := Lib.hid hsz0
  clear hsz0
  go_loopw [8, 9, 10] (fun l s m wr => ∃ (acc : List Nat) (more' : Bool) (q : Nat), m = .bool more' ∧ s = .int .i64 (acc.sum : Nat) ∧ acc.length ≤ 63 ∧ acc.sum ≤ 2047 * acc.length ∧ Hid (readLens bs (64 - acc.length) more' q acc = R) ∧
      Hid (q ≤ 8 * bs.length) ∧ Blk wr w.heap.size 141 #[.slice A n c, .int .i64 q] ∧ Blk wr (w.heap.size + 1) 24 #[.bool false, .bool false, .slice none 0 0] ∧ wr.ownsRow (w.heap.size + 2) 3 1 l acc.length (i64s acc) ∧ Below w.heap.size w wr ∧ w.heap.size + 2 ≤ wr.heap.size) (fun l _ _ _ => 64 - lenOfV l)
  case atStart => exact ⟨[], m0, pos, rfl, rfl, by simp, by simp, HR, Lib.hid (by have := HN8.out; omega), b3, b6, World.ownsRow_nil _ _ _ _, hB0, by have := HSZ.out; omega⟩
  case round =>
    clear b3 b6 hB0
    obtain ⟨acc, more', q, rfl, rfl, hal, hsum, HRD, HQ, b3, b6, how, hB, hszr⟩ := hrel
    have x0 := b3.cell 0
    have x1 := b3.cell 1
    have y0 := b3.frozen 0
    have y1 := b3.frozen 1
    simp at x0 x1
    have z0 := b6.cell 0
    have z1 := b6.cell 1
    have z2 := b6.cell 2
    have f0 := b6.frozen 0
    have f1 := b6.frozen 1
    have f2 := b6.frozen 2
    simp at z0 z1 z2
    have hsl := (h.below hB).more (show w.heap.size ≤ wr.heap.size by omega)
    cases more' with
    | true =>
      obtain ⟨f, hf⟩ : ∃ f, 64 - acc.length = f + 1 := ⟨63 - acc.length, by omega⟩
      have hrd2 := HRD.out
      rw [hf] at hrd2
      simp only [readLens] at hrd2
      have HR2 := Lib.hid hrd2
      have HFF := Lib.hid hf
      clear hrd2 hf
      by_cases hfit : 8 * bs.length < q + 12
      · have hget := rget_short A n c q 12 wr (by have := HN8.out; have := HNB.out; omega) (by have := HQ.out; have := HN8.out; omega) (by omega) (by have := HN8.out; omega)
        have hR5 : R = .inl 5 := by have := HR2.out; rw [if_pos hfit] at this; exact this.symm
        have HG := Lib.hid hget
        have H5 := Lib.hid hR5
        clear hget hR5 hfit
        go_wp2_with fail
        refine HG.out.mono ?_
        rintro e1 w2 ⟨rfl, hb2⟩
        have c6 := b6.below hb2 b6.lt
        have z0' := c6.cell 0
        have z1' := c6.cell 1
        have z2' := c6.cell 2
        have f0' := c6.frozen 0
        have f1' := c6.frozen 1
        have f2' := c6.frozen 2
        simp at z0' z1' z2'
        clear x0 x1 y0 y1 z0 z1 z2 f0 f1 f2
        have hs2 : w.heap.size + 1 < w2.heap.size := by have := hb2.size; omega
        go_wp2
        obtain ⟨q0, q1, q2⟩ := ((c6.put3 (.bool false) (.bool false) (.slice none 0 0)).alloc (.cells #[.slice A n c, .int .i64 q] 141)).three
        have hB2 := hB.trans (hb2.mono (by omega))
        exact bodyPost_ret (v := .tuple #[.agg #[.bool false, .bool false, .slice none 0 0], .int .i64 5]) (by simp [results, Try.results90, go_sem, q0, q1, q2]) rfl ⟨(below_put3 hB2 (by omega) _ _ _).alloc (by simp [World.setCell]; omega) _, .inl ⟨5, by rw [HRF.out, HRR.out, H5.out]; rfl, rfl⟩⟩
      · have hget := rget_ok A n c q 12 (unpack bs) wr hsl (by have := HN8.out; have := HNB.out; omega) (by omega) (by have := HN8.out; omega)
        rw [unpack_cut bs q 12 (by omega)] at hget
        have hV := val_lt (bitsAt bs q 12)
        rw [bitsAt_length] at hV
        have hR2 := HR2.out
        rw [if_neg hfit] at hR2
        have HG := Lib.hid hget
        have HFit := Lib.hid hfit
        clear hget hfit HR2
        generalize val (bitsAt bs q 12) = V at *
        have hwrp : IntKind.i64.wrap ((V : Int) % 2048) = ((V % 2048 : Nat) : Int) := by rw [IntWalk.i64_in _ (by omega)]; omega
        obtain ⟨k, hk⟩ : ∃ k, V % 2048 = k := ⟨_, rfl⟩
        obtain ⟨m', hm'⟩ : ∃ m', decide (V / 2048 = 1) = m' := ⟨_, rfl⟩
        have hmo : decide ((2048 : Int) ≤ V) = m' := by rw [← hm', Bool.eq_iff_iff]; simp; omega
        rw [hk] at hwrp hR2
        rw [hm'] at hR2
        have hn2 : k < 2048 := by omega
        have HR3 := Lib.hid hR2
        clear hR2 hk hm' hV
        obtain ⟨Al, cl, rfl, hsl2, _⟩ := own_sl how
        by_cases hbad : k = 0 ∨ 63 ≤ acc.length
        · have hR9 : R = .inl 9 := by have := HR3.out; rw [if_pos hbad] at this; exact this.symm
          have H9 := Lib.hid hR9
          clear hR9
          have hcase : (((k : Int) == 0) = true) ∨ (((k : Int) == 0) = false ∧ ((acc.length : Int) == 63) = true) := by
            by_cases h0 : k = 0
            · exact .inl (by simp; omega)
            · exact .inr ⟨by simp; omega, by simp; omega⟩
          clear hbad HR3
          rcases hcase with hk0 | ⟨hk0, hk1⟩
          all_goals
            go_wp2_with fail
            refine HG.out.mono ?_
            rintro e1 w2 ⟨rfl, hb2'⟩
            have c3 := b3.below hb2' b3.lt
            have c6 := b6.below hb2' b6.lt
            have hB2 := hB.trans (hb2'.mono (by omega))
            have hs2 : w.heap.size + 1 < w2.heap.size := by have := hb2'.size; omega
            have hs3 : w.heap.size < w2.heap.size := by omega
            clear x0 x1 y0 y1 z0 z1 z2 f0 f1 f2 hb2'
            have x0 := c3.cell 0
            have x1 := c3.cell 1
            have y0 := c3.frozen 0
            have y1 := c3.frozen 1
            simp at x0 x1
            have z0 := c6.cell 0
            have z1 := c6.cell 1
            have z2 := c6.cell 2
            have f0 := c6.frozen 0
            have f1 := c6.frozen 1
            have f2 := c6.frozen 2
            simp at z0 z1 z2
            have d6 := ((c6.far (p := ⟨w.heap.size, 0, none⟩) (by simp) (.slice A n c)).far (p := ⟨w.heap.size, 1, none⟩) (by simp) (.int .i64 ((q : Int) + 12)))
            have hB3 := (below_put2 hB2 (Nat.le_refl _) (.slice A n c) (.int .i64 ((q : Int) + 12)))
            have HD6 := Lib.hid d6
            have HB3 := Lib.hid hB3
            clear d6 hB3
            go_wp2
            obtain ⟨q0, q1, q2⟩ := ((HD6.out.put3 (.bool false) (.bool false) (.slice none 0 0)).alloc (.cells #[.slice A n c, .int .i64 ((q : Int) + 12)] 141)).three
            exact bodyPost_ret (v := .tuple #[.agg #[.bool false, .bool false, .slice none 0 0], .int .i64 9]) (by simp [results, Try.results90, go_sem, q0, q1, q2]) rfl ⟨(below_put3 HB3.out (by omega) _ _ _).alloc (by simp [World.setCell]; omega) _, .inl ⟨9, by rw [HRF.out, HRR.out, H9.out]; rfl, rfl⟩⟩
        · have hR4 := HR3.out
          rw [if_neg hbad] at hR4
          have hb2 : ((k : Int) == 0) = false := by simp; omega
          have hb3 : ((acc.length : Int) == 63) = false := by simp; omega
          have hal2 : acc.length < 63 := by omega
          have HR4 := Lib.hid hR4
          have HN0 := Lib.hid hbad
          clear hR4 hbad HR3
          go_wp2_with fail
          refine HG.out.mono ?_
          rintro e1 w2 ⟨rfl, hb2'⟩
          have c3 := b3.below hb2' b3.lt
          have c6 := b6.below hb2' b6.lt
          have how2 := own_below how hb2' (Nat.le_refl _)
          have hB2 := hB.trans (hb2'.mono (by omega))
          have hs2 : w.heap.size + 1 < w2.heap.size := by have := hb2'.size; omega
          have hs3 : w.heap.size < w2.heap.size := by omega
          clear x0 x1 y0 y1 z0 z1 z2 f0 f1 f2 hb2'
          have x0 := c3.cell 0
          have x1 := c3.cell 1
          have y0 := c3.frozen 0
          have y1 := c3.frozen 1
          simp at x0 x1
          have d3 := (c3.put2 (.slice A n c) (.int .i64 ((q : Int) + 12))).alloc (.cells #[.slice A n c, .int .i64 ((q : Int) + 12)] 141)
          have d6 := ((c6.far (p := ⟨w.heap.size, 0, none⟩) (by simp) (.slice A n c)).far (p := ⟨w.heap.size, 1, none⟩) (by simp) (.int .i64 ((q : Int) + 12))).alloc (.cells #[.slice A n c, .int .i64 ((q : Int) + 12)] 141)
          have how3 := (own_store (i := 1) (own_store (i := 0) how2 c3 (by decide) (.slice A n c)) (c3.set_ 0 (.slice A n c)) (by decide) (.int .i64 ((q : Int) + 12))).alloc (.cells #[.slice A n c, .int .i64 ((q : Int) + 12)] 141)
          have hB3 := (below_put2 hB2 (Nat.le_refl _) (.slice A n c) (.int .i64 ((q : Int) + 12))).alloc (by simp [World.setCell]; omega) (.cells #[.slice A n c, .int .i64 ((q : Int) + 12)] 141)
          have hsz3 : (((w2.setCell ⟨w.heap.size, 0, none⟩ (.slice A n c)).setCell ⟨w.heap.size, 1, none⟩ (.int .i64 ((q : Int) + 12))).alloc (.cells #[.slice A n c, .int .i64 ((q : Int) + 12)] 141)).heap.size = w2.heap.size + 1 := by simp [World.setCell]
          have HSZ3 := Lib.hid hsz3
          have HD3 := Lib.hid d3
          have HD6 := Lib.hid d6
          have HB3 := Lib.hid hB3
          have HB2 := Lib.hid hb2
          clear hsz3 d3 d6 hB3 c3 c6 hB2 how2
          go_wp2_with (at_builtin; refine wpList_append_own _ rfl _ _ 137 rfl (w.heap.size + 2) 3 i0 (.int .i64 0) 1 8 und137 hi hz0 hz1 hz2 rfl (by decide) _ _ _ rfl (how3.alloc _) ⟨w2.heap.size + 1, 0, none⟩ 1 1 [.int .i64 k] rfl rfl ?c1 ?c2 ?c3 ?c4 ?c5 ?_)
          case c1 => have := cell_one_new (((w2.setCell ⟨w.heap.size, 0, none⟩ (.slice A n c)).setCell ⟨w.heap.size, 1, none⟩ (.int .i64 ((q : Int) + 12))).alloc (.cells #[.slice A n c, .int .i64 ((q : Int) + 12)] 141)) (.int .i64 k) 3; rw [HSZ3.out] at this; exact this
          case c2 => simp [Value.oneCell']
          case c3 => unfold maxLen; omega
          case c4 => omega
          case c5 => simp [World.setCell]; omega
          intro v' w5 hown' hgrow _
          generalize ((w2.setCell ⟨w.heap.size, 0, none⟩ (.slice A n c)).setCell ⟨w.heap.size, 1, none⟩ (.int .i64 ((q : Int) + 12))).alloc (.cells #[.slice A n c, .int .i64 ((q : Int) + 12)] 141) = w3 at *
          have g3 := (HD3.out.alloc (.cells #[.int .i64 k] 3)).grown hgrow (fun e => own_blk_ne how3 HD3.out (by decide) e.symm)
          have g6 := (HD6.out.alloc (.cells #[.int .i64 k] 3)).grown hgrow (fun e => own_blk_ne how3 HD6.out (by decide) e.symm)
          have hB5 := (HB3.out.alloc HB3.out.size (.cells #[.int .i64 k] 3)).grown hgrow (by have := HB3.out.size; simp; omega) (fun j hj => by have := (how3.lt j hj).1; omega)
          have hsz5 : w.heap.size + 2 ≤ w5.heap.size := by have h5 := hgrow.size; have := HSZ3.out; simp at h5; omega
          have hlv := lenOfV_own hown'
          have HLV := Lib.hid hlv
          clear hlv
          go_wp2
          refine ⟨⟨acc ++ [k], m', q + 12, rfl, by simp, by simp; omega, by simp; omega, Lib.hid ?_, Lib.hid (by have := HFit.out; omega), ?_, g6, by simpa [i64s] using hown', hB5, hsz5⟩, by rw [HLV.out]; simp [lenOfV]; omega⟩
          · have := HR4.out
            rw [show f = 64 - (acc ++ [k]).length by have := HFF.out; simp; omega] at this
            exact this
          · push_cast
            exact g3
    | false =>
      have hR6 : R = .inr (acc, q) := by
        have := HRD.out
        rw [← this]
        cases 64 - acc.length <;> rfl
      have hal1 := ralignR_any A n c q bs wr hsl (by have := HN8.out; have := HNB.out; omega) (by have := HQ.out; have := HN8.out; omega)
      have hpq : q + padN q ≤ 8 * bs.length := by have := HQ.out; unfold padN; omega
      have hp8 : (q + padN q) % 8 = 0 := by unfold padN; omega
      obtain ⟨Al, cl, rfl, hsl2, _⟩ := own_sl how
      have HAL := Lib.hid hal1
      have HR6 := Lib.hid hR6
      have HPQ := Lib.hid hpq
      have HP8 := Lib.hid hp8
      clear hal1 hR6 hpq hp8 hsl
      by_cases hz : val (bitsAt bs q (padN q)) = 0
      · have hRX : RR = .inr (acc, q + padN q) := by rw [HRR.out, HR6.out]; simp only [afterAlign, if_pos hz]
        have hRY : RF = partsRes acc (bs.drop ((q + padN q) / 8)) := by rw [HRF.out, hRX]; rfl
        have hal := HAL.out
        simp only [if_pos hz] at hal
        generalize q + padN q = p at *
        have HRY := Lib.hid hRY
        have HAL2 := Lib.hid hal
        clear hRX hRY hal hz HAL
        go_wp2_with fail
        refine HAL2.out.mono ?_
        rintro e1 w2 ⟨rfl, hb2'⟩
        have c3 := b3.below hb2' b3.lt
        have c6 := b6.below hb2' b6.lt
        have how2 := own_below how hb2' (Nat.le_refl _)
        have hB2 := hB.trans (hb2'.mono (by omega))
        have hs2 : w.heap.size + 1 < w2.heap.size := by have := hb2'.size; omega
        have hs3 : w.heap.size < w2.heap.size := by omega
        clear x0 x1 y0 y1 z0 z1 z2 f0 f1 f2 hb2'
        have x0 := c3.cell 0
        have x1 := c3.cell 1
        have y0 := c3.frozen 0
        have y1 := c3.frozen 1
        simp at x0 x1
        obtain ⟨P8, hP8⟩ : ∃ P8, p / 8 = P8 := ⟨_, rfl⟩
        have hPi : (p : Int) / 8 = P8 := by omega
        have hP8n : P8 ≤ nb := by have := HPQ.out; have := HNB.out; omega
        rw [hP8] at HRY
        have hcut := hb.cut hP8n
        have hcap := hb.cap
        have hmx := hb.mx
        have e1 : (bvs bs).drop P8 = bvs (bs.drop P8) := by simp [bvs]
        have hDl : (bs.drop P8).length = nb - P8 := by rw [List.length_drop, HNB.out]
        rw [e1] at hcut
        generalize bs.drop P8 = D at *
        have HDl := Lib.hid hDl
        have hc3 := c3.put2 (.slice A n c) (.int .i64 p)
        have hc6 := (c6.far (p := ⟨w.heap.size, 0, none⟩) (by simp) (.slice A n c)).far (p := ⟨w.heap.size, 1, none⟩) (by simp) (.int .i64 p)
        have how3 := own_store (i := 1) (own_store (i := 0) how2 c3 (by decide) (.slice A n c)) (c3.set_ 0 (.slice A n c)) (by decide) (.int .i64 p)
        have hB3 := below_put2 hB2 (Nat.le_refl _) (.slice A n c) (.int .i64 p)
        have hsz3 : ((w2.setCell ⟨w.heap.size, 0, none⟩ (.slice A n c)).setCell ⟨w.heap.size, 1, none⟩ (.int .i64 p)).heap.size = w2.heap.size := by simp [World.setCell]
        have HSZ3 := Lib.hid hsz3
        have HC6 := Lib.hid hc6
        have HB3 := Lib.hid hB3
        have HOW := Lib.hid how3
        clear hsz3 hc6 hB3 how3 e1 hP8 hDl hc3
        have z0 := c6.cell 0
        have z1 := c6.cell 1
        have z2 := c6.cell 2
        have f0 := c6.frozen 0
        have f1 := c6.frozen 1
        have f2 := c6.frozen 2
        simp at z0 z1 z2
        by_cases h5 : D.length ≤ acc.sum
        · have hF5 : RF = .inl 5 := by rw [HRY.out]; unfold partsRes; rw [if_pos h5]
          have HF5 := Lib.hid hF5
          have h5' : (nb : Int) - P8 ≤ acc.sum := by have := HDl.out; omega
          clear hF5 h5
          by_cases hcp : cb = P8
          all_goals
            go_wp2
            obtain ⟨q0, q1, q2⟩ := (HC6.out.put3 (.bool false) (.bool false) (.slice none 0 0)).three
            exact bodyPost_ret (v := .tuple #[.agg #[.bool false, .bool false, .slice none 0 0], .int .i64 5]) (by simp [results, Try.results90, go_sem, q0, q1, q2]) rfl ⟨below_put3 HB3.out (by omega) _ _ _, .inl ⟨5, HF5.out, rfl⟩⟩
        · have h5' : ¬ (nb : Int) - P8 ≤ acc.sum := by have := HDl.out; omega
          have hcp : ¬ cb = P8 := by have := HDl.out; omega
          rw [if_neg hcp] at hcut
          by_cases h9 : 32767 < D.length
          · have hF5 : RF = .inl 9 := by rw [HRY.out]; unfold partsRes; rw [if_neg h5, if_pos h9]
            have HF5 := Lib.hid hF5
            have h9' : (32767 : Int) < (nb : Int) - P8 := by have := HDl.out; omega
            clear hF5 h9 h5
            go_wp2
            obtain ⟨q0, q1, q2⟩ := (HC6.out.put3 (.bool false) (.bool false) (.slice none 0 0)).three
            exact bodyPost_ret (v := .tuple #[.agg #[.bool false, .bool false, .slice none 0 0], .int .i64 9]) (by simp [results, Try.results90, go_sem, q0, q1, q2]) rfl ⟨below_put3 HB3.out (by omega) _ _ _, .inl ⟨9, HF5.out, rfl⟩⟩
          · have hF5 : RF = .inr (splitBy acc D) := by rw [HRY.out]; unfold partsRes; rw [if_neg h5, if_neg h9]
            have HF5 := Lib.hid hF5
            have h9' : ¬ (32767 : Int) < (nb : Int) - P8 := by have := HDl.out; omega
            clear hF5 h9 h5
            have hF4 : decide ((F : Int) < 4) = decide (F < 4) := by rw [Bool.eq_iff_iff]; simp; omega
            have hF2 : ((F : Int) / 2 % 2 == 0) = decide (F / 2 % 2 = 0) := by rw [Bool.eq_iff_iff]; simp; omega
            generalize decide (F < 4) = s at *
            generalize decide (F / 2 % 2 = 0) = en at *
            obtain ⟨ad, hado, hadb, _⟩ := hcut.at_ (by have := HDl.out; omega)
            obtain ⟨m, hm⟩ : ∃ m, nb - P8 = m := ⟨_, rfl⟩
            obtain ⟨cd, hcd⟩ : ∃ cd, cb - P8 = cd := ⟨_, rfl⟩
            rw [hado, hm, hcd] at hcut
            have hmcd : m ≤ cd := hcut.cap
            have hcdm : cd ≤ 9223372036854775807 := hcut.mx
            have hm9 : m ≤ 32767 := by omega
            have hm5 : acc.sum < m := by omega
            have hd5 : decide (m ≤ acc.sum) = false := by simp; omega
            have hd9 : decide ((32767 : Int) < m) = false := by simp; omega
            rw [hm] at HDl
            clear h5' h9' hcap hmx
            go_wp2
            clear hF4 hF2 hd5 hd9
            have hc3 := (HC6.out.alloc (.cells #[.bool s, .bool en, .slice none 0 0] 24))
            have hcB := HB3.out.alloc (by have := HSZ3.out; omega) (.cells #[.bool s, .bool en, .slice none 0 0] 24)
            have hcO := HOW.out.alloc (.cells #[.bool s, .bool en, .slice none 0 0] 24)
            have hcG := Blk.new ((w2.setCell ⟨w.heap.size, 0, none⟩ (.slice A n c)).setCell ⟨w.heap.size, 1, none⟩ (.int .i64 p)) 24 #[.bool s, .bool en, .slice none 0 0]
            rw [HSZ3.out] at hcG
            generalize ((w2.setCell ⟨w.heap.size, 0, none⟩ (.slice A n c)).setCell ⟨w.heap.size, 1, none⟩ (.int .i64 p)).alloc (.cells #[.bool s, .bool en, .slice none 0 0] 24) = w4 at *
            generalize w2.heap.size = G at *
            clear x0 x1 y0 y1 z0 z1 z2 f0 f1 f2 c3 c6 how2 hB2 hPi hado hm hcd hs3 HC6 HB3 HOW HSZ3 hP8n hcp HAL2 hB how b3 b6 hsl2 HRD hb h
            obtain ⟨j0, hj0, hk0, hk1, hk2⟩ := info_parts sl_info
            have hG4 := hcG.lt
            go_loopw [16, 18] (fun vd i wr => ∃ j : Nat, j ≤ acc.length ∧ i = .int .i64 j ∧ vd = .slice (some (ad.add (acc.take j).sum)) (m - (acc.take j).sum) (cd - (acc.take j).sum) ∧
              (∃ vo, Blk wr G 24 #[.bool s, .bool en, vo] ∧ wr.ownsRow (G + 1) 29 1 vo j (restVals ad cd acc j)) ∧ Blk wr (w.heap.size + 1) 24 #[.bool false, .bool false, .slice none 0 0] ∧
              wr.ownsRow (w.heap.size + 2) 3 1 (.slice Al acc.length cl) acc.length (i64s acc) ∧ Below w.heap.size w wr ∧ G + 1 ≤ wr.heap.size) (fun _ i _ => acc.length - (intOf i).toNat)
            case atStart => exact ⟨0, Nat.zero_le _, rfl, by simp [Addr.add], ⟨_, hcG, World.ownsRow_nil _ _ _ _⟩, hc3, hcO, hcB, by omega⟩
            case round =>
              clear hc3 hcB hcO hcG hG4
              obtain ⟨j, hj, rfl, rfl, ⟨vo, bG, hvo⟩, b6, how, hB, hszr⟩ := hrel
              have hsk := sum_take_le acc j
              obtain ⟨Ao, co, rfl, hso, _⟩ := own_sl hvo
              have g2 := bG.cell 2
              have gf2 := bG.frozen 2
              simp at g2
              by_cases hlt : j < acc.length
              · obtain ⟨k, hk⟩ : ∃ k, acc[j]? = some k := ⟨_, List.getElem?_eq_getElem (by omega)⟩
                have hsn := sum_take acc j k hk
                have hsk1 := sum_take_le acc (j + 1)
                obtain ⟨gl, cl', hcl, hgl, _⟩ := how.form (by omega)
                cases hcl
                have hcl1 := how.cellAt j (by omega)
                have hcl2 : (i64s acc)[j]? = some (.int .i64 (k : Int)) := by simp [i64s, hk]
                rw [hcl2] at hcl1
                have hrv := restVals_succ ad cd acc j k hk
                generalize (List.take j acc).sum = S at *
                have HSN := Lib.hid hsn
                have HRV := Lib.hid hrv
                have hSk : S + k ≤ acc.sum := by omega
                have hkm : k ≤ m - S := by omega
                have hkc : k ≤ cd - S := by omega
                have hkne : ¬ cd - S = k := by omega
                clear hsn hrv hk hcl2 hsk1
                have hjN : (j : Int) < (acc.length : Int) := by omega
                have hGl : G < wr.heap.size := by omega
                go_wp2
                go_cut [] (fun wx => ∃ (A5 : Option Addr) (c5 : Nat), Blk wx G 24 #[.bool s, .bool en, .slice A5 (j + 1) c5] ∧ wx.ownsRow (G + 1) 29 1 (.slice A5 (j + 1) c5) (j + 1) (restVals ad cd acc (j + 1)) ∧ Blk wx (w.heap.size + 1) 24 #[.bool false, .bool false, .slice none 0 0] ∧
                  wx.ownsRow (w.heap.size + 2) 3 1 (.slice (some ⟨gl, 0, none⟩) acc.length cl) acc.length (i64s acc) ∧ Below w.heap.size w wx ∧ G + 1 ≤ wx.heap.size)
                case first =>
                  go_region_law ((refine step_append_sl _ (by rfl) _ _ 22 (by rfl) (G + 1) 29 j0 (.slice none 0 0) 24 und22 hj0 hk0 hk1 hk2 rfl (.slice Ao j co) j (restVals ad cd acc j) (by rfl) (World.ownsRow.drew' (hvo.alloc (.cells #[.slice (some (ad.add S)) k (cd - S)] 29))) (wr.alloc (.cells #[.slice (some (ad.add S)) k (cd - S)] 29)).heap.size (some ⟨wr.heap.size, 0, none⟩) 1 1 [.slice (some (ad.add S)) k (cd - S)] (by rfl) (sl_new1 wr (.slice (some (ad.add S)) k (cd - S)) 29) (by simp [Value.oneCell']) (by unfold maxLen; omega) (by omega) (by simp; omega) ?_; intro v5 w5 hown5 hgrow5 _; obtain ⟨A5, c5, rfl, hs5, _⟩ := own_sl hown5; have hG5 := (bG.alloc (.cells #[.slice (some (ad.add S)) k (cd - S)] 29)).drew.grown hgrow5 (fun e => own_blk_ne hvo bG (by decide) e.symm); have q2 := hG5.cell 2; have q3 := hG5.frozen 2; simp at q2))
                  all_goals
                    have hG6 := hG5.set_ 2 (.slice A5 (j + 1) c5)
                    simp at hG6
                    have hown6 := own_store (i := 2) hown5 hG5 (by decide) (.slice A5 (j + 1) c5)
                    have b61 := ((b6.alloc (.cells #[.slice (some (ad.add S)) k (cd - S)] 29)).drew.grown hgrow5 (fun e => own_blk_ne hvo b6 (by decide) e.symm)).far (p := ⟨G, 2, none⟩) (by simp; omega) (.slice A5 (j + 1) c5)
                    have how5 := (World.ownsRow.drew' (how.alloc (.cells #[.slice (some (ad.add S)) k (cd - S)] 29))).kept hgrow5 (.inr (fun e => by
                      obtain ⟨o1, ho1, ⟨cs1, fr1, rfl⟩, _⟩ := own_isRow how rfl
                      obtain ⟨o2, ho2, ⟨cs2, fr2, rfl⟩, _⟩ := own_isRow hvo e.symm
                      rw [ho1] at ho2
                      cases ho2))
                    have how6 := own_store (i := 2) how5 hG5 (by decide) (.slice A5 (j + 1) c5)
                    have hB5 := (((hB.alloc (by omega) (.cells #[.slice (some (ad.add S)) k (cd - S)] 29)).drew).grown hgrow5 (by simp; omega) (fun g hg => by have := (hvo.lt g hg).1; omega)).setCell (p := ⟨G, 2, none⟩) (by simp; omega) (.slice A5 (j + 1) c5)
                    have hsz6 : G + 1 ≤ (w5.setCell ⟨G, 2, none⟩ (.slice A5 (j + 1) c5)).heap.size := by have := hgrow5.size; simp [World.setCell] at this ⊢; omega
                    go_wp2_with fail
                    go_meet
                    exact ⟨A5, c5, hG6, by rw [HRV.out]; exact hown6, b61, how6, hB5, hsz6⟩
                case rest =>
                  obtain ⟨A5, c5, hG6, hown6, b61, how6, hB5, hsz6⟩ := hcut
                  have hcl6 := how6.cellAt j (by omega)
                  have hcl7 : (i64s acc)[j]? = some (.int .i64 (k : Int)) := by rw [← how.cellAt j (by omega)]; exact hcl1
                  rw [hcl7] at hcl6
                  clear hcl7
                  go_wp2
                  go_roundw
                  case rel => exact ⟨j + 1, by omega, by go_num, by rw [HSN.out, ← add_add, Nat.sub_sub, Nat.sub_sub], ⟨_, hG6, hown6⟩, b61, how6, hB5, hsz6⟩
                  case measure => simp [intOf]; omega
              · obtain ⟨S, hS⟩ : ∃ S, acc.sum = S := ⟨_, rfl⟩
                have hSj : (acc.take j).sum = S := by rw [List.take_of_length_le (by omega)]; exact hS
                have hjl : j = acc.length := by omega
                rw [hSj]
                have HSm := Lib.hid (show S < m by omega)
                have HJ := Lib.hid hjl
                have HSS := Lib.hid hS
                have hGl : G < wr.heap.size := by omega
                have hwl : w.heap.size + 1 < wr.heap.size := by omega
                clear hSj hjl hS
                go_wp2_with (at_builtin; refine wpList_append_sl _ rfl _ _ 22 rfl (G + 1) 29 j0 (.slice none 0 0) 24 und22 hj0 hk0 hk1 hk2 rfl (.slice Ao j co) j (restVals ad cd acc j) rfl (hvo.alloc (.cells #[.slice (some (ad.add S)) (m - S) (cd - S)] 29)) (wr.alloc (.cells #[.slice (some (ad.add S)) (m - S) (cd - S)] 29)).heap.size (some ⟨wr.heap.size, 0, none⟩) 1 1 [.slice (some (ad.add S)) (m - S) (cd - S)] rfl (sl_lit (xs := [.slice (some (ad.add S)) (m - S) (cd - S)]) (heap_new wr _) rfl (by simp)) ?c2 ?c3 ?c4 ?c5 ?_)
                case c2 => simp [Value.oneCell']
                case c3 => unfold maxLen; omega
                case c4 => omega
                case c5 => simp; omega
                intro v5 w5 hown5 hgrow5 _
                obtain ⟨A5, c5, rfl, hs5, _⟩ := own_sl hown5
                have hG5 := (bG.alloc (.cells #[.slice (some (ad.add S)) (m - S) (cd - S)] 29)).grown hgrow5 (fun e => own_blk_ne hvo bG (by decide) e.symm)
                have b65 := (b6.alloc (.cells #[.slice (some (ad.add S)) (m - S) (cd - S)] 29)).grown hgrow5 (fun e => own_blk_ne hvo b6 (by decide) e.symm)
                have hB5 := (hB.alloc (by omega) (.cells #[.slice (some (ad.add S)) (m - S) (cd - S)] 29)).grown hgrow5 (by simp; omega) (fun g hg => by have := (hvo.lt g hg).1; omega)
                have hG6 := hG5.set_ 2 (.slice A5 (j + 1) c5)
                simp at hG6
                have hown6 := own_store (i := 2) hown5 hG5 (by decide) (.slice A5 (j + 1) c5)
                have b66 := b65.far (p := ⟨G, 2, none⟩) (by simp; omega) (.slice A5 (j + 1) c5)
                have hB6 := hB5.setCell (p := ⟨G, 2, none⟩) (by simp; omega) (.slice A5 (j + 1) c5)
                have HG6 := Lib.hid hG6
                have HO6 := Lib.hid hown6
                have H66 := Lib.hid b66
                have HB6 := Lib.hid hB6
                obtain ⟨r0, r1, r2⟩ := hG5.three
                have r3 := hG5.frozen 2
                obtain ⟨t0, t1, t2⟩ := b65.three
                have t3 := b65.frozen 0
                have t4 := b65.frozen 1
                have t5 := b65.frozen 2
                clear hG6 hown6 b66 hB6 g2 gf2 hown5 hgrow5 hG5 b65 hB5 hs5
                go_wp2
                have hd7 := H66.out.put3 (.bool s) (.bool en) (.slice A5 (j + 1) c5)
                obtain ⟨q0, q1, q2⟩ := hd7.three
                have hB7 := below_put3 HB6.out (show w.heap.size ≤ w.heap.size + 1 by omega) (.bool s) (.bool en) (.slice A5 (j + 1) c5)
                have hO7 := own_store (i := 2) (own_store (i := 1) (own_store (i := 0) HO6.out H66.out (by decide) (.bool s)) (H66.out.set_ 0 (.bool s)) (by decide) (.bool en)) ((H66.out.set_ 0 (.bool s)).set_ 1 (.bool en)) (by decide) (.slice A5 (j + 1) c5)
                obtain rfl := HJ.out
                obtain rfl := HSS.out
                have hfin0 := rest_sls (D := D) hO7 (hcut.keep fun p hp => hB7.cell (by omega)) (Nat.le_trans hBb hB7.size) HSm.out
                have hfin : Stays w.heap.size Bb _ A5 c5 _ (splitBy acc D) := fun W hW hsz => hfin0 W (fun p hp => hW p (by rcases hp with h | h; exact .inl h; exact .inr (by omega))) hsz
                refine bodyPost_ret (v := .tuple #[.agg #[.bool s, .bool en, .slice A5 (acc.length + 1) c5], .int .i64 0]) (by simp [results, Try.results90, go_sem, q0, q1, q2]) rfl ⟨hB7, .inr ⟨splitBy acc D, A5, c5, _, HF5.out, by rw [splitBy_length], hfin⟩⟩
      · have hRX : RR = .inl 9 := by rw [HRR.out, HR6.out]; simp only [afterAlign, if_neg hz]
        have hRY : RF = .inl 9 := by rw [HRF.out, hRX]; rfl
        have hal := HAL.out
        simp only [if_neg hz] at hal
        have HRY := Lib.hid hRY
        have HAL2 := Lib.hid hal
        clear hRX hRY hal hz HAL
        go_wp2_with fail
        refine HAL2.out.mono ?_
        rintro e1 w2 ⟨rfl, hb2'⟩
        have c3 := b3.below hb2' b3.lt
        have c6 := b6.below hb2' b6.lt
        have hB2 := hB.trans (hb2'.mono (by omega))
        have hs2 : w.heap.size + 1 < w2.heap.size := by have := hb2'.size; omega
        have hs3 : w.heap.size < w2.heap.size := by omega
        clear x0 x1 y0 y1 z0 z1 z2 f0 f1 f2 hb2'
        have x0 := c3.cell 0
        have x1 := c3.cell 1
        have y0 := c3.frozen 0
        have y1 := c3.frozen 1
        simp at x0 x1
        have hc6 := (c6.far (p := ⟨w.heap.size, 0, none⟩) (by simp) (.slice A n c)).far (p := ⟨w.heap.size, 1, none⟩) (by simp) (.int .i64 q)
        have hB3 := below_put2 hB2 (Nat.le_refl _) (.slice A n c) (.int .i64 q)
        have HC6 := Lib.hid hc6
        have HB3 := Lib.hid hB3
        clear hc6 hB3
        have z0 := c6.cell 0
        have z1 := c6.cell 1
        have z2 := c6.cell 2
        have f0 := c6.frozen 0
        have f1 := c6.frozen 1
        have f2 := c6.frozen 2
        simp at z0 z1 z2
        go_wp2
        obtain ⟨q0, q1, q2⟩ := (HC6.out.put3 (.bool false) (.bool false) (.slice none 0 0)).three
        exact bodyPost_ret (v := .tuple #[.agg #[.bool false, .bool false, .slice none 0 0], .int .i64 9]) (by simp [results, Try.results90, go_sem, q0, q1, q2]) rfl ⟨below_put3 HB3.out (by omega) _ _ _, .inl ⟨9, HRY.out, rfl⟩⟩
end Go.Proofs.Ytchlbpfeiamieaa
