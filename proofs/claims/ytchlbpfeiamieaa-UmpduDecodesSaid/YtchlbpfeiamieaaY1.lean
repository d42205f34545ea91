/- The reference's reader: Get, Align. -/
import Derived.Test.YtchlbpfeiamieaaY0
namespace Go.Proofs.Ytchlbpfeiamieaa
open Go.RowKit

theorem unpack_cut (bs : List UInt8) (pos n : Nat) (h : pos + n ≤ 8 * bs.length) : ((unpack bs).drop pos).take n = bitsAt bs pos n := by
  apply List.ext_getElem?
  intro i
  unfold unpack bitsAt
  rw [List.getElem?_take]
  by_cases hi : i < n
  · rw [if_pos hi, List.getElem?_drop, List.getElem?_map, List.getElem?_map, List.getElem?_range (by omega), List.getElem?_range hi]
    rfl
  · rw [if_neg hi, List.getElem?_eq_none (by simp; omega)]
/-- a part of a slice -/
theorem Sl.mid {w : World} {B n c a m : Nat} {A : Option Addr} {xs : List Value} (h : Sl w B A n c xs) (hm : a + m ≤ n) : Sl w B (if c = a then A else A.map (·.add a)) m (c - a) ((xs.drop a).take m) := by
  have h1 := h.cut (k := a) (by omega)
  exact h1.upto' (k := m) (by omega)

/-- what Get gives -/
def GotIs (w : World) (A : Option Addr) (n c pos v : Nat) (er : Int) (e : Ending) (w' : World) : Prop :=
  e = .returned (.tuple #[.agg #[.slice A n c, .int .i64 pos], .int .u64 v, .int .i64 er]) ∧ Below w.heap.size w w'

set_option maxRecDepth 100000 in
set_option maxHeartbeats 1000000 in
theorem rget_short (A : Option Addr) (n c pos wd : Nat) (w : World) (hn : n ≤ 100000000) (hp : pos ≤ n) (hw : wd ≤ 64) (hs : n < pos + wd) :
    Calls Try.prog 89 #[.agg #[.slice A n c, .int .i64 pos], .int .i64 wd] w (GotIs w A n c pos 0 5) := by
  have h1 : (n : Int) - pos < wd := by omega
  go_enter Try.func89, Try.ntmps89
  go_wp2
  exact bodyPost_ret (v := .tuple #[.agg #[.slice A n c, .int .i64 pos], .int .u64 0, .int .i64 5]) (by simp [results, Try.results89, go_sem]) rfl ⟨rfl, ((Below.refl _ w).alloc (Nat.le_refl _) _).alloc (by simp) _⟩

set_option maxRecDepth 100000 in
set_option maxHeartbeats 1000000 in
theorem rget_ok (A : Option Addr) (n c pos wd : Nat) (l : List Bool) (w : World) (h : Sl w w.heap.size A n c (bvs (bbs l))) (hn : n ≤ 100000000) (hw : wd ≤ 64) (hs : pos + wd ≤ n) :
    Calls Try.prog 89 #[.agg #[.slice A n c, .int .i64 pos], .int .i64 wd] w (GotIs w A n c (pos + wd) (val ((l.drop pos).take wd)) 0) := by
  have hB := ((Below.refl w.heap.size w).alloc (Nat.le_refl _) (.cells #[.slice A n c, .int .i64 pos] 141)).alloc (by simp) (.cells #[.slice none 0 0, .int .i64 0] 141)
  have h1 : ¬ (n : Int) - pos < wd := by omega
  have hmid := h.mid hs
  have e1 : ((bvs (bbs l)).drop pos).take wd = bvs (bbs ((l.drop pos).take wd)) := by simp [bvs, bbs]
  rw [e1] at hmid
  have hcap := h.cap
  have hmx := h.mx
  replace hmid := hmid.below hB
  generalize hV : val ((l.drop pos).take wd) = V at *
  generalize (l.drop pos).take wd = ll at *
  subst hV
  clear e1 h
  by_cases hcp : c = pos
  · rw [if_pos hcp] at hmid
    subst hcp
    rw [Nat.sub_self] at hmid
    have hu := ruint_any _ _ _ _ ll _ hmid hw
    have HU := Lib.hid hu
    have HB := Lib.hid hB
    clear hu hmid hB
    go_enter Try.func89, Try.ntmps89
    go_wp2_with (go_at_call 148; refine HU.out.mono ?_; rintro e1 w1 ⟨rfl, rfl⟩)
    exact bodyPost_ret (v := .tuple #[.agg #[.slice A n c, .int .i64 ((c : Int) + wd)], .int .u64 (val ll), .int .i64 0]) (by simp [results, Try.results89, go_sem]) rfl ⟨by push_cast; rfl, ((Below.refl _ w).alloc (Nat.le_refl _) _).alloc (by simp) _⟩
  · rw [if_neg hcp] at hmid
    have hu := ruint_any _ _ _ _ ll _ hmid hw
    have HU := Lib.hid hu
    have HB := Lib.hid hB
    clear hu hmid hB
    go_enter Try.func89, Try.ntmps89
    go_wp2_with (go_at_call 148; refine HU.out.mono ?_; rintro e1 w1 ⟨rfl, rfl⟩)
    exact bodyPost_ret (v := .tuple #[.agg #[.slice A n c, .int .i64 ((pos : Int) + wd)], .int .u64 (val ll), .int .i64 0]) (by simp [results, Try.results89, go_sem]) rfl ⟨by push_cast; rfl, ((Below.refl _ w).alloc (Nat.le_refl _) _).alloc (by simp) _⟩

theorem val_none (l : List Bool) : val l = 0 ↔ ∀ b ∈ l, b = false := by
  induction l with
  | nil => simp [val]
  | cons b l ih =>
    rw [val_cons]
    have hp : 0 < 2 ^ l.length := Nat.two_pow_pos _
    cases b with
    | true => simp
    | false => simpa using ih

set_option maxRecDepth 100000 in
set_option maxHeartbeats 1000000 in
/-- the reader's Align -/
theorem ralignR_any (A : Option Addr) (n c pos : Nat) (bs : List UInt8) (w : World) (h : Sl w w.heap.size A n c (bvs (bbs (unpack bs)))) (hn : n ≤ 100000000) (hp : pos ≤ n) :
    Calls Try.prog 149 #[.agg #[.slice A n c, .int .i64 pos]] w fun e w' => e = .returned (.tuple #[.agg #[.slice A n c, .int .i64 (if val (bitsAt bs pos (padN pos)) = 0 then pos + padN pos else pos : Nat)], .int .i64 (if val (bitsAt bs pos (padN pos)) = 0 then 0 else 9)]) ∧ Below w.heap.size w w' := by
  have hl : 8 * bs.length = n := by have := h.len; simpa using this
  have hB := ((Below.refl w.heap.size w).alloc (Nat.le_refl _) (.cells #[.slice A n c, .int .i64 pos] 141)).alloc (by simp) (.cells #[.slice none 0 0, .int .i64 0] 141)
  have hh := h.below hB
  have HL := Lib.hid hl
  have hN : (pos + 7) / 8 * 8 = pos + padN pos := by unfold padN; omega
  have HN := Lib.hid hN
  have hpd : padN pos < 8 := by unfold padN; omega
  have hpm : ∀ k, k ≤ padN pos → ((pos + k) % 8 = 0 ↔ k = padN pos) := by intro k hk; unfold padN at hk ⊢; omega
  have HPM := Lib.hid hpm
  have hfit : pos + padN pos ≤ n := by rw [← hl]; unfold padN; omega
  clear hl hN hpm h hB
  generalize hP : padN pos = P at *
  clear hP
  have hcap := hh.cap
  have hmx := hh.mx
  obtain ⟨Z, hZ⟩ : ∃ Z, (if val (bitsAt bs pos P) = 0 then (0 : Int) else 9) = Z := ⟨_, rfl⟩
  obtain ⟨Q, hQ⟩ : ∃ Q, (if val (bitsAt bs pos P) = 0 then pos + P else pos) = Q := ⟨_, rfl⟩
  rw [hZ, hQ]
  have HZ := Lib.hid hZ
  have HQ := Lib.hid hQ
  clear hZ hQ
  go_enter Try.func149, Try.ntmps149
  go_wp2
  go_loop [4] (fun i => ∃ k : Nat, k ≤ P ∧ i = .int .i64 ((pos : Int) + k) ∧ Hid (∀ j, j < k → bitB bs (pos + j) = false)) (fun i => P - (intOf i - pos).toNat)
  case atStart => exact ⟨0, Nat.zero_le _, by simp, Lib.hid (fun j hj => absurd hj (by omega))⟩
  case round =>
    obtain ⟨k, hk, rfl, HK⟩ := hrel
    by_cases hlt : k < P
    · obtain ⟨ad, b, rfl, hlk, hc⟩ := bits_cell hh (k := pos + k) (by omega)
      have hbb : b = bitB bs (pos + k) := by
        unfold unpack at hlk
        rw [List.getElem?_map, List.getElem?_range (by have := HL.out; omega)] at hlk
        simpa using hlk.symm
      have hm : (0 : Int) < ((pos : Int) + k) % 8 := by have := (HPM.out k hk); omega
      have HBB := Lib.hid hbb
      clear hbb hlk
      cases b with
      | false =>
        have hc' : ((w.alloc (.cells #[.slice (some ad) n c, .int .i64 pos] 141)).alloc (.cells #[.slice none 0 0, .int .i64 0] 141)).cell? (ad.add (pos + k)) = some (.int .u8 0) := hc
        clear hc
        have hi3 : ((pos : Int) + k).toNat = pos + k := by omega
        go_wp2
        go_round
        case rel => exact ⟨k + 1, by omega, by go_num, Lib.hid (fun j hj => by
          rcases Nat.lt_or_ge j k with h1 | h1
          · exact HK.out j h1
          · obtain rfl : j = k := by omega
            exact HBB.out.symm)⟩
        case measure => simp [intOf]; omega
      | true =>
        have hc' : ((w.alloc (.cells #[.slice (some ad) n c, .int .i64 pos] 141)).alloc (.cells #[.slice none 0 0, .int .i64 0] 141)).cell? (ad.add (pos + k)) = some (.int .u8 1) := hc
        clear hc
        have hi3 : ((pos : Int) + k).toNat = pos + k := by omega
        have hv : val (bitsAt bs pos P) ≠ 0 := by
          rw [Ne, val_none]
          intro hall
          have := hall true (by unfold bitsAt; rw [List.mem_map]; exact ⟨k, List.mem_range.2 hlt, HBB.out.symm⟩)
          cases this
        have hZ9 : Z = 9 := by rw [← HZ.out, if_neg hv]
        have hQp : Q = pos := by rw [← HQ.out, if_neg hv]
        subst hZ9 hQp
        clear hv
        go_wp2
        exact bodyPost_ret (v := .tuple #[.agg #[.slice (some ad) n c, .int .i64 Q], .int .i64 9]) (by simp [results, Try.results149, go_sem]) rfl ⟨rfl, ((Below.refl _ w).alloc (Nat.le_refl _) _).alloc (by simp) _⟩
    · obtain rfl : k = P := by omega
      have hm : ((pos : Int) + k) % 8 = 0 := by have := (HPM.out k hk); omega
      have hv : val (bitsAt bs pos k) = 0 := by
        rw [val_none]
        intro b hb
        unfold bitsAt at hb
        rw [List.mem_map] at hb
        obtain ⟨j, hj, rfl⟩ := hb
        exact HK.out j (List.mem_range.1 hj)
      have hZ9 : Z = 0 := by rw [← HZ.out, if_pos hv]
      have hQp : Q = pos + k := by rw [← HQ.out, if_pos hv]
      subst hZ9 hQp
      clear hv
      have h8 : ((pos : Int) + 7) / 8 * 8 = (pos : Int) + k := by have := HN.out; omega
      go_wp2
      exact bodyPost_ret (v := .tuple #[.agg #[.slice A n c, .int .i64 ((pos : Int) + k)], .int .i64 0]) (by simp [results, Try.results149, go_sem]) rfl ⟨by push_cast; rfl, ((Below.refl _ w).alloc (Nat.le_refl _) _).alloc (by simp) _⟩
end Go.Proofs.Ytchlbpfeiamieaa
