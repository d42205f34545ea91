/- The bit reader: NewReader, Left, Get, At, Align. -/
import Derived.Test.YtchlbpfeiamieaaU4
namespace Go.Proofs.Ytchlbpfeiamieaa
open Go.RowKit

/-- The reader at block r over the bytes bs, at position pos; the bytes lie in a row of the reader's own. -/
def Rdr (w : World) (r : Nat) (v : Value) (bs : List UInt8) (pos : Nat) : Prop :=
  Blk w r 184 #[v, .int .i64 pos] ∧ w.ownsRow 0 5 1 v bs.length (bvs bs)

theorem Rdr.drewN {w : World} {r : Nat} {v : Value} {bs : List UInt8} {pos : Nat} (h : Rdr w r v bs pos) (k : Nat) : Rdr (w.drewN k) r v bs pos := h
theorem own_kept {w w' : World} {M : Nat → Obj → Prop} {base : Nat} {e : TypeId} {size n : Nat} {v : Value} {xs : List Value} (h : w.ownsRow base e size v n xs) (hk : Kept M w w') (hM : ∀ k o, IsRow o e → v.ownBlock = some k → ¬ M k o) : w'.ownsRow base e size v n xs := by
  rcases h.2 with ⟨rfl, h0⟩ | ⟨g', cap, cur, rfl, h1, h2, h3⟩
  · exact ⟨h.1, .inl ⟨rfl, h0⟩⟩
  · exact ⟨h.1, .inr ⟨g', cap, cur, rfl, h1, hk.same _ _ h2 (hM _ _ ⟨_, _, rfl⟩ rfl), h3⟩⟩
theorem Rdr.kept {w w' : World} {M : Nat → Obj → Prop} {r : Nat} {v : Value} {bs : List UInt8} {pos : Nat} (h : Rdr w r v bs pos) (hk : Kept M w w') (hM : ∀ k o, k = r ∨ IsRow o 5 → ¬ M k o) : Rdr w' r v bs pos :=
  ⟨h.1.kept hk (hM _ _ (.inl rfl)), own_kept h.2 hk fun k o hr _ => hM k o (.inr hr)⟩
/-- the position moves -/
theorem Rdr.move {w : World} {r : Nat} {v : Value} {bs : List UInt8} {pos : Nat} (h : Rdr w r v bs pos) (q : Nat) : Rdr (w.setCell ⟨r, 1, none⟩ (.int .i64 q)) r v bs q :=
  ⟨by simpa using h.1.set_ 1 (.int .i64 q), h.2.kept (grownBy_setAt w r 1 _) (.inr (own_blk_ne h.2 h.1 (by decide)))⟩

theorem left_any (r : Nat) (v : Value) (bs : List UInt8) (pos : Nat) (w : World) (h : Rdr w r v bs pos) (hp : pos ≤ 8 * bs.length) (hsm : bs.length ≤ 1000000000) :
    Calls Try.prog 170 #[.pointer (some ⟨r, 0, none⟩)] w fun e w' => e = .returned (.int .i64 ((8 * bs.length - pos : Nat) : Int)) ∧ ∃ k, w.drewN k = w' := by
  obtain ⟨A, c, rfl, _⟩ := own_sl h.2
  have c0 := h.1.cell 0
  have c1 := h.1.cell 1
  simp at c0 c1
  have e1 : (8 * (bs.length : Int) - pos) = ((8 * bs.length - pos : Nat) : Int) := by omega
  go_enter Try.func170, Try.ntmps170
  go_wp2
  go_quiet (fail)
  go_wp2
  go_ret
  refine ⟨ret_int ?_, _, rfl⟩
  go_num

theorem at_any (r : Nat) (v : Value) (bs : List UInt8) (pos : Nat) (w : World) (h : Rdr w r v bs pos) :
    Calls Try.prog 144 #[.pointer (some ⟨r, 0, none⟩)] w fun e w' => e = .returned (.int .i64 pos) ∧ w = w' := by
  have c1 := h.1.cell 1
  simp at c1
  go_enter Try.func144, Try.ntmps144
  go_wp2
  go_ret
  exact ⟨rfl, rfl⟩

theorem or_bit (V : Nat) (b : UInt8) (j : Nat) (hV : V < 9223372036854775808) :
    bits BinOp.or IntKind.u64 ((V : Int) * 2) (IntKind.u64.wrap (bits BinOp.and IntKind.u8 ((b.toNat : Int) / 2 ^ j) 1)) = ((2 * V + (decide (b.toNat / 2 ^ j % 2 = 1)).toNat : Nat) : Int) := by
  have hb : b.toNat < 256 := b.toNat_lt
  have e : (b.toNat : Int) / 2 ^ j = ((b.toNat / 2 ^ j : Nat) : Int) := by push_cast; rfl
  have hle : b.toNat / 2 ^ j ≤ b.toNat := Nat.div_le_self _ _
  have h1 := u8_and_nat (b.toNat / 2 ^ j) 1 (by omega) (by omega)
  have h1' : bits BinOp.and IntKind.u8 ((b.toNat / 2 ^ j : Nat) : Int) 1 = ((b.toNat / 2 ^ j &&& 1 : Nat) : Int) := h1
  rw [e, h1', Nat.and_one_is_mod, IntKind.wrap_u64]
  have hm := Nat.mod_two_eq_zero_or_one (b.toNat / 2 ^ j)
  generalize b.toNat / 2 ^ j % 2 = x at *
  have e2 : ((x : Nat) : Int) % 18446744073709551616 = ((x * 2 ^ 0 : Nat) : Int) := by omega
  have e3 : (V : Int) * 2 = ((2 * V : Nat) : Int) := by omega
  rw [e2, e3, u64_or_nat (2 * V) (x * 2 ^ 0) (by omega) (by omega), or_low (2 * V) x 0 (by omega) (by omega)]
  rcases hm with rfl | rfl <;> simp
/-- what Get answers -/
def GetIs (w : World) (r : Nat) (v : Value) (bs : List UInt8) (x : Nat) (er : Int) (pos : Nat) (e : Ending) (w' : World) : Prop :=
  e = .returned (.tuple #[.int .u64 x, .int .i64 er]) ∧ Rdr w' r v bs pos ∧ Kept (fun k _ => k = r) w w'

set_option maxHeartbeats 400000 in
theorem get_short (r : Nat) (v : Value) (bs : List UInt8) (pos n : Nat) (w : World) (h : Rdr w r v bs pos) (hp : pos ≤ 8 * bs.length) (hsm : bs.length ≤ 1000000000) (hn : n ≤ 64) (hs : 8 * bs.length - pos < n) :
    Calls Try.prog 143 #[.pointer (some ⟨r, 0, none⟩), .int .i64 n] w (GetIs w r v bs 0 5 pos) := by
  have hl := left_any r v bs pos w h hp hsm
  have HLt := Lib.hid hl
  generalize 8 * bs.length - pos = m at *
  clear hl hp hsm
  go_enter Try.func143, Try.ntmps143
  go_wp2_with (go_at_call 170; refine HLt.out.mono ?_; rintro e w' ⟨rfl, q, rfl⟩)
  go_ret2
  exact ⟨rfl, h.drewN _, (Kept.refl _ w).drewN _⟩

set_option maxHeartbeats 800000 in
theorem get_ok (r : Nat) (v : Value) (bs : List UInt8) (pos n : Nat) (w : World) (h : Rdr w r v bs pos) (hsm : bs.length ≤ 1000000000) (hn : n ≤ 64) (hs : pos + n ≤ 8 * bs.length) :
    Calls Try.prog 143 #[.pointer (some ⟨r, 0, none⟩), .int .i64 n] w (GetIs w r v bs (val (bitsAt bs pos n)) 0 (pos + n)) := by
  have hl := left_any r v bs pos w h (by omega) hsm
  have HLt := Lib.hid hl
  obtain ⟨m, hm⟩ : ∃ m, m = 8 * bs.length - pos := ⟨_, rfl⟩
  rw [← hm] at HLt
  have hnm : n ≤ m := by omega
  clear hl hm
  go_enter Try.func143, Try.ntmps143
  go_wp2_with (go_at_call 170; refine HLt.out.mono ?_; rintro e w' ⟨rfl, q, rfl⟩)
  replace h := h.drewN q
  have hk0 := (Kept.refl (fun k _ => k = r) w).drewN q
  generalize w.drewN q = w1 at *
  clear HLt
  go_loopw [4, 22] (fun t i wr => ∃ k : Nat, k ≤ n ∧ i = .int .i64 k ∧ t = .int .u64 (val (bitsAt bs pos k)) ∧ Rdr wr r v bs (pos + k) ∧ Kept (fun k _ => k = r) w wr) (fun _ i _ => n - (intOf i).toNat)
  case atStart => exact ⟨0, Nat.zero_le _, rfl, rfl, h, hk0⟩
  case round =>
    clear h hk0
    obtain ⟨k, hk, rfl, rfl, hr, hkp⟩ := hrel
    by_cases hlt : k < n
    · obtain ⟨A, c, rfl, hsl, _⟩ := own_sl hr.2
      have c0 := hr.1.cell 0
      have c1 := hr.1.cell 1
      have f1 := hr.1.frozen 1
      simp only [List.getElem?_toArray, List.getElem?_cons_zero, List.getElem?_cons_succ] at c0 c1
      obtain ⟨ad, u, rfl, hub, hu, hcu⟩ := hsl.get (k := (pos + k) / 8) (by omega)
      obtain ⟨b, hb⟩ : ∃ b, bs[(pos + k) / 8]? = some b := ⟨_, List.getElem?_eq_getElem (by omega)⟩
      have hu' : u = .int .u8 (b.toNat : Int) := by
        unfold bvs at hu
        rw [List.getElem?_map, hb] at hu
        simpa [bv] using hu.symm
      subst hu'
      have hvl := val_lt (bitsAt bs pos k)
      rw [bitsAt_length] at hvl
      have hvs : val (bitsAt bs pos (k + 1)) = 2 * val (bitsAt bs pos k) + (bitB bs (pos + k)).toNat := by rw [bitsAt_succ, val_snoc]
      have hbit : bitB bs (pos + k) = decide (b.toNat / 2 ^ (7 - (pos + k) % 8) % 2 = 1) := by unfold bitB; rw [List.getD_eq_getElem?_getD, hb]; rfl
      rw [hbit] at hvs
      generalize val (bitsAt bs pos k) = V at *
      have hV63 : V < 9223372036854775808 := Nat.lt_of_lt_of_le hvl (by have := Nat.pow_le_pow_right (n := 2) (by omega) (show k ≤ 63 by omega); simpa using this)
      have HVS := Lib.hid hvs
      clear hvs hbit hu hb hvl
      have hq8 : (pos + k) / 8 < bs.length := by omega
      have hmv := hr.move (pos + k + 1)
      have HMV := Lib.hid hmv
      have hk2 := hkp.setCell (p := ⟨r, 1, none⟩) (fun _ _ => rfl) (.int .i64 ((pos + k + 1 : Nat) : Int))
      have HK2 := Lib.hid hk2
      have hqb : pos + k < 10000000000 := by omega
      clear hmv hk2 hr hkp hsl hub
      have hq1 : (0 : Int) ≤ ((pos : Int) + k) / 8 := by omega
      have hq2 : ((pos : Int) + k) / 8 < bs.length := by omega
      have hq3 : (((pos : Int) + k) / 8).toNat = (pos + k) / 8 := by omega
      have hob := or_bit V b (7 - (pos + k) % 8) hV63
      rw [← HVS.out] at hob
      generalize hV' : val (bitsAt bs pos (k + 1)) = V' at *
      have HV' := Lib.hid hV'
      clear hV'
      go_wp2
      go_quiet (fail)
      clear hob hq1 hq2 hq3
      have f1' : (wr.drewN nq).frozen? ⟨r, 1, none⟩ = false := f1
      have c1' : (wr.drewN nq).cell? ⟨r, 1, none⟩ = some (.int .i64 ((pos : Int) + k)) := by rw [show ((pos : Int) + k) = ((pos + k : Nat) : Int) by omega]; exact c1
      clear f1 c1 c0 hcu
      go_wp2
      go_roundw
      case rel => exact ⟨k + 1, by omega, by go_num, by rw [HV'.out], by
        have := HMV.out
        rw [show ((pos + k + 1 : Nat) : Int) = (pos : Int) + k + 1 by omega] at this
        exact this, by
        have := HK2.out
        rw [show ((pos + k + 1 : Nat) : Int) = (pos : Int) + k + 1 by omega] at this
        exact this.drewN _⟩
      case measure => simp [intOf]; omega
    · obtain rfl : k = n := by omega
      go_wp2
      go_ret2
      exact ⟨rfl, hr, hkp⟩
end Go.Proofs.Ytchlbpfeiamieaa
