/- The bit reader: NewReader, Left, Get, At, Align. The bit reader: NewReader, Align; errors that are raised: must, got. The bit reader: each, GetAll. -/
import Derived.Test.YtbjajboodohabaaGreatUa
import Derived.Test.YtbjajboodohabaaGreatMa
import Derived.Defers
import Derived.Recover
namespace Go.Proofs.YtbjajboodohabaaGreat
open Go.RowKit

/-- The reader at block r over the bytes bs, at position pos; the bytes lie in a row of the reader's own. -/
def Rdr (w : World) (r : Nat) (v : Value) (bs : List UInt8) (pos : Nat) : Prop :=
  Blk w r 171 #[v, .int .i64 pos] ∧ w.ownsRow 0 5 1 v bs.length (bvs bs)

theorem Rdr.drewN {w : World} {r : Nat} {v : Value} {bs : List UInt8} {pos : Nat} (h : Rdr w r v bs pos) (k : Nat) : Rdr (w.drewN k) r v bs pos := h
theorem own_kept {w w' : World} {M : Nat → Obj → Prop} {base : Nat} {e : TypeId} {size n : Nat} {v : Value} {xs : List Value} (h : w.ownsRow base e size v n xs) (hk : Kept M w w') (hM : ∀ k o, IsRow o e → v.ownBlock = some k → ¬ M k o) : w'.ownsRow base e size v n xs := by
  rcases h.2 with ⟨rfl, h0⟩ | ⟨g', cap, cur, rfl, h1, h2, h3⟩
  · exact ⟨h.1, .inl ⟨rfl, h0⟩⟩
  · exact ⟨h.1, .inr ⟨g', cap, cur, rfl, h1, hk.same _ _ h2 (hM _ _ ⟨_, _, rfl⟩ rfl), h3⟩⟩
theorem Rdr.kept {w w' : World} {M : Nat → Obj → Prop} {r : Nat} {v : Value} {bs : List UInt8} {pos : Nat} (h : Rdr w r v bs pos) (hk : Kept M w w') (hM : ∀ k o, k = r ∨ IsRow o 5 → ¬ M k o) : Rdr w' r v bs pos :=
  ⟨h.1.kept hk (hM _ _ (.inl rfl)), own_kept h.2 hk fun k o hr _ => hM k o (.inr hr)⟩
/-- the position moves -/
theorem Rdr.move {w : World} {r : Nat} {v : Value} {bs : List UInt8} {pos : Nat} (h : Rdr w r v bs pos) (q : Nat) : Rdr (w.setCell ⟨r, 1, none⟩ (.int .i64 q)) r v bs q :=
  ⟨by simpa using h.1.set_ 1 (.int .i64 q), h.2.kept (grownBy_setAt w r 1 _) (.inr (own_blk_ne h.2 h.1 (by decide)))⟩

theorem left_any (r : Nat) (v : Value) (bs : List UInt8) (pos : Nat) (w : World) (h : Rdr w r v bs pos) (hp : pos ≤ 8 * bs.length) (hsm : bs.length ≤ 1000000000) :
    Calls Tryz.prog 111 #[.pointer (some ⟨r, 0, none⟩)] w fun e w' => e = .returned (.int .i64 ((8 * bs.length - pos : Nat) : Int)) ∧ ∃ k, w.drewN k = w' := by
  obtain ⟨A, c, rfl, _⟩ := own_sl h.2
  have c0 := h.1.cell 0
  have c1 := h.1.cell 1
  simp at c0 c1
  have e1 : (8 * (bs.length : Int) - pos) = ((8 * bs.length - pos : Nat) : Int) := by omega
  go_enter Tryz.func111, Tryz.ntmps111
  go_wp2
  go_quiet (fail)
  go_wp2
  go_ret
  refine ⟨ret_int ?_, _, rfl⟩
  go_num

theorem at_any (r : Nat) (v : Value) (bs : List UInt8) (pos : Nat) (w : World) (h : Rdr w r v bs pos) :
    Calls Tryz.prog 95 #[.pointer (some ⟨r, 0, none⟩)] w fun e w' => e = .returned (.int .i64 pos) ∧ w = w' := by
  have c1 := h.1.cell 1
  simp at c1
  go_enter Tryz.func95, Tryz.ntmps95
  go_wp2
  go_ret
  exact ⟨rfl, rfl⟩

theorem or_bit (V : Nat) (b : UInt8) (j : Nat) (hV : V < 9223372036854775808) :
    bits BinOp.or IntKind.u64 ((V : Int) * 2) (IntKind.u64.wrap (bits BinOp.and IntKind.u8 ((b.toNat : Int) / 2 ^ j) 1)) = ((2 * V + (decide (b.toNat / 2 ^ j % 2 = 1)).toNat : Nat) : Int) := by
  have hb : b.toNat < 256 := b.toNat_lt
  have e : (b.toNat : Int) / 2 ^ j = ((b.toNat / 2 ^ j : Nat) : Int) := by push_cast; rfl
  have hle : b.toNat / 2 ^ j ≤ b.toNat := Nat.div_le_self _ _
  have h1 := u8_and_nat (b.toNat / 2 ^ j) 1 (by omega) (by omega)
  have h1' : bits BinOp.and IntKind.u8 ((b.toNat / 2 ^ j : Nat) : Int) 1 = ((b.toNat / 2 ^ j &&& 1 : Nat) : Int) := h1
  rw [e, h1', Nat.and_one_is_mod, IntKind.wrap_u64]
  have hm := Nat.mod_two_eq_zero_or_one (b.toNat / 2 ^ j)
  generalize b.toNat / 2 ^ j % 2 = x at *
  have e2 : ((x : Nat) : Int) % 18446744073709551616 = ((x * 2 ^ 0 : Nat) : Int) := by omega
  have e3 : (V : Int) * 2 = ((2 * V : Nat) : Int) := by omega
  rw [e2, e3, u64_or_nat (2 * V) (x * 2 ^ 0) (by omega) (by omega), or_low (2 * V) x 0 (by omega) (by omega)]
  rcases hm with rfl | rfl <;> simp
/-- what Get answers -/
def GetIs (w : World) (r : Nat) (v : Value) (bs : List UInt8) (x : Nat) (er : Int) (pos : Nat) (e : Ending) (w' : World) : Prop :=
  e = .returned (.tuple #[.int .u64 x, .int .i64 er]) ∧ Rdr w' r v bs pos ∧ Kept (fun k _ => k = r) w w'

set_option maxHeartbeats 400000 in
theorem get_short (r : Nat) (v : Value) (bs : List UInt8) (pos n : Nat) (w : World) (h : Rdr w r v bs pos) (hp : pos ≤ 8 * bs.length) (hsm : bs.length ≤ 1000000000) (hn : n ≤ 64) (hs : 8 * bs.length - pos < n) :
    Calls Tryz.prog 94 #[.pointer (some ⟨r, 0, none⟩), .int .i64 n] w (GetIs w r v bs 0 5 pos) := by
  have hl := left_any r v bs pos w h hp hsm
  have HLt := Lib.hid hl
  generalize 8 * bs.length - pos = m at *
  clear hl hp hsm
  go_enter Tryz.func94, Tryz.ntmps94
  go_wp2_with (go_at_call 111; refine HLt.out.mono ?_; rintro e w' ⟨rfl, q, rfl⟩)
  go_ret2
  exact ⟨rfl, h.drewN _, (Kept.refl _ w).drewN _⟩

set_option maxHeartbeats 800000 in
theorem get_ok (r : Nat) (v : Value) (bs : List UInt8) (pos n : Nat) (w : World) (h : Rdr w r v bs pos) (hsm : bs.length ≤ 1000000000) (hn : n ≤ 64) (hs : pos + n ≤ 8 * bs.length) :
    Calls Tryz.prog 94 #[.pointer (some ⟨r, 0, none⟩), .int .i64 n] w (GetIs w r v bs (val (bitsAt bs pos n)) 0 (pos + n)) := by
  have hl := left_any r v bs pos w h (by omega) hsm
  have HLt := Lib.hid hl
  obtain ⟨m, hm⟩ : ∃ m, m = 8 * bs.length - pos := ⟨_, rfl⟩
  rw [← hm] at HLt
  have hnm : n ≤ m := by omega
  clear hl hm
  go_enter Tryz.func94, Tryz.ntmps94
  go_wp2_with (go_at_call 111; refine HLt.out.mono ?_; rintro e w' ⟨rfl, q, rfl⟩)
  replace h := h.drewN q
  have hk0 := (Kept.refl (fun k _ => k = r) w).drewN q
  generalize w.drewN q = w1 at *
  clear HLt
  go_loopw [4, 22] (fun t i wr => ∃ k : Nat, k ≤ n ∧ i = .int .i64 k ∧ t = .int .u64 (val (bitsAt bs pos k)) ∧ Rdr wr r v bs (pos + k) ∧ Kept (fun k _ => k = r) w wr) (fun _ i _ => n - (intOf i).toNat)
  case atStart => exact ⟨0, Nat.zero_le _, rfl, rfl, h, hk0⟩
  case round =>
    clear h hk0
    obtain ⟨k, hk, rfl, rfl, hr, hkp⟩ := hrel
    by_cases hlt : k < n
    · obtain ⟨A, c, rfl, hsl, _⟩ := own_sl hr.2
      have c0 := hr.1.cell 0
      have c1 := hr.1.cell 1
      have f1 := hr.1.frozen 1
      simp only [List.getElem?_toArray, List.getElem?_cons_zero, List.getElem?_cons_succ] at c0 c1
      obtain ⟨ad, u, rfl, hub, hu, hcu⟩ := hsl.get (k := (pos + k) / 8) (by omega)
      obtain ⟨b, hb⟩ : ∃ b, bs[(pos + k) / 8]? = some b := ⟨_, List.getElem?_eq_getElem (by omega)⟩
      have hu' : u = .int .u8 (b.toNat : Int) := by
        unfold bvs at hu
        rw [List.getElem?_map, hb] at hu
        simpa [bv] using hu.symm
      subst hu'
      have hvl := val_lt (bitsAt bs pos k)
      rw [bitsAt_length] at hvl
      have hvs : val (bitsAt bs pos (k + 1)) = 2 * val (bitsAt bs pos k) + (bitB bs (pos + k)).toNat := by rw [bitsAt_succ, val_snoc]
      have hbit : bitB bs (pos + k) = decide (b.toNat / 2 ^ (7 - (pos + k) % 8) % 2 = 1) := by unfold bitB; rw [List.getD_eq_getElem?_getD, hb]; rfl
      rw [hbit] at hvs
      generalize val (bitsAt bs pos k) = V at *
      have hV63 : V < 9223372036854775808 := Nat.lt_of_lt_of_le hvl (by have := Nat.pow_le_pow_right (n := 2) (by omega) (show k ≤ 63 by omega); simpa using this)
      have HVS := Lib.hid hvs
      clear hvs hbit hu hb hvl
      have hq8 : (pos + k) / 8 < bs.length := by omega
      have hmv := hr.move (pos + k + 1)
      have HMV := Lib.hid hmv
      have hk2 := hkp.setCell (p := ⟨r, 1, none⟩) (fun _ _ => rfl) (.int .i64 ((pos + k + 1 : Nat) : Int))
      have HK2 := Lib.hid hk2
      have hqb : pos + k < 10000000000 := by omega
      clear hmv hk2 hr hkp hsl hub
      have hq1 : (0 : Int) ≤ ((pos : Int) + k) / 8 := by omega
      have hq2 : ((pos : Int) + k) / 8 < bs.length := by omega
      have hq3 : (((pos : Int) + k) / 8).toNat = (pos + k) / 8 := by omega
      have hob := or_bit V b (7 - (pos + k) % 8) hV63
      rw [← HVS.out] at hob
      generalize hV' : val (bitsAt bs pos (k + 1)) = V' at *
      have HV' := Lib.hid hV'
      clear hV'
      go_wp2
      go_quiet (fail)
      clear hob hq1 hq2 hq3
      have f1' : (wr.drewN nq).frozen? ⟨r, 1, none⟩ = false := f1
      have c1' : (wr.drewN nq).cell? ⟨r, 1, none⟩ = some (.int .i64 ((pos : Int) + k)) := by rw [show ((pos : Int) + k) = ((pos + k : Nat) : Int) by omega]; exact c1
      clear f1 c1 c0 hcu
      go_wp2
      go_roundw
      case rel => exact ⟨k + 1, by omega, by go_num, by rw [HV'.out], by
        have := HMV.out
        rw [show ((pos + k + 1 : Nat) : Int) = (pos : Int) + k + 1 by omega] at this
        exact this, by
        have := HK2.out
        rw [show ((pos + k + 1 : Nat) : Int) = (pos : Int) + k + 1 by omega] at this
        exact this.drewN _⟩
      case measure => simp [intOf]; omega
    · obtain rfl : k = n := by omega
      go_wp2
      go_ret2
      exact ⟨rfl, hr, hkp⟩
end Go.Proofs.YtbjajboodohabaaGreat
namespace Go.Proofs.YtbjajboodohabaaGreat
open Go.RowKit

/-- NewReader hands back a reader of a copy. -/
def GivesRdr (w : World) (bs : List UInt8) (e : Ending) (w' : World) : Prop :=
  ∃ r v, e = .returned (.pointer (some ⟨r, 0, none⟩)) ∧ w.heap.size ≤ r ∧ Rdr w' r v bs 0 ∧ Below w.heap.size w w'

theorem newReader_any (A : Option Addr) (n c : Nat) (bs : List UInt8) (w : World) (h : Sl w w.heap.size A n c (bvs bs)) (hsm : n ≤ 1000000000) :
    Calls Tryz.prog 60 #[.slice A n c] w (GivesRdr w bs) := by
  have hl : bs.length = n := by simpa using h.len
  have hcl := clone_any A n c bs w h hsm
  have HC := Lib.hid hcl
  clear hcl hsm
  go_enter Tryz.func60, Tryz.ntmps60
  go_wp2_with fail
  refine HC.out.mono ?_
  rintro e w1 ⟨v, rfl, hv, hb⟩
  obtain ⟨A1, c1, rfl, hs1, _⟩ := own_sl hv
  go_wp2
  go_ret
  refine ⟨w1.heap.size, _, rfl, hb.size, ⟨Blk.new w1 171 _, ?_⟩, hb.alloc hb.size _⟩
  rw [hl]
  exact own_base (hv.alloc _) (Nat.zero_le _)

theorem must_true (er : Int) (w : World) : Calls Tryz.prog 63 #[.bool true, .int .i64 er] w fun e w' => e = .returned (.tuple #[]) ∧ w = w' := by
  go_enter Tryz.func63, Tryz.ntmps63
  go_wp2
  go_end0
  exact ⟨rfl, rfl⟩
/-- the panic that must raises -/
abbrev raise (er : Int) : Ending := .panicked [{ v := .iface 26 (.int .i64 er), recovered := false }]
theorem must_false (er : Int) (w : World) : Calls Tryz.prog 63 #[.bool false, .int .i64 er] w fun e w' => e = raise er ∧ w = w' := by
  unfold raise
  go_enter Tryz.func63, Tryz.ntmps63
  go_wp2
  exact ⟨rfl, rfl, rfl⟩

theorem got_ok (x : Int) (w : World) : Calls Tryz.prog 96 #[.int .u64 x, .int .i64 0] w fun e w' => e = .returned (.int .u64 x) ∧ w = w' := by
  go_enter Tryz.func96, Tryz.ntmps96
  go_wp2_with (go_at_call 63; refine (must_true _ _).mono ?_; rintro e w' ⟨rfl, rfl⟩)
  go_ret
  exact ⟨rfl, rfl⟩
theorem got_err (x er : Int) (her : (er == 0) = false) (w : World) : Calls Tryz.prog 96 #[.int .u64 x, .int .i64 er] w fun e w' => e = raise er ∧ w = w' := by
  go_enter Tryz.func96, Tryz.ntmps96
  go_wp2_with (go_at_call 63; refine (must_false _ _).mono ?_; rintro e w' ⟨rfl, rfl⟩)
  exact ⟨rfl, rfl, rfl⟩
theorem gots_ok (A : Option Addr) (n c : Nat) (w : World) : Calls Tryz.prog 61 #[.slice A n c, .int .i64 0] w fun e w' => e = .returned (.slice A n c) ∧ w = w' := by
  go_enter Tryz.func61, Tryz.ntmps61
  go_wp2_with (go_at_call 63; refine (must_true _ _).mono ?_; rintro e w' ⟨rfl, rfl⟩)
  go_ret
  exact ⟨rfl, rfl⟩
theorem gots_err (A : Option Addr) (n c : Nat) (er : Int) (her : (er == 0) = false) (w : World) : Calls Tryz.prog 61 #[.slice A n c, .int .i64 er] w fun e w' => e = raise er ∧ w = w' := by
  go_enter Tryz.func61, Tryz.ntmps61
  go_wp2_with (go_at_call 63; refine (must_false _ _).mono ?_; rintro e w' ⟨rfl, rfl⟩)
  exact ⟨rfl, rfl, rfl⟩

/-- what Align answers -/
def AlignIs (w : World) (r : Nat) (v : Value) (bs : List UInt8) (er : Int) (pos : Nat) (e : Ending) (w' : World) : Prop :=
  e = .returned (.int .i64 er) ∧ Rdr w' r v bs pos ∧ Kept (fun k _ => k = r) w w'

set_option maxHeartbeats 400000 in
theorem alignR_any (r : Nat) (v : Value) (bs : List UInt8) (pos : Nat) (w : World) (h : Rdr w r v bs pos) (hsm : bs.length ≤ 1000000000) (hp : pos ≤ 8 * bs.length) :
    Calls Tryz.prog 97 #[.pointer (some ⟨r, 0, none⟩)] w (AlignIs w r v bs (if val (bitsAt bs pos (padN pos)) = 0 then 0 else 9) (if val (bitsAt bs pos (padN pos)) = 0 then pos + padN pos else pos)) := by
  have hn8 : padN pos < 8 := by unfold padN; omega
  have hfit : pos + padN pos ≤ 8 * bs.length := by unfold padN; omega
  have hg := get_ok r v bs pos (padN pos) w h hsm (by omega) hfit
  have c1 := h.1.cell 1
  simp at c1
  have hpad : (8 - (pos : Int) % 8) % 8 = (padN pos : Int) := by unfold padN; omega
  have HG := Lib.hid hg
  generalize padN pos = n at *
  generalize val (bitsAt bs pos n) = V at *
  have hps : pos < 10000000000 := by omega
  clear hg hfit hsm
  by_cases hV : V = 0
  · subst hV
    simp only [if_true]
    go_enter Tryz.func97, Tryz.ntmps97
    go_wp2_with fail
    refine HG.out.mono ?_
    rintro e w1 ⟨rfl, hr1, hk1⟩
    go_wp2
    go_ret
    exact ⟨rfl, hr1, hk1⟩
  · have hV' : ((V : Int) != 0) = true := by simp; omega
    simp only [if_neg hV]
    go_enter Tryz.func97, Tryz.ntmps97
    go_wp2_with fail
    refine HG.out.mono ?_
    rintro e w1 ⟨rfl, hr1, hk1⟩
    have c1 := hr1.1.cell 1
    have f1 := hr1.1.frozen 1
    simp at c1
    have e1 : ((pos : Int) + n) - n = pos := by omega
    go_wp2
    go_ret
    exact ⟨rfl, hr1.move pos, hk1.setCell (p := ⟨r, 1, none⟩) (fun _ _ => rfl) _⟩
end Go.Proofs.YtbjajboodohabaaGreat
namespace Go.Proofs.YtbjajboodohabaaGreat
open Go.RowKit

theorem u64_info : (Tryz.prog.info? 117).map (fun i => (i.zero, i.size, i.bytes)) = some (some (.int .u64 0), 1, 8) := by kernel_rfl
theorem und131 : Tryz.prog.underlying 130 = some (.slice 117) := by kernel_rfl

/-- the values of fields of the widths ws, from pos on -/
def getAll (bs : List UInt8) (pos : Nat) (ws : List Nat) : List Nat := (List.range ws.length).map fun i => val (bitsAt bs (pos + (ws.take i).sum) (ws[i]?.getD 0))
def u64s (l : List Nat) : List Value := l.map fun (x : Nat) => Value.int .u64 (x : Int)
def i64s (l : List Nat) : List Value := l.map fun (x : Nat) => Value.int .i64 (x : Int)
theorem getAll_take (bs : List UInt8) (pos : Nat) (ws : List Nat) (k n : Nat) (h : ws[k]? = some n) : getAll bs pos (ws.take (k + 1)) = getAll bs pos (ws.take k) ++ [val (bitsAt bs (pos + (ws.take k).sum) n)] := by
  have hk : k < ws.length := (List.getElem?_eq_some_iff.1 h).1
  unfold getAll
  have e1 : (ws.take (k + 1)).length = k + 1 := by simp; omega
  have e2 : (ws.take k).length = k := by simp; omega
  rw [e1, e2, List.range_succ, List.map_append]
  congr 1
  · apply List.map_congr_left
    intro i hi
    rw [List.mem_range] at hi
    rw [List.take_take, List.take_take, List.getElem?_take, List.getElem?_take, if_pos (by omega), if_pos hi, Nat.min_eq_left (by omega), Nat.min_eq_left (by omega)]
  · simp only [List.map_cons, List.map_nil]
    rw [List.take_take, List.getElem?_take, if_pos (by omega), Nat.min_eq_left (by omega), h]
    rfl
theorem sum_take (ws : List Nat) (k n : Nat) (h : ws[k]? = some n) : (ws.take (k + 1)).sum = (ws.take k).sum + n := by
  rw [List.take_add_one, h, List.sum_append]; simp
theorem sum_take_le (ws : List Nat) (k : Nat) : (ws.take k).sum ≤ ws.sum := by
  conv => rhs; rw [← List.take_append_drop k ws]
  rw [List.sum_append]; omega

theorem each1_ok (be bf br bo : Nat) (u : FrameMode) (w : World) (he : Blk w be 26 #[.int .i64 0]) :
    CallsD Tryz.prog 110 #[.pointer (some ⟨be, 0, none⟩), .pointer (some ⟨bf, 0, none⟩), .pointer (some ⟨br, 0, none⟩), .pointer (some ⟨bo, 0, none⟩)] u w fun e u' w' => u' = u ∧ (e = .returned (.tuple #[]) ∧ w = w') := by
  have c0 := he.cell 0
  simp at c0
  go_enter_d Tryz.func110, Tryz.ntmps110
  go_wp2
  go_end0
  exact ⟨rfl, rfl⟩

theorem each1_err (be bf br bo r pos q : Nat) (er : Int) (vo v0 : Value) (u : FrameMode) (w : World) (he : Blk w be 26 #[.int .i64 er]) (her : (er != 0) = true) (hf : Blk w bf 3 #[.int .i64 pos]) (hr : Blk w br 126 #[.pointer (some ⟨r, 0, none⟩)])
    (ho : Blk w bo 130 #[vo]) (hrr : Blk w r 171 #[v0, .int .i64 q]) (hne : bo ≠ r) :
    CallsD Tryz.prog 110 #[.pointer (some ⟨be, 0, none⟩), .pointer (some ⟨bf, 0, none⟩), .pointer (some ⟨br, 0, none⟩), .pointer (some ⟨bo, 0, none⟩)] u w fun e u' w' => u' = u ∧ (e = .returned (.tuple #[]) ∧ (w.setCell ⟨r, 1, none⟩ (.int .i64 pos)).setCell ⟨bo, 0, none⟩ (.slice none 0 0) = w') := by
  have c0 := he.cell 0
  have c1 := hf.cell 0
  have c2 := hr.cell 0
  have c3 := ho.cell 0
  have f3 := ho.frozen 0
  have c4 := hrr.cell 1
  have f4 := hrr.frozen 1
  simp at c0 c1 c2 c3 c4
  have c3' : (w.setCell ⟨r, 1, none⟩ (.int .i64 pos)).cell? ⟨bo, 0, none⟩ = some vo := by
    have := (ho.far (p := ⟨r, 1, none⟩) hne (.int .i64 pos)).cell 0
    simpa using this
  have f3' : (w.setCell ⟨r, 1, none⟩ (.int .i64 pos)).frozen? ⟨bo, 0, none⟩ = false := (ho.far (p := ⟨r, 1, none⟩) hne (.int .i64 pos)).frozen 0
  go_enter_d Tryz.func110, Tryz.ntmps110
  go_wp2
  go_end0
  exact ⟨rfl, rfl⟩

/-- each's state: the boxes, the reader, what has been read -/
structure EachSt (w : World) (r : Nat) (v : Value) (bs : List UInt8) (pos : Nat) (ws : List Nat) (k : Nat) (wr : World) (vo : Value) : Prop where
  br : Blk wr w.heap.size 126 #[.pointer (some ⟨r, 0, none⟩)]
  bo : Blk wr (w.heap.size + 1) 130 #[vo]
  be : Blk wr (w.heap.size + 1 + 1) 26 #[.int .i64 0]
  bf : Blk wr (w.heap.size + 1 + 1 + 1) 3 #[.int .i64 pos]
  rd : Rdr wr r v bs (pos + (ws.take k).sum)
  ow : wr.ownsRow w.heap.size 117 1 vo k (u64s (getAll bs pos (ws.take k)))
  kp : Kept (fun j _ => j = r ∨ w.heap.size ≤ j) w wr

/-- the reader has moved on; the boxes lie as they lay -/
theorem EachSt.step {w : World} {r : Nat} {v : Value} {bs : List UInt8} {pos : Nat} {ws : List Nat} {k : Nat} {wr w1 : World} {vo : Value} (st : EachSt w r v bs pos ws k wr vo) (hr : r < w.heap.size) (hk : Kept (fun j _ => j = r) wr w1) :
    Blk w1 w.heap.size 126 #[.pointer (some ⟨r, 0, none⟩)] ∧ Blk w1 (w.heap.size + 1) 130 #[vo] ∧ Blk w1 (w.heap.size + 1 + 1) 26 #[.int .i64 0] ∧ Blk w1 (w.heap.size + 1 + 1 + 1) 3 #[.int .i64 pos] ∧
      w1.ownsRow w.heap.size 117 1 vo k (u64s (getAll bs pos (ws.take k))) ∧ Kept (fun j _ => j = r ∨ w.heap.size ≤ j) w w1 :=
  ⟨st.br.kept hk (by omega), st.bo.kept hk (by omega), st.be.kept hk (by omega), st.bf.kept hk (by omega), own_kept st.ow hk (fun j o _ hj e => by have := (st.ow.lt j hj).1; omega), st.kp.trans (hk.mono fun _ _ e => .inl e)⟩

/-- what each and GetAll answer where all fields are there -/
def AllRead (w : World) (r : Nat) (v : Value) (bs : List UInt8) (pos : Nat) (ws : List Nat) (e : Ending) (w' : World) : Prop :=
  ∃ vo, e = .returned (.tuple #[vo, .int .i64 0]) ∧ w'.ownsRow w.heap.size 117 1 vo ws.length (u64s (getAll bs pos ws)) ∧ Rdr w' r v bs (pos + ws.sum) ∧ Kept (fun k _ => k = r ∨ w.heap.size ≤ k) w w'

set_option maxRecDepth 100000 in
set_option maxHeartbeats 2000000 in
theorem each_ok (r b : Nat) (v : Value) (bs : List UInt8) (pos : Nat) (ws : List Nat) (w : World) (h : Rdr w r v bs pos) (hsm : bs.length ≤ 1000000000) (hws : ∀ n ∈ ws, n ≤ 64) (hwl : ws.length ≤ 1000)
    (hb : Blk w b 3 (i64s ws).toArray) (hfit : pos + ws.sum ≤ 8 * bs.length) :
    Calls Tryz.prog 93 #[.pointer (some ⟨r, 0, none⟩), .slice (some ⟨b, 0, none⟩) ws.length ws.length, .func (.func 94) #[.pointer (some ⟨r, 0, none⟩)] #[]] w (AllRead w r v bs pos ws) := by
  obtain ⟨i0, hi, hz0, hz1, hz2⟩ := info_parts u64_info
  have c1 := h.1.cell 1
  simp at c1
  have hrl := h.1.lt
  have hbl := hb.lt
  have hrb : b ≠ r := by
    rintro rfl
    have h1 := h.1
    unfold Blk at h1 hb
    rw [h1] at hb
    injection hb with hb
    injection hb with _ h2
    exact absurd h2 (by decide)
  have HWS := Lib.hid hws
  have HSM := Lib.hid hsm
  have HF := Lib.hid hfit
  clear hws hsm hfit
  obtain ⟨N, hN⟩ : ∃ N, ws.length = N := ⟨_, rfl⟩
  rw [hN] at hwl ⊢
  have HN := Lib.hid hN
  clear hN
  have c1' := (((h.1.alloc (.cells #[.pointer (some ⟨r, 0, none⟩)] 126)).alloc (.cells #[.slice none 0 0] 130)).alloc (.cells #[.int .i64 0] 26)).cell 1
  simp only [List.getElem?_toArray, List.getElem?_cons_zero, List.getElem?_cons_succ] at c1'
  have hst : EachSt w r v bs pos ws 0 ((((w.alloc (.cells #[.pointer (some ⟨r, 0, none⟩)] 126)).alloc (.cells #[.slice none 0 0] 130)).alloc (.cells #[.int .i64 0] 26)).alloc (.cells #[.int .i64 pos] 3)) (.slice none 0 0) := by
    refine ⟨(((Blk.new w _ _).alloc _).alloc _).alloc _, ?_, ?_, ?_, ?_, World.ownsRow_nil _ _ _ _, ((((Kept.refl _ w).alloc _).alloc _).alloc _).alloc _⟩
    · simpa using ((Blk.new (w.alloc (.cells #[.pointer (some ⟨r, 0, none⟩)] 126)) 130 #[.slice none 0 0]).alloc (.cells #[.int .i64 0] 26)).alloc (.cells #[.int .i64 pos] 3)
    · simpa using (Blk.new ((w.alloc (.cells #[.pointer (some ⟨r, 0, none⟩)] 126)).alloc (.cells #[.slice none 0 0] 130)) 26 #[.int .i64 0]).alloc (.cells #[.int .i64 pos] 3)
    · simpa using Blk.new (((w.alloc (.cells #[.pointer (some ⟨r, 0, none⟩)] 126)).alloc (.cells #[.slice none 0 0] 130)).alloc (.cells #[.int .i64 0] 26)) 3 #[.int .i64 pos]
    · exact ⟨(((h.1.alloc _).alloc _).alloc _).alloc _, (((h.2.alloc _).alloc _).alloc _).alloc _⟩
  have HST := Lib.hid hst
  clear hst
  go_enter_defers Tryz.func93, Tryz.ntmps93
  go_wp2
  go_loopw [22] (fun i wr => ∃ (k : Nat) (vo : Value), k ≤ N ∧ i = .int .i64 k ∧ EachSt w r v bs pos ws k wr vo) (fun i _ => N - (intOf i).toNat)
  case atStart => exact ⟨0, _, Nat.zero_le _, rfl, HST.out⟩
  case round =>
    obtain ⟨k, vo, hk, rfl, st⟩ := hrel
    by_cases hlt : k < N
    · obtain ⟨n, hn⟩ : ∃ n, ws[k]? = some n := ⟨_, List.getElem?_eq_getElem (by rw [HN.out]; exact hlt)⟩
      have hn64 := HWS.out n (List.mem_of_getElem? hn)
      have hsn := sum_take ws k n hn
      have hga := getAll_take bs pos ws k n hn
      have hle := sum_take_le ws (k + 1)
      have hbk : Blk wr b 3 (i64s ws).toArray := hb.kept st.kp (by rintro (e | e); exact hrb e; omega)
      have hcb := hbk.cell k
      have hcb' : wr.cell? ⟨b, k, none⟩ = some (.int .i64 n) := by rw [hcb, List.getElem?_toArray]; unfold i64s; rw [List.getElem?_map, hn]; rfl
      have hget := get_ok r v bs (pos + (ws.take k).sum) n wr st.rd HSM.out hn64 (by have := HF.out; omega)
      have HG := Lib.hid hget
      have HSN := Lib.hid hsn
      have HGA := Lib.hid hga
      clear hget hcb hsn hga hle hbk hn
      go_wp2_with fail
      refine HG.out.mono ?_
      rintro e1 w1 ⟨rfl, hr1, hk1⟩
      have st1 := st.step hrl hk1
      generalize val (bitsAt bs (pos + (ws.take k).sum) n) = x at *
      clear HG st hcb'
      obtain ⟨br1, bo1, be1, bf1, ow1, kp1⟩ := st1
      have co := bo1.cell 0
      simp at co
      go_wp2_with (at_builtin; refine wpList_append_own _ rfl _ _ 130 rfl w.heap.size 117 i0 (.int .u64 0) 1 8 und131 hi hz0 hz1 hz2 rfl (by decide) _ _ _ rfl (ow1.alloc _) ⟨w1.heap.size, 0, none⟩ 1 1 [.int .u64 x] rfl rfl ?c1 ?c2 ?c3 ?c4 ?c5 ?_)
      case c1 => exact cell_one_new _ _ _
      case c2 => simp [Value.oneCell']
      case c3 => unfold maxLen; omega
      case c4 => omega
      case c5 => have := kp1.size; simp; omega
      intro v' w2 hown' hgrow _
      have hin : ∀ j, vo.ownBlock = some j → w.heap.size ≤ j := fun j hj => (ow1.lt j hj).1
      have hbo2 := (bo1.alloc (.cells #[.int .u64 x] 117)).grown hgrow (fun e => own_blk_ne ow1 bo1 (by decide) e.symm)
      have hbr2 := (br1.alloc (.cells #[.int .u64 x] 117)).grown hgrow (fun e => own_blk_ne ow1 br1 (by decide) e.symm)
      have hbe2 := (be1.alloc (.cells #[.int .u64 x] 117)).grown hgrow (fun e => own_blk_ne ow1 be1 (by decide) e.symm)
      have hbf2 := (bf1.alloc (.cells #[.int .u64 x] 117)).grown hgrow (fun e => own_blk_ne ow1 bf1 (by decide) e.symm)
      have hk2 : Kept (fun j _ => j = r ∨ w.heap.size ≤ j) w w2 := (kp1.alloc (.cells #[.int .u64 x] 117)).grown hgrow (fun j hj o _ => .inr (hin j hj))
      have hr2 : Rdr w2 r v bs (pos + (ws.take k).sum + n) := by
        refine ⟨(hr1.1.alloc _).grown hgrow (fun e => own_blk_ne ow1 hr1.1 (by decide) e.symm), (hr1.2.alloc _).kept hgrow ?_⟩
        rcases hq : v.ownBlock with _ | j
        · exact .inl rfl
        · refine .inr (fun e => ?_)
          obtain ⟨o1, ho1, ⟨cs1, fr1, rfl⟩, _⟩ := own_isRow hr1.2 hq
          obtain ⟨o2, ho2, ⟨cs2, fr2, rfl⟩, _⟩ := own_isRow ow1 e.symm
          rw [ho1] at ho2
          cases ho2
      have co2 := hbo2.cell 0
      have fo2 := hbo2.frozen 0
      simp at co2
      obtain ⟨g', cap', rfl, hgl, hgl2⟩ := hown'.form (by omega)
      go_wp2
      go_roundw
      case rel =>
        refine ⟨k + 1, .slice (some ⟨g', 0, none⟩) (k + 1) cap', by omega, by go_num, ⟨hbr2.far (by simp) _, by simpa using hbo2.set_ 0 (.slice (some ⟨g', 0, none⟩) (k + 1) cap'), hbe2.far (by simp <;> omega) _, hbf2.far (by simp <;> omega) _, ?_, ?_, hk2.setCell (p := ⟨w.heap.size + 1, 0, none⟩) (fun _ _ => .inr (by simp)) _⟩⟩
        · rw [HSN.out, ← Nat.add_assoc]
          exact ⟨hr2.1.far (by simp <;> omega) _, hr2.2.kept (grownBy_setAt _ _ 0 _) (.inr (own_blk_ne hr2.2 hbo2 (by decide)))⟩
        · rw [HGA.out]
          have := hown'.kept (grownBy_setAt w2 (w.heap.size + 1) 0 (.slice (some ⟨g', 0, none⟩) (k + 1) cap')) (.inr (own_blk_ne hown' hbo2 (by decide)))
          simpa [u64s] using this
      case measure => simp [intOf]; omega
    · have e : ws.take k = ws := List.take_of_length_le (by rw [HN.out]; omega)
      obtain ⟨br1, bo1, be1, bf1, rd1, ow1, kp1⟩ := st
      rw [e] at rd1 ow1
      have hkN : k = N := by omega
      rw [hkN, ← HN.out] at ow1
      clear e hkN
      obtain ⟨A1, c1'', rfl, hs1, _⟩ := own_sl ow1
      have co := bo1.cell 0
      have fo := bo1.frozen 0
      have ce := be1.cell 0
      have fe := be1.frozen 0
      simp at co ce
      have hbe3 : Blk ((wr.setCell ⟨w.heap.size + 1, 0, none⟩ (.slice A1 ws.length c1'')).setCell ⟨w.heap.size + 1 + 1, 0, none⟩ (.int .i64 0)) (w.heap.size + 1 + 1) 26 #[.int .i64 0] := by
        simpa using (be1.far (p := ⟨w.heap.size + 1, 0, none⟩) (by simp <;> omega) (.slice A1 ws.length c1'')).set_ 0 (.int .i64 0)
      have hbo3 : Blk ((wr.setCell ⟨w.heap.size + 1, 0, none⟩ (.slice A1 ws.length c1'')).setCell ⟨w.heap.size + 1 + 1, 0, none⟩ (.int .i64 0)) (w.heap.size + 1) 130 #[.slice A1 ws.length c1''] := by
        simpa using (bo1.set_ 0 (.slice A1 ws.length c1'')).far (p := ⟨w.heap.size + 1 + 1, 0, none⟩) (by simp <;> omega) (.int .i64 0)
      have hkp3 := (kp1.setCell (p := ⟨w.heap.size + 1, 0, none⟩) (fun _ _ => .inr (by simp)) (.slice A1 ws.length c1'')).setCell (p := ⟨w.heap.size + 1 + 1, 0, none⟩) (fun _ _ => .inr (by simp <;> omega)) (.int .i64 0)
      have how3 := (ow1.kept (grownBy_setAt wr (w.heap.size + 1) 0 (.slice A1 ws.length c1'')) (.inr (own_blk_ne ow1 bo1 (by decide)))).kept (grownBy_setAt _ (w.heap.size + 1 + 1) 0 (.int .i64 0)) (.inr (own_blk_ne ow1 be1 (by decide)))
      have hrd3 : Rdr ((wr.setCell ⟨w.heap.size + 1, 0, none⟩ (.slice A1 ws.length c1'')).setCell ⟨w.heap.size + 1 + 1, 0, none⟩ (.int .i64 0)) r v bs (pos + ws.sum) :=
        ⟨(rd1.1.far (p := ⟨w.heap.size + 1, 0, none⟩) (by simp <;> omega) _).far (p := ⟨w.heap.size + 1 + 1, 0, none⟩) (by simp <;> omega) _,
          (rd1.2.kept (grownBy_setAt wr (w.heap.size + 1) 0 (.slice A1 ws.length c1'')) (.inr (own_blk_ne rd1.2 bo1 (by decide)))).kept (grownBy_setAt _ (w.heap.size + 1 + 1) 0 (.int .i64 0)) (.inr (own_blk_ne rd1.2 be1 (by decide)))⟩
      go_wp2
      refine leaves_cons (f := 110) (args := #[.pointer (some ⟨w.heap.size + 1 + 1, 0, none⟩), .pointer (some ⟨w.heap.size + 1 + 1 + 1, 0, none⟩), .pointer (some ⟨w.heap.size, 0, none⟩), .pointer (some ⟨w.heap.size + 1, 0, none⟩)]) (by simp) (by simp [go_sem]) ?_
      refine (each1_ok _ _ _ _ .returning _ hbe3).mono ?_
      rintro e u' w'' ⟨rfl, rfl, rfl⟩
      have ce3 := hbe3.cell 0
      have co3 := hbo3.cell 0
      simp at ce3 co3
      refine ⟨.tuple #[.slice A1 ws.length c1'', .int .i64 0], by simp [results, Tryz.results93, go_sem, ce3, co3], _, rfl, how3, hrd3, hkp3⟩
/-- what each and GetAll answer where a field lacks -/
def ShortRead (w : World) (r : Nat) (v : Value) (bs : List UInt8) (pos : Nat) (e : Ending) (w' : World) : Prop :=
  e = .returned (.tuple #[.slice none 0 0, .int .i64 5]) ∧ Rdr w' r v bs pos ∧ Kept (fun k _ => k = r ∨ w.heap.size ≤ k) w w'

set_option maxRecDepth 100000 in
set_option maxHeartbeats 2000000 in
theorem each_short (r b : Nat) (v : Value) (bs : List UInt8) (pos : Nat) (ws : List Nat) (w : World) (h : Rdr w r v bs pos) (hsm : bs.length ≤ 1000000000) (hws : ∀ n ∈ ws, n ≤ 64) (hwl : ws.length ≤ 1000)
    (hb : Blk w b 3 (i64s ws).toArray) (hp : pos ≤ 8 * bs.length) (hfit : 8 * bs.length < pos + ws.sum) :
    Calls Tryz.prog 93 #[.pointer (some ⟨r, 0, none⟩), .slice (some ⟨b, 0, none⟩) ws.length ws.length, .func (.func 94) #[.pointer (some ⟨r, 0, none⟩)] #[]] w (ShortRead w r v bs pos) := by
  obtain ⟨i0, hi, hz0, hz1, hz2⟩ := info_parts u64_info
  have c1 := h.1.cell 1
  simp at c1
  have hrl := h.1.lt
  have hbl := hb.lt
  have hrb : b ≠ r := by
    rintro rfl
    have h1 := h.1
    unfold Blk at h1 hb
    rw [h1] at hb
    injection hb with hb
    injection hb with _ h2
    exact absurd h2 (by decide)
  have HWS := Lib.hid hws
  have HSM := Lib.hid hsm
  have HF := Lib.hid hfit
  have HP := Lib.hid hp
  clear hws hsm hfit hp
  obtain ⟨N, hN⟩ : ∃ N, ws.length = N := ⟨_, rfl⟩
  rw [hN] at hwl ⊢
  have HN := Lib.hid hN
  clear hN
  have c1' := (((h.1.alloc (.cells #[.pointer (some ⟨r, 0, none⟩)] 126)).alloc (.cells #[.slice none 0 0] 130)).alloc (.cells #[.int .i64 0] 26)).cell 1
  simp only [List.getElem?_toArray, List.getElem?_cons_zero, List.getElem?_cons_succ] at c1'
  have hst : EachSt w r v bs pos ws 0 ((((w.alloc (.cells #[.pointer (some ⟨r, 0, none⟩)] 126)).alloc (.cells #[.slice none 0 0] 130)).alloc (.cells #[.int .i64 0] 26)).alloc (.cells #[.int .i64 pos] 3)) (.slice none 0 0) := by
    refine ⟨(((Blk.new w _ _).alloc _).alloc _).alloc _, ?_, ?_, ?_, ?_, World.ownsRow_nil _ _ _ _, ((((Kept.refl _ w).alloc _).alloc _).alloc _).alloc _⟩
    · simpa using ((Blk.new (w.alloc (.cells #[.pointer (some ⟨r, 0, none⟩)] 126)) 130 #[.slice none 0 0]).alloc (.cells #[.int .i64 0] 26)).alloc (.cells #[.int .i64 pos] 3)
    · simpa using (Blk.new ((w.alloc (.cells #[.pointer (some ⟨r, 0, none⟩)] 126)).alloc (.cells #[.slice none 0 0] 130)) 26 #[.int .i64 0]).alloc (.cells #[.int .i64 pos] 3)
    · simpa using Blk.new (((w.alloc (.cells #[.pointer (some ⟨r, 0, none⟩)] 126)).alloc (.cells #[.slice none 0 0] 130)).alloc (.cells #[.int .i64 0] 26)) 3 #[.int .i64 pos]
    · exact ⟨(((h.1.alloc _).alloc _).alloc _).alloc _, (((h.2.alloc _).alloc _).alloc _).alloc _⟩
  have HST := Lib.hid hst
  clear hst
  go_enter_defers Tryz.func93, Tryz.ntmps93
  go_wp2
  go_loopw [22] (fun i wr => ∃ (k : Nat) (vo : Value), k ≤ N ∧ i = .int .i64 k ∧ EachSt w r v bs pos ws k wr vo ∧ pos + (ws.take k).sum ≤ 8 * bs.length) (fun i _ => N - (intOf i).toNat)
  case atStart => exact ⟨0, _, Nat.zero_le _, rfl, HST.out, HP.out⟩
  case round =>
    obtain ⟨k, vo, hk, rfl, st, hpk⟩ := hrel
    have HPK := Lib.hid hpk
    clear hpk
    by_cases hlt : k < N
    · obtain ⟨n, hn⟩ : ∃ n, ws[k]? = some n := ⟨_, List.getElem?_eq_getElem (by rw [HN.out]; exact hlt)⟩
      have hn64 := HWS.out n (List.mem_of_getElem? hn)
      have hsn := sum_take ws k n hn
      have hga := getAll_take bs pos ws k n hn
      have hle := sum_take_le ws (k + 1)
      have hbk : Blk wr b 3 (i64s ws).toArray := hb.kept st.kp (by rintro (e | e); exact hrb e; omega)
      have hcb := hbk.cell k
      have hcb' : wr.cell? ⟨b, k, none⟩ = some (.int .i64 n) := by rw [hcb, List.getElem?_toArray]; unfold i64s; rw [List.getElem?_map, hn]; rfl
      by_cases hfits : pos + (ws.take k).sum + n ≤ 8 * bs.length
      · have hget := get_ok r v bs (pos + (ws.take k).sum) n wr st.rd HSM.out hn64 hfits
        have HG := Lib.hid hget
        have HSN := Lib.hid hsn
        have HGA := Lib.hid hga
        have HFT := Lib.hid hfits
        clear hget hcb hsn hga hle hbk hn hfits
        go_wp2_with fail
        refine HG.out.mono ?_
        rintro e1 w1 ⟨rfl, hr1, hk1⟩
        have st1 := st.step hrl hk1
        generalize val (bitsAt bs (pos + (ws.take k).sum) n) = x at *
        clear HG st hcb'
        obtain ⟨br1, bo1, be1, bf1, ow1, kp1⟩ := st1
        have co := bo1.cell 0
        simp at co
        go_wp2_with (at_builtin; refine wpList_append_own _ rfl _ _ 130 rfl w.heap.size 117 i0 (.int .u64 0) 1 8 und131 hi hz0 hz1 hz2 rfl (by decide) _ _ _ rfl (ow1.alloc _) ⟨w1.heap.size, 0, none⟩ 1 1 [.int .u64 x] rfl rfl ?c1 ?c2 ?c3 ?c4 ?c5 ?_)
        case c1 => exact cell_one_new _ _ _
        case c2 => simp [Value.oneCell']
        case c3 => unfold maxLen; omega
        case c4 => omega
        case c5 => have := kp1.size; simp; omega
        intro v' w2 hown' hgrow _
        have hin : ∀ j, vo.ownBlock = some j → w.heap.size ≤ j := fun j hj => (ow1.lt j hj).1
        have hbo2 := (bo1.alloc (.cells #[.int .u64 x] 117)).grown hgrow (fun e => own_blk_ne ow1 bo1 (by decide) e.symm)
        have hbr2 := (br1.alloc (.cells #[.int .u64 x] 117)).grown hgrow (fun e => own_blk_ne ow1 br1 (by decide) e.symm)
        have hbe2 := (be1.alloc (.cells #[.int .u64 x] 117)).grown hgrow (fun e => own_blk_ne ow1 be1 (by decide) e.symm)
        have hbf2 := (bf1.alloc (.cells #[.int .u64 x] 117)).grown hgrow (fun e => own_blk_ne ow1 bf1 (by decide) e.symm)
        have hk2 : Kept (fun j _ => j = r ∨ w.heap.size ≤ j) w w2 := (kp1.alloc (.cells #[.int .u64 x] 117)).grown hgrow (fun j hj o _ => .inr (hin j hj))
        have hr2 : Rdr w2 r v bs (pos + (ws.take k).sum + n) := by
          refine ⟨(hr1.1.alloc _).grown hgrow (fun e => own_blk_ne ow1 hr1.1 (by decide) e.symm), (hr1.2.alloc _).kept hgrow ?_⟩
          rcases hq : v.ownBlock with _ | j
          · exact .inl rfl
          · refine .inr (fun e => ?_)
            obtain ⟨o1, ho1, ⟨cs1, fr1, rfl⟩, _⟩ := own_isRow hr1.2 hq
            obtain ⟨o2, ho2, ⟨cs2, fr2, rfl⟩, _⟩ := own_isRow ow1 e.symm
            rw [ho1] at ho2
            cases ho2
        have co2 := hbo2.cell 0
        have fo2 := hbo2.frozen 0
        simp at co2
        obtain ⟨g', cap', rfl, hgl, hgl2⟩ := hown'.form (by omega)
        go_wp2
        go_roundw
        case rel =>
          refine ⟨k + 1, .slice (some ⟨g', 0, none⟩) (k + 1) cap', by omega, by go_num, ⟨hbr2.far (by simp) _, by simpa using hbo2.set_ 0 (.slice (some ⟨g', 0, none⟩) (k + 1) cap'), hbe2.far (by simp <;> omega) _, hbf2.far (by simp <;> omega) _, ?_, ?_, hk2.setCell (p := ⟨w.heap.size + 1, 0, none⟩) (fun _ _ => .inr (by simp)) _⟩, by rw [HSN.out, ← Nat.add_assoc]; exact HFT.out⟩
          · rw [HSN.out, ← Nat.add_assoc]
            exact ⟨hr2.1.far (by simp <;> omega) _, hr2.2.kept (grownBy_setAt _ _ 0 _) (.inr (own_blk_ne hr2.2 hbo2 (by decide)))⟩
          · rw [HGA.out]
            have := hown'.kept (grownBy_setAt w2 (w.heap.size + 1) 0 (.slice (some ⟨g', 0, none⟩) (k + 1) cap')) (.inr (own_blk_ne hown' hbo2 (by decide)))
            simpa [u64s] using this
        case measure => simp [intOf]; omega
      · have hget := get_short r v bs (pos + (ws.take k).sum) n wr st.rd HPK.out HSM.out hn64 (by have := HPK.out; omega)
        have HG := Lib.hid hget
        clear hget hcb hsn hga hle hbk hn hfits
        go_wp2_with fail
        refine HG.out.mono ?_
        rintro e1 w1 ⟨rfl, hr1, hk1⟩
        obtain ⟨br1, bo1, be1, bf1, ow1, kp1⟩ := st.step hrl hk1
        clear HG st hcb'
        have co := bo1.cell 0
        have fo := bo1.frozen 0
        have ce := be1.cell 0
        have fe := be1.frozen 0
        simp at co ce
        have hbe3 : Blk ((w1.setCell ⟨w.heap.size + 1, 0, none⟩ (.slice none 0 0)).setCell ⟨w.heap.size + 1 + 1, 0, none⟩ (.int .i64 5)) (w.heap.size + 1 + 1) 26 #[.int .i64 5] := by
          simpa using (be1.far (p := ⟨w.heap.size + 1, 0, none⟩) (by simp <;> omega) (.slice none 0 0)).set_ 0 (.int .i64 5)
        have hbo3 : Blk ((w1.setCell ⟨w.heap.size + 1, 0, none⟩ (.slice none 0 0)).setCell ⟨w.heap.size + 1 + 1, 0, none⟩ (.int .i64 5)) (w.heap.size + 1) 130 #[.slice none 0 0] := by
          simpa using (bo1.set_ 0 (.slice none 0 0)).far (p := ⟨w.heap.size + 1 + 1, 0, none⟩) (by simp <;> omega) (.int .i64 5)
        have hbr3 := (br1.far (p := ⟨w.heap.size + 1, 0, none⟩) (by simp <;> omega) (.slice none 0 0)).far (p := ⟨w.heap.size + 1 + 1, 0, none⟩) (by simp <;> omega) (.int .i64 5)
        have hbf3 := (bf1.far (p := ⟨w.heap.size + 1, 0, none⟩) (by simp <;> omega) (.slice none 0 0)).far (p := ⟨w.heap.size + 1 + 1, 0, none⟩) (by simp <;> omega) (.int .i64 5)
        have hkp3 := (kp1.setCell (p := ⟨w.heap.size + 1, 0, none⟩) (fun _ _ => .inr (by simp)) (.slice none 0 0)).setCell (p := ⟨w.heap.size + 1 + 1, 0, none⟩) (fun _ _ => .inr (by simp <;> omega)) (.int .i64 5)
        have hrd3 : Rdr ((w1.setCell ⟨w.heap.size + 1, 0, none⟩ (.slice none 0 0)).setCell ⟨w.heap.size + 1 + 1, 0, none⟩ (.int .i64 5)) r v bs (pos + (ws.take k).sum) :=
          ⟨(hr1.1.far (p := ⟨w.heap.size + 1, 0, none⟩) (by simp <;> omega) _).far (p := ⟨w.heap.size + 1 + 1, 0, none⟩) (by simp <;> omega) _,
            (hr1.2.kept (grownBy_setAt w1 (w.heap.size + 1) 0 (.slice none 0 0)) (.inr (own_blk_ne hr1.2 bo1 (by decide)))).kept (grownBy_setAt _ (w.heap.size + 1 + 1) 0 (.int .i64 5)) (.inr (own_blk_ne hr1.2 be1 (by decide)))⟩
        go_wp2
        refine leaves_cons (f := 110) (args := #[.pointer (some ⟨w.heap.size + 1 + 1, 0, none⟩), .pointer (some ⟨w.heap.size + 1 + 1 + 1, 0, none⟩), .pointer (some ⟨w.heap.size, 0, none⟩), .pointer (some ⟨w.heap.size + 1, 0, none⟩)]) (by simp) (by simp [go_sem]) ?_
        refine (each1_err _ _ _ _ r pos _ 5 _ _ .returning _ hbe3 rfl hbf3 hbr3 hbo3 hrd3.1 (by omega)).mono ?_
        rintro e u' w'' ⟨rfl, rfl, rfl⟩
        have hbe4 := (hbe3.far (p := ⟨r, 1, none⟩) (by simp <;> omega) (.int .i64 pos)).far (p := ⟨w.heap.size + 1, 0, none⟩) (by simp <;> omega) (.slice none 0 0)
        have hbo4 := (hbo3.far (p := ⟨r, 1, none⟩) (by simp <;> omega) (.int .i64 pos)).set_ 0 (.slice none 0 0)
        have ce3 := hbe4.cell 0
        have co3 := hbo4.cell 0
        simp at ce3 co3
        have hrd4 := hrd3.move pos
        refine ⟨.tuple #[.slice none 0 0, .int .i64 5], by simp [results, Tryz.results93, go_sem, ce3, co3], rfl, ⟨hrd4.1.far (p := ⟨w.heap.size + 1, 0, none⟩) (by simp <;> omega) _, hrd4.2.kept (grownBy_setAt _ (w.heap.size + 1) 0 (.slice none 0 0)) (.inr (own_blk_ne hrd4.2 (hbo3.far (p := ⟨r, 1, none⟩) (by simp <;> omega) (.int .i64 pos)) (by decide)))⟩, (hkp3.setCell (p := ⟨r, 1, none⟩) (fun _ _ => .inl rfl) _).setCell (p := ⟨w.heap.size + 1, 0, none⟩) (fun _ _ => .inr (by simp)) _⟩
    · have e : ws.take k = ws := List.take_of_length_le (by rw [HN.out]; omega)
      have := HPK.out
      have := HF.out
      rw [e] at *
      omega

theorem getAll_ok (r b : Nat) (v : Value) (bs : List UInt8) (pos : Nat) (ws : List Nat) (w : World) (h : Rdr w r v bs pos) (hsm : bs.length ≤ 1000000000) (hws : ∀ n ∈ ws, n ≤ 64) (hwl : ws.length ≤ 1000)
    (hb : Blk w b 3 (i64s ws).toArray) (hfit : pos + ws.sum ≤ 8 * bs.length) :
    Calls Tryz.prog 62 #[.pointer (some ⟨r, 0, none⟩), .slice (some ⟨b, 0, none⟩) ws.length ws.length] w (AllRead w r v bs pos ws) := by
  have hE := each_ok r b v bs pos ws w h hsm hws hwl hb hfit
  have HE := Lib.hid hE
  clear hE hsm hws
  go_enter Tryz.func62, Tryz.ntmps62
  go_wp2_with fail
  refine HE.out.mono ?_
  rintro e w' ⟨vo, rfl, h1, h2, h3⟩
  go_wp2
  go_ret2
  exact ⟨vo, rfl, h1, h2, h3⟩
theorem getAll_short (r b : Nat) (v : Value) (bs : List UInt8) (pos : Nat) (ws : List Nat) (w : World) (h : Rdr w r v bs pos) (hsm : bs.length ≤ 1000000000) (hws : ∀ n ∈ ws, n ≤ 64) (hwl : ws.length ≤ 1000)
    (hb : Blk w b 3 (i64s ws).toArray) (hp : pos ≤ 8 * bs.length) (hfit : 8 * bs.length < pos + ws.sum) :
    Calls Tryz.prog 62 #[.pointer (some ⟨r, 0, none⟩), .slice (some ⟨b, 0, none⟩) ws.length ws.length] w (ShortRead w r v bs pos) := by
  have hE := each_short r b v bs pos ws w h hsm hws hwl hb hp hfit
  have HE := Lib.hid hE
  clear hE hsm hws
  go_enter Tryz.func62, Tryz.ntmps62
  go_wp2_with fail
  refine HE.out.mono ?_
  rintro e w' ⟨rfl, h2, h3⟩
  go_wp2
  go_ret2
  exact ⟨rfl, h2, h3⟩
end Go.Proofs.YtbjajboodohabaaGreat
