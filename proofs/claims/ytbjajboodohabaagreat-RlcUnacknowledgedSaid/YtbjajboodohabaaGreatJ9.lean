/- umsend: Grant. -/
import Derived.Test.YtbjajboodohabaaGreatJ8
namespace Go.Proofs.YtbjajboodohabaaGreat
open Go.RowKit Go.Shelf
attribute [local go_sem] Oper.semAt_some

theorem and1023 (n : Int) : bits .and .i64 n 1023 = n % 1024 := by
  have h127 : (BitVec.ofInt 64 1023).toNat = 2 ^ 10 - 1 := by decide
  have key : (BitVec.ofInt 64 n &&& BitVec.ofInt 64 1023).toNat = (n % ((2 ^ 64 : Nat) : Int)).toNat % 2 ^ 10 := by
    rw [BitVec.toNat_and, BitVec.toNat_ofInt, h127, Nat.and_two_pow_sub_one_eq_mod]
  show IntKind.i64.wrap ((BitVec.ofInt 64 n &&& BitVec.ofInt 64 1023).toNat : Nat) = n % 1024
  rw [key, IntKind.wrap_i64]
  omega
theorem Snd.next {w : World} {base g : Nat} {v : Value} {vs : List Value} {sdus : List (List UInt8)} {sent cap next : Nat} (h : Snd w base g v vs sdus sent cap next) (n' : Nat) : Snd (w.setCell ⟨g, 3, none⟩ (.int .i64 n')) base g v vs sdus sent cap n' :=
  ⟨by simpa using h.blk.set_ 3 (.int .i64 (n' : Int)), h.row.store h.blk (by decide) _, fun i p hi => let ⟨A, c, k1, k2⟩ := h.each i p hi; ⟨A, c, k1, own_store (i := 3) k2 h.blk (by decide) _⟩⟩
/-- what Grant gives: the bytes, the error, and the transmitter behind it -/
def GrantOut (w : World) (base g : Nat) (v : Value) (cap : Nat) (bs : List UInt8) (er : Int) (sdus' : List (List UInt8)) (sent' next' : Nat) (e : Ending) (w' : World) : Prop :=
  ∃ vb v' vs', e = .returned (.tuple #[vb, .int .i64 er]) ∧ w'.ownsRow w.heap.size 5 1 vb bs.length (bvs bs) ∧ Snd w' base g v' vs' sdus' sent' cap next' ∧ qBlock v' = qBlock v ∧ Kept (fun k _ => k = g) w w'

theorem sgrant_neg (g base sent cap next : Nat) (n : Int) (v : Value) (vs : List Value) (sdus : List (List UInt8)) (w : World) (h : Snd w base g v vs sdus sent cap next) (hc : 1 ≤ cap) (hn : n < 0) :
    Calls Tryz.prog 12 #[.pointer (some ⟨g, 0, none⟩), .int .i64 n] w (GrantOut w base g v cap [] 2 sdus sent next) := by
  have hno := snone_any g cap _ _ _ w h.blk hc
  have HN := Lib.hid hno
  have HH := Lib.hid h
  clear hno h
  go_enter Tryz.func12, Tryz.ntmps12
  go_wp2_with (go_at_call 25; refine HN.out.mono ?_; rintro e1 w1 ⟨rfl, rfl⟩)
  go_ret2
  exact ⟨_, _, _, rfl, World.ownsRow_nil _ _ _ _, HH.out, rfl, Kept.refl _ _⟩

set_option maxRecDepth 10000 in
set_option maxHeartbeats 1000000 in
theorem sgrant_none (g base sent cap next : Nat) (n : Int) (v : Value) (vs : List Value) (sdus : List (List UInt8)) (w : World) (h : Snd w base g v vs sdus sent cap next) (hc : 1 ≤ cap) (hn : 0 ≤ n) (hn2 : n ≤ 9223372036854775807)
    (hsd : ∀ s ∈ sdus, 1 ≤ s.length ∧ s.length ≤ 1000000) (hlt : ∀ x r, sdus = x :: r → sent < x.length) (hz : sdus = [] → sent = 0) (h0 : (chk n (sdus.length + 1) sdus sent 0 0 0 false).1 = []) :
    Calls Tryz.prog 12 #[.pointer (some ⟨g, 0, none⟩), .int .i64 n] w (GrantOut w base g v cap [] 0 sdus sent next) := by
  have hno := snone_any g cap _ _ _ w h.blk hc
  have hch := schunk_any g base sent cap next n v vs sdus w h hn hn2 hsd hlt
  rw [(chk_ok n _ sdus sent 0 0 0 false (fun s hs => (hsd s hs).1) hlt hz).none_ h0] at hch
  have HN := Lib.hid hno
  have HC := Lib.hid hch
  clear hno h hsd hlt hz h0 hch
  go_enter Tryz.func12, Tryz.ntmps12
  go_wp2_with (go_at_call 25; refine HN.out.mono ?_; rintro e1 w1 ⟨rfl, rfl⟩)
  refine HC.out.mono ?_
  rintro e2 w2 ⟨Ap, cp, vl, v', vs', rfl, hrow, hparts, hs2, hq2, hk2⟩
  have hcap := (own_sl' hrow).cap
  have hmx := (own_sl' hrow).mx
  dsimp only [List.length_nil] at hcap hmx hrow ⊢
  have HS := Lib.hid hs2
  have HQ := Lib.hid hq2
  have HK := Lib.hid hk2
  clear hs2 hq2 hk2 hrow hparts
  go_wp2
  go_ret2
  exact ⟨_, v', vs', rfl, World.ownsRow_nil _ _ _ _, HS.out.alloc _, HQ.out, HK.out.alloc _⟩

set_option maxRecDepth 10000 in
set_option maxHeartbeats 1000000 in
theorem sgrant_ok (g base sent cap next : Nat) (n : Int) (v : Value) (vs : List Value) (sdus : List (List UInt8)) (w : World) (h : Snd w base g v vs sdus sent cap next) (hc : 1 ≤ cap) (hnx : next ≤ 1023) (hn : 0 ≤ n) (hn2 : n ≤ 9223372036854775807)
    (hsd : ∀ s ∈ sdus, 1 ≤ s.length ∧ s.length ≤ 1000000) (hlt : ∀ x r, sdus = x :: r → sent < x.length) (_hz : sdus = [] → sent = 0) (R : List (List UInt8) × Bool × List (List UInt8) × Nat) (hR : chk n (sdus.length + 1) sdus sent 0 0 0 false = R) (hne : R.1 ≠ []) :
    Calls Tryz.prog 12 #[.pointer (some ⟨g, 0, none⟩), .int .i64 n] w (GrantOut w base g v cap (encU next (decide (sent = 0)) R.2.1 R.1) 0 R.2.2.1 R.2.2.2 ((next + 1) % 1024)) := by
  have hno := snone_any g cap _ _ _ w h.blk hc
  have hch := schunk_any g base sent cap next n v vs sdus w h hn hn2 hsd hlt
  have hvp := chk_valid n (sdus.length + 1) sdus sent false (fun s hs => (hsd s hs).1) hlt (by rw [hR]; exact hne)
  rw [hR] at hch hvp
  obtain ⟨ps, en, sdus', sent'⟩ := R
  dsimp only at hch hvp ⊢ hne
  have hpl : 1 ≤ ps.length := hvp.lo
  have hph : ps.length ≤ 64 := hvp.hi
  have HN := Lib.hid hno
  have HC := Lib.hid hch
  have HV := Lib.hid ((validB_iff ps).2 hvp)
  have hgl := h.blk.lt
  generalize decide (sent = 0) = st at *
  clear hno h hsd hlt hR hne hch hvp
  go_enter Tryz.func12, Tryz.ntmps12
  go_wp2_with (go_at_call 25; refine HN.out.mono ?_; rintro e1 w1 ⟨rfl, rfl⟩)
  refine HC.out.mono ?_
  rintro e2 w2 ⟨Ap, cp, vl, v', vs', rfl, hrow, hparts, hs2, hq2, hk2⟩
  have hcap := (own_sl' hrow).cap
  have hmx := (own_sl' hrow).mx
  have hsA := hs2.alloc (.cells #[.bool st, .bool en, .slice Ap ps.length cp] 76)
  obtain ⟨x0, x1, x2, x3⟩ := hsA.blk.four'
  have f3 := hsA.blk.frozen 3
  have hz2 := hk2.size
  have hd0 : ((ps.length : Int) == 0) = false := by simp; intro e; rw [e] at hpl; simp at hpl
  have hand : bits BinOp.and IntKind.i64 ((next : Int) + 1) 1023 = (((next + 1) % 1024 : Nat) : Int) := by rw [and1023]; omega
  have hSN := hsA.next ((next + 1) % 1024)
  have hsl : Sls ((w2.alloc (.cells #[.bool st, .bool en, .slice Ap ps.length cp] 76)).setCell ⟨g, 3, none⟩ (.int .i64 (((next + 1) % 1024 : Nat) : Int))) ((w2.alloc (.cells #[.bool st, .bool en, .slice Ap ps.length cp] 76)).setCell ⟨g, 3, none⟩ (.int .i64 (((next + 1) % 1024 : Nat) : Int))).heap.size Ap ps.length cp vl ps :=
    ChunkOut.sls (w := w) (own_store (i := 3) (hrow.alloc _) hsA.blk (by decide) _) (hparts.keep fun v n xs ho => own_store (i := 3) (ho.alloc _) hsA.blk (by decide) _)
  have hKK : Kept (fun k _ => k = g) w ((w2.alloc (.cells #[.bool st, .bool en, .slice Ap ps.length cp] 76)).setCell ⟨g, 3, none⟩ (.int .i64 (((next + 1) % 1024 : Nat) : Int))) := (hk2.alloc _).setCell (p := ⟨g, 3, none⟩) (fun _ _ => rfl) _
  have henc := encode_ok next st en Ap ps.length cp vl ps _ hsl hnx HV.out
  have HE := Lib.hid henc
  have HSN := Lib.hid hSN
  have HKK := Lib.hid hKK
  have HQ := Lib.hid hq2
  dsimp only at hcap hmx ⊢
  clear hs2 hq2 hk2 hrow hparts hsl hSN hsA hKK henc
  generalize hnn : (next + 1) % 1024 = nn at *
  clear hnn
  go_wp2_with fail
  refine HE.out.mono ?_
  rintro e3 w3 ⟨vb, rfl, hvb, hb3⟩
  go_wp2
  go_ret2
  have hsz := HKK.out.size
  exact ⟨vb, v', vs', rfl, own_base hvb hsz, HSN.out.below hb3 (Nat.le_refl _), HQ.out, HKK.out.trans ((Kept.of_below hb3).mono_at fun k o ho hm => by have := lt_of_heap ho; omega)⟩
end Go.Proofs.YtbjajboodohabaaGreat
