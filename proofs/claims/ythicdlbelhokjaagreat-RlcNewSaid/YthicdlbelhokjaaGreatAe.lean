/- rlc: an entity of transparent mode: Buffered, Submit, Grant, Receive, Tick. -/
import Derived.Test.YthicdlbelhokjaaGreatAd
namespace Go.Proofs.YthicdlbelhokjaaGreat
open Go.RowKit
attribute [local go_sem] Oper.semAt_some

/-- an entity of transparent mode -/
structure Ent (w : World) (base g t : Nat) (v : Value) (vs : List Value) (sdus : List (List UInt8)) (cap : Nat) : Prop where
  ent : Blk w g 67 #[.int .i64 1, .iface 108 (.pointer (some ⟨t, 0, none⟩)), .pointer none]
  blk : Blk w t 112 #[v, .int .i64 cap]
  row : OwnQ w base 51 v sdus.length vs
  each : ∀ (i : Nat) (p : List UInt8), sdus[i]? = some p → ∃ A c, vs[i]? = some (.slice A p.length c) ∧ w.ownsRow base 5 1 (.slice A p.length c) p.length (bvs p)
theorem Ent.sls {w : World} {base g t : Nat} {v : Value} {vs : List Value} {sdus : List (List UInt8)} {cap : Nat} (h : Ent w base g t v vs sdus cap) : ∃ A c, v = .slice A sdus.length c ∧ Sls w w.heap.size A sdus.length c vs sdus := by
  obtain ⟨A, c, e, hs⟩ := h.row.sl
  refine ⟨A, c, e, hs, rfl, fun i p hi => ?_⟩
  obtain ⟨A', c', h1, h2⟩ := h.each i p hi
  exact ⟨A', c', h1, own_sl' h2⟩
theorem Ent.below {w w' : World} {base g t B : Nat} {v : Value} {vs : List Value} {sdus : List (List UInt8)} {cap : Nat} (h : Ent w base g t v vs sdus cap) (hb : Below B w w') (hB : w.heap.size ≤ B) : Ent w' base g t v vs sdus cap :=
  ⟨h.ent.below hb (by have := h.ent.lt; omega), h.blk.below hb (by have := h.blk.lt; omega), h.row.below hb hB, fun i p hi => let ⟨A, c, e, ho⟩ := h.each i p hi; ⟨A, c, e, own_below ho hb hB⟩⟩
theorem Ent.drewN {w : World} {base g t : Nat} {v : Value} {vs : List Value} {sdus : List (List UInt8)} {cap : Nat} (h : Ent w base g t v vs sdus cap) (k : Nat) : Ent (w.drewN k) base g t v vs sdus cap := ⟨h.ent, h.blk, h.row, h.each⟩
theorem Ent.alloc {w : World} {base g t : Nat} {v : Value} {vs : List Value} {sdus : List (List UInt8)} {cap : Nat} (h : Ent w base g t v vs sdus cap) (o : Obj) : Ent (w.alloc o) base g t v vs sdus cap := h.below ((Below.refl _ w).alloc (Nat.le_refl _) o) (Nat.le_refl _)

theorem meth_buffered (a : Addr) (w : World) : (method 419 108 (.pointer (some a)) "userplane/rlc.buffered").run Tryz.prog w = .ok (235, .pointer (some a)) w := by kernel_rfl
theorem meth_clone (a : Addr) (w : World) : (method 419 108 (.pointer (some a)) "userplane/rlc.clone").run Tryz.prog w = .ok (236, .pointer (some a)) w := by kernel_rfl
theorem meth_grant (a : Addr) (w : World) : (method 419 108 (.pointer (some a)) "userplane/rlc.grant").run Tryz.prog w = .ok (237, .pointer (some a)) w := by kernel_rfl
theorem meth_receive (a : Addr) (w : World) : (method 419 108 (.pointer (some a)) "userplane/rlc.receive").run Tryz.prog w = .ok (238, .pointer (some a)) w := by kernel_rfl
theorem meth_submit (a : Addr) (w : World) : (method 419 108 (.pointer (some a)) "userplane/rlc.submit").run Tryz.prog w = .ok (239, .pointer (some a)) w := by kernel_rfl
theorem meth_tick (a : Addr) (w : World) : (method 419 108 (.pointer (some a)) "userplane/rlc.tick").run Tryz.prog w = .ok (240, .pointer (some a)) w := by kernel_rfl

set_option maxHeartbeats 400000 in
theorem qbytes_any (t : Nat) (x : Value) (A : Option Addr) (n c : Nat) (vs : List Value) (ps : List (List UInt8)) (w : World) (hb : Blk w t 112 #[.slice A n c, x]) (h : Sls w w.heap.size A n c vs ps) (hsum : sumLen ps ≤ 1152921504606846976) :
    Calls Tryz.prog 241 #[.pointer (some ⟨t, 0, none⟩)] w fun e w' => e = .returned (.int .i64 (sumLen ps)) ∧ w = w' := by
  have HL := Lib.hid h.len
  have HSM := Lib.hid hsum
  have hn63 : n ≤ 9223372036854775807 := by have := h.sl.cap; have := h.sl.mx; omega
  have x0 := hb.cell 0
  simp at x0
  clear hsum
  go_enter Tryz.func241, Tryz.ntmps241
  go_wp2
  go_loop [3, 11] (fun s i => ∃ k : Nat, k ≤ n ∧ i = .int .i64 k ∧ s = .int .i64 (sumLen (ps.take k))) (fun _ i => n - (intOf i).toNat)
  case atStart => exact ⟨0, Nat.zero_le _, rfl, rfl⟩
  case round =>
    obtain ⟨k, hk, rfl, rfl⟩ := hrel
    by_cases hlt : k < n
    · obtain ⟨ad, Ai, ci, rfl, hb, hc, hsl⟩ := h.get hlt
      have hs1 := sumLen_take ps k (by rw [HL.out]; exact hlt)
      have hle1 := Nat.le_trans (sumLen_take_le ps (k + 1)) HSM.out
      have hcap := hsl.cap
      have hmx := hsl.mx
      generalize ps[k]?.getD [] = p at *
      generalize sumLen (List.take k ps) = S at *
      have hle2 : S + p.length ≤ 1152921504606846976 := by omega
      have HS := Lib.hid hs1
      clear hs1 hle1
      go_wp2
      go_round
      case rel => exact ⟨k + 1, by omega, by go_num, by rw [HS.out]; go_num⟩
      case measure => simp [intOf]; omega
    · have e : ps.take k = ps := List.take_of_length_le (by rw [HL.out]; omega)
      rw [e]
      clear e
      go_wp2
      go_ret
      exact ⟨rfl, rfl⟩
theorem tbuffered_any (base g t : Nat) (v : Value) (vs : List Value) (sdus : List (List UInt8)) (cap : Nat) (w : World) (h : Ent w base g t v vs sdus cap) (hsum : sumLen sdus ≤ 1152921504606846976) :
    Calls Tryz.prog 235 #[.pointer (some ⟨t, 0, none⟩)] w fun e w' => e = .returned (.int .i64 (sumLen sdus)) ∧ w = w' := by
  obtain ⟨A, c, rfl, hs⟩ := h.sls
  have hq := qbytes_any t _ A sdus.length c vs sdus w h.blk hs hsum
  have x0 := h.blk.cell 0
  simp at x0
  have HQ := Lib.hid hq
  clear hq hs
  go_enter Tryz.func235, Tryz.ntmps235
  go_wp2_with (go_at_call 241; refine HQ.out.mono ?_; rintro e1 w1 ⟨rfl, rfl⟩)
  go_ret
  exact ⟨rfl, rfl⟩
set_option maxRecDepth 100000 in
theorem rbuffered_any (base g t : Nat) (v : Value) (vs : List Value) (sdus : List (List UInt8)) (cap : Nat) (w : World) (h : Ent w base g t v vs sdus cap) (hsum : sumLen sdus ≤ 1152921504606846976) :
    Calls Tryz.prog 12 #[.pointer (some ⟨g, 0, none⟩)] w fun e w' => e = .returned (.int .i64 (sumLen sdus)) ∧ w = w' := by
  have hno := none_any g 1 _ _ w h.ent
  have htb := tbuffered_any base g t v vs sdus cap w h hsum
  have x1 := h.ent.cell 1
  simp at x1
  have HN := Lib.hid hno
  have HTB := Lib.hid htb
  have hme := meth_buffered ⟨t, 0, none⟩
  clear hno htb
  go_enter Tryz.func12, Tryz.ntmps12
  go_wp2_with (first | (go_at_call 36; refine HN.out.mono ?_; rintro e1 w1 ⟨rfl, rfl⟩) | (go_at_call 235; refine HTB.out.mono ?_; rintro e1 w1 ⟨rfl, rfl⟩))
  go_ret
  exact ⟨rfl, rfl⟩
end Go.Proofs.YthicdlbelhokjaaGreat
