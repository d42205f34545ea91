/- umsend: New, none, total, left, Waiting. umsend: left, Waiting, take. -/
import Derived.Test.YtbjajboodohabaaGreatJ0
import Derived.Test.YtbjajboodohabaaGreatLa
namespace Go.Proofs.YtbjajboodohabaaGreat
open Go.RowKit Go.Shelf
attribute [local go_sem] Oper.semAt_some

/-- a transmitter: its cells, the row of its SDUs, the SDUs -/
structure Snd (w : World) (base g : Nat) (v : Value) (vs : List Value) (sdus : List (List UInt8)) (sent cap next : Nat) : Prop where
  blk : Blk w g 68 #[v, .int .i64 sent, .int .i64 cap, .int .i64 next]
  row : OwnQ w base 40 v sdus.length vs
  each : ∀ (i : Nat) (p : List UInt8), sdus[i]? = some p → ∃ A c, vs[i]? = some (.slice A p.length c) ∧ w.ownsRow base 5 1 (.slice A p.length c) p.length (bvs p)
theorem Snd.sls {w : World} {base g : Nat} {v : Value} {vs : List Value} {sdus : List (List UInt8)} {sent cap next : Nat} (h : Snd w base g v vs sdus sent cap next) : ∃ A c, v = .slice A sdus.length c ∧ Sls w w.heap.size A sdus.length c vs sdus := by
  obtain ⟨A, c, e, hs⟩ := h.row.sl
  refine ⟨A, c, e, hs, rfl, fun i p hi => ?_⟩
  obtain ⟨A', c', h1, h2⟩ := h.each i p hi
  obtain ⟨A2, c2, e2, hs2, _⟩ := own_sl h2
  cases e2
  exact ⟨_, _, h1, hs2⟩
theorem Snd.below {w w' : World} {base g B : Nat} {v : Value} {vs : List Value} {sdus : List (List UInt8)} {sent cap next : Nat} (h : Snd w base g v vs sdus sent cap next) (hb : Below B w w') (hB : w.heap.size ≤ B) : Snd w' base g v vs sdus sent cap next :=
  ⟨h.blk.below hb (by have := h.blk.lt; omega), h.row.below hb hB, fun i p hi => let ⟨A, c, e, ho⟩ := h.each i p hi; ⟨A, c, e, own_below ho hb hB⟩⟩

theorem snew_bad (n : Int) (w : World) (h : n < 1 ∨ 1048576 < n) : Calls Tryz.prog 7 #[.int .i64 n] w fun e w' => e = .returned (.tuple #[.pointer none, .int .i64 2]) ∧ w = w' := by
  by_cases h1 : n < 1
  · go_enter Tryz.func7, Tryz.ntmps7
    go_wp2
    go_ret2
    exact ⟨rfl, rfl⟩
  · have h2 : 1048576 < n := by omega
    go_enter Tryz.func7, Tryz.ntmps7
    go_wp2
    go_ret2
    exact ⟨rfl, rfl⟩
theorem snew_ok (n : Nat) (w : World) (h1 : 1 ≤ n) (h2 : n ≤ 1048576) : Calls Tryz.prog 7 #[.int .i64 n] w fun e w' => e = .returned (.tuple #[.pointer (some ⟨w.heap.size, 0, none⟩), .int .i64 0]) ∧ Snd w' w.heap.size w.heap.size (.slice none 0 0) [] [] 0 n 0 ∧ Below w.heap.size w w' := by
  have d1 : decide ((n : Int) < 1) = false := by simp; omega
  have d2 : decide ((1048576 : Int) < n) = false := by simp; omega
  go_enter Tryz.func7, Tryz.ntmps7
  go_wp2
  go_ret2
  exact ⟨rfl, ⟨Blk.new _ _ _, ownQ_nil _ _ _, by simp⟩, (Below.refl _ _).alloc (Nat.le_refl _) _⟩
theorem snone_nil (w : World) : Calls Tryz.prog 25 #[.pointer none] w fun e w' => e = .returned (.bool true) ∧ w = w' := by
  go_enter Tryz.func25, Tryz.ntmps25
  go_wp2
  go_ret
  exact ⟨rfl, rfl⟩
theorem snone_any (g n : Nat) (v x y : Value) (w : World) (hb : Blk w g 68 #[v, x, .int .i64 n, y]) (hn : 1 ≤ n) : Calls Tryz.prog 25 #[.pointer (some ⟨g, 0, none⟩)] w fun e w' => e = .returned (.bool false) ∧ w = w' := by
  have x2 := hb.cell 2
  simp at x2
  have d : ((n : Int) == 0) = false := by simp; omega
  go_enter Tryz.func25, Tryz.ntmps25
  go_wp2
  go_ret
  exact ⟨rfl, rfl⟩
theorem sleft1_any (A : Option Addr) (n c : Nat) (w : World) (_h : n ≤ c) (_hc : c ≤ 9223372036854775807) : Calls Tryz.prog 49 #[.slice A n c] w fun e w' => e = .returned (.int .i64 n) ∧ w = w' := by
  go_enter Tryz.func49, Tryz.ntmps49
  go_wp2
  go_ret
  exact ⟨rfl, rfl⟩
set_option maxHeartbeats 400000 in
theorem stotal_any (A : Option Addr) (n c : Nat) (vs : List Value) (ps : List (List UInt8)) (w : World) (h : Sls w w.heap.size A n c vs ps) (hsum : sumLen ps ≤ 1152921504606846976) :
    Calls Tryz.prog 48 #[.slice A n c, .func (.func 49) #[] #[]] w fun e w' => e = .returned (.int .i64 (sumLen ps)) ∧ w = w' := by
  have HL := Lib.hid h.len
  have HSM := Lib.hid hsum
  have hn63 : n ≤ 9223372036854775807 := by have := h.sl.cap; have := h.sl.mx; omega
  clear hsum
  go_enter Tryz.func48, Tryz.ntmps48
  go_wp2
  go_loop [4, 9] (fun t i => ∃ k : Nat, k ≤ n ∧ i = .int .i64 k ∧ t = .int .i64 (sumLen (ps.take k))) (fun _ i => n - (intOf i).toNat)
  case atStart => exact ⟨0, Nat.zero_le _, rfl, rfl⟩
  case round =>
    obtain ⟨k, hk, rfl, rfl⟩ := hrel
    by_cases hlt : k < n
    · obtain ⟨ad, Ai, ci, rfl, hb, hc, hsl⟩ := h.get hlt
      have hs1 := sumLen_take ps k (by rw [HL.out]; exact hlt)
      have hle1 := Nat.le_trans (sumLen_take_le ps (k + 1)) HSM.out
      have hcap := hsl.cap
      have hmx := hsl.mx
      generalize ps[k]?.getD [] = p at *
      generalize sumLen (List.take k ps) = S at *
      have hle2 : S + p.length ≤ 1152921504606846976 := by omega
      have HS := Lib.hid hs1
      clear hs1 hle1
      go_wp2_with (go_at_call 49; refine (sleft1_any _ _ _ _ hcap hmx).mono ?_; rintro e1 w1 ⟨rfl, rfl⟩)
      go_round
      case rel => exact ⟨k + 1, by omega, by go_num, by rw [HS.out]; go_num⟩
      case measure => simp [intOf]; omega
    · have e : ps.take k = ps := List.take_of_length_le (by rw [HL.out]; omega)
      rw [e]
      clear e
      go_wp2
      go_ret
      exact ⟨rfl, rfl⟩
end Go.Proofs.YtbjajboodohabaaGreat
namespace Go.Proofs.YtbjajboodohabaaGreat
open Go.RowKit Go.Shelf
attribute [local go_sem] Oper.semAt_some

theorem Blk.four' {w : World} {g : Nat} {t : TypeId} {x y z u : Value} (b : Blk w g t #[x, y, z, u]) : w.cell? ⟨g, 0, none⟩ = some x ∧ w.cell? ⟨g, 1, none⟩ = some y ∧ w.cell? ⟨g, 2, none⟩ = some z ∧ w.cell? ⟨g, 3, none⟩ = some u :=
  ⟨b.cell 0, b.cell 1, b.cell 2, b.cell 3⟩
/-- a number, with draws alone -/
def NumberD (x : Int) (w : World) (e : Ending) (w' : World) : Prop := e = .returned (.int .i64 x) ∧ Drew w w'
set_option maxHeartbeats 400000 in
theorem sleft_any (g base sent cap next : Nat) (v : Value) (vs : List Value) (sdus : List (List UInt8)) (w : World) (h : Snd w base g v vs sdus sent cap next) (hsum : sumLen sdus ≤ 1152921504606846976) (hsent : sent ≤ 1152921504606846976) :
    Calls Tryz.prog 26 #[.pointer (some ⟨g, 0, none⟩)] w (NumberD ((sumLen sdus : Int) - sent) w) := by
  obtain ⟨A, c, rfl, hs⟩ := h.sls
  have ht := fun W (hW : Sls W W.heap.size A sdus.length c vs sdus) => stotal_any A sdus.length c vs sdus W hW hsum
  obtain ⟨x0, x1, x2, x3⟩ := h.blk.four'
  have hw : IntKind.i64.wrap ((sumLen sdus : Int) - sent) = (sumLen sdus : Int) - sent := IntWalk.i64_in _ (by omega)
  have ht0 := fun k => ht (w.drewN k) (hs.drewn ⟨k, rfl⟩)
  generalize sumLen sdus = S at *
  have HT := Lib.hid ht0
  clear ht ht0 hs
  go_enter Tryz.func26, Tryz.ntmps26
  go_wp2_with fail
  go_quiet ((go_at_call 48; exact Calls.quiet_of_same ((HT.out _).mono fun _ _ hh => ⟨hh.1, hh.2.symm⟩)))
  go_wp2
  go_ret
  refine ⟨ret_int (by first | rw [hw] | rfl), ?_⟩
  exact ⟨_, rfl⟩
end Go.Proofs.YtbjajboodohabaaGreat
