/- law32: works. -/
import Derived.Test.YtchlbpfeiamieaaSv
import Derived.Test.YtchlbpfeiamieaaKd
namespace Go.Proofs.Ytchlbpfeiamieaa
open Go.RowKit Go.Shelf
attribute [local go_sem] Oper.semAt_some

theorem eq62a (w : World) : (binOp .neq 62 (.agg #[.int .i64 2, .int .i64 2, .bool false, .int .i64 0, .int .i64 0]) (.agg #[.int .i64 2, .int .i64 2, .bool false, .int .i64 0, .int .i64 0])).run Try.prog w = .ok (.bool false) w := by kernel_rfl
theorem eq62b (w : World) : (binOp .neq 62 (.agg #[.int .i64 2, .int .i64 4, .bool true, .int .i64 4, .int .i64 6]) (.agg #[.int .i64 2, .int .i64 4, .bool true, .int .i64 4, .int .i64 6])).run Try.prog w = .ok (.bool false) w := by kernel_rfl
theorem eq62c (w : World) : (binOp .neq 62 (.agg #[.int .i64 4, .int .i64 4, .bool false, .int .i64 0, .int .i64 0]) (.agg #[.int .i64 4, .int .i64 4, .bool false, .int .i64 0, .int .i64 0])).run Try.prog w = .ok (.bool false) w := by kernel_rfl
theorem erecv_bad {W : World} {base g n : Nat} {st : Rs} (h : RE W base g n st) (hb : base ≤ W.heap.size) (fr : Nat × Nat) : Calls Try.prog 32 #[.pointer (some ⟨g, 0, none⟩), .int .i64 7, .slice (some ⟨W.heap.size, 0, none⟩) 3 3] (W.alloc (.cells #[.int .u8 32, .int .u8 5, .int .u8 97] 5 fr)) fun e W' => e = .returned (.tuple #[.slice none 0 0, .int .i64 9]) ∧ RE W' base g n st ∧ Below base W W' := by
  have hba : Below base W (W.alloc (.cells #[.int .u8 32, .int .u8 5, .int .u8 97] 5 fr)) := (Below.refl base W).alloc hb _
  obtain ⟨lo, hi, M, vb, h1, h2, h3, h4, h5⟩ := h
  have hs : Sl (W.alloc (.cells #[.int .u8 32, .int .u8 5, .int .u8 97] 5 fr)) (W.alloc (.cells #[.int .u8 32, .int .u8 5, .int .u8 97] 5 fr)).heap.size (some ⟨W.heap.size, 0, none⟩) 3 3 (bvs [32, 5, 97]) := sl_lit (heap_new W _) rfl (by simp)
  refine (rrecv_bad lo hi g M n vb st 7 _ 3 3 [32, 5, 97] 9 _ (h1.alloc _) hs (by omega) ed6 (by omega)).mono fun e W' ⟨e1, hR, hbl⟩ => ?_
  exact ⟨e1, ⟨lo, hi, M, vb, hR, h2, h3, h4, h5⟩, hba.trans (hbl.mono (Nat.le_trans hb hba.size))⟩
set_option maxRecDepth 100000 in
set_option maxHeartbeats 2000000 in
theorem works32_any (w : World) : Calls Try.prog 31 #[] w (IsTrue w) := by
  have hnew := rnew_ok 5 w (by omega) (by omega)
  have q1 := eq62a
  have q2 := eq62b
  have q3 := eq62c
  have kc := fun (w : World) (C : Array Value) (n c : Nat) => Lib.run_convert_bytes_const (P := Try.prog) w 29 5 C n c und29 und5
  have HNEW := Lib.hid hnew
  have HQ := Lib.hid (rfl : w.heap.size = w.heap.size)
  clear hnew
  go_enter Try.func31, Try.ntmps31
  go_upto_region 2 with (go_at_call 67; refine HNEW.out.mono ?_; rintro e1 w1 ⟨rfl, hR, hB⟩)
  have hE0 : RE w1 w.heap.size (w.heap.size + 1) 0 es0 := ⟨_, _, _, _, hR, newRs_ok (by omega) (by omega), newRs_win 5, by omega, Nat.le_refl _⟩
  clear hR
  generalize hg : w.heap.size + 1 = g at *
  clear hg
  go_wp2_with (first
    | (go_at_call 34; refine (num32_any _ _).mono ?_; rintro e1 w2 ⟨rfl, rfl⟩)
    | (go_at_call 102; (with_reducible refine (ew1 hE0 hB.size).mono ?_); rintro e2 w2 ⟨rfl, hE1, hb1⟩; have hB1 := hB.trans hb1)
    | (go_at_call 102; (with_reducible refine (ew2 hE1 hB1.size).mono ?_); rintro e3 w3 ⟨rfl, hE2, hb2⟩; have hB2 := hB1.trans hb2)
    | (go_at_call 102; (with_reducible refine (ew3 hE2 hB2.size).mono ?_); rintro e4 w4 ⟨rfl, hE3, hb3⟩; have hB3 := hB2.trans hb3)
    | (go_at_call 35; (with_reducible refine (estate hE3 hB3.size ev3).mono ?_); rintro e5 w5 ⟨rfl, hE3', hb3'⟩; have hB3' := hB3.trans hb3')
    | (go_at_call 102; (with_reducible refine (ew4 hE3' hB3'.size).mono ?_); rintro e6 w6 ⟨rfl, hE4, hb4⟩; have hB4 := hB3'.trans hb4)
    | (go_at_call 35; (with_reducible refine (estate hE4 hB4.size ev4).mono ?_); rintro e7 w7 ⟨rfl, hE4', hb4'⟩; have hB4' := hB4.trans hb4')
    | (go_at_call 33; (with_reducible refine (etick5 hE4' hB4'.size).mono ?_); rintro e8 w8 ⟨⟨A5, c5, rfl, hc5⟩, hE5, hb5⟩; have hB5 := hB4'.trans hb5)
    | (go_at_call 33; (with_reducible refine (etick6 hE5 hB5.size).mono ?_); rintro e9 w9 ⟨⟨ad, c6, A6, d6, rfl, hc6, hm6, had6, hcell6, hsl6⟩, hE6, hb6⟩; have hB6 := hB5.trans hb6; have hcv6 := conv_sl hsl6)
    | (go_at_call 35; (with_reducible refine (estate hE6 hB6.size ev6).mono ?_); rintro e10 w10 ⟨rfl, hE6', hb6'⟩; have hB6' := hB6.trans hb6')
    | (go_at_call 32; (with_reducible refine (erecv_bad hE6' hB6'.size _).mono ?_); rintro e11 w11 ⟨rfl, hE6b, hb6b⟩; have hB6b := hB6'.trans hb6b)
    | (go_at_call 102; (with_reducible refine (ew7 hE6b hB6b.size).mono ?_); rintro e12 w12 ⟨rfl, hE7, hb7⟩; have hB7 := hB6b.trans hb7)
    | (go_at_call 102; (with_reducible refine (ew8 hE7 hB7.size).mono ?_); rintro e13 w13 ⟨rfl, hE8, hb8⟩; have hB8 := hB7.trans hb8)
    | fail)
  go_ret
  exact ⟨rfl, hB8⟩
end Go.Proofs.Ytchlbpfeiamieaa
