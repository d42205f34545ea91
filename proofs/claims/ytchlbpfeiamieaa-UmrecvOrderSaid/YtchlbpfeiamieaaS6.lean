/- law32: works: the examples, computed. law32: works. -/
import Derived.Test.YtchlbpfeiamieaaS5
import Derived.Test.YtchlbpfeiamieaaKd
namespace Go.Proofs.Ytchlbpfeiamieaa
open Go.RowKit Go.Shelf
attribute [local go_sem] Oper.semAt_some

def ep1 : Pd := ⟨0, true, false, [[104, 101]]⟩
def ep2 : Pd := ⟨1, false, true, [[108, 108]]⟩
def ep3 : Pd := ⟨3, true, true, [[120]]⟩
def ep4 : Pd := ⟨2, true, true, [[121]]⟩
def ep5 : Pd := ⟨4, false, true, [[122]]⟩
def es0 : Rs := newRs 5
def es1 : Rs := (recvP es0 0 ep1).1
def es2 : Rs := (recvP es1 0 ep2).1
def es3 : Rs := (recvP es2 0 ep2).1
def es4 : Rs := (recvP es3 1 ep3).1
def es5 : Rs := (goesP es4 5).1
def es6 : Rs := (goesP es5 6).1
def es7 : Rs := (recvP es6 7 ep4).1
def es8 : Rs := (recvP es7 7 ep5).1
theorem ed1 : decU [8, 0, 104, 101] = .inr (0, true, false, [[104, 101]]) := by decide +kernel
theorem ed2 : decU [16, 1, 108, 108] = .inr (1, false, true, [[108, 108]]) := by decide +kernel
theorem ed3 : decU [0, 3, 120] = .inr (3, true, true, [[120]]) := by decide +kernel
theorem ed4 : decU [0, 2, 121] = .inr (2, true, true, [[121]]) := by decide +kernel
theorem ed5 : decU [16, 4, 122] = .inr (4, false, true, [[122]]) := by decide +kernel
theorem ed6 : decU [32, 5, 97] = .inl 9 := by decide +kernel
theorem eo1 : (recvP es0 0 ep1).2 = [] := by decide +kernel
theorem eo2 : (recvP es1 0 ep2).2 = [[104, 101, 108, 108]] := by decide +kernel
theorem eo3 : (recvP es2 0 ep2).2 = [] := by decide +kernel
theorem eo4 : (recvP es3 1 ep3).2 = [] := by decide +kernel
theorem eo5 : (goesP es4 5).2 = [] := by decide +kernel
theorem eo6 : (goesP es5 6).2 = [[120]] := by decide +kernel
theorem eo7 : (recvP es6 7 ep4).2 = [] := by decide +kernel
theorem eo8 : (recvP es7 7 ep5).2 = [] := by decide +kernel
theorem ev3 : stV es3 = .agg #[.int .i64 2, .int .i64 2, .bool false, .int .i64 0, .int .i64 0] := by kernel_rfl
theorem ev4 : stV es4 = .agg #[.int .i64 2, .int .i64 4, .bool true, .int .i64 4, .int .i64 6] := by kernel_rfl
theorem ev6 : stV es6 = .agg #[.int .i64 4, .int .i64 4, .bool false, .int .i64 0, .int .i64 0] := by kernel_rfl
theorem epOk (p : Pd) (h1 : p.sn ≤ 1023) (h2 : p.ps.length = 1) (h3 : ∀ q ∈ p.ps, 1 ≤ q.length ∧ q.length ≤ 1000000) : PdOk p := ⟨h1, by omega, h3⟩
section
variable {W : World} {base g n : Nat}
theorem ew1 (h : RE W base g 0 es0) (hb : base ≤ W.heap.size) : Calls Try.prog 102 #[.pointer (some ⟨g, 0, none⟩), .int .i64 0, .string ⟨#[8, 0, 104, 101]⟩, .string ⟨#[]⟩] W (TakesOut W base g 1 es1) :=
  takes_none base g 0 es0 0 [8, 0, 104, 101] ep1 W h (by omega) (by decide) ed1 (epOk _ (by decide) rfl (by decide)) (by omega) hb eo1
theorem ew2 (h : RE W base g 1 es1) (hb : base ≤ W.heap.size) : Calls Try.prog 102 #[.pointer (some ⟨g, 0, none⟩), .int .i64 0, .string ⟨#[16, 1, 108, 108]⟩, .string ⟨#[104, 101, 108, 108]⟩] W (TakesOut W base g 2 es2) :=
  takes_one base g 1 es1 0 [16, 1, 108, 108] [104, 101, 108, 108] ep2 W h (by omega) (by decide) ed2 (epOk _ (by decide) rfl (by decide)) (by omega) hb eo2
theorem ew3 (h : RE W base g 2 es2) (hb : base ≤ W.heap.size) : Calls Try.prog 102 #[.pointer (some ⟨g, 0, none⟩), .int .i64 0, .string ⟨#[16, 1, 108, 108]⟩, .string ⟨#[]⟩] W (TakesOut W base g 3 es3) :=
  takes_none base g 2 es2 0 [16, 1, 108, 108] ep2 W h (by omega) (by decide) ed2 (epOk _ (by decide) rfl (by decide)) (by omega) hb eo3
theorem ew4 (h : RE W base g 3 es3) (hb : base ≤ W.heap.size) : Calls Try.prog 102 #[.pointer (some ⟨g, 0, none⟩), .int .i64 1, .string ⟨#[0, 3, 120]⟩, .string ⟨#[]⟩] W (TakesOut W base g 4 es4) :=
  takes_none base g 3 es3 1 [0, 3, 120] ep3 W h (by omega) (by decide) ed3 (epOk _ (by decide) rfl (by decide)) (by omega) hb eo4
theorem ew7 (h : RE W base g 4 es6) (hb : base ≤ W.heap.size) : Calls Try.prog 102 #[.pointer (some ⟨g, 0, none⟩), .int .i64 7, .string ⟨#[0, 2, 121]⟩, .string ⟨#[]⟩] W (TakesOut W base g 5 es7) :=
  takes_none base g 4 es6 7 [0, 2, 121] ep4 W h (by omega) (by decide) ed4 (epOk _ (by decide) rfl (by decide)) (by omega) hb eo7
theorem ew8 (h : RE W base g 5 es7) (hb : base ≤ W.heap.size) : Calls Try.prog 102 #[.pointer (some ⟨g, 0, none⟩), .int .i64 7, .string ⟨#[16, 4, 122]⟩, .string ⟨#[]⟩] W (TakesOut W base g 6 es8) :=
  takes_none base g 5 es7 7 [16, 4, 122] ep5 W h (by omega) (by decide) ed5 (epOk _ (by decide) rfl (by decide)) (by omega) hb eo8
/-- State, of known states -/
theorem estate {st : Rs} {v : Value} (h : RE W base g n st) (hb : base ≤ W.heap.size) (hv : stV st = v) : Calls Try.prog 35 #[.pointer (some ⟨g, 0, none⟩)] W fun e W' => e = .returned v ∧ RE W' base g n st ∧ Below base W W' := by
  obtain ⟨lo, hi, M, vb, h1, h2, h3, h4, h5⟩ := h
  refine (rstate_any lo hi g M n vb st W h1).mono fun e W' ⟨e1, hbl⟩ => ?_
  exact ⟨by rw [e1, hv], ⟨lo, hi, M, vb, h1.below hbl, h2, h3, h4, h5⟩, hbl.mono hb⟩
theorem etick5 (h : RE W base g n es4) (hb : base ≤ W.heap.size) : Calls Try.prog 33 #[.pointer (some ⟨g, 0, none⟩), .int .i64 5] W fun e W' => (∃ A c, e = .returned (.tuple #[.slice A 0 c, .int .i64 0]) ∧ c ≤ 9223372036854775807) ∧ RE W' base g n es5 ∧ Below base W W' := by
  refine (rtick_re base g n es4 5 W h (by omega) hb).mono fun e W' ⟨lo, vo, e1, hO, hE, hbl⟩ => ?_
  rw [eo5] at hO
  obtain ⟨A, c, _, rfl, _, hm, _⟩ := hO.one
  exact ⟨⟨A, c, e1, hm⟩, hE, hbl⟩
theorem etick6 (h : RE W base g n es5) (hb : base ≤ W.heap.size) : Calls Try.prog 33 #[.pointer (some ⟨g, 0, none⟩), .int .i64 6] W fun e W' => (∃ ad c A3 c3, e = .returned (.tuple #[.slice (some ad) 1 c, .int .i64 0]) ∧ 1 ≤ c ∧ c ≤ 9223372036854775807 ∧ ad.block < W'.heap.size ∧ W'.cell? ad = some (.slice A3 1 c3) ∧ Sl W' W'.heap.size A3 1 c3 (bvs [120])) ∧ RE W' base g n es6 ∧ Below base W W' := by
  refine (rtick_re base g n es5 6 W h (by omega) hb).mono fun e W' ⟨lo, vo, e1, hO, hE, hbl⟩ => ?_
  rw [eo6] at hO
  obtain ⟨A2, c2, vs2, rfl, hc2, hm2, _, hsl2, _, heach⟩ := hO.one
  obtain ⟨vi, hv, ho⟩ := heach 0 [120] rfl
  obtain ⟨A3, c3, rfl, hs3, _⟩ := own_sl ho
  obtain ⟨ad, rfl, had, hcl⟩ := hsl2.at_ (by simp)
  exact ⟨⟨ad, c2, A3, c3, e1, hc2, hm2, had, by simpa [Addr.add] using hcl 0 _ hv, hs3⟩, hE, hbl⟩
end
end Go.Proofs.Ytchlbpfeiamieaa
namespace Go.Proofs.Ytchlbpfeiamieaa
open Go.RowKit Go.Shelf
attribute [local go_sem] Oper.semAt_some

theorem eq62a (w : World) : (binOp .neq 62 (.agg #[.int .i64 2, .int .i64 2, .bool false, .int .i64 0, .int .i64 0]) (.agg #[.int .i64 2, .int .i64 2, .bool false, .int .i64 0, .int .i64 0])).run Try.prog w = .ok (.bool false) w := by kernel_rfl
theorem eq62b (w : World) : (binOp .neq 62 (.agg #[.int .i64 2, .int .i64 4, .bool true, .int .i64 4, .int .i64 6]) (.agg #[.int .i64 2, .int .i64 4, .bool true, .int .i64 4, .int .i64 6])).run Try.prog w = .ok (.bool false) w := by kernel_rfl
theorem eq62c (w : World) : (binOp .neq 62 (.agg #[.int .i64 4, .int .i64 4, .bool false, .int .i64 0, .int .i64 0]) (.agg #[.int .i64 4, .int .i64 4, .bool false, .int .i64 0, .int .i64 0])).run Try.prog w = .ok (.bool false) w := by kernel_rfl
theorem erecv_bad {W : World} {base g n : Nat} {st : Rs} (h : RE W base g n st) (hb : base ≤ W.heap.size) (fr : Nat × Nat) : Calls Try.prog 32 #[.pointer (some ⟨g, 0, none⟩), .int .i64 7, .slice (some ⟨W.heap.size, 0, none⟩) 3 3] (W.alloc (.cells #[.int .u8 32, .int .u8 5, .int .u8 97] 5 fr)) fun e W' => e = .returned (.tuple #[.slice none 0 0, .int .i64 9]) ∧ RE W' base g n st ∧ Below base W W' := by
  have hba : Below base W (W.alloc (.cells #[.int .u8 32, .int .u8 5, .int .u8 97] 5 fr)) := (Below.refl base W).alloc hb _
  obtain ⟨lo, hi, M, vb, h1, h2, h3, h4, h5⟩ := h
  have hs : Sl (W.alloc (.cells #[.int .u8 32, .int .u8 5, .int .u8 97] 5 fr)) (W.alloc (.cells #[.int .u8 32, .int .u8 5, .int .u8 97] 5 fr)).heap.size (some ⟨W.heap.size, 0, none⟩) 3 3 (bvs [32, 5, 97]) := sl_lit (heap_new W _) rfl (by simp)
  refine (rrecv_bad lo hi g M n vb st 7 _ 3 3 [32, 5, 97] 9 _ (h1.alloc _) hs (by omega) ed6 (by omega)).mono fun e W' ⟨e1, hR, hbl⟩ => ?_
  exact ⟨e1, ⟨lo, hi, M, vb, hR, h2, h3, h4, h5⟩, hba.trans (hbl.mono (Nat.le_trans hb hba.size))⟩
set_option maxRecDepth 100000 in
set_option maxHeartbeats 2000000 in
theorem works32_any (w : World) : Calls Try.prog 31 #[] w (IsTrue w) := by
  have hnew := rnew_ok 5 w (by omega) (by omega)
  have q1 := eq62a
  have q2 := eq62b
  have q3 := eq62c
  have kc := fun (w : World) (C : Array Value) (n c : Nat) => Lib.run_convert_bytes_const (P := Try.prog) w 29 5 C n c und29 und5
  have HNEW := Lib.hid hnew
  have HQ := Lib.hid (rfl : w.heap.size = w.heap.size)
  clear hnew
  go_enter Try.func31, Try.ntmps31
  go_upto_region 2 with (go_at_call 67; refine HNEW.out.mono ?_; rintro e1 w1 ⟨rfl, hR, hB⟩)
  have hE0 : RE w1 w.heap.size (w.heap.size + 1) 0 es0 := ⟨_, _, _, _, hR, newRs_ok (by omega) (by omega), newRs_win 5, by omega, Nat.le_refl _⟩
  clear hR
  generalize hg : w.heap.size + 1 = g at *
  clear hg
  go_wp2_with (first
    | (go_at_call 34; refine (num32_any _ _).mono ?_; rintro e1 w2 ⟨rfl, rfl⟩)
    | (go_at_call 102; (with_reducible refine (ew1 hE0 hB.size).mono ?_); rintro e2 w2 ⟨rfl, hE1, hb1⟩; have hB1 := hB.trans hb1)
    | (go_at_call 102; (with_reducible refine (ew2 hE1 hB1.size).mono ?_); rintro e3 w3 ⟨rfl, hE2, hb2⟩; have hB2 := hB1.trans hb2)
    | (go_at_call 102; (with_reducible refine (ew3 hE2 hB2.size).mono ?_); rintro e4 w4 ⟨rfl, hE3, hb3⟩; have hB3 := hB2.trans hb3)
    | (go_at_call 35; (with_reducible refine (estate hE3 hB3.size ev3).mono ?_); rintro e5 w5 ⟨rfl, hE3', hb3'⟩; have hB3' := hB3.trans hb3')
    | (go_at_call 102; (with_reducible refine (ew4 hE3' hB3'.size).mono ?_); rintro e6 w6 ⟨rfl, hE4, hb4⟩; have hB4 := hB3'.trans hb4)
    | (go_at_call 35; (with_reducible refine (estate hE4 hB4.size ev4).mono ?_); rintro e7 w7 ⟨rfl, hE4', hb4'⟩; have hB4' := hB4.trans hb4')
    | (go_at_call 33; (with_reducible refine (etick5 hE4' hB4'.size).mono ?_); rintro e8 w8 ⟨⟨A5, c5, rfl, hc5⟩, hE5, hb5⟩; have hB5 := hB4'.trans hb5)
    | (go_at_call 33; (with_reducible refine (etick6 hE5 hB5.size).mono ?_); rintro e9 w9 ⟨⟨ad, c6, A6, d6, rfl, hc6, hm6, had6, hcell6, hsl6⟩, hE6, hb6⟩; have hB6 := hB5.trans hb6; have hcv6 := conv_sl hsl6)
    | (go_at_call 35; (with_reducible refine (estate hE6 hB6.size ev6).mono ?_); rintro e10 w10 ⟨rfl, hE6', hb6'⟩; have hB6' := hB6.trans hb6')
    | (go_at_call 32; (with_reducible refine (erecv_bad hE6' hB6'.size _).mono ?_); rintro e11 w11 ⟨rfl, hE6b, hb6b⟩; have hB6b := hB6'.trans hb6b)
    | (go_at_call 102; (with_reducible refine (ew7 hE6b hB6b.size).mono ?_); rintro e12 w12 ⟨rfl, hE7, hb7⟩; have hB7 := hB6b.trans hb7)
    | (go_at_call 102; (with_reducible refine (ew8 hE7 hB7.size).mono ?_); rintro e13 w13 ⟨rfl, hE8, hb8⟩; have hB8 := hB7.trans hb8)
    | fail)
  go_ret
  exact ⟨rfl, hB8⟩
end Go.Proofs.Ytchlbpfeiamieaa
