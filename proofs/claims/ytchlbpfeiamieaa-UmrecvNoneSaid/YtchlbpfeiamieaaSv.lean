/- law32: works: the examples, computed. -/
import Derived.Test.YtchlbpfeiamieaaSu
namespace Go.Proofs.Ytchlbpfeiamieaa
open Go.RowKit Go.Shelf
attribute [local go_sem] Oper.semAt_some

def ep1 : Pd := ⟨0, true, false, [[104, 101]]⟩
def ep2 : Pd := ⟨1, false, true, [[108, 108]]⟩
def ep3 : Pd := ⟨3, true, true, [[120]]⟩
def ep4 : Pd := ⟨2, true, true, [[121]]⟩
def ep5 : Pd := ⟨4, false, true, [[122]]⟩
def es0 : Rs := newRs 5
def es1 : Rs := (recvP es0 0 ep1).1
def es2 : Rs := (recvP es1 0 ep2).1
def es3 : Rs := (recvP es2 0 ep2).1
def es4 : Rs := (recvP es3 1 ep3).1
def es5 : Rs := (goesP es4 5).1
def es6 : Rs := (goesP es5 6).1
def es7 : Rs := (recvP es6 7 ep4).1
def es8 : Rs := (recvP es7 7 ep5).1
theorem ed1 : decU [8, 0, 104, 101] = .inr (0, true, false, [[104, 101]]) := by decide +kernel
theorem ed2 : decU [16, 1, 108, 108] = .inr (1, false, true, [[108, 108]]) := by decide +kernel
theorem ed3 : decU [0, 3, 120] = .inr (3, true, true, [[120]]) := by decide +kernel
theorem ed4 : decU [0, 2, 121] = .inr (2, true, true, [[121]]) := by decide +kernel
theorem ed5 : decU [16, 4, 122] = .inr (4, false, true, [[122]]) := by decide +kernel
theorem ed6 : decU [32, 5, 97] = .inl 9 := by decide +kernel
theorem eo1 : (recvP es0 0 ep1).2 = [] := by decide +kernel
theorem eo2 : (recvP es1 0 ep2).2 = [[104, 101, 108, 108]] := by decide +kernel
theorem eo3 : (recvP es2 0 ep2).2 = [] := by decide +kernel
theorem eo4 : (recvP es3 1 ep3).2 = [] := by decide +kernel
theorem eo5 : (goesP es4 5).2 = [] := by decide +kernel
theorem eo6 : (goesP es5 6).2 = [[120]] := by decide +kernel
theorem eo7 : (recvP es6 7 ep4).2 = [] := by decide +kernel
theorem eo8 : (recvP es7 7 ep5).2 = [] := by decide +kernel
theorem ev3 : stV es3 = .agg #[.int .i64 2, .int .i64 2, .bool false, .int .i64 0, .int .i64 0] := by kernel_rfl
theorem ev4 : stV es4 = .agg #[.int .i64 2, .int .i64 4, .bool true, .int .i64 4, .int .i64 6] := by kernel_rfl
theorem ev6 : stV es6 = .agg #[.int .i64 4, .int .i64 4, .bool false, .int .i64 0, .int .i64 0] := by kernel_rfl
theorem epOk (p : Pd) (h1 : p.sn ≤ 1023) (h2 : p.ps.length = 1) (h3 : ∀ q ∈ p.ps, 1 ≤ q.length ∧ q.length ≤ 1000000) : PdOk p := ⟨h1, by omega, h3⟩
section
variable {W : World} {base g n : Nat}
theorem ew1 (h : RE W base g 0 es0) (hb : base ≤ W.heap.size) : Calls Try.prog 102 #[.pointer (some ⟨g, 0, none⟩), .int .i64 0, .string ⟨#[8, 0, 104, 101]⟩, .string ⟨#[]⟩] W (TakesOut W base g 1 es1) :=
  takes_none base g 0 es0 0 [8, 0, 104, 101] ep1 W h (by omega) (by decide) ed1 (epOk _ (by decide) rfl (by decide)) (by omega) hb eo1
theorem ew2 (h : RE W base g 1 es1) (hb : base ≤ W.heap.size) : Calls Try.prog 102 #[.pointer (some ⟨g, 0, none⟩), .int .i64 0, .string ⟨#[16, 1, 108, 108]⟩, .string ⟨#[104, 101, 108, 108]⟩] W (TakesOut W base g 2 es2) :=
  takes_one base g 1 es1 0 [16, 1, 108, 108] [104, 101, 108, 108] ep2 W h (by omega) (by decide) ed2 (epOk _ (by decide) rfl (by decide)) (by omega) hb eo2
theorem ew3 (h : RE W base g 2 es2) (hb : base ≤ W.heap.size) : Calls Try.prog 102 #[.pointer (some ⟨g, 0, none⟩), .int .i64 0, .string ⟨#[16, 1, 108, 108]⟩, .string ⟨#[]⟩] W (TakesOut W base g 3 es3) :=
  takes_none base g 2 es2 0 [16, 1, 108, 108] ep2 W h (by omega) (by decide) ed2 (epOk _ (by decide) rfl (by decide)) (by omega) hb eo3
theorem ew4 (h : RE W base g 3 es3) (hb : base ≤ W.heap.size) : Calls Try.prog 102 #[.pointer (some ⟨g, 0, none⟩), .int .i64 1, .string ⟨#[0, 3, 120]⟩, .string ⟨#[]⟩] W (TakesOut W base g 4 es4) :=
  takes_none base g 3 es3 1 [0, 3, 120] ep3 W h (by omega) (by decide) ed3 (epOk _ (by decide) rfl (by decide)) (by omega) hb eo4
theorem ew7 (h : RE W base g 4 es6) (hb : base ≤ W.heap.size) : Calls Try.prog 102 #[.pointer (some ⟨g, 0, none⟩), .int .i64 7, .string ⟨#[0, 2, 121]⟩, .string ⟨#[]⟩] W (TakesOut W base g 5 es7) :=
  takes_none base g 4 es6 7 [0, 2, 121] ep4 W h (by omega) (by decide) ed4 (epOk _ (by decide) rfl (by decide)) (by omega) hb eo7
theorem ew8 (h : RE W base g 5 es7) (hb : base ≤ W.heap.size) : Calls Try.prog 102 #[.pointer (some ⟨g, 0, none⟩), .int .i64 7, .string ⟨#[16, 4, 122]⟩, .string ⟨#[]⟩] W (TakesOut W base g 6 es8) :=
  takes_none base g 5 es7 7 [16, 4, 122] ep5 W h (by omega) (by decide) ed5 (epOk _ (by decide) rfl (by decide)) (by omega) hb eo8
/-- State, of known states -/
theorem estate {st : Rs} {v : Value} (h : RE W base g n st) (hb : base ≤ W.heap.size) (hv : stV st = v) : Calls Try.prog 35 #[.pointer (some ⟨g, 0, none⟩)] W fun e W' => e = .returned v ∧ RE W' base g n st ∧ Below base W W' := by
  obtain ⟨lo, hi, M, vb, h1, h2, h3, h4, h5⟩ := h
  refine (rstate_any lo hi g M n vb st W h1).mono fun e W' ⟨e1, hbl⟩ => ?_
  exact ⟨by rw [e1, hv], ⟨lo, hi, M, vb, h1.below hbl, h2, h3, h4, h5⟩, hbl.mono hb⟩
theorem etick5 (h : RE W base g n es4) (hb : base ≤ W.heap.size) : Calls Try.prog 33 #[.pointer (some ⟨g, 0, none⟩), .int .i64 5] W fun e W' => (∃ A c, e = .returned (.tuple #[.slice A 0 c, .int .i64 0]) ∧ c ≤ 9223372036854775807) ∧ RE W' base g n es5 ∧ Below base W W' := by
  refine (rtick_re base g n es4 5 W h (by omega) hb).mono fun e W' ⟨lo, vo, e1, hO, hE, hbl⟩ => ?_
  rw [eo5] at hO
  obtain ⟨A, c, _, rfl, _, hm, _⟩ := hO.one
  exact ⟨⟨A, c, e1, hm⟩, hE, hbl⟩
theorem etick6 (h : RE W base g n es5) (hb : base ≤ W.heap.size) : Calls Try.prog 33 #[.pointer (some ⟨g, 0, none⟩), .int .i64 6] W fun e W' => (∃ ad c A3 c3, e = .returned (.tuple #[.slice (some ad) 1 c, .int .i64 0]) ∧ 1 ≤ c ∧ c ≤ 9223372036854775807 ∧ ad.block < W'.heap.size ∧ W'.cell? ad = some (.slice A3 1 c3) ∧ Sl W' W'.heap.size A3 1 c3 (bvs [120])) ∧ RE W' base g n es6 ∧ Below base W W' := by
  refine (rtick_re base g n es5 6 W h (by omega) hb).mono fun e W' ⟨lo, vo, e1, hO, hE, hbl⟩ => ?_
  rw [eo6] at hO
  obtain ⟨A2, c2, vs2, rfl, hc2, hm2, _, hsl2, _, heach⟩ := hO.one
  obtain ⟨vi, hv, ho⟩ := heach 0 [120] rfl
  obtain ⟨A3, c3, rfl, hs3, _⟩ := own_sl ho
  obtain ⟨ad, rfl, had, hcl⟩ := hsl2.at_ (by simp)
  exact ⟨⟨ad, c2, A3, c3, e1, hc2, hm2, had, by simpa [Addr.add] using hcl 0 _ hv, hs3⟩, hE, hbl⟩
end
end Go.Proofs.Ytchlbpfeiamieaa
