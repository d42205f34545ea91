/- law32: what was returned is gathered. -/
import Derived.Test.YtchlbpfeiamieaaTo
namespace Go.Proofs.Ytchlbpfeiamieaa
open Go.RowKit Go.Shelf

theorem own_vals {w : World} {b b' : Nat} {e e' : TypeId} {v : Value} {n : Nat} {xs xs' : List Value} (h : w.ownsRow b e 1 v n xs) (h' : w.ownsRow b' e' 1 v n xs') : xs = xs' := by
  have l1 := h.1
  have l2 := h'.1
  rcases h.2 with ⟨rfl, h0⟩ | ⟨g, cap, cur, rfl, hb, hh, _, _, _, ht⟩
  · rcases h'.2 with ⟨_, _⟩ | ⟨g', cap', cur', e1, _⟩
    · exact (List.eq_nil_of_length_eq_zero (by omega)).trans (List.eq_nil_of_length_eq_zero (by omega)).symm
    · cases e1
  · rcases h'.2 with ⟨e1, _⟩ | ⟨g', cap', cur', e1, hb', hh', _, _, _, ht'⟩
    · cases e1
    · cases e1
      rw [hh] at hh'
      cases hh'
      exact ht.symm.trans ht'
/-- a receiver, and the SDUs that it has returned, gathered in s -/
structure GotMem (w0 : World) (lo g M n : Nat) (st : Rs) (s : Value) (got : List (List UInt8)) (hi : Nat → Prop) (vb : Value) (wr : World) : Prop where
  rc : Rcv wr lo hi g M n vb st
  ok : StOk st
  win : Win st
  out : OutIs wr lo lo s got
  far : ∀ j, s.ownBlock = some j → ¬ hi j
  bel : Below w0.heap.size w0 wr
  h0 : w0.heap.size ≤ g
  h1 : w0.heap.size ≤ M
/-- the same, its inner values left out -/
def Got (w0 : World) (lo g M n : Nat) (st : Rs) (s : Value) (got : List (List UInt8)) (wr : World) : Prop := ∃ hi vb, GotMem w0 lo g M n st s got hi vb wr
section
variable {w0 w w' : World} {lo g M n : Nat} {st : Rs} {s : Value} {got : List (List UInt8)} {hi : Nat → Prop} {vb : Value}
theorem Got.lo_le (h : Got w0 lo g M n st s got w) : lo ≤ w.heap.size := let ⟨_, _, h⟩ := h; h.rc.hlo
theorem Got.bel (h : Got w0 lo g M n st s got w) : Below w0.heap.size w0 w := let ⟨_, _, h⟩ := h; h.bel
theorem Got.ok (h : Got w0 lo g M n st s got w) : StOk st := let ⟨_, _, h⟩ := h; h.ok
theorem Got.mono (h : Got w0 lo g M n st s got w) {n' : Nat} (hn : n ≤ n') : Got w0 lo g M n' st s got w := let ⟨_, _, h⟩ := h; ⟨_, _, h.rc.mono hn, h.ok, h.win, h.out, h.far, h.bel, h.h0, h.h1⟩
theorem Got.below (h : Got w0 lo g M n st s got w) (hb : Below w.heap.size w w') : Got w0 lo g M n st s got w' := by
  obtain ⟨hi, vb, h⟩ := h
  have hlo := h.rc.hlo
  exact ⟨hi, vb, h.rc.below hb, h.ok, h.win, h.out.kept (Nat.le_refl _) (fun j o _ hj => (hb.block j (lt_of_heap hj)).trans hj), h.far, h.bel.trans (hb.mono h.bel.size), h.h0, h.h1⟩
theorem Got.drewN (h : Got w0 lo g M n st s got w) (q : Nat) : Got w0 lo g M n st s got (w.drewN q) := h.below ((Below.refl _ w).drewN q)
theorem Got.start (d : Int) {e : Ending} (hr : NewR w0 d e w) (h1 : 1 ≤ d) (h2 : d ≤ 1048576) : e = .returned (.tuple #[.pointer (some ⟨w0.heap.size + 1, 0, none⟩), .int .i64 0]) ∧ Got w0 (w0.heap.size + 2) (w0.heap.size + 1) w0.heap.size 0 (newRs d) (.slice none 0 0) [] w :=
  ⟨hr.1, _, _, hr.2.1, newRs_ok h1 (by omega), newRs_win d, OutIs.nil _ _ _, fun j hj => by simp [Value.ownBlock] at hj, hr.2.2, by omega, Nat.le_refl _⟩
/-- what a call gives: the SDUs, to be gathered -/
def CallOut (w0 : World) (lo g M n : Nat) (R : Rs × List (List UInt8)) (s : Value) (got : List (List UInt8)) (e : Ending) (w' : World) : Prop :=
  ∃ vo, e = .returned (.tuple #[vo, .int .i64 0]) ∧ Got w0 lo g M n R.1 s got w' ∧ OutIs w' lo lo vo R.2
theorem Got.after (h : GotMem w0 lo g M n st s got hi vb w) {n' : Nat} {R : Rs × List (List UInt8)} {e : Ending} (hk : StOk R.1) (hw : Win R.1) (hr : RecvOut w lo hi g M n' R e w') : CallOut w0 lo g M n' R s got e w' := by
  obtain ⟨vb', vo, rfl, hR, hO, hK⟩ := hr
  have hlo := h.rc.hlo
  refine ⟨vo, rfl, ⟨_, _, hR, hk, hw, h.out.keptR (Nat.le_refl _) hK h.rc.hg h.rc.hM, fun j hj hh => ?_, h.bel.trans (MR.below hK h.h0 h.h1 h.bel.size), h.h0, h.h1⟩, hO.base_ hlo⟩
  obtain ⟨vs, hv, _⟩ := h.out
  rcases hh with hh | hh
  · exact h.far j hj hh
  · have := (hv.lt j hj).2
    omega
theorem Got.recv (h : Got w0 lo g M n st s got w) (now : Int) (A : Option Addr) (nn c : Nat) (bs : List UInt8) (p : Pd) (hn : now ≤ 1000000000000)
    (hs : Sl w w.heap.size A nn c (bvs bs)) (hnn : nn ≤ 1000000) (hd : decU bs = .inr (p.sn, p.s, p.en, p.ps)) (hp : PdOk p) (hroom : n < 9223372036854775807) :
    Calls Try.prog 32 #[.pointer (some ⟨g, 0, none⟩), .int .i64 now, .slice A nn c] w (CallOut w0 lo g M (n + 1) (recvP st now p) s got) := by
  obtain ⟨hi, vb, h⟩ := h
  exact (rrecv_ok lo hi g M n vb st now A nn c bs w p h.rc h.ok h.win hn hs hnn hd hp hroom).mono fun e w' hh => Got.after h (h.ok.recv hn hp).1 (h.win.recv h.ok hn hp) hh
theorem Got.tick (h : Got w0 lo g M n st s got w) (now : Int) (hn : now ≤ 1000000000000) :
    Calls Try.prog 33 #[.pointer (some ⟨g, 0, none⟩), .int .i64 now] w (CallOut w0 lo g M n (goesP st now) s got) := by
  obtain ⟨hi, vb, h⟩ := h
  exact (rtick_any lo hi g M n vb st now w h.rc h.ok h.win hn).mono fun e w' hh => Got.after h (h.ok.goes hn).1 (h.win.goes h.ok hn) hh
/-- the rows of what was gathered -/
theorem Got.row (h : Got w0 lo g M n st s got w) : ∃ A c vs, s = .slice A got.length c ∧ w.ownsRow lo 29 1 (.slice A got.length c) got.length vs ∧ got.length ≤ c ∧ c ≤ 9223372036854775807 ∧ Sls w w.heap.size A got.length c vs got := by
  obtain ⟨hi, vb, h⟩ := h
  obtain ⟨A, c, vs, rfl, hc, hm, hv, hsl, _, he⟩ := h.out.one
  exact ⟨A, c, vs, rfl, hv, hc, hm, hsl, rfl, fun i p hi => let ⟨vi, e, ho⟩ := he i p hi; let ⟨A', c', e', hs', _⟩ := own_sl ho; ⟨A', c', by rw [e, e'], hs'⟩⟩
/-- SDUs are gathered -/
theorem Got.app (h : Got w0 lo g M n st s got w) {outs : List (List UInt8)} {vo v6 : Value} {vs vs2 : List Value} (hO : OutIs w lo lo vo outs) (hv : w.ownsRow lo 29 1 s got.length vs) (hv2 : w.ownsRow lo 29 1 vo outs.length vs2)
    (hown : w'.ownsRow lo 29 1 v6 (got.length + outs.length) (vs ++ vs2)) (hg : w.grownBy w' s.ownBlock) (hb : v6.ownBlock = s.ownBlock ∨ v6.ownBlock = some w.heap.size) : Got w0 lo g M n st v6 (got ++ outs) w' := by
  obtain ⟨hi, vb, h⟩ := h
  obtain ⟨vs', a1, a2⟩ := h.out
  obtain ⟨vs2', b1, b2⟩ := hO
  have e1 : vs' = vs := own_vals a1 hv
  have e2 : vs2' = vs2 := own_vals b1 hv2
  subst e1 e2
  refine ⟨hi, vb, h.rc.rowGrown hv (fun j _ hj => h.far j hj) hg, h.ok, h.win, OutIs.app hv a2 hv2 b2 hown hg, fun j hj hh => ?_, h.bel.grown hg h.bel.size (fun k hk => ?_), h.h0, h.h1⟩
  · rcases hb with e | e
    · exact h.far j (e ▸ hj) hh
    · rw [e] at hj
      cases hj
      have := h.rc.hhi _ hh
      omega
  · have := (hv.lt k hk).1
    have := h.rc.hg
    have := h.h0
    omega
end
end Go.Proofs.Ytchlbpfeiamieaa
