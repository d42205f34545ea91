/- umrecv: rows that grow beside a receiver; span, advance. -/
import Derived.Test.YtchlbpfeiamieaaSk
namespace Go.Proofs.Ytchlbpfeiamieaa
open Go.RowKit Go.Shelf
attribute [local go_sem] Oper.semAt_some

section
variable {w w2 : World} {base lo hi g M n : Nat} {vb v : Value} {st : Rs} {k : Nat} {xs : List Value}
/-- parts stay while a row of slices behind them is appended to -/
theorem PartsOut.rowGrown {vo : Value} {ps : List (List UInt8)} (h : PartsOut w lo vo ps) (hv : w.ownsRow base 29 1 v k xs) (hb : ∀ j, vo.ownBlock = some j → j < base) (hg : w.grownBy w2 v.ownBlock) : PartsOut w2 lo vo ps := by
  obtain ⟨vs, g, cap, data, h1, h2, h3⟩ := h
  refine ⟨vs, g, cap, data, h1.kept hg ?_, own_grown_ne _ h2 hv (by decide) hg, h3⟩
  rcases hvb : vo.ownBlock with _ | j
  · exact .inl rfl
  · refine .inr (fun e => ?_)
    obtain ⟨_, _, _, hb2⟩ := own_isRow hv e.symm
    have := hb j hvb
    omega
theorem Rcv.rowGrown (h : Rcv w lo hi g M n vb st) (hv : w.ownsRow base 29 1 v k xs) (hb : hi ≤ base) (hg : w.grownBy w2 v.ownBlock) : Rcv w2 lo hi g M n vb st := by
  obtain ⟨F, hF, hFm⟩ := h.mp
  refine ⟨h.blk.grown hg (fun e => own_blk_ne hv h.blk (by decide) e.symm), own_grown_ne _ h.row hv (by decide) hg, ⟨F, hF.grown hg ?_, fun j => ⟨(hFm j).1, fun p hp => ?_⟩⟩, h.hg, h.hM, h.ne, Nat.le_trans h.hlo hg.size, Nat.le_trans h.hhi hg.size⟩
  · intro e
    obtain ⟨o, ho, ⟨cs, fr, rfl⟩, _⟩ := own_isRow hv e.symm
    obtain ⟨es, clock, hm⟩ := hF.notCells
    rw [hm] at ho
    cases ho
  · obtain ⟨vo, e, ho, hj⟩ := (hFm j).2 p hp
    exact ⟨vo, e, ho.rowGrown hv (fun i hi' => by have := hj i hi'; omega) hg, hj⟩
/-- SDUs are added to those that are returned -/
theorem OutIs.app {lo' b2 : Nat} {v2 v5 : Value} {outs outs2 : List (List UInt8)} {vs vs2 : List Value} (hvs : w.ownsRow base 29 1 v outs.length vs) (h1 : ∀ (i : Nat) (q : List UInt8), outs[i]? = some q → ∃ vi, vs[i]? = some vi ∧ w.ownsRow lo' 5 1 vi q.length (bvs q))
    (hvs2 : w.ownsRow b2 29 1 v2 outs2.length vs2) (h2 : ∀ (i : Nat) (q : List UInt8), outs2[i]? = some q → ∃ vi, vs2[i]? = some vi ∧ w.ownsRow lo' 5 1 vi q.length (bvs q))
    (hown : w2.ownsRow base 29 1 v5 (outs.length + outs2.length) (vs ++ vs2)) (hg : w.grownBy w2 v.ownBlock) : OutIs w2 base lo' v5 (outs ++ outs2) := by
  refine ⟨vs ++ vs2, by simpa using hown, fun i q hi => ?_⟩
  have hl := hvs.1
  rcases Nat.lt_or_ge i outs.length with hlt | hge
  · rw [List.getElem?_append_left hlt] at hi
    obtain ⟨vi, e, ho⟩ := h1 i q hi
    exact ⟨vi, by rw [List.getElem?_append_left (by omega)]; exact e, own_grown_ne _ ho hvs (by decide) hg⟩
  · rw [List.getElem?_append_right hge] at hi
    obtain ⟨vi, e, ho⟩ := h2 _ q hi
    exact ⟨vi, by rw [List.getElem?_append_right (by omega), show i - vs.length = i - outs.length by omega]; exact e, own_grown_ne _ ho hvs (by decide) hg⟩
theorem OutIs.one {vo : Value} {outs : List (List UInt8)} (h : OutIs w base lo vo outs) : ∃ A c vs, vo = .slice A outs.length c ∧ outs.length ≤ c ∧ c ≤ 9223372036854775807 ∧ w.ownsRow base 29 1 (.slice A outs.length c) outs.length vs ∧ Sl w w.heap.size A outs.length c vs ∧ (∀ u ∈ vs, u.oneCell' = true) ∧
    ∀ (i : Nat) (q : List UInt8), outs[i]? = some q → ∃ vi, vs[i]? = some vi ∧ w.ownsRow lo 5 1 vi q.length (bvs q) := by
  obtain ⟨vs, h1, h2⟩ := h
  obtain ⟨A, c, rfl, hs, _⟩ := own_sl h1
  refine ⟨A, c, vs, rfl, hs.cap, hs.mx, h1, hs, fun u hu => ?_, h2⟩
  obtain ⟨i, hi⟩ := List.mem_iff_getElem?.1 hu
  have hl := h1.1
  have hlt := (List.getElem?_eq_some_iff.1 hi).1
  obtain ⟨vi, e, ho⟩ := h2 i _ (List.getElem?_eq_getElem (by omega : i < outs.length))
  rw [hi] at e
  cases e
  obtain ⟨A2, c2, rfl, _⟩ := own_sl ho
  rfl
end
/-- the closure's two captured variables -/
def SpanBox (w : World) (b1 b2 g sn : Nat) : Prop := w.heap[b1]? = some (.cells #[.pointer (some ⟨g, 0, none⟩)] 52 (0, 0)) ∧ w.heap[b2]? = some (.cells #[.int .i64 sn] 3 (0, 0))
theorem SpanBox.kept {w w' : World} {b1 b2 g sn lo M : Nat} (h : SpanBox w b1 b2 g sn) (hk : Kept (MR g M) w w') (hg : g < lo) (hM : M < lo) (h1 : lo ≤ b1) (h2 : lo ≤ b2) : SpanBox w' b1 b2 g sn :=
  ⟨hk.same _ _ h.1 (by rintro (e | e) <;> omega), hk.same _ _ h.2 (by rintro (e | e) <;> omega)⟩
set_option maxRecDepth 100000 in
theorem rspan1_any (lo hi g M n sn i b1 b2 : Nat) (vb : Value) (st : Rs) (w : World) (h : Rcv w lo hi g M n vb st) (ho : StOk st) (hs : sn ≤ 100000) (hi' : i ≤ 100000) (hb : SpanBox w b1 b2 g sn) :
    Calls Try.prog 155 #[.int .i64 i, .pointer (some ⟨b1, 0, none⟩), .pointer (some ⟨b2, 0, none⟩)] w (DlvOut w lo hi g M n (takeP st ((sn + i) % 1024))) := by
  have x0 : w.cell? ⟨b1, 0, none⟩ = some (.pointer (some ⟨g, 0, none⟩)) := by rw [cell_of_row w b1 0 _ 52 (0, 0) hb.1]; rfl
  have x1 : w.cell? ⟨b2, 0, none⟩ = some (.int .i64 sn) := by rw [cell_of_row w b2 0 _ 3 (0, 0) hb.2]; rfl
  have hand : bits BinOp.and IntKind.i64 ((sn : Int) + i) 1023 = (((sn + i) % 1024 : Nat) : Int) := by rw [and1023]; omega
  have htk := rtake_any lo hi g M n ((sn + i) % 1024) vb st w h ho (by omega)
  have HT := Lib.hid htk
  clear htk h ho
  generalize (sn + i) % 1024 = k at *
  go_enter Try.func155, Try.ntmps155
  go_wp2_with (go_at_call 156; refine HT.out.mono ?_; rintro e1 w1 ⟨vb', vo', rfl, hR, hO, hK⟩)
  go_ret
  exact ⟨vb', vo', rfl, hR, hO, hK⟩
end Go.Proofs.Ytchlbpfeiamieaa
