/- law35: a transmitter among other things in memory. -/
import Derived.Test.YtmiipkaobloedaaGreatZg
import Derived.Test.YtmiipkaobloedaaGreatZh
import Derived.Test.YtmiipkaobloedaaGreatZi
import Derived.Deep.DeepCutAuto
namespace Go.Proofs.YtmiipkaobloedaaGreat
open Go.RowKit Go.Shelf
attribute [local go_sem] Oper.semAt_some
/-- a transmitter that was made since w; N: blocks that it neither reads nor writes -/
structure T35 (w : World) (N : Nat → Prop) (c : Cf) (g : Nat) (st : Sd) (K : Nat) (W : World) : Prop where
  am : ∃ F, AmF W F g c st ∧ (∀ k, F k → w.heap.size ≤ k) ∧ (∀ k, N k → ¬ F k)
  ok : Ok35 c st K
  bel : Below w.heap.size w W
  nlt : ∀ k, N k → k < W.heap.size
/-- what a call leaves -/
def TO (w : World) (N : Nat → Prop) (c : Cf) (g : Nat) (st' : Sd) (K' : Nat) (W : World) (w' : World) : Prop := T35 w N c g st' K' w' ∧ (∀ k, N k → w'.heap[k]? = W.heap[k]?) ∧ W.heap.size ≤ w'.heap.size
section
variable {w W W' : World} {N N' : Nat → Prop} {c : Cf} {g K K' : Nat} {st st' : Sd}
theorem T35.more (h : T35 w N c g st K W) (hb : Below W.heap.size W W') : T35 w N c g st K W' := by
  obtain ⟨F, h1, h2, h3⟩ := h.am
  exact ⟨⟨F, h1.below hb, h2, h3⟩, h.ok, h.bel.trans (hb.mono h.bel.size), fun k hk => Nat.lt_of_lt_of_le (h.nlt k hk) hb.size⟩
/-- other blocks are laid since -/
theorem T35.add (h : T35 w N c g st K W) (hb : Below W.heap.size W W') (hn : ∀ k, N' k → N k ∨ (W.heap.size ≤ k ∧ k < W'.heap.size)) : T35 w N' c g st K W' := by
  obtain ⟨F, h1, h2, h3⟩ := h.am
  refine ⟨⟨F, h1.below hb, h2, fun k hk hf => ?_⟩, h.ok, h.bel.trans (hb.mono h.bel.size), fun k hk => ?_⟩
  · rcases hn k hk with e | e
    · exact h3 k e hf
    · have := h1.lt k hf; omega
  · rcases hn k hk with e | e
    · exact Nat.lt_of_lt_of_le (h.nlt k e) hb.size
    · exact e.2
/-- one of the other blocks is written -/
theorem T35.grown (h : T35 w N c g st K W) {row : Option Nat} (hg : W.grownBy W' row) (hr : ∀ r, row = some r → N r ∧ w.heap.size ≤ r) : T35 w N c g st K W' := by
  obtain ⟨F, h1, h2, h3⟩ := h.am
  refine ⟨⟨F, h1.stay fun k hk => hg.block k (h1.lt k hk) (fun e => h3 k (hr k e.symm).1 hk), h2, h3⟩, h.ok, h.bel.grown hg h.bel.size (fun r e => (hr r e).2), fun k hk => Nat.lt_of_lt_of_le (h.nlt k hk) hg.size⟩
theorem t35_next {F : Nat → Prop} (h : T35 w N c g st K W) (h2 : ∀ k, F k → w.heap.size ≤ k) (h3 : ∀ k, N k → ¬ F k) (hG : AmG W F g c st' W') (ho : Ok35 c st' K') : TO w N c g st' K' W W' := by
  have hb := hG.below (B := w.heap.size) h2 h.bel.size
  obtain ⟨F', a1, a2, a3⟩ := hG
  refine ⟨⟨⟨F', a1, fun k hk => ?_, fun k hk hf => ?_⟩, ho, h.bel.trans hb, fun k hk => Nat.lt_of_lt_of_le (h.nlt k hk) a3.size⟩, fun k hk => ?_, a3.size⟩
  · rcases a2 k hk with e | e
    · exact h2 k e
    · have := h.bel.size; omega
  · rcases a2 k hf with e | e
    · exact h3 k hk e
    · have := h.nlt k hk; omega
  · have hh := Array.getElem?_eq_getElem (h.nlt k hk)
    rw [a3.same _ _ hh (h3 k hk), hh]
theorem t35_submit (h : T35 w N c g st K W) {A : Option Addr} {n cc : Nat} {x : List UInt8} (hx : Sl W W.heap.size A n cc (bvs x)) :
    Calls Tryz.prog 10 #[.pointer (some ⟨g, 0, none⟩), .slice A n cc] W fun e w' => e = .returned (.int .i64 (submitR c st x).2) ∧ TO w N c g (submitR c st x).1 K W w' := by
  obtain ⟨F, h1, h2, h3⟩ := h.am
  exact (amf_submit h1 h.ok hx).mono fun e w' hh => ⟨hh.1, t35_next h h2 h3 hh.2 (h.ok.submit x)⟩
theorem t35_grant (h : T35 w N c g st K W) (hK : K ≤ 90000) (now n : Int) (hnow : now ≤ 9223372036854775807) (hn : n ≤ 9223372036854775807) :
    Calls Tryz.prog 11 #[.pointer (some ⟨g, 0, none⟩), .int .i64 now, .int .i64 n] W fun e w' => ∃ v, e = .returned (.tuple #[v, .int .i64 (grantR c st now n).2.2]) ∧ w'.ownsRow W.heap.size 5 1 v (puB (grantR c st now n).2.1).length (bvs (puB (grantR c st now n).2.1)) ∧ TO w N c g (grantR c st now n).1 (K + 3) W w' := by
  obtain ⟨F, h1, h2, h3⟩ := h.am
  refine (amf_grant h1 h.ok hK now n hnow hn).mono ?_
  rintro e w' ⟨v, he, hv, hG⟩
  exact ⟨v, he, hv, t35_next h h2 h3 hG (h.ok.grant now n hnow)⟩
theorem t35_status (h : T35 w N c g st K W) (hK : K ≤ 90000) (now ack : Int) (hn : now ≤ 9223372036854775807) (A : Option Addr) (n cc : Nat) (nks : List Nk) (hN : NkAt W A n cc nks) (hA : ∀ ad, A = some ad → 0 < n → ad.block < w.heap.size) :
    Calls Tryz.prog 14 #[.pointer (some ⟨g, 0, none⟩), .int .i64 now, .agg #[.int .i64 ack, .slice A n cc]] W fun e w' => e = .returned (.int .i64 (statusR c st now ack nks).2) ∧ TO w N c g (statusR c st now ack nks).1 (K + 3) W w' := by
  obtain ⟨F, h1, h2, h3⟩ := h.am
  exact (amf_status h1 h.ok hK now ack hn A n cc nks hN (fun ad e hz hf => by have := h2 _ hf; have := hA ad e hz; omega)).mono fun e w' hh => ⟨hh.1, t35_next h h2 h3 hh.2 (h.ok.status now ack nks hn)⟩
theorem t35_tick (h : T35 w N c g st K W) (hK : K ≤ 90000) (now : Int) (hn : now ≤ 9223372036854775807) :
    Calls Tryz.prog 17 #[.pointer (some ⟨g, 0, none⟩), .int .i64 now] W fun e w' => e = .returned (.int .i64 (tickR c st now).2) ∧ TO w N c g (tickR c st now).1 (K + 3) W w' := by
  obtain ⟨F, h1, h2, h3⟩ := h.am
  exact (amf_tick h1 h.ok hK now hn).mono fun e w' hh => ⟨hh.1, t35_next h h2 h3 hh.2 (h.ok.tick now hn)⟩
theorem t35_state (h : T35 w N c g st K W) : Calls Tryz.prog 12 #[.pointer (some ⟨g, 0, none⟩)] W fun e w' => e = .returned (.agg (stV st)) ∧ Below W.heap.size W w' := by
  obtain ⟨F, h1, h2, h3⟩ := h.am
  exact amf_state h1 h.ok
theorem t35_buffered (h : T35 w N c g st K W) : Calls Tryz.prog 13 #[.pointer (some ⟨g, 0, none⟩)] W fun e w' => e = .returned (.int .i64 (bufP st)) ∧ Below W.heap.size W w' := by
  obtain ⟨F, h1, h2, h3⟩ := h.am
  exact amf_buffered h1 h.ok
theorem t35_unconf (h : T35 w N c g st K W) : Calls Tryz.prog 18 #[.pointer (some ⟨g, 0, none⟩)] W fun e w' => (∃ A cc, e = .returned (.slice A st.queue.length cc)) ∧ Below W.heap.size W w' := by
  obtain ⟨F, h1, h2, h3⟩ := h.am
  exact amf_unconf h1 h.ok
theorem t35_pending (h : T35 w N c g st K W) : Calls Tryz.prog 37 #[.pointer (some ⟨g, 0, none⟩)] W (PdOut W (pendL st.out)) := by
  obtain ⟨F, h1, h2, h3⟩ := h.am
  exact amf_pending h1 h.ok
theorem t35_mono (h : T35 w N c g st K W) (hk : K ≤ K') : T35 w N c g st K' W := ⟨h.am, ⟨h.ok.cf, h.ok.inv, h.ok.bnd.mono hk⟩, h.bel, h.nlt⟩
theorem t35_new {s : Nat} (hb : Below w.heap.size w W) (hF : AmF W (· = s) s c newSd) (hs : w.heap.size ≤ s) (ho : Ok35 c newSd 0) (hn : ∀ k, N k → k ≠ s ∧ k < W.heap.size) : T35 w N c s newSd 0 W :=
  ⟨⟨_, hF, fun k e => by rw [show k = s from e]; exact hs, fun k hk e => (hn k hk).1 e⟩, ho, hb, fun k hk => (hn k hk).2⟩
end
end Go.Proofs.YtmiipkaobloedaaGreat
