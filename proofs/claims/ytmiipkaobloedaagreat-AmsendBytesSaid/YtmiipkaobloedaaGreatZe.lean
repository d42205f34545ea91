/- Ranges over a function whose elements are known by their number, nested ones too: the iterator may itself range over another one; the variables of a round may be boxed. slices.All of a report's entries; status.Ranges. Rows of a report's entries: Clone; slices.All; status.Ranges. status.Ranges' iterator. merged: the last range and the next one are joined. merged: a range is joined to the last one, or appended. -/
import Derived.Test.YtmiipkaobloedaaGreatYVc
import Derived.Test.YtmiipkaobloedaaGreatZc
import Derived.Test.YtmiipkaobloedaaGreatZd
import Derived.Test.YtmiipkaobloedaaGreatZl
import Derived.RangeFuncNested
import Derived.BigRegion
import Derived.Laws.ResultCell
import Derived.Deep.RegionHeld3
namespace Go.Proofs.YtmiipkaobloedaaGreat
open Go.RowKit Go.Shelf

/-- What is said of a world abides what an iterator may do between two rounds: blocks are laid, written that it has laid since; the records of loops that it has laid turn. -/
structure FarJ (B : Nat) (J : Nat → World → Prop) : Prop where
  own : OwnFrom B J
  fresh : ∀ k A A', J k A → Below A.heap.size A A' → J k A'
theorem FarJ.mono {B B' : Nat} {J : Nat → World → Prop} (h : FarJ B J) (hB : B ≤ B') : FarJ B' J :=
  ⟨fun s A A' row hs hg hr => h.own s A A' row hs hg (fun r e => ⟨Nat.le_trans hB (hr r e).1, (hr r e).2⟩), h.fresh⟩

/-- The iterator gives vals 0, vals 1, .. vals (N - 1), each round going on; between two rounds Kp is kept. -/
def SeqIx (n : Nat) (P : Program) (g : Nat) (lb : Array Value) (vals : Nat → Array Value) (N : Nat) (Kp : World → World → Prop) (w : World) : Prop :=
  ∀ (l : Nat) (J : Nat → World → Prop) (W : World), Below w.heap.size w W → w.heap.size + 2 ≤ W.heap.size → FarJ W.heap.size J →
    (∀ k W1, k < N → J k W1 → YieldAt Fence.wide (n - 1) P l (vals k) W1 fun e W' => e = .returned (.bool true) ∧ J (k + 1) W' ∧ Kp W1 W') → J 0 W →
    CallsIn Fence.wide n P g (#[.func (.yield l) #[] #[]] ++ lb) W fun e W' => (∃ v, e = .returned v) ∧ J N W'

/-- How a round's body is left: it goes on; W0: the round's begin, W: the body's. -/
def ixPost (B : Nat) (Kp : World → World → Prop) (I : Nat → World → Prop) (k : Nat) (W0 W : World) : Exit → Act → World → Prop
  | .normal, _, W' => KeepsFrom B W W' ∧ Kp W0 W' ∧ I k W'
  | _, _, _ => False

theorem ix_room (k : Nat) : Fence.wide.room k := fun d h => by cases h
theorem ix_roomR (l k : Nat) : (Fence.wide.inRound l).room k := fun d h => by cases h
variable {n : Nat} {P : Program}
theorem RoundIn.ix {m m' : Nat} {P : Program} {l l' : Nat} {f : FuncId} {tmps : Array Value} {assign body : Code} {w : World} {R : Ending → World → Prop}
    (h : RoundIn Fence.wide m P l f tmps assign body w R) : RoundIn (Fence.wide.inRound l') m' P l f tmps assign body w R := ⟨h.1, fun c cs _ => h.2 c cs (ix_room _)⟩

theorem wpIn_range_ix {g : Operand} {ps : Array Tmp} {assign body : Code} {Q : Exit → Act → World → Prop} {a : Act} {w : World}
    {gf : Nat} {lb : Array Value} (hg : a.eval g = .func (.func gf) #[] lb) (eg : ∀ args w, (callFunc gf args).run P w = .ok (.enter gf args) w)
    {vals : Nat → Array Value} {N : Nat} {Kp : World → World → Prop} {w0 : World} (hseq : SeqIx (n - 1) P gf lb vals N Kp w0)
    (hKt : ∀ {A B C : World}, Kp A B → Kp B C → Kp A C) (hKb : ∀ (W : World) (o o' : Obj), W.heap[w.heap.size + 1]? = some o → o.isCells = false → Kp W (W.putObj (w.heap.size + 1) o')) (hb0 : Below w0.heap.size w0 w)
    (hps : ∀ k, (vals k).size = ps.size) (I : Nat → World → Prop) (hI : FarJ w.heap.size I) (h0 : I 0 w)
    (hround : ∀ (l k : Nat) (W : World), k < N → I k W → (∃ o, W.heap[w.heap.size + 1]? = some o ∧ o.isCells = false) →
      assign.wpIn (Fence.wide.inRound l) (n - 1 - 1) P (Exit.then (fun a' W' => KeepsFrom w.heap.size W W' ∧
        ∀ W2 o', W2 = W'.putObj (w.heap.size + 1) o' → body.wpIn (Fence.wide.inRound l) (n - 1 - 1) P (ixPost w.heap.size Kp I (k + 1) W W2) a' W2) (fun _ _ _ => False))
        { tmps := (ps.zip (vals k)).foldl (fun t (p, v) => t.setIfInBounds p v) a.tmps, defers := [] } W)
    (hdone : ∀ (D : Nat) (W : World), w.heap.size ≤ D → I N W → W.heap[D]? = some (.deferred (some [])) → Q .normal { a with defers := { target := .collected D, args := #[] } :: a.defers } W) :
    (Code.rangeFunc g ps assign body).wpIn Fence.wide n P Q a w := by
  refine wpIn_rangeFunc fun fn hfn => ?_
  rw [show Fence.wide.round = none from rfl]
  let R : LoopState → Loop := fun st => { state := st, pending := none, fn, tmps := a.tmps, params := ps, assign, body, defers := w.heap.size }
  let W1 := (w.alloc (.deferred (some []))).alloc (.loop (R .ready))
  have hsz : W1.heap.size = w.heap.size + 2 := by simp [W1]
  have hL1 : W1.heap[w.heap.size + 1]? = some (.loop (R .ready)) := by
    have := World.alloc_heap_new (w.alloc (.deferred (some []))) (.loop (R .ready)); rwa [World.size_alloc] at this
  have hD1 : W1.heap[w.heap.size]? = some (.deferred (some [])) := (Below.heap_alloc _ _ _ (by simp)).trans (World.alloc_heap_new w _)
  have hBW : Below w0.heap.size w0 W1 := hb0.trans ((((Below.refl _ w).alloc (Nat.le_refl _) _).alloc (by simp) _).mono hb0.size)
  let J : Nat → World → Prop := fun k W => I k W ∧ W.heap[w.heap.size + 1]? = some (.loop (R .ready)) ∧ W.heap[w.heap.size]? = some (.deferred (some []))
  have hJ : FarJ W1.heap.size J := by
    refine ⟨fun k A B row hs hgr hr => ?_, fun k A A' hs hb => ?_⟩
    · refine ⟨hI.own k A B row hs.1 hgr (fun r e => ⟨by have := (hr r e).1; omega, (hr r e).2⟩), ?_, ?_⟩
      · exact (hgr.block _ (Array.getElem?_eq_some_iff.1 hs.2.1).1 (fun e => by have := (hr _ e.symm).1; omega)).trans hs.2.1
      · exact (hgr.block _ (Array.getElem?_eq_some_iff.1 hs.2.2).1 (fun e => by have := (hr _ e.symm).1; omega)).trans hs.2.2
    · exact ⟨hI.fresh k A A' hs.1 hb, (hb.block _ (Array.getElem?_eq_some_iff.1 hs.2.1).1).trans hs.2.1, (hb.block _ (Array.getElem?_eq_some_iff.1 hs.2.2).1).trans hs.2.2⟩
  refine ⟨w.heap.size + 1, [{ target := .collected w.heap.size, args := #[] }], W1, { target := .fn (.func gf) lb, args := #[.func (.yield (w.heap.size + 1)) #[] #[]] }, W1, gf,
    #[.func (.yield (w.heap.size + 1)) #[] #[]] ++ lb, W1, run_enterLoop_outer _ _ _ _ _, ?_, ?_, ?_, (fun hh => (by cases hh)), ?_⟩
  · simp only [resolve, hg]
    simp [go_sem]
  · intro f' hf'
    simp [Target.leads] at hf'
    subst hf'
    exact trivial
  · simp [invoke, go_sem, eg]
  refine (hseq (w.heap.size + 1) J W1 hBW (by have := hb0.size; omega) hJ (fun k W hk hjk => ?_) ⟨hI.fresh _ _ _ h0 (((Below.refl _ w).alloc (Nat.le_refl _) _).alloc (by simp) _), hL1, hD1⟩).mono ?_
  · -- one round
    obtain ⟨hi, hl, hd⟩ := hjk
    refine ⟨fn, _, assign, body, run_yield (P := P) (args := vals k) hl (hps k), roundIn_of_wpIn hfn ?_⟩
    refine wpIn_mono (hround _ k W hk hi ⟨_, hl, rfl⟩) ?_
    rintro ex a2 W2 hp
    cases ex with
    | normal =>
      obtain ⟨hk2, hbd⟩ := hp
      have hl2 := hk2.same _ _ (by omega) hl rfl
      have hd2 := hk2.same _ _ (Nat.le_refl _) hd rfl
      refine ⟨_, run_beginRound hl2 rfl, ?_⟩
      have hlb : (W2.putObj (w.heap.size + 1) (.loop (R .busy))).heap[w.heap.size + 1]? = some (.loop (R .busy)) := World.putObj_heap_same (Array.getElem?_eq_some_iff.1 hl2).1
      have hdb : (W2.putObj (w.heap.size + 1) (.loop (R .busy))).heap[w.heap.size]? = some (.deferred (some [])) := (World.putObj_heap_other (by omega)).trans hd2
      refine wpIn_mono (hbd _ _ rfl) ?_
      rintro ex a3 W3 hp
      cases ex with
      | normal =>
        obtain ⟨hk3, hkp, hi3⟩ := hp
        have hl3 := hk3.same _ _ (by omega) hlb rfl
        have hd3 := hk3.same _ _ (Nat.le_refl _) hdb rfl
        refine ⟨_, _, run_endRound (P := P) none hl3, rfl, ⟨hI.own.putObj _ hi3 (by omega) hl3 rfl, World.putObj_heap_same (Array.getElem?_eq_some_iff.1 hl3).1, (World.putObj_heap_other (by omega)).trans hd3⟩, ?_⟩
        exact hKt hkp (hKb _ _ _ hl3 rfl)
      | ret => exact hp.elim
      | exit id => exact hp.elim
      | goto t => exact hp.elim
      | panic ch => exact hp.elim
      | outgrown => exact hp.elim
    | ret => exact hp.elim
    | exit id => exact hp.elim
    | goto t => exact hp.elim
    | panic ch => exact hp.elim
    | outgrown => exact hp.elim
  · rintro e W2 ⟨⟨v, rfl⟩, hi, hl, hd⟩
    exact ⟨none, _, run_endLoop (P := P) hl (by simp [R]), hdone _ _ (Nat.le_refl _) (hI.own.putObj _ hi (by omega) hl rfl) ((World.putObj_heap_other (by omega)).trans hd)⟩
end Go.Proofs.YtmiipkaobloedaaGreat
namespace Go.Proofs.YtmiipkaobloedaaGreat
open Go.RowKit Go.Shelf
attribute [local go_sem] Oper.semAt_some

theorem cell_of_heap {w w' : World} {b : Nat} (h : w'.heap[b]? = w.heap[b]?) (off : Nat) (x : Option Nat) : w'.cell? ⟨b, off, x⟩ = w.cell? ⟨b, off, x⟩ := World.cell?_of_block (a := ⟨b, off, x⟩) h
theorem NkAt.same {w w' : World} {A : Option Addr} {n c : Nat} {l : List Nk} (h : NkAt w A n c l) (hs : w.heap.size ≤ w'.heap.size) (hb : ∀ ad, A = some ad → w'.heap[ad.block]? = w.heap[ad.block]?) : NkAt w' A n c l :=
  ⟨h.len, h.cap, h.mx, fun hn => by
    obtain ⟨ad, e, hlt, hc⟩ := h.at_ hn
    refine ⟨ad, e, Nat.lt_of_lt_of_le hlt hs, fun j r hr => ?_⟩
    obtain ⟨k0, k1, k2, k3⟩ := hc j r hr
    have hbk : w'.heap[(ad.add (j * 4)).block]? = w.heap[(ad.add (j * 4)).block]? := by rw [block_add]; exact hb ad e
    exact ⟨(World.cell?_of_block (a := ad.add (j * 4)) hbk).trans k0, (cell_of_heap hbk _ _).trans k1, (cell_of_heap hbk _ _).trans k2, (cell_of_heap hbk _ _).trans k3⟩⟩
theorem NkAt.kept {w w' : World} {A : Option Addr} {n c : Nat} {l : List Nk} {M : Nat → Obj → Prop} (h : NkAt w A n c l) (hk : Kept M w w') (hM : ∀ ad, A = some ad → ∀ o, ¬ M ad.block o) (hlt : ∀ ad, A = some ad → ad.block < w.heap.size) : NkAt w' A n c l :=
  h.same hk.size fun ad e => by
    have hl := hlt ad e
    have h1 := Array.getElem?_eq_getElem hl
    rw [hk.same _ _ h1 (hM ad e _), h1]
theorem Kept.ofBelow {M : Nat → Obj → Prop} {w w' : World} (h : Below w.heap.size w w') : Kept M w w' :=
  ⟨h.os, h.tape, h.output, h.size, fun k _o hk _ => (h.block k (Array.getElem?_eq_some_iff.1 hk).1).trans hk⟩

/-- what a range over all entries gives -/
def allVals (l : List Nk) (k : Nat) : Array Value := #[.int .i64 (k : Int), match l[k]? with
  | some x => .agg (nkC x)
  | none => undef]
set_option maxRecDepth 100000 in
set_option maxHeartbeats 2000000 in
theorem all1_ix (n : Nat) (g : Nat) (A : Option Addr) (N c : Nat) (l : List Nk) (M : Nat → Obj → Prop) (w : World)
    (hg : Blk w g 39 #[.slice A N c]) (hv : NkAt w A N c l) (hlo : ∀ ad, A = some ad → ad.block < w.heap.size) (hMg : ¬ M g (.cells #[.slice A N c] 39 (0, 0))) (hMv : ∀ ad, A = some ad → ∀ o, ¬ M ad.block o) :
    SeqIx n Tryz.prog 122 #[.pointer (some ⟨g, 0, none⟩)] (allVals l) N (Kept M) w := fun p J W hW _ hJ hY h0 => by
  have hg' := hg.below hW hg.lt
  have hv' := hv.below hW
  have hlt' : ∀ ad, A = some ad → ad.block < W.heap.size := fun ad e => Nat.lt_of_lt_of_le (hlo ad e) hW.size
  have hvk : ∀ wr, Kept M W wr → NkAt wr A N c l := fun wr hk => hv'.kept hk hMv hlt'
  have HVK := Lib.hid hvk
  have HY := Lib.hid hY
  have HJ := Lib.hid hJ
  have hlen := hv.len
  have hcap := hv.cap
  have hmx := hv.mx
  have HL := Lib.hid hlen
  clear hvk hY hJ hlen
  refine callsIn_of_wp Tryz.func122 rfl trivial ?_ rfl
  simp only [Tryz.ntmps122, List.size_toArray, List.length_cons, List.length_nil, Nat.reduceAdd, Nat.reduceSub, Array.replicate_succ, Array.replicate_zero, List.push_toArray, List.append_toArray, List.nil_append, List.cons_append]
  have hcw := hg'.cell 0
  simp at hcw
  gi_wp2
  gi_loopw [7] (fun i wr => ∃ k : Nat, k ≤ N ∧ i = .int .i64 k ∧ J k wr ∧ Kept M W wr) (fun i _ => N - (intOf i).toNat)
  case atStart => exact ⟨0, Nat.zero_le _, by simp, h0, Kept.refl _ _⟩
  case round =>
    obtain ⟨k, hk, rfl, hJs, hnx⟩ := hrel
    by_cases hlt : k < N
    · obtain ⟨x, hx⟩ : ∃ x, l[k]? = some x := ⟨_, List.getElem?_eq_getElem (by have := HL.out; omega)⟩
      have hvr := HVK.out wr hnx
      obtain ⟨ad, rfl, hadb, hcl⟩ := hvr.at_ (by omega)
      obtain ⟨k0, k1, k2, k3⟩ := hcl k x hx
      clear hcl hvr
      have b1 := Blk.new wr 68 (nkC x)
      have y0 : (wr.alloc (.cells (nkC x) 68)).cell? ⟨wr.heap.size, 0, none⟩ = some (.int .i64 x.sn) := b1.cell 0
      have y1 : (wr.alloc (.cells (nkC x) 68)).cell? ⟨wr.heap.size, 1, none⟩ = some (.bool x.part) := b1.cell 1
      have y2 : (wr.alloc (.cells (nkC x) 68)).cell? ⟨wr.heap.size, 2, none⟩ = some (.int .i64 x.fr) := b1.cell 2
      have y3 : (wr.alloc (.cells (nkC x) 68)).cell? ⟨wr.heap.size, 3, none⟩ = some (.int .i64 x.lt) := b1.cell 3
      have hbw : Below wr.heap.size wr (wr.alloc (.cells (nkC x) 68)) := (Below.refl _ wr).alloc (Nat.le_refl _) _
      have hYk := HY.out k _ hlt (HJ.out.fresh k wr _ hJs hbw)
      have hnx2 : Kept M W (wr.alloc (.cells (nkC x) 68)) := hnx.trans (Kept.ofBelow hbw)
      have HNX := Lib.hid hnx2
      have HX := Lib.hid hx
      unfold allVals at hYk
      rw [hx] at hYk
      unfold nkC at *
      obtain ⟨fn, tmps, assign, body, hy, hR⟩ := hYk
      simp only [] at hy
      clear b1 hx hnx2 hbw hnx
      gi_wp2
      refine ⟨fun hh => (by cases hh), hR.mono ?_⟩
      rintro e W3 ⟨rfl, hJ3, hk3⟩
      gi_wp2
      go_roundw
      case rel => exact ⟨k + 1, by omega, by go_num, hJ3, HNX.out.trans hk3⟩
      case measure => simp [intOf]; omega
    · have e : k = N := by omega
      have hJs' : J N wr := by rw [e] at hJs; exact hJs
      clear e hJs
      gi_wp2
      go_end0
      exact ⟨⟨_, rfl⟩, hJs'⟩
end Go.Proofs.YtmiipkaobloedaaGreat
namespace Go.Proofs.YtmiipkaobloedaaGreat
open Go.RowKit Go.Shelf
attribute [local go_sem] Oper.semAt_some

/-- the cells of entries -/
def nkL (l : List Nk) : List Value := l.flatMap (fun r => [.int .i64 r.sn, .bool r.part, .int .i64 r.fr, .int .i64 r.lt])
theorem nkL_length (l : List Nk) : (nkL l).length = l.length * 4 := by
  induction l with
  | nil => rfl
  | cons r t ih =>
    simp only [nkL, List.flatMap_cons, List.length_append, List.length_cons, List.length_nil] at ih ⊢
    omega
theorem nkL_cons (r : Nk) (t : List Nk) : nkL (r :: t) = .int .i64 r.sn :: .bool r.part :: .int .i64 r.fr :: .int .i64 r.lt :: nkL t := by simp [nkL]
theorem nkL_get : ∀ (l : List Nk) (j : Nat) (r : Nk), l[j]? = some r → (nkL l)[j * 4]? = some (.int .i64 r.sn) ∧ (nkL l)[j * 4 + 1]? = some (.bool r.part) ∧ (nkL l)[j * 4 + 2]? = some (.int .i64 r.fr) ∧ (nkL l)[j * 4 + 3]? = some (.int .i64 r.lt)
  | [], j, r, h => by simp at h
  | x :: t, 0, r, h => by
    simp at h
    subst h
    rw [nkL_cons]
    exact ⟨rfl, rfl, rfl, rfl⟩
  | x :: t, j + 1, r, h => by
    have ih := nkL_get t j r (by simpa using h)
    rw [nkL_cons]
    rw [show (j + 1) * 4 = j * 4 + 1 + 1 + 1 + 1 by omega]
    exact ih
theorem nkL_one (l : List Nk) : ∀ u ∈ nkL l, u.oneCell' = true := by
  intro u hu
  simp only [nkL, List.mem_flatMap, List.mem_cons, List.not_mem_nil, or_false] at hu
  obtain ⟨r, _, rfl | rfl | rfl | rfl⟩ := hu <;> rfl
theorem NkAt.cells {w : World} {ad : Addr} {n c : Nat} {l : List Nk} (h : NkAt w (some ad) n c l) : ∀ j u, (nkL l)[j]? = some u → w.cell? (ad.add j) = some u := by
  intro j u hu
  have hj := (List.getElem?_eq_some_iff.1 hu).1
  rw [nkL_length] at hj
  have hn := h.len
  obtain ⟨ad', e, hb, hc⟩ := h.at_ (by omega)
  cases e
  obtain ⟨r, hr⟩ : ∃ r, l[j / 4]? = some r := ⟨_, List.getElem?_eq_getElem (by omega)⟩
  obtain ⟨g1, g2, g3, g4⟩ := nkL_get l _ r hr
  obtain ⟨k1, k2, k3, k4⟩ := hc _ r hr
  have hm : j % 4 = 0 ∨ j % 4 = 1 ∨ j % 4 = 2 ∨ j % 4 = 3 := by omega
  rcases hm with hm | hm | hm | hm
  · have e2 : j / 4 * 4 = j := by omega
    rw [e2] at g1 k1
    rw [g1] at hu
    cases hu
    exact k1
  · have e2 : j / 4 * 4 + 1 = j := by omega
    rw [e2] at g2
    rw [g2] at hu
    cases hu
    rw [← e2, ← add_add]
    exact k2
  · have e2 : j / 4 * 4 + 2 = j := by omega
    rw [e2] at g3
    rw [g3] at hu
    cases hu
    rw [← e2, ← add_add]
    exact k3
  · have e2 : j / 4 * 4 + 3 = j := by omega
    rw [e2] at g4
    rw [g4] at hu
    cases hu
    rw [← e2, ← add_add]
    exact k4
theorem NkAt.of_own {w : World} {l : List Nk} {base : Nat} {v : Value} (h : w.ownsRow base 68 4 v l.length (nkL l)) :
    ∃ A c, v = .slice A l.length c ∧ NkAt w A l.length c l ∧ (∀ ad, A = some ad → base ≤ ad.block ∧ ad.block < w.heap.size) := by
  rcases h.2 with ⟨rfl, hn⟩ | ⟨g, cap, cur, rfl, hb, hg, hnc, hcm, hcs, ht⟩
  · have := List.eq_nil_of_length_eq_zero hn
    subst this
    exact ⟨none, 0, rfl, ⟨rfl, Nat.le_refl _, by omega, fun hn => by simp at hn⟩, fun ad e => by cases e⟩
  · refine ⟨_, _, rfl, ⟨rfl, hnc, by unfold maxLen at hcm; omega, fun _ => ⟨_, rfl, lt_of_heap hg, fun j r hr => ?_⟩⟩, fun ad e => by cases e; exact ⟨hb, lt_of_heap hg⟩⟩
    have hc := fun j u (hu : (nkL l)[j]? = some u) => h.cells (g := g) rfl j u hu
    obtain ⟨g1, g2, g3, g4⟩ := nkL_get l j r hr
    refine ⟨hc _ _ g1, ?_, ?_, ?_⟩
    · have := hc _ _ g2; rw [← add_add] at this; exact this
    · have := hc _ _ g3; rw [← add_add] at this; exact this
    · have := hc _ _ g4; rw [← add_add] at this; exact this
theorem nk_info : (Tryz.prog.info? 68).map (fun i => (i.zero, i.size, i.bytes)) = some (some (.agg #[.int .i64 0, .bool false, .int .i64 0, .int .i64 0]), 4, 32) := by kernel_rfl
theorem nk_parts : ∃ i, Tryz.prog.info? 68 = some i ∧ i.zero = some (.agg #[.int .i64 0, .bool false, .int .i64 0, .int .i64 0]) ∧ i.size = 4 ∧ i.bytes = 32 := by
  have h := nk_info
  cases hi : Tryz.prog.info? 68 with
  | none => rw [hi] at h; cases h
  | some i =>
    rw [hi] at h
    simp only [Option.map_some, Option.some.injEq, Prod.mk.injEq] at h
    exact ⟨i, rfl, h.1, h.2.1, h.2.2⟩
theorem nk_und : Tryz.prog.underlying 39 = some (.slice 68) := by kernel_rfl
section
variable {P : Program} (w : World)
theorem run_append_nk (base : Nat) (t ty e : TypeId) (i : TypeInfo) (z : Value) (bytes : Nat) (ht : P.underlying t = some (.slice e)) (hi : P.info? e = some i) (hz : i.zero = some z)
    (hsize : i.size = 4) (hby : i.bytes = bytes) (hzs : z.cells.size = 4)
    (v : Value) (n : Nat) (xs : List Value) (hown : w.ownsRow base e 4 v n xs)
    (A : Option Addr) (m c : Nat) (l : List Nk) (hr : NkAt w A m c l)
    (h63 : n + m ≤ maxLen) (hbytes : (n + m) * bytes ≤ 140737488355328) (hbase : base ≤ w.heap.size) :
    ∃ v' w', (Builtin.append_ #[t, t] ty #[v, .slice A m c]).run P w = .ok v' w' ∧ w'.ownsRow base e 4 v' (n + m) (xs ++ nkL l) ∧ w.grownBy w' v.ownBlock := by
  rcases A with _ | ad
  · have hm : m = 0 := by
      rcases Nat.eq_zero_or_pos m with h0 | h0
      · exact h0
      · obtain ⟨ad, h, _⟩ := hr.at_ h0
        cases h
    subst hm
    have hn : l = [] := List.eq_nil_of_length_eq_zero hr.len
    subst hn
    exact ⟨v, w, run_append_of_nil w base t ty e i 4 ht hi v n xs hown c, by simpa [nkL] using hown, World.grownBy.refl w _⟩
  · obtain ⟨v', w', hrun, h2, h3, _, h5⟩ := run_append_own_at (P := P) w base t ty e i z 4 bytes ht hi hz hsize hby hzs (by omega) v n xs hown ad m c (nkL l) (by rw [nkL_length, hr.len]) hr.cells (nkL_one l) h63 hbytes hbase
    exact ⟨v', w', hrun, h2, h3⟩
theorem wp_append_nk {o : Oper} {a : Act} {K : Act → World → Prop} {Q : Exit → Act → World → Prop} (s x : Operand) (t : TypeId)
    (ho : o.op = .call { callee := .builtin .append, args := #[s, x], argTypes := #[t, t] })
    (base : Nat) (e : TypeId) (i : TypeInfo) (z : Value) (bytes : Nat) (ht : P.underlying t = some (.slice e)) (hi : P.info? e = some i) (hz : i.zero = some z)
    (hsize : i.size = 4) (hby : i.bytes = bytes) (hzs : z.cells.size = 4)
    (v : Value) (n : Nat) (xs : List Value) (hs : a.eval s = v) (hown : w.ownsRow base e 4 v n xs)
    (A : Option Addr) (m c : Nat) (l : List Nk) (hx : a.eval x = .slice A m c) (hr : NkAt w A m c l)
    (h63 : n + m ≤ maxLen) (hbytes : (n + m) * bytes ≤ 140737488355328) (hbase : base ≤ w.heap.size)
    (h : ∀ v' w', w'.ownsRow base e 4 v' (n + m) (xs ++ nkL l) → w.grownBy w' v.ownBlock → K (a.put o.dst v') w') : o.wp P a w K Q := by
  obtain ⟨v', w', hrun, h2, h3⟩ := run_append_nk (P := P) w base t o.type e i z bytes ht hi hz hsize hby hzs v n xs hown A m c l hr h63 hbytes hbase
  unfold Oper.wp execOp
  simp only [ho, resolve, invoke, builtin, Sem.run_bind, Sem.run_pure, Result.andThen_ok, List.map_toArray, List.map_cons, List.map_nil, hs, hx, hrun]
  exact h v' w' h2 h3
theorem wpList_append_nk {ops : Array Oper} {rest : List Oper} {o : Oper} {a : Act} {Q : Exit → Act → World → Prop} (hgd : o.guard = none) (s x : Operand) (t : TypeId)
    (ho : o.op = .call { callee := .builtin .append, args := #[s, x], argTypes := #[t, t] })
    (base : Nat) (e : TypeId) (i : TypeInfo) (z : Value) (bytes : Nat) (ht : P.underlying t = some (.slice e)) (hi : P.info? e = some i) (hz : i.zero = some z)
    (hsize : i.size = 4) (hby : i.bytes = bytes) (hzs : z.cells.size = 4)
    (v : Value) (n : Nat) (xs : List Value) (hs : a.eval s = v) (hown : w.ownsRow base e 4 v n xs)
    (A : Option Addr) (m c : Nat) (l : List Nk) (hx : a.eval x = .slice A m c) (hr : NkAt w A m c l)
    (h63 : n + m ≤ maxLen) (hbytes : (n + m) * bytes ≤ 140737488355328) (hbase : base ≤ w.heap.size)
    (h : ∀ v' w', w'.ownsRow base e 4 v' (n + m) (xs ++ nkL l) → w.grownBy w' v.ownBlock → wpList P ops Q rest (a.put o.dst v') w') : wpList P ops Q (o :: rest) a w :=
  wpList_plain hgd fun _ hK => wp_append_nk w s x t ho base e i z bytes ht hi hz hsize hby hzs v n xs hs hown A m c l hx hr h63 hbytes hbase fun v' w' h2 h3 => hK _ _ (h v' w' h2 h3)
end
set_option maxRecDepth 3000 in
set_option maxHeartbeats 400000 in
theorem cloneNk_any (A : Option Addr) (n c : Nat) (l : List Nk) (w : World) (h : NkAt w A n c l) (hsm : n ≤ 1000000) :
    Calls Tryz.prog 101 #[.slice A n c] w fun e w' => ∃ A' c', e = .returned (.slice A' n c') ∧ NkAt w' A' n c' l ∧ (∀ ad, A' = some ad → w.heap.size ≤ ad.block ∧ ad.block < w'.heap.size) ∧ Below w.heap.size w w' := by
  have hnil := fun (W : World) => Lib.run_eql_slice_nil (P := Tryz.prog) W 39 68 A n c 0 0 nk_und
  obtain ⟨i0, hi, hz0, hz1, hz2⟩ := nk_parts
  have hl := h.len
  subst hl
  have hs1 := h.alloc (.cells #[] 68)
  rcases A with _ | ad
  · have hl : l = [] := by
      rcases Nat.eq_zero_or_pos l.length with h0 | h0
      · exact List.eq_nil_of_length_eq_zero h0
      · obtain ⟨_, e, _⟩ := h.at_ h0; cases e
    subst hl
    simp only [List.length_nil] at hnil ⊢
    clear hs1 h
    go_enter Tryz.func101, Tryz.ntmps101
    go_wp2
    go_ret
    exact ⟨none, 0, rfl, ⟨rfl, Nat.le_refl _, by omega, fun hn => by simp at hn⟩, fun ad e => (by cases e), Below.refl _ _⟩
  · go_enter Tryz.func101, Tryz.ntmps101
    go_wp2_with (at_builtin; refine wpList_append_nk _ rfl _ _ 39 rfl w.heap.size 68 i0 (.agg #[.int .i64 0, .bool false, .int .i64 0, .int .i64 0]) 32 nk_und hi hz0 hz1 hz2 rfl (.slice (some ⟨w.heap.size, 0, none⟩) 0 0) 0 [] rfl ?c0 (some ad) l.length c l rfl hs1 ?c3 ?c4 ?c5 ?_)
    case c0 => exact World.ownsRow_lit w #[] 0 (Nat.le_refl _) (by unfold maxLen; omega) rfl
    case c3 => unfold maxLen; omega
    case c4 => omega
    case c5 => simp
    intro v' w1 hown' hgrow
    go_wp2
    go_ret
    have hb : Below w.heap.size w w1 := ((Below.refl _ w).alloc (Nat.le_refl _) _).grown hgrow (by simp) (by simp [Value.ownBlock])
    obtain ⟨A', c', rfl, h1, h2⟩ := NkAt.of_own (l := l) (by simpa using hown')
    exact ⟨A', c', rfl, h1, h2, hb⟩
set_option maxRecDepth 3000 in
set_option maxHeartbeats 400000 in
/-- slices.All: the slice is boxed -/
theorem sall_any (F : Fence) (n : Nat) (hF : F.fn 103) (hro : F.round = none) (A : Option Addr) (N c : Nat) (w : World) :
    CallsIn F n Tryz.prog 103 #[.slice A N c] w fun e w' => e = .returned (.func (.func 122) #[] #[.pointer (some ⟨w.heap.size, 0, none⟩)]) ∧ w' = w.alloc (.cells #[.slice A N c] 39) := by
  refine callsIn_of_wp Tryz.func103 rfl hF ?_ hro
  simp only [Tryz.ntmps103, List.size_toArray, List.length_cons, List.length_nil, Nat.reduceAdd, Nat.reduceSub, Array.replicate_succ, Array.replicate_zero, List.push_toArray, List.append_toArray, List.nil_append, List.cons_append]
  gi_wp2
  go_ret
  exact ⟨rfl, rfl⟩
set_option maxRecDepth 3000 in
set_option maxHeartbeats 400000 in
/-- status.Ranges: the entries are cloned and boxed; the number is boxed -/
theorem sranges_any (ack sn : Int) (A : Option Addr) (n c : Nat) (l : List Nk) (w : World) (h : NkAt w A n c l) (hsm : n ≤ 1000000) :
    Calls Tryz.prog 69 #[.agg #[.int .i64 ack, .slice A n c], .int .i64 sn] w fun e w' => ∃ g b A' c', e = .returned (.func (.func 102) #[] #[.pointer (some ⟨g, 0, none⟩), .pointer (some ⟨b, 0, none⟩)]) ∧
      Blk w' g 39 #[.slice A' n c'] ∧ Blk w' b 3 #[.int .i64 sn] ∧ NkAt w' A' n c' l ∧ (∀ ad, A' = some ad → w.heap.size ≤ ad.block ∧ ad.block < w'.heap.size) ∧ w.heap.size ≤ g ∧ w.heap.size ≤ b ∧ Below w.heap.size w w' := by
  have b0 := Blk.new w 41 #[.int .i64 ack, .slice A n c]
  have b1 := Blk.new (w.alloc (.cells #[.int .i64 ack, .slice A n c] 41)) 3 #[.int .i64 sn]
  have b0' := b0.alloc (.cells #[.int .i64 sn] 3)
  have hz : (w.alloc (.cells #[.int .i64 ack, .slice A n c] 41)).heap.size = w.heap.size + 1 := World.size_alloc _ _
  rw [hz] at b1
  have z0 := b0'.cell 0
  have z1 := b0'.cell 1
  simp at z0 z1
  have hN := (h.alloc (.cells #[.int .i64 ack, .slice A n c] 41)).alloc (.cells #[.int .i64 sn] 3)
  have hB : Below w.heap.size w ((w.alloc (.cells #[.int .i64 ack, .slice A n c] 41)).alloc (.cells #[.int .i64 sn] 3)) := ((Below.refl _ w).alloc (Nat.le_refl _) _).alloc (by simp) _
  have hcl := cloneNk_any A n c l _ hN hsm
  have HB := Lib.hid hB
  have B1 := Lib.hid b1
  have HCL := Lib.hid hcl
  clear b0 b1 b0' hN hB hcl h
  go_enter Tryz.func69, Tryz.ntmps69
  go_wp2_with fail
  refine HCL.out.mono ?_
  rintro e w1 ⟨A', c', rfl, hN1, hf1, hb1⟩
  go_wp2_with fail
  go_ret
  have hs1 := HB.out.size
  refine ⟨w1.heap.size, w.heap.size + 1, A', c', rfl, Blk.new w1 _ _, ((B1.out.below hb1 B1.out.lt).alloc _), hN1.alloc _, fun ad e => ?_, by have := hb1.size; omega, by omega, (HB.out.trans (hb1.mono hs1)).alloc (by have := hb1.size; omega) _⟩
  have := hf1 ad e
  simp
  omega
end Go.Proofs.YtmiipkaobloedaaGreat
namespace Go.Proofs.YtmiipkaobloedaaGreat
open Go.RowKit Go.Shelf
attribute [local go_sem] Oper.semAt_some

def nkR (x : Nk) : Int × Int := if x.part = true then (x.fr, x.lt) else (0, 32767)
def nkHas (sn : Int) (x : Nk) : Bool := decide (x.sn = sn)
/-- what a range over the entries of a PDU gives -/
def rngVals (l : List Nk) (k : Nat) : Array Value := match l[k]? with
  | some x => #[.int .i64 (nkR x).1, .int .i64 (nkR x).2]
  | none => #[undef, undef]
def nkCnt (p : Nk → Bool) (l : List Nk) (k : Nat) : Nat := ((l.take k).filter p).length
theorem nkCnt_succ (p : Nk → Bool) : ∀ (l : List Nk) (k : Nat) (x : Nk), l[k]? = some x → nkCnt p l (k + 1) = nkCnt p l k + (if p x = true then 1 else 0)
  | [], k, x, h => by simp at h
  | y :: t, 0, x, h => by
    simp at h
    subst h
    unfold nkCnt
    cases hp : p y <;> simp [hp]
  | y :: t, k + 1, x, h => by
    have ih := nkCnt_succ p t k x (by simpa using h)
    unfold nkCnt at *
    simp only [List.take_succ_cons, List.filter_cons]
    split
    · simp only [List.length_cons]
      omega
    · exact ih
theorem nkCnt_get (p : Nk → Bool) : ∀ (l : List Nk) (k : Nat) (x : Nk), l[k]? = some x → p x = true → (l.filter p)[nkCnt p l k]? = some x
  | [], k, x, h, _ => by simp at h
  | y :: t, 0, x, h, hp => by
    simp at h
    subst h
    unfold nkCnt
    simp [hp]
  | y :: t, k + 1, x, h, hp => by
    have ih := nkCnt_get p t k x (by simpa using h) hp
    unfold nkCnt at *
    simp only [List.take_succ_cons, List.filter_cons]
    split
    · simpa using ih
    · exact ih
theorem nkCnt_zero (p : Nk → Bool) (l : List Nk) : nkCnt p l 0 = 0 := by simp [nkCnt]
theorem nkCnt_all (p : Nk → Bool) (l : List Nk) : nkCnt p l l.length = (l.filter p).length := by simp [nkCnt]

/-- the cells of what a variable of a round becomes -/
def nkB (x : Nk) : Array Value := #[.int .i64 x.sn, .bool x.part, .int .i64 (nkR x).1, .int .i64 (nkR x).2]
theorem Blk.putObj {w : World} {b k : Nat} {t : TypeId} {cs : Array Value} (h : Blk w b t cs) (hne : b ≠ k) (o : Obj) : Blk (w.putObj k o) b t cs := (World.putObj_heap_other (by omega)).trans h
theorem Below.putObj {B k : Nat} {w : World} (hk : B ≤ k) (o : Obj) : Below B w (w.putObj k o) := by
  have h := grownBy_putObj' w k o
  exact ⟨h.os, h.tape, h.output, h.size, fun j hj => World.putObj_heap_other (by omega)⟩
theorem KeepsFrom.ofKept {B : Nat} {M : Nat → Obj → Prop} {w w' : World} (h : Kept M w w') (hM : ∀ k o, B ≤ k → o.isCells = false → ¬ M k o) : KeepsFrom B w w' := ⟨h.size, fun k o hk ho hc => h.same k o ho (hM k o hk hc)⟩
theorem KeepsFrom.tr {B : Nat} {a b c : World} (h : KeepsFrom B a b) (k : KeepsFrom B b c) : KeepsFrom B a c := ⟨Nat.le_trans h.size k.size, fun i o hi ho hc => k.same i o hi (h.same i o hi ho hc) hc⟩
theorem KeepsFrom.setBlk {B b i : Nat} {w : World} {t : TypeId} {cs : Array Value} (h : Blk w b t cs) (u : Value) : KeepsFrom B w (w.setCell ⟨b, i, none⟩ u) := by
  refine ⟨by simp [World.setCell], fun k o _ ho hc => ?_⟩
  rw [Below.heap_setCell w ⟨b, i, none⟩ u k ?_]
  · exact ho
  · intro e
    have e2 : k = b := e
    subst e2
    unfold Blk at h
    rw [h] at ho
    cases ho
    cases hc
theorem KeepsFrom.ofBelow {B : Nat} {w w' : World} (h : Below w.heap.size w w') : KeepsFrom B w w' := ⟨h.size, fun k _o _ ho _ => (h.block k (Array.getElem?_eq_some_iff.1 ho).1).trans ho⟩
theorem KeepsFrom.put {B k : Nat} {w : World} (o : Obj) (hk : k < B) : KeepsFrom B w (w.putObj k o) := ⟨by have := (grownBy_putObj' w k o).size; exact this, fun j o' hj ho _ => (World.putObj_heap_other (by omega)).trans ho⟩
theorem below_put_alloc {w : World} {r : Nat} (hr : r < w.heap.size) (c o : Obj) : Below w.heap.size (w.putObj r o) ((w.alloc c).putObj r o) := by
  have h1 := grownBy_putObj' w r o
  have h2 := grownBy_putObj' (w.alloc c) r o
  have h3 := (Below.refl w.heap.size w).alloc (Nat.le_refl _) c
  have hz : (w.putObj r o).heap.size = w.heap.size := by simp [World.putObj]
  refine ⟨(h2.os.trans h3.os).trans h1.os.symm, (h2.tape.trans h3.tape).trans h1.tape.symm, (h2.output.trans h3.output).trans h1.output.symm, ?_, fun j hj => ?_⟩
  · have := h2.size
    have := h3.size
    omega
  · by_cases e : j = r
    · subst e
      rw [World.putObj_heap_same (by have := h3.size; omega), World.putObj_heap_same hj]
    · rw [World.putObj_heap_other (by omega), World.putObj_heap_other (by omega)]
      exact h3.block j hj
set_option maxRecDepth 100000 in
set_option maxHeartbeats 4000000 in
theorem ranges1_ix (n : Nat) (g b : Nat) (A : Option Addr) (N c : Nat) (l : List Nk) (sn : Int) (M : Nat → Obj → Prop) (w : World)
    (hg : Blk w g 39 #[.slice A N c]) (hb : Blk w b 3 #[.int .i64 sn]) (hv : NkAt w A N c l) (hlo : ∀ ad, A = some ad → ad.block < w.heap.size)
    (_hMg : ∀ o, ¬ M g o) (hMb : ∀ o, ¬ M b o) (hMv : ∀ ad, A = some ad → ∀ o, ¬ M ad.block o) (hMo : ∀ k o, w.heap.size + 2 ≤ k → M k o → ∃ cs r, o = .cells cs 93 r) :
    SeqIx n Tryz.prog 102 #[.pointer (some ⟨g, 0, none⟩), .pointer (some ⟨b, 0, none⟩)] (rngVals (l.filter (nkHas sn))) (l.filter (nkHas sn)).length (Kept M) w := fun p J W hW hW2 hJ hY h0 => by
  have hg' := (hg.below hW hg.lt).alloc (.cells #[.func (.yield p) #[] #[]] 121)
  have hb' := (hb.below hW hb.lt).alloc (.cells #[.func (.yield p) #[] #[]] 121)
  have hy' := Blk.new W 121 #[.func (.yield p) #[] #[]]
  have hv' := (hv.below hW).alloc (.cells #[.func (.yield p) #[] #[]] 121)
  have hc0 := hg'.cell 0
  simp at hc0
  have HW1 : Below W.heap.size W (W.alloc (.cells #[.func (.yield p) #[] #[]] 121)) := (Below.refl _ W).alloc (Nat.le_refl _) _
  have hsz : (W.alloc (.cells #[.func (.yield p) #[] #[]] 121)).heap.size = W.heap.size + 1 := World.size_alloc _ _
  have hglt := hg.lt
  have hblt := hb.lt
  have hlen := Lib.hid hv.len
  have HALL := sall_any Fence.wide (n - 1) trivial rfl A N c
  have HAL := Lib.hid HALL
  have HY := Lib.hid hY
  have HG := Lib.hid hg'
  have HB := Lib.hid hb'
  have HYB := Lib.hid hy'
  have HV := Lib.hid hv'
  have HS := Lib.hid hsz
  clear HALL hY hg' hb' hy' hv' hsz
  have h0' := hJ.fresh _ _ _ h0 HW1
  generalize hWg : W.alloc (.cells #[.func (.yield p) #[] #[]] 121) = W1 at *
  refine callsIn_of_wp_marks Tryz.func102 rfl trivial ?_ rfl
  simp only [Tryz.ntmps102, List.size_toArray, List.length_cons, List.length_nil, Nat.reduceAdd, Nat.reduceSub, Array.replicate_succ, Array.replicate_zero, List.push_toArray, List.append_toArray, List.nil_append, List.cons_append]
  gi_wp2
  refine wpInW_scope ?_
  gi_wp2
  refine wpIn_label ?_
  gi_wp2_with fail
  refine ⟨trivial, (fun hh => (by cases hh)), (HAL.out W1).mono ?_⟩
  rintro e w' ⟨rfl, rfl⟩
  have HX := Lib.hid (Blk.new W1 39 #[.slice A N c])
  have HG2 := Lib.hid (HG.out.alloc (.cells #[.slice A N c] 39))
  have HB2 := Lib.hid (HB.out.alloc (.cells #[.slice A N c] 39))
  have HY2 := Lib.hid (HYB.out.alloc (.cells #[.slice A N c] 39))
  have HV2 := Lib.hid (HV.out.alloc (.cells #[.slice A N c] 39))
  have h02 := hJ.fresh _ _ _ h0' ((Below.refl _ W1).alloc (Nat.le_refl _) (.cells #[.slice A N c] 39))
  have HS2 := Lib.hid (World.size_alloc W1 (.cells #[.slice A N c] 39))
  generalize W1.alloc (.cells #[.slice A N c] 39) = W2 at *
  clear HG HB HYB HV h0' hc0 HW1 hWg
  gi_wp2_with fail
  have hs2 := HS2.out
  have hs1 := HS.out
  have hWs := hW.size
  refine wpIn_range_ix (gf := 122) (lb := #[.pointer (some ⟨W1.heap.size, 0, none⟩)]) rfl (enters_of Tryz.func122 (by kernel_rfl) rfl)
    (all1_ix (n - 1) W1.heap.size A N c l (fun k o => M k o ∨ k = W2.heap.size + 1) W2 HX.out HV2.out (fun ad e => by have := hlo ad e; omega) ?a1 ?a2)
    Kept.trans ?a3 (Below.refl _ _) (fun _ => rfl)
    (fun k Wk => J (nkCnt (nkHas sn) l k) Wk ∧ Kept (fun k o => M k o ∨ k = W2.heap.size + 1) W2 Wk) ?a4 ?a5 ?a6 ?a7
  case a1 =>
    rintro (h | h)
    · obtain ⟨cs, r, e⟩ := hMo _ _ (by omega) h
      injection e with _ e2
      exact absurd e2 (by decide)
    · omega
  case a2 =>
    rintro ad e o (h | h)
    · exact hMv ad e o h
    · have := hlo ad e
      omega
  case a3 =>
    intro Wk o o' ho hc
    exact (Kept.refl _ Wk).grown (grownBy_putObj' Wk _ o') (fun j e _ _ => by cases e; exact .inr rfl)
  case a4 =>
    refine ⟨fun k Wa Wb row hs hgr hr => ⟨(hJ.mono (by omega)).own _ Wa Wb row hs.1 hgr hr, hs.2.grown hgr (fun j e o ho => ?_)⟩, fun k Wa Wb hs hbw => ⟨hJ.fresh _ _ _ hs.1 hbw, hs.2.trans (Kept.ofBelow hbw)⟩⟩
    have h1 := (hr j e).1
    have h2 := (Array.getElem?_eq_some_iff.1 ho).1
    omega
  case a5 => exact ⟨by rw [nkCnt_zero]; exact h02, Kept.refl _ _⟩
  case a7 =>
    rintro D Wk hD ⟨hI, _⟩ hDk
    have hJN : J (l.filter (nkHas sn)).length Wk := by
      rw [← nkCnt_all]
      have e : l.length = N := hlen.out
      rw [e]
      exact hI
    have HJN := Lib.hid (hJ.own _ Wk _ (some D) hJN (grownBy_putObj' Wk D (.deferred none)) (fun r e => by cases e; exact ⟨by omega, _, hDk, rfl⟩))
    clear hI hJN
    gi_wp2_with fail
    rw [Exit.noGoto_normal]
    refine ⟨by simp, .inl ⟨_, _, rfl, run_takeDeferred hDk, ?_⟩⟩
    exact ⟨_, results_none rfl _ _ _, ⟨_, rfl⟩, HJN.out⟩
  case a6 =>
    rintro l' k Wk hk ⟨hIJ, hIK⟩ ⟨oR, hoR, hoC⟩
    obtain ⟨x, hx⟩ : ∃ x, l[k]? = some x := ⟨_, List.getElem?_eq_getElem (by have := hlen.out; omega)⟩
    have hav : allVals l k = #[.int .i64 (k : Int), .agg #[.int .i64 x.sn, .bool x.part, .int .i64 x.fr, .int .i64 x.lt]] := by unfold allVals; rw [hx]; rfl
    rw [hav]
    have HXK := Lib.hid hx
    clear hav hx
    have hbn := Blk.new Wk 68 #[.int .i64 x.sn, .bool x.part, .int .i64 x.fr, .int .i64 x.lt]
    have HBN := Lib.hid hbn
    clear hbn
    gi_wp2
    refine ⟨?_, ?_⟩
    · exact KeepsFrom.ofBelow ((Below.refl _ Wk).alloc (Nat.le_refl _) _)
    intro W3 o' hW3
    have hrl := (Array.getElem?_eq_some_iff.1 hoR).1
    have hKA : Kept (fun k o => M k o ∨ k = W2.heap.size + 1) Wk (Wk.putObj (W2.heap.size + 1) o') := (Kept.refl _ Wk).grown (grownBy_putObj' Wk _ o') (fun j e _ _ => by cases e; exact .inr rfl)
    have hJA : J (nkCnt (nkHas sn) l k) (Wk.putObj (W2.heap.size + 1) o') := hJ.own _ Wk _ (some (W2.heap.size + 1)) hIJ (grownBy_putObj' Wk _ o') (fun r e => by cases e; exact ⟨by omega, oR, hoR, hoC⟩)
    have hBA : Below Wk.heap.size (Wk.putObj (W2.heap.size + 1) o') W3 := by rw [hW3]; exact below_put_alloc hrl _ _
    have hzA : (Wk.putObj (W2.heap.size + 1) o').heap.size = Wk.heap.size := by simp [World.putObj]
    have hWk := hIK.size
    have gb : Blk W3 b 3 #[.int .i64 sn] := by
      rw [hW3]
      exact ((HB2.out.kept hIK (by rintro (h | h); exact hMb _ h; omega)).alloc _).putObj (by omega) _
    have gy : Blk W3 W.heap.size 121 #[.func (.yield p) #[] #[]] := by
      rw [hW3]
      refine ((HY2.out.kept hIK ?_).alloc _).putObj (by omega) _
      rintro (h | h)
      · obtain ⟨cs, r, e⟩ := hMo _ _ (by omega) h
        injection e with _ e2
        exact absurd e2 (by decide)
      · omega
    have gn : Blk W3 Wk.heap.size 68 #[.int .i64 x.sn, .bool x.part, .int .i64 x.fr, .int .i64 x.lt] := by
      rw [hW3]
      exact HBN.out.putObj (by omega) _
    have hKF : ∀ k o, W2.heap.size ≤ k → o.isCells = false → ¬ M k o := fun k o hk hc hm => by
      obtain ⟨cs, r, e⟩ := hMo _ _ (by omega) hm
      subst e
      cases hc
    generalize Wk.putObj (W2.heap.size + 1) o' = WA at *
    have z0 := gb.cell 0
    have z1 := gy.cell 0
    obtain ⟨y0, y1, y2, y3⟩ := gn.four4
    simp at z0 z1
    have HW3 := Lib.hid hW3
    have HIK := Lib.hid hIK
    clear hW3 hIJ
    have hend : ∀ W4 W5, Below Wk.heap.size WA W4 → KeepsFrom W2.heap.size W3 W4 → Kept M W4 W5 → KeepsFrom W2.heap.size W3 W5 ∧ Kept (fun k o => M k o ∨ k = W2.heap.size + 1) Wk W5 ∧ Kept (fun k o => M k o ∨ k = W2.heap.size + 1) W2 W5 := fun W4 W5 h4 hk4 h5 => by
      have e1 : Kept (fun k o => M k o ∨ k = W2.heap.size + 1) Wk W5 := (hKA.trans (Kept.ofBelow (by rw [hzA]; exact h4))).trans (h5.mono fun _ _ hm => .inl hm)
      exact ⟨KeepsFrom.tr hk4 (KeepsFrom.ofKept h5 hKF), e1, HIK.out.trans e1⟩
    by_cases hs : x.sn = sn
    · have hp : nkHas sn x = true := by unfold nkHas; exact decide_eq_true hs
      have hget := nkCnt_get (nkHas sn) l k x HXK.out hp
      have hcs := nkCnt_succ (nkHas sn) l k x HXK.out
      rw [if_pos hp] at hcs
      have hlt2 : nkCnt (nkHas sn) l k < (l.filter (nkHas sn)).length := (List.getElem?_eq_some_iff.1 hget).1
      have HYK := fun W4 hj => HY.out (nkCnt (nkHas sn) l k) W4 hlt2 hj
      unfold rngVals at HYK
      rw [hget] at HYK
      simp only [nkR] at HYK
      cases hpt : x.part with
      | true =>
        simp only [hpt, if_true] at HYK y1
        obtain ⟨fn, tmps, assign, body, hy, hR⟩ := HYK W3 (hJ.fresh _ _ _ hJA (by rw [hzA]; exact hBA))
        have HR := Lib.hid (RoundIn.ix (m' := n - 1 - 1 - 1) (l' := l') hR)
        have HE := Lib.hid hend
        have HCS := Lib.hid hcs
        have HBA := Lib.hid hBA
        clear hR HYK hget hcs hlt2 hend gb gy gn hBA hKA hJA hp
        gi_wp2_with fail
        refine ⟨fun hh => (by cases hh), HR.out.mono ?_⟩
        rintro e W5 ⟨rfl, hJ5, hK5⟩
        gi_wp2_with fail
        obtain ⟨e1, e2, e3⟩ := HE.out W3 W5 HBA.out ⟨Nat.le_refl _, fun _ _ _ h _ => h⟩ hK5
        rw [← HCS.out] at hJ5
        exact ⟨e1, e2, hJ5, e3⟩
      | false =>
        simp only [hpt, Bool.false_eq_true, if_false] at HYK y1
        have g4 := (gn.set_ 2 (.int .i64 0)).set_ 3 (.int .i64 32767)
        simp at g4
        obtain ⟨u0, u1, u2, u3⟩ := g4.four4
        have f2 := gn.frozen 2
        have f3 := (gn.set_ 2 (.int .i64 0)).frozen 3
        have hB4 : Below Wk.heap.size WA ((W3.setCell ⟨Wk.heap.size, 2, none⟩ (.int .i64 0)).setCell ⟨Wk.heap.size, 3, none⟩ (.int .i64 32767)) := (hBA.setCell (p := ⟨Wk.heap.size, 2, none⟩) (Nat.le_refl _) _).setCell (p := ⟨Wk.heap.size, 3, none⟩) (Nat.le_refl _) _
        have hK4 : KeepsFrom W2.heap.size W3 ((W3.setCell ⟨Wk.heap.size, 2, none⟩ (.int .i64 0)).setCell ⟨Wk.heap.size, 3, none⟩ (.int .i64 32767)) := KeepsFrom.tr (KeepsFrom.setBlk gn _) (KeepsFrom.setBlk (gn.set_ 2 (.int .i64 0)) _)
        have v1 := ((gy.far (p := ⟨Wk.heap.size, 2, none⟩) (by simp; omega) (.int .i64 0)).far (p := ⟨Wk.heap.size, 3, none⟩) (by simp; omega) (.int .i64 32767)).cell 0
        simp at v1
        obtain ⟨fn, tmps, assign, body, hy, hR⟩ := HYK _ (hJ.fresh _ _ _ hJA (by rw [hzA]; exact hB4))
        have HR := Lib.hid (RoundIn.ix (m' := n - 1 - 1 - 1) (l' := l') hR)
        have HE := Lib.hid hend
        have HCS := Lib.hid hcs
        have HB4 := Lib.hid hB4
        have HK4 := Lib.hid hK4
        clear hR HYK hget hcs hlt2 hend gb gy gn hBA hKA hJA hp hB4 hK4 g4
        gi_wp2_with fail
        refine ⟨fun hh => (by cases hh), HR.out.mono ?_⟩
        rintro e W5 ⟨rfl, hJ5, hK5⟩
        gi_wp2_with fail
        obtain ⟨e1, e2, e3⟩ := HE.out _ W5 HB4.out HK4.out hK5
        rw [← HCS.out] at hJ5
        exact ⟨e1, e2, hJ5, e3⟩
    · have hp : nkHas sn x = false := by unfold nkHas; exact decide_eq_false hs
      have hcs := nkCnt_succ (nkHas sn) l k x HXK.out
      rw [if_neg (by rw [hp]; decide)] at hcs
      replace hcs : nkCnt (nkHas sn) l (k + 1) = nkCnt (nkHas sn) l k := hcs
      have hJ3 := hJ.fresh _ _ _ hJA (by rw [hzA]; exact hBA)
      obtain ⟨e1, e2, e3⟩ := hend W3 W3 hBA ⟨Nat.le_refl _, fun _ _ _ h _ => h⟩ (Kept.refl _ _)
      rw [← hcs] at hJ3
      have HF := Lib.hid (show KeepsFrom W2.heap.size W3 W3 ∧ Kept (fun k o => M k o ∨ k = W2.heap.size + 1) Wk W3 ∧ J (nkCnt (nkHas sn) l (k + 1)) W3 ∧ Kept (fun k o => M k o ∨ k = W2.heap.size + 1) W2 W3 from ⟨e1, e2, hJ3, e3⟩)
      clear hcs hJ3 e1 e2 e3 hend hp gb gy gn hBA hKA hJA
      gi_wp2_with fail
      exact HF.out
end Go.Proofs.YtmiipkaobloedaaGreat
namespace Go.Proofs.YtmiipkaobloedaaGreat
open Go.RowKit Go.Shelf
attribute [local go_sem] Oper.semAt_some
section
variable (w : World)
set_option maxRecDepth 10000 in
set_option maxHeartbeats 2000000 in
theorem smerge1_any (a0 a1 b0 b1 : Nat) (h : a1 < 1000000) :
    Calls Tryz.prog 71 #[.agg #[.int .i64 (a0 : Int), .int .i64 (a1 : Int)], .agg #[.int .i64 (b0 : Int), .int .i64 (b1 : Int)]] w fun e w' => e = .returned (.tuple #[.agg #[.int .i64 (a0 : Int), .int .i64 (b1 : Int)], .bool (decide (a1 + 1 = b0))]) ∧ Below w.heap.size w w' := by
  have hw1 : IntKind.i64.wrap ((a1 : Int) + 1) = (a1 : Int) + 1 := IntWalk.i64_in _ (by omega)
  have hd : decide ((a1 : Int) + 1 = (b0 : Int)) = decide (a1 + 1 = b0) := by
    rcases Nat.decEq (a1 + 1) b0 with h1 | h1
    · rw [decide_eq_false h1]; exact decide_eq_false (by omega)
    · rw [decide_eq_true h1]; exact decide_eq_true (by omega)
  go_enter Tryz.func71, Tryz.ntmps71
  go_wp2
  have ba := ((Blk.new w 93 #[.int .i64 (a0 : Int), .int .i64 (a1 : Int)]).alloc (.cells #[.int .i64 (b0 : Int), .int .i64 (b1 : Int)] 93)).alloc (.cells #[.int .i64 0, .int .i64 0] 93)
  have bb := (Blk.new (w.alloc (.cells #[.int .i64 (a0 : Int), .int .i64 (a1 : Int)] 93)) 93 #[.int .i64 (b0 : Int), .int .i64 (b1 : Int)]).alloc (.cells #[.int .i64 0, .int .i64 0] 93)
  have bc := Blk.new ((w.alloc (.cells #[.int .i64 (a0 : Int), .int .i64 (a1 : Int)] 93)).alloc (.cells #[.int .i64 (b0 : Int), .int .i64 (b1 : Int)] 93)) 93 #[.int .i64 0, .int .i64 0]
  simp only [World.size_alloc] at bb bc
  have hB : Below w.heap.size w (((w.alloc (.cells #[.int .i64 (a0 : Int), .int .i64 (a1 : Int)] 93)).alloc (.cells #[.int .i64 (b0 : Int), .int .i64 (b1 : Int)] 93)).alloc (.cells #[.int .i64 0, .int .i64 0] 93)) := (((Below.refl _ w).alloc (Nat.le_refl _) _).alloc (by simp) _).alloc (by simp; omega) _
  generalize ((w.alloc (.cells #[.int .i64 (a0 : Int), .int .i64 (a1 : Int)] 93)).alloc (.cells #[.int .i64 (b0 : Int), .int .i64 (b1 : Int)] 93)).alloc (.cells #[.int .i64 0, .int .i64 0] 93) = w1 at *
  have HB := Lib.hid hB
  have x0 := ba.cell 0
  have x1 := ba.cell 1
  have y0 := bb.cell 0
  have y1 := bb.cell 1
  have c0 := bc.cell 0
  have c1 := bc.cell 1
  have fc := bc.frozen 0
  have fc1 := bc.frozen 1
  simp at x0 x1 y0 y1 c0 c1
  have BC := Lib.hid bc
  clear ba bb bc hB
  go_region
  all_goals
    go_wp2_with fail
    have bz := ((BC.out.set_ 0 (.int .i64 (a0 : Int))).set_ 1 (.int .i64 (b1 : Int)))
    simp at bz
    have z0 := bz.cell 0
    have z1 := bz.cell 1
    simp at z0 z1
    have hbeq : ((a1 : Int) + 1 == (b0 : Int)) = decide (a1 + 1 = b0) := by
      rw [← hd]; rfl
    have HBZ := Lib.hid ((HB.out.setCell (p := ⟨w.heap.size + 1 + 1, 0, none⟩) (by simp; omega) (.int .i64 (a0 : Int))).setCell (p := ⟨w.heap.size + 1 + 1, 1, none⟩) (by simp; omega) (.int .i64 (b1 : Int))).drew
    clear bz
    refine bodyPost_ret (v := .tuple #[.agg #[.int .i64 (a0 : Int), .int .i64 (b1 : Int)], .bool ((a1 : Int) + 1 == (b0 : Int))]) ?_ rfl ?_
    · rw [results_cell_tmp rfl]
      go_simp
      done
    · exact ⟨by rw [hbeq], HBZ.out⟩
end
end Go.Proofs.YtmiipkaobloedaaGreat
namespace Go.Proofs.YtmiipkaobloedaaGreat
open Go.RowKit Go.Shelf
attribute [local go_sem] Oper.semAt_some
/-- two operations may come up -/
theorem wpAnyE_two {P : Program} {ops : Array Oper} {Q : Exit → Act → World → Prop} {md : Region.Mode} {S : World → Prop} {L : List Nat} {i k : Nat} {oi ok : Oper} {fuel : Nat} {listed : Array Bool} {a : Act} {w : World} (hi : ops[i]? = some oi) (hk : ops[k]? = some ok) (hr : Region.ready md ops listed = [i, k]) (hwi : Region.wanted oi (yielded ops a.tmps) = true) (hwk : Region.wanted ok (yielded ops a.tmps) = true)
    (h : ∀ K : Act → World → Prop, (∀ a' w', S w' → wpAnyE P md ops Q S L fuel (listed.setIfInBounds i true) a' w' → K a' w') → oi.wp P a w K Q)
    (h2 : ∀ K : Act → World → Prop, (∀ a' w', S w' → wpAnyE P md ops Q S L fuel (listed.setIfInBounds k true) a' w' → K a' w') → ok.wp P a w K Q) : wpAnyE P md ops Q S L (fuel + 1) listed a w := by
  refine ⟨fun h0 => (by rw [hr] at h0; cases h0), fun j hj => ?_⟩
  rw [hr] at hj
  simp only [List.mem_cons, List.not_mem_nil, or_false] at hj
  rcases hj with rfl | rfl
  · unfold wpOp
    simp only [hi, hwi, if_true]
    exact .inl (h _ fun a' w' hs h' => ⟨fun _ => hs, h'⟩)
  · unfold wpOp
    simp only [hk, hwk, if_true]
    exact .inl (h2 _ fun a' w' hs h' => ⟨fun _ => hs, h'⟩)
section
variable (w : World)
theorem spC_set (r : List (Nat × Nat)) (y : Nat × Nat) (a b : Nat) : ((spC (r ++ [y])).set (r.length * 2) (.int .i64 (a : Int))).set (r.length * 2 + 1) (.int .i64 (b : Int)) = spC (r ++ [(a, b)]) := by
  have h := spC_length r
  rw [spC_app, spC_app, ← h, List.set_append_right _ _ (by omega), List.set_append_right _ _ (by omega)]
  simp [spC]
theorem sp_one (w : World) (x : Nat × Nat) : SpAt (w.alloc (.cells #[.int .i64 (x.1 : Int), .int .i64 (x.2 : Int)] 93)) (some ⟨w.heap.size, 0, none⟩) 1 1 [x] :=
  ⟨rfl, Nat.le_refl _, by omega, fun _ => ⟨_, rfl, by simp, fun j r hr => by
    cases j with
    | zero =>
      simp at hr
      subst hr
      have b := Blk.new w 93 #[.int .i64 (x.1 : Int), .int .i64 (x.2 : Int)]
      exact ⟨b.cell 0, b.cell 1⟩
    | succ j => simp at hr⟩⟩
/-- a row of ranges of one's own, one more range merged into it -/
def MgOut (w : World) (base : Nat) (v : Value) (l : List (Nat × Nat)) (x : Nat × Nat) (e : Ending) (w' : World) : Prop :=
  ∃ v', e = .returned v' ∧ w'.ownsRow base 93 2 v' (mergeP l x).length (spC (mergeP l x)) ∧ Kept (fun k _ => some k = v.ownBlock) w w' ∧ (v'.ownBlock = v.ownBlock ∨ ∃ k, v'.ownBlock = some k ∧ w.heap.size ≤ k)
set_option maxRecDepth 10000 in
set_option maxHeartbeats 4000000 in
theorem smerged_any (base : Nat) (v : Value) (l : List (Nat × Nat)) (x : Nat × Nat) (hown : w.ownsRow base 93 2 v l.length (spC l)) (hbase : base ≤ w.heap.size) (hlen : l.length ≤ 100000) (hsm : ∀ r ∈ l, r.2 < 1000000) :
    Calls Tryz.prog 70 #[v, .agg #[.int .i64 (x.1 : Int), .int .i64 (x.2 : Int)], .func (.func 71) #[] #[]] w (MgOut w base v l x) := by
  have hown1 := hown.alloc (.cells #[.int .i64 (x.1 : Int), .int .i64 (x.2 : Int)] 93)
  have bx := Blk.new w 93 #[.int .i64 (x.1 : Int), .int .i64 (x.2 : Int)]
  have hB : Below w.heap.size w (w.alloc (.cells #[.int .i64 (x.1 : Int), .int .i64 (x.2 : Int)] 93)) := (Below.refl _ w).alloc (Nat.le_refl _) _
  have hz := World.size_alloc w (.cells #[.int .i64 (x.1 : Int), .int .i64 (x.2 : Int)] 93)
  rcases List.eq_nil_or_concat l with rfl | ⟨r, y, rfl⟩
  · obtain ⟨A, cp, rfl, hsp, _⟩ := SpAt.of_own (l := []) hown
    obtain ⟨i0, hi, hz0, hz1, hz2⟩ := sp_parts
    have hbc0 : (w.alloc (.cells #[.int .i64 (x.1 : Int), .int .i64 (x.2 : Int)] 93)).cell? ⟨w.heap.size, 0, none⟩ = some (.int .i64 (x.1 : Int)) := bx.cell 0
    have hbc1 : (w.alloc (.cells #[.int .i64 (x.1 : Int), .int .i64 (x.2 : Int)] 93)).cell? ⟨w.heap.size, 1, none⟩ = some (.int .i64 (x.2 : Int)) := bx.cell 1
    have HB := Lib.hid hB
    have HO := Lib.hid hown1
    clear hB hown hown1 hsp bx hsm
    simp only [List.length_nil] at HO ⊢
    go_enter Tryz.func70, Tryz.ntmps70
    go_upto_region 7 with (fail)
    have HZ := Lib.hid hz
    clear hz
    generalize w.alloc (.cells #[.int .i64 (x.1 : Int), .int .i64 (x.2 : Int)] 93) = w0 at *
    have HSP := Lib.hid (sp_one w0 x)
    have HA := Lib.hid (HO.out.alloc (.cells #[.int .i64 (x.1 : Int), .int .i64 (x.2 : Int)] 93))
    have hbw : base ≤ (w0.alloc (.cells #[.int .i64 (x.1 : Int), .int .i64 (x.2 : Int)] 93)).heap.size := by have := HZ.out; simp; omega
    go_wp2_with (at_builtin; refine wpList_append_sp _ rfl _ _ 80 rfl base 93 i0 (.agg #[.int .i64 0, .int .i64 0]) 16 sp_und hi hz0 hz1 hz2 rfl (.slice A 0 cp) 0 (spC []) rfl HA.out (some ⟨w0.heap.size, 0, none⟩) 1 1 [x] rfl HSP.out ?c3 ?c4 hbw ?_)
    case c3 => unfold maxLen; omega
    case c4 => omega
    intro v5 w5 hown5 hgrow5 hv5
    go_wp2_with fail
    go_ret
    refine ⟨v5, rfl, ?_, ?_, ?_⟩
    · simpa [mergeP, spC] using hown5
    · exact ((Kept.ofBelow HB.out).trans (Kept.ofBelow ((Below.refl _ w0).alloc (Nat.le_refl _) _))).grown hgrow5 (fun k e o ho => e.symm)
    · rcases hv5 with e | e
      · exact .inl e
      · refine .inr ⟨_, e, ?_⟩
        have := HB.out.size
        simp
        omega
  · simp only [List.concat_eq_append] at *
    have hm : mergeP (r ++ [y]) x = if y.2 + 1 = x.1 then r ++ [(y.1, x.2)] else r ++ [y] ++ [x] := by
      unfold mergeP
      simp
    obtain ⟨gv, cap, rfl, hgl, hgl2⟩ := hown1.form (by simp)
    have hlr : (r ++ [y]).length = r.length + 1 := by simp
    have hc0 := hown1.cellAt (r.length * 2) (by rw [hlr]; omega)
    have hc1 := hown1.cellAt (r.length * 2 + 1) (by rw [hlr]; omega)
    obtain ⟨e0, e1⟩ := spC_get (r ++ [y]) r.length y (by simp)
    rw [e0] at hc0
    rw [e1] at hc1
    have hfr := hown1.frozenAt
    have hy := hsm y (by simp)
    have hcap : r.length + 1 ≤ cap := by
      obtain ⟨A, c, e, hs, _⟩ := SpAt.of_own (l := r ++ [y]) hown1
      injection e with _ _ e3
      rw [e3]
      have := hs.cap
      omega
    have hlen2 : r.length + 1 ≤ 100000 := by omega
    have hmx : cap ≤ 9223372036854775807 := by
      obtain ⟨A, c, e, hs, _⟩ := SpAt.of_own (l := r ++ [y]) hown1
      injection e with _ _ e3
      rw [e3]
      exact hs.mx
    have hlt := bx.lt
    have hw1 : IntKind.i64.wrap ((r.length : Int) + 1 - 1) = (r.length : Int) := by rw [IntWalk.i64_in _ (by omega)]; omega
    have hw3 : IntKind.i64.wrap (r.length : Int) = (r.length : Int) := IntWalk.i64_in _ (by omega)
    have hw2 : (r.length : Int) < (r.length : Int) + 1 := by omega
    have HC := fun W : World => smerge1_any W y.1 y.2 x.1 x.2 hy
    have HCC := Lib.hid HC
    have HO := Lib.hid hown1
    have BX := Lib.hid bx
    have HB := Lib.hid hB
    have HM := Lib.hid hm
    have HV := Lib.hid hlr
    rw [hlr]
    clear e0 e1 hown hown1 bx hB HC hm hsm hlen hlr
    have hbc0 : (w.alloc (.cells #[.int .i64 (x.1 : Int), .int .i64 (x.2 : Int)] 93)).cell? ⟨w.heap.size, 0, none⟩ = some (.int .i64 (x.1 : Int)) := BX.out.cell 0
    have hbc1 : (w.alloc (.cells #[.int .i64 (x.1 : Int), .int .i64 (x.2 : Int)] 93)).cell? ⟨w.heap.size, 1, none⟩ = some (.int .i64 (x.2 : Int)) := BX.out.cell 1
    go_enter Tryz.func70, Tryz.ntmps70
    go_wp2_with fail
    have hsz := World.size_alloc w (.cells #[.int .i64 (x.1 : Int), .int .i64 (x.2 : Int)] 93)
    generalize hW0 : w.alloc (.cells #[.int .i64 (x.1 : Int), .int .i64 (x.2 : Int)] 93) = w0 at *
    clear hW0
    go_cut [8, 9] from 14 to 24 (fun s8 s9 wx => ∃ bj, s8 = .pointer (some ⟨bj, 0, none⟩) ∧ s9 = .bool (decide (y.2 + 1 = x.1)) ∧ w0.heap.size ≤ bj ∧ Blk wx bj 93 #[.int .i64 (y.1 : Int), .int .i64 (x.2 : Int)] ∧ Below w0.heap.size w0 wx)
    case first =>
      refine wp_region_E (fun w' => w'.cell? ⟨gv, r.length * 2, none⟩ = some (.int .i64 (y.1 : Int)) ∧ w'.cell? ⟨gv, r.length * 2 + 1, none⟩ = some (.int .i64 (y.2 : Int)) ∧ w'.cell? ⟨w.heap.size, 0, none⟩ = some (.int .i64 (x.1 : Int)) ∧ w'.cell? ⟨w.heap.size, 1, none⟩ = some (.int .i64 (x.2 : Int))) [12] (by kernel_rfl) ?_
      have hHeld := (show (fun w' => w'.cell? ⟨gv, r.length * 2, none⟩ = some (.int .i64 (y.1 : Int)) ∧ w'.cell? ⟨gv, r.length * 2 + 1, none⟩ = some (.int .i64 (y.2 : Int)) ∧ w'.cell? ⟨w.heap.size, 0, none⟩ = some (.int .i64 (x.1 : Int)) ∧ w'.cell? ⟨w.heap.size, 1, none⟩ = some (.int .i64 (x.2 : Int))) w0.drew from ⟨hc0, hc1, hbc0, hbc1⟩)
      refine wpAnyE_takeY (i := 0) (v := ?_) rfl (by kernel_rfl) (by kernel_rfl) (by kernel_rfl) (by kernel_rfl) (fun _ _ _ h => h) (Or.inl ⟨by rfl, ?_⟩) hHeld ?_
      rotate_left
      · intro w' hSw
        go_simp
        try with_reducible rfl
      try simp only [Act.put, List.getElem_toArray, List.getElem_cons_zero, List.setIfInBounds_toArray, List.set_cons_zero, List.set_cons_succ]
      refine wpAnyE_takeY (i := 1) (v := ?_) rfl (by kernel_rfl) (by kernel_rfl) (by kernel_rfl) (by kernel_rfl) (fun _ _ _ h => h) (Or.inl ⟨by rfl, ?_⟩) hHeld ?_
      rotate_left
      · intro w' hSw
        go_simp
        try with_reducible rfl
      try simp only [Act.put, List.getElem_toArray, List.getElem_cons_zero, List.getElem_cons_succ, List.setIfInBounds_toArray, List.set_cons_zero, List.set_cons_succ]
      refine wpAnyE_takeY (i := 2) (v := ?_) rfl (by kernel_rfl) (by kernel_rfl) (by kernel_rfl) (by kernel_rfl) (fun _ _ _ h => h) (Or.inl ⟨by rfl, ?_⟩) hHeld ?_
      rotate_left
      · intro w' hSw
        go_simp
        try with_reducible rfl
      try simp only [Act.put, List.getElem_toArray, List.getElem_cons_zero, List.getElem_cons_succ, List.setIfInBounds_toArray, List.set_cons_zero, List.set_cons_succ]
      refine wpAnyE_takeY (i := 3) (v := ?_) rfl (by kernel_rfl) (by kernel_rfl) (by kernel_rfl) (by kernel_rfl) (fun _ _ _ h => h) (Or.inl ⟨by rfl, ?_⟩) hHeld ?_
      rotate_left
      · intro w' hSw
        go_simp
        try with_reducible rfl
      try simp only [Act.put, List.getElem_toArray, List.getElem_cons_zero, List.getElem_cons_succ, List.setIfInBounds_toArray, List.set_cons_zero, List.set_cons_succ]
      refine wpAnyE_takeY (i := 4) (v := ?_) rfl (by kernel_rfl) (by kernel_rfl) (by kernel_rfl) (by kernel_rfl) (fun _ _ _ h => h) (Or.inl ⟨by rfl, ?_⟩) hHeld ?_
      rotate_left
      · intro w' hSw
        go_simp
        try with_reducible rfl
      try simp only [Act.put, List.getElem_toArray, List.getElem_cons_zero, List.getElem_cons_succ, List.setIfInBounds_toArray, List.set_cons_zero, List.set_cons_succ]
      refine wpAnyE_take [7, 8, 9, 12] (i := 5) (v := ?_) rfl (by kernel_rfl) (by kernel_rfl) (by kernel_rfl) (by kernel_rfl) (fun _ _ _ h => h) (Or.inl ⟨by rfl, ?_⟩) hHeld ?_
      rotate_left
      · intro w' hSw
        obtain ⟨hS1, hS2, hS3, hS4⟩ := hSw
        go_simp
        try with_reducible rfl
      try simp only [Act.put, List.getElem_toArray, List.getElem_cons_zero, List.getElem_cons_succ, List.setIfInBounds_toArray, List.set_cons_zero, List.set_cons_succ]
      refine wpAnyE_take [7, 8, 9, 12] (i := 6) (v := ?_) rfl (by kernel_rfl) (by kernel_rfl) (by kernel_rfl) (by kernel_rfl) (fun _ _ _ h => h) (Or.inl ⟨by rfl, ?_⟩) hHeld ?_
      rotate_left
      · intro w' hSw
        obtain ⟨hS1, hS2, hS3, hS4⟩ := hSw
        go_simp
        try with_reducible rfl
      try simp only [Act.put, List.getElem_toArray, List.getElem_cons_zero, List.getElem_cons_succ, List.setIfInBounds_toArray, List.set_cons_zero, List.set_cons_succ]
      refine wpAnyE_two (i := 7) (k := 11) rfl rfl (by kernel_rfl) (by rfl) (by rfl) (fun K hK => ?_) (fun K hK => ?_)
      · go_simp
        refine (HCC.out _).mono ?_
        rintro e w1 ⟨rfl, hb1⟩
        have hb2 : Below w0.heap.size w0 w1 := ((Below.refl _ w0).drew).trans hb1
        refine hK _ _ ⟨(hb2.cell (p := ⟨gv, r.length * 2, none⟩) hgl2).trans hc0, (hb2.cell (p := ⟨gv, r.length * 2 + 1, none⟩) hgl2).trans hc1, (hb2.cell (p := ⟨w.heap.size, 0, none⟩) hlt).trans hbc0, (hb2.cell (p := ⟨w.heap.size, 1, none⟩) hlt).trans hbc1⟩ ?_
        clear hK K hHeld
        have hHeld := (show (fun w' => w'.cell? ⟨gv, r.length * 2, none⟩ = some (.int .i64 (y.1 : Int)) ∧ w'.cell? ⟨gv, r.length * 2 + 1, none⟩ = some (.int .i64 (y.2 : Int)) ∧ w'.cell? ⟨w.heap.size, 0, none⟩ = some (.int .i64 (x.1 : Int)) ∧ w'.cell? ⟨w.heap.size, 1, none⟩ = some (.int .i64 (x.2 : Int))) w1 from ⟨(hb2.cell (p := ⟨gv, r.length * 2, none⟩) hgl2).trans hc0, (hb2.cell (p := ⟨gv, r.length * 2 + 1, none⟩) hgl2).trans hc1, (hb2.cell (p := ⟨w.heap.size, 0, none⟩) hlt).trans hbc0, (hb2.cell (p := ⟨w.heap.size, 1, none⟩) hlt).trans hbc1⟩)
        try simp only [Act.put, List.getElem_toArray, List.getElem_cons_zero, List.getElem_cons_succ, List.setIfInBounds_toArray, List.set_cons_zero, List.set_cons_succ]
        refine wpAnyE_takeY (i := 8) (v := ?_) rfl (by kernel_rfl) (by kernel_rfl) (by kernel_rfl) (by kernel_rfl) (fun _ _ _ h => h) (Or.inl ⟨by rfl, ?_⟩) hHeld ?_
        rotate_left
        · intro w' hSw
          go_simp
          try with_reducible rfl
        try simp only [Act.put, List.getElem_toArray, List.getElem_cons_zero, List.getElem_cons_succ, List.setIfInBounds_toArray, List.set_cons_zero, List.set_cons_succ]
        refine wpAnyE_takeY (i := 9) (v := ?_) rfl (by kernel_rfl) (by kernel_rfl) (by kernel_rfl) (by kernel_rfl) (fun _ _ _ h => h) (Or.inl ⟨by rfl, ?_⟩) hHeld ?_
        rotate_left
        · intro w' hSw
          go_simp
          try with_reducible rfl
        try simp only [Act.put, List.getElem_toArray, List.getElem_cons_zero, List.getElem_cons_succ, List.setIfInBounds_toArray, List.set_cons_zero, List.set_cons_succ]
        refine wpAnyE_takeY (i := 10) (v := ?_) rfl (by kernel_rfl) (by kernel_rfl) (by kernel_rfl) (by kernel_rfl) (fun _ _ _ h => h) (Or.inl ⟨by rfl, ?_⟩) hHeld ?_
        rotate_left
        · intro w' hSw
          go_simp
          try with_reducible rfl
        try simp only [Act.put, List.getElem_toArray, List.getElem_cons_zero, List.getElem_cons_succ, List.setIfInBounds_toArray, List.set_cons_zero, List.set_cons_succ]
        have hb3 : Below w0.heap.size w0 (w1.alloc (.cells #[.int .i64 0, .int .i64 0] 93)) := hb2.alloc hb2.size _
        refine wpAnyE_oneS (i := 11) rfl (by kernel_rfl) (by rfl) (fun K hK => ?_)
        go_simp
        refine hK _ _ ⟨(hb3.cell (p := ⟨gv, r.length * 2, none⟩) hgl2).trans hc0, (hb3.cell (p := ⟨gv, r.length * 2 + 1, none⟩) hgl2).trans hc1, (hb3.cell (p := ⟨w.heap.size, 0, none⟩) hlt).trans hbc0, (hb3.cell (p := ⟨w.heap.size, 1, none⟩) hlt).trans hbc1⟩ ?_
        clear hK K hHeld
        try simp only [Act.put, List.getElem_toArray, List.getElem_cons_zero, List.getElem_cons_succ, List.setIfInBounds_toArray, List.set_cons_zero, List.set_cons_succ]
        have HBS := Lib.hid (Blk.new w1 93 #[.int .i64 (y.1 : Int), .int .i64 (x.2 : Int)])
        have HB4 := Lib.hid (hb2.alloc hb2.size (.cells #[.int .i64 (y.1 : Int), .int .i64 (x.2 : Int)] 93))
        have HZ := Lib.hid hb2.size
        refine wpAnyE_one (i := 12) rfl (by kernel_rfl) (by kernel_rfl) (by rfl) (fun K hK => ?_)
        go_simp
        refine hK _ _ ?_
        clear hK K
        try simp only [Act.put, List.getElem_toArray, List.getElem_cons_zero, List.getElem_cons_succ, List.setIfInBounds_toArray, List.set_cons_zero, List.set_cons_succ]
        refine wpAnyE_takeZ (i := 13) (v := ?_) rfl (by kernel_rfl) (by kernel_rfl) (by kernel_rfl) (by kernel_rfl) (fun _ _ _ h => h) (Or.inl ⟨by rfl, ?_⟩) ?_
        rotate_left
        · intro w' hSw
          go_simp
          try with_reducible rfl
        try simp only [Act.put, List.getElem_toArray, List.getElem_cons_zero, List.getElem_cons_succ, List.setIfInBounds_toArray, List.set_cons_zero, List.set_cons_succ]
        refine wpAnyE_done (by kernel_rfl) ?_ _
        go_wp2_with fail
        go_meet
        exact ⟨_, rfl, rfl, HZ.out, HBS.out, HB4.out⟩
      · have hb2 : Below w0.heap.size w0 (w0.drew.alloc (.cells #[.int .i64 0, .int .i64 0] 93)) := ((Below.refl _ w0).drew).alloc (Nat.le_refl _) _
        go_simp
        refine hK _ _ ⟨(hb2.cell (p := ⟨gv, r.length * 2, none⟩) hgl2).trans hc0, (hb2.cell (p := ⟨gv, r.length * 2 + 1, none⟩) hgl2).trans hc1, (hb2.cell (p := ⟨w.heap.size, 0, none⟩) hlt).trans hbc0, (hb2.cell (p := ⟨w.heap.size, 1, none⟩) hlt).trans hbc1⟩ ?_
        clear hK K hHeld
        try simp only [Act.put, List.getElem_toArray, List.getElem_cons_zero, List.getElem_cons_succ, List.setIfInBounds_toArray, List.set_cons_zero, List.set_cons_succ]
        refine wpAnyE_oneS (i := 7) rfl (by kernel_rfl) (by rfl) (fun K hK => ?_)
        go_simp
        refine (HCC.out _).mono ?_
        rintro e w1 ⟨rfl, hb1⟩
        have hb3 : Below w0.heap.size w0 w1 := hb2.trans (hb1.mono hb2.size)
        refine hK _ _ ⟨(hb3.cell (p := ⟨gv, r.length * 2, none⟩) hgl2).trans hc0, (hb3.cell (p := ⟨gv, r.length * 2 + 1, none⟩) hgl2).trans hc1, (hb3.cell (p := ⟨w.heap.size, 0, none⟩) hlt).trans hbc0, (hb3.cell (p := ⟨w.heap.size, 1, none⟩) hlt).trans hbc1⟩ ?_
        clear hK K
        have hHeld := (show (fun w' => w'.cell? ⟨gv, r.length * 2, none⟩ = some (.int .i64 (y.1 : Int)) ∧ w'.cell? ⟨gv, r.length * 2 + 1, none⟩ = some (.int .i64 (y.2 : Int)) ∧ w'.cell? ⟨w.heap.size, 0, none⟩ = some (.int .i64 (x.1 : Int)) ∧ w'.cell? ⟨w.heap.size, 1, none⟩ = some (.int .i64 (x.2 : Int))) w1 from ⟨(hb3.cell (p := ⟨gv, r.length * 2, none⟩) hgl2).trans hc0, (hb3.cell (p := ⟨gv, r.length * 2 + 1, none⟩) hgl2).trans hc1, (hb3.cell (p := ⟨w.heap.size, 0, none⟩) hlt).trans hbc0, (hb3.cell (p := ⟨w.heap.size, 1, none⟩) hlt).trans hbc1⟩)
        try simp only [Act.put, List.getElem_toArray, List.getElem_cons_zero, List.getElem_cons_succ, List.setIfInBounds_toArray, List.set_cons_zero, List.set_cons_succ]
        refine wpAnyE_takeY (i := 8) (v := ?_) rfl (by kernel_rfl) (by kernel_rfl) (by kernel_rfl) (by kernel_rfl) (fun _ _ _ h => h) (Or.inl ⟨by rfl, ?_⟩) hHeld ?_
        rotate_left
        · intro w' hSw
          go_simp
          try with_reducible rfl
        try simp only [Act.put, List.getElem_toArray, List.getElem_cons_zero, List.getElem_cons_succ, List.setIfInBounds_toArray, List.set_cons_zero, List.set_cons_succ]
        refine wpAnyE_takeY (i := 9) (v := ?_) rfl (by kernel_rfl) (by kernel_rfl) (by kernel_rfl) (by kernel_rfl) (fun _ _ _ h => h) (Or.inl ⟨by rfl, ?_⟩) hHeld ?_
        rotate_left
        · intro w' hSw
          go_simp
          try with_reducible rfl
        try simp only [Act.put, List.getElem_toArray, List.getElem_cons_zero, List.getElem_cons_succ, List.setIfInBounds_toArray, List.set_cons_zero, List.set_cons_succ]
        refine wpAnyE_takeY (i := 10) (v := ?_) rfl (by kernel_rfl) (by kernel_rfl) (by kernel_rfl) (by kernel_rfl) (fun _ _ _ h => h) (Or.inl ⟨by rfl, ?_⟩) hHeld ?_
        rotate_left
        · intro w' hSw
          go_simp
          try with_reducible rfl
        try simp only [Act.put, List.getElem_toArray, List.getElem_cons_zero, List.getElem_cons_succ, List.setIfInBounds_toArray, List.set_cons_zero, List.set_cons_succ]
        have hbz : Blk w1 w0.heap.size 93 #[.int .i64 0, .int .i64 0] := (Blk.new w0.drew 93 #[.int .i64 0, .int .i64 0]).below hb1 (by simp)
        have hb4 := (hb3.setCell (p := ⟨w0.heap.size, 0, none⟩) (Nat.le_refl _) (.int .i64 (y.1 : Int))).setCell (p := ⟨w0.heap.size, 1, none⟩) (Nat.le_refl _) (.int .i64 (x.2 : Int))
        have hbj := Nat.le_refl w0.heap.size
        rw [hsz] at hbz hb4 hbj
        have hbs := (hbz.set_ 0 (.int .i64 (y.1 : Int))).set_ 1 (.int .i64 (x.2 : Int))
        simp at hbs
        have HBS := Lib.hid hbs
        have HB4 := Lib.hid hb4
        have HZ := Lib.hid hbj
        have fz := hbz.frozen 0
        have fz1 := hbz.frozen 1
        have cz0 := hbz.cell 0
        have cz1 := hbz.cell 1
        simp at cz0 cz1
        clear hbs hb4 hbz hbj
        refine wpAnyE_one (i := 12) rfl (by kernel_rfl) (by kernel_rfl) (by rfl) (fun K hK => ?_)
        go_simp
        refine hK _ _ ?_
        clear hK K
        try simp only [Act.put, List.getElem_toArray, List.getElem_cons_zero, List.getElem_cons_succ, List.setIfInBounds_toArray, List.set_cons_zero, List.set_cons_succ]
        refine wpAnyE_takeZ (i := 13) (v := ?_) rfl (by kernel_rfl) (by kernel_rfl) (by kernel_rfl) (by kernel_rfl) (fun _ _ _ h => h) (Or.inl ⟨by rfl, ?_⟩) ?_
        rotate_left
        · intro w' hSw
          go_simp
          try with_reducible rfl
        try simp only [Act.put, List.getElem_toArray, List.getElem_cons_zero, List.getElem_cons_succ, List.setIfInBounds_toArray, List.set_cons_zero, List.set_cons_succ]
        refine wpAnyE_done (by kernel_rfl) ?_ _
        go_wp2_with fail
        go_meet
        exact ⟨_, rfl, rfl, by omega, HBS.out, by rw [hsz]; exact HB4.out⟩
    case rest =>
      obtain ⟨bj, rfl, rfl, hbj, bk, hb4⟩ := hcut
      have hc0' := (hb4.cell (p := ⟨gv, r.length * 2, none⟩) hgl2).trans hc0
      have hc1' := (hb4.cell (p := ⟨gv, r.length * 2 + 1, none⟩) hgl2).trans hc1
      have hx0 := (hb4.cell (p := ⟨w.heap.size, 0, none⟩) hlt).trans hbc0
      have hx1 := (hb4.cell (p := ⟨w.heap.size, 1, none⟩) hlt).trans hbc1
      have hO4 : wc.ownsRow base 93 2 (.slice (some ⟨gv, 0, none⟩) (r ++ [y]).length cap) (r ++ [y]).length (spC (r ++ [y])) :=
        HO.out.kept (row := none) ⟨hb4.os, hb4.tape, hb4.output, hb4.size, fun k hk _ => hb4.block k hk⟩ (.inr (by simp [Value.ownBlock]))
      have hfr := hO4.frozenAt
      have HO4 := Lib.hid hO4
      have HKP := Lib.hid ((Kept.ofBelow (M := fun k (_ : Obj) => some k = some gv) HB.out).trans (Kept.ofBelow hb4))
      clear hO4
      have k0 := bk.cell 0
      have k1 := bk.cell 1
      simp at k0 k1
      clear hc0 hc1 hbc0 hbc1 hb4 bk
      by_cases hj : y.2 + 1 = x.1
      · rw [decide_eq_true hj]
        go_wp2_with fail
        go_ret
        have hm := HM.out
        rw [if_pos hj] at hm
        have hs1 := HO4.out.stored (r.length * 2) (.int .i64 (y.1 : Int))
        have hs2 := hs1.1.stored (r.length * 2 + 1) (.int .i64 (x.2 : Int))
        have hl : (r ++ [y]).length = (r ++ [(y.1, x.2)]).length := by simp
        refine ⟨_, rfl, ?_, ?_, .inl rfl⟩
        · rw [hm]
          have h3 := hs2.1
          rw [spC_set, hl] at h3
          rw [HV.out] at *
          simpa using h3
        · exact (HKP.out.setCell (p := ⟨gv, r.length * 2, none⟩) (fun _ _ => rfl) _).setCell (p := ⟨gv, r.length * 2 + 1, none⟩) (fun _ _ => rfl) _
      · rw [decide_eq_false hj]
        obtain ⟨i0, hi, hz0, hz1, hz2⟩ := sp_parts
        have hm := HM.out
        rw [if_neg hj] at hm
        have HM2 := Lib.hid hm
        have HA := Lib.hid (HO4.out.alloc (.cells #[.int .i64 (x.1 : Int), .int .i64 (x.2 : Int)] 93))
        have HSP := Lib.hid (sp_one wc x)
        have hbw : base ≤ (wc.alloc (.cells #[.int .i64 (x.1 : Int), .int .i64 (x.2 : Int)] 93)).heap.size := by have := HKP.out.size; simp; omega
        clear hm hc0' hc1' k0 k1 HM hfr
        go_wp2_with (at_builtin; refine wpList_append_sp _ rfl _ _ 80 rfl base 93 i0 (.agg #[.int .i64 0, .int .i64 0]) 16 sp_und hi hz0 hz1 hz2 rfl (.slice (some ⟨gv, 0, none⟩) (r ++ [y]).length cap) (r ++ [y]).length (spC (r ++ [y])) (by rw [HV.out]; rfl) HA.out (some ⟨wc.heap.size, 0, none⟩) 1 1 [x] rfl HSP.out ?c3 ?c4 hbw ?_)
        case c3 => unfold maxLen; rw [HV.out]; omega
        case c4 => rw [HV.out]; omega
        intro v5 w5 hown5 hgrow5 hv5
        go_wp2_with fail
        go_ret
        refine ⟨v5, rfl, ?_, ?_, ?_⟩
        · rw [HM2.out]
          rw [spC_app (r ++ [y]) [x]]
          simpa using hown5
        · exact (HKP.out.trans (Kept.ofBelow ((Below.refl _ wc).alloc (Nat.le_refl _) _))).grown hgrow5 (fun k e o ho => e.symm)
        · rcases hv5 with e | e
          · exact .inl e
          · refine .inr ⟨_, e, ?_⟩
            have := HKP.out.size
            simp
            omega
end
end Go.Proofs.YtmiipkaobloedaaGreat
