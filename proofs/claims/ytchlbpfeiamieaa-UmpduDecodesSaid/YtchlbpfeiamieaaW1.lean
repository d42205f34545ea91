/- The bit writer: the iterator over a field's bits, put. -/
import Derived.Test.YtchlbpfeiamieaaW0
import Derived.RangeFuncNested
import Derived.RangeFuncBound
import Derived.RangeFuncCalls
import Derived.RangeFuncLeaves
import Derived.Shelf.Abstract
import Derived.Shelf.RegionOpen
import Derived.OwnWalkIn
import Derived.TacticsInMore
import Derived.LoopNIn
import Derived.LoopIn
namespace Go.Proofs.Ytchlbpfeiamieaa
open Go.RowKit Go.Shelf
attribute [local go_sem] Oper.semAt_some

theorem bitsOf_take (v n k : Nat) (h : k < n) : (bitsOf v n).take k ++ [decide (v / 2 ^ (n - 1 - k) % 2 = 1)] = (bitsOf v n).take (k + 1) := by
  rw [List.take_add_one]
  congr 1
  simp [bitsOf, h]
theorem low_bit (v k : Nat) (h : v < 18446744073709551616) : bits BinOp.and IntKind.u64 ((v : Int) / 2 ^ k) 1 % 256 = ((decide (v / 2 ^ k % 2 = 1)).toNat : Int) := by
  have e : (v : Int) / 2 ^ k = ((v / 2 ^ k : Nat) : Int) := by push_cast; rfl
  have hle : v / 2 ^ k ≤ v := Nat.div_le_self _ _
  rw [e]
  have h1 := u64_and_nat (v / 2 ^ k) 1 (by omega) (by omega)
  have h1' : bits BinOp.and IntKind.u64 ((v / 2 ^ k : Nat) : Int) 1 = ((v / 2 ^ k &&& 1 : Nat) : Int) := h1
  rw [h1', Nat.and_one_is_mod]
  rcases Nat.mod_two_eq_zero_or_one (v / 2 ^ k) with h2 | h2 <;> simp [h2]
/-- a scope through which the run goes without a goto, at the wide fence -/
theorem wpInW_scope {n : Nat} {P : Program} {c : Code} {Q : Exit → Act → World → Prop} {a : Act} {w : World} (h : c.wpIn Fence.wide n P (Exit.noGoto Q) a w) : (Code.scope c).wpIn Fence.wide n P Q a w :=
  wpIn_wide.2 (wp_scope_straight (wpIn_wide.1 h))

set_option maxRecDepth 100000 in
set_option maxHeartbeats 2000000 in
theorem bits1_stops (n : Nat) (hn : 1 ≤ n) (Bw Bv v width : Nat) (hv64 : v < 18446744073709551616) (hwd : width ≤ 64) (M : Nat → Obj → Prop) (w : World)
    (hw : Blk w Bw 3 #[.int .i64 width]) (hv : Blk w Bv 115 #[.int .u64 v]) (hMw : ¬ M Bw (.cells #[.int .i64 width] 3 (0, 0))) (hMv : ¬ M Bv (.cells #[.int .u64 v] 115 (0, 0))) :
    SeqStopsK Fence.wide n Try.prog 177 #[.pointer (some ⟨Bw, 0, none⟩), .pointer (some ⟨Bv, 0, none⟩)] (fun b : Bool => #[Value.int .u8 b.toNat]) (Kept M)
      (fun xs => xs = bitsOf v width) (fun _ => True) width w := fun l J Jx W hW _ _ hY h0 => by
  have hw' := hw.below hW hw.lt
  have hv' := hv.below hW hv.lt
  refine callsIn_of_wp Try.func177 rfl trivial ?_ rfl
  simp only [Try.ntmps177, List.size_toArray, List.length_cons, List.length_nil, Nat.reduceAdd, Nat.reduceSub, Array.replicate_succ, Array.replicate_zero, List.push_toArray, List.append_toArray, List.nil_append, List.cons_append]
  have hcw := hw'.cell 0
  simp at hcw
  refine wpInW_scope ?_
  gi_wp2
  refine wpIn_label ?_
  gi_wp2
  gi_loopw [4] (fun i wr => ∃ k : Nat, k ≤ width ∧ i = .int .i64 ((width : Int) - 1 - k) ∧ J ((bitsOf v width).take k) wr ∧ Kept M W wr)
    (fun i _ => (intOf i + 1).toNat)
  case atStart => exact ⟨0, Nat.zero_le _, by simp, by simpa using h0, Kept.refl _ _⟩
  case round =>
    obtain ⟨k, hk, rfl, hJs, hnx⟩ := hrel
    have hvr := hv'.kept hnx hMv
    have hcv := hvr.cell 0
    simp at hcv
    by_cases hlt : k < width
    · obtain ⟨x, hx⟩ : ∃ x : Bool, x = decide (v / 2 ^ (width - 1 - k) % 2 = 1) := ⟨_, rfl⟩
      have hbit : bits BinOp.and IntKind.u64 ((v : Int) / 2 ^ (width - 1 - k)) 1 % 256 = (x.toNat : Int) := by rw [hx]; exact low_bit v _ hv64
      obtain ⟨fn, tmps, assign, body, hy, hR⟩ := hY _ x wr hJs (by simp; omega)
      have HX := Lib.hid hx
      clear hx
      gi_wp2
      refine hR.mono ?_
      have hts : (bitsOf v width).take k ++ [x] = (bitsOf v width).take (k + 1) := by
        rw [HX.out]; exact bitsOf_take v width k hlt
      rintro e W3 (⟨rfl, hJ3, hk3⟩ | ⟨rfl, hJx3⟩)
      · gi_wp2
        go_roundw
        case rel => exact ⟨k + 1, by omega, by go_num, by rw [← hts]; exact hJ3, hnx.trans hk3⟩
        case measure => simp [intOf]; omega
      · gi_wp2
        rw [Exit.noGoto_normal]
        go_end0
        exact ⟨⟨_, rfl⟩, .inr ⟨_, trivial, hJx3⟩⟩
    · obtain rfl : k = width := by omega
      gi_wp2
      rw [Exit.noGoto_normal]
      go_end0
      exact ⟨⟨_, rfl⟩, .inl ⟨_, rfl, by rw [List.take_of_length_le (by simp)] at hJs; exact hJs⟩⟩

/-- bits hands back the iterator over two boxes. -/
theorem bits_in (n v width : Nat) (w : World) :
    CallsIn Fence.wide n Try.prog 166 #[.int .u64 v, .int .i64 width] w fun e w' => e = .returned (.func (.func 177) #[] #[.pointer (some ⟨w.heap.size + 1, 0, none⟩), .pointer (some ⟨w.heap.size, 0, none⟩)]) ∧
      (w.alloc (.cells #[.int .u64 v] 115)).alloc (.cells #[.int .i64 width] 3) = w' := by
  refine callsIn_of_wp Try.func166 rfl trivial ?_ rfl
  simp only [Try.ntmps166, List.size_toArray, List.length_cons, List.length_nil, Nat.reduceAdd, Nat.reduceSub, Array.replicate_succ, Array.replicate_zero, List.push_toArray, List.append_toArray, List.nil_append, List.cons_append]
  gi_wp2
  go_ret
  exact ⟨rfl, rfl⟩

theorem Wtr.own {w w' : World} {B g : Nat} {l : List Bool} (h : Wtr w B g l) {row : Option Nat} (hg : w.grownBy w' row) (hr : ∀ r, row = some r → ∃ o : Obj, w.heap[r]? = some o ∧ o.isCells = false) : Wtr w' B g l := by
  obtain ⟨hB, v, hb, hv⟩ := h
  refine ⟨hB, v, hb.grown hg (fun e => ?_), hv.kept hg ?_⟩
  · obtain ⟨o, ho, hc⟩ := hr g e.symm
    rw [show w.heap[g]? = _ from hb] at ho
    cases ho; cases hc
  · rcases hk : v.ownBlock with _ | k
    · exact .inl rfl
    · refine .inr (fun e => ?_)
      obtain ⟨o, ho, hc⟩ := hr k (by rw [← e])
      obtain ⟨o', ho', ⟨cs, fr, rfl⟩, _⟩ := own_isRow hv hk
      rw [ho] at ho'; cases ho'; cases hc

theorem Wtr.cellsOnly {w : World} {B g : Nat} {l : List Bool} (h : Wtr w B g l) {N : Nat} : ∀ k o, w.heap[k]? = some o → o.isCells = false → N ≤ k → ¬ Mw B g k o := by
  obtain ⟨hB, v, hb, hv⟩ := h
  rintro k o ho hc _ ⟨_, rfl | ⟨cs, fr, rfl⟩⟩
  · rw [show w.heap[k]? = _ from hb] at ho; cases ho; cases hc
  · cases hc

set_option maxRecDepth 100000 in
set_option maxHeartbeats 2000000 in
/-- put appends the bits of a field. -/
theorem put_any (B g v width : Nat) (l : List Bool) (w : World) (hv64 : v < 18446744073709551616) (hwd : width ≤ 64) (h : Wtr w B g l) (hsm : l.length < 100000000) :
    Calls Try.prog 137 #[.pointer (some ⟨g, 0, none⟩), .int .u64 v, .int .i64 width] w fun e w' => e = .returned (.tuple #[]) ∧ Wtr w' B g (l ++ bitsOf v width) ∧ Kept (Mw B g) w w' := by
  refine (callsIn_wide (n := 5)).1 ?_
  have hBg := h.1
  have hglt : g < w.heap.size := by obtain ⟨_, v, hb, _⟩ := h; exact hb.lt
  refine callsIn_of_wp_marks Try.func137 rfl trivial ?_ rfl
  simp only [Try.ntmps137, List.size_toArray, List.length_cons, List.length_nil, Nat.reduceAdd, Nat.reduceSub, Array.replicate_succ, Array.replicate_zero, List.push_toArray, List.append_toArray, List.nil_append, List.cons_append]
  gi_wp2_with (refine ⟨trivial, ?_⟩; gi_at_call 166; refine (bits_in _ v width _).mono ?_; rintro e w' ⟨rfl, rfl⟩)
  have hbox : Blk (((w.alloc (.cells #[.pointer (some ⟨g, 0, none⟩)] 178)).alloc (.cells #[.int .u64 v] 115)).alloc (.cells #[.int .i64 width] 3)) w.heap.size 178 #[.pointer (some ⟨g, 0, none⟩)] := ((Blk.new w _ _).alloc _).alloc _
  have hbv : Blk (((w.alloc (.cells #[.pointer (some ⟨g, 0, none⟩)] 178)).alloc (.cells #[.int .u64 v] 115)).alloc (.cells #[.int .i64 width] 3)) (w.heap.size + 1) 115 #[.int .u64 v] := by
    have := (Blk.new (w.alloc (.cells #[.pointer (some ⟨g, 0, none⟩)] 178)) 115 #[.int .u64 v]).alloc (.cells #[.int .i64 width] 3)
    simpa using this
  have hbw : Blk (((w.alloc (.cells #[.pointer (some ⟨g, 0, none⟩)] 178)).alloc (.cells #[.int .u64 v] 115)).alloc (.cells #[.int .i64 width] 3)) (w.heap.size + 1 + 1) 3 #[.int .i64 width] := by
    have := Blk.new ((w.alloc (.cells #[.pointer (some ⟨g, 0, none⟩)] 178)).alloc (.cells #[.int .u64 v] 115)) 3 #[.int .i64 width]
    simpa using this
  have hW0 : Wtr (((w.alloc (.cells #[.pointer (some ⟨g, 0, none⟩)] 178)).alloc (.cells #[.int .u64 v] 115)).alloc (.cells #[.int .i64 width] 3)) B g l := by
    obtain ⟨_, u, hb, hv⟩ := h
    exact ⟨hBg, u, ((hb.alloc _).alloc _).alloc _, ((hv.alloc _).alloc _).alloc _⟩
  have hK0 : Kept (Mw B g) w (((w.alloc (.cells #[.pointer (some ⟨g, 0, none⟩)] 178)).alloc (.cells #[.int .u64 v] 115)).alloc (.cells #[.int .i64 width] 3)) := (((Kept.refl _ w).alloc _).alloc _).alloc _
  have hsz : w.heap.size ≤ (((w.alloc (.cells #[.pointer (some ⟨g, 0, none⟩)] 178)).alloc (.cells #[.int .u64 v] 115)).alloc (.cells #[.int .i64 width] 3)).heap.size := by simp; omega
  generalize ((w.alloc (.cells #[.pointer (some ⟨g, 0, none⟩)] 178)).alloc (.cells #[.int .u64 v] 115)).alloc (.cells #[.int .i64 width] 3) = w1 at *
  have nM : ∀ (k : Nat) (cs : Array Value) (t : TypeId), w.heap.size ≤ k → t ≠ 5 → ¬ Mw B g k (.cells cs t (0, 0)) := by
    rintro k cs t hk ht ⟨_, e | ⟨cs', fr, e⟩⟩
    · omega
    · cases e; exact ht rfl
  have nB : ∀ (k : Nat) (cs : Array Value) (t : TypeId), w.heap.size ≤ k → t ≠ 5 → ¬ MB (Mw B g) w1.heap.size k (.cells cs t (0, 0)) := by
    rintro k cs t hk ht (e | ⟨_, e⟩)
    · exact nM k cs t hk ht e
    · cases e
  refine wpIn_rangeFunc_ownG rfl (by omega) (gf := 177) (lb := #[.pointer (some ⟨w.heap.size + 1 + 1, 0, none⟩), .pointer (some ⟨w.heap.size + 1, 0, none⟩)]) rfl trivial (enters_of Try.func177 (by kernel_rfl) rfl)
    (bits1_stops _ (by omega) (w.heap.size + 1 + 1) (w.heap.size + 1) v width hv64 hwd (MB (Mw B g) w1.heap.size) w1 hbw hbv (nB _ _ _ (by omega) (by decide)) (nB _ _ _ (by omega) (by decide)))
    Kept.trans (MB.b w1) (Below.refl _ _) (fun _ => rfl)
    (fun pre W => Wtr W B g (l ++ pre) ∧ Kept (MB (Mw B g) w1.heap.size) w1 W) (fun _ _ _ => False)
    (OwnFrom.and (Own.from (fun s A C row hs hg hr => hs.own hg hr) _) ownFrom_kept) (fun _ _ _ _ _ hs _ _ => hs)
    ⟨by simpa using hW0, Kept.refl _ _⟩
    (fun x => { tmps := #[.pointer (some ⟨g, 0, none⟩), .int .u64 v, .int .i64 width, .pointer (some ⟨w.heap.size, 0, none⟩), undef, undef, .int .u8 x.toNat, .int .u64 v, .int .i64 width, .func (.func 177) #[] #[.pointer (some ⟨w.heap.size + 1 + 1, 0, none⟩), .pointer (some ⟨w.heap.size + 1, 0, none⟩)], .int .u8 x.toNat, undef, undef, undef, undef, undef], defers := [] }) ?assign ?body ?done ?stop
  case assign =>
    intro l x W K hK
    gi_wp2
    exact hK
  case body =>
    rintro lp pre x W ⟨hWt, hKe⟩ hlen
    have hbx := (hbox.kept hKe (nB _ _ _ (by omega) (by decide))).cell 0
    simp at hbx
    gi_wp2_with (refine ⟨trivial, ?_⟩; gi_at_call 167; refine (CallsIn.inRound lp ((callsIn_wide (n := 2)).2 (add_any B g (l ++ pre) x W hWt (by simp; omega)))).mono ?_; rintro e w' ⟨rfl, hw', hk'⟩)
    exact ⟨hk'.from (hWt.cellsOnly), hk'.mb, by simpa using hw', hKe.trans hk'.mb⟩
  case done =>
    rintro D ys W hD rfl ⟨hc, hB⟩ hK
    gi_wp2
    refine ⟨by simp, .inl ⟨_, _, rfl, run_takeDeferred hK, ?_⟩⟩
    exact ⟨_, results_none rfl _ _ _, rfl, hc.own (grownBy_putObj' W D _) (fun r e => by cases e; exact ⟨_, hK, rfl⟩), hK0.trans (hB.taken _ hD hK rfl).drop⟩
  case stop =>
    rintro D c pre W _ _ h _
    exact h.elim
end Go.Proofs.Ytchlbpfeiamieaa
