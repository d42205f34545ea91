/- ampdu.Cut. -/
import Derived.Test.YtmiipkaobloedaaGreatYVa
import Derived.Test.YtmiipkaobloedaaGreatYVc
import Derived.Test.YtmiipkaobloedaaGreatZj
import Derived.Test.YtmiipkaobloedaaGreatZn
namespace Go.Proofs.YtmiipkaobloedaaGreat
open Go.RowKit Go.Shelf
attribute [local go_sem] Oper.semAt_some

/-- parts, each in a row of its own -/
def PartsOwn (w : World) (base : Nat) (vo : Value) (ps : List (List UInt8)) : Prop :=
  ∃ vs, w.ownsRow base 31 1 vo ps.length vs ∧ ∀ (i : Nat) (p : List UInt8), ps[i]? = some p → ∃ A c, vs[i]? = some (.slice A p.length c) ∧ w.ownsRow base 5 1 (.slice A p.length c) p.length (bvs p)
/-- an error and an empty PDU -/
def CutFails (w : World) (er : Int) (en : Ending) (w' : World) : Prop :=
  en = .returned (.tuple #[.agg (apdu 0 false false false 0 false false none 0 0), .int .i64 er]) ∧ Below w.heap.size w w'
/-- a segment -/
def CutGives (w : World) (sn : Int) (lst : Bool) (fr : Int) (s e : Bool) (ps : List (List UInt8)) (en : Ending) (w' : World) : Prop :=
  Below w.heap.size w w' ∧ ∃ A c, en = .returned (.tuple #[.agg (apdu sn false true lst fr s e A ps.length c), .int .i64 0]) ∧ PartsOwn w' w.heap.size (.slice A ps.length c) ps

theorem Blk.put8 {w : World} {g : Nat} {t : TypeId} {x0 x1 x2 x3 x4 x5 x6 x7 : Value} (b : Blk w g t #[x0, x1, x2, x3, x4, x5, x6, x7]) (u0 u1 u2 u3 u4 u5 u6 u7 : Value) :
    Blk ((((((((w.setCell ⟨g, 0, none⟩ u0).setCell ⟨g, 1, none⟩ u1).setCell ⟨g, 2, none⟩ u2).setCell ⟨g, 3, none⟩ u3).setCell ⟨g, 4, none⟩ u4).setCell ⟨g, 5, none⟩ u5).setCell ⟨g, 6, none⟩ u6).setCell ⟨g, 7, none⟩ u7) g t #[u0, u1, u2, u3, u4, u5, u6, u7] := by
  have := (((((((b.set_ 0 u0).set_ 1 u1).set_ 2 u2).set_ 3 u3).set_ 4 u4).set_ 5 u5).set_ 6 u6).set_ 7 u7
  simpa using this
theorem below_put8 {B : Nat} {a w : World} (hb : Below B a w) {g : Nat} (hg : B ≤ g) (u0 u1 u2 u3 u4 u5 u6 u7 : Value) :
    Below B a ((((((((w.setCell ⟨g, 0, none⟩ u0).setCell ⟨g, 1, none⟩ u1).setCell ⟨g, 2, none⟩ u2).setCell ⟨g, 3, none⟩ u3).setCell ⟨g, 4, none⟩ u4).setCell ⟨g, 5, none⟩ u5).setCell ⟨g, 6, none⟩ u6).setCell ⟨g, 7, none⟩ u7) :=
  (((((((hb.setCell (p := ⟨g, 0, none⟩) hg u0).setCell (p := ⟨g, 1, none⟩) hg u1).setCell (p := ⟨g, 2, none⟩) hg u2).setCell (p := ⟨g, 3, none⟩) hg u3).setCell (p := ⟨g, 4, none⟩) hg u4).setCell (p := ⟨g, 5, none⟩) hg u5).setCell (p := ⟨g, 6, none⟩) hg u6).setCell (p := ⟨g, 7, none⟩) hg u7

set_option maxRecDepth 100000 in
set_option maxHeartbeats 4000000 in
theorem cutA_bad (sn : Int) (po sg la : Bool) (off : Int) (s e : Bool) (A : Option Addr) (n c : Nat) (vs : List Value) (ps : List (List UInt8)) (fr till : Int) (w : World) (h : Sls w w.heap.size A n c vs ps) (hn : n ≤ 1048576) (hle : ∀ p ∈ ps, p.length ≤ 1099511627776)
    (hbad : validA sn sg la off ps = false) :
    Calls Tryz.prog 60 #[.agg (apdu sn po sg la off s e A n c), .int .i64 fr, .int .i64 till] w (CutFails w 2) := by
  refine (callsIn_wide (n := 5)).1 ?_
  have hB := ((((Below.refl w.heap.size w).alloc (Nat.le_refl _) (.cells (apdu sn po sg la off s e A n c) 61)).alloc (by simp) (.cells #[.int .i64 fr] 3)).alloc (by simp; omega) (.cells #[.int .i64 till] 3)).alloc (by simp; omega) (.cells (apdu 0 false false false 0 false false none 0 0) 61)
  have hv := validA_any sn po sg la off s e A n c vs ps _ ((h.below hB).more hB.size) hn hle
  rw [hbad] at hv
  have b3 := Blk.new (((w.alloc (.cells (apdu sn po sg la off s e A n c) 61)).alloc (.cells #[.int .i64 fr] 3)).alloc (.cells #[.int .i64 till] 3)) 61 (apdu 0 false false false 0 false false none 0 0)
  simp only [World.size_alloc] at b3
  have HB := Lib.hid hB
  have HV := Lib.hid hv
  clear hB hv hle hbad
  unfold apdu at *
  refine callsIn_of_wp_marks Tryz.func60 rfl trivial ?_ rfl
  simp only [Tryz.ntmps60, List.size_toArray, List.length_cons, List.length_nil, Nat.reduceAdd, Nat.reduceSub, Array.replicate_succ, Array.replicate_zero, List.push_toArray, List.append_toArray, List.nil_append, List.cons_append]
  refine wpIn_wide.2 ?_
  go_wp2_with fail
  refine HV.out.mono ?_
  rintro e1 w1 ⟨rfl, hb1⟩
  have c3 := b3.below hb1 b3.lt
  have hB1 := HB.out.trans (hb1.mono HB.out.size)
  obtain ⟨x0, x1, x2, x3, x4, x5, x6, x7⟩ := c3.eight
  have f0 := c3.frozen 0
  have f1 := c3.frozen 1
  have f2 := c3.frozen 2
  have f3 := c3.frozen 3
  have f4 := c3.frozen 4
  have f5 := c3.frozen 5
  have f6 := c3.frozen 6
  have f7 := c3.frozen 7
  go_wp2
  obtain ⟨q0, q1, q2, q3, q4, q5, q6, q7⟩ := (c3.put8 (.int .i64 0) (.bool false) (.bool false) (.bool false) (.int .i64 0) (.bool false) (.bool false) (.slice none 0 0)).eight
  exact ⟨.tuple #[.agg #[.int .i64 0, .bool false, .bool false, .bool false, .int .i64 0, .bool false, .bool false, .slice none 0 0], .int .i64 2], by simp [results, Tryz.results60, go_sem, q0, q1, q2, q3, q4, q5, q6, q7], rfl, below_put8 hB1 (by omega) _ _ _ _ _ _ _ _⟩

set_option maxRecDepth 100000 in
set_option maxHeartbeats 8000000 in
theorem cutA_range (sn : Int) (po sg la : Bool) (off : Nat) (s e : Bool) (A : Option Addr) (n c : Nat) (vs : List Value) (ps : List (List UInt8)) (fr till : Int) (w : World) (h : Sls w w.heap.size A n c vs ps)
    (hv : validA sn sg la off ps = true) (hoff : off ≤ 32767) (hbad : fr < off ∨ till ≤ fr ∨ (off : Int) + sumLen ps < till) :
    Calls Tryz.prog 60 #[.agg (apdu sn po sg la off s e A n c), .int .i64 fr, .int .i64 till] w (CutFails w 6) := by
  refine (callsIn_wide (n := 5)).1 ?_
  have hva := (validA_iff sn sg la off ps).1 hv
  obtain ⟨hlo, hhi, hpos, hshort, hsum⟩ := (validB_iff ps).1 hva.vp
  have hlen := h.len
  have hple : ∀ p ∈ ps, p.length ≤ 1099511627776 := fun p hp => by have := mem_le_sumLen hp; omega
  have hB := ((((Below.refl w.heap.size w).alloc (Nat.le_refl _) (.cells (apdu sn po sg la off s e A n c) 61)).alloc (by simp) (.cells #[.int .i64 fr] 3)).alloc (by simp; omega) (.cells #[.int .i64 till] 3)).alloc (by simp; omega) (.cells (apdu 0 false false false 0 false false none 0 0) 61)
  have hA := (h.below hB).more hB.size
  have hvc := validA_any sn po sg la off s e A n c vs ps _ hA (by omega) hple
  rw [hv] at hvc
  have b0 := (((Blk.new w 61 (apdu sn po sg la off s e A n c)).alloc (.cells #[.int .i64 fr] 3)).alloc (.cells #[.int .i64 till] 3)).alloc (.cells (apdu 0 false false false 0 false false none 0 0) 61)
  have b1 := ((Blk.new (w.alloc (.cells (apdu sn po sg la off s e A n c) 61)) 3 #[.int .i64 fr]).alloc (.cells #[.int .i64 till] 3)).alloc (.cells (apdu 0 false false false 0 false false none 0 0) 61)
  have b2 := (Blk.new ((w.alloc (.cells (apdu sn po sg la off s e A n c) 61)).alloc (.cells #[.int .i64 fr] 3)) 3 #[.int .i64 till]).alloc (.cells (apdu 0 false false false 0 false false none 0 0) 61)
  have b3 := Blk.new (((w.alloc (.cells (apdu sn po sg la off s e A n c) 61)).alloc (.cells #[.int .i64 fr] 3)).alloc (.cells #[.int .i64 till] 3)) 61 (apdu 0 false false false 0 false false none 0 0)
  simp only [World.size_alloc] at b1 b2 b3
  have HB := Lib.hid hB
  have HV := Lib.hid hvc
  have HLE := Lib.hid hple
  have HLEN := Lib.hid hlen
  clear hB hvc hple hv hva hpos hshort hlen
  unfold apdu at *
  refine callsIn_of_wp_marks Tryz.func60 rfl trivial ?_ rfl
  simp only [Tryz.ntmps60, List.size_toArray, List.length_cons, List.length_nil, Nat.reduceAdd, Nat.reduceSub, Array.replicate_succ, Array.replicate_zero, List.push_toArray, List.append_toArray, List.nil_append, List.cons_append]
  refine wpIn_wide.2 ?_
  go_wp2_with fail
  generalize (((w.alloc (.cells #[.int .i64 sn, .bool po, .bool sg, .bool la, .int .i64 off, .bool s, .bool e, .slice A n c] 61)).alloc (.cells #[.int .i64 fr] 3)).alloc (.cells #[.int .i64 till] 3)).alloc (.cells #[.int .i64 0, .bool false, .bool false, .bool false, .int .i64 0, .bool false, .bool false, .slice none 0 0] 61) = w0 at *
  refine HV.out.mono ?_
  rintro e1 w1 ⟨rfl, hb1⟩
  replace b0 := b0.below hb1 b0.lt
  replace b1 := b1.below hb1 b1.lt
  replace b2 := b2.below hb1 b2.lt
  replace b3 := b3.below hb1 b3.lt
  have hA1 := (hA.below hb1).more hb1.size
  have hB1 := HB.out.trans (hb1.mono HB.out.size)
  obtain ⟨x0, x1, x2, x3, x4, x5, x6, x7⟩ := b0.eight
  clear hA hb1 HV HB
  have hsz := size_any s e A n c vs ps w1.drew hA1.drew' (by have := HLEN.out; omega) HLE.out
  have HZ := Lib.hid hsz
  clear hsz HLE
  generalize sumLen ps = S at *
  have hbl : w.heap.size < w1.drew.heap.size := b0.lt
  have hwrap : IntKind.i64.wrap ((off : Int) + S) = (off : Int) + S := IntWalk.i64_in _ (by omega)
  go_wp2_with fail
  go_region_held3 (fun w' => w'.cell? ⟨w.heap.size, 4, none⟩ = some (.int .i64 off) ∧ w'.cell? ⟨w.heap.size, 5, none⟩ = some (.bool s) ∧ w'.cell? ⟨w.heap.size, 6, none⟩ = some (.bool e) ∧ w'.cell? ⟨w.heap.size, 7, none⟩ = some (.slice A n c))
    (first | (refine ⟨(hb2.cell (p := ⟨w.heap.size, 4, none⟩) hbl).trans x4, (hb2.cell (p := ⟨w.heap.size, 5, none⟩) hbl).trans x5, (hb2.cell (p := ⟨w.heap.size, 6, none⟩) hbl).trans x6, (hb2.cell (p := ⟨w.heap.size, 7, none⟩) hbl).trans x7⟩) | go_keep)
    ((go_at_call 35; refine HZ.out.mono ?_; rintro e2 w2 ⟨rfl, hb2⟩))
  clear hwrap
  replace b0 := b0.drew.below hb2 b0.lt
  replace b1 := b1.drew.below hb2 b1.lt
  replace b2 := b2.drew.below hb2 b2.lt
  replace b3 := b3.drew.below hb2 b3.lt
  have hB2 := (hB1.drew).trans (hb2.mono (by have := hB1.size; simpa using this))
  clear x0 x1 x2 x3 x4 x5 x6 x7 hB1 hA1 HZ hb2
  obtain ⟨x0, x1, x2, x3, x4, x5, x6, x7⟩ := b0.eight
  have y1 := b1.cell 0
  have y2 := b2.cell 0
  simp at y1 y2
  obtain ⟨z0, z1, z2, z3, z4, z5, z6, z7⟩ := b3.eight
  have f0 := b3.frozen 0
  have f1 := b3.frozen 1
  have f2 := b3.frozen 2
  have f3 := b3.frozen 3
  have f4 := b3.frozen 4
  have f5 := b3.frozen 5
  have f6 := b3.frozen 6
  have f7 := b3.frozen 7
  obtain ⟨q0, q1, q2, q3, q4, q5, q6, q7⟩ := (b3.put8 (.int .i64 0) (.bool false) (.bool false) (.bool false) (.int .i64 0) (.bool false) (.bool false) (.slice none 0 0)).eight
  have HQ := Lib.hid (And.intro q0 (And.intro q1 (And.intro q2 (And.intro q3 (And.intro q4 (And.intro q5 (And.intro q6 q7)))))))
  clear q0 q1 q2 q3 q4 q5 q6 q7
  have hcase : fr < off ∨ (¬ fr < off ∧ till ≤ fr) ∨ (¬ fr < off ∧ ¬ till ≤ fr ∧ (off : Int) + S < till) := by omega
  clear hbad
  rcases hcase with h1 | ⟨h1, h2⟩ | ⟨h1, h2, h3⟩
  all_goals
    go_wp2
    obtain ⟨q0, q1, q2, q3, q4, q5, q6, q7⟩ := HQ.out
    exact ⟨.tuple #[.agg #[.int .i64 0, .bool false, .bool false, .bool false, .int .i64 0, .bool false, .bool false, .slice none 0 0], .int .i64 6], by simp [results, Tryz.results60, go_sem, q0, q1, q2, q3, q4, q5, q6, q7], rfl, below_put8 hB2 (by omega) _ _ _ _ _ _ _ _⟩
end Go.Proofs.YtmiipkaobloedaaGreat
