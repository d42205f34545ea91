/- The reference of layer 33: Cut. -/
import Derived.Test.YtchlbpfeiamieaaH7
import Derived.Test.YtchlbpfeiamieaaH3
import Derived.Deep.RegionLaw
namespace Go.Proofs.Ytchlbpfeiamieaa
open Go.RowKit Go.Shelf
attribute [local go_sem] Oper.semAt_some

/-- a segment whose parts share the PDU's memory -/
def RCutGives (w : World) (sn : Int) (lst : Bool) (fr : Int) (s e : Bool) (ps : List (List UInt8)) (en : Ending) (w' : World) : Prop :=
  Below w.heap.size w w' ∧ ∃ A c vs, en = .returned (.tuple #[.agg (apdu sn false true lst fr s e A ps.length c), .int .i64 0]) ∧ Sls w' w'.heap.size A ps.length c vs ps
/-- slices of parts that lie in w -/
def CutVals (w : World) (vl : List Value) (qs : List (List UInt8)) : Prop := ∀ (j : Nat) (q : List UInt8), qs[j]? = some q → ∃ A' c', vl[j]? = some (.slice A' q.length c') ∧ Sl w w.heap.size A' q.length c' (bvs q)

set_option maxRecDepth 100000 in
set_option maxHeartbeats 2000000 in
theorem rcutA_bad (sn : Int) (po sg la : Bool) (off : Int) (s e : Bool) (A : Option Addr) (n c : Nat) (vs : List Value) (ps : List (List UInt8)) (fr till : Int) (w : World) (h : Sls w w.heap.size A n c vs ps) (hn : n ≤ 1048576) (hle : ∀ p ∈ ps, p.length ≤ 1099511627776)
    (hbad : validA sn sg la off ps = false) :
    Calls Try.prog 45 #[.agg (apdu sn po sg la off s e A n c), .int .i64 fr, .int .i64 till] w (CutFails w 2) := by
  have hB := ((Below.refl w.heap.size w).alloc (Nat.le_refl _) (.cells (apdu sn po sg la off s e A n c) 68)).alloc (by simp) (.cells (apdu 0 false false false 0 false false none 0 0) 68)
  have hA := (h.below hB).more hB.size
  have hvc := rvalidA_any sn po sg la off s e A n c vs ps _ hA hn hle
  rw [hbad] at hvc
  have br := Blk.new (w.alloc (.cells (apdu sn po sg la off s e A n c) 68)) 68 (apdu 0 false false false 0 false false none 0 0)
  simp only [World.size_alloc] at br
  have HB := Lib.hid hB
  have HV := Lib.hid hvc
  clear hB hvc hbad hle hA
  unfold apdu at *
  go_enter Try.func45, Try.ntmps45
  go_wp2_with fail
  refine HV.out.mono ?_
  rintro e1 w1 ⟨rfl, hb1⟩
  replace br := br.below hb1 br.lt
  have hB1 := HB.out.trans (hb1.mono HB.out.size)
  obtain ⟨z0, z1, z2, z3, z4, z5, z6, z7⟩ := br.eight
  have f0 := br.frozen 0
  have f1 := br.frozen 1
  have f2 := br.frozen 2
  have f3 := br.frozen 3
  have f4 := br.frozen 4
  have f5 := br.frozen 5
  have f6 := br.frozen 6
  have f7 := br.frozen 7
  have hlR := br.lt
  clear HV HB hb1
  go_wp2
  obtain ⟨q0, q1, q2, q3, q4, q5, q6, q7⟩ := (br.put8 (.int .i64 0) (.bool false) (.bool false) (.bool false) (.int .i64 0) (.bool false) (.bool false) (.slice none 0 0)).eight
  exact bodyPost_ret (v := .tuple #[.agg (apdu 0 false false false 0 false false none 0 0), .int .i64 2]) (by simp [results, Try.results45, go_sem, apdu, q0, q1, q2, q3, q4, q5, q6, q7]) rfl ⟨rfl, below_put8 hB1 (by omega) _ _ _ _ _ _ _ _⟩

set_option maxRecDepth 100000 in
set_option maxHeartbeats 2000000 in
theorem rcutA_range (sn : Int) (po sg la : Bool) (off : Nat) (s e : Bool) (A : Option Addr) (n c : Nat) (vs : List Value) (ps : List (List UInt8)) (fr till : Int) (w : World) (h : Sls w w.heap.size A n c vs ps)
    (hv : validA sn sg la off ps = true) (hoff : off ≤ 32767) (hbad : fr < off ∨ till ≤ fr ∨ (off : Int) + sumLen ps < till) :
    Calls Try.prog 45 #[.agg (apdu sn po sg la off s e A n c), .int .i64 fr, .int .i64 till] w (CutFails w 6) := by
  have hva := (validA_iff sn sg la off ps).1 hv
  obtain ⟨hlo, hhi, hpos, hshort, hsum⟩ := (validB_iff ps).1 hva.vp
  have hlen := h.len
  have hple : ∀ p ∈ ps, p.length ≤ 1099511627776 := fun p hp => by have := mem_le_sumLen hp; omega
  have hB := ((Below.refl w.heap.size w).alloc (Nat.le_refl _) (.cells (apdu sn po sg la off s e A n c) 68)).alloc (by simp) (.cells (apdu 0 false false false 0 false false none 0 0) 68)
  have hA := (h.below hB).more hB.size
  have hvc := rvalidA_any sn po sg la off s e A n c vs ps _ hA (by omega) hple
  rw [hv] at hvc
  have bx := (Blk.new w 68 (apdu sn po sg la off s e A n c)).alloc (.cells (apdu 0 false false false 0 false false none 0 0) 68)
  have br := Blk.new (w.alloc (.cells (apdu sn po sg la off s e A n c) 68)) 68 (apdu 0 false false false 0 false false none 0 0)
  simp only [World.size_alloc] at br
  have HB := Lib.hid hB
  have HV := Lib.hid hvc
  have HLE := Lib.hid hple
  have HN := Lib.hid (show n ≤ 1048576 by omega)
  clear hB hvc hple hv hva hpos hshort hlen
  unfold apdu at *
  go_enter Try.func45, Try.ntmps45
  go_wp2_with fail
  refine HV.out.mono ?_
  rintro e1 w1 ⟨rfl, hb1⟩
  replace bx := bx.below hb1 bx.lt
  replace br := br.below hb1 br.lt
  have hA1 := (hA.below hb1).more hb1.size
  have hB1 := HB.out.trans (hb1.mono HB.out.size)
  obtain ⟨x0, x1, x2, x3, x4, x5, x6, x7⟩ := bx.eight
  have hsz := rsize_any s e A n c vs ps w1.drew hA1.drew' HN.out HLE.out
  have HZ := Lib.hid hsz
  clear hA hb1 HV HB hsz
  generalize sumLen ps = S at *
  have hbl : w.heap.size < w1.drew.heap.size := bx.lt
  have hwrap : IntKind.i64.wrap ((off : Int) + S) = (off : Int) + S := IntWalk.i64_in _ (by omega)
  go_wp2_with fail
  go_region_held3 (fun w' => w'.cell? ⟨w.heap.size, 4, none⟩ = some (.int .i64 off) ∧ w'.cell? ⟨w.heap.size, 5, none⟩ = some (.bool s) ∧ w'.cell? ⟨w.heap.size, 6, none⟩ = some (.bool e) ∧ w'.cell? ⟨w.heap.size, 7, none⟩ = some (.slice A n c))
    (first | (refine ⟨(hb2.cell (p := ⟨w.heap.size, 4, none⟩) hbl).trans x4, (hb2.cell (p := ⟨w.heap.size, 5, none⟩) hbl).trans x5, (hb2.cell (p := ⟨w.heap.size, 6, none⟩) hbl).trans x6, (hb2.cell (p := ⟨w.heap.size, 7, none⟩) hbl).trans x7⟩) | go_keep)
    ((go_at_call 55; refine HZ.out.mono ?_; rintro e2 w2 ⟨rfl, hb2⟩))
  clear hwrap
  replace bx := bx.drew.below hb2 bx.lt
  replace br := br.drew.below hb2 br.lt
  have hB2 := hB1.drew.trans (hb2.mono hB1.size)
  clear x0 x1 x2 x3 x4 x5 x6 x7 hb2 HZ hA1 hB1
  obtain ⟨x0, x1, x2, x3, x4, x5, x6, x7⟩ := bx.eight
  obtain ⟨z0, z1, z2, z3, z4, z5, z6, z7⟩ := br.eight
  have f0 := br.frozen 0
  have f1 := br.frozen 1
  have f2 := br.frozen 2
  have f3 := br.frozen 3
  have f4 := br.frozen 4
  have f5 := br.frozen 5
  have f6 := br.frozen 6
  have f7 := br.frozen 7
  have hlR := br.lt
  obtain ⟨q0, q1, q2, q3, q4, q5, q6, q7⟩ := (br.put8 (.int .i64 0) (.bool false) (.bool false) (.bool false) (.int .i64 0) (.bool false) (.bool false) (.slice none 0 0)).eight
  have Q := Lib.hid (And.intro q0 (And.intro q1 (And.intro q2 (And.intro q3 (And.intro q4 (And.intro q5 (And.intro q6 q7)))))))
  clear q0 q1 q2 q3 q4 q5 q6 q7
  by_cases h1 : fr < (off : Int)
  · have d1 : decide (fr < (off : Int)) = true := by simpa using h1
    go_wp2
    obtain ⟨q0, q1, q2, q3, q4, q5, q6, q7⟩ := Q.out
    exact bodyPost_ret (v := .tuple #[.agg (apdu 0 false false false 0 false false none 0 0), .int .i64 6]) (by simp [results, Try.results45, go_sem, apdu, q0, q1, q2, q3, q4, q5, q6, q7]) rfl ⟨rfl, below_put8 hB2 (by omega) _ _ _ _ _ _ _ _⟩
  have d1 : decide (fr < (off : Int)) = false := by simpa using h1
  by_cases h2 : till ≤ fr
  · have d2 : decide (till ≤ fr) = true := by simpa using h2
    go_wp2
    obtain ⟨q0, q1, q2, q3, q4, q5, q6, q7⟩ := Q.out
    exact bodyPost_ret (v := .tuple #[.agg (apdu 0 false false false 0 false false none 0 0), .int .i64 6]) (by simp [results, Try.results45, go_sem, apdu, q0, q1, q2, q3, q4, q5, q6, q7]) rfl ⟨rfl, below_put8 hB2 (by omega) _ _ _ _ _ _ _ _⟩
  have d2 : decide (till ≤ fr) = false := by simpa using h2
  have h3 : (off : Int) + S < till := by omega
  have d3 : decide ((off : Int) + S < till) = true := by simpa using h3
  go_wp2
  obtain ⟨q0, q1, q2, q3, q4, q5, q6, q7⟩ := Q.out
  exact bodyPost_ret (v := .tuple #[.agg (apdu 0 false false false 0 false false none 0 0), .int .i64 6]) (by simp [results, Try.results45, go_sem, apdu, q0, q1, q2, q3, q4, q5, q6, q7]) rfl ⟨rfl, below_put8 hB2 (by omega) _ _ _ _ _ _ _ _⟩
end Go.Proofs.Ytchlbpfeiamieaa
