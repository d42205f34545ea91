/- State. Pending: the PDUs with pending ranges. The iterator of Pending by number; Buffered. The calls of a nil or of a zero transmitter. law35: over where nothing is pending. Unconfirmed: as many SDUs as are not confirmed. -/
import Derived.Test.YtmiipkaobloedaaGreatYDa
import Derived.Test.YtmiipkaobloedaaGreatZa
import Derived.Test.YtmiipkaobloedaaGreatZb
import Derived.Test.YtmiipkaobloedaaGreatZe
import Derived.Test.YtmiipkaobloedaaGreatZf
import Derived.Test.YtmiipkaobloedaaGreatZl
import Derived.Deep.RegionHeld3
import Derived.Deep.DeepCutAuto
import Derived.Laws.ResultCell
namespace Go.Proofs.YtmiipkaobloedaaGreat
open Go.RowKit Go.Shelf
attribute [local go_sem] Oper.semAt_some
theorem results_cell1 {fn : Func} {p : Tmp} {ty : TypeId} (h : fn.results = #[.cell p ty]) (tmps : Array Value) (P : Program) (w : World) :
    (results fn tmps).run P w = ((asAddr (tmps.getD p undef)).run P w).andThen fun a w₁ => (loadVar ty a).run P w₁ := by
  simp only [results, h]
  simp [Sem.run_bind, Result.andThen]
theorem bAl {w w' : World} (h : Below w.heap.size w w') (o : Obj) : Below w.heap.size w (w'.alloc o) := h.alloc h.size o
theorem bSet {w w' : World} (h : Below w.heap.size w w') (i : Nat) (u : Value) : Below w.heap.size w (w'.setCell ⟨w.heap.size, i, none⟩ u) := h.setCell (p := ⟨w.heap.size, i, none⟩) (Nat.le_refl _) u
/-- what State gives -/
def stV (st : Sd) : Array Value :=
  #[.int .i64 (st.first : Nat), .int .i64 (nextP st : Nat), .int .i64 (st.pdus : Nat), .int .i64 (st.bytes : Nat), .int .i64 (if st.wait = true then ((st.polled : Nat) : Int) else 0), .bool st.wait, .int .i64 (if st.wait = true then st.expiry else 0), .bool st.owed, .int .i64 (st.done : Nat), .bool st.failed]
section
variable {D F : Nat → Prop} {g : Nat} {c : Cf} {st : Sd} {vq vo : Value} {vs os : List Value} {w : World}
set_option maxRecDepth 10000 in
set_option maxHeartbeats 1000000 in
theorem sstate_any (h : AmS w D F g c st vq vs vo os) (ht : 1 ≤ c.timer) (h1 : st.first < 1024) (h2 : st.out.length ≤ 1000000) :
    Calls Tryz.prog 12 #[.pointer (some ⟨g, 0, none⟩)] w fun e w' => e = .returned (.agg (stV st)) ∧ Below w.heap.size w w' := by
  have z : Array Value := #[.int .i64 0, .int .i64 0, .int .i64 0, .int .i64 0, .int .i64 0, .bool false, .int .i64 0, .bool false, .int .i64 0, .bool false]
  have HZ := Lib.hid (Blk.new w 35 #[.int .i64 0, .int .i64 0, .int .i64 0, .int .i64 0, .int .i64 0, .bool false, .int .i64 0, .bool false, .int .i64 0, .bool false])
  have HB := Lib.hid ((Below.refl w.heap.size w).alloc (Nat.le_refl _) (.cells #[.int .i64 0, .int .i64 0, .int .i64 0, .int .i64 0, .int .i64 0, .bool false, .int .i64 0, .bool false, .int .i64 0, .bool false] 35))
  have HH := Lib.hid (h.below HB.out)
  clear h z
  go_enter Tryz.func12, Tryz.ntmps12
  go_wp2_with fail
  generalize w.alloc (.cells #[.int .i64 0, .int .i64 0, .int .i64 0, .int .i64 0, .int .i64 0, .bool false, .int .i64 0, .bool false, .int .i64 0, .bool false] 35) = w0 at *
  refine (scheck_any HH.out ht).mono ?_
  obtain ⟨r, hr⟩ : ∃ r : Int, (if st.failed = true then 8 else 0) = r := ⟨_, rfl⟩
  have dr : (r == 1) = false := by rw [← hr]; cases st.failed <;> rfl
  simp only [hr]
  clear hr
  rintro e1 w1 ⟨rfl, rfl⟩
  go_wp2_with fail
  have y9 := HH.out.blk.cell 11
  have y13 := HH.out.blk.cell 13
  have y14 := HH.out.blk.cell 14
  have y16 := HH.out.blk.cell 16
  have y18 := HH.out.blk.cell 18
  have y8 := HH.out.blk.cell 8
  have y19 := HH.out.blk.cell 19
  have hgl := HH.out.blk.lt
  simp [sndC] at y9 y13 y14 y16 y18 y8 y19
  have hS : ∀ W, Below w0.heap.size w0 W → (W.cell? ⟨g, 11, none⟩ = some (.int .i64 (st.first : Nat)) ∧ W.cell? ⟨g, 13, none⟩ = some (.int .i64 (st.pdus : Nat)) ∧ W.cell? ⟨g, 14, none⟩ = some (.int .i64 (st.bytes : Nat)) ∧ W.cell? ⟨g, 16, none⟩ = some (.bool st.wait) ∧ W.cell? ⟨g, 18, none⟩ = some (.bool st.owed) ∧ W.cell? ⟨g, 8, none⟩ = some (.int .i64 (st.done : Nat)) ∧ W.cell? ⟨g, 19, none⟩ = some (.bool st.failed)) := fun W hW =>
    ⟨(hW.cell (p := ⟨g, 11, none⟩) hgl).trans y9, (hW.cell (p := ⟨g, 13, none⟩) hgl).trans y13, (hW.cell (p := ⟨g, 14, none⟩) hgl).trans y14, (hW.cell (p := ⟨g, 16, none⟩) hgl).trans y16, (hW.cell (p := ⟨g, 18, none⟩) hgl).trans y18, (hW.cell (p := ⟨g, 8, none⟩) hgl).trans y8, (hW.cell (p := ⟨g, 19, none⟩) hgl).trans y19⟩
  have HS := Lib.hid hS
  have hnx : ∀ W, Below w0.heap.size w0 W → Calls Tryz.prog 34 #[.pointer (some ⟨g, 0, none⟩)] W fun e w' => e = .returned (.int .i64 (nextP st : Nat)) ∧ ∃ q, W.drewN q = w' := fun W hW =>
    (snext_any (HH.out.below hW) h1 h2).mono fun e w' hh => ⟨hh.1, by obtain ⟨q, rfl⟩ := hh.2; exact ⟨q, rfl⟩⟩
  have hn0 : Calls Tryz.prog 34 #[.pointer (some ⟨g, 0, none⟩)] w0.drew fun e w' => e = .returned (.int .i64 (nextP st : Nat)) ∧ Below w0.heap.size w0 w' :=
    (snext_any (HH.out.below (Below.refl _ w0).drew) h1 h2).mono fun e w' hh => ⟨hh.1, by obtain ⟨q, rfl⟩ := hh.2; exact (Below.refl _ w0).drew.drewN q⟩
  have HN0 := Lib.hid hn0
  have HNX := Lib.hid hnx
  clear hn0
  clear hnx
  clear hS
  go_cut [3] from 8 to 38 (fun s3 wx => ∃ b, s3 = .pointer (some ⟨b, 0, none⟩) ∧ Blk wx b 35 #[.int .i64 (st.first : Nat), .int .i64 (nextP st : Nat), .int .i64 (st.pdus : Nat), .int .i64 (st.bytes : Nat), .int .i64 0, .bool st.wait, .int .i64 0, .bool st.owed, .int .i64 (st.done : Nat), .bool st.failed] ∧ Below w0.heap.size w0 wx ∧ w0.heap.size ≤ b)
  case first =>
    have hb0 := Below.refl w0.heap.size w0
    go_region_held3 (fun W => W.cell? ⟨g, 11, none⟩ = some (.int .i64 (st.first : Nat)) ∧ W.cell? ⟨g, 13, none⟩ = some (.int .i64 (st.pdus : Nat)) ∧ W.cell? ⟨g, 14, none⟩ = some (.int .i64 (st.bytes : Nat)) ∧ W.cell? ⟨g, 16, none⟩ = some (.bool st.wait) ∧ W.cell? ⟨g, 18, none⟩ = some (.bool st.owed) ∧ W.cell? ⟨g, 8, none⟩ = some (.int .i64 (st.done : Nat)) ∧ W.cell? ⟨g, 19, none⟩ = some (.bool st.failed))
      (first | (with_reducible (refine HS.out _ ?_; (repeat first | assumption | refine Below.drew ?_ | refine Below.drewN ?_ _ | refine bAl ?_ _ | refine bSet ?_ _ _); done)) | go_keep)
      (first
        | (go_at_call 34; with_reducible (refine HN0.out.mono ?_); rintro e7 w7 ⟨rfl, hb7⟩)
        | (go_at_call 34; refine (HNX.out _ (by (repeat first | assumption | refine Below.drew ?_ | refine Below.drewN ?_ _ | refine bAl ?_ _ | refine bSet ?_ _ _))).mono ?_; rintro e7 w7 ⟨rfl, q7, rfl⟩)
        | fail)
    · go_wp2
      go_meet
      exact ⟨_, rfl, Blk.new _ _ _, hb7.alloc hb7.size _, hb7.size⟩
    · go_wp2
      go_meet
      refine ⟨_, rfl, ?_, ?_, Nat.le_refl _⟩
      · have b := ((((((((((((Blk.new w0 35 #[.int .i64 0, .int .i64 0, .int .i64 0, .int .i64 0, .int .i64 0, .bool false, .int .i64 0, .bool false, .int .i64 0, .bool false]).drewN (1 + q7)).set_ 0 (.int .i64 (st.first : Nat))).set_ 1 (.int .i64 (nextP st : Nat))).set_ 2 (.int .i64 (st.pdus : Nat))).set_ 3 (.int .i64 (st.bytes : Nat))).set_ 4 (.int .i64 0)).set_ 5 (.bool st.wait)).set_ 6 (.int .i64 0)).set_ 7 (.bool st.owed)).set_ 8 (.int .i64 (st.done : Nat))).set_ 9 (.bool st.failed))
        simpa using b
      · with_reducible (repeat first | assumption | refine Below.drew ?_ | refine Below.drewN ?_ _ | refine bAl ?_ _ | refine bSet ?_ _ _)
  case rest =>
  obtain ⟨b, rfl, hbk, hbb, hbl⟩ := hcut
  replace y16 := (hbb.cell (p := ⟨g, 16, none⟩) hgl).trans y16
  have y15 := (HH.out.below hbb).blk.cell 15
  have y17 := (HH.out.below hbb).blk.cell 17
  have HZ2 := Lib.hid (HZ.out.below hbb HZ.out.lt)
  simp [sndC] at y15 y17
  have hgb : g ≠ b := by omega
  have HBB := Lib.hid hbb
  have hzl : w.heap.size < w0.heap.size := HZ.out.lt
  cases hwt : st.wait with
  | false =>
    rw [hwt] at hbk y16
    have hst : stV st = #[.int .i64 (st.first : Nat), .int .i64 (nextP st : Nat), .int .i64 (st.pdus : Nat), .int .i64 (st.bytes : Nat), .int .i64 0, .bool false, .int .i64 0, .bool st.owed, .int .i64 (st.done : Nat), .bool st.failed] := by unfold stV; rw [hwt]; rfl
    have HST := Lib.hid hst
    have hb2 := hbk
    have hbb2 := hbb
    clear hst hwt hbk hbb y15 y17 HS HN0 HNX HBB HZ2
    have hZ3 := HZ.out.below hbb2 HZ.out.lt
    have HZ3 := Lib.hid hZ3
    have HBB2 := Lib.hid (HB.out.trans (hbb2.mono HB.out.size))
    have b0 := hb2.cell 0
    have b1 := hb2.cell 1
    have b2 := hb2.cell 2
    have b3 := hb2.cell 3
    have b4 := hb2.cell 4
    have b5 := hb2.cell 5
    have b6 := hb2.cell 6
    have b7 := hb2.cell 7
    have b8 := hb2.cell 8
    have b9 := hb2.cell 9
    have fb := hb2.frozen
    simp at b0 b1 b2 b3 b4 b5 b6 b7 b8 b9
    have z0 := hZ3.cell 0
    have z1 := hZ3.cell 1
    have z2 := hZ3.cell 2
    have z3 := hZ3.cell 3
    have z4 := hZ3.cell 4
    have z5 := hZ3.cell 5
    have z6 := hZ3.cell 6
    have z7 := hZ3.cell 7
    have z8 := hZ3.cell 8
    have z9 := hZ3.cell 9
    have fz := hZ3.frozen
    simp at z0 z1 z2 z3 z4 z5 z6 z7 z8 z9
    clear hb2 hZ3 hbb2
    go_wp2
    have hz := ((((((((((HZ3.out.set_ 0 (.int .i64 (st.first : Nat))).set_ 1 (.int .i64 (nextP st : Nat))).set_ 2 (.int .i64 (st.pdus : Nat))).set_ 3 (.int .i64 (st.bytes : Nat))).set_ 4 (.int .i64 0)).set_ 5 (.bool false)).set_ 6 (.int .i64 0)).set_ 7 (.bool st.owed)).set_ 8 (.int .i64 (st.done : Nat))).set_ 9 (.bool st.failed))
    simp at hz
    have HF := Lib.hid hz
    have HE := Lib.hid ((((((((((HBB2.out.setCell (p := ⟨w.heap.size, 0, none⟩) (Nat.le_refl _) (.int .i64 (st.first : Nat))).setCell (p := ⟨w.heap.size, 1, none⟩) (Nat.le_refl _) (.int .i64 (nextP st : Nat))).setCell (p := ⟨w.heap.size, 2, none⟩) (Nat.le_refl _) (.int .i64 (st.pdus : Nat))).setCell (p := ⟨w.heap.size, 3, none⟩) (Nat.le_refl _) (.int .i64 (st.bytes : Nat))).setCell (p := ⟨w.heap.size, 4, none⟩) (Nat.le_refl _) (.int .i64 0)).setCell (p := ⟨w.heap.size, 5, none⟩) (Nat.le_refl _) (.bool false)).setCell (p := ⟨w.heap.size, 6, none⟩) (Nat.le_refl _) (.int .i64 0)).setCell (p := ⟨w.heap.size, 7, none⟩) (Nat.le_refl _) (.bool st.owed)).setCell (p := ⟨w.heap.size, 8, none⟩) (Nat.le_refl _) (.int .i64 (st.done : Nat))).setCell (p := ⟨w.heap.size, 9, none⟩) (Nat.le_refl _) (.bool st.failed))
    clear hz b0 b1 b2 b3 b4 b5 b6 b7 b8 b9 z0 z1 z2 z3 z4 z5 z6 z7 z8 z9 fb fz
    refine bodyPost_ret (v := .agg #[.int .i64 (st.first : Nat), .int .i64 (nextP st : Nat), .int .i64 (st.pdus : Nat), .int .i64 (st.bytes : Nat), .int .i64 0, .bool false, .int .i64 0, .bool st.owed, .int .i64 (st.done : Nat), .bool st.failed]) ?_ rfl ?_
    · rw [results_cell1 rfl]
      have e0 := HF.out.cell 0
      have e1 := HF.out.cell 1
      have e2 := HF.out.cell 2
      have e3 := HF.out.cell 3
      have e4 := HF.out.cell 4
      have e5 := HF.out.cell 5
      have e6 := HF.out.cell 6
      have e7 := HF.out.cell 7
      have e8 := HF.out.cell 8
      have e9 := HF.out.cell 9
      go_simp
      done
    · exact ⟨by rw [HST.out], HE.out⟩
  | true =>
    rw [hwt] at hbk y16
    have hst : stV st = #[.int .i64 (st.first : Nat), .int .i64 (nextP st : Nat), .int .i64 (st.pdus : Nat), .int .i64 (st.bytes : Nat), .int .i64 (st.polled : Nat), .bool true, .int .i64 st.expiry, .bool st.owed, .int .i64 (st.done : Nat), .bool st.failed] := by unfold stV; rw [hwt]; rfl
    have HST := Lib.hid hst
    have HBK := Lib.hid hbk
    have b4 := hbk.cell 4
    have b6 := hbk.cell 6
    have f4 := hbk.frozen 4
    have f6 := hbk.frozen 6
    simp at b4 b6
    clear hst hwt hbk hbb HS HN0 HNX HZ2
    go_wp2_with fail
    go_region
    all_goals
      go_upto_region 6 with (fail)
      have hbb2 := ((HBB.out.setCell (p := ⟨b, 4, none⟩) (by show w0.heap.size ≤ b; omega) (.int .i64 (st.polled : Nat))).setCell (p := ⟨b, 6, none⟩) (by show w0.heap.size ≤ b; omega) (.int .i64 st.expiry)).drew
      have hb2 := ((HBK.out.set_ 4 (.int .i64 (st.polled : Nat))).set_ 6 (.int .i64 st.expiry)).drew
      simp at hb2
      clear y15 y16 y17 b4 b6 f4 f6
      generalize ((wc.setCell ⟨b, 4, none⟩ (.int .i64 (st.polled : Nat))).setCell ⟨b, 6, none⟩ (.int .i64 st.expiry)).drew = wd at *
      have hZ3 := HZ.out.below hbb2 HZ.out.lt
      have HZ3 := Lib.hid hZ3
      have HBB2 := Lib.hid (HB.out.trans (hbb2.mono HB.out.size))
      have b0 := hb2.cell 0
      have b1 := hb2.cell 1
      have b2 := hb2.cell 2
      have b3 := hb2.cell 3
      have b4 := hb2.cell 4
      have b5 := hb2.cell 5
      have b6 := hb2.cell 6
      have b7 := hb2.cell 7
      have b8 := hb2.cell 8
      have b9 := hb2.cell 9
      have fb := hb2.frozen
      simp at b0 b1 b2 b3 b4 b5 b6 b7 b8 b9
      have z0 := hZ3.cell 0
      have z1 := hZ3.cell 1
      have z2 := hZ3.cell 2
      have z3 := hZ3.cell 3
      have z4 := hZ3.cell 4
      have z5 := hZ3.cell 5
      have z6 := hZ3.cell 6
      have z7 := hZ3.cell 7
      have z8 := hZ3.cell 8
      have z9 := hZ3.cell 9
      have fz := hZ3.frozen
      simp at z0 z1 z2 z3 z4 z5 z6 z7 z8 z9
      clear hb2 hZ3 hbb2
      go_wp2
      have hz := ((((((((((HZ3.out.set_ 0 (.int .i64 (st.first : Nat))).set_ 1 (.int .i64 (nextP st : Nat))).set_ 2 (.int .i64 (st.pdus : Nat))).set_ 3 (.int .i64 (st.bytes : Nat))).set_ 4 (.int .i64 (st.polled : Nat))).set_ 5 (.bool true)).set_ 6 (.int .i64 st.expiry)).set_ 7 (.bool st.owed)).set_ 8 (.int .i64 (st.done : Nat))).set_ 9 (.bool st.failed))
      simp at hz
      have HF := Lib.hid hz
      have HE := Lib.hid ((((((((((HBB2.out.setCell (p := ⟨w.heap.size, 0, none⟩) (Nat.le_refl _) (.int .i64 (st.first : Nat))).setCell (p := ⟨w.heap.size, 1, none⟩) (Nat.le_refl _) (.int .i64 (nextP st : Nat))).setCell (p := ⟨w.heap.size, 2, none⟩) (Nat.le_refl _) (.int .i64 (st.pdus : Nat))).setCell (p := ⟨w.heap.size, 3, none⟩) (Nat.le_refl _) (.int .i64 (st.bytes : Nat))).setCell (p := ⟨w.heap.size, 4, none⟩) (Nat.le_refl _) (.int .i64 (st.polled : Nat))).setCell (p := ⟨w.heap.size, 5, none⟩) (Nat.le_refl _) (.bool true)).setCell (p := ⟨w.heap.size, 6, none⟩) (Nat.le_refl _) (.int .i64 st.expiry)).setCell (p := ⟨w.heap.size, 7, none⟩) (Nat.le_refl _) (.bool st.owed)).setCell (p := ⟨w.heap.size, 8, none⟩) (Nat.le_refl _) (.int .i64 (st.done : Nat))).setCell (p := ⟨w.heap.size, 9, none⟩) (Nat.le_refl _) (.bool st.failed))
      clear hz b0 b1 b2 b3 b4 b5 b6 b7 b8 b9 z0 z1 z2 z3 z4 z5 z6 z7 z8 z9 fb fz
      refine bodyPost_ret (v := .agg #[.int .i64 (st.first : Nat), .int .i64 (nextP st : Nat), .int .i64 (st.pdus : Nat), .int .i64 (st.bytes : Nat), .int .i64 (st.polled : Nat), .bool true, .int .i64 st.expiry, .bool st.owed, .int .i64 (st.done : Nat), .bool st.failed]) ?_ rfl ?_
      · rw [results_cell1 rfl]
        have e0 := HF.out.cell 0
        have e1 := HF.out.cell 1
        have e2 := HF.out.cell 2
        have e3 := HF.out.cell 3
        have e4 := HF.out.cell 4
        have e5 := HF.out.cell 5
        have e6 := HF.out.cell 6
        have e7 := HF.out.cell 7
        have e8 := HF.out.cell 8
        have e9 := HF.out.cell 9
        go_simp
        done
      · exact ⟨by rw [HST.out], HE.out⟩
end
end Go.Proofs.YtmiipkaobloedaaGreat
namespace Go.Proofs.YtmiipkaobloedaaGreat
open Go.RowKit Go.Shelf
attribute [local go_sem] Oper.semAt_some
/-- what Pending gives -/
def pendL (l : List Ou) : List (Nat × Nat) := (l.filter (fun x => decide (0 < rangeB x.pend))).map (fun x => (x.sn, rangeB x.pend))
theorem pendL_take {l : List Ou} {k : Nat} {x : Ou} (hx : l[k]? = some x) : pendL (l.take (k + 1)) = pendL (l.take k) ++ (if 0 < rangeB x.pend then [(x.sn, rangeB x.pend)] else []) := by
  unfold pendL
  rw [List.take_add_one, hx]
  simp only [Option.toList, List.filter_append, List.map_append]
  congr 1
  by_cases h : 0 < rangeB x.pend
  · simp [h]
  · simp [h]
theorem pendL_len (l : List Ou) : (pendL l).length ≤ l.length := by
  unfold pendL
  rw [List.length_map]
  exact List.length_filter_le _ _
theorem rangeB_take {l : List (Nat × Nat)} {k : Nat} {r : Nat × Nat} (hr : l[k]? = some r) : rangeB (l.take (k + 1)) = rangeB (l.take k) + (r.2 + 1 - r.1) := by
  unfold rangeB
  rw [List.take_add_one, hr]
  simp
theorem rangeB_le {l : List (Nat × Nat)} {s : Nat} (h : ∀ r ∈ l, r.1 ≤ r.2 ∧ r.2 < s) : rangeB l ≤ l.length * s := by
  induction l with
  | nil => simp [rangeB]
  | cons r t ih =>
    have h1 := h r (by simp)
    have h2 := ih (fun q hq => h q (by simp [hq]))
    simp only [rangeB, List.map_cons, List.sum_cons, List.length_cons] at *
    rw [Nat.succ_mul]
    omega
theorem rangeB_mono (l : List (Nat × Nat)) (k : Nat) : rangeB (l.take k) ≤ rangeB l := by
  have e : rangeB l = rangeB (l.take k) + rangeB (l.drop k) := by
    unfold rangeB
    rw [← List.sum_append, ← List.map_append, List.take_append_drop]
  omega
theorem sp_snd {w : World} {ar : Addr} {j : Nat} {u : Value} (h : w.cell? (ar.add (j * 2 + 1)) = some u) : w.cell? ⟨(ar.add (j * 2)).block, (ar.add (j * 2)).off + 1, none⟩ = some u := by
  rcases Nat.eq_zero_or_pos j with rfl | hj
  · simpa [Addr.add] using h
  · have hne : j * 2 ≠ 0 := by omega
    simpa [Addr.add, hne, Nat.add_assoc] using h
theorem World.ownsRow.drew' {w : World} {b : Nat} {t : TypeId} {s : Nat} {v : Value} {n : Nat} {xs : List Value} (h : w.ownsRow b t s v n xs) : w.drew.ownsRow b t s v n xs := h
section
variable {D F : Nat → Prop} {g : Nat} {c : Cf} {st : Sd} {vq vo : Value} {vs os : List Value} {w : World}
/-- what Pending gives in memory -/
def PdOut (w : World) (l : List (Nat × Nat)) (e : Ending) (w' : World) : Prop :=
  ∃ b A cc, e = .returned (.func (.func 65) #[] #[.pointer (some ⟨b, 0, none⟩)]) ∧ Blk w' b 80 #[.slice A l.length cc] ∧ SpAt w' A l.length cc l ∧ w.heap.size ≤ b ∧ (∀ ad, A = some ad → w.heap.size ≤ ad.block ∧ ad.block < w'.heap.size) ∧ Below w.heap.size w w'
set_option maxRecDepth 10000 in
set_option maxHeartbeats 1000000 in
theorem spendgs_any (h : AmS w D F g c st vq vs vo os) (ht : 1 ≤ c.timer) (hw : st.out.length ≤ 512) (ho : ∀ x ∈ st.out, OuOk x) :
    Calls Tryz.prog 37 #[.pointer (some ⟨g, 0, none⟩)] w (PdOut w (pendL st.out)) := by
  have HL0 := Lib.hid (Blk.new w 80 #[.slice none 0 0])
  have HB0 := Lib.hid ((Below.refl w.heap.size w).alloc (Nat.le_refl _) (.cells #[.slice none 0 0] 80))
  have HZ0 := Lib.hid (show (w.alloc (.cells #[.slice none 0 0] 80)).heap.size = w.heap.size + 1 by simp)
  obtain ⟨Ao, co, rfl, hso⟩ := h.osl
  have hocap := hso.cap
  have homx := hso.mx
  obtain ⟨r, hr⟩ : ∃ r : Int, (if st.failed = true then 8 else 0) = r := ⟨_, rfl⟩
  have dr : (r != 1) = true := by rw [← hr]; cases st.failed <;> rfl
  have HH := Lib.hid h
  have HOO := Lib.hid ho
  have HR := Lib.hid hr
  obtain ⟨i0, hi, hz0, hz1, hzb⟩ := sp_parts
  clear h hso hr ho
  go_enter Tryz.func37, Tryz.ntmps37
  go_wp2_with fail
  generalize w.alloc (.cells #[.slice none 0 0] 80) = w0 at *
  have HA0 := Lib.hid (HH.out.below HB0.out)
  have HCH := Lib.hid (scheck_any HA0.out ht)
  rw [HR.out] at HCH
  refine HCH.out.mono ?_
  rintro e1 w1 ⟨rfl, rfl⟩
  have y12 := HA0.out.blk.cell 12
  simp [sndC] at y12
  go_wp2_with fail
  clear HCH y12
  have hl0w : w.heap.size < w0.heap.size := HL0.out.lt
  go_loopw [17] (fun i wr => ∃ k : Nat, k ≤ st.out.length ∧ i = .int .i64 k ∧ ∃ v, wr.ownsRow w0.heap.size 93 2 v (pendL (st.out.take k)).length (spC (pendL (st.out.take k))) ∧ Blk wr w.heap.size 80 #[v] ∧ Below w.heap.size w wr ∧ w0.heap.size ≤ wr.heap.size) (fun i _ => st.out.length - (intOf i).toNat)
  case atStart => exact ⟨0, Nat.zero_le _, rfl, .slice none 0 0, World.ownsRow_nil _ _ _ _, HL0.out, HB0.out, Nat.le_refl _⟩
  case round =>
    obtain ⟨k, hk, rfl, v, hrow, hl, hb, hzz⟩ := hrel
    obtain ⟨Av, cv, rfl, hspv, hblv⟩ := SpAt.of_own hrow
    by_cases hlt : k < st.out.length
    · obtain ⟨x, hx⟩ : ∃ x, st.out[k]? = some x := ⟨_, List.getElem?_eq_getElem hlt⟩
      have hA := HH.out.below hb
      obtain ⟨p, Ap, cp, vp, Ar, cr, he, ho⟩ := hA.oe k x hx
      obtain ⟨A2, c2, e2, hso⟩ := hA.osl
      injection e2 with e3 e4 e5
      subst e3 e5
      obtain ⟨ad, u, rfl, hbd, hu, hc⟩ := hso.get hlt
      rw [he] at hu
      cases hu
      have z10 := ho.blk.cell 10
      simp [ouC] at z10
      have hox := HOO.out x (List.mem_of_getElem? hx)
      have hrl := hox.pl
      have hsz := ouOk_size hox
      have hrb := rangeB_le hox.pr
      have hrb2 : rangeB x.pend ≤ 1000 * 32767 := Nat.le_trans hrb (Nat.mul_le_mul hrl hsz.2)
      have HPT := Lib.hid (pendL_take hx)
      have HPL := Lib.hid (pendL_len (st.out.take k))
      have hrc := ho.rs.cap
      have hrm := ho.rs.mx
      have HRS := Lib.hid ho.rs
      have HPB := Lib.hid ho.blk
      have HPR := Lib.hid hox.pr
      have HX := Lib.hid hx
      have HROW := Lib.hid hrow
      have HL := Lib.hid hl
      have HB := Lib.hid hb
      clear hA ho hso hx he hox hrb hrow hl hb e4 hspv hblv
      go_upto_block 2 with (fail)
      clear hc
      go_cut [6] from 21 to 38 (fun s6 wx => s6 = .int .i64 (rangeB x.pend : Nat) ∧ Below wr.heap.size wr wx)
      case first =>
        go_wp2_with fail
        go_loopw [6, 26] (fun s i wq => ∃ j : Nat, j ≤ x.pend.length ∧ i = .int .i64 j ∧ s = .int .i64 (rangeB (x.pend.take j) : Nat) ∧ Below wr.heap.size wr wq) (fun _ i _ => x.pend.length - (intOf i).toNat)
        case atStart => exact ⟨0, Nat.zero_le _, rfl, by simp [rangeB], Below.refl _ _⟩
        case round =>
          obtain ⟨j, hj, rfl, rfl, hbq⟩ := hrel
          by_cases hjl : j < x.pend.length
          · obtain ⟨rr, hrr⟩ : ∃ rr, x.pend[j]? = some rr := ⟨_, List.getElem?_eq_getElem hjl⟩
            obtain ⟨ar, rfl, hab, hcl⟩ := (HRS.out.below hbq).at_ (by omega)
            obtain ⟨k0, k1⟩ := hcl j rr hrr
            obtain ⟨h1, h2⟩ := HPR.out rr (List.mem_of_getElem? hrr)
            have hm1 := rangeB_mono x.pend (j + 1)
            have ht1 := rangeB_take hrr
            obtain ⟨ra, rb⟩ := rr
            dsimp only at k0 k1 h1 h2 ht1
            generalize rangeB (x.pend.take j) = S at *
            have hS : S + (rb + 1 - ra) ≤ 1000 * 32767 := by omega
            have hw1 : IntKind.i64.wrap ((rb : Int) - (ra : Int)) = (rb : Int) - (ra : Int) := IntWalk.i64_in _ (by omega)
            have hw2 : IntKind.i64.wrap ((rb : Int) - (ra : Int) + 1) = (rb : Int) - (ra : Int) + 1 := IntWalk.i64_in _ (by omega)
            have hw3 : IntKind.i64.wrap ((S : Int) + ((rb : Int) - (ra : Int) + 1)) = (S : Int) + ((rb : Int) - (ra : Int) + 1) := IntWalk.i64_in _ (by omega)
            have HT := Lib.hid ht1
            have HBQ := Lib.hid hbq
            replace k1 := sp_snd k1
            clear hm1 ht1 hcl hrr hbq
            go_wp2
            go_round
            case rel =>
              refine ⟨j + 1, by omega, by go_num, ?_, bAl HBQ.out _⟩
              rw [HT.out]
              congr 1
              omega
            case measure => simp [intOf]; omega
          · have e : x.pend.take j = x.pend := List.take_of_length_le (by omega)
            rw [e]
            have HBQ := Lib.hid hbq
            clear e hbq
            go_wp2
            go_meet
            exact ⟨rfl, HBQ.out⟩
      case rest =>
      obtain ⟨rfl, hbq⟩ := hcut
      have HB2 := Lib.hid (HB.out.trans (hbq.mono HB.out.size))
      have HL2 := Lib.hid (HL.out.below hbq HL.out.lt)
      have HPB2 := Lib.hid (HPB.out.below hbq HPB.out.lt)
      have HROW2 := Lib.hid (own_below HROW.out hbq (Nat.le_refl _))
      have hz2 : w0.heap.size ≤ wc.heap.size := Nat.le_trans hzz hbq.size
      clear hbq z10
      generalize rangeB x.pend = S at *
      by_cases hS : 0 < S
      · have hd : decide (0 < S) = true := decide_eq_true hS
        have HS := Lib.hid hS
        clear hS
        go_wp2_with fail
        have l0 := HL2.out.cell 0
        have z0 := HPB2.out.cell 0
        have hll := HL2.out.lt
        have hpl := HPB2.out.lt
        have hkl := HPL.out
        rw [List.length_take] at hkl
        simp [ouC] at l0 z0
        have HRNE := Lib.hid (show ∀ j, Value.ownBlock (.slice Av (pendL (st.out.take k)).length cv) = some j → j = w.heap.size → False from fun j hj e => by have := (HROW2.out.lt j hj).1; omega)
        refine wp_region_E (fun w' => w'.cell? ⟨w.heap.size, 0, none⟩ = some (.slice Av (pendL (st.out.take k)).length cv) ∧ w'.cell? ⟨p, 0, none⟩ = some (.int .i64 (x.sn : Nat))) [9, 10] (by kernel_rfl) ?_
        have hHeld := (show (fun w' => w'.cell? ⟨w.heap.size, 0, none⟩ = some (.slice Av (pendL (st.out.take k)).length cv) ∧ w'.cell? ⟨p, 0, none⟩ = some (.int .i64 (x.sn : Nat))) wc.drew from ⟨l0, z0⟩)
        refine wpAnyE_take [9, 10] (i := 0) (v := ?_) rfl (by kernel_rfl) (by kernel_rfl) (by kernel_rfl) (by kernel_rfl) (fun _ _ _ h => h) (Or.inl ⟨by rfl, ?_⟩) hHeld ?_
        rotate_left
        · intro w' hSw
          obtain ⟨hS1, hS2⟩ := hSw
          go_simp
          try with_reducible rfl
        try simp only [Act.put, List.getElem_toArray, List.getElem_cons_zero, List.setIfInBounds_toArray, List.set_cons_zero, List.set_cons_succ]
        refine wpAnyE_takeY (i := 1) (v := ?_) rfl (by kernel_rfl) (by kernel_rfl) (by kernel_rfl) (by kernel_rfl) (fun _ _ _ h => h) (Or.inl ⟨by rfl, ?_⟩) hHeld ?_
        rotate_left
        · intro w' hSw
          go_simp
          try with_reducible rfl
        try simp only [Act.put, List.getElem_toArray, List.getElem_cons_zero, List.getElem_cons_succ, List.setIfInBounds_toArray, List.set_cons_zero, List.set_cons_succ]
        refine wpAnyE_takeY (i := 2) (v := ?_) rfl (by kernel_rfl) (by kernel_rfl) (by kernel_rfl) (by kernel_rfl) (fun _ _ _ h => h) (Or.inl ⟨by rfl, ?_⟩) hHeld ?_
        rotate_left
        · intro w' hSw
          go_simp
          try with_reducible rfl
        try simp only [Act.put, List.getElem_toArray, List.getElem_cons_zero, List.getElem_cons_succ, List.setIfInBounds_toArray, List.set_cons_zero, List.set_cons_succ]
        refine wpAnyE_takeY (i := 3) (v := ?_) rfl (by kernel_rfl) (by kernel_rfl) (by kernel_rfl) (by kernel_rfl) (fun _ _ _ h => h) (Or.inl ⟨by rfl, ?_⟩) hHeld ?_
        rotate_left
        · intro w' hSw
          go_simp
          try with_reducible rfl
        try simp only [Act.put, List.getElem_toArray, List.getElem_cons_zero, List.getElem_cons_succ, List.setIfInBounds_toArray, List.set_cons_zero, List.set_cons_succ]
        refine wpAnyE_takeY (i := 4) (v := ?_) rfl (by kernel_rfl) (by kernel_rfl) (by kernel_rfl) (by kernel_rfl) (fun _ _ _ h => h) (Or.inl ⟨by rfl, ?_⟩) hHeld ?_
        rotate_left
        · intro w' hSw
          go_simp
          try with_reducible rfl
        try simp only [Act.put, List.getElem_toArray, List.getElem_cons_zero, List.getElem_cons_succ, List.setIfInBounds_toArray, List.set_cons_zero, List.set_cons_succ]
        refine wpAnyE_take [7, 8, 9, 10] (i := 5) (v := ?_) rfl (by kernel_rfl) (by kernel_rfl) (by kernel_rfl) (by kernel_rfl) (fun _ _ _ h => h) (Or.inl ⟨by rfl, ?_⟩) hHeld ?_
        rotate_left
        · intro w' hSw
          obtain ⟨hS1, hS2⟩ := hSw
          go_simp
          try with_reducible rfl
        try simp only [Act.put, List.getElem_toArray, List.getElem_cons_zero, List.getElem_cons_succ, List.setIfInBounds_toArray, List.set_cons_zero, List.set_cons_succ]
        refine wpAnyE_takeY (i := 6) (v := ?_) rfl (by kernel_rfl) (by kernel_rfl) (by kernel_rfl) (by kernel_rfl) (fun _ _ _ h => h) (Or.inl ⟨by rfl, ?_⟩) hHeld ?_
        rotate_left
        · intro w' hSw
          go_simp
          try with_reducible rfl
        try simp only [Act.put, List.getElem_toArray, List.getElem_cons_zero, List.getElem_cons_succ, List.setIfInBounds_toArray, List.set_cons_zero, List.set_cons_succ]
        refine wpAnyE_takeY (i := 7) (v := ?_) rfl (by kernel_rfl) (by kernel_rfl) (by kernel_rfl) (by kernel_rfl) (fun _ _ _ h => h) (Or.inl ⟨by rfl, ?_⟩) hHeld ?_
        rotate_left
        · intro w' hSw
          go_simp
          try with_reducible rfl
        try simp only [Act.put, List.getElem_toArray, List.getElem_cons_zero, List.getElem_cons_succ, List.setIfInBounds_toArray, List.set_cons_zero, List.set_cons_succ]
        refine wpAnyE_oneS (i := 8) rfl (by kernel_rfl) (by rfl) (fun K hK => ?_)
        go_simp
        have hbA := (Below.refl wc.heap.size wc).drew.alloc (by simp) (.cells #[.int .i64 (x.sn : Nat), .int .i64 (S : Nat)] 93)
        have q0 : (wc.drew.alloc (.cells #[.int .i64 (x.sn : Nat), .int .i64 (S : Nat)] 93)).cell? ⟨w.heap.size, 0, none⟩ = some (.slice Av (pendL (st.out.take k)).length cv) := (hbA.cell (p := ⟨w.heap.size, 0, none⟩) hll).trans l0
        have q1 : (wc.drew.alloc (.cells #[.int .i64 (x.sn : Nat), .int .i64 (S : Nat)] 93)).cell? ⟨p, 0, none⟩ = some (.int .i64 (x.sn : Nat)) := (hbA.cell (p := ⟨p, 0, none⟩) hpl).trans z0
        refine hK _ _ (And.intro q0 q1) ?_
        clear hK K hHeld
        have hHeld := (And.intro q0 q1)
        try simp only [Act.put, List.getElem_toArray, List.getElem_cons_zero, List.getElem_cons_succ, List.setIfInBounds_toArray, List.set_cons_zero, List.set_cons_succ]
        refine wpAnyE_one (i := 9) rfl (by kernel_rfl) (by kernel_rfl) (by rfl) (fun K hK => ?_)
        refine wp_append_sp _ (.tmp 41) (.tmp 49) 80 rfl w0.heap.size 93 i0 (.agg #[.int .i64 0, .int .i64 0]) 16 sp_und hi hz0 hz1 hzb rfl (.slice Av (pendL (st.out.take k)).length cv) _ _ rfl (HROW2.out.drew'.alloc _) (some ⟨wc.heap.size, 0, none⟩) 1 1 [(x.sn, S)] rfl (sp_one wc.drew (x.sn, S)) (by unfold maxLen; omega) (by omega) (by simp; omega) ?_
        intro v5 w5 hown5 hgrow5 hv5
        have hfm : w5.ownsRow w0.heap.size 93 2 v5 (pendL (st.out.take k) ++ [(x.sn, S)]).length (spC (pendL (st.out.take k) ++ [(x.sn, S)])) := by
          rw [List.length_append, spC_app]
          exact hown5
        obtain ⟨A5, c5, rfl, -, -⟩ := SpAt.of_own hfm
        have hL5 : Blk w5 w.heap.size 80 #[.slice Av (pendL (st.out.take k)).length cv] := (HL2.out.drew.alloc _).grown hgrow5 (fun e => HRNE.out _ e.symm rfl)
        have q5 := hL5.cell 0
        have r5 := hL5.frozen 0
        simp at q5
        have HFM := Lib.hid hfm
        have HL5 := Lib.hid hL5
        have HB5 := Lib.hid ((bAl HB2.out.drew (.cells #[.int .i64 (x.sn : Nat), .int .i64 (S : Nat)] 93)).grown hgrow5 (by have := HB2.out.size; simp; omega) (fun j hj => Nat.le_of_lt (Nat.lt_of_lt_of_le hl0w (HROW2.out.lt j hj).1)))
        have hz5 : w0.heap.size ≤ w5.heap.size := by have := hgrow5.size; simp at this; omega
        clear hown5 hgrow5 hv5 hfm hL5
        refine hK _ _ ?_
        clear hK K
        try simp only [Act.put, List.getElem_toArray, List.getElem_cons_zero, List.getElem_cons_succ, List.setIfInBounds_toArray, List.set_cons_zero, List.set_cons_succ]
        refine wpAnyE_one (i := 10) rfl (by kernel_rfl) (by kernel_rfl) (by rfl) (fun K hK => ?_)
        go_simp
        refine hK _ _ ?_
        clear hK K
        try simp only [Act.put, List.getElem_toArray, List.getElem_cons_zero, List.getElem_cons_succ, List.setIfInBounds_toArray, List.set_cons_zero, List.set_cons_succ]
        refine wpAnyE_done (by kernel_rfl) ?_ _
        go_wp2
        go_round
        case rel =>
          refine ⟨k + 1, by omega, by go_num, .slice A5 ((pendL (st.out.take k)).length + 1) c5, ?_, ?_, ?_, ?_⟩
          · rw [HPT.out, if_pos HS.out]
            have hq := HFM.out
            simp only [List.length_append, List.length_cons, List.length_nil, Nat.zero_add] at hq ⊢
            exact ownsRow_setCell_other hq (fun e => by have := (hq.lt _ e).1; have e3 : (⟨w.heap.size, 0, none⟩ : Addr).block = w.heap.size := rfl; omega) _
          · simpa using HL5.out.set_ 0 (.slice A5 ((pendL (st.out.take k)).length + 1) c5)
          · exact HB5.out.setCell (p := ⟨w.heap.size, 0, none⟩) (Nat.le_refl _) _
          · simpa [World.setCell] using hz5
        case measure => simp [intOf]; omega
      · have hd : decide (0 < S) = false := decide_eq_false hS
        have HS := Lib.hid hS
        clear hS
        go_wp2
        go_round
        case rel =>
          refine ⟨k + 1, by omega, by go_num, _, ?_, HL2.out, HB2.out, hz2⟩
          rw [HPT.out, if_neg HS.out, List.append_nil]
          exact HROW2.out
        case measure => simp [intOf]; omega
    · have e : st.out.take k = st.out := List.take_of_length_le (by omega)
      rw [e] at hrow hl hspv
      have l0 := hl.cell 0
      simp at l0
      have HL := Lib.hid hl
      have HSP := Lib.hid hspv
      have HB := Lib.hid hb
      have HBL := Lib.hid hblv
      clear e hl hspv hb hblv hrow
      go_wp2
      go_ret
      exact ⟨w.heap.size, Av, cv, rfl, HL.out, HSP.out, Nat.le_refl _, fun ad e => ⟨by have := (HBL.out ad e).1; omega, (HBL.out ad e).2⟩, HB.out⟩
end
end Go.Proofs.YtmiipkaobloedaaGreat
namespace Go.Proofs.YtmiipkaobloedaaGreat
open Go.RowKit Go.Shelf
attribute [local go_sem] Oper.semAt_some
theorem SpAt.kept {w w' : World} {A : Option Addr} {n c : Nat} {l : List (Nat × Nat)} {M : Nat → Obj → Prop} (h : SpAt w A n c l) (hk : Kept M w w') (hM : ∀ ad, A = some ad → ∀ o, ¬ M ad.block o) (hlt : ∀ ad, A = some ad → ad.block < w.heap.size) : SpAt w' A n c l :=
  h.stay fun ad e => by
    have h1 := Array.getElem?_eq_getElem (hlt ad e)
    rw [hk.same _ _ h1 (hM ad e _), h1]
/-- the values that the iterator gives -/
def pdVals (l : List (Nat × Nat)) (k : Nat) : Array Value := match l[k]? with
  | some x => #[.int .i64 (x.1 : Nat), .int .i64 (x.2 : Nat)]
  | none => #[undef, undef]
set_option maxRecDepth 100000 in
set_option maxHeartbeats 2000000 in
theorem pend1_ix (n : Nat) (b : Nat) (A : Option Addr) (N c : Nat) (l : List (Nat × Nat)) (M : Nat → Obj → Prop) (w : World)
    (hg : Blk w b 80 #[.slice A N c]) (hv : SpAt w A N c l) (hlo : ∀ ad, A = some ad → ad.block < w.heap.size) (hMv : ∀ ad, A = some ad → ∀ o, ¬ M ad.block o) :
    SeqIx n Tryz.prog 65 #[.pointer (some ⟨b, 0, none⟩)] (pdVals l) N (Kept M) w := fun p J W hW _ hJ hY h0 => by
  have hg' := hg.below hW hg.lt
  have hv' := hv.below hW
  have hlt' : ∀ ad, A = some ad → ad.block < W.heap.size := fun ad e => Nat.lt_of_lt_of_le (hlo ad e) hW.size
  have hvk : ∀ wr, Kept M W wr → SpAt wr A N c l := fun wr hk => hv'.kept hk hMv hlt'
  have HVK := Lib.hid hvk
  have HY := Lib.hid hY
  have HJ := Lib.hid hJ
  have hlen := hv.len
  have hcap := hv.cap
  have hmx := hv.mx
  have HL := Lib.hid hlen
  clear hvk hY hJ hlen
  refine callsIn_of_wp Tryz.func65 rfl trivial ?_ rfl
  simp only [Tryz.ntmps65, List.size_toArray, List.length_cons, List.length_nil, Nat.reduceAdd, Nat.reduceSub, Array.replicate_succ, Array.replicate_zero, List.push_toArray, List.append_toArray, List.nil_append, List.cons_append]
  have hcw := hg'.cell 0
  simp at hcw
  gi_wp2
  refine wpInW_scope ?_
  gi_wp2
  refine wpIn_label ?_
  gi_wp2
  gi_loopw [7] (fun i wr => ∃ k : Nat, k ≤ N ∧ i = .int .i64 k ∧ J k wr ∧ Kept M W wr) (fun i _ => N - (intOf i).toNat)
  case atStart => exact ⟨0, Nat.zero_le _, by simp, h0, Kept.refl _ _⟩
  case round =>
    obtain ⟨k, hk, rfl, hJs, hnx⟩ := hrel
    by_cases hlt : k < N
    · obtain ⟨x, hx⟩ : ∃ x, l[k]? = some x := ⟨_, List.getElem?_eq_getElem (by have := HL.out; omega)⟩
      have hvr := HVK.out wr hnx
      obtain ⟨ad, rfl, hadb, hcl⟩ := hvr.at_ (by omega)
      obtain ⟨k0, k1⟩ := hcl k x hx
      replace k1 := sp_snd k1
      clear hcl hvr
      have b1 := Blk.new wr 93 #[.int .i64 (x.1 : Nat), .int .i64 (x.2 : Nat)]
      have y0 : (wr.alloc (.cells #[.int .i64 (x.1 : Nat), .int .i64 (x.2 : Nat)] 93)).cell? ⟨wr.heap.size, 0, none⟩ = some (.int .i64 (x.1 : Nat)) := b1.cell 0
      have y1 : (wr.alloc (.cells #[.int .i64 (x.1 : Nat), .int .i64 (x.2 : Nat)] 93)).cell? ⟨wr.heap.size, 1, none⟩ = some (.int .i64 (x.2 : Nat)) := b1.cell 1
      have hbw : Below wr.heap.size wr (wr.alloc (.cells #[.int .i64 (x.1 : Nat), .int .i64 (x.2 : Nat)] 93)) := (Below.refl _ wr).alloc (Nat.le_refl _) _
      have hYk := HY.out k _ hlt (HJ.out.fresh k wr _ hJs hbw)
      have hnx2 : Kept M W (wr.alloc (.cells #[.int .i64 (x.1 : Nat), .int .i64 (x.2 : Nat)] 93)) := hnx.trans (Kept.ofBelow hbw)
      have HNX := Lib.hid hnx2
      have HX := Lib.hid hx
      unfold pdVals at hYk
      rw [hx] at hYk
      obtain ⟨fn, tmps, assign, body, hy, hR⟩ := hYk
      simp only [] at hy
      clear b1 hx hnx2 hbw hnx
      gi_wp2
      refine ⟨fun hh => (by cases hh), hR.mono ?_⟩
      rintro e W3 ⟨rfl, hJ3, hk3⟩
      gi_wp2
      go_roundw
      case rel => exact ⟨k + 1, by omega, by go_num, hJ3, HNX.out.trans hk3⟩
      case measure => simp [intOf]; omega
    · have e : k = N := by omega
      have hJs' : J N wr := by rw [e] at hJs; exact hJs
      clear e hJs
      gi_wp2
      unfold Exit.noGoto
      gi_wp2
      go_end0
      exact ⟨⟨_, rfl⟩, hJs'⟩
theorem pendL_sum : ∀ l : List Ou, ((pendL l).map (·.2)).sum = pendB l
  | [] => rfl
  | x :: r => by
    have ih := pendL_sum r
    unfold pendL pendB at *
    simp only [List.filter_cons, List.map_cons, List.sum_cons]
    by_cases h : 0 < rangeB x.pend
    · simp only [h, decide_true, if_true, List.map_cons, List.sum_cons]
      omega
    · have h0 : rangeB x.pend = 0 := by omega
      simp only [h, decide_false, Bool.false_eq_true, if_false]
      omega
/-- the sum of the first numbers -/
def sumTo (l : List (Nat × Nat)) (k : Nat) : Nat := ((l.take k).map (·.2)).sum
theorem sumTo_succ {l : List (Nat × Nat)} {k : Nat} {x : Nat × Nat} (h : l[k]? = some x) : sumTo l (k + 1) = sumTo l k + x.2 := by
  unfold sumTo
  rw [List.take_add_one, h]
  simp
theorem sumTo_le (l : List (Nat × Nat)) (k : Nat) : sumTo l k ≤ (l.map (·.2)).sum := by
  have e : (l.map (·.2)).sum = sumTo l k + ((l.drop k).map (·.2)).sum := by
    unfold sumTo
    rw [← List.sum_append, ← List.map_append, List.take_append_drop]
  omega
theorem pendB_le {l : List Ou} (h : ∀ x ∈ l, rangeB x.pend ≤ 32767000) : pendB l ≤ l.length * 32767000 := by
  induction l with
  | nil => simp [pendB]
  | cons x r ih =>
    have h1 := h x (by simp)
    have h2 := ih (fun q hq => h q (by simp [hq]))
    simp only [pendB, List.map_cons, List.sum_cons, List.length_cons] at *
    rw [Nat.succ_mul]
    omega
/-- memory between two rounds of Buffered: the cell of the sum -/
structure BfI (wc : World) (nc : Nat) (b0 : Int) (l : List (Nat × Nat)) (k : Nat) (W : World) : Prop where
  row : Blk W nc 3 #[.int .i64 (b0 + (sumTo l k : Nat))]
  kp : Kept (fun j _ => j = nc) wc W
theorem BfI.far {wc : World} {nc : Nat} {b0 : Int} {l : List (Nat × Nat)} (hlc : nc < wc.heap.size) : FarJ wc.heap.size (BfI wc nc b0 l) := by
  refine ⟨fun k A B row hs hg hr => ?_, fun k A B hs hb => ?_⟩
  · obtain ⟨hb, hk⟩ := hs
    refine ⟨hb.grown hg ?_, hk.grown hg (fun j e o ho => ?_)⟩
    · intro e
      have := (hr nc e.symm).1
      omega
    · have h1 := (hr j e).1
      have h2 := (Array.getElem?_eq_some_iff.1 ho).1
      omega
  · obtain ⟨hbk, hk⟩ := hs
    exact ⟨hbk.below hb hbk.lt, hk.trans (Kept.ofBelow hb)⟩
section
variable {D F : Nat → Prop} {g : Nat} {c : Cf} {st : Sd} {vq vo : Value} {vs os : List Value} {w : World}
set_option maxRecDepth 100000 in
set_option maxHeartbeats 2000000 in
theorem sbuffered_any (h : AmS w D F g c st vq vs vo os) (ht : 1 ≤ c.timer) (hsum : heldP st ≤ 1048576) (htk : st.taken ≤ heldP st) (hw : st.out.length ≤ 512) (ho : ∀ x ∈ st.out, OuOk x) :
    Calls Tryz.prog 13 #[.pointer (some ⟨g, 0, none⟩)] w fun e w' => e = .returned (.int .i64 (bufP st)) ∧ Below w.heap.size w w' := by
  have HCH := Lib.hid (scheck_any h ht)
  have HH := Lib.hid h
  obtain ⟨r, hr⟩ : ∃ r : Int, (if st.failed = true then 8 else 0) = r := ⟨_, rfl⟩
  have dr : (r == 1) = false := by rw [← hr]; cases st.failed <;> rfl
  rw [hr] at HCH
  have hhe : ∀ W, Below w.heap.size w W → Calls Tryz.prog 26 #[.pointer (some ⟨g, 0, none⟩)] W fun e w' => e = .returned (.int .i64 (heldP st : Nat)) ∧ W = w' := fun W hW => sheld_any (h.below hW) hsum
  have HHE := Lib.hid hhe
  have y10 := h.blk.cell 10
  simp [sndC] at y10
  have hgl := h.blk.lt
  have HS := Lib.hid (show ∀ W, Below w.heap.size w W → W.cell? ⟨g, 10, none⟩ = some (.int .i64 (st.taken : Nat)) from fun W hW => (hW.cell (p := ⟨g, 10, none⟩) hgl).trans y10)
  have HO := Lib.hid ho
  clear h hr hhe ho
  refine (callsIn_wide (n := 5)).1 ?_
  refine callsIn_of_wp_marks Tryz.func13 rfl trivial ?_ rfl
  simp only [Tryz.ntmps13, List.size_toArray, List.length_cons, List.length_nil, Nat.reduceAdd, Nat.reduceSub, Array.replicate_succ, Array.replicate_zero, List.push_toArray, List.append_toArray, List.nil_append, List.cons_append]
  refine (wpIn_wide (n := 5)).2 ?_
  go_wp2_with fail
  refine HCH.out.mono ?_
  rintro e1 w1 ⟨rfl, rfl⟩
  go_wp2_with fail
  have hsub : IntKind.i64.wrap ((heldP st : Int) - (st.taken : Int)) = (heldP st : Int) - (st.taken : Int) := IntWalk.i64_in _ (by omega)
  go_cut [3] from 9 to 15 (fun s3 wx => ∃ b, s3 = .pointer (some ⟨b, 0, none⟩) ∧ Blk wx b 3 #[.int .i64 ((heldP st : Int) - (st.taken : Int))] ∧ Below w.heap.size w wx ∧ w.heap.size ≤ b)
  case first =>
    have hb0 := Below.refl w.heap.size w
    refine wp_region_noPanic ?_
    go_region_held3 (fun W => W.cell? ⟨g, 10, none⟩ = some (.int .i64 (st.taken : Nat)))
      (first | (with_reducible (refine HS.out _ ?_; (repeat first | assumption | refine Below.drew ?_ | refine bAl ?_ _ | refine bSet ?_ _ _); done)) | go_keep)
      (first
        | (go_at_call 26; refine (HHE.out _ (by with_reducible (repeat first | assumption | refine Below.drew ?_ | refine bAl ?_ _ | refine bSet ?_ _ _))).mono ?_; rintro e7 w7 ⟨rfl, rfl⟩)
        | fail)
    all_goals
      try refine NoPanic.normal ?_
      go_wp2
      go_meet
      exact ⟨_, rfl, (Blk.new _ _ _).drew, ((Below.refl _ w).alloc (Nat.le_refl _) _).drew, Nat.le_refl _⟩
  case rest =>
  obtain ⟨b, rfl, hbk, hbb, hbl⟩ := hcut
  have HP := Lib.hid (spendgs_any (HH.out.below hbb) ht hw HO.out)
  have HBB := Lib.hid hbb
  have HBK := Lib.hid hbk
  clear hbb hbk
  go_wp2_with fail
  refine HP.out.mono ?_
  rintro e2 w2 ⟨pb, A, cc, rfl, k1, k2, k3, k4, k5⟩
  have HK1 := Lib.hid k1
  have HK2 := Lib.hid k2
  have HK4 := Lib.hid k4
  have HK5 := Lib.hid k5
  have HB2 := Lib.hid (HBK.out.below k5 HBK.out.lt)
  have hbw : b < wc.heap.size := HBK.out.lt
  have hz2 := k5.size
  clear k1 k2 k4 k5
  go_wp2_with fail
  obtain ⟨L, hL⟩ : ∃ L, pendL st.out = L := ⟨_, rfl⟩
  have hsumL : (L.map (·.2)).sum = pendB st.out := by rw [← hL]; exact pendL_sum _
  have hpb := pendB_le (l := st.out) (fun x hx => by
    have hox := HO.out x hx
    have h1 := rangeB_le hox.pr
    have h2 := ouOk_size hox
    exact Nat.le_trans h1 (Nat.mul_le_mul hox.pl h2.2))
  have hpb2 : pendB st.out ≤ 512 * 32767000 := Nat.le_trans hpb (Nat.mul_le_mul_right _ hw)
  rw [hL] at HK1 HK2
  obtain ⟨M, hM⟩ : ∃ M : Nat → Obj → Prop, M = fun k _ => k = b ∨ k = w2.heap.size + 1 := ⟨_, rfl⟩
  have hseq := pend1_ix 4 pb A L.length cc L M w2 HK1.out HK2.out (fun ad e => (HK4.out ad e).2) (by rw [hM]; rintro ad e o (h | h) <;> have := HK4.out ad e <;> omega)
  apply (wpIn_wide (n := 5)).1
  refine wpIn_range_ix (gf := 65) (lb := #[.pointer (some ⟨pb, 0, none⟩)]) rfl (enters_of Tryz.func65 (by kernel_rfl) rfl)
    hseq Kept.trans ?a3 (Below.refl _ _) (fun k => by unfold pdVals; split <;> rfl)
    (BfI w2 b ((heldP st : Int) - (st.taken : Int)) L) (BfI.far (by omega)) ?a5 ?a6 ?a7
  case a3 =>
    intro Wk o o' ho hc
    exact (Kept.refl _ Wk).grown (grownBy_putObj' Wk _ o') (fun j e _ _ => by cases e; rw [hM]; exact .inr rfl)
  case a5 => exact ⟨by simpa [sumTo] using HB2.out, Kept.refl _ _⟩
  case a7 =>
    rintro D' Wk hD ⟨hrow, hK⟩ hDk
    have hs : sumTo L L.length = pendB st.out := by unfold sumTo; rw [List.take_length]; exact hsumL
    rw [hs] at hrow
    have hbufe : bufP st = (heldP st : Int) - (st.taken : Int) + (pendB st.out : Int) := rfl
    rw [← hbufe] at hrow
    have l0 := hrow.cell 0
    simp at l0
    have hB2 : Below w.heap.size w (Wk.putObj D' (.deferred none)) := by
      have e1 := HBB.out.trans (HK5.out.mono HBB.out.size)
      have e2 : Below w.heap.size w2 Wk := hK.below (fun j _ hj => by omega) (by have := HBB.out.size; omega)
      exact (e1.trans e2).trans (Below.putObj (by have := HBB.out.size; omega) _)
    have HB2' := Lib.hid hB2
    have HDk := Lib.hid hDk
    clear hrow hK hDk hM hseq hB2 hs hbufe
    gi_wp2
    go_wp2
    refine ⟨by simp, .inl ⟨_, _, rfl, run_takeDeferred HDk.out, ?_⟩⟩
    exact ⟨.int .i64 (bufP st), by simp [results, Tryz.results13, go_sem], rfl, HB2'.out⟩
  case a6 =>
    rintro l' k Wk hk ⟨hrow, hK⟩ ⟨oR, hoR, hoC⟩
    obtain ⟨y, hy⟩ : ∃ y, L[k]? = some y := ⟨_, List.getElem?_eq_getElem hk⟩
    have hvv : pdVals L k = #[.int .i64 (y.1 : Nat), .int .i64 (y.2 : Nat)] := by unfold pdVals; rw [hy]
    rw [hvv]
    have hst := sumTo_succ hy
    have hle := sumTo_le L (k + 1)
    rw [hsumL] at hle
    have HST := Lib.hid hst
    have hrl := (Array.getElem?_eq_some_iff.1 hoR).1
    gi_wp2_with fail
    refine ⟨⟨Nat.le_refl _, fun _ _ _ h _ => h⟩, ?_⟩
    intro W3 o' hW3
    have hR3 : Blk W3 b 3 #[.int .i64 ((heldP st : Int) - (st.taken : Int) + (sumTo L k : Nat))] := by rw [hW3]; exact hrow.putObj (by omega) _
    have hK3 : Kept (fun j _ => j = b) w2 W3 := by
      rw [hW3]
      exact hK.grown (grownBy_putObj' Wk _ o') (fun j e o ho => by cases e; have := (Array.getElem?_eq_some_iff.1 ho).1; omega)
    have hM3 : Kept M Wk W3 := by
      rw [hW3]
      exact (Kept.refl _ Wk).grown (grownBy_putObj' Wk _ o') (fun j e _ _ => by cases e; rw [hM]; exact .inr rfl)
    generalize sumTo L k = S at *
    have hS2 : S + y.2 ≤ 512 * 32767000 := by omega
    have hw1 : IntKind.i64.wrap ((heldP st : Int) - (st.taken : Int) + (S : Int) + (y.2 : Int)) = (heldP st : Int) - (st.taken : Int) + ((S + y.2 : Nat) : Int) := by rw [IntWalk.i64_in _ (by omega)]; omega
    have n0 := hR3.cell 0
    have n1 := hR3.frozen 0
    simp at n0
    have HF := Lib.hid (show KeepsFrom w2.heap.size W3 (W3.setCell ⟨b, 0, none⟩ (.int .i64 ((heldP st : Int) - (st.taken : Int) + ((S + y.2 : Nat) : Int)))) ∧ Kept M Wk (W3.setCell ⟨b, 0, none⟩ (.int .i64 ((heldP st : Int) - (st.taken : Int) + ((S + y.2 : Nat) : Int)))) ∧ BfI w2 b ((heldP st : Int) - (st.taken : Int)) L (k + 1) (W3.setCell ⟨b, 0, none⟩ (.int .i64 ((heldP st : Int) - (st.taken : Int) + ((S + y.2 : Nat) : Int)))) from
      ⟨KeepsFrom.setBlk hR3 _, hM3.setCell (p := ⟨b, 0, none⟩) (fun _ _ => by rw [hM]; exact .inl rfl) _, ⟨by rw [HST.out]; simpa using hR3.set_ 0 (.int .i64 ((heldP st : Int) - (st.taken : Int) + ((S + y.2 : Nat) : Int))), hK3.setCell (p := ⟨b, 0, none⟩) (fun _ _ => rfl) _⟩⟩)
    clear hR3 hK3 hM3 hW3 hrow hK hoR hoC hM hseq hvv hy hst hle
    gi_wp2_with fail
    exact HF.out
end
end Go.Proofs.YtmiipkaobloedaaGreat
namespace Go.Proofs.YtmiipkaobloedaaGreat
open Go.RowKit Go.Shelf
attribute [local go_sem] Oper.semAt_some
/-- no transmitter: nil, or the zero value -/
def NoSnd (w : World) (v : Value) : Prop := v = .pointer none ∨ ∃ g, v = .pointer (some ⟨g, 0, none⟩) ∧ g < w.heap.size ∧ w.cell? ⟨g, 2, none⟩ = some (.int .i64 0)
section
variable {w w' : World} {v : Value}
theorem NoSnd.below (h : NoSnd w v) (hb : Below w.heap.size w w') : NoSnd w' v := by
  rcases h with rfl | ⟨g, rfl, hl, hc⟩
  · exact .inl rfl
  · exact .inr ⟨g, rfl, Nat.lt_of_lt_of_le hl hb.size, (hb.cell (p := ⟨g, 2, none⟩) hl).trans hc⟩
set_option maxRecDepth 10000 in
theorem ncheck_any (h : NoSnd w v) : Calls Tryz.prog 25 #[v] w fun e w' => e = .returned (.int .i64 1) ∧ w = w' := by
  rcases h with rfl | ⟨g, rfl, hl, hc⟩
  · go_enter Tryz.func25, Tryz.ntmps25
    go_wp2
    go_ret
    exact ⟨rfl, rfl⟩
  · go_enter Tryz.func25, Tryz.ntmps25
    go_wp2
    go_ret
    exact ⟨rfl, rfl⟩
set_option maxRecDepth 100000 in
theorem nsubmit_any (h : NoSnd w v) (A : Option Addr) (n c : Nat) : Calls Tryz.prog 10 #[v, .slice A n c] w fun e w' => e = .returned (.int .i64 1) ∧ Below w.heap.size w w' := by
  have HN := Lib.hid (ncheck_any h)
  clear h
  go_enter Tryz.func10, Tryz.ntmps10
  go_wp2_with (go_at_call 25; refine HN.out.mono ?_; rintro e1 w1 ⟨rfl, rfl⟩)
  go_ret
  exact ⟨rfl, Below.refl _ _⟩
set_option maxRecDepth 100000 in
theorem nbuf_any (h : NoSnd w v) : Calls Tryz.prog 13 #[v] w fun e w' => e = .returned (.int .i64 0) ∧ Below w.heap.size w w' := by
  have HN := Lib.hid (ncheck_any h)
  clear h
  go_enter Tryz.func13, Tryz.ntmps13
  go_wp2_with (go_at_call 25; refine HN.out.mono ?_; rintro e1 w1 ⟨rfl, rfl⟩)
  go_ret
  exact ⟨rfl, Below.refl _ _⟩
set_option maxRecDepth 100000 in
theorem nunconf_any (h : NoSnd w v) : Calls Tryz.prog 18 #[v] w fun e w' => e = .returned (.slice none 0 0) ∧ Below w.heap.size w w' := by
  have HN := Lib.hid (ncheck_any h)
  clear h
  go_enter Tryz.func18, Tryz.ntmps18
  go_wp2_with (go_at_call 25; refine HN.out.mono ?_; rintro e1 w1 ⟨rfl, rfl⟩)
  go_ret
  exact ⟨rfl, Below.refl _ _⟩
set_option maxRecDepth 100000 in
theorem ncopy_any (h : NoSnd w v) : Calls Tryz.prog 19 #[v] w fun e w' => e = .returned (.pointer none) ∧ Below w.heap.size w w' := by
  have HN := Lib.hid (ncheck_any h)
  clear h
  go_enter Tryz.func19, Tryz.ntmps19
  go_wp2_with (go_at_call 25; refine HN.out.mono ?_; rintro e1 w1 ⟨rfl, rfl⟩)
  go_ret
  exact ⟨rfl, Below.refl _ _⟩
set_option maxRecDepth 100000 in
theorem ntick_any (h : NoSnd w v) (now : Int) : Calls Tryz.prog 17 #[v, .int .i64 now] w fun e w' => e = .returned (.int .i64 1) ∧ Below w.heap.size w w' := by
  have hB := (Below.refl w.heap.size w).alloc (Nat.le_refl _) (.cells #[.int .i64 0] 26)
  have HN := Lib.hid (ncheck_any (h.below hB))
  clear h
  go_enter_defers Tryz.func17, Tryz.ntmps17
  go_wp2_with (go_at_call 25; refine HN.out.mono ?_; rintro e1 w1 ⟨rfl, rfl⟩)
  refine ⟨.int .i64 1, by simp [results, Tryz.results17, go_sem], rfl, ?_⟩
  exact (Below.refl _ w).alloc (Nat.le_refl _) _
set_option maxRecDepth 100000 in
theorem ngrant_any (h : NoSnd w v) (now n : Int) : Calls Tryz.prog 11 #[v, .int .i64 now, .int .i64 n] w fun e w' => e = .returned (.tuple #[.slice none 0 0, .int .i64 1]) ∧ Below w.heap.size w w' := by
  have hB := (Below.refl w.heap.size w).alloc (Nat.le_refl _) (.cells #[.int .i64 0] 26)
  have HN := Lib.hid (ncheck_any (h.below hB))
  clear h
  go_enter_defers Tryz.func11, Tryz.ntmps11
  go_wp2_with (go_at_call 25; refine HN.out.mono ?_; rintro e1 w1 ⟨rfl, rfl⟩)
  go_region
  go_wp2
  refine ⟨.tuple #[.slice none 0 0, .int .i64 1], by simp [results, Tryz.results11, go_sem], rfl, ?_⟩
  exact ((Below.refl _ w).alloc (Nat.le_refl _) _).drew
/-- what Status lays first, of any transmitter -/
theorem stw_pre (w : World) (v : Value) (ack : Int) (A : Option Addr) (n cc : Nat) : Below w.heap.size w (((w.alloc (.cells #[v] 25)).alloc (.cells #[.int .i64 ack, .slice A n cc] 41)).alloc (.cells #[.int .i64 0] 26)) :=
  (((Below.refl _ w).alloc (Nat.le_refl _) _).alloc (by simp) _).alloc (by simp; omega) _
set_option maxRecDepth 100000 in
theorem nstatus_any (h : NoSnd w v) (now ack : Int) (A : Option Addr) (n c : Nat) : Calls Tryz.prog 14 #[v, .int .i64 now, .agg #[.int .i64 ack, .slice A n c]] w fun e w' => e = .returned (.int .i64 1) ∧ Below w.heap.size w w' := by
  have HN := Lib.hid (ncheck_any (h.below (stw_pre w v ack A n c)))
  have HB := Lib.hid (stw_pre w v ack A n c)
  have he := Blk.new ((w.alloc (.cells #[v] 25)).alloc (.cells #[.int .i64 ack, .slice A n c] 41)) 26 #[.int .i64 0]
  have hs := ((Blk.new w 25 #[v]).alloc (.cells #[.int .i64 ack, .slice A n c] 41)).alloc (.cells #[.int .i64 0] 26)
  simp only [World.size_alloc] at he
  have HE := Lib.hid he
  have HS := Lib.hid hs
  have hvs : v.cells = #[v] := by rcases h with rfl | ⟨g, rfl, _, _⟩ <;> rfl
  rcases h with rfl | ⟨g, rfl, -, -⟩
  all_goals
    clear he hs hvs
    go_enter_defers Tryz.func14, Tryz.ntmps14
    go_wp2_with fail
    generalize ((w.alloc (.cells _ 25)).alloc (.cells #[.int .i64 ack, .slice A n c] 41)).alloc (.cells #[.int .i64 0] 26) = w0 at *
    have e0 := HE.out.cell 0
    have e1 := HE.out.frozen 0
    simp at e0
    refine HN.out.mono ?_
    rintro en w1 ⟨rfl, rfl⟩
    go_wp2
    have q := ((HE.out.set_ 0 (.int .i64 1)).set_ 0 (.int .i64 1)).cell 0
    simp at q
    refine ⟨.int .i64 1, by simp [results, Tryz.results14, go_sem, q], rfl, ?_⟩
    exact (HB.out.setCell (p := ⟨w.heap.size + 1 + 1, 0, none⟩) (by simp; omega) _).setCell (p := ⟨w.heap.size + 1 + 1, 0, none⟩) (by simp; omega) _
set_option maxRecDepth 10000 in
theorem npend_any (h : NoSnd w v) : Calls Tryz.prog 37 #[v] w (PdOut w []) := by
  have HL0 := Lib.hid (Blk.new w 80 #[.slice none 0 0])
  have HB0 := Lib.hid ((Below.refl w.heap.size w).alloc (Nat.le_refl _) (.cells #[.slice none 0 0] 80))
  have HN := Lib.hid (ncheck_any (h.below HB0.out))
  clear h
  go_enter Tryz.func37, Tryz.ntmps37
  go_wp2_with (go_at_call 25; refine HN.out.mono ?_; rintro e1 w1 ⟨rfl, rfl⟩)
  go_ret
  exact ⟨w.heap.size, none, 0, rfl, HL0.out, SpAt.nil _, Nat.le_refl _, (fun ad e => by cases e), HB0.out⟩
set_option maxRecDepth 10000 in
set_option maxHeartbeats 1000000 in
theorem nstate_any (h : NoSnd w v) : Calls Tryz.prog 12 #[v] w fun e w' => e = .returned (.agg (stV newSd)) ∧ Below w.heap.size w w' := by
  have hst : stV newSd = #[.int .i64 0, .int .i64 0, .int .i64 0, .int .i64 0, .int .i64 0, .bool false, .int .i64 0, .bool false, .int .i64 0, .bool false] := rfl
  rw [hst]
  have hB := (Below.refl w.heap.size w).alloc (Nat.le_refl _) (.cells #[.int .i64 0, .int .i64 0, .int .i64 0, .int .i64 0, .int .i64 0, .bool false, .int .i64 0, .bool false, .int .i64 0, .bool false] 35)
  have HN := Lib.hid (ncheck_any (h.below hB))
  clear h hst
  go_enter Tryz.func12, Tryz.ntmps12
  go_wp2_with (go_at_call 25; refine HN.out.mono ?_; rintro e1 w1 ⟨rfl, rfl⟩)
  refine bodyPost_ret (v := .agg #[.int .i64 0, .int .i64 0, .int .i64 0, .int .i64 0, .int .i64 0, .bool false, .int .i64 0, .bool false, .int .i64 0, .bool false]) ?_ rfl ?_
  · rw [results_cell1 rfl]
    go_simp
    done
  · exact ⟨rfl, hB⟩
end
end Go.Proofs.YtmiipkaobloedaaGreat
namespace Go.Proofs.YtmiipkaobloedaaGreat
open Go.RowKit Go.Shelf
attribute [local go_sem] Oper.semAt_some
theorem nil85 (lb : Array Value) (w : World) : (binOp .eql 85 (.func (.func 65) #[] lb) .nilFunc).run Tryz.prog w = .ok (.bool false) w := by kernel_rfl
/-- the boolean true, in more memory -/
def TrueW (w : World) (e : Ending) (w' : World) : Prop := e = .returned (.bool true) ∧ Below w.heap.size w w'
/-- what is so of a world as long as only what lies behind it turns -/
theorem far_below (w0 : World) (B : Nat) (hB : w0.heap.size ≤ B) : FarJ B (fun _ X => Below w0.heap.size w0 X) where
  own := fun _ _ _ _ hs hg hr => hs.grown hg hs.size (fun r e => Nat.le_trans hB (hr r e).1)
  fresh := fun _ _ _ hs hb => hs.trans (hb.mono hs.size)
set_option maxRecDepth 100000 in
set_option maxHeartbeats 2000000 in
theorem over35_none {v : Value} {w : World} (hP : ∀ W, Below w.heap.size w W → Calls Tryz.prog 37 #[v] W (PdOut W [])) :
    Calls Tryz.prog 15 #[v, .slice none 0 0, .int .i64 9] w (TrueW w) := by
  have hba : Below w.heap.size w (((w.alloc (.cells #[.slice none 0 0] 80)).alloc (.cells #[.int .i64 9] 3)).alloc (.cells #[.bool false] 4)) := (((Below.refl _ w).alloc (Nat.le_refl _) _).alloc (by simp) _).alloc (by simp; omega) _
  have hp := hP _ hba
  have b4 : Blk (((w.alloc (.cells #[.slice none 0 0] 80)).alloc (.cells #[.int .i64 9] 3)).alloc (.cells #[.bool false] 4)) w.heap.size 80 #[.slice none 0 0] := ((Blk.new w 80 _).alloc _).alloc _
  have b5 : Blk (((w.alloc (.cells #[.slice none 0 0] 80)).alloc (.cells #[.int .i64 9] 3)).alloc (.cells #[.bool false] 4)) (w.heap.size + 1) 3 #[.int .i64 9] := by
    have := (Blk.new (w.alloc (.cells #[.slice none 0 0] 80)) 3 #[.int .i64 9]).alloc (.cells #[.bool false] 4)
    simpa using this
  have b6 : Blk (((w.alloc (.cells #[.slice none 0 0] 80)).alloc (.cells #[.int .i64 9] 3)).alloc (.cells #[.bool false] 4)) (w.heap.size + 2) 4 #[.bool false] := by
    have := Blk.new ((w.alloc (.cells #[.slice none 0 0] 80)).alloc (.cells #[.int .i64 9] 3)) 4 #[.bool false]
    simpa using this
  have q149 := nil85
  have HPP := Lib.hid hp
  have HBA := Lib.hid hba
  have H4 := Lib.hid b4
  have H5 := Lib.hid b5
  have H6 := Lib.hid b6
  clear hP hp hba b4 b5 b6
  refine (callsIn_wide (n := 5)).1 ?_
  refine callsIn_of_wp_marks Tryz.func15 rfl trivial ?_ rfl
  simp only [Tryz.ntmps15, List.size_toArray, List.length_cons, List.length_nil, Nat.reduceAdd, Nat.reduceSub, Array.replicate_succ, Array.replicate_zero, List.push_toArray, List.append_toArray, List.nil_append, List.cons_append]
  refine (wpIn_wide (n := 5)).2 ?_
  go_wp2_with fail
  refine HPP.out.mono ?_
  rintro e2 w1 ⟨G, A, cc, rfl, k1, k2, k3, k4, hb1⟩
  have hsz1 := hb1.size
  simp at hsz1 k3 k4
  have b8 := Blk.new w1 3 #[.int .i64 0]
  have hB8 : Below w.heap.size w (w1.alloc (.cells #[.int .i64 0] 3)) := (HBA.out.trans (hb1.mono HBA.out.size)).alloc (by omega) _
  have c4 := (H4.out.below hb1 H4.out.lt).alloc (.cells #[.int .i64 0] 3)
  have c5 := (H5.out.below hb1 H5.out.lt).alloc (.cells #[.int .i64 0] 3)
  have c6 := (H6.out.below hb1 H6.out.lt).alloc (.cells #[.int .i64 0] 3)
  have K4 := Lib.hid c4
  have K5 := Lib.hid c5
  have K6 := Lib.hid c6
  have K8 := Lib.hid b8
  have KB := Lib.hid hB8
  have HG := Lib.hid k1
  have HS := Lib.hid k2
  have HA := Lib.hid k4
  clear c4 c5 c6 b8 hB8 H4 H5 H6 HBA HPP hb1 k1 k2 k4
  go_wp2_with fail
  obtain ⟨M, hM⟩ : ∃ M : Nat → Obj → Prop, M = fun k _ => k = (w1.alloc (.cells #[.int .i64 0] 3)).heap.size + 1 := ⟨_, rfl⟩
  have hseq := pend1_ix 4 G A 0 cc [] M w1 HG.out HS.out (fun ad e => (HA.out ad e).2) (by rw [hM]; intro ad e o h; have := HA.out ad e; simp at h; omega)
  apply (wpIn_wide (n := 5)).1
  refine wpIn_range_ix (gf := 65) (lb := #[.pointer (some ⟨G, 0, none⟩)]) rfl (enters_of Tryz.func65 (by kernel_rfl) rfl)
    hseq Kept.trans ?a3 ((Below.refl _ w1).alloc (Nat.le_refl _) _) (fun k => by unfold pdVals; split <;> rfl)
    (fun _ X => Below (w1.alloc (.cells #[.int .i64 0] 3)).heap.size (w1.alloc (.cells #[.int .i64 0] 3)) X) (far_below _ _ (Nat.le_refl _)) (Below.refl _ _) ?a6 ?a7
  case a3 =>
    intro Wk o o' ho hc
    exact (Kept.refl _ Wk).grown (grownBy_putObj' Wk _ o') (fun j e _ _ => by cases e; rw [hM])
  case a6 => rintro l' k Wk hk; omega
  case a7 =>
    intro D W3 hD hI hDef
    simp at hD
    have d4 := K4.out.below hI K4.out.lt
    have d5 := K5.out.below hI K5.out.lt
    have d6 := K6.out.below hI K6.out.lt
    have d8 := K8.out.below hI K8.out.lt
    have x4 := d4.cell 0
    have x5 := d5.cell 0
    have x6 := d6.cell 0
    have x8 := d8.cell 0
    have f6 := d6.frozen 0
    simp at x4 x5 x6 x8
    have hB3 : Below w.heap.size w W3 := KB.out.trans (hI.mono KB.out.size)
    have d6b := d6.set_ 0 (.bool true)
    simp at d6b
    have hDef2 : (W3.setCell ⟨w.heap.size + 2, 0, none⟩ (.bool true)).heap[D]? = some (.deferred (some [])) := (Below.heap_setCell W3 ⟨w.heap.size + 2, 0, none⟩ (.bool true) D (by simp; omega)).trans hDef
    have d6c := d6b.grown (grownBy_putObj' (W3.setCell ⟨w.heap.size + 2, 0, none⟩ (.bool true)) D (.deferred none)) (by simp; omega)
    have hB4 := (hB3.setCell (p := ⟨w.heap.size + 2, 0, none⟩) (by simp) (.bool true)).grown (grownBy_putObj' (W3.setCell ⟨w.heap.size + 2, 0, none⟩ (.bool true)) D (.deferred none)) (by have := hB3.size; simp [World.setCell]; omega) (fun j hj => by cases hj; omega)
    have HR := Lib.hid hDef2
    have H6C := Lib.hid d6c
    have HB4 := Lib.hid hB4
    clear d4 d5 d6 d8 hB3 d6b hDef2 d6c hB4 hDef hI
    gi_wp2
    go_wp2
    have q0 : ((W3.setCell ⟨w.heap.size + 1 + 1, 0, none⟩ (.bool true)).putObj D (.deferred none)).cell? ⟨w.heap.size + 1 + 1, 0, none⟩ = some (.bool true) := H6C.out.cell 0
    refine ⟨by simp, .inl ⟨_, _, rfl, run_takeDeferred HR.out, ?_⟩⟩
    exact ⟨.bool true, by simp [results, Tryz.results15, go_sem, q0], rfl, HB4.out⟩
end Go.Proofs.YtmiipkaobloedaaGreat
namespace Go.Proofs.YtmiipkaobloedaaGreat
open Go.RowKit Go.Shelf
attribute [local go_sem] Oper.semAt_some
section
variable {D F : Nat → Prop} {g : Nat} {c : Cf} {st : Sd} {vq vo : Value} {vs os : List Value} {w : World}
set_option maxRecDepth 10000 in
set_option maxHeartbeats 1000000 in
theorem sunconf_any (h : AmS w D F g c st vq vs vo os) (ht : 1 ≤ c.timer) (hsum : heldP st ≤ 1048576) (hql : st.queue.length ≤ 1048576) :
    Calls Tryz.prog 18 #[.pointer (some ⟨g, 0, none⟩)] w fun e w' => (∃ A cc, e = .returned (.slice A st.queue.length cc)) ∧ Below w.heap.size w w' := by
  obtain ⟨i0, hi, hz0, hz1, hz2⟩ := info_parts sl_info
  have HCH := Lib.hid (scheck_any h ht)
  have HH := Lib.hid h
  have x7 := h.blk.cell 7
  simp [sndC] at x7
  obtain ⟨A, cc, rfl, hs⟩ := h.sls
  have hcap := hs.sl.cap
  have hmx := hs.sl.mx
  obtain ⟨r, hr⟩ : ∃ r : Int, (if st.failed = true then 8 else 0) = r := ⟨_, rfl⟩
  have dr : (r == 1) = false := by rw [← hr]; cases st.failed <;> rfl
  rw [hr] at HCH
  have HSM := Lib.hid hsum
  clear h hs hr hsum
  go_enter Tryz.func18, Tryz.ntmps18
  go_wp2_with fail
  refine HCH.out.mono ?_
  rintro e1 w1 ⟨rfl, rfl⟩
  go_wp2
  go_loopw [2, 13] (fun v i wr => ∃ k xs, k ≤ st.queue.length ∧ i = .int .i64 (k : Nat) ∧ wr.ownsRow w.heap.size 31 1 v k xs ∧ Below w.heap.size w wr) (fun _ i _ => st.queue.length - (intOf i).toNat)
  case atStart => exact ⟨0, [], Nat.zero_le _, rfl, World.ownsRow_nil _ _ _ _, Below.refl _ _⟩
  case round =>
    obtain ⟨k, xs, hk, rfl, hvo, hb⟩ := hrel
    by_cases hlt : k < st.queue.length
    · obtain ⟨A2, c2, e2, hsw⟩ := (HH.out.below hb).sls
      injection e2 with e3 e4 e5
      subst e3 e5
      obtain ⟨ad, Ai, ci, rfl, hbd, hc, hsl⟩ := hsw.get hlt
      have hle1 := Nat.le_trans (sumLen_take_le st.queue (k + 1)) HSM.out
      have hs1 := sumLen_take st.queue k hlt
      have hcap1 := hsl.cap
      have hmx1 := hsl.mx
      generalize st.queue[k]?.getD [] = p at *
      have hpl : p.length ≤ 1048576 := by omega
      have HCL := Lib.hid (clone_any Ai p.length ci p wr hsl (by omega))
      have HVO := Lib.hid hvo
      have HB := Lib.hid hb
      clear hs1 hle1 hsl hsw hvo hb e4
      go_wp2_with fail
      refine HCL.out.mono ?_
      rintro e1 w1 ⟨v1, rfl, hv1, hb1⟩
      obtain ⟨A1, c1, rfl, -, -⟩ := own_sl hv1
      have hvo1 := own_below HVO.out hb1 (Nat.le_refl _)
      have hB1 := Lib.hid (HB.out.trans (hb1.mono HB.out.size))
      have HVO1 := Lib.hid hvo1
      clear hv1 hb1 hvo1 hc
      go_wp2_with (at_builtin; refine wpList_append_own _ rfl _ _ 49 rfl w.heap.size 31 i0 (.slice none 0 0) 1 24 und22 hi hz0 hz1 hz2 rfl (by decide) _ _ _ rfl (HVO1.out.alloc _) ⟨w1.heap.size, 0, none⟩ 1 1 [.slice A1 p.length c1] rfl rfl ?c1 ?c2 ?c3 ?c4 ?c5 ?_)
      case c1 => exact cell_one_new _ _ _
      case c2 => simp [Value.oneCell']
      case c3 => unfold maxLen; omega
      case c4 => omega
      case c5 => have := hB1.out.size; simp; omega
      intro v' w4 hown' hgrow _
      have hin : ∀ j, Value.ownBlock u2 = some j → w.heap.size ≤ j := fun j hj => (HVO1.out.lt j hj).1
      have hB4 := Lib.hid ((hB1.out.alloc hB1.out.size (.cells #[.slice A1 p.length c1] 31)).grown hgrow (by have := hB1.out.size; simp; omega) hin)
      have HO := Lib.hid hown'
      clear hown' hgrow hin
      go_wp2
      go_round
      case rel => exact ⟨k + 1, _, by omega, by go_num, HO.out, hB4.out⟩
      case measure => simp [intOf]; omega
    · obtain rfl : k = st.queue.length := by omega
      obtain ⟨A1, c1, rfl, -, -⟩ := own_sl hvo
      have HB := Lib.hid hb
      clear hvo hb
      go_wp2
      go_ret
      exact ⟨⟨_, _, rfl⟩, HB.out⟩
end
end Go.Proofs.YtmiipkaobloedaaGreat
