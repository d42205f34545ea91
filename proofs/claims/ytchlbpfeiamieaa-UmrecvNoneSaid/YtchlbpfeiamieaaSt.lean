/- umrecv: State. -/
import Derived.Test.YtchlbpfeiamieaaSs
namespace Go.Proofs.Ytchlbpfeiamieaa
open Go.RowKit Go.Shelf
attribute [local go_sem] Oper.semAt_some

theorem Blk.five' {w : World} {g : Nat} {t : TypeId} {x0 x1 x2 x3 x4 : Value} (b : Blk w g t #[x0, x1, x2, x3, x4]) : w.cell? ⟨g, 0, none⟩ = some x0 ∧ w.cell? ⟨g, 1, none⟩ = some x1 ∧ w.cell? ⟨g, 2, none⟩ = some x2 ∧ w.cell? ⟨g, 3, none⟩ = some x3 ∧ w.cell? ⟨g, 4, none⟩ = some x4 :=
  ⟨b.cell 0, b.cell 1, b.cell 2, b.cell 3, b.cell 4⟩
/-- what State gives -/
def stV (st : Rs) : Value := .agg #[.int .i64 st.next, .int .i64 st.high, .bool st.ro, .int .i64 (if st.ro then (st.trig : Int) else 0), .int .i64 (if st.ro then st.exp else 0)]
set_option maxRecDepth 100000 in
set_option maxHeartbeats 1000000 in
theorem rstate_no {v : Value} {w : World} (h : NoRcv w v) : Calls Try.prog 35 #[v] w fun e w' => e = .returned (.agg #[.int .i64 0, .int .i64 0, .bool false, .int .i64 0, .int .i64 0]) ∧ Below w.heap.size w w' := by
  have hl := (Below.refl w.heap.size w).alloc (Nat.le_refl _) (.cells #[.int .i64 0, .int .i64 0, .bool false, .int .i64 0, .int .i64 0] 62)
  have hN : NoRcv (w.alloc (.cells #[.int .i64 0, .int .i64 0, .bool false, .int .i64 0, .int .i64 0] 62)) v := by
    rcases h with rfl | ⟨g, rfl, h⟩
    · exact .inl rfl
    · exact .inr ⟨g, rfl, (World.cell?_alloc_lt w _ _ (World.block_lt_of_cell? w _ h)).trans h⟩
  have HN := Lib.hid (rnone_no hN)
  have HL := Lib.hid hl
  have hb := Blk.new w 62 #[.int .i64 0, .int .i64 0, .bool false, .int .i64 0, .int .i64 0]
  have HB := Lib.hid hb
  clear h hN hl hb
  go_enter Try.func35, Try.ntmps35
  go_wp2_with (go_at_call 103; refine HN.out.mono ?_; rintro e1 w1 ⟨rfl, rfl⟩)
  obtain ⟨p0, p1, p2, p3, p4⟩ := HB.out.five'
  exact bodyPost_ret (v := .agg #[.int .i64 0, .int .i64 0, .bool false, .int .i64 0, .int .i64 0]) (by simp [results, Try.results35, go_sem, p0, p1, p2, p3, p4]) rfl ⟨rfl, HL.out⟩
set_option maxRecDepth 100000 in
set_option maxHeartbeats 1000000 in
theorem rstate_any (lo hi g M n : Nat) (vb : Value) (st : Rs) (w : World) (h : Rcv w lo hi g M n vb st) :
    Calls Try.prog 35 #[.pointer (some ⟨g, 0, none⟩)] w fun e w' => e = .returned (stV st) ∧ Below w.heap.size w w' := by
  have h1 := h.alloc (.cells #[.int .i64 0, .int .i64 0, .bool false, .int .i64 0, .int .i64 0] 62)
  have hno := rnone_any lo hi g M n vb st _ h1
  have hb := Blk.new w 62 #[.int .i64 0, .int .i64 0, .bool false, .int .i64 0, .int .i64 0]
  have hbe : Below w.heap.size w (w.alloc (.cells #[.int .i64 0, .int .i64 0, .bool false, .int .i64 0, .int .i64 0] 62)) := (Below.refl w.heap.size w).alloc (Nat.le_refl _) _
  have H1 := Lib.hid h1
  have HNO := Lib.hid hno
  have HB := Lib.hid hb
  have HBE := Lib.hid hbe
  have hgl := h.blk.lt
  obtain ⟨tg, htg⟩ : ∃ tg : Int, tg = if st.ro then (st.trig : Int) else 0 := ⟨_, rfl⟩
  obtain ⟨ex, hex⟩ : ∃ ex : Int, ex = if st.ro then st.exp else 0 := ⟨_, rfl⟩
  have hst : stV st = .agg #[.int .i64 st.next, .int .i64 st.high, .bool st.ro, .int .i64 tg, .int .i64 ex] := by rw [htg, hex]; rfl
  rw [hst]
  have HT := Lib.hid htg
  have HX := Lib.hid hex
  clear h h1 hno hb hbe hst htg hex
  go_enter Try.func35, Try.ntmps35
  go_upto_region 3 with (go_at_call 103; refine HNO.out.mono ?_; rintro e1 w1 ⟨rfl, rfl⟩)
  generalize w.alloc (.cells #[.int .i64 0, .int .i64 0, .bool false, .int .i64 0, .int .i64 0] 62) = w1 at *
  obtain ⟨x0, x1, x2, x3, x4, x5, x6, x7, x8, x9, x10⟩ := H1.out.cells
  have hg1 := H1.out.blk.lt
  go_cut [3] (fun s3 wx => ∃ k, s3 = .pointer (some ⟨k, 0, none⟩) ∧ w.heap.size < k ∧ Blk wx k 62 #[.int .i64 st.next, .int .i64 st.high, .bool st.ro, .int .i64 0, .int .i64 0] ∧ Rcv wx lo hi g M n vb st ∧ Blk wx w.heap.size 62 #[.int .i64 0, .int .i64 0, .bool false, .int .i64 0, .int .i64 0] ∧ Below w.heap.size w wx)
  case first =>
    go_region
    all_goals
      go_wp2_with fail
      go_meet
      exact ⟨w1.heap.size, rfl, HB.out.lt, (Blk.new w1 62 _).drew, (H1.out.alloc _).drew, (HB.out.alloc _).drew, (HBE.out.alloc HBE.out.size _).drew⟩
  case rest =>
  obtain ⟨k, rfl, hk, hK, hR, hB, hbe⟩ := hcut
  have HK := Lib.hid hK
  have HR := Lib.hid hR
  have HBB := Lib.hid hB
  have HBW := Lib.hid hbe
  clear x0 x1 x2 x3 x4 x5 x6 x7 x8 x9 x10 hK hR hB hbe H1 HB HBE
  obtain ⟨x0, x1, x2, x3, x4, x5, x6, x7, x8, x9, x10⟩ := HR.out.cells
  go_upto_if 23 with (fail)
  go_cut [] (fun wx => Blk wx k 62 #[.int .i64 st.next, .int .i64 st.high, .bool st.ro, .int .i64 tg, .int .i64 ex] ∧ Blk wx w.heap.size 62 #[.int .i64 0, .int .i64 0, .bool false, .int .i64 0, .int .i64 0] ∧ Below w.heap.size w wx)
  case first =>
    cases hro : st.ro with
    | false =>
      rw [hro] at x7 HK
      have HRO := Lib.hid hro
      clear hro
      go_wp2_with fail
      go_meet
      exact ⟨by rw [HT.out, HX.out, HRO.out]; simpa using HK.out, HBB.out, HBW.out⟩
    | true =>
      rw [hro] at x7 HK
      obtain ⟨z0, z1, z2, z3, z4⟩ := HK.out.five'
      have g3 := HK.out.frozen 3
      have g4 := HK.out.frozen 4
      have HRO := Lib.hid hro
      clear hro
      go_wp2_with fail
      go_region
      all_goals
        go_wp2_with fail
        go_meet
        refine ⟨by rw [HT.out, HX.out, HRO.out]; simpa using ((HK.out.set_ 3 (.int .i64 st.trig)).set_ 4 (.int .i64 st.exp)).drew, (HBB.out.far (by simp; omega) _).far (by simp; omega) _, (HBW.out.drew.setCell (p := ⟨k, 3, none⟩) (by simp; omega) _).setCell (p := ⟨k, 4, none⟩) (by simp; omega) _⟩
  case rest =>
  obtain ⟨hK, hB, hbe⟩ := hcut
  clear x0 x1 x2 x3 x4 x5 x6 x7 x8 x9 x10
  obtain ⟨z0, z1, z2, z3, z4⟩ := hK.five'
  obtain ⟨y0, y1, y2, y3, y4⟩ := hB.five'
  have g0 := hB.frozen 0
  have g1 := hB.frozen 1
  have g2 := hB.frozen 2
  have g3 := hB.frozen 3
  have g4 := hB.frozen 4
  have HB2 := Lib.hid hB
  have HBW2 := Lib.hid hbe
  clear hK hB hbe HT HX HK
  go_wp2_with fail
  have q0 := (HB2.out.set_ 0 (.int .i64 st.next)).cell 0
  have q1 := ((HB2.out.set_ 0 (.int .i64 st.next)).set_ 1 (.int .i64 st.high)).cell 1
  have q2 := (((HB2.out.set_ 0 (.int .i64 st.next)).set_ 1 (.int .i64 st.high)).set_ 2 (.bool st.ro)).cell 2
  have q3 := ((((HB2.out.set_ 0 (.int .i64 st.next)).set_ 1 (.int .i64 st.high)).set_ 2 (.bool st.ro)).set_ 3 (.int .i64 tg)).cell 3
  have q4 := (((((HB2.out.set_ 0 (.int .i64 st.next)).set_ 1 (.int .i64 st.high)).set_ 2 (.bool st.ro)).set_ 3 (.int .i64 tg)).set_ 4 (.int .i64 ex)).cell 4
  simp at q0 q1 q2 q3 q4
  exact bodyPost_ret (v := .agg #[.int .i64 st.next, .int .i64 st.high, .bool st.ro, .int .i64 tg, .int .i64 ex]) (by simp [results, Try.results35, go_sem, q0, q1, q2, q3, q4]) rfl ⟨rfl, ((((HBW2.out.setCell (p := ⟨w.heap.size, 0, none⟩) (Nat.le_refl _) _).setCell (p := ⟨w.heap.size, 1, none⟩) (Nat.le_refl _) _).setCell (p := ⟨w.heap.size, 2, none⟩) (Nat.le_refl _) _).setCell (p := ⟨w.heap.size, 3, none⟩) (Nat.le_refl _) _).setCell (p := ⟨w.heap.size, 4, none⟩) (Nat.le_refl _) _⟩
end Go.Proofs.Ytchlbpfeiamieaa
