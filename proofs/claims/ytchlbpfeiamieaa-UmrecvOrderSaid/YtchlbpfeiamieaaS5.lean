/- umrecv: New, Tick, Receive of what is no PDU, the methods of no receiver, State. umrecv: State. law32: takes. -/
import Derived.Test.YtchlbpfeiamieaaSr
import Derived.Carry
import Derived.Test.YtchlbpfeiamieaaLa
import Derived.Lib.ConvBytes
namespace Go.Proofs.Ytchlbpfeiamieaa
open Go.RowKit Go.Shelf
attribute [local go_sem] Oper.semAt_some

theorem rnew_bad (d : Int) (w : World) (h : d < 1 ∨ 1048576 < d) : Calls Try.prog 67 #[.int .i64 d] w fun e w' => e = .returned (.tuple #[.pointer none, .int .i64 2]) ∧ w = w' := by
  by_cases h1 : d < 1
  · go_enter Try.func67, Try.ntmps67
    go_wp2
    go_ret2
    exact ⟨rfl, rfl⟩
  · have h1' : decide (d < 1) = false := by simpa using h1
    have h2 : 1048576 < d := by omega
    go_enter Try.func67, Try.ntmps67
    go_wp2
    go_ret2
    exact ⟨rfl, rfl⟩
/-- a new receiver -/
def NewR (w : World) (d : Int) (e : Ending) (w' : World) : Prop :=
  e = .returned (.tuple #[.pointer (some ⟨w.heap.size + 1, 0, none⟩), .int .i64 0]) ∧ Rcv w' (w.heap.size + 2) (fun _ => False) (w.heap.size + 1) w.heap.size 0 (.slice none 0 0) (newRs d) ∧ Below w.heap.size w w'
theorem rnew_ok (d : Int) (w : World) (h1 : 1 ≤ d) (h2 : d ≤ 1048576) : Calls Try.prog 67 #[.int .i64 d] w (NewR w d) := by
  have hmm := @run_makeMap Try.prog
  have h1' : decide (d < 1) = false := by simp; omega
  have h2' : decide (1048576 < d) = false := by simp; omega
  go_enter Try.func67, Try.ntmps67
  go_wp2
  go_ret2
  have hb := Blk.new (w.alloc (.map #[] 0)) 57 (rcv (.slice none 0 0) w.heap.size (newRs d))
  rw [World.size_alloc] at hb
  refine ⟨rfl, ⟨hb, World.ownsRow_nil _ _ _ _, ⟨fun _ => none, ?_, fun k => ⟨fun _ => rfl, fun p hp => by cases hp⟩⟩, by omega, by omega, by omega, by simp, fun j hj => hj.elim⟩, ((Below.refl _ _).alloc (Nat.le_refl _) _).alloc (by simp) _⟩
  exact (MapIs.made Try.prog 3 w).same (Below.heap_alloc _ _ _ (by simp))
theorem rtick_any (lo : Nat) (hi : Nat → Prop) (g M n : Nat) (vb : Value) (st : Rs) (now : Int) (w : World) (h : Rcv w lo hi g M n vb st) (ho : StOk st) (hw : Win st) (hn : now ≤ 1000000000000) :
    Calls Try.prog 33 #[.pointer (some ⟨g, 0, none⟩), .int .i64 now] w (RecvOut w lo hi g M n (goesP st now)) := by
  have hno := rnone_any lo hi g M n vb st w h
  have hgo := rgoes_any lo hi g M n vb st now w h ho hw hn
  have HNO := Lib.hid hno
  have HGO := Lib.hid hgo
  clear h ho hw hno hgo
  go_enter Try.func33, Try.ntmps33
  go_wp2_with (first
    | (go_at_call 103; refine HNO.out.mono ?_; rintro e1 w1 ⟨rfl, rfl⟩)
    | (go_at_call 104; refine HGO.out.mono ?_; rintro e2 w3 ⟨vb3, vo3, rfl, hR3, hO3, hK3⟩))
  go_ret2
  exact ⟨vb3, vo3, rfl, hR3.hiMono (fun j hj => .inl hj) (fun j hj => by rcases hj with e | e; exact hR3.hhi j e; exact e.2), hO3, hK3⟩
/-- what is no PDU -/
theorem rrecv_bad (lo : Nat) (hi : Nat → Prop) (g M n : Nat) (vb : Value) (st : Rs) (now : Int) (A : Option Addr) (nn c : Nat) (bs : List UInt8) (er : Nat) (w : World) (h : Rcv w lo hi g M n vb st) (hs : Sl w w.heap.size A nn c (bvs bs)) (hnn : nn ≤ 1000000) (hd : decU bs = .inl er) (her : er ≠ 0) :
    Calls Try.prog 32 #[.pointer (some ⟨g, 0, none⟩), .int .i64 now, .slice A nn c] w fun e w' => e = .returned (.tuple #[.slice none 0 0, .int .i64 er]) ∧ Rcv w' lo hi g M n vb st ∧ Below w.heap.size w w' := by
  have hno := rnone_any lo hi g M n vb st w h
  have hdec := decode_any A nn c bs w hs hnn
  rw [hd] at hdec
  have hdec : Calls Try.prog 23 #[.slice A nn c] w fun e w1 => e = .returned (.tuple #[.agg #[.int .i64 0, .bool false, .bool false, .slice none 0 0], .int .i64 er]) ∧ Below w.heap.size w w1 := by
    refine hdec.mono fun e w1 hh => ?_
    obtain ⟨hb1, ⟨er', he, hee⟩ | ⟨sn', s', en', ps', vo, he, _⟩⟩ := hh
    · cases he
      exact ⟨hee, hb1⟩
    · cases he
  have hz : ((er : Int) != 0) = true := by simp; omega
  have HNO := Lib.hid hno
  have HDEC := Lib.hid hdec
  have HH := Lib.hid h
  clear hno hdec hd h hs hnn her
  go_enter Try.func32, Try.ntmps32
  go_wp2_with (first
    | (go_at_call 103; refine HNO.out.mono ?_; rintro e1 w1 ⟨rfl, rfl⟩)
    | (go_at_call 23; refine HDEC.out.mono ?_; rintro e1 w1 ⟨rfl, hb1⟩))
  go_ret2
  exact ⟨rfl, (HH.out.below hb1).alloc _, hb1.alloc hb1.size _⟩
/-- no receiver: nil, or a zero one -/
def NoRcv (w : World) (v : Value) : Prop := v = .pointer none ∨ ∃ g, v = .pointer (some ⟨g, 0, none⟩) ∧ w.cell? ⟨g, 4, none⟩ = some (.map none)
theorem rnone_no {v : Value} {w : World} (h : NoRcv w v) : Calls Try.prog 103 #[v] w fun e w' => e = .returned (.bool true) ∧ w = w' := by
  rcases h with rfl | ⟨g, rfl, h⟩
  · exact rnone_nil w
  · exact rnone_zero g w h
theorem rrecv_no {v : Value} {w : World} (h : NoRcv w v) (now : Int) (A : Option Addr) (nn c : Nat) : Calls Try.prog 32 #[v, .int .i64 now, .slice A nn c] w fun e w' => e = .returned (.tuple #[.slice none 0 0, .int .i64 1]) ∧ w = w' := by
  have HN := Lib.hid (rnone_no h)
  clear h
  go_enter Try.func32, Try.ntmps32
  go_wp2_with (go_at_call 103; refine HN.out.mono ?_; rintro e1 w1 ⟨rfl, rfl⟩)
  go_ret2
  exact ⟨rfl, rfl⟩
theorem rtick_no {v : Value} {w : World} (h : NoRcv w v) (now : Int) : Calls Try.prog 33 #[v, .int .i64 now] w fun e w' => e = .returned (.tuple #[.slice none 0 0, .int .i64 1]) ∧ w = w' := by
  have HN := Lib.hid (rnone_no h)
  clear h
  go_enter Try.func33, Try.ntmps33
  go_wp2_with (go_at_call 103; refine HN.out.mono ?_; rintro e1 w1 ⟨rfl, rfl⟩)
  go_ret2
  exact ⟨rfl, rfl⟩
end Go.Proofs.Ytchlbpfeiamieaa
namespace Go.Proofs.Ytchlbpfeiamieaa
open Go.RowKit Go.Shelf
attribute [local go_sem] Oper.semAt_some

theorem Blk.five' {w : World} {g : Nat} {t : TypeId} {x0 x1 x2 x3 x4 : Value} (b : Blk w g t #[x0, x1, x2, x3, x4]) : w.cell? ⟨g, 0, none⟩ = some x0 ∧ w.cell? ⟨g, 1, none⟩ = some x1 ∧ w.cell? ⟨g, 2, none⟩ = some x2 ∧ w.cell? ⟨g, 3, none⟩ = some x3 ∧ w.cell? ⟨g, 4, none⟩ = some x4 :=
  ⟨b.cell 0, b.cell 1, b.cell 2, b.cell 3, b.cell 4⟩
/-- what State gives -/
def stV (st : Rs) : Value := .agg #[.int .i64 st.next, .int .i64 st.high, .bool st.ro, .int .i64 (if st.ro then (st.trig : Int) else 0), .int .i64 (if st.ro then st.exp else 0)]
set_option maxRecDepth 100000 in
set_option maxHeartbeats 1000000 in
theorem rstate_no {v : Value} {w : World} (h : NoRcv w v) : Calls Try.prog 35 #[v] w fun e w' => e = .returned (.agg #[.int .i64 0, .int .i64 0, .bool false, .int .i64 0, .int .i64 0]) ∧ Below w.heap.size w w' := by
  have hl := (Below.refl w.heap.size w).alloc (Nat.le_refl _) (.cells #[.int .i64 0, .int .i64 0, .bool false, .int .i64 0, .int .i64 0] 62)
  have hN : NoRcv (w.alloc (.cells #[.int .i64 0, .int .i64 0, .bool false, .int .i64 0, .int .i64 0] 62)) v := by
    rcases h with rfl | ⟨g, rfl, h⟩
    · exact .inl rfl
    · exact .inr ⟨g, rfl, (World.cell?_alloc_lt w _ _ (World.block_lt_of_cell? w _ h)).trans h⟩
  have HN := Lib.hid (rnone_no hN)
  have HL := Lib.hid hl
  have hb := Blk.new w 62 #[.int .i64 0, .int .i64 0, .bool false, .int .i64 0, .int .i64 0]
  have HB := Lib.hid hb
  clear h hN hl hb
  go_enter Try.func35, Try.ntmps35
  go_wp2_with (go_at_call 103; refine HN.out.mono ?_; rintro e1 w1 ⟨rfl, rfl⟩)
  obtain ⟨p0, p1, p2, p3, p4⟩ := HB.out.five'
  exact bodyPost_ret (v := .agg #[.int .i64 0, .int .i64 0, .bool false, .int .i64 0, .int .i64 0]) (by simp [results, Try.results35, go_sem, p0, p1, p2, p3, p4]) rfl ⟨rfl, HL.out⟩
set_option maxRecDepth 100000 in
set_option maxHeartbeats 1000000 in
theorem rstate_any (lo : Nat) (hi : Nat → Prop) (g M n : Nat) (vb : Value) (st : Rs) (w : World) (h : Rcv w lo hi g M n vb st) :
    Calls Try.prog 35 #[.pointer (some ⟨g, 0, none⟩)] w fun e w' => e = .returned (stV st) ∧ Below w.heap.size w w' := by
  have h1 := h.alloc (.cells #[.int .i64 0, .int .i64 0, .bool false, .int .i64 0, .int .i64 0] 62)
  have hno := rnone_any lo hi g M n vb st _ h1
  have hb := Blk.new w 62 #[.int .i64 0, .int .i64 0, .bool false, .int .i64 0, .int .i64 0]
  have hbe : Below w.heap.size w (w.alloc (.cells #[.int .i64 0, .int .i64 0, .bool false, .int .i64 0, .int .i64 0] 62)) := (Below.refl w.heap.size w).alloc (Nat.le_refl _) _
  have H1 := Lib.hid h1
  have HNO := Lib.hid hno
  have HB := Lib.hid hb
  have HBE := Lib.hid hbe
  have hgl := h.blk.lt
  obtain ⟨tg, htg⟩ : ∃ tg : Int, tg = if st.ro then (st.trig : Int) else 0 := ⟨_, rfl⟩
  obtain ⟨ex, hex⟩ : ∃ ex : Int, ex = if st.ro then st.exp else 0 := ⟨_, rfl⟩
  have hst : stV st = .agg #[.int .i64 st.next, .int .i64 st.high, .bool st.ro, .int .i64 tg, .int .i64 ex] := by rw [htg, hex]; rfl
  rw [hst]
  have HT := Lib.hid htg
  have HX := Lib.hid hex
  clear h h1 hno hb hbe hst htg hex
  go_enter Try.func35, Try.ntmps35
  go_upto_region 3 with (go_at_call 103; refine HNO.out.mono ?_; rintro e1 w1 ⟨rfl, rfl⟩)
  generalize w.alloc (.cells #[.int .i64 0, .int .i64 0, .bool false, .int .i64 0, .int .i64 0] 62) = w1 at *
  obtain ⟨x0, x1, x2, x3, x4, x5, x6, x7, x8, x9, x10⟩ := H1.out.cells
  have hg1 := H1.out.blk.lt
  go_cut [3] (fun s3 wx => ∃ k, s3 = .pointer (some ⟨k, 0, none⟩) ∧ w.heap.size < k ∧ Blk wx k 62 #[.int .i64 st.next, .int .i64 st.high, .bool st.ro, .int .i64 0, .int .i64 0] ∧ Rcv wx lo hi g M n vb st ∧ Blk wx w.heap.size 62 #[.int .i64 0, .int .i64 0, .bool false, .int .i64 0, .int .i64 0] ∧ Below w.heap.size w wx)
  case first =>
    go_region
    all_goals
      go_wp2_with fail
      go_meet
      exact ⟨w1.heap.size, rfl, HB.out.lt, (Blk.new w1 62 _).drew, (H1.out.alloc _).drew, (HB.out.alloc _).drew, (HBE.out.alloc HBE.out.size _).drew⟩
  case rest =>
  obtain ⟨k, rfl, hk, hK, hR, hB, hbe⟩ := hcut
  have HK := Lib.hid hK
  have HR := Lib.hid hR
  have HBB := Lib.hid hB
  have HBW := Lib.hid hbe
  clear x0 x1 x2 x3 x4 x5 x6 x7 x8 x9 x10 hK hR hB hbe H1 HB HBE
  obtain ⟨x0, x1, x2, x3, x4, x5, x6, x7, x8, x9, x10⟩ := HR.out.cells
  go_upto_if 23 with (fail)
  go_cut [] (fun wx => Blk wx k 62 #[.int .i64 st.next, .int .i64 st.high, .bool st.ro, .int .i64 tg, .int .i64 ex] ∧ Blk wx w.heap.size 62 #[.int .i64 0, .int .i64 0, .bool false, .int .i64 0, .int .i64 0] ∧ Below w.heap.size w wx)
  case first =>
    cases hro : st.ro with
    | false =>
      rw [hro] at x7 HK
      have HRO := Lib.hid hro
      clear hro
      go_wp2_with fail
      go_meet
      exact ⟨by rw [HT.out, HX.out, HRO.out]; simpa using HK.out, HBB.out, HBW.out⟩
    | true =>
      rw [hro] at x7 HK
      obtain ⟨z0, z1, z2, z3, z4⟩ := HK.out.five'
      have g3 := HK.out.frozen 3
      have g4 := HK.out.frozen 4
      have HRO := Lib.hid hro
      clear hro
      go_wp2_with fail
      go_region
      all_goals
        go_wp2_with fail
        go_meet
        refine ⟨by rw [HT.out, HX.out, HRO.out]; simpa using ((HK.out.set_ 3 (.int .i64 st.trig)).set_ 4 (.int .i64 st.exp)).drew, (HBB.out.far (by simp; omega) _).far (by simp; omega) _, (HBW.out.drew.setCell (p := ⟨k, 3, none⟩) (by simp; omega) _).setCell (p := ⟨k, 4, none⟩) (by simp; omega) _⟩
  case rest =>
  obtain ⟨hK, hB, hbe⟩ := hcut
  clear x0 x1 x2 x3 x4 x5 x6 x7 x8 x9 x10
  obtain ⟨z0, z1, z2, z3, z4⟩ := hK.five'
  obtain ⟨y0, y1, y2, y3, y4⟩ := hB.five'
  have g0 := hB.frozen 0
  have g1 := hB.frozen 1
  have g2 := hB.frozen 2
  have g3 := hB.frozen 3
  have g4 := hB.frozen 4
  have HB2 := Lib.hid hB
  have HBW2 := Lib.hid hbe
  clear hK hB hbe HT HX HK
  go_wp2_with fail
  have q0 := (HB2.out.set_ 0 (.int .i64 st.next)).cell 0
  have q1 := ((HB2.out.set_ 0 (.int .i64 st.next)).set_ 1 (.int .i64 st.high)).cell 1
  have q2 := (((HB2.out.set_ 0 (.int .i64 st.next)).set_ 1 (.int .i64 st.high)).set_ 2 (.bool st.ro)).cell 2
  have q3 := ((((HB2.out.set_ 0 (.int .i64 st.next)).set_ 1 (.int .i64 st.high)).set_ 2 (.bool st.ro)).set_ 3 (.int .i64 tg)).cell 3
  have q4 := (((((HB2.out.set_ 0 (.int .i64 st.next)).set_ 1 (.int .i64 st.high)).set_ 2 (.bool st.ro)).set_ 3 (.int .i64 tg)).set_ 4 (.int .i64 ex)).cell 4
  simp at q0 q1 q2 q3 q4
  exact bodyPost_ret (v := .agg #[.int .i64 st.next, .int .i64 st.high, .bool st.ro, .int .i64 tg, .int .i64 ex]) (by simp [results, Try.results35, go_sem, q0, q1, q2, q3, q4]) rfl ⟨rfl, ((((HBW2.out.setCell (p := ⟨w.heap.size, 0, none⟩) (Nat.le_refl _) _).setCell (p := ⟨w.heap.size, 1, none⟩) (Nat.le_refl _) _).setCell (p := ⟨w.heap.size, 2, none⟩) (Nat.le_refl _) _).setCell (p := ⟨w.heap.size, 3, none⟩) (Nat.le_refl _) _).setCell (p := ⟨w.heap.size, 4, none⟩) (Nat.le_refl _) _⟩
end Go.Proofs.Ytchlbpfeiamieaa
namespace Go.Proofs.Ytchlbpfeiamieaa
open Go.RowKit Go.Shelf
attribute [local go_sem] Oper.semAt_some

theorem num32_any (x : Int) (w : World) : Calls Try.prog 34 #[.int .i64 x] w fun e w' => e = .returned (.int .i64 x) ∧ w = w' := by
  go_enter Try.func34, Try.ntmps34
  go_wp2
  go_ret
  exact ⟨rfl, rfl⟩
theorem bytes32_below (w : World) (s : ByteArray) : Below w.heap.size w (Lib.bytesWorld w 5 s) :=
  ⟨rfl, rfl, rfl, by rw [Lib.bytesWorld_size]; omega, fun k hk => Lib.bytesWorld_at_old w 5 s k hk⟩
theorem bytes32_sl (w : World) (p : List UInt8) (hp : p.length ≤ 1000000) : Sl (Lib.bytesWorld w 5 ⟨p.toArray⟩) (Lib.bytesWorld w 5 ⟨p.toArray⟩).heap.size (some ⟨w.heap.size, 0, none⟩) p.length (grownCap w p.length 0 5) (bvs p) := by
  refine ⟨by simp, grownCap_ge _ _ _ _, Nat.le_trans (grownCap_le_maxLen _ _ _ _ (by unfold maxLen; omega)) (by unfold maxLen; omega), fun _ => ⟨_, rfl, lt_of_heap (Lib.bytesWorld_at_new w 5 _), fun j u hu => World.news_of_block (Lib.bytesWorld_at_new w 5 _) j u ?_⟩⟩
  unfold bvs at hu
  rw [List.getElem?_map] at hu
  unfold Lib.bytesCells
  simp only [Array.toList_append, Array.toList_map]
  rw [List.getElem?_append_left, List.getElem?_map]
  · exact hu
  · have := (List.getElem?_eq_some_iff.1 (Option.map_eq_some_iff.1 hu).choose_spec.1).1
    simpa using this
/-- a receiver whose memory lies from base on -/
def RE (W : World) (base g n : Nat) (st : Rs) : Prop := ∃ lo hi M vb, Rcv W lo hi g M n vb st ∧ StOk st ∧ Win st ∧ base ≤ g ∧ base ≤ M
theorem RE.below {W W' : World} {base g n : Nat} {st : Rs} (h : RE W base g n st) (hb : Below W.heap.size W W') : RE W' base g n st := let ⟨lo, hi, M, vb, h1, h2⟩ := h; ⟨lo, hi, M, vb, h1.below hb, h2⟩
theorem RE.win {W : World} {base g n : Nat} {st : Rs} (h : RE W base g n st) : StOk st ∧ Win st := let ⟨_, _, _, _, _, h2, h3, _⟩ := h; ⟨h2, h3⟩
/-- what a call on a receiver gives -/
def REOut (W : World) (base g n : Nat) (R : Rs × List (List UInt8)) (e : Ending) (W' : World) : Prop :=
  ∃ lo vo, e = .returned (.tuple #[vo, .int .i64 0]) ∧ OutIs W' W.heap.size lo vo R.2 ∧ RE W' base g n R.1 ∧ Below base W W'
theorem MR.below {W W' : World} {base g M : Nat} (h : Kept (MR g M) W W') (hg : base ≤ g) (hM : base ≤ M) (hb : base ≤ W.heap.size) : Below base W W' :=
  h.below (fun k o hk => by rcases hk with rfl | rfl <;> assumption) hb
theorem rrecv_re (base g n : Nat) (st : Rs) (now : Int) (A : Option Addr) (nn c : Nat) (bs : List UInt8) (w : World) (p : Pd) (h : RE w base g n st) (hn : now ≤ 1000000000000)
    (hs : Sl w w.heap.size A nn c (bvs bs)) (hnn : nn ≤ 1000000) (hd : decU bs = .inr (p.sn, p.s, p.en, p.ps)) (hp : PdOk p) (hroom : n < 9223372036854775807) (hb : base ≤ w.heap.size) :
    Calls Try.prog 32 #[.pointer (some ⟨g, 0, none⟩), .int .i64 now, .slice A nn c] w (REOut w base g (n + 1) (recvP st now p)) := by
  obtain ⟨lo, hi, M, vb, h1, h2, h3, h4, h5⟩ := h
  refine (rrecv_ok lo hi g M n vb st now A nn c bs w p h1 h2 h3 hn hs hnn hd hp hroom).mono fun e w' ⟨vb', vo', e1, hR, hO, hK⟩ => ?_
  exact ⟨lo, vo', e1, hO, ⟨lo, _, M, vb', hR, (h2.recv hn hp).1, h3.recv h2 hn hp, h4, h5⟩, MR.below hK h4 h5 hb⟩
theorem rtick_re (base g n : Nat) (st : Rs) (now : Int) (w : World) (h : RE w base g n st) (hn : now ≤ 1000000000000) (hb : base ≤ w.heap.size) :
    Calls Try.prog 33 #[.pointer (some ⟨g, 0, none⟩), .int .i64 now] w (REOut w base g n (goesP st now)) := by
  obtain ⟨lo, hi, M, vb, h1, h2, h3, h4, h5⟩ := h
  refine (rtick_any lo hi g M n vb st now w h1 h2 h3 hn).mono fun e w' ⟨vb', vo', e1, hR, hO, hK⟩ => ?_
  exact ⟨lo, vo', e1, hO, ⟨lo, _, M, vb', hR, (h2.goes hn).1, h3.goes h2 hn, h4, h5⟩, MR.below hK h4 h5 hb⟩
/-- what takes gives -/
def TakesOut (W : World) (base g n : Nat) (st : Rs) (e : Ending) (W' : World) : Prop := e = .returned (.bool true) ∧ RE W' base g n st ∧ Below base W W'
set_option maxRecDepth 100000 in
set_option maxHeartbeats 1000000 in
theorem takes_none (base g n : Nat) (st : Rs) (now : Int) (bs : List UInt8) (p : Pd) (w : World) (h : RE w base g n st) (hn : now ≤ 1000000000000) (hsm : bs.length ≤ 1000000) (hd : decU bs = .inr (p.sn, p.s, p.en, p.ps)) (hp : PdOk p) (hroom : n < 9223372036854775807) (hb : base ≤ w.heap.size)
    (hout : (recvP st now p).2 = []) : Calls Try.prog 102 #[.pointer (some ⟨g, 0, none⟩), .int .i64 now, .string ⟨bs.toArray⟩, .string ⟨#[]⟩] w (TakesOut w base g (n + 1) (recvP st now p).1) := by
  have hbb := bytes32_below w ⟨bs.toArray⟩
  have hsl := bytes32_sl w bs hsm
  have hrc := rrecv_re base g n st now _ bs.length _ bs _ p (h.below hbb) hn hsl hsm hd hp hroom (Nat.le_trans hb hbb.size)
  have kc := fun (W : World) => Lib.run_convert_string_bytes (P := Try.prog) W 9 29 5 ⟨bs.toArray⟩ (u := .string) (by kernel_rfl) und29 und5
  have hs1 : (⟨bs.toArray⟩ : ByteArray).size = bs.length := by simp [ByteArray.size]
  rw [hs1] at kc
  have HRC := Lib.hid hrc
  have HBB := Lib.hid hbb
  have HOUT := Lib.hid hout
  have HB := Lib.hid hb
  clear hrc hbb hsl hout h hd hp hs1 hb
  generalize (⟨bs.toArray⟩ : ByteArray) = ba at *
  go_enter Try.func102, Try.ntmps102
  go_wp2_with (first
    | (go_at_call 32; refine HRC.out.mono ?_; rintro e1 w1 ⟨lo, vo, rfl, hO, hE, hB1⟩; rw [HOUT.out] at hO; obtain ⟨A2, c2, vs2, rfl, hc2, hm2, _⟩ := hO.one)
    | (go_at_call 34; refine (num32_any _ _).mono ?_; rintro e1 w2 ⟨rfl, rfl⟩))
  go_ret
  exact ⟨rfl, hE, (HBB.out.mono HB.out).trans hB1⟩
set_option maxRecDepth 100000 in
set_option maxHeartbeats 1000000 in
theorem takes_one (base g n : Nat) (st : Rs) (now : Int) (bs ws : List UInt8) (p : Pd) (w : World) (h : RE w base g n st) (hn : now ≤ 1000000000000) (hsm : bs.length ≤ 1000000) (hd : decU bs = .inr (p.sn, p.s, p.en, p.ps)) (hp : PdOk p) (hroom : n < 9223372036854775807) (hb : base ≤ w.heap.size)
    (hout : (recvP st now p).2 = [ws]) : Calls Try.prog 102 #[.pointer (some ⟨g, 0, none⟩), .int .i64 now, .string ⟨bs.toArray⟩, .string ⟨ws.toArray⟩] w (TakesOut w base g (n + 1) (recvP st now p).1) := by
  have hbb := bytes32_below w ⟨bs.toArray⟩
  have hsl := bytes32_sl w bs hsm
  have hrc := rrecv_re base g n st now _ bs.length _ bs _ p (h.below hbb) hn hsl hsm hd hp hroom (Nat.le_trans hb hbb.size)
  have kc := fun (W : World) => Lib.run_convert_string_bytes (P := Try.prog) W 9 29 5 ⟨bs.toArray⟩ (u := .string) (by kernel_rfl) und29 und5
  have hs1 : (⟨bs.toArray⟩ : ByteArray).size = bs.length := by simp [ByteArray.size]
  rw [hs1] at kc
  have hrc : Calls Try.prog 32 #[.pointer (some ⟨g, 0, none⟩), .int .i64 now, .slice (some ⟨w.heap.size, 0, none⟩) bs.length (grownCap w bs.length 0 5)] (Lib.bytesWorld w 5 ⟨bs.toArray⟩) fun e w1 => ∃ ad c2 A3 c3, e = .returned (.tuple #[.slice (some ad) 1 c2, .int .i64 0]) ∧ 1 ≤ c2 ∧ c2 ≤ 9223372036854775807 ∧ w1.cell? ad = some (.slice A3 ws.length c3) ∧ (convert 29 9 (.slice A3 ws.length c3)).run Try.prog w1 = .ok (.string ⟨ws.toArray⟩) w1 ∧ RE w1 base g (n + 1) (recvP st now p).1 ∧ Below base (Lib.bytesWorld w 5 ⟨bs.toArray⟩) w1 := by
    refine hrc.mono fun e w1 hh => ?_
    obtain ⟨lo, vo, rfl, hO, hE, hB1⟩ := hh
    rw [hout] at hO
    obtain ⟨A2, c2, vs2, rfl, hc2, hm2, _, hsl2, _, heach⟩ := hO.one
    obtain ⟨vi, hv, ho⟩ := heach 0 ws rfl
    obtain ⟨A3, c3, rfl, hs3, _⟩ := own_sl ho
    obtain ⟨ad, rfl, _, hcl⟩ := hsl2.at_ (by simp)
    have hcell := hcl 0 _ hv
    refine ⟨ad, c2, A3, c3, rfl, hc2, hm2, by simpa [Addr.add] using hcell, conv_sl hs3, hE, hB1⟩
  have HRC := Lib.hid hrc
  have HBB := Lib.hid hbb
  have HB := Lib.hid hb
  clear hrc hbb hsl hout h hd hp hs1 hb
  generalize (⟨bs.toArray⟩ : ByteArray) = ba at *
  generalize (⟨ws.toArray⟩ : ByteArray) = wa at *
  go_enter Try.func102, Try.ntmps102
  go_wp2_with (first
    | (go_at_call 32; refine HRC.out.mono ?_; rintro e1 w1 ⟨ad, c2, A3, c3, rfl, hc2, hm2, hcell, hcv, hE, hB1⟩)
    | (go_at_call 34; refine (num32_any _ _).mono ?_; rintro e1 w2 ⟨rfl, rfl⟩))
  all_goals
    go_ret
    exact ⟨rfl, hE, (HBB.out.mono HB.out).trans hB1⟩
end Go.Proofs.Ytchlbpfeiamieaa
