/- umrecv: New, Tick, Receive of what is no PDU, the methods of no receiver, State. umrecv: State. law32: takes. -/
import Derived.Test.YtbjajboodohabaaGreatSr
import Derived.Carry
import Derived.Test.YtbjajboodohabaaGreatLa
import Derived.Lib.ConvBytes
namespace Go.Proofs.YtbjajboodohabaaGreat
open Go.RowKit Go.Shelf
attribute [local go_sem] Oper.semAt_some

theorem rnew_bad (d : Int) (w : World) (h : d < 1 ∨ 1048576 < d) : Calls Tryz.prog 8 #[.int .i64 d] w fun e w' => e = .returned (.tuple #[.pointer none, .int .i64 2]) ∧ w = w' := by
  by_cases h1 : d < 1
  · go_enter Tryz.func8, Tryz.ntmps8
    go_wp2
    go_ret2
    exact ⟨rfl, rfl⟩
  · have h1' : decide (d < 1) = false := by simpa using h1
    have h2 : 1048576 < d := by omega
    go_enter Tryz.func8, Tryz.ntmps8
    go_wp2
    go_ret2
    exact ⟨rfl, rfl⟩
/-- a new receiver -/
def NewR (w : World) (d : Int) (e : Ending) (w' : World) : Prop :=
  e = .returned (.tuple #[.pointer (some ⟨w.heap.size + 1, 0, none⟩), .int .i64 0]) ∧ Rcv w' (w.heap.size + 2) (fun _ => False) (w.heap.size + 1) w.heap.size 0 (.slice none 0 0) (newRs d) ∧ Below w.heap.size w w'
theorem rnew_ok (d : Int) (w : World) (h1 : 1 ≤ d) (h2 : d ≤ 1048576) : Calls Tryz.prog 8 #[.int .i64 d] w (NewR w d) := by
  have hmm := @run_makeMap Tryz.prog
  have h1' : decide (d < 1) = false := by simp; omega
  have h2' : decide (1048576 < d) = false := by simp; omega
  go_enter Tryz.func8, Tryz.ntmps8
  go_wp2
  go_ret2
  have hb := Blk.new (w.alloc (.map #[] 0)) 73 (rcv (.slice none 0 0) w.heap.size (newRs d))
  rw [World.size_alloc] at hb
  refine ⟨rfl, ⟨hb, World.ownsRow_nil _ _ _ _, ⟨fun _ => none, ?_, fun k => ⟨fun _ => rfl, fun p hp => by cases hp⟩⟩, by omega, by omega, by omega, by simp, fun j hj => hj.elim⟩, ((Below.refl _ _).alloc (Nat.le_refl _) _).alloc (by simp) _⟩
  exact (MapIs.made Tryz.prog 3 w).same (Below.heap_alloc _ _ _ (by simp))
theorem rtick_any (lo : Nat) (hi : Nat → Prop) (g M n : Nat) (vb : Value) (st : Rs) (now : Int) (w : World) (h : Rcv w lo hi g M n vb st) (ho : StOk st) (hw : Win st) (hn : now ≤ 9223372036854775807) :
    Calls Tryz.prog 17 #[.pointer (some ⟨g, 0, none⟩), .int .i64 now] w (RecvOut w lo hi g M n (goesP st now)) := by
  have hno := rnone_any lo hi g M n vb st w h
  have hgo := rgoes_any lo hi g M n vb st now w h ho hw hn
  have HNO := Lib.hid hno
  have HGO := Lib.hid hgo
  clear h ho hw hno hgo
  go_enter Tryz.func17, Tryz.ntmps17
  go_wp2_with (first
    | (go_at_call 30; refine HNO.out.mono ?_; rintro e1 w1 ⟨rfl, rfl⟩)
    | (go_at_call 32; refine HGO.out.mono ?_; rintro e2 w3 ⟨vb3, vo3, rfl, hR3, hO3, hK3⟩))
  go_ret2
  exact ⟨vb3, vo3, rfl, hR3.hiMono (fun j hj => .inl hj) (fun j hj => by rcases hj with e | e; exact hR3.hhi j e; exact e.2), hO3, hK3⟩
/-- what is no PDU -/
theorem rrecv_bad (lo : Nat) (hi : Nat → Prop) (g M n : Nat) (vb : Value) (st : Rs) (now : Int) (A : Option Addr) (nn c : Nat) (bs : List UInt8) (er : Nat) (w : World) (h : Rcv w lo hi g M n vb st) (hs : Sl w w.heap.size A nn c (bvs bs)) (hnn : nn ≤ 1000000) (hd : decU bs = .inl er) (her : er ≠ 0) :
    Calls Tryz.prog 14 #[.pointer (some ⟨g, 0, none⟩), .int .i64 now, .slice A nn c] w fun e w' => e = .returned (.tuple #[.slice none 0 0, .int .i64 er]) ∧ Rcv w' lo hi g M n vb st ∧ Below w.heap.size w w' := by
  have hno := rnone_any lo hi g M n vb st w h
  have hdec := decode_any A nn c bs w hs hnn
  rw [hd] at hdec
  have hdec : Calls Tryz.prog 31 #[.slice A nn c] w fun e w1 => e = .returned (.tuple #[.agg #[.int .i64 0, .bool false, .bool false, .slice none 0 0], .int .i64 er]) ∧ Below w.heap.size w w1 := by
    refine hdec.mono fun e w1 hh => ?_
    obtain ⟨hb1, ⟨er', he, hee⟩ | ⟨sn', s', en', ps', vo, he, _⟩⟩ := hh
    · cases he
      exact ⟨hee, hb1⟩
    · cases he
  have hz : ((er : Int) != 0) = true := by simp; omega
  have HNO := Lib.hid hno
  have HDEC := Lib.hid hdec
  have HH := Lib.hid h
  clear hno hdec hd h hs hnn her
  go_enter Tryz.func14, Tryz.ntmps14
  go_wp2_with (first
    | (go_at_call 30; refine HNO.out.mono ?_; rintro e1 w1 ⟨rfl, rfl⟩)
    | (go_at_call 31; refine HDEC.out.mono ?_; rintro e1 w1 ⟨rfl, hb1⟩))
  go_ret2
  exact ⟨rfl, (HH.out.below hb1).alloc _, hb1.alloc hb1.size _⟩
/-- no receiver: nil, or a zero one -/
def NoRcv (w : World) (v : Value) : Prop := v = .pointer none ∨ ∃ g, v = .pointer (some ⟨g, 0, none⟩) ∧ w.cell? ⟨g, 4, none⟩ = some (.map none)
theorem rnone_no {v : Value} {w : World} (h : NoRcv w v) : Calls Tryz.prog 30 #[v] w fun e w' => e = .returned (.bool true) ∧ w = w' := by
  rcases h with rfl | ⟨g, rfl, h⟩
  · exact rnone_nil w
  · exact rnone_zero g w h
theorem rrecv_no {v : Value} {w : World} (h : NoRcv w v) (now : Int) (A : Option Addr) (nn c : Nat) : Calls Tryz.prog 14 #[v, .int .i64 now, .slice A nn c] w fun e w' => e = .returned (.tuple #[.slice none 0 0, .int .i64 1]) ∧ w = w' := by
  have HN := Lib.hid (rnone_no h)
  clear h
  go_enter Tryz.func14, Tryz.ntmps14
  go_wp2_with (go_at_call 30; refine HN.out.mono ?_; rintro e1 w1 ⟨rfl, rfl⟩)
  go_ret2
  exact ⟨rfl, rfl⟩
theorem rtick_no {v : Value} {w : World} (h : NoRcv w v) (now : Int) : Calls Tryz.prog 17 #[v, .int .i64 now] w fun e w' => e = .returned (.tuple #[.slice none 0 0, .int .i64 1]) ∧ w = w' := by
  have HN := Lib.hid (rnone_no h)
  clear h
  go_enter Tryz.func17, Tryz.ntmps17
  go_wp2_with (go_at_call 30; refine HN.out.mono ?_; rintro e1 w1 ⟨rfl, rfl⟩)
  go_ret2
  exact ⟨rfl, rfl⟩
end Go.Proofs.YtbjajboodohabaaGreat
namespace Go.Proofs.YtbjajboodohabaaGreat
open Go.RowKit Go.Shelf
attribute [local go_sem] Oper.semAt_some

theorem Blk.five' {w : World} {g : Nat} {t : TypeId} {x0 x1 x2 x3 x4 : Value} (b : Blk w g t #[x0, x1, x2, x3, x4]) : w.cell? ⟨g, 0, none⟩ = some x0 ∧ w.cell? ⟨g, 1, none⟩ = some x1 ∧ w.cell? ⟨g, 2, none⟩ = some x2 ∧ w.cell? ⟨g, 3, none⟩ = some x3 ∧ w.cell? ⟨g, 4, none⟩ = some x4 :=
  ⟨b.cell 0, b.cell 1, b.cell 2, b.cell 3, b.cell 4⟩
/-- what State gives -/
def stV (st : Rs) : Value := .agg #[.int .i64 st.next, .int .i64 st.high, .bool st.ro, .int .i64 (if st.ro then (st.trig : Int) else 0), .int .i64 (if st.ro then st.exp else 0)]
end Go.Proofs.YtbjajboodohabaaGreat
namespace Go.Proofs.YtbjajboodohabaaGreat
open Go.RowKit Go.Shelf
attribute [local go_sem] Oper.semAt_some

theorem bytes32_below (w : World) (s : ByteArray) : Below w.heap.size w (Lib.bytesWorld w 5 s) :=
  ⟨rfl, rfl, rfl, by rw [Lib.bytesWorld_size]; omega, fun k hk => Lib.bytesWorld_at_old w 5 s k hk⟩
theorem bytes32_sl (w : World) (p : List UInt8) (hp : p.length ≤ 1000000) : Sl (Lib.bytesWorld w 5 ⟨p.toArray⟩) (Lib.bytesWorld w 5 ⟨p.toArray⟩).heap.size (some ⟨w.heap.size, 0, none⟩) p.length (grownCap w p.length 0 5) (bvs p) := by
  refine ⟨by simp, grownCap_ge _ _ _ _, Nat.le_trans (grownCap_le_maxLen _ _ _ _ (by unfold maxLen; omega)) (by unfold maxLen; omega), fun _ => ⟨_, rfl, lt_of_heap (Lib.bytesWorld_at_new w 5 _), fun j u hu => World.news_of_block (Lib.bytesWorld_at_new w 5 _) j u ?_⟩⟩
  unfold bvs at hu
  rw [List.getElem?_map] at hu
  unfold Lib.bytesCells
  simp only [Array.toList_append, Array.toList_map]
  rw [List.getElem?_append_left, List.getElem?_map]
  · exact hu
  · have := (List.getElem?_eq_some_iff.1 (Option.map_eq_some_iff.1 hu).choose_spec.1).1
    simpa using this
/-- a receiver whose memory lies from base on -/
def RE (W : World) (base g n : Nat) (st : Rs) : Prop := ∃ lo hi M vb, Rcv W lo hi g M n vb st ∧ StOk st ∧ Win st ∧ base ≤ g ∧ base ≤ M
theorem RE.below {W W' : World} {base g n : Nat} {st : Rs} (h : RE W base g n st) (hb : Below W.heap.size W W') : RE W' base g n st := let ⟨lo, hi, M, vb, h1, h2⟩ := h; ⟨lo, hi, M, vb, h1.below hb, h2⟩
theorem RE.win {W : World} {base g n : Nat} {st : Rs} (h : RE W base g n st) : StOk st ∧ Win st := let ⟨_, _, _, _, _, h2, h3, _⟩ := h; ⟨h2, h3⟩
/-- what a call on a receiver gives -/
def REOut (W : World) (base g n : Nat) (R : Rs × List (List UInt8)) (e : Ending) (W' : World) : Prop :=
  ∃ lo vo, e = .returned (.tuple #[vo, .int .i64 0]) ∧ OutIs W' W.heap.size lo vo R.2 ∧ RE W' base g n R.1 ∧ Below base W W'
theorem MR.below {W W' : World} {base g M : Nat} (h : Kept (MR g M) W W') (hg : base ≤ g) (hM : base ≤ M) (hb : base ≤ W.heap.size) : Below base W W' :=
  h.below (fun k o hk => by rcases hk with rfl | rfl <;> assumption) hb
theorem rrecv_re (base g n : Nat) (st : Rs) (now : Int) (A : Option Addr) (nn c : Nat) (bs : List UInt8) (w : World) (p : Pd) (h : RE w base g n st) (hn : now ≤ 9223372036854775807)
    (hs : Sl w w.heap.size A nn c (bvs bs)) (hnn : nn ≤ 1000000) (hd : decU bs = .inr (p.sn, p.s, p.en, p.ps)) (hp : PdOk p) (hroom : n < 9223372036854775807) (hb : base ≤ w.heap.size) :
    Calls Tryz.prog 14 #[.pointer (some ⟨g, 0, none⟩), .int .i64 now, .slice A nn c] w (REOut w base g (n + 1) (recvP st now p)) := by
  obtain ⟨lo, hi, M, vb, h1, h2, h3, h4, h5⟩ := h
  refine (rrecv_ok lo hi g M n vb st now A nn c bs w p h1 h2 h3 hn hs hnn hd hp hroom).mono fun e w' ⟨vb', vo', e1, hR, hO, hK⟩ => ?_
  exact ⟨lo, vo', e1, hO, ⟨lo, _, M, vb', hR, (h2.recv hn hp).1, h3.recv h2 hn hp, h4, h5⟩, MR.below hK h4 h5 hb⟩
theorem rtick_re (base g n : Nat) (st : Rs) (now : Int) (w : World) (h : RE w base g n st) (hn : now ≤ 9223372036854775807) (hb : base ≤ w.heap.size) :
    Calls Tryz.prog 17 #[.pointer (some ⟨g, 0, none⟩), .int .i64 now] w (REOut w base g n (goesP st now)) := by
  obtain ⟨lo, hi, M, vb, h1, h2, h3, h4, h5⟩ := h
  refine (rtick_any lo hi g M n vb st now w h1 h2 h3 hn).mono fun e w' ⟨vb', vo', e1, hR, hO, hK⟩ => ?_
  exact ⟨lo, vo', e1, hO, ⟨lo, _, M, vb', hR, (h2.goes hn).1, h3.goes h2 hn, h4, h5⟩, MR.below hK h4 h5 hb⟩
/-- what takes gives -/
def TakesOut (W : World) (base g n : Nat) (st : Rs) (e : Ending) (W' : World) : Prop := e = .returned (.bool true) ∧ RE W' base g n st ∧ Below base W W'
end Go.Proofs.YtbjajboodohabaaGreat
