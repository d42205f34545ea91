/- umrecv: New, Tick, Receive of what is no PDU, the methods of no receiver, State. -/
import Derived.Test.YtchlbpfeiamieaaSr
import Derived.Carry
namespace Go.Proofs.Ytchlbpfeiamieaa
open Go.RowKit Go.Shelf
attribute [local go_sem] Oper.semAt_some

theorem rnew_bad (d : Int) (w : World) (h : d < 1 ∨ 1048576 < d) : Calls Try.prog 67 #[.int .i64 d] w fun e w' => e = .returned (.tuple #[.pointer none, .int .i64 2]) ∧ w = w' := by
  by_cases h1 : d < 1
  · go_enter Try.func67, Try.ntmps67
    go_wp2
    go_ret2
    exact ⟨rfl, rfl⟩
  · have h1' : decide (d < 1) = false := by simpa using h1
    have h2 : 1048576 < d := by omega
    go_enter Try.func67, Try.ntmps67
    go_wp2
    go_ret2
    exact ⟨rfl, rfl⟩
/-- a new receiver -/
def NewR (w : World) (d : Int) (e : Ending) (w' : World) : Prop :=
  e = .returned (.tuple #[.pointer (some ⟨w.heap.size + 1, 0, none⟩), .int .i64 0]) ∧ Rcv w' (w.heap.size + 2) (w.heap.size + 2) (w.heap.size + 1) w.heap.size 0 (.slice none 0 0) (newRs d) ∧ Below w.heap.size w w'
theorem rnew_ok (d : Int) (w : World) (h1 : 1 ≤ d) (h2 : d ≤ 1048576) : Calls Try.prog 67 #[.int .i64 d] w (NewR w d) := by
  have hmm := @run_makeMap Try.prog
  have h1' : decide (d < 1) = false := by simp; omega
  have h2' : decide (1048576 < d) = false := by simp; omega
  go_enter Try.func67, Try.ntmps67
  go_wp2
  go_ret2
  have hb := Blk.new (w.alloc (.map #[] 0)) 57 (rcv (.slice none 0 0) w.heap.size (newRs d))
  rw [World.size_alloc] at hb
  refine ⟨rfl, ⟨hb, World.ownsRow_nil _ _ _ _, ⟨fun _ => none, ?_, fun k => ⟨fun _ => rfl, fun p hp => by cases hp⟩⟩, by omega, by omega, by omega, by simp, by simp⟩, ((Below.refl _ _).alloc (Nat.le_refl _) _).alloc (by simp) _⟩
  exact (MapIs.made Try.prog 3 w).same (Below.heap_alloc _ _ _ (by simp))
theorem rtick_any (lo hi g M n : Nat) (vb : Value) (st : Rs) (now : Int) (w : World) (h : Rcv w lo hi g M n vb st) (ho : StOk st) (hw : Win st) (hn : now ≤ 1000000000000) :
    Calls Try.prog 33 #[.pointer (some ⟨g, 0, none⟩), .int .i64 now] w (RecvOut w lo g M n (goesP st now)) := by
  have hno := rnone_any lo hi g M n vb st w h
  have hgo := rgoes_any lo hi g M n vb st now w h ho hw hn
  have HNO := Lib.hid hno
  have HGO := Lib.hid hgo
  clear h ho hw hno hgo
  go_enter Try.func33, Try.ntmps33
  go_wp2_with (first
    | (go_at_call 103; refine HNO.out.mono ?_; rintro e1 w1 ⟨rfl, rfl⟩)
    | (go_at_call 104; refine HGO.out.mono ?_; rintro e2 w3 ⟨vb3, vo3, rfl, hR3, hO3, hK3⟩))
  go_ret2
  exact ⟨vb3, vo3, rfl, hR3.hiMono hR3.hhi (Nat.le_refl _), hO3, hK3⟩
/-- what is no PDU -/
theorem rrecv_bad (lo hi g M n : Nat) (vb : Value) (st : Rs) (now : Int) (A : Option Addr) (nn c : Nat) (bs : List UInt8) (er : Nat) (w : World) (h : Rcv w lo hi g M n vb st) (hs : Sl w w.heap.size A nn c (bvs bs)) (hnn : nn ≤ 1000000) (hd : decU bs = .inl er) (her : er ≠ 0) :
    Calls Try.prog 32 #[.pointer (some ⟨g, 0, none⟩), .int .i64 now, .slice A nn c] w fun e w' => e = .returned (.tuple #[.slice none 0 0, .int .i64 er]) ∧ Rcv w' lo hi g M n vb st ∧ Below w.heap.size w w' := by
  have hno := rnone_any lo hi g M n vb st w h
  have hdec := decode_any A nn c bs w hs hnn
  rw [hd] at hdec
  have hdec : Calls Try.prog 23 #[.slice A nn c] w fun e w1 => e = .returned (.tuple #[.agg #[.int .i64 0, .bool false, .bool false, .slice none 0 0], .int .i64 er]) ∧ Below w.heap.size w w1 := by
    refine hdec.mono fun e w1 hh => ?_
    obtain ⟨hb1, ⟨er', he, hee⟩ | ⟨sn', s', en', ps', vo, he, _⟩⟩ := hh
    · cases he
      exact ⟨hee, hb1⟩
    · cases he
  have hz : ((er : Int) != 0) = true := by simp; omega
  have HNO := Lib.hid hno
  have HDEC := Lib.hid hdec
  have HH := Lib.hid h
  clear hno hdec hd h hs hnn her
  go_enter Try.func32, Try.ntmps32
  go_wp2_with (first
    | (go_at_call 103; refine HNO.out.mono ?_; rintro e1 w1 ⟨rfl, rfl⟩)
    | (go_at_call 23; refine HDEC.out.mono ?_; rintro e1 w1 ⟨rfl, hb1⟩))
  go_ret2
  exact ⟨rfl, (HH.out.below hb1).alloc _, hb1.alloc hb1.size _⟩
/-- no receiver: nil, or a zero one -/
def NoRcv (w : World) (v : Value) : Prop := v = .pointer none ∨ ∃ g, v = .pointer (some ⟨g, 0, none⟩) ∧ w.cell? ⟨g, 4, none⟩ = some (.map none)
theorem rnone_no {v : Value} {w : World} (h : NoRcv w v) : Calls Try.prog 103 #[v] w fun e w' => e = .returned (.bool true) ∧ w = w' := by
  rcases h with rfl | ⟨g, rfl, h⟩
  · exact rnone_nil w
  · exact rnone_zero g w h
theorem rrecv_no {v : Value} {w : World} (h : NoRcv w v) (now : Int) (A : Option Addr) (nn c : Nat) : Calls Try.prog 32 #[v, .int .i64 now, .slice A nn c] w fun e w' => e = .returned (.tuple #[.slice none 0 0, .int .i64 1]) ∧ w = w' := by
  have HN := Lib.hid (rnone_no h)
  clear h
  go_enter Try.func32, Try.ntmps32
  go_wp2_with (go_at_call 103; refine HN.out.mono ?_; rintro e1 w1 ⟨rfl, rfl⟩)
  go_ret2
  exact ⟨rfl, rfl⟩
theorem rtick_no {v : Value} {w : World} (h : NoRcv w v) (now : Int) : Calls Try.prog 33 #[v, .int .i64 now] w fun e w' => e = .returned (.tuple #[.slice none 0 0, .int .i64 1]) ∧ w = w' := by
  have HN := Lib.hid (rnone_no h)
  clear h
  go_enter Try.func33, Try.ntmps33
  go_wp2_with (go_at_call 103; refine HN.out.mono ?_; rintro e1 w1 ⟨rfl, rfl⟩)
  go_ret2
  exact ⟨rfl, rfl⟩
end Go.Proofs.Ytchlbpfeiamieaa
