/- law32: UmrecvNone. -/
import Derived.Test.YtchlbpfeiamieaaSz
namespace Go.Proofs.Ytchlbpfeiamieaa
open Go.RowKit Go.Shelf
attribute [local go_sem] Oper.semAt_some

theorem NoRcv.below {w w' : World} {v : Value} (h : NoRcv w v) (hb : Below w.heap.size w w') : NoRcv w' v := by
  rcases h with rfl | ⟨g, rfl, h⟩
  · exact .inl rfl
  · exact .inr ⟨g, rfl, (hb.cell (p := ⟨g, 4, none⟩) (World.block_lt_of_cell? w _ h)).trans h⟩
theorem eq62z (w : World) : (binOp .eql 62 (.agg #[.int .i64 0, .int .i64 0, .bool false, .int .i64 0, .int .i64 0]) (.agg #[.int .i64 0, .int .i64 0, .bool false, .int .i64 0, .int .i64 0])).run Try.prog w = .ok (.bool true) w := by kernel_rfl
theorem NoRcv.ptr {w : World} {v : Value} (h : NoRcv w v) : ∃ p, v = .pointer p := by
  rcases h with rfl | ⟨g, rfl, _⟩
  · exact ⟨_, rfl⟩
  · exact ⟨_, rfl⟩
set_option maxRecDepth 100000 in
set_option maxHeartbeats 2000000 in
theorem umrecvNone_walk (t : Bool) (now : Int) (A : Option Addr) (n c : Nat) (zero : Bool) (w : World) (hn : n ≤ c) (hc : c ≤ 9223372036854775807) : Calls Try.prog 8 #[.agg (actV t now A n c), .bool zero] w (IsTrue w) := by
  have hb1 := Blk.new w 49 (actV t now A n c)
  have hb2 : Blk ((w.alloc (.cells (actV t now A n c) 49)).alloc (.cells (actV t now A n c) 49)) (w.heap.size + 1) 49 (actV t now A n c) := by
    have := Blk.new (w.alloc (.cells (actV t now A n c) 49)) 49 (actV t now A n c)
    simpa using this
  have hba : Below w.heap.size w ((w.alloc (.cells (actV t now A n c) 49)).alloc (.cells (actV t now A n c) 49)) := ((Below.refl _ w).alloc (Nat.le_refl _) _).alloc (by simp) _
  have hfew := few1_any (w.heap.size + 1) t now A n c _ hb2 hn hc
  have hb1' := hb1.alloc (.cells (actV t now A n c) 49)
  have hwk := fun W => works32_any W
  have HFEW := Lib.hid hfew
  have HBA := Lib.hid hba
  have HB1 := Lib.hid hb1'
  have HWK := Lib.hid hwk
  have q62 := eq62z
  clear hb1 hb2 hba hfew hb1' hwk
  unfold actV at *
  go_enter Try.func8, Try.ntmps8
  by_cases h300 : n ≤ 300
  · rw [decide_eq_true h300] at HFEW
    clear h300
    go_upto_region 4 with (go_at_call 30; refine HFEW.out.mono ?_; rintro e1 w1 ⟨rfl, rfl⟩)
    generalize (w.alloc (.cells #[.bool t, .int .i64 now, .slice A n c] 49)).alloc (.cells #[.bool t, .int .i64 now, .slice A n c] 49) = w1 at *
    go_upto_if 15 with (fail)
    go_cut [5] (fun s5 wx => ∃ p5, s5 = .pointer p5 ∧ NoRcv wx (.pointer p5) ∧ Below w1.heap.size w1 wx)
    case first =>
      cases zero with
      | false =>
        go_wp2_with fail
        go_meet
        exact ⟨none, rfl, .inl rfl, Below.refl _ _⟩
      | true =>
        have hz := Blk.new w1 57 #[.slice none 0 0, .bool false, .int .i64 0, .int .i64 0, .map none, .int .i64 0, .int .i64 0, .bool false, .int .i64 0, .int .i64 0, .int .i64 0]
        have HZ := Lib.hid hz
        clear hz
        go_wp2_with fail
        go_meet
        exact ⟨_, rfl, .inr ⟨w1.heap.size, rfl, HZ.out.cell 4⟩, (Below.refl _ _).alloc (Nat.le_refl _) _⟩
    case rest =>
    obtain ⟨p5, rfl, hno, hb3⟩ := hcut
    have b1 := HB1.out.below hb3 HB1.out.lt
    obtain ⟨x0, x1, x2⟩ : wc.cell? ⟨w.heap.size, 0, none⟩ = some (.bool t) ∧ wc.cell? ⟨w.heap.size, 1, none⟩ = some (.int .i64 now) ∧ wc.cell? ⟨w.heap.size, 2, none⟩ = some (.slice A n c) := ⟨b1.cell 0, b1.cell 1, b1.cell 2⟩
    have HRC := Lib.hid (rrecv_no hno now A n c)
    have HTK := Lib.hid (rtick_no hno now)
    have HST := Lib.hid (rstate_no hno)
    have HNO := Lib.hid hno
    have HB3 := Lib.hid (HBA.out.trans (hb3.mono HBA.out.size))
    clear hno hb3 b1 HFEW HB1
    go_wp2_with (first
      | (go_at_call 32; refine HRC.out.mono ?_; rintro e1 w2 ⟨rfl, rfl⟩)
      | (go_at_call 33; refine HTK.out.mono ?_; rintro e1 w2 ⟨rfl, rfl⟩)
      | (go_at_call 34; refine (num32_any _ _).mono ?_; rintro e1 w2 ⟨rfl, rfl⟩)
      | (go_at_call 35; refine HST.out.mono ?_; rintro e1 w3 ⟨rfl, hb4⟩; have hno4 := HNO.out.below hb4; have hB4 := HB3.out.trans (hb4.mono HB3.out.size))
      | (go_at_call 36; refine (over_no hno4).mono ?_; rintro e1 w4 ⟨rfl, hb5⟩; have hno5 := hno4.below hb5; have hB5 := hB4.trans (hb5.mono hB4.size))
      | (go_at_call 37; refine (rcopy_no hno5).mono ?_; rintro e1 w5 ⟨rfl, rfl⟩)
      | (go_at_call 31; refine (HWK.out _).mono ?_; rintro e1 w6 ⟨rfl, hb6⟩; have hB6 := hB5.trans (hb6.mono hB5.size)))
    go_ret
    exact ⟨rfl, hB6⟩
  · rw [decide_eq_false h300] at HFEW
    clear h300
    go_wp2_with (first
      | (go_at_call 30; refine HFEW.out.mono ?_; rintro e1 w1 ⟨rfl, rfl⟩)
      | (go_at_call 31; refine (HWK.out _).mono ?_; rintro e1 w2 ⟨rfl, hbw⟩))
    go_ret
    exact ⟨rfl, HBA.out.trans (hbw.mono HBA.out.size)⟩
end Go.Proofs.Ytchlbpfeiamieaa
