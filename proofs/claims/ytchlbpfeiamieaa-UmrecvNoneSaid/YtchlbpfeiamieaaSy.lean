/- law32: few, Copy and Held of no receiver. -/
import Derived.Test.YtchlbpfeiamieaaSw
namespace Go.Proofs.Ytchlbpfeiamieaa
open Go.RowKit Go.Shelf
attribute [local go_sem] Oper.semAt_some

/-- an act as a value -/
def actV (t : Bool) (now : Int) (A : Option Addr) (n c : Nat) : Array Value := #[.bool t, .int .i64 now, .slice A n c]
set_option maxRecDepth 100000 in
set_option maxHeartbeats 1000000 in
theorem few1_any (b : Nat) (t : Bool) (now : Int) (A : Option Addr) (n c : Nat) (w : World) (h : Blk w b 49 (actV t now A n c)) (hn : n ≤ c) (hc : c ≤ 9223372036854775807) :
    Calls Try.prog 30 #[.slice (some ⟨b, 0, none⟩) 1 1, .int .i64 1] w fun e w' => e = .returned (.bool (decide (n ≤ 300))) ∧ w = w' := by
  have x0 : w.cell? ⟨b, 0, none⟩ = some (.bool t) := h.cell 0
  have x1 : w.cell? ⟨b, 1, none⟩ = some (.int .i64 now) := h.cell 1
  have x2 : w.cell? ⟨b, 2, none⟩ = some (.slice A n c) := h.cell 2
  clear h
  go_enter Try.func30, Try.ntmps30
  go_wp2
  go_loopg [5] 1 (fun gk s5 wr => wr = w ∧ ((s5 = .int .i64 0 ∧ gk = 1) ∨ (s5 = .int .i64 1 ∧ gk = 0 ∧ n ≤ 300)))
  case atStart => exact ⟨rfl, .inl ⟨rfl, rfl⟩⟩
  case round =>
    obtain ⟨rfl, ⟨rfl, hgk⟩ | ⟨rfl, hgk, hle⟩⟩ := hrel
    · have HGK := Lib.hid hgk
      clear hgk
      by_cases hl : n ≤ 300
      · have d1 : decide ((300 : Int) < (n : Int)) = false := by simp; omega
        go_wp2
        go_roundg 0
        case measure => rw [HGK.out]; omega
        case rel => exact ⟨rfl, .inr ⟨by go_num, rfl, hl⟩⟩
      · have d1 : decide ((300 : Int) < (n : Int)) = true := by simp; omega
        have d2 : decide (n ≤ 300) = false := by simp; omega
        have D2 := Lib.hid d2
        clear d2 hl
        go_wp2
        go_ret
        exact ⟨by rw [D2.out]; rfl, rfl⟩
    · have d2 : decide (n ≤ 300) = true := by simpa using hle
      have D2 := Lib.hid d2
      clear d2 hle
      go_wp2
      go_ret
      exact ⟨by rw [D2.out]; rfl, rfl⟩
theorem rcopy_no {v : Value} {w : World} (h : NoRcv w v) : Calls Try.prog 37 #[v] w fun e w' => e = .returned (.pointer none) ∧ w = w' := by
  have HN := Lib.hid (rnone_no h)
  clear h
  go_enter Try.func37, Try.ntmps37
  go_wp2_with (go_at_call 103; refine HN.out.mono ?_; rintro e1 w1 ⟨rfl, rfl⟩)
  go_ret
  exact ⟨rfl, rfl⟩
/-- what Held gives of no receiver -/
def HeldOut (w : World) (e : Ending) (w' : World) : Prop :=
  ∃ G, e = .returned (.func (.func 157) #[] #[.pointer (some ⟨G, 0, none⟩)]) ∧ w.heap.size ≤ G ∧ Blk w' G 160 #[.slice none 0 0] ∧ Below w.heap.size w w'
set_option maxRecDepth 100000 in
theorem rheld_no {v : Value} {w : World} (h : NoRcv w v) : Calls Try.prog 111 #[v] w (HeldOut w) := by
  have hl := (Below.refl w.heap.size w).alloc (Nat.le_refl _) (.cells #[.slice none 0 0] 160)
  have hN : NoRcv (w.alloc (.cells #[.slice none 0 0] 160)) v := by
    rcases h with rfl | ⟨g, rfl, h⟩
    · exact .inl rfl
    · exact .inr ⟨g, rfl, (World.cell?_alloc_lt w _ _ (World.block_lt_of_cell? w _ h)).trans h⟩
  have HN := Lib.hid (rnone_no hN)
  have hb := Blk.new w 160 #[.slice none 0 0]
  have HB := Lib.hid hb
  have HL := Lib.hid hl
  clear h hN hl hb
  go_enter Try.func111, Try.ntmps111
  go_wp2_with (go_at_call 103; refine HN.out.mono ?_; rintro e1 w1 ⟨rfl, rfl⟩)
  go_ret
  exact ⟨_, rfl, Nat.le_refl _, HB.out, HL.out⟩
end Go.Proofs.Ytchlbpfeiamieaa
