/- law38: RlcNil: a nil and a zero entity. -/
import Derived.Test.YthicdlbelhokjaaGreatAh
namespace Go.Proofs.YthicdlbelhokjaaGreat
open Go.RowKit
attribute [local go_sem] Oper.semAt_some

/-- p is nil, or points to a zero entity -/
def NoneAt (p : Value) (w : World) : Prop := p = .pointer none ∨ ∃ g, p = .pointer (some ⟨g, 0, none⟩) ∧ Blk w g 67 #[.int .i64 0, .nilIface, .pointer none]
theorem NoneAt.drewN {p : Value} {w : World} (h : NoneAt p w) (k : Nat) : NoneAt p (w.drewN k) := h
theorem NoneAt.below {p : Value} {w w' : World} {B : Nat} (h : NoneAt p w) (hb : Below B w w') (hB : w.heap.size ≤ B) : NoneAt p w' := by
  rcases h with h | ⟨g, e, hg⟩
  · exact .inl h
  · exact .inr ⟨g, e, hg.below hb (by have := hg.lt; omega)⟩
theorem none_is (p : Value) (w : World) (h : NoneAt p w) : Calls Tryz.prog 36 #[p] w fun e w' => e = .returned (.bool true) ∧ w = w' := by
  rcases h with rfl | ⟨g, rfl, hg⟩
  · exact none_nil w
  · exact none_any g 0 _ _ w hg
theorem submit_none (p b : Value) (w : World) (h : NoneAt p w) : Calls Tryz.prog 17 #[p, b] w fun e w' => e = .returned (.int .i64 1) ∧ w = w' := by
  have HN := Lib.hid (none_is p w h)
  go_enter Tryz.func17, Tryz.ntmps17
  go_wp2_with (go_at_call 36; refine HN.out.mono ?_; rintro e1 w1 ⟨rfl, rfl⟩)
  go_ret
  exact ⟨rfl, rfl⟩
theorem grant_none (p a b : Value) (w : World) (h : NoneAt p w) : Calls Tryz.prog 19 #[p, a, b] w fun e w' => e = .returned (.tuple #[.slice none 0 0, .int .i64 1]) ∧ w = w' := by
  have HN := Lib.hid (none_is p w h)
  go_enter Tryz.func19, Tryz.ntmps19
  go_wp2_with (go_at_call 36; refine HN.out.mono ?_; rintro e1 w1 ⟨rfl, rfl⟩)
  go_ret2
  exact ⟨rfl, rfl⟩
theorem receive_none (p a b : Value) (w : World) (h : NoneAt p w) : Calls Tryz.prog 21 #[p, a, b] w fun e w' => e = .returned (.tuple #[.slice none 0 0, .int .i64 1]) ∧ w = w' := by
  have HN := Lib.hid (none_is p w h)
  go_enter Tryz.func21, Tryz.ntmps21
  go_wp2_with (go_at_call 36; refine HN.out.mono ?_; rintro e1 w1 ⟨rfl, rfl⟩)
  go_ret2
  exact ⟨rfl, rfl⟩
theorem tick_none (p a : Value) (w : World) (h : NoneAt p w) : Calls Tryz.prog 23 #[p, a] w fun e w' => e = .returned (.tuple #[.slice none 0 0, .int .i64 1]) ∧ w = w' := by
  have HN := Lib.hid (none_is p w h)
  go_enter Tryz.func23, Tryz.ntmps23
  go_wp2_with (go_at_call 36; refine HN.out.mono ?_; rintro e1 w1 ⟨rfl, rfl⟩)
  go_ret2
  exact ⟨rfl, rfl⟩
theorem mode_none (p : Value) (w : World) (h : NoneAt p w) : Calls Tryz.prog 11 #[p] w fun e w' => e = .returned (.int .i64 0) ∧ w' = w := by
  have HN := Lib.hid (none_is p w h)
  go_enter Tryz.func11, Tryz.ntmps11
  go_wp2_with (go_at_call 36; refine HN.out.mono ?_; rintro e1 w1 ⟨rfl, rfl⟩)
  go_ret
  exact ⟨rfl, rfl⟩
theorem buffered_none (p : Value) (w : World) (h : NoneAt p w) : Calls Tryz.prog 12 #[p] w fun e w' => e = .returned (.int .i64 0) ∧ w' = w := by
  have HN := Lib.hid (none_is p w h)
  go_enter Tryz.func12, Tryz.ntmps12
  go_wp2_with (go_at_call 36; refine HN.out.mono ?_; rintro e1 w1 ⟨rfl, rfl⟩)
  go_ret
  exact ⟨rfl, rfl⟩
theorem acked_none (p : Value) (w : World) (h : NoneAt p w) : Calls Tryz.prog 37 #[p] w fun e w' => e = .returned (.pointer none) ∧ w = w' := by
  have HN := Lib.hid (none_is p w h)
  go_enter Tryz.func37, Tryz.ntmps37
  go_wp2_with (go_at_call 36; refine HN.out.mono ?_; rintro e1 w1 ⟨rfl, rfl⟩)
  go_ret
  exact ⟨rfl, rfl⟩
theorem failed_of (p : Value) (w : World) (h : Calls Tryz.prog 37 #[p] w fun e w' => e = .returned (.pointer none) ∧ w = w') : Calls Tryz.prog 13 #[p] w fun e w' => e = .returned (.bool false) ∧ w' = w := by
  have HN := Lib.hid h
  clear h
  go_enter Tryz.func13, Tryz.ntmps13
  go_wp2_with (go_at_call 37; refine HN.out.mono ?_; rintro e1 w1 ⟨rfl, rfl⟩)
  go_ret
  exact ⟨rfl, rfl⟩
theorem confirmed_of (p : Value) (w : World) (h : Calls Tryz.prog 37 #[p] w fun e w' => e = .returned (.pointer none) ∧ w = w') : Calls Tryz.prog 14 #[p] w fun e w' => e = .returned (.int .i64 0) ∧ w' = w := by
  have HN := Lib.hid h
  clear h
  go_enter Tryz.func14, Tryz.ntmps14
  go_wp2_with (go_at_call 37; refine HN.out.mono ?_; rintro e1 w1 ⟨rfl, rfl⟩)
  go_ret
  exact ⟨rfl, rfl⟩
theorem unconfirmed_of (p : Value) (w : World) (h : Calls Tryz.prog 37 #[p] w fun e w' => e = .returned (.pointer none) ∧ w = w') : Calls Tryz.prog 15 #[p] w fun e w' => e = .returned (.slice none 0 0) ∧ w' = w := by
  have HN := Lib.hid h
  clear h
  go_enter Tryz.func15, Tryz.ntmps15
  go_wp2_with (go_at_call 37; refine HN.out.mono ?_; rintro e1 w1 ⟨rfl, rfl⟩)
  go_ret
  exact ⟨rfl, rfl⟩
theorem reports_of (p a : Value) (w : World) (h : Calls Tryz.prog 37 #[p] w fun e w' => e = .returned (.pointer none) ∧ w = w') : Calls Tryz.prog 26 #[p, a] w fun e w' => e = .returned (.bool false) ∧ w' = w := by
  have HN := Lib.hid h
  clear h
  go_enter Tryz.func26, Tryz.ntmps26
  go_wp2_with (go_at_call 37; refine HN.out.mono ?_; rintro e1 w1 ⟨rfl, rfl⟩)
  go_ret
  exact ⟨rfl, rfl⟩
theorem copy_nil (w : World) : Calls Tryz.prog 27 #[.pointer none] w fun e w' => e = .returned (.pointer none) ∧ w = w' := by
  go_enter Tryz.func27, Tryz.ntmps27
  go_wp2
  go_ret
  exact ⟨rfl, rfl⟩
/-- call on no entity -/
def CallNone (w : World) (e : Ending) (w' : World) : Prop := e = .returned (.tuple #[.slice none 0 0, .slice none 0 0, .int .i64 1]) ∧ Below w.heap.size w w'
theorem call_none (p : Value) (k now n : Int) (A : Option Addr) (m c : Nat) (w : World) (h : NoneAt p w) (hk : 1 ≤ k ∧ k ≤ 4) : Calls Tryz.prog 25 #[p, .agg #[.int .i64 k, .int .i64 now, .int .i64 n, .slice A m c]] w (CallNone w) := by
  have hb := (Below.refl w.heap.size w).alloc (Nat.le_refl _) (.cells #[.int .i64 k, .int .i64 now, .int .i64 n, .slice A m c] 53)
  have hA := h.below hb (Nat.le_refl _)
  have HB := Lib.hid hb
  have H1 := Lib.hid (fun b => submit_none p b _ hA)
  have H2 := Lib.hid (fun a b => grant_none p a b _ hA)
  have H3 := Lib.hid (fun a b => receive_none p a b _ hA)
  have H4 := Lib.hid (fun a => tick_none p a _ hA)
  clear hb hA h
  rcases (show k = 1 ∨ k = 2 ∨ k = 3 ∨ k = 4 by omega) with rfl | rfl | rfl | rfl
  · go_enter Tryz.func25, Tryz.ntmps25
    go_wp2_with (go_at_call 17; refine (H1.out _).mono ?_; rintro e1 w1 ⟨rfl, rfl⟩)
    go_ret3
    exact ⟨rfl, HB.out⟩
  · go_enter Tryz.func25, Tryz.ntmps25
    go_wp2_with (go_at_call 19; refine (H2.out _ _).mono ?_; rintro e1 w1 ⟨rfl, rfl⟩)
    go_ret3
    exact ⟨rfl, HB.out⟩
  · go_enter Tryz.func25, Tryz.ntmps25
    go_wp2_with (go_at_call 21; refine (H3.out _ _).mono ?_; rintro e1 w1 ⟨rfl, rfl⟩)
    go_ret3
    exact ⟨rfl, HB.out⟩
  · go_enter Tryz.func25, Tryz.ntmps25
    go_wp2_with (go_at_call 23; refine (H4.out _).mono ?_; rintro e1 w1 ⟨rfl, rfl⟩)
    go_ret3
    exact ⟨rfl, HB.out⟩
end Go.Proofs.YthicdlbelhokjaaGreat
