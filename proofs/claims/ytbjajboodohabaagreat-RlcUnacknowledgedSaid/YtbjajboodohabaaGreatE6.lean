/- rlc: an entity of unacknowledged mode: its methods hand the calls on. -/
import Derived.Test.YtbjajboodohabaaGreatE2
import Derived.Test.YtbjajboodohabaaGreatE4
namespace Go.Proofs.YtbjajboodohabaaGreat
open Go.RowKit Go.Shelf
attribute [local go_sem] Oper.semAt_some
/-- the entity's own cells -/
structure UEnt (w : World) (g u s r : Nat) : Prop where
  ent : Blk w g 64 #[.int .i64 2, .iface 97 (.pointer (some ⟨u, 0, none⟩)), .pointer none]
  un : Blk w u 99 #[.pointer (some ⟨s, 0, none⟩), .pointer (some ⟨r, 0, none⟩)]
theorem UEnt.below {w w' : World} {g u s r : Nat} (h : UEnt w g u s r) (hb : Below w.heap.size w w') : UEnt w' g u s r := ⟨h.ent.below hb h.ent.lt, h.un.below hb h.un.lt⟩
theorem UEnt.stay {w w' : World} {g u s r : Nat} (h : UEnt w g u s r) (h1 : w'.heap[g]? = w.heap[g]?) (h2 : w'.heap[u]? = w.heap[u]?) : UEnt w' g u s r := ⟨h1.trans h.ent, h2.trans h.un⟩
theorem umeth_buffered (a : Addr) (w : World) : (method 403 97 (.pointer (some a)) "userplane/rlc.buffered").run Tryz.prog w = .ok (147, .pointer (some a)) w := by kernel_rfl
theorem umeth_grant (a : Addr) (w : World) : (method 403 97 (.pointer (some a)) "userplane/rlc.grant").run Tryz.prog w = .ok (149, .pointer (some a)) w := by kernel_rfl
theorem umeth_receive (a : Addr) (w : World) : (method 403 97 (.pointer (some a)) "userplane/rlc.receive").run Tryz.prog w = .ok (150, .pointer (some a)) w := by kernel_rfl
theorem umeth_submit (a : Addr) (w : World) : (method 403 97 (.pointer (some a)) "userplane/rlc.submit").run Tryz.prog w = .ok (151, .pointer (some a)) w := by kernel_rfl
theorem umeth_tick (a : Addr) (w : World) : (method 403 97 (.pointer (some a)) "userplane/rlc.tick").run Tryz.prog w = .ok (152, .pointer (some a)) w := by kernel_rfl
section
variable {w : World} {g u s r : Nat}
theorem usubmit_of (h : UEnt w g u s r) (A : Option Addr) (n c : Nat) (k : Int) (Q : World → Prop)
    (hc : Calls Tryz.prog 10 #[.pointer (some ⟨s, 0, none⟩), .slice A n c] w fun e w' => e = .returned (.int .i64 k) ∧ Q w') :
    Calls Tryz.prog 9 #[.pointer (some ⟨g, 0, none⟩), .slice A n c] w fun e w' => e = .returned (.int .i64 k) ∧ Q w' := by
  have hin : Calls Tryz.prog 151 #[.pointer (some ⟨u, 0, none⟩), .slice A n c] w fun e w' => e = .returned (.int .i64 k) ∧ Q w' := by
    have y0 := h.un.cell 0
    simp at y0
    have HC := Lib.hid hc
    clear hc h
    go_enter Tryz.func151, Tryz.ntmps151
    go_wp2_with (go_at_call 10; refine HC.out.mono ?_; rintro e1 w1 ⟨rfl, hq⟩)
    go_ret
    exact ⟨rfl, hq⟩
  have hno := Tm.none_any g 2 _ _ w h.ent
  have x1 := h.ent.cell 1
  simp at x1
  have HN := Lib.hid hno
  have HC := Lib.hid hin
  have hme := umeth_submit ⟨u, 0, none⟩
  clear hno hc hin h
  go_enter Tryz.func9, Tryz.ntmps9
  go_wp2_with (first | (go_at_call 24; refine HN.out.mono ?_; rintro e1 w1 ⟨rfl, rfl⟩) | (go_at_call 151; refine HC.out.mono ?_; rintro e1 w1 ⟨rfl, hq⟩))
  go_ret
  exact ⟨rfl, hq⟩
theorem ugrant_of (h : UEnt w g u s r) (now n : Int) (Q : Ending → World → Prop) (hQ : ∀ e w', Q e w' → ∃ b x, e = .returned (.tuple #[b, x]))
    (hc : Calls Tryz.prog 12 #[.pointer (some ⟨s, 0, none⟩), .int .i64 n] w Q) :
    Calls Tryz.prog 11 #[.pointer (some ⟨g, 0, none⟩), .int .i64 now, .int .i64 n] w Q := by
  have HC0 := Lib.hid (hc.mono fun e w' hq => (⟨hQ e w' hq, hq⟩ : (∃ b x, e = .returned (.tuple #[b, x])) ∧ Q e w'))
  have hin : Calls Tryz.prog 149 #[.pointer (some ⟨u, 0, none⟩), .int .i64 now, .int .i64 n] w Q := by
    have y0 := h.un.cell 0
    simp at y0
    clear hc h hQ
    go_enter Tryz.func149, Tryz.ntmps149
    go_wp2_with (go_at_call 12; refine HC0.out.mono ?_; rintro e1 w1 ⟨⟨b, x, rfl⟩, hq⟩)
    exact hq
  have hno := Tm.none_any g 2 _ _ w h.ent
  have x1 := h.ent.cell 1
  simp at x1
  have HN := Lib.hid hno
  have HC := Lib.hid (hin.mono fun e w' hq => (⟨hQ e w' hq, hq⟩ : (∃ b x, e = .returned (.tuple #[b, x])) ∧ Q e w'))
  have hme := umeth_grant ⟨u, 0, none⟩
  clear hno hc hin h hQ HC0
  go_enter Tryz.func11, Tryz.ntmps11
  go_wp2_with (first | (go_at_call 24; refine HN.out.mono ?_; rintro e1 w1 ⟨rfl, rfl⟩) | (go_at_call 149; refine HC.out.mono ?_; rintro e1 w1 ⟨⟨b, x, rfl⟩, hq⟩))
  exact hq
theorem ureceive_of (h : UEnt w g u s r) (now : Int) (A : Option Addr) (n c : Nat) (Q : Ending → World → Prop) (hQ : ∀ e w', Q e w' → ∃ b x, e = .returned (.tuple #[b, x]))
    (hc : Calls Tryz.prog 14 #[.pointer (some ⟨r, 0, none⟩), .int .i64 now, .slice A n c] w Q) :
    Calls Tryz.prog 13 #[.pointer (some ⟨g, 0, none⟩), .int .i64 now, .slice A n c] w Q := by
  have HC0 := Lib.hid (hc.mono fun e w' hq => (⟨hQ e w' hq, hq⟩ : (∃ b x, e = .returned (.tuple #[b, x])) ∧ Q e w'))
  have hin : Calls Tryz.prog 150 #[.pointer (some ⟨u, 0, none⟩), .int .i64 now, .slice A n c] w Q := by
    have y1 := h.un.cell 1
    simp at y1
    clear hc h hQ
    go_enter Tryz.func150, Tryz.ntmps150
    go_wp2_with (go_at_call 14; refine HC0.out.mono ?_; rintro e1 w1 ⟨⟨b, x, rfl⟩, hq⟩)
    exact hq
  have hno := Tm.none_any g 2 _ _ w h.ent
  have x1 := h.ent.cell 1
  simp at x1
  have HN := Lib.hid hno
  have HC := Lib.hid (hin.mono fun e w' hq => (⟨hQ e w' hq, hq⟩ : (∃ b x, e = .returned (.tuple #[b, x])) ∧ Q e w'))
  have hme := umeth_receive ⟨u, 0, none⟩
  clear hno hc hin h hQ HC0
  go_enter Tryz.func13, Tryz.ntmps13
  go_wp2_with (first | (go_at_call 24; refine HN.out.mono ?_; rintro e1 w1 ⟨rfl, rfl⟩) | (go_at_call 150; refine HC.out.mono ?_; rintro e1 w1 ⟨⟨b, x, rfl⟩, hq⟩))
  exact hq
theorem utick_of (h : UEnt w g u s r) (now : Int) (Q : Ending → World → Prop) (hQ : ∀ e w', Q e w' → ∃ b x, e = .returned (.tuple #[b, x]))
    (hc : Calls Tryz.prog 17 #[.pointer (some ⟨r, 0, none⟩), .int .i64 now] w Q) :
    Calls Tryz.prog 16 #[.pointer (some ⟨g, 0, none⟩), .int .i64 now] w Q := by
  have HC0 := Lib.hid (hc.mono fun e w' hq => (⟨hQ e w' hq, hq⟩ : (∃ b x, e = .returned (.tuple #[b, x])) ∧ Q e w'))
  have hin : Calls Tryz.prog 152 #[.pointer (some ⟨u, 0, none⟩), .int .i64 now] w Q := by
    have y1 := h.un.cell 1
    simp at y1
    clear hc h hQ
    go_enter Tryz.func152, Tryz.ntmps152
    go_wp2_with (go_at_call 17; refine HC0.out.mono ?_; rintro e1 w1 ⟨⟨b, x, rfl⟩, hq⟩)
    exact hq
  have hno := Tm.none_any g 2 _ _ w h.ent
  have x1 := h.ent.cell 1
  simp at x1
  have HN := Lib.hid hno
  have HC := Lib.hid (hin.mono fun e w' hq => (⟨hQ e w' hq, hq⟩ : (∃ b x, e = .returned (.tuple #[b, x])) ∧ Q e w'))
  have hme := umeth_tick ⟨u, 0, none⟩
  clear hno hc hin h hQ HC0
  go_enter Tryz.func16, Tryz.ntmps16
  go_wp2_with (first | (go_at_call 24; refine HN.out.mono ?_; rintro e1 w1 ⟨rfl, rfl⟩) | (go_at_call 152; refine HC.out.mono ?_; rintro e1 w1 ⟨⟨b, x, rfl⟩, hq⟩))
  exact hq
theorem ubuffered_of (h : UEnt w g u s r) (k : Int) (Q : World → Prop)
    (hc : Calls Tryz.prog 19 #[.pointer (some ⟨s, 0, none⟩)] w fun e w' => e = .returned (.int .i64 k) ∧ Q w') :
    Calls Tryz.prog 18 #[.pointer (some ⟨g, 0, none⟩)] w fun e w' => e = .returned (.int .i64 k) ∧ Q w' := by
  have hin : Calls Tryz.prog 147 #[.pointer (some ⟨u, 0, none⟩)] w fun e w' => e = .returned (.int .i64 k) ∧ Q w' := by
    have y0 := h.un.cell 0
    simp at y0
    have HC := Lib.hid hc
    clear hc h
    go_enter Tryz.func147, Tryz.ntmps147
    go_wp2_with (go_at_call 19; refine HC.out.mono ?_; rintro e1 w1 ⟨rfl, hq⟩)
    go_ret
    exact ⟨rfl, hq⟩
  have hno := Tm.none_any g 2 _ _ w h.ent
  have x1 := h.ent.cell 1
  simp at x1
  have HN := Lib.hid hno
  have HC := Lib.hid hin
  have hme := umeth_buffered ⟨u, 0, none⟩
  clear hno hc hin h
  go_enter Tryz.func18, Tryz.ntmps18
  go_wp2_with (first | (go_at_call 24; refine HN.out.mono ?_; rintro e1 w1 ⟨rfl, rfl⟩) | (go_at_call 147; refine HC.out.mono ?_; rintro e1 w1 ⟨rfl, hq⟩))
  go_ret
  exact ⟨rfl, hq⟩
theorem uacked_any (h : UEnt w g u s r) : Calls Tryz.prog 40 #[.pointer (some ⟨g, 0, none⟩)] w fun e w' => e = .returned (.pointer none) ∧ w = w' := by
  have hno := Tm.none_any g 2 _ _ w h.ent
  have x2 := h.ent.cell 2
  simp at x2
  have HN := Lib.hid hno
  clear hno h
  go_enter Tryz.func40, Tryz.ntmps40
  go_wp2_with (go_at_call 24; refine HN.out.mono ?_; rintro e1 w1 ⟨rfl, rfl⟩)
  go_ret
  exact ⟨rfl, rfl⟩
theorem ufailed_any (h : UEnt w g u s r) : Calls Tryz.prog 20 #[.pointer (some ⟨g, 0, none⟩)] w fun e w' => e = .returned (.bool false) ∧ w = w' := by
  have HN := Lib.hid (uacked_any h)
  clear h
  go_enter Tryz.func20, Tryz.ntmps20
  go_wp2_with (go_at_call 40; refine HN.out.mono ?_; rintro e1 w1 ⟨rfl, rfl⟩)
  go_ret
  exact ⟨rfl, rfl⟩
theorem uconfirmed_any (h : UEnt w g u s r) : Calls Tryz.prog 21 #[.pointer (some ⟨g, 0, none⟩)] w fun e w' => e = .returned (.int .i64 0) ∧ w = w' := by
  have HN := Lib.hid (uacked_any h)
  clear h
  go_enter Tryz.func21, Tryz.ntmps21
  go_wp2_with (go_at_call 40; refine HN.out.mono ?_; rintro e1 w1 ⟨rfl, rfl⟩)
  go_ret
  exact ⟨rfl, rfl⟩
theorem uunconfirmed_any (h : UEnt w g u s r) : Calls Tryz.prog 22 #[.pointer (some ⟨g, 0, none⟩)] w fun e w' => e = .returned (.slice none 0 0) ∧ w = w' := by
  have HN := Lib.hid (uacked_any h)
  clear h
  go_enter Tryz.func22, Tryz.ntmps22
  go_wp2_with (go_at_call 40; refine HN.out.mono ?_; rintro e1 w1 ⟨rfl, rfl⟩)
  go_ret
  exact ⟨rfl, rfl⟩
end
end Go.Proofs.YtbjajboodohabaaGreat
