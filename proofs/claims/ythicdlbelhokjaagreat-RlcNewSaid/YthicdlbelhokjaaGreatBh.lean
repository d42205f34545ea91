/- law38: RlcNew: the walk. -/
import Derived.Test.YthicdlbelhokjaaGreatBg
namespace Go.Proofs.YthicdlbelhokjaaGreat
open Go.RowKit Go.Shelf
attribute [local go_sem] Oper.semAt_some

/-- the memory of region 15: the entity, the configuration -/
def RQ (w w0 : World) (m c r a0 a1 a2 a3 a4 a5 a6 : Int) (g : Nat) (W : World) : Prop :=
  Made w0 m m c a0 a1 a2 a3 a4 a5 a6 g W ∧ Blk W w.heap.size 26 (cfg m c r a0 a1 a2 a3 a4 a5 a6) ∧ Below w.heap.size w W
variable {w w0 W : World} {m c r a0 a1 a2 a3 a4 a5 a6 : Int} {g : Nat}
theorem RQ.below {W' : World} (h : RQ w w0 m c r a0 a1 a2 a3 a4 a5 a6 g W) (hb : Below W.heap.size W W') : RQ w w0 m c r a0 a1 a2 a3 a4 a5 a6 g W' :=
  ⟨h.1.below hb (Nat.le_refl _), h.2.1.below hb h.2.1.lt, h.2.2.trans (hb.mono h.2.2.size)⟩
theorem RQ.drewN (h : RQ w w0 m c r a0 a1 a2 a3 a4 a5 a6 g W) (k : Nat) : RQ w w0 m c r a0 a1 a2 a3 a4 a5 a6 g (W.drewN k) := h.below ((Below.refl _ W).drewN k)
theorem RQ.head (h : RQ w w0 m c r a0 a1 a2 a3 a4 a5 a6 g W) : W.cell? ⟨w.heap.size, 0, none⟩ = some (.int .i64 m) := h.2.1.cell 0
theorem q11 (h : RQ w w0 m c r a0 a1 a2 a3 a4 a5 a6 g W) : Calls Tryz.prog 11 #[.pointer (some ⟨g, 0, none⟩)] W fun e w' => e = .returned (.int .i64 m) ∧ RQ w w0 m c r a0 a1 a2 a3 a4 a5 a6 g w' :=
  (mode_made w0 W m c a0 a1 a2 a3 a4 a5 a6 g h.1).mono fun _ _ hh => ⟨hh.1, by rw [hh.2]; exact h⟩
theorem q12 (hv : validB m c r a0 a1 a2 a3 a4 a5 a6 = true) (h : RQ w w0 m c r a0 a1 a2 a3 a4 a5 a6 g W) : Calls Tryz.prog 12 #[.pointer (some ⟨g, 0, none⟩)] W fun e w' => e = .returned (.int .i64 0) ∧ RQ w w0 m c r a0 a1 a2 a3 a4 a5 a6 g w' :=
  (buffered_made w0 W m c r a0 a1 a2 a3 a4 a5 a6 g h.1 hv).mono fun _ _ hh => ⟨hh.1, h.below hh.2⟩
theorem q13 (hv : validB m c r a0 a1 a2 a3 a4 a5 a6 = true) (h : RQ w w0 m c r a0 a1 a2 a3 a4 a5 a6 g W) : Calls Tryz.prog 13 #[.pointer (some ⟨g, 0, none⟩)] W fun e w' => e = .returned (.bool false) ∧ RQ w w0 m c r a0 a1 a2 a3 a4 a5 a6 g w' :=
  (failed_made w0 W m c r a0 a1 a2 a3 a4 a5 a6 g h.1 hv).mono fun _ _ hh => ⟨hh.1, h.below hh.2⟩
theorem q14 (hv : validB m c r a0 a1 a2 a3 a4 a5 a6 = true) (h : RQ w w0 m c r a0 a1 a2 a3 a4 a5 a6 g W) : Calls Tryz.prog 14 #[.pointer (some ⟨g, 0, none⟩)] W fun e w' => e = .returned (.int .i64 0) ∧ RQ w w0 m c r a0 a1 a2 a3 a4 a5 a6 g w' :=
  (confirmed_made w0 W m c r a0 a1 a2 a3 a4 a5 a6 g h.1 hv).mono fun _ _ hh => ⟨hh.1, h.below hh.2⟩
theorem q15 (hv : validB m c r a0 a1 a2 a3 a4 a5 a6 = true) (h : RQ w w0 m c r a0 a1 a2 a3 a4 a5 a6 g W) : Calls Tryz.prog 15 #[.pointer (some ⟨g, 0, none⟩)] W fun e w' => e = .returned (.slice none 0 0) ∧ RQ w w0 m c r a0 a1 a2 a3 a4 a5 a6 g w' :=
  (unconfirmed_made w0 W m c r a0 a1 a2 a3 a4 a5 a6 g h.1 hv).mono fun _ _ hh => ⟨hh.1, by rw [hh.2]; exact h⟩
theorem q10 (h : RQ w w0 m c r a0 a1 a2 a3 a4 a5 a6 g W) : Calls Tryz.prog 10 #[] W fun e w' => e = .returned (.bool true) ∧ RQ w w0 m c r a0 a1 a2 a3 a4 a5 a6 g w' :=
  (known_any W).mono fun _ _ hh => ⟨hh.1, h.below hh.2⟩
theorem q7 (hc : 1 ≤ c ∧ c ≤ 1048576) (h : RQ w w0 m c r a0 a1 a2 a3 a4 a5 a6 g W) : Calls Tryz.prog 7 #[.int .i64 c] W fun e w' => (∃ p, e = .returned (.tuple #[.pointer p, .int .i64 0])) ∧ RQ w w0 m c r a0 a1 a2 a3 a4 a5 a6 g w' :=
  (unew_any c W).mono fun _ _ ⟨p, n, he, hk, hh⟩ => ⟨⟨p, hh.elim (fun q => by rw [he, q.2.2.1]) (fun q => absurd hc q.1)⟩, h.below hk⟩
theorem q8 (hc : 1 ≤ r ∧ r ≤ 1048576) (h : RQ w w0 m c r a0 a1 a2 a3 a4 a5 a6 g W) : Calls Tryz.prog 8 #[.int .i64 r] W fun e w' => (∃ p, e = .returned (.tuple #[.pointer p, .int .i64 0])) ∧ RQ w w0 m c r a0 a1 a2 a3 a4 a5 a6 g w' :=
  (urnew_any r W).mono fun _ _ ⟨p, n, he, hk, hh⟩ => ⟨⟨p, hh.elim (fun q => by rw [he, q.2.2]) (fun q => absurd hc q.1)⟩, h.below hk⟩
theorem q9 (hr : rightB a0 a1 a2 a3 a4 a5 a6 = true) (h : RQ w w0 m c r a0 a1 a2 a3 a4 a5 a6 g W) : Calls Tryz.prog 9 #[.agg #[.int .i64 a0, .int .i64 a1, .int .i64 a2, .int .i64 a3, .int .i64 a4, .int .i64 a5, .int .i64 a6]] W fun e w' => (∃ p, e = .returned (.tuple #[.pointer p, .int .i64 0])) ∧ RQ w w0 m c r a0 a1 a2 a3 a4 a5 a6 g w' :=
  (amnew_any a0 a1 a2 a3 a4 a5 a6 W).mono fun _ _ ⟨hk, hh⟩ => ⟨hh.elim (fun ⟨_, a, _, _, he, _⟩ => ⟨_, he⟩) (fun q => by rw [hr] at q; cases q.1), h.below hk⟩
/-- the memory of a refused configuration -/
def RB (w : World) (m c r a0 a1 a2 a3 a4 a5 a6 : Int) (W : World) : Prop := Blk W w.heap.size 26 (cfg m c r a0 a1 a2 a3 a4 a5 a6) ∧ Below w.heap.size w W
theorem RB.below {W' : World} (h : RB w m c r a0 a1 a2 a3 a4 a5 a6 W) (hb : Below W.heap.size W W') : RB w m c r a0 a1 a2 a3 a4 a5 a6 W' := ⟨h.1.below hb h.1.lt, h.2.trans (hb.mono h.2.size)⟩
theorem b10 (h : RB w m c r a0 a1 a2 a3 a4 a5 a6 W) : Calls Tryz.prog 10 #[] W fun e w' => e = .returned (.bool true) ∧ RB w m c r a0 a1 a2 a3 a4 a5 a6 w' :=
  (known_any W).mono fun _ _ hh => ⟨hh.1, h.below hh.2⟩
theorem b7 (n : Int) (hn : (1 ≤ c ∧ c ≤ 1048576 ∧ n = 0) ∨ (¬(1 ≤ c ∧ c ≤ 1048576) ∧ n = 2)) (h : RB w m c r a0 a1 a2 a3 a4 a5 a6 W) : Calls Tryz.prog 7 #[.int .i64 c] W fun e w' => (∃ p, e = .returned (.tuple #[.pointer p, .int .i64 n])) ∧ RB w m c r a0 a1 a2 a3 a4 a5 a6 w' :=
  (unew_any c W).mono fun _ _ ⟨p, k, he, hk, hh⟩ => ⟨⟨p, by
    have : k = n := by
      rcases hh with ⟨x, y, z, _⟩ | ⟨x, y, _⟩ <;> rcases hn with ⟨u, v, t⟩ | ⟨u, t⟩ <;> first | omega | exact absurd ⟨x, y⟩ u | exact absurd ⟨u, v⟩ x
    rw [he, this]⟩, h.below hk⟩
theorem b8 (n : Int) (hn : (1 ≤ r ∧ r ≤ 1048576 ∧ n = 0) ∨ (¬(1 ≤ r ∧ r ≤ 1048576) ∧ n = 2)) (h : RB w m c r a0 a1 a2 a3 a4 a5 a6 W) : Calls Tryz.prog 8 #[.int .i64 r] W fun e w' => (∃ p, e = .returned (.tuple #[.pointer p, .int .i64 n])) ∧ RB w m c r a0 a1 a2 a3 a4 a5 a6 w' :=
  (urnew_any r W).mono fun _ _ ⟨p, k, he, hk, hh⟩ => ⟨⟨p, by
    have : k = n := by
      rcases hh with ⟨x, y, z⟩ | ⟨x, y⟩ <;> rcases hn with ⟨u, v, t⟩ | ⟨u, t⟩ <;> first | omega | exact absurd ⟨x, y⟩ u | exact absurd ⟨u, v⟩ x
    rw [he, this]⟩, h.below hk⟩
theorem b9 (hr : rightB a0 a1 a2 a3 a4 a5 a6 = false) (h : RB w m c r a0 a1 a2 a3 a4 a5 a6 W) : Calls Tryz.prog 9 #[.agg #[.int .i64 a0, .int .i64 a1, .int .i64 a2, .int .i64 a3, .int .i64 a4, .int .i64 a5, .int .i64 a6]] W fun e w' => e = .returned (.tuple #[.pointer none, .int .i64 2]) ∧ RB w m c r a0 a1 a2 a3 a4 a5 a6 w' :=
  (amnew_any a0 a1 a2 a3 a4 a5 a6 W).mono fun _ _ ⟨hk, hh⟩ => ⟨hh.elim (fun q => by rw [hr] at q; cases q.1) (fun q => q.2), h.below hk⟩
set_option maxRecDepth 100000 in
set_option maxHeartbeats 1000000 in
theorem rlcNew_walk (m c r a0 a1 a2 a3 a4 a5 a6 : Int) (w : World) : Calls Tryz.prog 3 #[.agg (cfg m c r a0 a1 a2 a3 a4 a5 a6)] w (IsTrue w) := by
  have hm := fun W => rnew_any m c r a0 a1 a2 a3 a4 a5 a6 W
  unfold cfg at *
  have HM := Lib.hid hm
  have b0 := Blk.new w 26 #[.int .i64 m, .int .i64 c, .int .i64 r, .int .i64 a0, .int .i64 a1, .int .i64 a2, .int .i64 a3, .int .i64 a4, .int .i64 a5, .int .i64 a6]
  obtain ⟨x0, x1, x2, x3, x4, x5, x6, x7, x8, x9⟩ := b0.ten
  have hw0 := (Below.refl w.heap.size w).alloc (Nat.le_refl _) (.cells #[.int .i64 m, .int .i64 c, .int .i64 r, .int .i64 a0, .int .i64 a1, .int .i64 a2, .int .i64 a3, .int .i64 a4, .int .i64 a5, .int .i64 a6] 26)
  have HB := Lib.hid b0
  have HW := Lib.hid hw0
  clear hm b0 hw0
  go_enter Tryz.func3, Tryz.ntmps3
  go_wp2_with fail
  generalize w.alloc (.cells #[.int .i64 m, .int .i64 c, .int .i64 r, .int .i64 a0, .int .i64 a1, .int .i64 a2, .int .i64 a3, .int .i64 a4, .int .i64 a5, .int .i64 a6] 26) = w0 at *
  refine (HM.out _).mono ?_
  rintro e1 w1 ⟨hb1, h1⟩
  have hB1 := HW.out.trans (hb1.mono HW.out.size)
  have b1 := HB.out.below hb1 HB.out.lt
  have hcl := HB.out.lt
  clear x0 x1 x2 x3 x4 x5 x6 x7 x8 x9
  obtain ⟨x0, x1, x2, x3, x4, x5, x6, x7, x8, x9⟩ := b1.ten
  rcases h1 with ⟨g, rfl, hv, hmd⟩ | ⟨rfl, hv⟩
  · have HK := fun W => known_any W
    rcases hmd with ⟨rfl, hmd'⟩ | ⟨rfl, hmd'⟩ | ⟨rfl, hmd'⟩
    · have hmd : Made w0 1 1 c a0 a1 a2 a3 a4 a5 a6 g w1 := .inl ⟨rfl, hmd'⟩
      have hc := hv
      simp [validB] at hc
      have hc1 : decide ((1 : Int) ≤ c) = true := by simpa using hc.1
      have hc2 : decide (c ≤ 1048576) = true := by simpa using hc.2
      have HMD := Lib.hid hmd
      have HV := Lib.hid hv
      have hq : RQ w w0 1 c r a0 a1 a2 a3 a4 a5 a6 g w1 := ⟨hmd, b1, hB1⟩
      clear hmd hmd' hc b1 hB1 hb1 HB HW HM HK x2 x3 x4 x5 x6 x7 x8 x9
      go_wp2_with fail
      have hq := hq.drewN 1
      go_region_held3 (fun w' => w'.cell? ⟨w.heap.size, 0, none⟩ = some (.int .i64 1))
        (first | assumption | go_keep)
        (first
          | (go_at_call 11; refine (q11 (by assumption)).mono ?_; rintro e1 w2 ⟨rfl, hq⟩; have hx := hq.head)
          | (go_at_call 12; refine (q12 hv (by assumption)).mono ?_; rintro e1 w2 ⟨rfl, hq⟩; have hx := hq.head)
          | (go_at_call 13; refine (q13 hv (by assumption)).mono ?_; rintro e1 w2 ⟨rfl, hq⟩; have hx := hq.head)
          | (go_at_call 14; refine (q14 hv (by assumption)).mono ?_; rintro e1 w2 ⟨rfl, hq⟩; have hx := hq.head)
          | (go_at_call 15; refine (q15 hv (by assumption)).mono ?_; rintro e1 w2 ⟨rfl, hq⟩; have hx := hq.head)
          | (go_at_call 10; refine (q10 (by assumption)).mono ?_; rintro e1 w2 ⟨rfl, hq⟩; have hx := hq.head))
      all_goals
        go_wp2
        go_ret
        exact ⟨rfl, hq.2.2⟩
    · have hmd : Made w0 2 2 c a0 a1 a2 a3 a4 a5 a6 g w1 := .inr (.inl ⟨rfl, hmd'⟩)
      have hc := hv
      simp [validB, okU] at hc
      have hq : RQ w w0 2 c r a0 a1 a2 a3 a4 a5 a6 g w1 := ⟨hmd, b1, hB1⟩
      clear hmd hmd' b1 hB1 hb1 HB HW HM HK
      go_wp2_with (first
        | (go_at_call 7; refine (q7 ⟨hc.1.1, hc.1.2⟩ (by assumption)).mono ?_; rintro e2 w2 ⟨⟨p, rfl⟩, hq⟩; obtain ⟨x0, x1, x2, x3, x4, x5, x6, x7, x8, x9⟩ := hq.2.1.ten)
        | (go_at_call 8; refine (q8 ⟨hc.2.1, hc.2.2⟩ (by assumption)).mono ?_; rintro e2 w2 ⟨⟨p, rfl⟩, hq⟩; obtain ⟨x0, x1, x2, x3, x4, x5, x6, x7, x8, x9⟩ := hq.2.1.ten))
      have hq := hq.drewN 1
      go_region_held3 (fun w' => w'.cell? ⟨w.heap.size, 0, none⟩ = some (.int .i64 2))
        (first | assumption | go_keep)
        (first
          | (go_at_call 11; refine (q11 (by assumption)).mono ?_; rintro e1 w2 ⟨rfl, hq⟩; have hx := hq.head)
          | (go_at_call 12; refine (q12 hv (by assumption)).mono ?_; rintro e1 w2 ⟨rfl, hq⟩; have hx := hq.head)
          | (go_at_call 13; refine (q13 hv (by assumption)).mono ?_; rintro e1 w2 ⟨rfl, hq⟩; have hx := hq.head)
          | (go_at_call 14; refine (q14 hv (by assumption)).mono ?_; rintro e1 w2 ⟨rfl, hq⟩; have hx := hq.head)
          | (go_at_call 15; refine (q15 hv (by assumption)).mono ?_; rintro e1 w2 ⟨rfl, hq⟩; have hx := hq.head)
          | (go_at_call 10; refine (q10 (by assumption)).mono ?_; rintro e1 w2 ⟨rfl, hq⟩; have hx := hq.head))
      all_goals
        go_wp2
        go_ret
        exact ⟨rfl, hq.2.2⟩
    · have hmd : Made w0 3 3 c a0 a1 a2 a3 a4 a5 a6 g w1 := .inr (.inr ⟨rfl, hmd'⟩)
      have hc : rightB a0 a1 a2 a3 a4 a5 a6 = true := by simpa [validB] using hv
      have hq : RQ w w0 3 c r a0 a1 a2 a3 a4 a5 a6 g w1 := ⟨hmd, b1, hB1⟩
      clear hmd hmd' b1 hB1 hb1 HB HW HM HK
      go_wp2_with (go_at_call 9; refine (q9 hc (by assumption)).mono ?_; rintro e2 w2 ⟨⟨p, rfl⟩, hq⟩; obtain ⟨x0, x1, x2, x3, x4, x5, x6, x7, x8, x9⟩ := hq.2.1.ten)
      have hq := hq.drewN 1
      go_region_held3 (fun w' => w'.cell? ⟨w.heap.size, 0, none⟩ = some (.int .i64 3))
        (first | assumption | go_keep)
        (first
          | (go_at_call 11; refine (q11 (by assumption)).mono ?_; rintro e1 w2 ⟨rfl, hq⟩; have hx := hq.head)
          | (go_at_call 12; refine (q12 hv (by assumption)).mono ?_; rintro e1 w2 ⟨rfl, hq⟩; have hx := hq.head)
          | (go_at_call 13; refine (q13 hv (by assumption)).mono ?_; rintro e1 w2 ⟨rfl, hq⟩; have hx := hq.head)
          | (go_at_call 14; refine (q14 hv (by assumption)).mono ?_; rintro e1 w2 ⟨rfl, hq⟩; have hx := hq.head)
          | (go_at_call 15; refine (q15 hv (by assumption)).mono ?_; rintro e1 w2 ⟨rfl, hq⟩; have hx := hq.head)
          | (go_at_call 10; refine (q10 (by assumption)).mono ?_; rintro e1 w2 ⟨rfl, hq⟩; have hx := hq.head))
      all_goals
        go_wp2
        go_ret
        exact ⟨rfl, hq.2.2⟩
  · have hq : RB w m c r a0 a1 a2 a3 a4 a5 a6 w1 := ⟨b1, hB1⟩
    clear b1 hB1 hb1 HB HW HM
    by_cases m1 : m = 1
    · subst m1
      by_cases c1 : 1 ≤ c
      · have hc1 : decide ((1 : Int) ≤ c) = true := by simpa using c1
        have hc2 : decide (c ≤ 1048576) = false := by simpa [validB, c1] using hv
        clear hv c1
        go_wp2_with (go_at_call 10; refine (b10 (by assumption)).mono ?_; rintro e2 w2 ⟨rfl, hq⟩)
        go_ret
        exact ⟨rfl, hq.2⟩
      · have hc1 : decide ((1 : Int) ≤ c) = false := by simpa using c1
        clear hv c1
        go_wp2_with (go_at_call 10; refine (b10 (by assumption)).mono ?_; rintro e2 w2 ⟨rfl, hq⟩)
        go_ret
        exact ⟨rfl, hq.2⟩
    · by_cases m2 : m = 2
      · subst m2
        by_cases hc : 1 ≤ c ∧ c ≤ 1048576
        · have hr : ¬(1 ≤ r ∧ r ≤ 1048576) := by
            intro hr
            simp [validB, okU, hc.1, hc.2, hr.1, hr.2] at hv
          clear hv m1
          go_wp2_with (first | (go_at_call 7; refine (b7 0 (.inl ⟨hc.1, hc.2, rfl⟩) (by assumption)).mono ?_; rintro e2 w2 ⟨⟨p, rfl⟩, hq⟩; obtain ⟨x0, x1, x2, x3, x4, x5, x6, x7, x8, x9⟩ := hq.1.ten) | (go_at_call 8; refine (b8 2 (.inr ⟨hr, rfl⟩) (by assumption)).mono ?_; rintro e2 w2 ⟨⟨p, rfl⟩, hq⟩; obtain ⟨x0, x1, x2, x3, x4, x5, x6, x7, x8, x9⟩ := hq.1.ten) | (go_at_call 10; refine (b10 (by assumption)).mono ?_; rintro e2 w2 ⟨rfl, hq⟩))
          go_ret
          exact ⟨rfl, hq.2⟩
        · by_cases hr : 1 ≤ r ∧ r ≤ 1048576
          · clear hv m1
            go_wp2_with (first | (go_at_call 7; refine (b7 2 (.inr ⟨hc, rfl⟩) (by assumption)).mono ?_; rintro e2 w2 ⟨⟨p, rfl⟩, hq⟩; obtain ⟨x0, x1, x2, x3, x4, x5, x6, x7, x8, x9⟩ := hq.1.ten) | (go_at_call 8; refine (b8 0 (.inl ⟨hr.1, hr.2, rfl⟩) (by assumption)).mono ?_; rintro e2 w2 ⟨⟨p, rfl⟩, hq⟩; obtain ⟨x0, x1, x2, x3, x4, x5, x6, x7, x8, x9⟩ := hq.1.ten) | (go_at_call 10; refine (b10 (by assumption)).mono ?_; rintro e2 w2 ⟨rfl, hq⟩))
            go_ret
            exact ⟨rfl, hq.2⟩
          · clear hv m1
            go_wp2_with (first | (go_at_call 7; refine (b7 2 (.inr ⟨hc, rfl⟩) (by assumption)).mono ?_; rintro e2 w2 ⟨⟨p, rfl⟩, hq⟩; obtain ⟨x0, x1, x2, x3, x4, x5, x6, x7, x8, x9⟩ := hq.1.ten) | (go_at_call 8; refine (b8 2 (.inr ⟨hr, rfl⟩) (by assumption)).mono ?_; rintro e2 w2 ⟨⟨p, rfl⟩, hq⟩; obtain ⟨x0, x1, x2, x3, x4, x5, x6, x7, x8, x9⟩ := hq.1.ten) | (go_at_call 10; refine (b10 (by assumption)).mono ?_; rintro e2 w2 ⟨rfl, hq⟩))
            go_ret
            exact ⟨rfl, hq.2⟩
      · by_cases m3 : m = 3
        · subst m3
          have hr : rightB a0 a1 a2 a3 a4 a5 a6 = false := by simpa [validB] using hv
          clear hv m1 m2
          go_wp2_with (first | (go_at_call 9; refine (b9 hr (by assumption)).mono ?_; rintro e2 w2 ⟨rfl, hq⟩; obtain ⟨x0, x1, x2, x3, x4, x5, x6, x7, x8, x9⟩ := hq.1.ten) | (go_at_call 10; refine (b10 (by assumption)).mono ?_; rintro e2 w2 ⟨rfl, hq⟩))
          go_ret
          exact ⟨rfl, hq.2⟩
        · have e1 : (m == 1) = false := by simpa using m1
          have e2 : (m == 2) = false := by simpa using m2
          have e3 : (m == 3) = false := by simpa using m3
          clear hv m1 m2 m3
          go_wp2_with (go_at_call 10; refine (b10 (by assumption)).mono ?_; rintro e2 w2 ⟨rfl, hq⟩)
          go_ret
          exact ⟨rfl, hq.2⟩
end Go.Proofs.YthicdlbelhokjaaGreat
