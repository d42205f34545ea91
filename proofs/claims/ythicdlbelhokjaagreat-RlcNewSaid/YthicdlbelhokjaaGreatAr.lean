/- am: right, the constructors of the two halves. -/
import Derived.Test.YthicdlbelhokjaaGreatAq
namespace Go.Proofs.YthicdlbelhokjaaGreat
open Go.RowKit
attribute [local go_sem] Oper.semAt_some

/-- all numbers lie in a range -/
def within (lo hi : Int) (xs : List Int) : Bool := !xs.any (outside lo hi)
/-- the check of a configuration -/
def rightB (a0 a1 a2 a3 a4 a5 a6 : Int) : Bool := within 0 1024 [a0] && (within 0 1048576 [a1] && (within 1 1048576 [a2] && (within 0 1048576 [a3, a4] && (within 0 64 [a5] && within 1 1048576 [a6]))))
def cf7 (a0 a1 a2 a3 a4 a5 a6 : Int) : Array Value := #[.int .i64 a0, .int .i64 a1, .int .i64 a2, .int .i64 a3, .int .i64 a4, .int .i64 a5, .int .i64 a6]
/-- a configuration in memory -/
def CfM (w : World) (g : Nat) (a0 a1 a2 a3 a4 a5 a6 : Int) (W : World) : Prop := Blk W g 24 (cf7 a0 a1 a2 a3 a4 a5 a6) ∧ Below w.heap.size w W
theorem CfM.seven {w W : World} {g : Nat} {a0 a1 a2 a3 a4 a5 a6 : Int} (h : CfM w g a0 a1 a2 a3 a4 a5 a6 W) : W.cell? ⟨g, 0, none⟩ = some (.int .i64 a0) ∧ W.cell? ⟨g, 1, none⟩ = some (.int .i64 a1) ∧ W.cell? ⟨g, 2, none⟩ = some (.int .i64 a2) ∧ W.cell? ⟨g, 3, none⟩ = some (.int .i64 a3) ∧ W.cell? ⟨g, 4, none⟩ = some (.int .i64 a4) ∧ W.cell? ⟨g, 5, none⟩ = some (.int .i64 a5) ∧ W.cell? ⟨g, 6, none⟩ = some (.int .i64 a6) :=
  ⟨h.1.cell 0, h.1.cell 1, h.1.cell 2, h.1.cell 3, h.1.cell 4, h.1.cell 5, h.1.cell 6⟩
theorem CfM.new (w : World) (a0 a1 a2 a3 a4 a5 a6 : Int) : CfM w w.heap.size a0 a1 a2 a3 a4 a5 a6 (w.alloc (.cells #[.int .i64 a0, .int .i64 a1, .int .i64 a2, .int .i64 a3, .int .i64 a4, .int .i64 a5, .int .i64 a6] 24)) := ⟨Blk.new w 24 _, (Below.refl _ _).alloc (Nat.le_refl _) _⟩
/-- a new sender -/
def snd21 (a0 a1 a2 a3 a4 a5 a6 : Int) : Array Value := #[.int .i64 a0, .int .i64 a1, .int .i64 a2, .int .i64 a3, .int .i64 a4, .int .i64 a5, .int .i64 a6, .slice none 0 0, .int .i64 0, .int .i64 0, .int .i64 0, .int .i64 0, .slice none 0 0, .int .i64 0, .int .i64 0, .int .i64 0, .bool false, .int .i64 0, .bool false, .bool false, .int .i64 0]
def A32 (w : World) (a0 a1 a2 a3 a4 a5 a6 : Int) (e : Ending) (w' : World) : Prop :=
  Below w.heap.size w w' ∧
    ((rightB a0 a1 a2 a3 a4 a5 a6 = true ∧ ∃ s, e = .returned (.tuple #[.pointer (some ⟨s, 0, none⟩), .int .i64 0]) ∧ w.heap.size ≤ s ∧ Blk w' s 121 (snd21 a0 a1 a2 a3 a4 a5 a6)) ∨ (rightB a0 a1 a2 a3 a4 a5 a6 = false ∧ e = .returned (.tuple #[.pointer none, .int .i64 2])))
def A35 (w : World) (a0 a1 a2 a3 a4 a5 a6 : Int) (e : Ending) (w' : World) : Prop :=
  Below w.heap.size w w' ∧
    ((rightB a0 a1 a2 a3 a4 a5 a6 = true ∧ ∃ s, e = .returned (.tuple #[.pointer (some ⟨s, 0, none⟩), .int .i64 0])) ∨ (rightB a0 a1 a2 a3 a4 a5 a6 = false ∧ e = .returned (.tuple #[.pointer none, .int .i64 2])))

theorem in52_new (lo hi : Int) (xs : List Int) (cs : Array Value) (hcs : cs = (ints xs).toArray) (n r : Nat) (hn : xs.length = n) (hsm : n ≤ 1000) {w W : World} {g : Nat} {a0 a1 a2 a3 a4 a5 a6 : Int} (h : CfM w g a0 a1 a2 a3 a4 a5 a6 W) (hr : W.heap.size = r) :
    Calls Tryz.prog 52 #[.int .i64 lo, .int .i64 hi, .slice (some ⟨r, 0, none⟩) n n] (W.alloc (.cells cs 3)) fun e w' => e = .returned (.bool (within lo hi xs)) ∧ CfM w g a0 a1 a2 a3 a4 a5 a6 w' := by
  subst hcs hr
  refine (in59 lo hi W.heap.size n xs _ hn hsm (Blk.new W 3 _)).mono ?_
  rintro e w' ⟨rfl, hk⟩
  have hk2 := hk.mono (B' := w.heap.size) (by have := h.2.size; simp; omega)
  have h0 := h.2.alloc h.2.size (.cells (ints xs).toArray 3)
  exact ⟨rfl, (h.1.alloc _).below hk (by have := h.1.lt; simp; omega), h0.trans hk2⟩
theorem in52_1 (lo hi x : Int) (r : Nat) {w W : World} {g : Nat} {a0 a1 a2 a3 a4 a5 a6 : Int} (h : CfM w g a0 a1 a2 a3 a4 a5 a6 W) (hr : W.heap.size = r) :
    Calls Tryz.prog 52 #[.int .i64 lo, .int .i64 hi, .slice (some ⟨r, 0, none⟩) 1 1] (W.alloc (.cells #[.int .i64 x] 3)) fun e w' => e = .returned (.bool (within lo hi [x])) ∧ CfM w g a0 a1 a2 a3 a4 a5 a6 w' :=
  in52_new lo hi [x] _ rfl 1 r rfl (by decide) h hr
theorem in52_2 (lo hi x y : Int) (r : Nat) {w W : World} {g : Nat} {a0 a1 a2 a3 a4 a5 a6 : Int} (h : CfM w g a0 a1 a2 a3 a4 a5 a6 W) (hr : W.heap.size = r) :
    Calls Tryz.prog 52 #[.int .i64 lo, .int .i64 hi, .slice (some ⟨r, 0, none⟩) 2 2] (W.alloc (.cells #[.int .i64 x, .int .i64 y] 3)) fun e w' => e = .returned (.bool (within lo hi [x, y])) ∧ CfM w g a0 a1 a2 a3 a4 a5 a6 w' :=
  in52_new lo hi [x, y] _ rfl 2 r rfl (by decide) h hr
set_option maxRecDepth 100000 in
set_option maxHeartbeats 1000000 in
theorem right46 (a0 a1 a2 a3 a4 a5 a6 : Int) (w : World) : Calls Tryz.prog 46 #[.agg (cf7 a0 a1 a2 a3 a4 a5 a6)] w fun e w' => e = .returned (.bool (rightB a0 a1 a2 a3 a4 a5 a6)) ∧ Below w.heap.size w w' := by
  have hc := CfM.new w a0 a1 a2 a3 a4 a5 a6
  obtain ⟨b, hb⟩ : ∃ b, rightB a0 a1 a2 a3 a4 a5 a6 = b := ⟨_, rfl⟩
  rw [hb]
  unfold rightB at hb
  unfold cf7
  go_enter Tryz.func46, Tryz.ntmps46
  go_wp2_with fail
  have hz := World.size_alloc w (.cells #[.int .i64 a0, .int .i64 a1, .int .i64 a2, .int .i64 a3, .int .i64 a4, .int .i64 a5, .int .i64 a6] 24)
  generalize w.alloc (.cells #[.int .i64 a0, .int .i64 a1, .int .i64 a2, .int .i64 a3, .int .i64 a4, .int .i64 a5, .int .i64 a6] 24) = w0 at *
  obtain ⟨x0, x1, x2, x3, x4, x5, x6⟩ := hc.seven
  cases h1 : within 0 1024 [a0] with
  | false => 
    simp [h1] at hb
    subst hb
    go_wp2_with (go_at_call 52; first
      | ((with_reducible refine (in52_2 _ _ _ _ _ (by assumption) (by first | assumption | exact rfl)).mono ?_); rintro e w9 ⟨rfl, hc⟩; obtain ⟨x0, x1, x2, x3, x4, x5, x6⟩ := hc.seven)
      | ((with_reducible refine (in52_1 _ _ _ _ (by assumption) (by first | assumption | exact rfl)).mono ?_); rintro e w9 ⟨rfl, hc⟩; obtain ⟨x0, x1, x2, x3, x4, x5, x6⟩ := hc.seven))
    go_ret
    exact ⟨rfl, (by assumption : CfM w _ a0 a1 a2 a3 a4 a5 a6 _).2⟩
  | true => 
  cases h2 : within 0 1048576 [a1] with
  | false => 
    simp [h1, h2] at hb
    subst hb
    go_wp2_with (go_at_call 52; first
      | ((with_reducible refine (in52_2 _ _ _ _ _ (by assumption) (by first | assumption | exact rfl)).mono ?_); rintro e w9 ⟨rfl, hc⟩; obtain ⟨x0, x1, x2, x3, x4, x5, x6⟩ := hc.seven)
      | ((with_reducible refine (in52_1 _ _ _ _ (by assumption) (by first | assumption | exact rfl)).mono ?_); rintro e w9 ⟨rfl, hc⟩; obtain ⟨x0, x1, x2, x3, x4, x5, x6⟩ := hc.seven))
    go_ret
    exact ⟨rfl, (by assumption : CfM w _ a0 a1 a2 a3 a4 a5 a6 _).2⟩
  | true => 
  cases h3 : within 1 1048576 [a2] with
  | false => 
    simp [h1, h2, h3] at hb
    subst hb
    go_wp2_with (go_at_call 52; first
      | ((with_reducible refine (in52_2 _ _ _ _ _ (by assumption) (by first | assumption | exact rfl)).mono ?_); rintro e w9 ⟨rfl, hc⟩; obtain ⟨x0, x1, x2, x3, x4, x5, x6⟩ := hc.seven)
      | ((with_reducible refine (in52_1 _ _ _ _ (by assumption) (by first | assumption | exact rfl)).mono ?_); rintro e w9 ⟨rfl, hc⟩; obtain ⟨x0, x1, x2, x3, x4, x5, x6⟩ := hc.seven))
    go_ret
    exact ⟨rfl, (by assumption : CfM w _ a0 a1 a2 a3 a4 a5 a6 _).2⟩
  | true => 
  cases h4 : within 0 1048576 [a3, a4] with
  | false => 
    simp [h1, h2, h3, h4] at hb
    subst hb
    go_wp2_with (go_at_call 52; first
      | ((with_reducible refine (in52_2 _ _ _ _ _ (by assumption) (by first | assumption | exact rfl)).mono ?_); rintro e w9 ⟨rfl, hc⟩; obtain ⟨x0, x1, x2, x3, x4, x5, x6⟩ := hc.seven)
      | ((with_reducible refine (in52_1 _ _ _ _ (by assumption) (by first | assumption | exact rfl)).mono ?_); rintro e w9 ⟨rfl, hc⟩; obtain ⟨x0, x1, x2, x3, x4, x5, x6⟩ := hc.seven))
    go_ret
    exact ⟨rfl, (by assumption : CfM w _ a0 a1 a2 a3 a4 a5 a6 _).2⟩
  | true => 
  cases h5 : within 0 64 [a5] with
  | false => 
    simp [h1, h2, h3, h4, h5] at hb
    subst hb
    go_wp2_with (go_at_call 52; first
      | ((with_reducible refine (in52_2 _ _ _ _ _ (by assumption) (by first | assumption | exact rfl)).mono ?_); rintro e w9 ⟨rfl, hc⟩; obtain ⟨x0, x1, x2, x3, x4, x5, x6⟩ := hc.seven)
      | ((with_reducible refine (in52_1 _ _ _ _ (by assumption) (by first | assumption | exact rfl)).mono ?_); rintro e w9 ⟨rfl, hc⟩; obtain ⟨x0, x1, x2, x3, x4, x5, x6⟩ := hc.seven))
    go_ret
    exact ⟨rfl, (by assumption : CfM w _ a0 a1 a2 a3 a4 a5 a6 _).2⟩
  | true => 
  have h6 : within 1 1048576 [a6] = b := by simpa [h1, h2, h3, h4, h5] using hb
  clear hb
  go_wp2_with (go_at_call 52; first
    | ((with_reducible refine (in52_2 _ _ _ _ _ (by assumption) (by first | assumption | exact rfl)).mono ?_); rintro e w9 ⟨rfl, hc⟩; obtain ⟨x0, x1, x2, x3, x4, x5, x6⟩ := hc.seven)
    | ((with_reducible refine (in52_1 _ _ _ _ (by assumption) (by first | assumption | exact rfl)).mono ?_); rintro e w9 ⟨rfl, hc⟩; obtain ⟨x0, x1, x2, x3, x4, x5, x6⟩ := hc.seven))
  go_ret
  exact ⟨rfl, (by assumption : CfM w _ a0 a1 a2 a3 a4 a5 a6 _).2⟩

theorem in53_new (lo hi : Int) (xs : List Int) (cs : Array Value) (hcs : cs = (ints xs).toArray) (n r : Nat) (hn : xs.length = n) (hsm : n ≤ 1000) {w W : World} {g : Nat} {a0 a1 a2 a3 a4 a5 a6 : Int} (h : CfM w g a0 a1 a2 a3 a4 a5 a6 W) (hr : W.heap.size = r) :
    Calls Tryz.prog 53 #[.int .i64 lo, .int .i64 hi, .slice (some ⟨r, 0, none⟩) n n] (W.alloc (.cells cs 3)) fun e w' => e = .returned (.bool (within lo hi xs)) ∧ CfM w g a0 a1 a2 a3 a4 a5 a6 w' := by
  subst hcs hr
  refine (in60 lo hi W.heap.size n xs _ hn hsm (Blk.new W 3 _)).mono ?_
  rintro e w' ⟨rfl, hk⟩
  have hk2 := hk.mono (B' := w.heap.size) (by have := h.2.size; simp; omega)
  have h0 := h.2.alloc h.2.size (.cells (ints xs).toArray 3)
  exact ⟨rfl, (h.1.alloc _).below hk (by have := h.1.lt; simp; omega), h0.trans hk2⟩
theorem in53_1 (lo hi x : Int) (r : Nat) {w W : World} {g : Nat} {a0 a1 a2 a3 a4 a5 a6 : Int} (h : CfM w g a0 a1 a2 a3 a4 a5 a6 W) (hr : W.heap.size = r) :
    Calls Tryz.prog 53 #[.int .i64 lo, .int .i64 hi, .slice (some ⟨r, 0, none⟩) 1 1] (W.alloc (.cells #[.int .i64 x] 3)) fun e w' => e = .returned (.bool (within lo hi [x])) ∧ CfM w g a0 a1 a2 a3 a4 a5 a6 w' :=
  in53_new lo hi [x] _ rfl 1 r rfl (by decide) h hr
theorem in53_2 (lo hi x y : Int) (r : Nat) {w W : World} {g : Nat} {a0 a1 a2 a3 a4 a5 a6 : Int} (h : CfM w g a0 a1 a2 a3 a4 a5 a6 W) (hr : W.heap.size = r) :
    Calls Tryz.prog 53 #[.int .i64 lo, .int .i64 hi, .slice (some ⟨r, 0, none⟩) 2 2] (W.alloc (.cells #[.int .i64 x, .int .i64 y] 3)) fun e w' => e = .returned (.bool (within lo hi [x, y])) ∧ CfM w g a0 a1 a2 a3 a4 a5 a6 w' :=
  in53_new lo hi [x, y] _ rfl 2 r rfl (by decide) h hr
set_option maxRecDepth 100000 in
set_option maxHeartbeats 1000000 in
theorem right47 (a0 a1 a2 a3 a4 a5 a6 : Int) (w : World) : Calls Tryz.prog 47 #[.agg (cf7 a0 a1 a2 a3 a4 a5 a6)] w fun e w' => e = .returned (.bool (rightB a0 a1 a2 a3 a4 a5 a6)) ∧ Below w.heap.size w w' := by
  have hc := CfM.new w a0 a1 a2 a3 a4 a5 a6
  obtain ⟨b, hb⟩ : ∃ b, rightB a0 a1 a2 a3 a4 a5 a6 = b := ⟨_, rfl⟩
  rw [hb]
  unfold rightB at hb
  unfold cf7
  go_enter Tryz.func47, Tryz.ntmps47
  go_wp2_with fail
  have hz := World.size_alloc w (.cells #[.int .i64 a0, .int .i64 a1, .int .i64 a2, .int .i64 a3, .int .i64 a4, .int .i64 a5, .int .i64 a6] 24)
  generalize w.alloc (.cells #[.int .i64 a0, .int .i64 a1, .int .i64 a2, .int .i64 a3, .int .i64 a4, .int .i64 a5, .int .i64 a6] 24) = w0 at *
  obtain ⟨x0, x1, x2, x3, x4, x5, x6⟩ := hc.seven
  cases h1 : within 0 1024 [a0] with
  | false => 
    simp [h1] at hb
    subst hb
    go_wp2_with (go_at_call 53; first
      | ((with_reducible refine (in53_2 _ _ _ _ _ (by assumption) (by first | assumption | exact rfl)).mono ?_); rintro e w9 ⟨rfl, hc⟩; obtain ⟨x0, x1, x2, x3, x4, x5, x6⟩ := hc.seven)
      | ((with_reducible refine (in53_1 _ _ _ _ (by assumption) (by first | assumption | exact rfl)).mono ?_); rintro e w9 ⟨rfl, hc⟩; obtain ⟨x0, x1, x2, x3, x4, x5, x6⟩ := hc.seven))
    go_ret
    exact ⟨rfl, (by assumption : CfM w _ a0 a1 a2 a3 a4 a5 a6 _).2⟩
  | true => 
  cases h2 : within 0 1048576 [a1] with
  | false => 
    simp [h1, h2] at hb
    subst hb
    go_wp2_with (go_at_call 53; first
      | ((with_reducible refine (in53_2 _ _ _ _ _ (by assumption) (by first | assumption | exact rfl)).mono ?_); rintro e w9 ⟨rfl, hc⟩; obtain ⟨x0, x1, x2, x3, x4, x5, x6⟩ := hc.seven)
      | ((with_reducible refine (in53_1 _ _ _ _ (by assumption) (by first | assumption | exact rfl)).mono ?_); rintro e w9 ⟨rfl, hc⟩; obtain ⟨x0, x1, x2, x3, x4, x5, x6⟩ := hc.seven))
    go_ret
    exact ⟨rfl, (by assumption : CfM w _ a0 a1 a2 a3 a4 a5 a6 _).2⟩
  | true => 
  cases h3 : within 1 1048576 [a2] with
  | false => 
    simp [h1, h2, h3] at hb
    subst hb
    go_wp2_with (go_at_call 53; first
      | ((with_reducible refine (in53_2 _ _ _ _ _ (by assumption) (by first | assumption | exact rfl)).mono ?_); rintro e w9 ⟨rfl, hc⟩; obtain ⟨x0, x1, x2, x3, x4, x5, x6⟩ := hc.seven)
      | ((with_reducible refine (in53_1 _ _ _ _ (by assumption) (by first | assumption | exact rfl)).mono ?_); rintro e w9 ⟨rfl, hc⟩; obtain ⟨x0, x1, x2, x3, x4, x5, x6⟩ := hc.seven))
    go_ret
    exact ⟨rfl, (by assumption : CfM w _ a0 a1 a2 a3 a4 a5 a6 _).2⟩
  | true => 
  cases h4 : within 0 1048576 [a3, a4] with
  | false => 
    simp [h1, h2, h3, h4] at hb
    subst hb
    go_wp2_with (go_at_call 53; first
      | ((with_reducible refine (in53_2 _ _ _ _ _ (by assumption) (by first | assumption | exact rfl)).mono ?_); rintro e w9 ⟨rfl, hc⟩; obtain ⟨x0, x1, x2, x3, x4, x5, x6⟩ := hc.seven)
      | ((with_reducible refine (in53_1 _ _ _ _ (by assumption) (by first | assumption | exact rfl)).mono ?_); rintro e w9 ⟨rfl, hc⟩; obtain ⟨x0, x1, x2, x3, x4, x5, x6⟩ := hc.seven))
    go_ret
    exact ⟨rfl, (by assumption : CfM w _ a0 a1 a2 a3 a4 a5 a6 _).2⟩
  | true => 
  cases h5 : within 0 64 [a5] with
  | false => 
    simp [h1, h2, h3, h4, h5] at hb
    subst hb
    go_wp2_with (go_at_call 53; first
      | ((with_reducible refine (in53_2 _ _ _ _ _ (by assumption) (by first | assumption | exact rfl)).mono ?_); rintro e w9 ⟨rfl, hc⟩; obtain ⟨x0, x1, x2, x3, x4, x5, x6⟩ := hc.seven)
      | ((with_reducible refine (in53_1 _ _ _ _ (by assumption) (by first | assumption | exact rfl)).mono ?_); rintro e w9 ⟨rfl, hc⟩; obtain ⟨x0, x1, x2, x3, x4, x5, x6⟩ := hc.seven))
    go_ret
    exact ⟨rfl, (by assumption : CfM w _ a0 a1 a2 a3 a4 a5 a6 _).2⟩
  | true => 
  have h6 : within 1 1048576 [a6] = b := by simpa [h1, h2, h3, h4, h5] using hb
  clear hb
  go_wp2_with (go_at_call 53; first
    | ((with_reducible refine (in53_2 _ _ _ _ _ (by assumption) (by first | assumption | exact rfl)).mono ?_); rintro e w9 ⟨rfl, hc⟩; obtain ⟨x0, x1, x2, x3, x4, x5, x6⟩ := hc.seven)
    | ((with_reducible refine (in53_1 _ _ _ _ (by assumption) (by first | assumption | exact rfl)).mono ?_); rintro e w9 ⟨rfl, hc⟩; obtain ⟨x0, x1, x2, x3, x4, x5, x6⟩ := hc.seven))
  go_ret
  exact ⟨rfl, (by assumption : CfM w _ a0 a1 a2 a3 a4 a5 a6 _).2⟩
end Go.Proofs.YthicdlbelhokjaaGreat
