/- rlc: Buffered of a new entity, any mode. -/
import Derived.Test.YthicdlbelhokjaaGreatBc
namespace Go.Proofs.YthicdlbelhokjaaGreat
open Go.RowKit Go.Shelf
attribute [local go_sem] Oper.semAt_some

set_option maxRecDepth 100000 in
set_option maxHeartbeats 2000000 in
theorem abuffered_new (s : Nat) (a0 a1 a2 a3 a4 a5 a6 : Int) (w : World) (h : SndB w s a0 a1 a2 a3 a4 a5 a6) (h2 : (a2 == 0) = false) : Calls Tryz.prog 94 #[.pointer (some ⟨s, 0, none⟩)] w (NumB 0 w) := by
  refine (callsIn_wide (n := 5)).1 ?_
  have hch := check_new s a0 a1 a2 a3 a4 a5 a6 w h h2
  have hhe := fun W (hW : SndB W s a0 a1 a2 a3 a4 a5 a6) => held_new s a0 a1 a2 a3 a4 a5 a6 W hW
  have hpe := fun W (hW : SndB W s a0 a1 a2 a3 a4 a5 a6) => pending_new s a0 a1 a2 a3 a4 a5 a6 W hW h2
  obtain ⟨y0, y1, y2, y3, y4, y5, y6, y7, y8, y9, y10⟩ := k8_of h
  have hne : s ≠ w.heap.size := by have := h.lt; omega
  have bc := Blk.new w 3 #[.int .i64 0]
  have hbc0 := bc.cell 0
  have hbf0 := bc.frozen 0
  have hw0 : IntKind.i64.wrap 0 = 0 := by decide
  have HC := Lib.hid hch
  have HE := Lib.hid hhe
  have HP := Lib.hid hpe
  clear hch hhe hpe bc
  refine callsIn_of_wp_marks Tryz.func94 rfl trivial ?_ rfl
  simp only [Tryz.ntmps94, List.size_toArray, List.length_cons, List.length_nil, Nat.reduceAdd, Nat.reduceSub, Array.replicate_succ, Array.replicate_zero, List.push_toArray, List.append_toArray, List.nil_append, List.cons_append]
  refine wpIn_wide.2 ?_
  go_wp2_with (go_at_call 55; refine HC.out.mono ?_; rintro e1 w1 ⟨rfl, rfl⟩)
  go_region_held3 (fun w' => w'.cell? ⟨s, 10, none⟩ = some (.int .i64 0))
    (first | exact y3 | (exact (k8_of (h.alloc (.cells #[.int .i64 0] 3))).2.2.2.1) | (exact (k8_of ((h.alloc (.cells #[.int .i64 0] 3)).far (p := ⟨w.heap.size, 0, none⟩) hne (.int .i64 0))).2.2.2.1) | go_keep)
    ((go_at_call 104; refine (HE.out _ (by first | exact h | exact h.alloc _)).mono ?_; rintro e1 w1 ⟨rfl, rfl⟩))
  all_goals
    have hE : (Blk (w.alloc (.cells #[.int .i64 0] 3)).drew w.heap.size 3 #[.int .i64 0]) ∧ Below w.heap.size w (w.alloc (.cells #[.int .i64 0] 3)).drew ∧ SndB (w.alloc (.cells #[.int .i64 0] 3)).drew s a0 a1 a2 a3 a4 a5 a6 := ⟨Blk.new w 3 _, ((Below.refl _ _).alloc (Nat.le_refl _) _).drew, h.alloc _⟩
    generalize (w.alloc (.cells #[.int .i64 0] 3)).drew = w0 at *
    obtain ⟨bn, hB, hS⟩ := hE
    clear y0 y1 y2 y3 y4 y5 y6 y7 y8 y9 y10 h
    go_wp2_with fail
    refine (HP.out _ hS).mono ?_
    rintro e1 w1 ⟨G, rfl, bG, hb1⟩
    have bn1 := bn.below hb1 bn.lt
    have hB1 := hB.trans (hb1.mono hB.size)
    go_wp2_with fail
    have hnl := bn1.lt
    apply wpIn_wide (n := 5).1
    apply wpIn_range_idx (gf := 132) (lb := #[.pointer (some ⟨G, 0, none⟩)]) rfl (by omega) rfl trivial (enters_of Tryz.func132 (by kernel_rfl) rfl)
      (pending1_none _ (by omega) G w1 bG) (fun _ _ => trivial) (fun _ _ _ _ _ _ _ _ => trivial) (Below.refl _ _) (fun _ => rfl)
      (fun _ W => Below w1.heap.size w1 W) (fun _k X _Y _row hs hg hr => hs.grown hg hs.size (fun r e => (hr r e).1)) (Below.refl _ _)
    case hassign =>
      intro l k W K hK
      simp only [noVals]
      gi_wp2
      exact hK
    case hbody =>
      intro l k W hk hI
      exact absurd hk (Nat.not_lt_zero _)
    case hdone =>
      intro D W hD hI hDef
      have bk := bn1.below hI hnl
      have hBW : Below w.heap.size w W := hB1.trans (hI.mono hB1.size)
      have y0 := bk.cell 0
      simp at y0
      have hr : ∀ r, some D = some r → ∃ o : Obj, W.heap[r]? = some o ∧ o.isCells = false := fun r e => by cases e; exact ⟨_, hDef, rfl⟩
      have hBW2 := hBW.grown (grownBy_putObj' _ D (.deferred none)) (by have := hBW.size; omega) (fun j hj => by cases hj; have := hB1.size; omega)
      have HR := Lib.hid hDef
      have HB2 := Lib.hid hBW2
      clear hr hBW2 hBW hDef bk
      gi_wp2
      go_wp2
      refine ⟨by simp, .inl ⟨_, _, rfl, run_takeDeferred HR.out, ?_⟩⟩
      exact ⟨.int .i64 0, by simp [results, Tryz.results94, go_sem], rfl, HB2.out⟩
theorem ambuffered_new (a s r : Nat) (a0 a1 a2 a3 a4 a5 a6 : Int) (w : World) (ha : Blk w a 101 #[.pointer (some ⟨s, 0, none⟩), .pointer (some ⟨r, 0, none⟩)]) (h : SndB w s a0 a1 a2 a3 a4 a5 a6) (h2 : (a2 == 0) = false) : Calls Tryz.prog 88 #[.pointer (some ⟨a, 0, none⟩)] w (NumB 0 w) := by
  have hn := amnone_any a s r w ha
  have hb := abuffered_new s a0 a1 a2 a3 a4 a5 a6 w h h2
  have x0 := ha.cell 0
  simp at x0
  have HN := Lib.hid hn
  have HB := Lib.hid hb
  clear hn hb ha h
  go_enter Tryz.func88, Tryz.ntmps88
  go_wp2_with (first | (go_at_call 49; refine HN.out.mono ?_; rintro e1 w1 ⟨rfl, rfl⟩) | (go_at_call 94; refine HB.out.mono ?_; rintro e1 w1 ⟨rfl, hb1⟩))
  go_ret
  exact ⟨rfl, hb1⟩
theorem acbuffered_new (u a s r : Nat) (a0 a1 a2 a3 a4 a5 a6 : Int) (w : World) (hu : Blk w u 107 #[.pointer (some ⟨a, 0, none⟩)]) (ha : Blk w a 101 #[.pointer (some ⟨s, 0, none⟩), .pointer (some ⟨r, 0, none⟩)]) (h : SndB w s a0 a1 a2 a3 a4 a5 a6) (h2 : (a2 == 0) = false) : Calls Tryz.prog 82 #[.pointer (some ⟨u, 0, none⟩)] w (NumB 0 w) := by
  have hb := ambuffered_new a s r a0 a1 a2 a3 a4 a5 a6 w ha h h2
  have x0 := hu.cell 0
  simp at x0
  have HB := Lib.hid hb
  clear hb ha h
  go_enter Tryz.func82, Tryz.ntmps82
  go_wp2_with (go_at_call 88; refine HB.out.mono ?_; rintro e1 w1 ⟨rfl, hb1⟩)
  go_ret
  exact ⟨rfl, hb1⟩
theorem unbuffered_new (u s : Nat) (q : Option Addr) (c : Int) (w : World) (hu : Blk w u 115 #[.pointer (some ⟨s, 0, none⟩), .pointer q]) (hs : Blk w s 82 (snd4 c)) (h1 : 1 ≤ c) : Calls Tryz.prog 243 #[.pointer (some ⟨u, 0, none⟩)] w (NumB 0 w) := by
  have hb := ubuffered_new s c w hs h1
  have x0 := hu.cell 0
  simp at x0
  have HB := Lib.hid hb
  clear hb hs
  go_enter Tryz.func243, Tryz.ntmps243
  go_wp2_with (go_at_call 78; refine HB.out.mono ?_; rintro e1 w1 ⟨rfl, hb1⟩)
  go_ret
  exact ⟨rfl, hb1⟩
theorem meth_buffered_u (a : Addr) (w : World) : (method 419 113 (.pointer (some a)) "userplane/rlc.buffered").run Tryz.prog w = .ok (243, .pointer (some a)) w := by kernel_rfl
theorem meth_buffered_a (a : Addr) (w : World) : (method 419 104 (.pointer (some a)) "userplane/rlc.buffered").run Tryz.prog w = .ok (82, .pointer (some a)) w := by kernel_rfl
set_option maxRecDepth 100000 in
theorem buffered_via (g u : Nat) (k : Int) (y : Value) (t f : Nat) (htf : (t = 113 ∧ f = 243) ∨ (t = 104 ∧ f = 82)) (w : World) (hg : Blk w g 67 #[.int .i64 k, .iface t (.pointer (some ⟨u, 0, none⟩)), y]) (hk : (k == 0) = false) (hb : Calls Tryz.prog f #[.pointer (some ⟨u, 0, none⟩)] w (NumB 0 w)) :
    Calls Tryz.prog 12 #[.pointer (some ⟨g, 0, none⟩)] w (NumB 0 w) := by
  have hno := none_any g k _ _ w hg
  rw [hk] at hno
  have x1 := hg.cell 1
  simp at x1
  have hm1 := meth_buffered_u ⟨u, 0, none⟩
  have hm2 := meth_buffered_a ⟨u, 0, none⟩
  have HN := Lib.hid hno
  have HB := Lib.hid hb
  clear hno hb hg
  rcases htf with ⟨rfl, rfl⟩ | ⟨rfl, rfl⟩
  all_goals
    go_enter Tryz.func12, Tryz.ntmps12
    go_wp2_with (first | (go_at_call 36; refine HN.out.mono ?_; rintro e1 w1 ⟨rfl, rfl⟩) | (go_at_call 243; refine HB.out.mono ?_; rintro e1 w1 ⟨rfl, hb1⟩) | (go_at_call 82; refine HB.out.mono ?_; rintro e1 w1 ⟨rfl, hb1⟩))
    go_ret
    exact ⟨rfl, hb1⟩
end Go.Proofs.YthicdlbelhokjaaGreat
