/- law38: the examples of the chapter. -/
import Derived.Test.YthicdlbelhokjaaGreatAg
import Derived.Lib.SlBytesConst
namespace Go.Proofs.YthicdlbelhokjaaGreat
open Go.RowKit
attribute [local go_sem] Oper.semAt_some

/-- the entity behind a call, in more memory -/
def EntOn (W : World) (base g t : Nat) (sdus : List (List UInt8)) (cap : Nat) (u : Value) (e : Ending) (w' : World) : Prop :=
  e = .returned u ∧ ∃ v vs, Ent w' base g t v vs sdus cap ∧ Below base W w'
theorem rsubmit_lit (W : World) (base g t : Nat) (v : Value) (vs : List Value) (sdus : List (List UInt8)) (cap : Nat) (h : Ent W base g t v vs sdus cap) (hbg : base ≤ t) (hgt : g ≠ t) (x : List UInt8) (cs : Array Value) (fr : Nat × Nat) (hcs : cs.toList = bvs x) (m : Nat) (hm : m = x.length)
    (hx0 : 0 < x.length) (hx9 : x.length ≤ 9000) (hf : sdus.length < cap) (hsd : sdus.length ≤ 1000000) :
    Calls Tryz.prog 17 #[.pointer (some ⟨g, 0, none⟩), .slice (some ⟨W.heap.size, 0, none⟩) m m] (W.alloc (.cells cs 5 fr)) (EntOn W base g t (sdus ++ [x]) cap (.int .i64 0)) := by
  subst hm
  have hbW : base ≤ W.heap.size := by have := h.blk.lt; omega
  have hs : Sl (W.alloc (.cells cs 5 fr)) (W.alloc (.cells cs 5 fr)).heap.size (some ⟨W.heap.size, 0, none⟩) (bvs x).length (bvs x).length (bvs x) := sl_lit (heap_new W _) hcs (by simp; omega)
  rw [bvs_length] at hs
  refine (rsubmit_of base g t v vs sdus cap _ x.length x.length _ (h.alloc _) 0 _ (tsubmit_ok base g t v vs sdus cap _ x.length x.length x _ (h.alloc _) hgt hs hx0 hx9 hf hsd (by simp; omega))).mono ?_
  rintro e w' ⟨rfl, v', vs', hs', hk', _⟩
  refine ⟨rfl, v', vs', hs', ((Below.refl base W).alloc hbW _).trans (hk'.below (B := base) ?_ (by simp; omega))⟩
  rintro k o (rfl | hk)
  · exact hbg
  · exact (h.row.lt hk).1
theorem rsubmit_fullL (W : World) (base g t : Nat) (v : Value) (vs : List Value) (sdus : List (List UInt8)) (cap : Nat) (h : Ent W base g t v vs sdus cap) (hbg : base ≤ t) (x : List UInt8) (cs : Array Value) (fr : Nat × Nat) (_hcs : cs.toList = bvs x) (m : Nat) (hm : m = x.length)
    (hx0 : 0 < x.length) (hx9 : x.length ≤ 9000) (hf : cap ≤ sdus.length) :
    Calls Tryz.prog 17 #[.pointer (some ⟨g, 0, none⟩), .slice (some ⟨W.heap.size, 0, none⟩) m m] (W.alloc (.cells cs 5 fr)) (EntOn W base g t sdus cap (.int .i64 7)) := by
  subst hm
  have hbW : base ≤ W.heap.size := by have := h.blk.lt; omega
  refine (rsubmit_of base g t v vs sdus cap _ x.length x.length _ (h.alloc _) 7 _ (tsubmit_full base g t v vs sdus cap _ x.length x.length _ (h.alloc _) hx0 hx9 (Nat.le_refl _) (by omega) hf)).mono ?_
  rintro e w' ⟨rfl, q, rfl⟩
  exact ⟨rfl, v, vs, (h.alloc _).drewN q, ((Below.refl base W).alloc hbW _).drewN q⟩
theorem noGrant_two {w : World} : ∀ e w', NoGrant w e w' → ∃ b x, e = .returned (.tuple #[b, x]) := fun _ _ h => ⟨_, _, h.1⟩
theorem oneGrant_two {w : World} {base g t : Nat} {v : Value} {cap : Nat} {x : List UInt8} {rest : List (List UInt8)} : ∀ e w', OneGrant w base g t v cap x rest e w' → ∃ b y, e = .returned (.tuple #[b, y]) := fun _ _ ⟨_, _, _, _, h, _⟩ => ⟨_, _, h⟩

set_option maxRecDepth 10000 in
set_option maxHeartbeats 1000000 in
theorem known_any (w : World) : Calls Tryz.prog 10 #[] w (IsTrue w) := by
  have hne := rnew_ok 2 0 0 0 0 0 0 0 0 w (by omega) (by omega)
  unfold cfg at hne
  have kc := fun (w : World) (C : Array Value) (n c : Nat) => Lib.run_convert_bytes_const (P := Tryz.prog) w 51 5 C n c und51 und5
  have HNE := Lib.hid hne
  clear hne
  go_enter Tryz.func10, Tryz.ntmps10
  go_wp2_with fail
  refine HNE.out.mono ?_
  rintro e1 w1 ⟨g, t, rfl, hg1, ht1, hgl, htl, hgt, hb1⟩
  have h1 : Ent w1 w.heap.size g t (.slice none 0 0) [] [] 2 := ⟨hg1, ht1, ownQ_nil _ _ _, fun i p hi => by simp at hi⟩
  obtain ⟨B, hB⟩ : ∃ B, B = w.heap.size := ⟨_, rfl⟩
  rw [← hB] at h1 htl hb1
  have HB := Lib.hid hB
  clear hB hg1 ht1 hgl
  go_wp2_with fail
  refine (rsubmit_lit w1 B g t _ _ [] 2 h1 htl hgt [97, 98, 99] _ _ rfl 3 rfl (by decide) (by decide) (by decide) (by decide)).mono ?_
  rintro e2 w2 ⟨rfl, v2, vs2, h2, hb2⟩
  go_wp2_with fail
  refine (rsubmit_lit w2 B g t _ _ [[97, 98, 99]] 2 h2 htl hgt [100] _ _ rfl 1 rfl (by decide) (by decide) (by decide) (by decide)).mono ?_
  rintro e3 w3 ⟨rfl, v3, vs3, h3, hb3⟩
  go_wp2_with fail
  refine (rsubmit_fullL w3 B g t _ _ [[97, 98, 99], [100]] 2 h3 htl [101] _ _ rfl 1 rfl (by decide) (by decide) (by decide)).mono ?_
  rintro e4 w4 ⟨rfl, v4, vs4, h4, hb4⟩
  go_wp2_with fail
  refine (rgrant_of B g t _ _ _ 2 0 2 w4 h4 _ noGrant_two (tgrant_long B g t _ _ 2 [97, 98, 99] [[100]] 0 2 w4 h4 (by decide))).mono ?_
  rintro e5 w5 ⟨rfl, rfl⟩
  go_wp2_with fail
  refine (rgrant_of B g t _ _ _ 2 0 3 w4 h4 _ oneGrant_two (tgrant_ok B g t _ _ 2 [97, 98, 99] [[100]] 0 3 w4 h4 hgt (by decide))).mono ?_
  rintro e6 w6 ⟨A6, c6, v6, vs6, rfl, ho6, h6, _, hk6⟩
  have hb6 : Below B w4 w6 := hk6.below (fun k o e => by omega) (by have := h4.blk.lt; omega)
  have kc6 : (convert 51 9 (.slice A6 3 c6)).run Tryz.prog w6 = .ok (.string ⟨#[97, 98, 99]⟩) w6 := conv_sl (own_sl' ho6)
  have hbf := rbuffered_any B g t v6 vs6 [[100]] 2 w6 h6 (by decide)
  have HBF := Lib.hid hbf
  have HBB := Lib.hid (((((hb1.trans hb2).trans hb3).trans hb4)).trans hb6)
  clear h1 h2 h3 h4 h6 hb1 hb2 hb3 hb4 hb6 hk6 ho6 hbf kc
  go_wp2_with (go_at_call 12; refine HBF.out.mono ?_; rintro e1 w1 ⟨rfl, rfl⟩)
  go_ret
  refine ⟨rfl, ?_⟩
  rw [← HB.out]
  exact HBB.out
end Go.Proofs.YthicdlbelhokjaaGreat
