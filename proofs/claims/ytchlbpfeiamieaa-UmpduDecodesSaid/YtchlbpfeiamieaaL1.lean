/- law30: works, the examples of the chapter. -/
import Derived.Test.YtchlbpfeiamieaaL0
import Derived.Lib.SmallJoins
namespace Go.Proofs.Ytchlbpfeiamieaa
open Go.RowKit

/-- a block that is known whole reads as a slice -/
theorem sl_lit {w : World} {b : Nat} {cs : Array Value} {t : TypeId} {fr : Nat × Nat} {xs : List Value} (h : w.heap[b]? = some (.cells cs t fr)) (e : cs.toList = xs) (hn : xs.length ≤ 9223372036854775807) : Sl w w.heap.size (some ⟨b, 0, none⟩) xs.length xs.length xs :=
  ⟨rfl, Nat.le_refl _, hn, fun _ => ⟨_, rfl, lt_of_heap h, fun j u hu => by rw [← e] at hu; exact World.news_of_block h j u hu⟩⟩
theorem heap_new (w : World) (o : Obj) : (w.alloc o).heap[w.heap.size]? = some o := heap_alloc_new w o

theorem same_lit {A : Option Addr} {n c B : Nat} {l : List UInt8} {W : World} (h : Sl W B A n c (bvs l)) (hB : B ≤ W.heap.size) (cs : Array Value) (hcs : cs.toList = bvs l) (m : Nat) (hm : m = l.length) (hl : l.length ≤ 1000) :
    Calls Try.prog 21 #[.slice A n c, .slice (some ⟨W.heap.size, 0, none⟩) m m] (W.alloc (.cells cs 5)) fun e w' => e = .returned (.bool true) ∧ W.alloc (.cells cs 5) = w' := by
  subst hm
  have h2 : Sl (W.alloc (.cells cs 5)) (W.alloc (.cells cs 5)).heap.size (some ⟨W.heap.size, 0, none⟩) (bvs l).length (bvs l).length (bvs l) := sl_lit (heap_new W _) hcs (by simp; omega)
  rw [bvs_length] at h2
  refine (same_any A n c l _ _ _ l _ _ _ (h.alloc hB _) h2).mono ?_
  rintro e w' ⟨rfl, rfl⟩
  exact ⟨by simp, rfl⟩
theorem fails_lit (W : World) (l : List UInt8) (cs : Array Value) (hcs : cs.toList = bvs l) (m : Nat) (hm : m = l.length) (hl : l.length ≤ 1000) (er : Nat) (x : Int) (hx : x = er) (hd : decU l = .inl er) :
    Calls Try.prog 71 #[.int .i64 x, .slice (some ⟨W.heap.size, 0, none⟩) m m] (W.alloc (.cells cs 5)) (IsTrue W) := by
  subst hm hx
  have h2 : Sl (W.alloc (.cells cs 5)) (W.alloc (.cells cs 5)).heap.size (some ⟨W.heap.size, 0, none⟩) (bvs l).length (bvs l).length (bvs l) := sl_lit (heap_new W _) hcs (by simp; omega)
  rw [bvs_length] at h2
  refine (fails_any _ _ _ l er _ h2 (by omega) hd).mono ?_
  rintro e w' ⟨rfl, hb⟩
  exact ⟨rfl, ((Below.refl _ W).alloc (Nat.le_refl _) _).trans (hb.mono (by simp))⟩

theorem enc1 : encU 5 true true [[97, 98]] = [0, 5, 97, 98] := by decide +kernel
theorem enc2 : encU 1023 false true [[120], [121, 122]] = [23, 255, 0, 16, 120, 121, 122] := by decide +kernel
theorem dec1 : decU [0] = .inl 5 := by decide +kernel
theorem dec2 : decU [32, 5, 97] = .inl 9 := by decide +kernel
theorem dec3 : decU [4, 5, 0, 0, 97] = .inl 9 := by decide +kernel
theorem dec4 : decU [0, 5] = .inl 5 := by decide +kernel

set_option maxRecDepth 100000 in
set_option maxHeartbeats 2000000 in
theorem works_any (w : World) : Calls Try.prog 18 #[] w (IsTrue w) := by
  have kc := fun (w : World) (C : Array Value) (n c : Nat) => Lib.run_convert_bytes_const (P := Try.prog) w 29 5 C n c und29 und5
  go_enter Try.func18, Try.ntmps18
  go_wp2_with fail
  have hB1 := ((Below.refl w.heap.size w).alloc (Nat.le_refl _) (.cells #[.int .u8 97, .int .u8 98] 5 (2, 3))).alloc (by simp) (.cells #[.slice (some ⟨w.heap.size, 0, none⟩) 2 2] 29)
  have g0 := (Below.heap_alloc (w.alloc (.cells #[.int .u8 97, .int .u8 98] 5 (2, 3))) (.cells #[.slice (some ⟨w.heap.size, 0, none⟩) 2 2] 29) w.heap.size (by simp)).trans (heap_new w (.cells #[.int .u8 97, .int .u8 98] 5 (2, 3)))
  have g1 := heap_new (w.alloc (.cells #[.int .u8 97, .int .u8 98] 5 (2, 3))) (.cells #[.slice (some ⟨w.heap.size, 0, none⟩) 2 2] 29)
  rw [World.size_alloc] at g1
  generalize (w.alloc (.cells #[.int .u8 97, .int .u8 98] 5 (2, 3))).alloc (.cells #[.slice (some ⟨w.heap.size, 0, none⟩) 2 2] 29) = w1 at *
  have hS1 : Sls w1 w1.heap.size (some ⟨w.heap.size + 1, 0, none⟩) 1 1 [.slice (some ⟨w.heap.size, 0, none⟩) 2 2] [[97, 98]] := by
    refine ⟨sl_lit g1 rfl (by simp), rfl, fun i p hi => ?_⟩
    match i, hi with
    | 0, hi =>
      simp at hi
      subst hi
      exact ⟨_, 2, rfl, sl_lit (xs := bvs [97, 98]) g0 rfl (by simp)⟩
    | i + 1, hi => simp at hi
  have he1 := encode_ok 5 true true _ 1 1 _ _ w1 hS1 (by omega) (by decide +kernel)
  rw [enc1] at he1
  refine he1.mono ?_
  rintro e2 w2 ⟨v2, rfl, hv2, hb2⟩
  have kc2 := Joins.run_convert_bytes_const_at (P := Try.prog) (w2.alloc (.cells #[.int .u8 120] 5 (1, 2))) 29 5 #[.int .u8 121, .int .u8 122] 2 2 (w2.heap.size + 1) (by simp) und29 und5
  go_wp2_with fail
  clear kc2
  have hB3 := ((((Below.refl w2.heap.size w2).alloc (Nat.le_refl _) (.cells #[.int .u8 120] 5 (1, 2))).alloc (by simp) (.cells #[.int .u8 121, .int .u8 122] 5 (2, 3)))).alloc (by simp; omega) (.cells #[.slice (some ⟨w2.heap.size, 0, none⟩) 1 1, .slice (some ⟨w2.heap.size + 1, 0, none⟩) 2 2] 29)
  have q0 := (Below.heap_alloc ((w2.alloc (.cells #[.int .u8 120] 5 (1, 2))).alloc (.cells #[.int .u8 121, .int .u8 122] 5 (2, 3))) (.cells #[.slice (some ⟨w2.heap.size, 0, none⟩) 1 1, .slice (some ⟨w2.heap.size + 1, 0, none⟩) 2 2] 29) w2.heap.size (by simp; omega)).trans
    ((Below.heap_alloc (w2.alloc (.cells #[.int .u8 120] 5 (1, 2))) (.cells #[.int .u8 121, .int .u8 122] 5 (2, 3)) w2.heap.size (by simp)).trans (heap_new w2 (.cells #[.int .u8 120] 5 (1, 2))))
  have q1 := heap_new (w2.alloc (.cells #[.int .u8 120] 5 (1, 2))) (.cells #[.int .u8 121, .int .u8 122] 5 (2, 3))
  rw [World.size_alloc] at q1
  replace q1 := (Below.heap_alloc ((w2.alloc (.cells #[.int .u8 120] 5 (1, 2))).alloc (.cells #[.int .u8 121, .int .u8 122] 5 (2, 3))) (.cells #[.slice (some ⟨w2.heap.size, 0, none⟩) 1 1, .slice (some ⟨w2.heap.size + 1, 0, none⟩) 2 2] 29) (w2.heap.size + 1) (by simp)).trans q1
  have q2 := heap_new ((w2.alloc (.cells #[.int .u8 120] 5 (1, 2))).alloc (.cells #[.int .u8 121, .int .u8 122] 5 (2, 3))) (.cells #[.slice (some ⟨w2.heap.size, 0, none⟩) 1 1, .slice (some ⟨w2.heap.size + 1, 0, none⟩) 2 2] 29)
  simp only [World.size_alloc] at q2
  generalize ((w2.alloc (.cells #[.int .u8 120] 5 (1, 2))).alloc (.cells #[.int .u8 121, .int .u8 122] 5 (2, 3))).alloc (.cells #[.slice (some ⟨w2.heap.size, 0, none⟩) 1 1, .slice (some ⟨w2.heap.size + 1, 0, none⟩) 2 2] 29) = w3 at *
  have hS3 : Sls w3 w3.heap.size (some ⟨w2.heap.size + 1 + 1, 0, none⟩) 2 2 [.slice (some ⟨w2.heap.size, 0, none⟩) 1 1, .slice (some ⟨w2.heap.size + 1, 0, none⟩) 2 2] [[120], [121, 122]] := by
    refine ⟨sl_lit q2 rfl (by simp), rfl, fun i p hi => ?_⟩
    match i, hi with
    | 0, hi =>
      simp at hi
      subst hi
      exact ⟨_, 1, rfl, sl_lit (xs := bvs [120]) q0 rfl (by simp)⟩
    | 1, hi =>
      simp at hi
      subst hi
      exact ⟨_, 2, rfl, sl_lit (xs := bvs [121, 122]) q1 rfl (by simp)⟩
    | i + 2, hi => simp at hi
  have he3 := encode_ok 1023 false true _ 2 2 _ _ w3 hS3 (by omega) (by decide +kernel)
  rw [enc2] at he3
  refine he3.mono ?_
  rintro e4 w4 ⟨v4, rfl, hv4, hb4⟩
  have hv24 := own_below (own_below hv2 hB3 (Nat.le_refl _)) hb4 (by have := hB3.size; omega)
  obtain ⟨A2, c2, rfl, hs2, _⟩ := own_sl hv24
  obtain ⟨A4, c4, rfl, hs4, _⟩ := own_sl hv4
  have hBw4 : Below w.heap.size w w4 := ((hB1.trans (hb2.mono hB1.size)).trans (hB3.mono (by have := hB1.size; have := hb2.size; omega))).trans (hb4.mono (by have := hB1.size; have := hb2.size; have := hB3.size; omega))
  clear hS3 hS1 he3 he1 g0 g1 q0 q1 q2 hB1 hb2 hB3 hb4 hv2 hv4 hv24
  have hs4' := hs4.alloc (Nat.le_refl _) (.cells #[.int .u8 0, .int .u8 5, .int .u8 97, .int .u8 98] 5)
  go_wp2_with (go_at_call 22; refine (num_any _ _).mono ?_; rintro e5 w5 ⟨rfl, rfl⟩)
  refine (same_lit hs2 (Nat.le_refl _) #[.int .u8 0, .int .u8 5, .int .u8 97, .int .u8 98] rfl 4 rfl (by simp)).mono ?_
  rintro e5 w5 ⟨rfl, hw5⟩
  have hBw5 : Below w.heap.size w w5 := by rw [← hw5]; exact hBw4.alloc hBw4.size _
  have hsz5 : w4.heap.size ≤ w5.heap.size := by rw [← hw5]; simp
  rw [hw5] at hs4'
  clear hw5 hs2 hs4 hBw4
  go_wp2_with fail
  refine (same_lit hs4' hsz5 #[.int .u8 23, .int .u8 255, .int .u8 0, .int .u8 16, .int .u8 120, .int .u8 121, .int .u8 122] rfl 7 rfl (by simp)).mono ?_
  rintro e6 w6 ⟨rfl, hw6⟩
  have hBw6 : Below w.heap.size w w6 := by rw [← hw6]; exact hBw5.alloc hBw5.size _
  clear hw6 hs4' hBw5
  go_wp2_with fail
  refine (fails_lit w6 [0] #[.int .u8 0] rfl 1 rfl (by simp) 5 5 rfl dec1).mono ?_
  rintro e7 w7 ⟨rfl, hb7⟩
  replace hBw6 := hBw6.trans (hb7.mono hBw6.size)
  go_wp2_with fail
  refine (fails_lit w7 [32, 5, 97] #[.int .u8 32, .int .u8 5, .int .u8 97] rfl 3 rfl (by simp) 9 9 rfl dec2).mono ?_
  rintro e8 w8 ⟨rfl, hb8⟩
  replace hBw6 := hBw6.trans (hb8.mono hBw6.size)
  go_wp2_with fail
  refine (fails_lit w8 [4, 5, 0, 0, 97] #[.int .u8 4, .int .u8 5, .int .u8 0, .int .u8 0, .int .u8 97] rfl 5 rfl (by simp) 9 9 rfl dec3).mono ?_
  rintro e9 w9 ⟨rfl, hb9⟩
  replace hBw6 := hBw6.trans (hb9.mono hBw6.size)
  go_wp2_with fail
  refine (fails_lit w9 [0, 5] #[.int .u8 0, .int .u8 5] rfl 2 rfl (by simp) 5 5 rfl dec4).mono ?_
  rintro e10 w10 ⟨rfl, hb10⟩
  replace hBw6 := hBw6.trans (hb10.mono hBw6.size)
  clear hb7 hb8 hb9 hb10
  have hh0 : hdrN 0 = 0 := by decide
  have hh1 : hdrN 1 = 2 := by decide
  have hh2 : hdrN 2 = 4 := by decide
  have hh3 : hdrN 3 = 5 := by decide
  go_wp2_with (go_at_call 27; refine (header_any _ _ (by omega)).mono ?_; rintro e11 w11 ⟨rfl, rfl⟩)
  go_ret
  exact ⟨rfl, hBw6⟩
end Go.Proofs.Ytchlbpfeiamieaa
