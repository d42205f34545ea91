/- law30: same, num, few, fails. law30: works, the examples of the chapter. Equality of slices and chunks: slices.Equal, slices.EqualFunc, umpdu.Same, the reference's Same. umpdu.Same and the reference's Same. law30.UmpduSame: the walk. -/
import Derived.Test.YtchlbpfeiamieaaDa
import Derived.Laws.IdiomStrings
import Derived.Laws.BytesArg
import Derived.Lib.SlBytesConst
import Derived.Lib.BufferRead
import Derived.Lib.SmallJoins
namespace Go.Proofs.Ytchlbpfeiamieaa
open Go.RowKit

theorem und5 : Try.prog.underlying 5 = some (.int .u8) := by kernel_rfl
theorem und9 : Try.prog.underlying 9 = some .string := by kernel_rfl

theorem conv_sl {w : World} {B n c : Nat} {A : Option Addr} {l : List UInt8} (h : Sl w B A n c (bvs l)) : (convert 29 9 (.slice A n c)).run Try.prog w = .ok (.string ⟨l.toArray⟩) w := by
  have hl : l.length = n := by simpa using h.len
  subst hl
  rcases A with _ | a
  · have h0 : l.length = 0 := by
      rcases Nat.eq_zero_or_pos l.length with h0 | h0
      · exact h0
      · obtain ⟨_, e, _⟩ := h.at_ h0; cases e
    have : l = [] := List.eq_nil_of_length_eq_zero h0
    subst this
    exact Lib.run_convert_nil_bytes w 29 9 5 c und29 und5 und9
  · refine run_convert_bytes_back w 29 9 5 a c l und29 und5 und9 (fun j hj => ?_)
    obtain ⟨ad, e, _, hc⟩ := h.at_ (by omega)
    injection e with e
    subst e
    refine hc j _ ?_
    unfold bvs
    rw [List.getElem?_map, List.getElem?_eq_getElem hj]
    rfl

theorem same_any (A : Option Addr) (n c : Nat) (l : List UInt8) (A' : Option Addr) (n' c' : Nat) (l' : List UInt8) (w : World) (B B' : Nat) (h : Sl w B A n c (bvs l)) (h' : Sl w B' A' n' c' (bvs l')) :
    Calls Try.prog 21 #[.slice A n c, .slice A' n' c'] w fun e w' => e = .returned (.bool (decide (l = l'))) ∧ w = w' := by
  have k := conv_sl h
  have k' := conv_sl h'
  have hd : (l == l') = decide (l = l') := by rw [Bool.eq_iff_iff]; simp
  generalize decide (l = l') = r at *
  go_enter Try.func21, Try.ntmps21
  go_wp2
  go_ret
  exact ⟨rfl, rfl⟩
theorem num_any (x : Int) (w : World) : Calls Try.prog 22 #[.int .i64 x] w fun e w' => e = .returned (.int .i64 x) ∧ w = w' := by
  go_enter Try.func22, Try.ntmps22
  go_wp2
  go_ret
  exact ⟨rfl, rfl⟩

/-- a call answers true and keeps what lay -/
def IsTrue (w : World) (e : Ending) (w' : World) : Prop := e = .returned (.bool true) ∧ Below w.heap.size w w'

set_option maxHeartbeats 400000 in
theorem fails_any (A : Option Addr) (n c : Nat) (bs : List UInt8) (er : Nat) (w : World) (h : Sl w w.heap.size A n c (bvs bs)) (hsm : n ≤ 1000000) (hd : decU bs = .inl er) :
    Calls Try.prog 71 #[.int .i64 er, .slice A n c] w (IsTrue w) := by
  have hdc := decode_any A n c bs w h hsm
  rw [hd] at hdc
  have HD := Lib.hid hdc
  clear hdc hd hsm
  go_enter Try.func71, Try.ntmps71
  go_wp2_with fail
  refine HD.out.mono ?_
  rintro e1 w1 ⟨hB, ⟨er', he, rfl⟩ | ⟨sn, s, en, ps, vo, he, _⟩⟩
  · cases he
    go_wp2
    go_ret
    exact ⟨rfl, hB.alloc hB.size _⟩
  · cases he

def Few (ps : List (List UInt8)) : Prop := ps.length ≤ 70 ∧ (∀ p ∈ ps, p.length ≤ 40000) ∧ (sumLen ps ≤ 3000 ∨ ps.length = 1)
/-- what a bool result says -/
def Says (P : Prop) (B : Nat) (w : World) (e : Ending) (w' : World) : Prop := (∃ b : Bool, e = .returned (.bool b) ∧ (b = true → P)) ∧ Below B w w'

set_option maxHeartbeats 400000 in
theorem few_any (s e : Bool) (A : Option Addr) (n c : Nat) (vs : List Value) (ps : List (List UInt8)) (w : World) (h : Sls w w.heap.size A n c vs ps) :
    Calls Try.prog 17 #[.agg #[.bool s, .bool e, .slice A n c]] w (Says (Few ps) w.heap.size w) := by
  have HL := Lib.hid h.len
  have hA := h.alloc (Nat.le_refl _) (.cells #[.bool s, .bool e, .slice A n c] 24)
  by_cases h70 : n ≤ 70
  · go_enter Try.func17, Try.ntmps17
    go_wp2
    go_loop [3, 4] (fun t i => ∃ k : Nat, k ≤ n ∧ i = .int .i64 k ∧ t = .int .i64 (sumLen (ps.take k)) ∧ sumLen (ps.take k) ≤ 40000 * k ∧ ∀ p ∈ ps.take k, p.length ≤ 40000) (fun _ i => n - (intOf i).toNat)
    case atStart => exact ⟨0, Nat.zero_le _, rfl, rfl, by simp [sumLen], by simp⟩
    case round =>
      obtain ⟨k, hk, rfl, rfl, hs, hall⟩ := hrel
      have HA := Lib.hid hall
      clear hall
      by_cases hlt : k < n
      · obtain ⟨ad, Ai, ci, rfl, hb, hc, hsl⟩ := hA.get hlt
        have hs1 := sumLen_take ps k (by rw [HL.out]; exact hlt)
        have hl : (ps[k]?.getD []).length ≤ 9223372036854775807 := by have := hsl.cap; have := hsl.mx; omega
        generalize hp : ps[k]?.getD [] = p at *
        generalize hS : sumLen (List.take k ps) = S at *
        have HP := Lib.hid hp
        have HS := Lib.hid hs1
        clear hp hs1 hS
        by_cases hp4 : p.length ≤ 40000
        · go_wp2
          go_round
          case rel =>
            refine ⟨k + 1, by omega, by go_num, by rw [HS.out]; go_num, by rw [HS.out]; omega, ?_⟩
            intro q hq
            rw [List.take_add_one, List.mem_append] at hq
            rcases hq with hq | hq
            · exact HA.out q hq
            · have e := HP.out
              rw [List.getElem?_eq_getElem (by rw [HL.out]; exact hlt)] at hq e
              simp at hq e
              rw [hq, e]; exact hp4
          case measure => simp [intOf]; omega
        · go_wp2
          go_ret
          exact ⟨⟨false, rfl, by simp⟩, (Below.refl _ _).alloc (Nat.le_refl _) _⟩
      · have hfin : (sumLen (List.take k ps) ≤ 3000 ∨ n = 1) → Few ps := by
          intro hh
          have e : ps.take k = ps := List.take_of_length_le (by rw [HL.out]; omega)
          have hA2 := HA.out
          rw [e] at hA2 hh
          exact ⟨by rw [HL.out]; exact h70, hA2, by rw [HL.out]; exact hh⟩
        have HF := Lib.hid hfin
        clear hfin
        generalize sumLen (List.take k ps) = S at *
        by_cases h3 : S ≤ 3000
        · go_wp2
          go_ret
          exact ⟨⟨true, ret_bool (by first | (simp; done) | (simp; omega)), fun _ => HF.out (.inl h3)⟩, (Below.refl _ _).alloc (Nat.le_refl _) _⟩
        · by_cases h1 : n = 1
          · have h1' : ((n : Int) == 1) = true := by simp; omega
            have h1f := HF.out (.inr h1)
            have H1 := Lib.hid h1f
            clear h1 h1f
            go_wp2
            go_ret
            exact ⟨⟨true, ret_bool (by first | rfl | (simp; omega)), fun _ => H1.out⟩, (Below.refl _ _).alloc (Nat.le_refl _) _⟩
          · have h1' : ((n : Int) == 1) = false := by simp; omega
            go_wp2
            go_ret
            exact ⟨⟨false, ret_bool (by first | rfl | (simp; omega)), by simp⟩, (Below.refl _ _).alloc (Nat.le_refl _) _⟩
  · go_enter Try.func17, Try.ntmps17
    go_wp2
    go_ret
    exact ⟨⟨false, rfl, by simp⟩, (Below.refl _ _).alloc (Nat.le_refl _) _⟩
end Go.Proofs.Ytchlbpfeiamieaa
namespace Go.Proofs.Ytchlbpfeiamieaa
open Go.RowKit

/-- a block that is known whole reads as a slice -/
theorem sl_lit {w : World} {b : Nat} {cs : Array Value} {t : TypeId} {fr : Nat × Nat} {xs : List Value} (h : w.heap[b]? = some (.cells cs t fr)) (e : cs.toList = xs) (hn : xs.length ≤ 9223372036854775807) : Sl w w.heap.size (some ⟨b, 0, none⟩) xs.length xs.length xs :=
  ⟨rfl, Nat.le_refl _, hn, fun _ => ⟨_, rfl, lt_of_heap h, fun j u hu => by rw [← e] at hu; exact World.news_of_block h j u hu⟩⟩
theorem heap_new (w : World) (o : Obj) : (w.alloc o).heap[w.heap.size]? = some o := heap_alloc_new w o

theorem same_lit {A : Option Addr} {n c B : Nat} {l : List UInt8} {W : World} (h : Sl W B A n c (bvs l)) (hB : B ≤ W.heap.size) (cs : Array Value) (hcs : cs.toList = bvs l) (m : Nat) (hm : m = l.length) (hl : l.length ≤ 1000) :
    Calls Try.prog 21 #[.slice A n c, .slice (some ⟨W.heap.size, 0, none⟩) m m] (W.alloc (.cells cs 5)) fun e w' => e = .returned (.bool true) ∧ W.alloc (.cells cs 5) = w' := by
  subst hm
  have h2 : Sl (W.alloc (.cells cs 5)) (W.alloc (.cells cs 5)).heap.size (some ⟨W.heap.size, 0, none⟩) (bvs l).length (bvs l).length (bvs l) := sl_lit (heap_new W _) hcs (by simp; omega)
  rw [bvs_length] at h2
  refine (same_any A n c l _ _ _ l _ _ _ (h.alloc hB _) h2).mono ?_
  rintro e w' ⟨rfl, rfl⟩
  exact ⟨by simp, rfl⟩
theorem fails_lit (W : World) (l : List UInt8) (cs : Array Value) (hcs : cs.toList = bvs l) (m : Nat) (hm : m = l.length) (hl : l.length ≤ 1000) (er : Nat) (x : Int) (hx : x = er) (hd : decU l = .inl er) :
    Calls Try.prog 71 #[.int .i64 x, .slice (some ⟨W.heap.size, 0, none⟩) m m] (W.alloc (.cells cs 5)) (IsTrue W) := by
  subst hm hx
  have h2 : Sl (W.alloc (.cells cs 5)) (W.alloc (.cells cs 5)).heap.size (some ⟨W.heap.size, 0, none⟩) (bvs l).length (bvs l).length (bvs l) := sl_lit (heap_new W _) hcs (by simp; omega)
  rw [bvs_length] at h2
  refine (fails_any _ _ _ l er _ h2 (by omega) hd).mono ?_
  rintro e w' ⟨rfl, hb⟩
  exact ⟨rfl, ((Below.refl _ W).alloc (Nat.le_refl _) _).trans (hb.mono (by simp))⟩

theorem enc1 : encU 5 true true [[97, 98]] = [0, 5, 97, 98] := by decide +kernel
theorem enc2 : encU 1023 false true [[120], [121, 122]] = [23, 255, 0, 16, 120, 121, 122] := by decide +kernel
theorem dec1 : decU [0] = .inl 5 := by decide +kernel
theorem dec2 : decU [32, 5, 97] = .inl 9 := by decide +kernel
theorem dec3 : decU [4, 5, 0, 0, 97] = .inl 9 := by decide +kernel
theorem dec4 : decU [0, 5] = .inl 5 := by decide +kernel

set_option maxRecDepth 100000 in
set_option maxHeartbeats 2000000 in
theorem works_any (w : World) : Calls Try.prog 18 #[] w (IsTrue w) := by
  have kc := fun (w : World) (C : Array Value) (n c : Nat) => Lib.run_convert_bytes_const (P := Try.prog) w 29 5 C n c und29 und5
  go_enter Try.func18, Try.ntmps18
  go_wp2_with fail
  have hB1 := ((Below.refl w.heap.size w).alloc (Nat.le_refl _) (.cells #[.int .u8 97, .int .u8 98] 5 (2, 3))).alloc (by simp) (.cells #[.slice (some ⟨w.heap.size, 0, none⟩) 2 2] 29)
  have g0 := (Below.heap_alloc (w.alloc (.cells #[.int .u8 97, .int .u8 98] 5 (2, 3))) (.cells #[.slice (some ⟨w.heap.size, 0, none⟩) 2 2] 29) w.heap.size (by simp)).trans (heap_new w (.cells #[.int .u8 97, .int .u8 98] 5 (2, 3)))
  have g1 := heap_new (w.alloc (.cells #[.int .u8 97, .int .u8 98] 5 (2, 3))) (.cells #[.slice (some ⟨w.heap.size, 0, none⟩) 2 2] 29)
  rw [World.size_alloc] at g1
  generalize (w.alloc (.cells #[.int .u8 97, .int .u8 98] 5 (2, 3))).alloc (.cells #[.slice (some ⟨w.heap.size, 0, none⟩) 2 2] 29) = w1 at *
  have hS1 : Sls w1 w1.heap.size (some ⟨w.heap.size + 1, 0, none⟩) 1 1 [.slice (some ⟨w.heap.size, 0, none⟩) 2 2] [[97, 98]] := by
    refine ⟨sl_lit g1 rfl (by simp), rfl, fun i p hi => ?_⟩
    match i, hi with
    | 0, hi =>
      simp at hi
      subst hi
      exact ⟨_, 2, rfl, sl_lit (xs := bvs [97, 98]) g0 rfl (by simp)⟩
    | i + 1, hi => simp at hi
  have he1 := encode_ok 5 true true _ 1 1 _ _ w1 hS1 (by omega) (by decide +kernel)
  rw [enc1] at he1
  refine he1.mono ?_
  rintro e2 w2 ⟨v2, rfl, hv2, hb2⟩
  have kc2 := Joins.run_convert_bytes_const_at (P := Try.prog) (w2.alloc (.cells #[.int .u8 120] 5 (1, 2))) 29 5 #[.int .u8 121, .int .u8 122] 2 2 (w2.heap.size + 1) (by simp) und29 und5
  go_wp2_with fail
  clear kc2
  have hB3 := ((((Below.refl w2.heap.size w2).alloc (Nat.le_refl _) (.cells #[.int .u8 120] 5 (1, 2))).alloc (by simp) (.cells #[.int .u8 121, .int .u8 122] 5 (2, 3)))).alloc (by simp; omega) (.cells #[.slice (some ⟨w2.heap.size, 0, none⟩) 1 1, .slice (some ⟨w2.heap.size + 1, 0, none⟩) 2 2] 29)
  have q0 := (Below.heap_alloc ((w2.alloc (.cells #[.int .u8 120] 5 (1, 2))).alloc (.cells #[.int .u8 121, .int .u8 122] 5 (2, 3))) (.cells #[.slice (some ⟨w2.heap.size, 0, none⟩) 1 1, .slice (some ⟨w2.heap.size + 1, 0, none⟩) 2 2] 29) w2.heap.size (by simp; omega)).trans
    ((Below.heap_alloc (w2.alloc (.cells #[.int .u8 120] 5 (1, 2))) (.cells #[.int .u8 121, .int .u8 122] 5 (2, 3)) w2.heap.size (by simp)).trans (heap_new w2 (.cells #[.int .u8 120] 5 (1, 2))))
  have q1 := heap_new (w2.alloc (.cells #[.int .u8 120] 5 (1, 2))) (.cells #[.int .u8 121, .int .u8 122] 5 (2, 3))
  rw [World.size_alloc] at q1
  replace q1 := (Below.heap_alloc ((w2.alloc (.cells #[.int .u8 120] 5 (1, 2))).alloc (.cells #[.int .u8 121, .int .u8 122] 5 (2, 3))) (.cells #[.slice (some ⟨w2.heap.size, 0, none⟩) 1 1, .slice (some ⟨w2.heap.size + 1, 0, none⟩) 2 2] 29) (w2.heap.size + 1) (by simp)).trans q1
  have q2 := heap_new ((w2.alloc (.cells #[.int .u8 120] 5 (1, 2))).alloc (.cells #[.int .u8 121, .int .u8 122] 5 (2, 3))) (.cells #[.slice (some ⟨w2.heap.size, 0, none⟩) 1 1, .slice (some ⟨w2.heap.size + 1, 0, none⟩) 2 2] 29)
  simp only [World.size_alloc] at q2
  generalize ((w2.alloc (.cells #[.int .u8 120] 5 (1, 2))).alloc (.cells #[.int .u8 121, .int .u8 122] 5 (2, 3))).alloc (.cells #[.slice (some ⟨w2.heap.size, 0, none⟩) 1 1, .slice (some ⟨w2.heap.size + 1, 0, none⟩) 2 2] 29) = w3 at *
  have hS3 : Sls w3 w3.heap.size (some ⟨w2.heap.size + 1 + 1, 0, none⟩) 2 2 [.slice (some ⟨w2.heap.size, 0, none⟩) 1 1, .slice (some ⟨w2.heap.size + 1, 0, none⟩) 2 2] [[120], [121, 122]] := by
    refine ⟨sl_lit q2 rfl (by simp), rfl, fun i p hi => ?_⟩
    match i, hi with
    | 0, hi =>
      simp at hi
      subst hi
      exact ⟨_, 1, rfl, sl_lit (xs := bvs [120]) q0 rfl (by simp)⟩
    | 1, hi =>
      simp at hi
      subst hi
      exact ⟨_, 2, rfl, sl_lit (xs := bvs [121, 122]) q1 rfl (by simp)⟩
    | i + 2, hi => simp at hi
  have he3 := encode_ok 1023 false true _ 2 2 _ _ w3 hS3 (by omega) (by decide +kernel)
  rw [enc2] at he3
  refine he3.mono ?_
  rintro e4 w4 ⟨v4, rfl, hv4, hb4⟩
  have hv24 := own_below (own_below hv2 hB3 (Nat.le_refl _)) hb4 (by have := hB3.size; omega)
  obtain ⟨A2, c2, rfl, hs2, _⟩ := own_sl hv24
  obtain ⟨A4, c4, rfl, hs4, _⟩ := own_sl hv4
  have hBw4 : Below w.heap.size w w4 := ((hB1.trans (hb2.mono hB1.size)).trans (hB3.mono (by have := hB1.size; have := hb2.size; omega))).trans (hb4.mono (by have := hB1.size; have := hb2.size; have := hB3.size; omega))
  clear hS3 hS1 he3 he1 g0 g1 q0 q1 q2 hB1 hb2 hB3 hb4 hv2 hv4 hv24
  have hs4' := hs4.alloc (Nat.le_refl _) (.cells #[.int .u8 0, .int .u8 5, .int .u8 97, .int .u8 98] 5)
  go_wp2_with (go_at_call 22; refine (num_any _ _).mono ?_; rintro e5 w5 ⟨rfl, rfl⟩)
  refine (same_lit hs2 (Nat.le_refl _) #[.int .u8 0, .int .u8 5, .int .u8 97, .int .u8 98] rfl 4 rfl (by simp)).mono ?_
  rintro e5 w5 ⟨rfl, hw5⟩
  have hBw5 : Below w.heap.size w w5 := by rw [← hw5]; exact hBw4.alloc hBw4.size _
  have hsz5 : w4.heap.size ≤ w5.heap.size := by rw [← hw5]; simp
  rw [hw5] at hs4'
  clear hw5 hs2 hs4 hBw4
  go_wp2_with fail
  refine (same_lit hs4' hsz5 #[.int .u8 23, .int .u8 255, .int .u8 0, .int .u8 16, .int .u8 120, .int .u8 121, .int .u8 122] rfl 7 rfl (by simp)).mono ?_
  rintro e6 w6 ⟨rfl, hw6⟩
  have hBw6 : Below w.heap.size w w6 := by rw [← hw6]; exact hBw5.alloc hBw5.size _
  clear hw6 hs4' hBw5
  go_wp2_with fail
  refine (fails_lit w6 [0] #[.int .u8 0] rfl 1 rfl (by simp) 5 5 rfl dec1).mono ?_
  rintro e7 w7 ⟨rfl, hb7⟩
  replace hBw6 := hBw6.trans (hb7.mono hBw6.size)
  go_wp2_with fail
  refine (fails_lit w7 [32, 5, 97] #[.int .u8 32, .int .u8 5, .int .u8 97] rfl 3 rfl (by simp) 9 9 rfl dec2).mono ?_
  rintro e8 w8 ⟨rfl, hb8⟩
  replace hBw6 := hBw6.trans (hb8.mono hBw6.size)
  go_wp2_with fail
  refine (fails_lit w8 [4, 5, 0, 0, 97] #[.int .u8 4, .int .u8 5, .int .u8 0, .int .u8 0, .int .u8 97] rfl 5 rfl (by simp) 9 9 rfl dec3).mono ?_
  rintro e9 w9 ⟨rfl, hb9⟩
  replace hBw6 := hBw6.trans (hb9.mono hBw6.size)
  go_wp2_with fail
  refine (fails_lit w9 [0, 5] #[.int .u8 0, .int .u8 5] rfl 2 rfl (by simp) 5 5 rfl dec4).mono ?_
  rintro e10 w10 ⟨rfl, hb10⟩
  replace hBw6 := hBw6.trans (hb10.mono hBw6.size)
  clear hb7 hb8 hb9 hb10
  have hh0 : hdrN 0 = 0 := by decide
  have hh1 : hdrN 1 = 2 := by decide
  have hh2 : hdrN 2 = 4 := by decide
  have hh3 : hdrN 3 = 5 := by decide
  go_wp2_with (go_at_call 27; refine (header_any _ _ (by omega)).mono ?_; rintro e11 w11 ⟨rfl, rfl⟩)
  go_ret
  exact ⟨rfl, hBw6⟩
end Go.Proofs.Ytchlbpfeiamieaa
namespace Go.Proofs.Ytchlbpfeiamieaa
open Go.RowKit


/-- wr is w with draws behind it -/
def Drew (w wr : World) : Prop := ∃ q, w.drewN q = wr
theorem Drew.refl (w : World) : Drew w w := ⟨0, rfl⟩
theorem Drew.more {w wr : World} (h : Drew w wr) (k : Nat) : Drew w (wr.drewN k) := by
  obtain ⟨q, rfl⟩ := h
  exact ⟨q + k, (World.drewN_drewN w q k).symm⟩
theorem Drew.trans {w w1 w2 : World} (h : Drew w w1) (h' : Drew w1 w2) : Drew w w2 := by
  obtain ⟨q, rfl⟩ := h'
  exact h.more q
theorem Sl.drewn {w wr : World} {B n c : Nat} {A : Option Addr} {xs : List Value} (h : Sl w B A n c xs) (hd : Drew w wr) : Sl wr B A n c xs := by
  obtain ⟨q, rfl⟩ := hd
  exact h.drewN q
theorem Sls.drewn {w wr : World} {B n c : Nat} {A : Option Addr} {vs : List Value} {ps : List (List UInt8)} (h : Sls w B A n c vs ps) (hd : Drew w wr) : Sls wr B A n c vs ps := by
  obtain ⟨q, rfl⟩ := hd
  exact ⟨h.sl.drewN q, h.len, fun i p hi => let ⟨Ai, ci, e, hs⟩ := h.each i p hi; ⟨Ai, ci, e, hs.drewN q⟩⟩
theorem Drew.size {w wr : World} (h : Drew w wr) : wr.heap.size = w.heap.size := by
  obtain ⟨q, rfl⟩ := h
  rfl
theorem Drew.below {w wr : World} (h : Drew w wr) (B : Nat) : Below B w wr := by
  obtain ⟨q, rfl⟩ := h
  exact (Below.refl B w).drewN q

/-- a call answers b; it draws, no more -/
def Answers (b : Bool) (w : World) (e : Ending) (w' : World) : Prop := e = .returned (.bool b) ∧ Drew w w'

theorem byte_ne {a b : UInt8} (h : a ≠ b) : ((a.toNat : Int) != (b.toNat : Int)) = true := by
  rw [bne_iff_ne]
  intro e
  exact h (UInt8.toNat_inj.1 (by omega))
theorem byte_eq (a : UInt8) : ((a.toNat : Int) != (a.toNat : Int)) = false := by simp

set_option maxHeartbeats 400000 in
theorem equal_any (A : Option Addr) (n c : Nat) (l : List UInt8) (A' : Option Addr) (n' c' : Nat) (l' : List UInt8) (w : World) (h : Sl w w.heap.size A n c (bvs l)) (h' : Sl w w.heap.size A' n' c' (bvs l')) :
    Calls Try.prog 92 #[.slice A n c, .slice A' n' c'] w (Answers (decide (l = l')) w) := by
  have hl : l.length = n := by simpa using h.len
  have hl' : l'.length = n' := by simpa using h'.len
  have hn : n ≤ 9223372036854775807 := by have := h.cap; have := h.mx; omega
  have HL := Lib.hid hl
  have HL' := Lib.hid hl'
  clear hl hl'
  by_cases hnn : n = n'
  · subst hnn
    obtain ⟨r, hr⟩ : ∃ r, decide (l = l') = r := ⟨_, rfl⟩
    rw [hr]
    have HR := Lib.hid hr
    clear hr
    go_enter Try.func92, Try.ntmps92
    go_wp2
    go_loopw [13] (fun i wr => ∃ k : Nat, k ≤ n ∧ i = .int .i64 k ∧ l.take k = l'.take k ∧ Drew w wr) (fun i _ => n - (intOf i).toNat)
    case atStart => exact ⟨0, Nat.zero_le _, rfl, by simp, Drew.refl _⟩
    case round =>
      obtain ⟨k, hk, rfl, htk, hdr⟩ := hrel
      have HT := Lib.hid htk
      clear htk
      by_cases hlt : k < n
      · obtain ⟨ad, u, rfl, hub, hu, hcu⟩ := (h.drewn hdr).get hlt
        obtain ⟨ad', u', rfl, hub', hu', hcu'⟩ := (h'.drewn hdr).get hlt
        obtain ⟨b, hb⟩ : ∃ b, l[k]? = some b := ⟨_, List.getElem?_eq_getElem (by rw [HL.out]; exact hlt)⟩
        obtain ⟨b', hb'⟩ : ∃ b, l'[k]? = some b := ⟨_, List.getElem?_eq_getElem (by rw [HL'.out]; exact hlt)⟩
        have e1 : u = .int .u8 (b.toNat : Int) := by unfold bvs at hu; rw [List.getElem?_map, hb] at hu; simpa [bv] using hu.symm
        have e2 : u' = .int .u8 (b'.toNat : Int) := by unfold bvs at hu'; rw [List.getElem?_map, hb'] at hu'; simpa [bv] using hu'.symm
        subst e1 e2
        have ht1 : l.take (k + 1) = l.take k ++ [b] := by rw [List.take_add_one, hb]; rfl
        have ht2 : l'.take (k + 1) = l'.take k ++ [b'] := by rw [List.take_add_one, hb']; rfl
        have H1 := Lib.hid ht1
        have H2 := Lib.hid ht2
        have HB := Lib.hid hb
        have HB' := Lib.hid hb'
        clear ht1 ht2 hu hu' hb hb' hub hub'
        have hi1 : (0 : Int) ≤ (k : Int) := by omega
        have hi2 : (k : Int) < n := by omega
        by_cases hbb : b = b'
        · subst hbb
          have hb0 := byte_eq b
          go_wp2
          go_quiet (fail)
          go_wp2
          go_roundw
          case rel => exact ⟨k + 1, by omega, by go_num, by rw [H1.out, H2.out, HT.out], hdr.more _⟩
          case measure => simp [intOf]; omega
        · have hb0 := byte_ne hbb
          have hrf : r = false := by
            rw [← HR.out]
            simp only [decide_eq_false_iff_not]
            intro e
            apply hbb
            have := HB.out
            rw [e, HB'.out] at this
            cases this
            rfl
          have HRF := Lib.hid hrf
          clear hrf hbb
          go_wp2
          go_quiet (fail)
          go_wp2
          go_ret
          exact ⟨ret_bool HRF.out.symm, hdr.more _⟩
      · have hrt : r = true := by
          rw [← HR.out]
          simp only [decide_eq_true_eq]
          have := HT.out
          rw [List.take_of_length_le (by rw [HL.out]; omega), List.take_of_length_le (by rw [HL'.out]; omega)] at this
          exact this
        have HRT := Lib.hid hrt
        clear hrt
        go_wp2
        go_ret
        exact ⟨ret_bool HRT.out.symm, hdr⟩
  · have hrf : decide (l = l') = false := by
      simp only [decide_eq_false_iff_not]
      rintro rfl
      exact hnn (HL.out.symm.trans HL'.out)
    have hne : ((n : Int) != (n' : Int)) = true := by rw [bne_iff_ne]; omega
    rw [hrf]
    clear hrf
    go_enter Try.func92, Try.ntmps92
    go_wp2
    go_ret
    exact ⟨rfl, Drew.refl _⟩

set_option maxHeartbeats 400000 in
theorem equalFunc_any (A : Option Addr) (n c : Nat) (vs : List Value) (ps : List (List UInt8)) (A' : Option Addr) (n' c' : Nat) (vs' : List Value) (ps' : List (List UInt8)) (w : World) (h : Sls w w.heap.size A n c vs ps) (h' : Sls w w.heap.size A' n' c' vs' ps') :
    Calls Try.prog 91 #[.slice A n c, .slice A' n' c', .func (.func 92) #[] #[]] w (Answers (decide (ps = ps')) w) := by
  have hn : n ≤ 9223372036854775807 := by have := h.sl.cap; have := h.sl.mx; omega
  have HL := Lib.hid h.len
  have HL' := Lib.hid h'.len
  by_cases hnn : n = n'
  · subst hnn
    obtain ⟨r, hr⟩ : ∃ r, decide (ps = ps') = r := ⟨_, rfl⟩
    rw [hr]
    have HR := Lib.hid hr
    clear hr
    go_enter Try.func91, Try.ntmps91
    go_wp2
    go_loopw [17] (fun i wr => ∃ k : Nat, k ≤ n ∧ i = .int .i64 k ∧ ps.take k = ps'.take k ∧ Drew w wr) (fun i _ => n - (intOf i).toNat)
    case atStart => exact ⟨0, Nat.zero_le _, rfl, by simp, Drew.refl _⟩
    case round =>
      obtain ⟨k, hk, rfl, htk, hdr⟩ := hrel
      have HT := Lib.hid htk
      clear htk
      by_cases hlt : k < n
      · obtain ⟨ad, Ai, ci, rfl, hub, hcu, hsl⟩ := (h.drewn hdr).get hlt
        obtain ⟨ad', Ai', ci', rfl, hub', hcu', hsl'⟩ := (h'.drewn hdr).get hlt
        have ht1 : ps.take (k + 1) = ps.take k ++ [ps[k]?.getD []] := by rw [List.take_add_one, List.getElem?_eq_getElem (by rw [HL.out]; exact hlt)]; rfl
        have ht2 : ps'.take (k + 1) = ps'.take k ++ [ps'[k]?.getD []] := by rw [List.take_add_one, List.getElem?_eq_getElem (by rw [HL'.out]; exact hlt)]; rfl
        have hpp : ps[k]?.getD [] ≠ ps'[k]?.getD [] → r = false := by
          intro hne
          rw [← HR.out]
          simp only [decide_eq_false_iff_not]
          intro e
          rw [e] at hne
          exact hne rfl
        generalize ps[k]?.getD [] = p at *
        generalize ps'[k]?.getD [] = p' at *
        have heq := equal_any Ai p.length ci p Ai' p'.length ci' p' wr (hsl.more (by rw [hdr.size]; exact Nat.le_refl _)) (hsl'.more (by rw [hdr.size]; exact Nat.le_refl _))
        have H1 := Lib.hid ht1
        have H2 := Lib.hid ht2
        have HPP := Lib.hid hpp
        clear ht1 ht2 hpp
        by_cases hbb : p = p'
        · subst hbb
          simp only [decide_true] at heq
          have HE := Lib.hid heq
          clear heq
          go_wp2_with (go_at_call 92; refine HE.out.mono ?_; rintro e1 w1 ⟨rfl, hd1⟩)
          go_roundw
          case rel => exact ⟨k + 1, by omega, by go_num, by rw [H1.out, H2.out, HT.out], hdr.trans hd1⟩
          case measure => simp [intOf]; omega
        · have hrf := HPP.out hbb
          simp only [decide_eq_false hbb] at heq
          have HE := Lib.hid heq
          have HRF := Lib.hid hrf
          clear heq hrf hbb
          go_wp2_with (go_at_call 92; refine HE.out.mono ?_; rintro e1 w1 ⟨rfl, hd1⟩)
          go_ret
          exact ⟨ret_bool HRF.out.symm, hdr.trans hd1⟩
      · have hrt : r = true := by
          rw [← HR.out]
          simp only [decide_eq_true_eq]
          have := HT.out
          rw [List.take_of_length_le (by rw [HL.out]; omega), List.take_of_length_le (by rw [HL'.out]; omega)] at this
          exact this
        have HRT := Lib.hid hrt
        clear hrt
        go_wp2
        go_ret
        exact ⟨ret_bool HRT.out.symm, hdr⟩
  · have hrf : decide (ps = ps') = false := by
      simp only [decide_eq_false_iff_not]
      rintro rfl
      exact hnn (HL.out.symm.trans HL'.out)
    have hne : ((n : Int) != (n' : Int)) = true := by rw [bne_iff_ne]; omega
    rw [hrf]
    clear hrf
    go_enter Try.func91, Try.ntmps91
    go_wp2
    go_ret
    exact ⟨rfl, Drew.refl _⟩
end Go.Proofs.Ytchlbpfeiamieaa
namespace Go.Proofs.Ytchlbpfeiamieaa
open Go.RowKit

def sameC (s e : Bool) (ps : List (List UInt8)) (s' e' : Bool) (ps' : List (List UInt8)) : Bool := decide (s = s' ∧ e = e' ∧ ps = ps')
/-- a call answers b and keeps what lay -/
def Tells (b : Bool) (w : World) (e : Ending) (w' : World) : Prop := e = .returned (.bool b) ∧ Below w.heap.size w w'

set_option maxHeartbeats 400000 in
theorem sameU_any (s e : Bool) (A : Option Addr) (n c : Nat) (vs : List Value) (ps : List (List UInt8)) (s' e' : Bool) (A' : Option Addr) (n' c' : Nat) (vs' : List Value) (ps' : List (List UInt8)) (w : World) (h : Sls w w.heap.size A n c vs ps) (h' : Sls w w.heap.size A' n' c' vs' ps') :
    Calls Try.prog 26 #[.agg #[.bool s, .bool e, .slice A n c], .agg #[.bool s', .bool e', .slice A' n' c']] w (Tells (sameC s e ps s' e' ps') w) := by
  have hB := ((Below.refl w.heap.size w).alloc (Nat.le_refl _) (.cells #[.bool s, .bool e, .slice A n c] 24)).alloc (by simp) (.cells #[.bool s', .bool e', .slice A' n' c'] 24)
  have heq := equalFunc_any A n c vs ps A' n' c' vs' ps' _ ((h.below hB).more hB.size) ((h'.below hB).more hB.size)
  have HE := Lib.hid heq
  have HB := Lib.hid hB
  clear heq hB
  unfold sameC
  by_cases hs : s = s'
  · by_cases he : e = e'
    · subst hs he
      simp only [true_and]
      have e1 : (s == s) = true := by simp
      have e2 : (e == e) = true := by simp
      generalize decide (ps = ps') = r at *
      go_enter Try.func26, Try.ntmps26
      go_wp2_with (go_at_call 91; refine HE.out.mono ?_; rintro e1 w1 ⟨rfl, hd⟩)
      go_ret
      exact ⟨rfl, HB.out.trans (hd.below _)⟩
    · have hd : decide (s = s' ∧ e = e' ∧ ps = ps') = false := by simp [he]
      rw [hd]
      clear hd
      subst hs
      have e1 : (s == s) = true := by simp
      have e2 : (e == e') = false := by simpa using he
      go_enter Try.func26, Try.ntmps26
      go_wp2
      go_ret
      exact ⟨rfl, HB.out⟩
  · have hd : decide (s = s' ∧ e = e' ∧ ps = ps') = false := by simp [hs]
    rw [hd]
    clear hd
    have e1 : (s == s') = false := by simpa using hs
    go_enter Try.func26, Try.ntmps26
    go_wp2
    go_ret
    exact ⟨rfl, HB.out⟩

set_option maxHeartbeats 800000 in
theorem sameR_any (s e : Bool) (A : Option Addr) (n c : Nat) (vs : List Value) (ps : List (List UInt8)) (s' e' : Bool) (A' : Option Addr) (n' c' : Nat) (vs' : List Value) (ps' : List (List UInt8)) (w : World) (h : Sls w w.heap.size A n c vs ps) (h' : Sls w w.heap.size A' n' c' vs' ps') :
    Calls Try.prog 25 #[.agg #[.bool s, .bool e, .slice A n c], .agg #[.bool s', .bool e', .slice A' n' c']] w (Tells (sameC s e ps s' e' ps') w) := by
  have hB := ((Below.refl w.heap.size w).alloc (Nat.le_refl _) (.cells #[.bool s, .bool e, .slice A n c] 24)).alloc (by simp) (.cells #[.bool s', .bool e', .slice A' n' c'] 24)
  have hA := (h.below hB).more hB.size
  have hA' := (h'.below hB).more hB.size
  have HB := Lib.hid hB
  have hn : n ≤ 9223372036854775807 := by have := h.sl.cap; have := h.sl.mx; omega
  have HL := Lib.hid h.len
  have HL' := Lib.hid h'.len
  clear hB
  unfold sameC
  by_cases hs : s = s'
  · by_cases he : e = e'
    · subst hs he
      simp only [true_and]
      have e1 : (s != s) = false := by simp
      have e2 : (e != e) = false := by simp
      by_cases hnn : n = n'
      · subst hnn
        have e3 : ((n : Int) != (n : Int)) = false := by simp
        obtain ⟨r, hr⟩ : ∃ r, decide (ps = ps') = r := ⟨_, rfl⟩
        rw [hr]
        have HR := Lib.hid hr
        clear hr
        have b0 := (Blk.new w 24 #[.bool s, .bool e, .slice A n c]).alloc (.cells #[.bool s, .bool e, .slice A' n c'] 24)
        have b1 := Blk.new (w.alloc (.cells #[.bool s, .bool e, .slice A n c] 24)) 24 #[.bool s, .bool e, .slice A' n c']
        rw [World.size_alloc] at b1
        go_enter Try.func25, Try.ntmps25
        go_wp2
        generalize (w.alloc (.cells #[.bool s, .bool e, .slice A n c] 24)).alloc (.cells #[.bool s, .bool e, .slice A' n c'] 24) = w1 at *
        go_loopw [5] (fun i wr => ∃ k : Nat, k ≤ n ∧ i = .int .i64 k ∧ ps.take k = ps'.take k ∧ Drew w1 wr) (fun i _ => n - (intOf i).toNat)
        case atStart => exact ⟨0, Nat.zero_le _, rfl, by simp, Drew.refl _⟩
        case round =>
          obtain ⟨k, hk, rfl, htk, hdr⟩ := hrel
          have HT := Lib.hid htk
          clear htk
          have c0 := (b0.below (hdr.below _) b0.lt).cell 2
          have c1 := (b1.below (hdr.below _) b1.lt).cell 2
          simp at c0 c1
          by_cases hlt : k < n
          · obtain ⟨ad, Ai, ci, rfl, hub, hcu, hsl⟩ := (hA.drewn hdr).get hlt
            obtain ⟨ad', Ai', ci', rfl, hub', hcu', hsl'⟩ := (hA'.drewn hdr).get hlt
            have ht1 : ps.take (k + 1) = ps.take k ++ [ps[k]?.getD []] := by rw [List.take_add_one, List.getElem?_eq_getElem (by rw [HL.out]; exact hlt)]; rfl
            have ht2 : ps'.take (k + 1) = ps'.take k ++ [ps'[k]?.getD []] := by rw [List.take_add_one, List.getElem?_eq_getElem (by rw [HL'.out]; exact hlt)]; rfl
            have hpp : ps[k]?.getD [] ≠ ps'[k]?.getD [] → r = false := by
              intro hne
              rw [← HR.out]
              simp only [decide_eq_false_iff_not]
              intro e
              rw [e] at hne
              exact hne rfl
            generalize ps[k]?.getD [] = p at *
            generalize ps'[k]?.getD [] = p' at *
            have k1 := fun q => conv_sl (hsl.drewN q)
            have k2 := fun q => conv_sl (hsl'.drewN q)
            have H1 := Lib.hid ht1
            have H2 := Lib.hid ht2
            have HPP := Lib.hid hpp
            clear ht1 ht2 hpp hsl hsl' hub hub'
            have hi1 : (0 : Int) ≤ (k : Int) := by omega
            have hi2 : (k : Int) < n := by omega
            by_cases hbb : p = p'
            · subst hbb
              have hb0 : (p != p) = false := by simp
              go_wp2
              go_quiet (fail)
              go_wp2
              go_roundw
              case rel => exact ⟨k + 1, by omega, by go_num, by rw [H1.out, H2.out, HT.out], hdr.more _⟩
              case measure => simp [intOf]; omega
            · have hrf := HPP.out hbb
              have hb0 : (p != p') = true := by simpa using hbb
              have hb1 : (p == p') = false := by simpa using hbb
              have HRF := Lib.hid hrf
              clear hrf hbb
              go_wp2
              go_quiet (fail)
              go_wp2
              go_ret
              exact ⟨ret_bool HRF.out.symm, HB.out.trans ((hdr.more _).below _)⟩
          · have hrt : r = true := by
              rw [← HR.out]
              simp only [decide_eq_true_eq]
              have := HT.out
              rw [List.take_of_length_le (by rw [HL.out]; omega), List.take_of_length_le (by rw [HL'.out]; omega)] at this
              exact this
            have HRT := Lib.hid hrt
            clear hrt
            go_wp2
            go_ret
            exact ⟨ret_bool HRT.out.symm, HB.out.trans (hdr.below _)⟩
      · have hrf : decide (ps = ps') = false := by
          simp only [decide_eq_false_iff_not]
          rintro rfl
          exact hnn (HL.out.symm.trans HL'.out)
        have hne : ((n : Int) != (n' : Int)) = true := by rw [bne_iff_ne]; omega
        rw [hrf]
        clear hrf
        go_enter Try.func25, Try.ntmps25
        go_wp2
        go_ret
        exact ⟨rfl, HB.out⟩
    · have hd : decide (s = s' ∧ e = e' ∧ ps = ps') = false := by simp [he]
      rw [hd]
      clear hd
      subst hs
      have e1 : (s != s) = false := by simp
      have e2 : (e != e') = true := by simpa using he
      go_enter Try.func25, Try.ntmps25
      go_wp2
      go_ret
      exact ⟨rfl, HB.out⟩
  · have hd : decide (s = s' ∧ e = e' ∧ ps = ps') = false := by simp [hs]
    rw [hd]
    clear hd
    have e1 : (s != s') = true := by simpa using hs
    go_enter Try.func25, Try.ntmps25
    go_wp2
    go_ret
    exact ⟨rfl, HB.out⟩
end Go.Proofs.Ytchlbpfeiamieaa
namespace Go.Proofs.Ytchlbpfeiamieaa
open Go.RowKit

theorem sameC_refl (s e : Bool) (ps : List (List UInt8)) : sameC s e ps s e ps = true := by simp [sameC]
theorem sameC_comm (s e : Bool) (ps : List (List UInt8)) (s' e' : Bool) (ps' : List (List UInt8)) : sameC s' e' ps' s e ps = sameC s e ps s' e' ps' := by
  unfold sameC
  rw [decide_eq_decide]
  constructor <;> (rintro ⟨rfl, rfl, rfl⟩; exact ⟨rfl, rfl, rfl⟩)

theorem Blk.three {w : World} {g : Nat} {t : TypeId} {x y z : Value} (b : Blk w g t #[x, y, z]) : w.cell? ⟨g, 0, none⟩ = some x ∧ w.cell? ⟨g, 1, none⟩ = some y ∧ w.cell? ⟨g, 2, none⟩ = some z :=
  ⟨b.cell 0, b.cell 1, b.cell 2⟩
set_option maxHeartbeats 1600000 in
theorem umpduSame_walk (s e : Bool) (A : Option Addr) (n c : Nat) (vs : List Value) (ps : List (List UInt8)) (s' e' : Bool) (A' : Option Addr) (n' c' : Nat) (vs' : List Value) (ps' : List (List UInt8)) (w : World) (h : Sls w w.heap.size A n c vs ps) (h' : Sls w w.heap.size A' n' c' vs' ps') :
    Calls Try.prog 5 #[.agg #[.bool s, .bool e, .slice A n c], .agg #[.bool s', .bool e', .slice A' n' c']] w (IsTrue w) := by
  have hB := ((Below.refl w.heap.size w).alloc (Nat.le_refl _) (.cells #[.bool s, .bool e, .slice A n c] 24)).alloc (by simp) (.cells #[.bool s', .bool e', .slice A' n' c'] 24)
  have b0 := (Blk.new w 24 #[.bool s, .bool e, .slice A n c]).alloc (.cells #[.bool s', .bool e', .slice A' n' c'] 24)
  have b1 := Blk.new (w.alloc (.cells #[.bool s, .bool e, .slice A n c] 24)) 24 #[.bool s', .bool e', .slice A' n' c']
  rw [World.size_alloc] at b1
  have hA := (h.below hB).more hB.size
  have hA' := (h'.below hB).more hB.size
  go_enter Try.func5, Try.ntmps5
  go_wp2_with fail
  generalize (w.alloc (.cells #[.bool s, .bool e, .slice A n c] 24)).alloc (.cells #[.bool s', .bool e', .slice A' n' c'] 24) = w1 at *
  refine (few_any s e A n c vs ps w1 hA).mono ?_
  rintro e1 w2 ⟨⟨r1, rfl, _⟩, hb1⟩
  have hB1 : Below w.heap.size w w2 := hB.trans (hb1.mono hB.size)
  have hsz1 := hb1.size
  have hA1 := (hA.below hb1).more hsz1
  have hA1' := (hA'.below hb1).more hsz1
  have d0 := b0.below hb1 b0.lt
  have d1 := b1.below hb1 b1.lt
  clear hb1 hA hA' b0 b1 hB hsz1
  have b0 := d0
  have b1 := d1
  cases r1 with
  | false =>
    go_wp2_with (go_at_call 18; refine (works_any _).mono ?_; rintro e2 w3 ⟨rfl, hb2⟩)
    go_ret
    exact ⟨rfl, hB1.trans (hb2.mono hB1.size)⟩
  | true =>
    obtain ⟨x0, x1, x2⟩ := b1.three
    go_wp2_with fail
    refine (few_any s' e' A' n' c' vs' ps' w2 hA1').mono ?_
    rintro e1 w3 ⟨⟨r2, rfl, _⟩, hb2⟩
    have hB2 : Below w.heap.size w w3 := hB1.trans (hb2.mono hB1.size)
    have hsz2 := hb2.size
    have hA2 := (hA1.below hb2).more hsz2
    have hA2' := (hA1'.below hb2).more hsz2
    have d0 := b0.below hb2 b0.lt
    have d1 := b1.below hb2 b1.lt
    clear hb2 hA1 hA1' b0 b1 hB1 hsz2 x0 x1 x2
    have b0 := d0
    have b1 := d1
    cases r2 with
    | false =>
      go_wp2_with (go_at_call 18; refine (works_any _).mono ?_; rintro e2 w4 ⟨rfl, hb3⟩)
      go_ret
      exact ⟨rfl, hB2.trans (hb3.mono hB2.size)⟩
    | true =>
      obtain ⟨x0, x1, x2⟩ := b0.three
      obtain ⟨y0, y1, y2⟩ := b1.three
      go_wp2_with fail
      refine (sameR_any s e A n c vs ps s' e' A' n' c' vs' ps' w3 hA2 hA2').mono ?_
      rintro e1 w4 ⟨rfl, hb2⟩
      have hB3 : Below w.heap.size w w4 := hB2.trans (hb2.mono hB2.size)
      have hsz2 := hb2.size
      have hA3 := (hA2.below hb2).more hsz2
      have hA3' := (hA2'.below hb2).more hsz2
      have d0 := b0.below hb2 b0.lt
      have d1 := b1.below hb2 b1.lt
      clear hb2 hA2 hA2' b0 b1 hB2 hsz2 x0 x1 x2 y0 y1 y2
      have b0 := d0
      have b1 := d1
      obtain ⟨x0, x1, x2⟩ := b0.three
      obtain ⟨y0, y1, y2⟩ := b1.three
      go_wp2_with fail
      refine (sameU_any s e A n c vs ps s' e' A' n' c' vs' ps' w4 hA3 hA3').mono ?_
      rintro e1 w5 ⟨rfl, hb2⟩
      have hB4 : Below w.heap.size w w5 := hB3.trans (hb2.mono hB3.size)
      have hsz2 := hb2.size
      have hA4 := (hA3.below hb2).more hsz2
      have hA4' := (hA3'.below hb2).more hsz2
      have d0 := b0.below hb2 b0.lt
      have d1 := b1.below hb2 b1.lt
      clear hb2 hA3 hA3' b0 b1 hB3 hsz2 x0 x1 x2 y0 y1 y2
      have b0 := d0
      have b1 := d1
      obtain ⟨x0, x1, x2⟩ := b0.three
      obtain ⟨y0, y1, y2⟩ := b1.three
      have hcm := sameC_comm s e ps s' e' ps'
      have hsu := sameU_any s' e' A' n' c' vs' ps' s e A n c vs ps w5 hA4' hA4
      rw [hcm] at hsu
      clear hcm
      generalize sameC s e ps s' e' ps' = r at *
      have hrr : (r == r) = true := by simp
      go_wp2_with fail
      refine hsu.mono ?_
      rintro e1 w6 ⟨rfl, hb2⟩
      have hB5 : Below w.heap.size w w6 := hB4.trans (hb2.mono hB4.size)
      have hsz2 := hb2.size
      have hA5 := (hA4.below hb2).more hsz2
      have d0 := b0.below hb2 b0.lt
      clear hb2 hA4 hA4' b0 b1 hB4 hsz2 x0 x1 x2 y0 y1 y2 hsu
      have b0 := d0
      obtain ⟨x0, x1, x2⟩ := b0.three
      have hsu := sameU_any s e A n c vs ps s e A n c vs ps w6 hA5 hA5
      rw [sameC_refl] at hsu
      go_wp2_with fail
      refine hsu.mono ?_
      rintro e1 w7 ⟨rfl, hb2⟩
      have hB6 : Below w.heap.size w w7 := hB5.trans (hb2.mono hB5.size)
      clear hb2 hsu hB5 hA5 b0 x0 x1 x2
      go_wp2_with (go_at_call 18; refine (works_any _).mono ?_; rintro e2 w8 ⟨rfl, hb3⟩)
      go_ret
      exact ⟨rfl, hB6.trans (hb3.mono hB6.size)⟩
end Go.Proofs.Ytchlbpfeiamieaa
