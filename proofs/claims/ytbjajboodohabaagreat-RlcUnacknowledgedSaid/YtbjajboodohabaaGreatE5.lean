/- law38: steps as values; few; SameList. -/
import Derived.Test.YtbjajboodohabaaGreatE4
namespace Go.Proofs.YtbjajboodohabaaGreat.Tm
open Go.RowKit
attribute [local go_sem] Oper.semAt_some

/-- a step as a value -/
structure StepV where
  kd : Int
  now : Int
  k : Int
  A : Option Addr
  b : List UInt8
  c : Nat
/-- a slice of steps -/
structure SlS (w : World) (B : Nat) (A : Option Addr) (n c : Nat) (l : List StepV) : Prop where
  len : l.length = n
  cap : n ≤ c
  mx : c ≤ 9223372036854775807
  at_ : 0 < n → ∃ ad, A = some ad ∧ ad.block < B ∧ ∀ j x, l[j]? = some x → w.cell? (ad.add (j * 4)) = some (.int .i64 x.kd) ∧ w.cell? (ad.add (j * 4 + 1)) = some (.int .i64 x.now) ∧ w.cell? (ad.add (j * 4 + 2)) = some (.int .i64 x.k) ∧ w.cell? (ad.add (j * 4 + 3)) = some (.slice x.A x.b.length x.c) ∧ Sl w B x.A x.b.length x.c (bvs x.b)
theorem SlS.keep {w w' : World} {B n c : Nat} {A : Option Addr} {l : List StepV} (h : SlS w B A n c l) (hk : ∀ p : Addr, p.block < B → w'.cell? p = w.cell? p) : SlS w' B A n c l :=
  ⟨h.len, h.cap, h.mx, fun hn => by
    obtain ⟨ad, e, hb, hc⟩ := h.at_ hn
    refine ⟨ad, e, hb, fun j x hj => ?_⟩
    obtain ⟨h1, h2, h3, h4, h5⟩ := hc j x hj
    exact ⟨(hk _ (by rw [block_add]; exact hb)).trans h1, (hk _ (by rw [block_add]; exact hb)).trans h2, (hk _ (by rw [block_add]; exact hb)).trans h3, (hk _ (by rw [block_add]; exact hb)).trans h4, h5.keep hk⟩⟩
theorem SlS.below {w w' : World} {B n c : Nat} {A : Option Addr} {l : List StepV} (h : SlS w B A n c l) (hb : Below B w w') : SlS w' B A n c l := h.keep fun _ hp => hb.cell hp
theorem SlS.get {w : World} {B n c : Nat} {A : Option Addr} {l : List StepV} (h : SlS w B A n c l) {j : Nat} (hj : j < n) : ∃ ad x, A = some ad ∧ ad.block < B ∧ l[j]? = some x ∧ w.cell? (ad.add (j * 4)) = some (.int .i64 x.kd) ∧ w.cell? (ad.add (j * 4 + 1)) = some (.int .i64 x.now) ∧ w.cell? (ad.add (j * 4 + 2)) = some (.int .i64 x.k) ∧ w.cell? (ad.add (j * 4 + 3)) = some (.slice x.A x.b.length x.c) ∧ Sl w B x.A x.b.length x.c (bvs x.b) := by
  obtain ⟨ad, e, hb, hc⟩ := h.at_ (by omega)
  have hl : j < l.length := by have := h.len; omega
  exact ⟨ad, l[j], e, hb, List.getElem?_eq_getElem hl, hc j _ (List.getElem?_eq_getElem hl)⟩
theorem add_struct (a : Addr) (m i : Nat) (hi : 0 < i) : (⟨(a.add m).block, (a.add m).off + i, none⟩ : Addr) = a.add (m + i) := by
  have hi0 : ¬ i = 0 := by omega
  by_cases hm : m = 0
  · subst hm
    simp [Addr.add, hi0]
  · have hmi : ¬ m + i = 0 := by omega
    simp [Addr.add, hm, hi0, Nat.add_assoc]
/-- the bytes of the steps -/
def lensS (l : List StepV) : Nat := (l.map fun x => x.b.length).sum
theorem lensS_snoc (l : List StepV) (x : StepV) : lensS (l ++ [x]) = lensS l + x.b.length := by simp [lensS]
theorem lensS_mem {l : List StepV} {x : StepV} (h : x ∈ l) : x.b.length ≤ lensS l := by
  induction l with
  | nil => cases h
  | cons y r ih =>
    simp only [lensS, List.map_cons, List.sum_cons]
    rcases List.mem_cons.1 h with rfl | h
    · omega
    · have := ih h
      unfold lensS at this
      omega
theorem lensS_le {l : List StepV} {m : Nat} (h : ∀ x ∈ l, x.b.length ≤ m) : lensS l ≤ m * l.length := by
  induction l with
  | nil => simp [lensS]
  | cons x r ih =>
    have h1 := h x (by simp)
    have h2 := ih fun s hs => h s (by simp [hs])
    simp only [lensS, List.map_cons, List.sum_cons, List.length_cons] at h2 ⊢
    rw [Nat.mul_add]
    omega
/-- what few says -/
def FewIs (n : Nat) (l : List StepV) (w : World) (e : Ending) (w' : World) : Prop := ∃ b : Bool, e = .returned (.bool b) ∧ (b = true → n ≤ 40 ∧ ∀ x ∈ l, x.b.length ≤ 9500) ∧ w = w'
set_option maxRecDepth 10000 in
set_option maxHeartbeats 1000000 in
theorem few_any (A : Option Addr) (n c : Nat) (l : List StepV) (w : World) (h : SlS w w.heap.size A n c l) (hR : ∀ x ∈ l, x.b.length ≤ 140737488351232) :
    Calls Tryz.prog 4 #[.slice A n c] w (FewIs n l w) := by
  have hn63 : n ≤ 9223372036854775807 := by have := h.cap; have := h.mx; omega
  have hlen := h.len
  have HR := Lib.hid hR
  have HLEN := Lib.hid hlen
  clear hR hlen
  go_enter Tryz.func4, Tryz.ntmps4
  go_wp2
  go_loop [3, 4] (fun s i => ∃ (k x : Nat), k ≤ n ∧ k ≤ 41 ∧ i = .int .i64 k ∧ s = .int .i64 x ∧ x = lensS (l.take k)) (fun _ i => n - (intOf i).toNat)
  case atStart => exact ⟨0, 0, Nat.zero_le _, by omega, rfl, rfl, rfl⟩
  case round =>
    obtain ⟨k, x, hk, hk41, rfl, rfl, hx⟩ := hrel
    have hxb : x ≤ 5770237022568448512 := by
      have h1 := lensS_le (l := l.take k) fun y hy => HR.out y (List.mem_of_mem_take hy)
      have h2 : (l.take k).length ≤ 41 := by rw [List.length_take]; omega
      have h3 := Nat.mul_le_mul_left 140737488351232 h2
      omega
    have HX := Lib.hid hx
    clear hx
    by_cases hlt : k < n
    · by_cases h40 : k ≤ 40
      · obtain ⟨ad, y, rfl, hb, hy, h1, h2, h3, h4, h5⟩ := h.get hlt
        have hcap := h5.cap
        have hmx := h5.mx
        have hyb := HR.out y (List.mem_of_getElem? hy)
        have hx2 : x + y.b.length = lensS (l.take (k + 1)) := by rw [HX.out, List.take_add_one, hy]; exact (lensS_snoc _ _).symm
        have HX2 := Lib.hid hx2
        have hd2 := h3
        have hd3 := h4
        rw [← add_struct ad (k * 4) 2 (by omega)] at hd2
        rw [← add_struct ad (k * 4) 3 (by omega)] at hd3
        clear hy h5 hx2
        go_wp2
        all_goals first
          | (go_ret; exact ⟨false, rfl, by simp, rfl⟩)
          | (go_round
             case rel => exact ⟨k + 1, x + y.b.length, by omega, by omega, by go_num, by go_num, HX2.out⟩
             case measure => simp [intOf]; omega)
      · have hn40 : ¬ (n : Int) ≤ 40 := by omega
        go_wp2
        go_ret
        exact ⟨false, rfl, by simp, rfl⟩
    · have hkn : k = n := by omega
      by_cases h40 : (n : Int) ≤ 40
      · have hall : x ≤ 9500 → ∀ y ∈ l, y.b.length ≤ 9500 := fun hx9 y hy => by
          have e : l.take k = l := List.take_of_length_le (by rw [HLEN.out]; omega)
          have := lensS_mem hy
          have := HX.out
          rw [e] at this
          omega
        have HALL := Lib.hid hall
        clear hall
        by_cases hx9 : x ≤ 9500
        · go_wp2
          go_ret
          exact ⟨true, by simp; omega, fun _ => ⟨by omega, HALL.out hx9⟩, rfl⟩
        · go_wp2
          go_ret
          exact ⟨false, by simp; omega, by simp, rfl⟩
      · go_wp2
        go_ret
        exact ⟨false, rfl, by simp, rfl⟩

theorem ttick_any (t : Nat) (now : Int) (w : World) : Calls Tryz.prog 144 #[.pointer (some ⟨t, 0, none⟩), .int .i64 now] w fun e w' => e = .returned (.tuple #[.slice none 0 0, .int .i64 0]) ∧ w = w' := by
  go_enter Tryz.func144, Tryz.ntmps144
  go_wp2
  go_ret2
  exact ⟨rfl, rfl⟩
theorem rtick_any (base g t : Nat) (v : Value) (vs : List Value) (sdus : List (List UInt8)) (cap : Nat) (now : Int) (w : World) (h : Ent w base g t v vs sdus cap) : Calls Tryz.prog 16 #[.pointer (some ⟨g, 0, none⟩), .int .i64 now] w fun e w' => e = .returned (.tuple #[.slice none 0 0, .int .i64 0]) ∧ w = w' := by
  have hno := none_any g 1 _ _ w h.ent
  have x1 := h.ent.cell 1
  simp at x1
  have HN := Lib.hid hno
  have HC := Lib.hid (ttick_any t now w)
  have hme := meth_tick ⟨t, 0, none⟩
  clear hno h
  go_enter Tryz.func16, Tryz.ntmps16
  go_wp2_with (first | (go_at_call 24; refine HN.out.mono ?_; rintro e1 w1 ⟨rfl, rfl⟩) | (go_at_call 144; refine HC.out.mono ?_; rintro e1 w1 ⟨rfl, rfl⟩))
  go_ret2
  exact ⟨rfl, rfl⟩
theorem treceive_bad (t : Nat) (now : Int) (A : Option Addr) (n c : Nat) (w : World) (hn : n = 0 ∨ 9000 < n) (hnc : n ≤ c) (hc : c ≤ 9223372036854775807) : Calls Tryz.prog 142 #[.pointer (some ⟨t, 0, none⟩), .int .i64 now, .slice A n c] w fun e w' => e = .returned (.tuple #[.slice none 0 0, .int .i64 2]) ∧ w = w' := by
  have hf := fits_any A n c w hnc hc
  have e1 : (decide (0 < n) && decide (n ≤ 9000)) = false := by simp; omega
  rw [e1] at hf
  have HF := Lib.hid hf
  clear hf e1 hn
  go_enter Tryz.func142, Tryz.ntmps142
  go_wp2_with (go_at_call 146; refine HF.out.mono ?_; rintro e1 w1 ⟨rfl, rfl⟩)
  go_ret2
  exact ⟨rfl, rfl⟩
/-- a list of one SDU -/
def RecOut (w : World) (x : List UInt8) (e : Ending) (w' : World) : Prop :=
  ∃ b A1 c1, e = .returned (.tuple #[.slice (some ⟨b, 0, none⟩) 1 1, .int .i64 0]) ∧ Sls w' w'.heap.size (some ⟨b, 0, none⟩) 1 1 [.slice A1 x.length c1] [x] ∧ Below w.heap.size w w'
theorem sls_one {W : World} {A : Option Addr} {c : Nat} {x : List UInt8} (h : Sl W W.heap.size A x.length c (bvs x)) : Sls (W.alloc (.cells #[.slice A x.length c] 40)) (W.alloc (.cells #[.slice A x.length c] 40)).heap.size (some ⟨W.heap.size, 0, none⟩) 1 1 [.slice A x.length c] [x] := by
  refine ⟨sl_new0 W _ 40, rfl, fun i p hi => ?_⟩
  match i, hi with
  | 0, hi =>
    simp at hi
    subst hi
    exact ⟨A, c, rfl, (h.alloc (Nat.le_refl _) _).more (by simp)⟩
  | i + 1, hi => simp at hi
theorem treceive_ok (t : Nat) (now : Int) (A : Option Addr) (n c : Nat) (x : List UInt8) (w : World) (h : Sl w w.heap.size A n c (bvs x)) (hn0 : 0 < n) (hn : n ≤ 9000) : Calls Tryz.prog 142 #[.pointer (some ⟨t, 0, none⟩), .int .i64 now, .slice A n c] w (RecOut w x) := by
  have hf := fits_any A n c w h.cap h.mx
  have e1 : (decide (0 < n) && decide (n ≤ 9000)) = true := by simp; omega
  rw [e1] at hf
  have hcl := clone_any A n c x w h (by omega)
  have hxl : x.length = n := by simpa using h.len
  have HF := Lib.hid hf
  have HCL := Lib.hid hcl
  have HX := Lib.hid hxl
  clear hf e1 hn hcl hxl h
  go_enter Tryz.func142, Tryz.ntmps142
  go_wp2_with (first | (go_at_call 146; refine HF.out.mono ?_; rintro e1 w1 ⟨rfl, rfl⟩) | (go_at_call 50; refine HCL.out.mono ?_; rintro e1 w1 ⟨v1, rfl, hv1, hb1⟩; obtain ⟨A1, c1, rfl, hs1, _⟩ := own_sl hv1))
  go_ret2
  have hx := HX.out
  subst hx
  exact ⟨w1.heap.size, A1, c1, rfl, sls_one hs1, hb1.alloc hb1.size _⟩
theorem rreceive_of (base g t : Nat) (v : Value) (vs : List Value) (sdus : List (List UInt8)) (cap : Nat) (now : Int) (A : Option Addr) (n c : Nat) (w : World) (h : Ent w base g t v vs sdus cap) (Q : Ending → World → Prop) (hQ : ∀ e w', Q e w' → ∃ b x, e = .returned (.tuple #[b, x]))
    (hc : Calls Tryz.prog 142 #[.pointer (some ⟨t, 0, none⟩), .int .i64 now, .slice A n c] w Q) :
    Calls Tryz.prog 13 #[.pointer (some ⟨g, 0, none⟩), .int .i64 now, .slice A n c] w Q := by
  have hno := none_any g 1 _ _ w h.ent
  have x1 := h.ent.cell 1
  simp at x1
  have HN := Lib.hid hno
  have HC := Lib.hid (hc.mono fun e w' hq => (⟨hQ e w' hq, hq⟩ : (∃ b x, e = .returned (.tuple #[b, x])) ∧ Q e w'))
  have hme := meth_receive ⟨t, 0, none⟩
  clear hno hc h hQ
  go_enter Tryz.func13, Tryz.ntmps13
  go_wp2_with (first | (go_at_call 24; refine HN.out.mono ?_; rintro e1 w1 ⟨rfl, rfl⟩) | (go_at_call 142; refine HC.out.mono ?_; rintro e1 w1 ⟨⟨b, x, rfl⟩, hq⟩))
  exact hq
/-- true, with draws alone -/
def TrueD (w : World) (e : Ending) (w' : World) : Prop := e = .returned (.bool true) ∧ Drew w w'
set_option maxHeartbeats 1000000 in
theorem sameList_eq (A A' : Option Addr) (n c c' : Nat) (vs vs' : List Value) (ps : List (List UInt8)) (w : World) (h : Sls w w.heap.size A n c vs ps) (h' : Sls w w.heap.size A' n c' vs' ps) :
    Calls Tryz.prog 15 #[.slice A n c, .slice A' n c'] w (TrueD w) := by
  have hcap := h.sl.cap
  have hmx := h.sl.mx
  have hcap' := h'.sl.cap
  have hmx' := h'.sl.mx
  have d0 : ((n : Int) != (n : Int)) = false := by simp
  go_enter Tryz.func15, Tryz.ntmps15
  go_wp2
  go_loopw [5] (fun i wr => ∃ k : Nat, k ≤ n ∧ i = .int .i64 k ∧ Drew w wr) (fun i _ => n - (intOf i).toNat)
  case atStart => exact ⟨0, Nat.zero_le _, rfl, Drew.refl _⟩
  case round =>
    obtain ⟨k, hk, rfl, hdr⟩ := hrel
    by_cases hlt : k < n
    · obtain ⟨ad, Ai, ci, rfl, hb, hc, hsl⟩ := (h.drewn hdr).get hlt
      obtain ⟨ad', Ai', ci', rfl, hb', hc', hsl'⟩ := (h'.drewn hdr).get hlt
      generalize ps[k]?.getD [] = p at *
      have kc := fun q => conv_sl (hsl.drewN q)
      have kc' := fun q => conv_sl (hsl'.drewN q)
      have hk0 : (0 : Int) ≤ (k : Int) := by omega
      have hk1 : (k : Int) < (n : Int) := by omega
      have HDR := Lib.hid hdr
      clear hsl hsl' hdr
      go_wp2_with fail
      go_quiet (fail)
      go_wp2_with fail
      go_roundw
      case rel => exact ⟨k + 1, by omega, by go_num, HDR.out.more _⟩
      case measure => simp [intOf]; omega
    · go_wp2
      go_ret
      exact ⟨rfl, hdr⟩
end Go.Proofs.YtbjajboodohabaaGreat.Tm
