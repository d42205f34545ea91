/- Calls of a transmitter as values in memory. law35: few, has. New: the check of a configuration, the constructor. A transmitter whose memory lies from a block on; its calls in one form each; num, same of the laws. A new transmitter as a transmitter of the laws. law35: gives. -/
import Derived.Test.YtmiipkaobloedaaGreatYBa
import Derived.Test.YtmiipkaobloedaaGreatYBs
import Derived.Test.YtmiipkaobloedaaGreatZa
import Derived.Test.YtmiipkaobloedaaGreatZb
import Derived.Test.YtmiipkaobloedaaGreatZc
import Derived.Test.YtmiipkaobloedaaGreatZd
import Derived.Test.YtmiipkaobloedaaGreatZg
import Derived.Test.YtmiipkaobloedaaGreatZn
import Derived.Deep.Slices
namespace Go.Proofs.YtmiipkaobloedaaGreat
open Go.RowKit Go.Shelf
/-- a call as a value -/
structure ActQ where
  k : Int
  now : Int
  n : Int
  A : Option Addr
  b : List UInt8
  c : Nat
  ack : Int
  Ar : Option Addr
  nks : List Nk
  cr : Nat
/-- a number of int64 -/
def isI (x : Int) : Prop := -9223372036854775808 ≤ x ∧ x ≤ 9223372036854775807
/-- what a call's slices hold -/
structure ActI (w : World) (B : Nat) (x : ActQ) : Prop where
  k : isI x.k
  now : isI x.now
  n : isI x.n
  ack : isI x.ack
  b : Sl w B x.A x.b.length x.c (bvs x.b)
  nk : NkAt w x.Ar x.nks.length x.cr x.nks
  nb : ∀ ad, x.Ar = some ad → 0 < x.nks.length → ad.block < B
/-- the cells of a call -/
def actC (x : ActQ) : List Value := [.int .i64 x.k, .int .i64 x.now, .int .i64 x.n, .slice x.A x.b.length x.c, .int .i64 x.ack, .slice x.Ar x.nks.length x.cr]
/-- a slice of calls -/
structure SlQ (w : World) (B : Nat) (A : Option Addr) (n c : Nat) (l : List ActQ) : Prop where
  len : l.length = n
  cap : n ≤ c
  mx : c ≤ 9223372036854775807
  at_ : 0 < n → ∃ ad, A = some ad ∧ ad.block < B ∧ ∀ j x, l[j]? = some x → (∀ i v, (actC x)[i]? = some v → w.cell? (ad.add (j * 6 + i)) = some v) ∧ ActI w B x
section
variable {w w' : World} {B n c : Nat} {A : Option Addr} {l : List ActQ}
theorem ActI.below {x : ActQ} (h : ActI w B x) (hb : Below B w w') : ActI w' B x := by
  refine ⟨h.k, h.now, h.n, h.ack, h.b.keep fun p hp => hb.cell hp, ?_, h.nb⟩
  exact ⟨h.nk.len, h.nk.cap, h.nk.mx, fun hn => by
    obtain ⟨ad, e, hlt, hc⟩ := h.nk.at_ hn
    have hB := h.nb ad e hn
    refine ⟨ad, e, Nat.lt_of_lt_of_le hlt hb.size, fun j r hr => ?_⟩
    obtain ⟨k0, k1, k2, k3⟩ := hc j r hr
    have hbk : (ad.add (j * 4)).block < B := by rw [block_add]; exact hB
    exact ⟨(hb.cell hbk).trans k0, (hb.cell (p := ⟨(ad.add (j * 4)).block, _, none⟩) hbk).trans k1, (hb.cell (p := ⟨(ad.add (j * 4)).block, _, none⟩) hbk).trans k2, (hb.cell (p := ⟨(ad.add (j * 4)).block, _, none⟩) hbk).trans k3⟩⟩
theorem ActI.more {B' : Nat} {x : ActQ} (h : ActI w B x) (hb : B ≤ B') : ActI w B' x :=
  ⟨h.k, h.now, h.n, h.ack, h.b.more hb, h.nk, fun ad e hz => Nat.lt_of_lt_of_le (h.nb ad e hz) hb⟩
theorem SlQ.below (h : SlQ w B A n c l) (hb : Below B w w') : SlQ w' B A n c l :=
  ⟨h.len, h.cap, h.mx, fun hn => by
    obtain ⟨ad, e, hlt, hc⟩ := h.at_ hn
    refine ⟨ad, e, hlt, fun j x hj => ?_⟩
    obtain ⟨h1, h2⟩ := hc j x hj
    exact ⟨fun i v hi => (hb.cell (p := ad.add (j * 6 + i)) (by rw [block_add]; exact hlt)).trans (h1 i v hi), h2.below hb⟩⟩
theorem SlQ.mono {B' : Nat} (h : SlQ w B A n c l) (hb : B ≤ B') : SlQ w B' A n c l :=
  ⟨h.len, h.cap, h.mx, fun hn => by
    obtain ⟨ad, e, hlt, hc⟩ := h.at_ hn
    exact ⟨ad, e, Nat.lt_of_lt_of_le hlt hb, fun j x hj => ⟨(hc j x hj).1, (hc j x hj).2.more hb⟩⟩⟩
theorem add_spot (ad : Addr) (j i : Nat) (hi : 0 < i) : (⟨(ad.add j).block, (ad.add j).off + i, none⟩ : Addr) = ad.add (j + i) := by
  unfold Addr.add
  by_cases hj : j = 0
  · subst hj
    rw [if_pos rfl, if_neg (by omega)]
    simp
  · rw [if_neg hj, if_neg (by omega)]
    simp [Nat.add_assoc]
theorem SlQ.get (h : SlQ w B A n c l) {j : Nat} (hj : j < n) : ∃ ad x, A = some ad ∧ ad.block < B ∧ l[j]? = some x ∧ ActI w B x ∧
    w.cell? (ad.add (j * 6)) = some (.int .i64 x.k) ∧ w.cell? ⟨(ad.add (j * 6)).block, (ad.add (j * 6)).off + 1, none⟩ = some (.int .i64 x.now) ∧ w.cell? ⟨(ad.add (j * 6)).block, (ad.add (j * 6)).off + 2, none⟩ = some (.int .i64 x.n) ∧
    w.cell? ⟨(ad.add (j * 6)).block, (ad.add (j * 6)).off + 3, none⟩ = some (.slice x.A x.b.length x.c) ∧ w.cell? ⟨(ad.add (j * 6)).block, (ad.add (j * 6)).off + 4, none⟩ = some (.int .i64 x.ack) ∧ w.cell? ⟨(ad.add (j * 6)).block, (ad.add (j * 6)).off + 5, none⟩ = some (.slice x.Ar x.nks.length x.cr) := by
  obtain ⟨ad, e, hb, hc⟩ := h.at_ (by omega)
  have hl : j < l.length := by have := h.len; omega
  obtain ⟨h1, h2⟩ := hc j _ (List.getElem?_eq_getElem hl)
  refine ⟨ad, l[j], e, hb, List.getElem?_eq_getElem hl, h2, h1 0 _ rfl, ?_, ?_, ?_, ?_, ?_⟩
  · rw [add_spot _ _ _ (by decide)]; exact h1 1 _ rfl
  · rw [add_spot _ _ _ (by decide)]; exact h1 2 _ rfl
  · rw [add_spot _ _ _ (by decide)]; exact h1 3 _ rfl
  · rw [add_spot _ _ _ (by decide)]; exact h1 4 _ rfl
  · rw [add_spot _ _ _ (by decide)]; exact h1 5 _ rfl
end
end Go.Proofs.YtmiipkaobloedaaGreat
namespace Go.Proofs.YtmiipkaobloedaaGreat
open Go.RowKit Go.Shelf
attribute [local go_sem] Oper.semAt_some
/-- what few says -/
def FewQ (l : List ActQ) (m : Nat) (w : World) (e : Ending) (w' : World) : Prop := ∃ b : Bool, e = .returned (.bool b) ∧ (b = true → l.length ≤ m ∧ ∀ x ∈ l, x.b.length ≤ 10000) ∧ w = w'
set_option maxRecDepth 10000 in
set_option maxHeartbeats 1000000 in
theorem few35_any (A : Option Addr) (n c : Nat) (l : List ActQ) (w : World) (h : SlQ w w.heap.size A n c l) (m : Nat) (hm : m ≤ 60) :
    Calls Tryz.prog 16 #[.slice A n c, .int .i64 m] w (FewQ l m w) := by
  have hn63 : n ≤ 9223372036854775807 := by have := h.cap; have := h.mx; omega
  have hlen := h.len
  by_cases h60 : m < n
  · go_enter Tryz.func16, Tryz.ntmps16
    go_wp2
    go_ret
    exact ⟨false, rfl, by simp, rfl⟩
  · go_enter Tryz.func16, Tryz.ntmps16
    go_wp2
    go_loop [5] (fun i => ∃ k : Nat, k ≤ n ∧ i = .int .i64 k ∧ ∀ x ∈ l.take k, x.b.length ≤ 10000) (fun i => n - (intOf i).toNat)
    case atStart => exact ⟨0, Nat.zero_le _, rfl, by simp⟩
    case round =>
      obtain ⟨k, hk, rfl, hall⟩ := hrel
      have HALL := Lib.hid hall
      clear hall
      by_cases hlt : k < n
      · obtain ⟨ad, x, rfl, hb, hx, hI, h0, h1, h2, h3, h4, h5⟩ := h.get hlt
        have htk : l.take (k + 1) = l.take k ++ [x] := by rw [List.take_add_one, hx]; rfl
        have HTK := Lib.hid htk
        have hcap := hI.b.cap
        have hmx := hI.b.mx
        have hcap2 := hI.nk.cap
        have hmx2 := hI.nk.mx
        have hnk := hI.nk.len
        clear hx htk h4 h2 h0 h1 hI
        generalize x.nks.length = nn at *
        generalize hxl : x.b.length = nb at *
        have HXL := Lib.hid hxl
        clear hxl
        go_wp2
        all_goals first
          | (go_ret; exact ⟨false, rfl, by simp, rfl⟩)
          | (go_round
             case rel =>
               refine ⟨k + 1, by omega, by go_num, fun y hy => ?_⟩
               rw [HTK.out, List.mem_append] at hy
               rcases hy with hy | hy
               · exact HALL.out y hy
               · simp at hy
                 rw [hy, HXL.out]
                 omega
             case measure => simp [intOf]; omega)
      · have e1 : l.take k = l := List.take_of_length_le (by omega)
        rw [e1] at HALL
        have HLEN := Lib.hid hlen
        clear e1 hlen
        go_wp2
        go_ret
        exact ⟨true, rfl, fun _ => ⟨by rw [HLEN.out]; omega, HALL.out⟩, rfl⟩
/-- numbers of a list -/
def natV (l : List Nat) : List Value := l.map fun x => .int .i64 (x : Nat)
set_option maxRecDepth 10000 in
set_option maxHeartbeats 1000000 in
theorem has35_any (A : Option Addr) (n c : Nat) (l : List Nat) (w : World) (h : Sl w w.heap.size A n c (natV l)) (hs : n ≤ 1000) (x : Nat) :
    Calls Tryz.prog 21 #[.slice A n c, .int .i64 x] w fun e w' => e = .returned (.bool (decide (x ∈ l))) ∧ w = w' := by
  have hlen : l.length = n := by have := h.len; simpa [natV] using this
  have hcap := h.cap
  have hmx := h.mx
  go_enter Tryz.func21, Tryz.ntmps21
  go_wp2
  go_loop [5] (fun i => ∃ k : Nat, k ≤ n ∧ i = .int .i64 k ∧ x ∉ l.take k) (fun i => n - (intOf i).toNat)
  case atStart => exact ⟨0, Nat.zero_le _, rfl, by simp⟩
  case round =>
    obtain ⟨k, hk, rfl, hall⟩ := hrel
    have HALL := Lib.hid hall
    clear hall
    by_cases hlt : k < n
    · obtain ⟨ad, rfl, hb, hc⟩ := h.at_ (by omega)
      have hx : l[k]? = some l[k] := List.getElem?_eq_getElem (by omega)
      have hck := hc k (.int .i64 (l[k] : Nat)) (by simp [natV, hx])
      have htk : l.take (k + 1) = l.take k ++ [l[k]] := by rw [List.take_add_one, hx]; rfl
      have hmem : l[k] ∈ l := List.getElem_mem _
      generalize l[k] = y at *
      have HTK := Lib.hid htk
      have HM := Lib.hid hmem
      clear htk hx hc hmem
      by_cases hxy : y = x
      · subst hxy
        go_wp2
        go_ret
        exact ⟨by rw [decide_eq_true HM.out]; rfl, rfl⟩
      · have hne : ((y : Int) == (x : Int)) = false := by simp; omega
        have HXY := Lib.hid hxy
        clear hxy
        go_wp2
        go_round
        case rel =>
          refine ⟨k + 1, by omega, by go_num, fun hy => ?_⟩
          rw [HTK.out, List.mem_append] at hy
          rcases hy with hy | hy
          · exact HALL.out hy
          · simp at hy
            exact HXY.out hy.symm
        case measure => simp [intOf]; omega
    · have e1 : l.take k = l := List.take_of_length_le (by omega)
      rw [e1] at HALL
      have HLEN := Lib.hid hlen
      clear e1 hlen
      go_wp2
      go_ret
      exact ⟨by rw [decide_eq_false HALL.out]; rfl, rfl⟩
end Go.Proofs.YtmiipkaobloedaaGreat
namespace Go.Proofs.YtmiipkaobloedaaGreat
open Go.RowKit Go.Shelf
attribute [local go_sem] Oper.semAt_some

/-- a number does not lie in a range -/
def outside (lo hi x : Int) : Bool := decide (x < lo) || decide (hi < x)
def ints (xs : List Int) : List Value := xs.map (Value.int .i64)
/-- IndexFunc's answer -/
def IxOut (b : Bool) (w : World) (e : Ending) (w' : World) : Prop := ((∃ k : Nat, e = .returned (.int .i64 k) ∧ b = true) ∨ (e = .returned (.int .i64 (-1)) ∧ b = false)) ∧ w = w'
theorem close59 (lo hi x : Int) (a b : Nat) (w : World) (ha : w.cell? ⟨a, 0, none⟩ = some (.int .i64 lo)) (hb : w.cell? ⟨b, 0, none⟩ = some (.int .i64 hi)) : Calls Tryz.prog 85 #[.int .i64 x, .pointer (some ⟨a, 0, none⟩), .pointer (some ⟨b, 0, none⟩)] w fun e w' => e = .returned (.bool (outside lo hi x)) ∧ w = w' := by
  by_cases h1 : x < lo
  · have e1 : outside lo hi x = true := by simp [outside, h1]
    have H1 := Lib.hid e1
    clear e1
    go_enter Tryz.func85, Tryz.ntmps85
    go_wp2
    go_ret
    exact ⟨ret_bool H1.out.symm, rfl⟩
  · have h1' : decide (x < lo) = false := by simpa using h1
    have e1 : decide (hi < x) = outside lo hi x := by simp [outside, h1']
    have H1 := Lib.hid e1
    clear e1
    go_enter Tryz.func85, Tryz.ntmps85
    go_wp2
    go_ret
    exact ⟨ret_bool H1.out, rfl⟩
theorem index59 (lo hi : Int) (a b r n : Nat) (xs : List Int) (w : World) (hn : xs.length = n) (hsm : n ≤ 1000) (hr : Blk w r 3 (ints xs).toArray) (ha : w.cell? ⟨a, 0, none⟩ = some (.int .i64 lo)) (hb : w.cell? ⟨b, 0, none⟩ = some (.int .i64 hi)) :
    Calls Tryz.prog 116 #[.slice (some ⟨r, 0, none⟩) n n, .func (.func 85) #[] #[.pointer (some ⟨a, 0, none⟩), .pointer (some ⟨b, 0, none⟩)]] w (IxOut (xs.any (outside lo hi)) w) := by
  have HC := Lib.hid fun x => close59 lo hi x a b w ha hb
  have HL := Lib.hid hn
  clear hn ha hb
  go_enter Tryz.func116, Tryz.ntmps116
  go_wp2
  go_loop [8] (fun i => ∃ k : Nat, k ≤ n ∧ i = .int .i64 k ∧ (xs.take k).any (outside lo hi) = false) (fun i => n - (intOf i).toNat)
  case atStart => exact ⟨0, Nat.zero_le _, rfl, by simp⟩
  case round =>
    obtain ⟨k, hk, rfl, hall⟩ := hrel
    have HA := Lib.hid hall
    clear hall
    by_cases hlt : k < n
    · have hkl : k < xs.length := by rw [HL.out]; exact hlt
      obtain ⟨x, hx⟩ : ∃ x, xs[k]? = some x := ⟨_, List.getElem?_eq_getElem hkl⟩
      have hcell := hr.cell k
      rw [List.getElem?_toArray, ints, List.getElem?_map, hx] at hcell
      simp at hcell
      have htk : xs.take (k + 1) = xs.take k ++ [x] := by rw [List.take_add_one, hx]; rfl
      have hin : x ∈ xs := List.mem_of_getElem? hx
      have HT := Lib.hid htk
      have HI := Lib.hid hin
      have hcx := HC.out x
      clear htk hin hkl hx
      cases hq : outside lo hi x with
      | false =>
        rw [hq] at hcx
        have HQ := Lib.hid hq
        have HX := Lib.hid hcx
        clear hq hcx
        go_wp2_with (go_at_call 85; refine HX.out.mono ?_; rintro e w' ⟨rfl, rfl⟩)
        go_round
        case rel => exact ⟨k + 1, by omega, by go_num, by rw [HT.out, List.any_append, HA.out]; simp [HQ.out]⟩
        case measure => simp [intOf]; omega
      | true =>
        rw [hq] at hcx
        have HQ := Lib.hid hq
        have HX := Lib.hid hcx
        clear hq hcx
        go_wp2_with (go_at_call 85; refine HX.out.mono ?_; rintro e w' ⟨rfl, rfl⟩)
        go_ret
        exact ⟨.inl ⟨k, rfl, by rw [List.any_eq_true]; exact ⟨x, HI.out, HQ.out⟩⟩, rfl⟩
    · have e : xs.take k = xs := List.take_of_length_le (by rw [HL.out]; omega)
      have hA := HA.out
      rw [e] at hA
      have HA' := Lib.hid hA
      clear hA e
      go_wp2
      go_ret
      exact ⟨.inr ⟨rfl, HA'.out⟩, rfl⟩
theorem contains59 (lo hi : Int) (a b r n : Nat) (xs : List Int) (w : World) (hn : xs.length = n) (hsm : n ≤ 1000) (hr : Blk w r 3 (ints xs).toArray) (ha : w.cell? ⟨a, 0, none⟩ = some (.int .i64 lo)) (hb : w.cell? ⟨b, 0, none⟩ = some (.int .i64 hi)) :
    Calls Tryz.prog 84 #[.slice (some ⟨r, 0, none⟩) n n, .func (.func 85) #[] #[.pointer (some ⟨a, 0, none⟩), .pointer (some ⟨b, 0, none⟩)]] w fun e w' => e = .returned (.bool (xs.any (outside lo hi))) ∧ w = w' := by
  have H := Lib.hid (index59 lo hi a b r n xs w hn hsm hr ha hb)
  clear hr ha hb
  go_enter Tryz.func84, Tryz.ntmps84
  go_wp2_with fail
  refine H.out.mono ?_
  rintro e w' ⟨⟨k, rfl, he⟩ | ⟨rfl, he⟩, rfl⟩
  · have HE := Lib.hid he
    clear he
    go_wp2
    go_ret
    exact ⟨ret_bool (by rw [HE.out]), rfl⟩
  · have HE := Lib.hid he
    clear he
    go_wp2
    go_ret
    exact ⟨ret_bool (by rw [HE.out]), rfl⟩
theorem in59 (lo hi : Int) (r n : Nat) (xs : List Int) (w : World) (hn : xs.length = n) (hsm : n ≤ 1000) (hr : Blk w r 3 (ints xs).toArray) :
    Calls Tryz.prog 56 #[.int .i64 lo, .int .i64 hi, .slice (some ⟨r, 0, none⟩) n n] w fun e w' => e = .returned (.bool (!xs.any (outside lo hi))) ∧ Below w.heap.size w w' := by
  have ba := (Blk.new w 3 #[.int .i64 lo]).alloc (.cells #[.int .i64 hi] 3)
  have bb := Blk.new (w.alloc (.cells #[.int .i64 lo] 3)) 3 #[.int .i64 hi]
  have br := (hr.alloc (.cells #[.int .i64 lo] 3)).alloc (.cells #[.int .i64 hi] 3)
  simp only [World.size_alloc] at bb
  have ca := ba.cell 0
  have cb := bb.cell 0
  rw [List.getElem?_toArray] at ca cb
  simp only [List.getElem?_cons_zero] at ca cb
  have hc := contains59 lo hi w.heap.size (w.heap.size + 1) r n xs ((w.alloc (.cells #[.int .i64 lo] 3)).alloc (.cells #[.int .i64 hi] 3)) hn hsm br ca cb
  have H := Lib.hid hc
  clear ba bb br ca cb hc hr
  go_enter Tryz.func56, Tryz.ntmps56
  go_wp2_with (go_at_call 84; refine H.out.mono ?_; rintro e w' ⟨rfl, rfl⟩)
  go_ret
  exact ⟨rfl, ((Below.refl _ _).alloc (Nat.le_refl _) _).alloc (by simp) _⟩
/-- all numbers lie in a range -/
def within (lo hi : Int) (xs : List Int) : Bool := !xs.any (outside lo hi)
/-- the check of a configuration -/
def rightB (a0 a1 a2 a3 a4 a5 a6 : Int) : Bool := within 0 1024 [a0] && (within 0 1048576 [a1] && (within 1 1048576 [a2] && (within 0 1048576 [a3, a4] && (within 0 64 [a5] && within 1 1048576 [a6]))))
def cf7 (a0 a1 a2 a3 a4 a5 a6 : Int) : Array Value := #[.int .i64 a0, .int .i64 a1, .int .i64 a2, .int .i64 a3, .int .i64 a4, .int .i64 a5, .int .i64 a6]
/-- a configuration in memory -/
def CfM (w : World) (g : Nat) (a0 a1 a2 a3 a4 a5 a6 : Int) (W : World) : Prop := Blk W g 23 (cf7 a0 a1 a2 a3 a4 a5 a6) ∧ Below w.heap.size w W
theorem CfM.seven {w W : World} {g : Nat} {a0 a1 a2 a3 a4 a5 a6 : Int} (h : CfM w g a0 a1 a2 a3 a4 a5 a6 W) : W.cell? ⟨g, 0, none⟩ = some (.int .i64 a0) ∧ W.cell? ⟨g, 1, none⟩ = some (.int .i64 a1) ∧ W.cell? ⟨g, 2, none⟩ = some (.int .i64 a2) ∧ W.cell? ⟨g, 3, none⟩ = some (.int .i64 a3) ∧ W.cell? ⟨g, 4, none⟩ = some (.int .i64 a4) ∧ W.cell? ⟨g, 5, none⟩ = some (.int .i64 a5) ∧ W.cell? ⟨g, 6, none⟩ = some (.int .i64 a6) :=
  ⟨h.1.cell 0, h.1.cell 1, h.1.cell 2, h.1.cell 3, h.1.cell 4, h.1.cell 5, h.1.cell 6⟩
theorem CfM.new (w : World) (a0 a1 a2 a3 a4 a5 a6 : Int) : CfM w w.heap.size a0 a1 a2 a3 a4 a5 a6 (w.alloc (.cells #[.int .i64 a0, .int .i64 a1, .int .i64 a2, .int .i64 a3, .int .i64 a4, .int .i64 a5, .int .i64 a6] 23)) := ⟨Blk.new w 23 _, (Below.refl _ _).alloc (Nat.le_refl _) _⟩
/-- a new sender -/
def snd21 (a0 a1 a2 a3 a4 a5 a6 : Int) : Array Value := #[.int .i64 a0, .int .i64 a1, .int .i64 a2, .int .i64 a3, .int .i64 a4, .int .i64 a5, .int .i64 a6, .slice none 0 0, .int .i64 0, .int .i64 0, .int .i64 0, .int .i64 0, .slice none 0 0, .int .i64 0, .int .i64 0, .int .i64 0, .bool false, .int .i64 0, .bool false, .bool false, .int .i64 0]
def A32 (w : World) (a0 a1 a2 a3 a4 a5 a6 : Int) (e : Ending) (w' : World) : Prop :=
  Below w.heap.size w w' ∧
    ((rightB a0 a1 a2 a3 a4 a5 a6 = true ∧ ∃ s, e = .returned (.tuple #[.pointer (some ⟨s, 0, none⟩), .int .i64 0]) ∧ w.heap.size ≤ s ∧ Blk w' s 54 (snd21 a0 a1 a2 a3 a4 a5 a6)) ∨ (rightB a0 a1 a2 a3 a4 a5 a6 = false ∧ e = .returned (.tuple #[.pointer none, .int .i64 2])))
def A35 (w : World) (a0 a1 a2 a3 a4 a5 a6 : Int) (e : Ending) (w' : World) : Prop :=
  Below w.heap.size w w' ∧
    ((rightB a0 a1 a2 a3 a4 a5 a6 = true ∧ ∃ s, e = .returned (.tuple #[.pointer (some ⟨s, 0, none⟩), .int .i64 0])) ∨ (rightB a0 a1 a2 a3 a4 a5 a6 = false ∧ e = .returned (.tuple #[.pointer none, .int .i64 2])))

theorem in52_new (lo hi : Int) (xs : List Int) (cs : Array Value) (hcs : cs = (ints xs).toArray) (n r : Nat) (hn : xs.length = n) (hsm : n ≤ 1000) {w W : World} {g : Nat} {a0 a1 a2 a3 a4 a5 a6 : Int} (h : CfM w g a0 a1 a2 a3 a4 a5 a6 W) (hr : W.heap.size = r) :
    Calls Tryz.prog 56 #[.int .i64 lo, .int .i64 hi, .slice (some ⟨r, 0, none⟩) n n] (W.alloc (.cells cs 3)) fun e w' => e = .returned (.bool (within lo hi xs)) ∧ CfM w g a0 a1 a2 a3 a4 a5 a6 w' := by
  subst hcs hr
  refine (in59 lo hi W.heap.size n xs _ hn hsm (Blk.new W 3 _)).mono ?_
  rintro e w' ⟨rfl, hk⟩
  have hk2 := hk.mono (B' := w.heap.size) (by have := h.2.size; simp; omega)
  have h0 := h.2.alloc h.2.size (.cells (ints xs).toArray 3)
  exact ⟨rfl, (h.1.alloc _).below hk (by have := h.1.lt; simp; omega), h0.trans hk2⟩
theorem in52_1 (lo hi x : Int) (r : Nat) {w W : World} {g : Nat} {a0 a1 a2 a3 a4 a5 a6 : Int} (h : CfM w g a0 a1 a2 a3 a4 a5 a6 W) (hr : W.heap.size = r) :
    Calls Tryz.prog 56 #[.int .i64 lo, .int .i64 hi, .slice (some ⟨r, 0, none⟩) 1 1] (W.alloc (.cells #[.int .i64 x] 3)) fun e w' => e = .returned (.bool (within lo hi [x])) ∧ CfM w g a0 a1 a2 a3 a4 a5 a6 w' :=
  in52_new lo hi [x] _ rfl 1 r rfl (by decide) h hr
theorem in52_2 (lo hi x y : Int) (r : Nat) {w W : World} {g : Nat} {a0 a1 a2 a3 a4 a5 a6 : Int} (h : CfM w g a0 a1 a2 a3 a4 a5 a6 W) (hr : W.heap.size = r) :
    Calls Tryz.prog 56 #[.int .i64 lo, .int .i64 hi, .slice (some ⟨r, 0, none⟩) 2 2] (W.alloc (.cells #[.int .i64 x, .int .i64 y] 3)) fun e w' => e = .returned (.bool (within lo hi [x, y])) ∧ CfM w g a0 a1 a2 a3 a4 a5 a6 w' :=
  in52_new lo hi [x, y] _ rfl 2 r rfl (by decide) h hr
set_option maxRecDepth 100000 in
set_option maxHeartbeats 1000000 in
theorem right46 (a0 a1 a2 a3 a4 a5 a6 : Int) (w : World) : Calls Tryz.prog 24 #[.agg (cf7 a0 a1 a2 a3 a4 a5 a6)] w fun e w' => e = .returned (.bool (rightB a0 a1 a2 a3 a4 a5 a6)) ∧ Below w.heap.size w w' := by
  have hc := CfM.new w a0 a1 a2 a3 a4 a5 a6
  obtain ⟨b, hb⟩ : ∃ b, rightB a0 a1 a2 a3 a4 a5 a6 = b := ⟨_, rfl⟩
  rw [hb]
  unfold rightB at hb
  unfold cf7
  go_enter Tryz.func24, Tryz.ntmps24
  go_wp2_with fail
  have hz := World.size_alloc w (.cells #[.int .i64 a0, .int .i64 a1, .int .i64 a2, .int .i64 a3, .int .i64 a4, .int .i64 a5, .int .i64 a6] 23)
  generalize w.alloc (.cells #[.int .i64 a0, .int .i64 a1, .int .i64 a2, .int .i64 a3, .int .i64 a4, .int .i64 a5, .int .i64 a6] 23) = w0 at *
  obtain ⟨x0, x1, x2, x3, x4, x5, x6⟩ := hc.seven
  cases h1 : within 0 1024 [a0] with
  | false => 
    simp [h1] at hb
    subst hb
    go_wp2_with (go_at_call 56; first
      | ((with_reducible refine (in52_2 _ _ _ _ _ (by assumption) (by first | assumption | exact rfl)).mono ?_); rintro e w9 ⟨rfl, hc⟩; obtain ⟨x0, x1, x2, x3, x4, x5, x6⟩ := hc.seven)
      | ((with_reducible refine (in52_1 _ _ _ _ (by assumption) (by first | assumption | exact rfl)).mono ?_); rintro e w9 ⟨rfl, hc⟩; obtain ⟨x0, x1, x2, x3, x4, x5, x6⟩ := hc.seven))
    go_ret
    exact ⟨rfl, (by assumption : CfM w _ a0 a1 a2 a3 a4 a5 a6 _).2⟩
  | true => 
  cases h2 : within 0 1048576 [a1] with
  | false => 
    simp [h1, h2] at hb
    subst hb
    go_wp2_with (go_at_call 56; first
      | ((with_reducible refine (in52_2 _ _ _ _ _ (by assumption) (by first | assumption | exact rfl)).mono ?_); rintro e w9 ⟨rfl, hc⟩; obtain ⟨x0, x1, x2, x3, x4, x5, x6⟩ := hc.seven)
      | ((with_reducible refine (in52_1 _ _ _ _ (by assumption) (by first | assumption | exact rfl)).mono ?_); rintro e w9 ⟨rfl, hc⟩; obtain ⟨x0, x1, x2, x3, x4, x5, x6⟩ := hc.seven))
    go_ret
    exact ⟨rfl, (by assumption : CfM w _ a0 a1 a2 a3 a4 a5 a6 _).2⟩
  | true => 
  cases h3 : within 1 1048576 [a2] with
  | false => 
    simp [h1, h2, h3] at hb
    subst hb
    go_wp2_with (go_at_call 56; first
      | ((with_reducible refine (in52_2 _ _ _ _ _ (by assumption) (by first | assumption | exact rfl)).mono ?_); rintro e w9 ⟨rfl, hc⟩; obtain ⟨x0, x1, x2, x3, x4, x5, x6⟩ := hc.seven)
      | ((with_reducible refine (in52_1 _ _ _ _ (by assumption) (by first | assumption | exact rfl)).mono ?_); rintro e w9 ⟨rfl, hc⟩; obtain ⟨x0, x1, x2, x3, x4, x5, x6⟩ := hc.seven))
    go_ret
    exact ⟨rfl, (by assumption : CfM w _ a0 a1 a2 a3 a4 a5 a6 _).2⟩
  | true => 
  cases h4 : within 0 1048576 [a3, a4] with
  | false => 
    simp [h1, h2, h3, h4] at hb
    subst hb
    go_wp2_with (go_at_call 56; first
      | ((with_reducible refine (in52_2 _ _ _ _ _ (by assumption) (by first | assumption | exact rfl)).mono ?_); rintro e w9 ⟨rfl, hc⟩; obtain ⟨x0, x1, x2, x3, x4, x5, x6⟩ := hc.seven)
      | ((with_reducible refine (in52_1 _ _ _ _ (by assumption) (by first | assumption | exact rfl)).mono ?_); rintro e w9 ⟨rfl, hc⟩; obtain ⟨x0, x1, x2, x3, x4, x5, x6⟩ := hc.seven))
    go_ret
    exact ⟨rfl, (by assumption : CfM w _ a0 a1 a2 a3 a4 a5 a6 _).2⟩
  | true => 
  cases h5 : within 0 64 [a5] with
  | false => 
    simp [h1, h2, h3, h4, h5] at hb
    subst hb
    go_wp2_with (go_at_call 56; first
      | ((with_reducible refine (in52_2 _ _ _ _ _ (by assumption) (by first | assumption | exact rfl)).mono ?_); rintro e w9 ⟨rfl, hc⟩; obtain ⟨x0, x1, x2, x3, x4, x5, x6⟩ := hc.seven)
      | ((with_reducible refine (in52_1 _ _ _ _ (by assumption) (by first | assumption | exact rfl)).mono ?_); rintro e w9 ⟨rfl, hc⟩; obtain ⟨x0, x1, x2, x3, x4, x5, x6⟩ := hc.seven))
    go_ret
    exact ⟨rfl, (by assumption : CfM w _ a0 a1 a2 a3 a4 a5 a6 _).2⟩
  | true => 
  have h6 : within 1 1048576 [a6] = b := by simpa [h1, h2, h3, h4, h5] using hb
  clear hb
  go_wp2_with (go_at_call 56; first
    | ((with_reducible refine (in52_2 _ _ _ _ _ (by assumption) (by first | assumption | exact rfl)).mono ?_); rintro e w9 ⟨rfl, hc⟩; obtain ⟨x0, x1, x2, x3, x4, x5, x6⟩ := hc.seven)
    | ((with_reducible refine (in52_1 _ _ _ _ (by assumption) (by first | assumption | exact rfl)).mono ?_); rintro e w9 ⟨rfl, hc⟩; obtain ⟨x0, x1, x2, x3, x4, x5, x6⟩ := hc.seven))
  go_ret
  exact ⟨rfl, (by assumption : CfM w _ a0 a1 a2 a3 a4 a5 a6 _).2⟩

set_option maxRecDepth 100000 in
theorem new32 (a0 a1 a2 a3 a4 a5 a6 : Int) (w : World) : Calls Tryz.prog 8 #[.agg (cf7 a0 a1 a2 a3 a4 a5 a6)] w (A32 w a0 a1 a2 a3 a4 a5 a6) := by
  have hc := CfM.new w a0 a1 a2 a3 a4 a5 a6
  have hcall := fun W => right46 a0 a1 a2 a3 a4 a5 a6 W
  obtain ⟨b, hb⟩ : ∃ b, rightB a0 a1 a2 a3 a4 a5 a6 = b := ⟨_, rfl⟩
  simp only [hb] at hcall
  have HB := Lib.hid hb
  clear hb
  unfold cf7 at *
  have hz := World.size_alloc w (.cells #[.int .i64 a0, .int .i64 a1, .int .i64 a2, .int .i64 a3, .int .i64 a4, .int .i64 a5, .int .i64 a6] 23)
  have x := hc.seven
  obtain ⟨x0, x1, x2, x3, x4, x5, x6⟩ := x
  have HC := Lib.hid hc
  have HCA := Lib.hid hcall
  clear hc hcall
  go_enter Tryz.func8, Tryz.ntmps8
  go_wp2_with fail
  generalize w.alloc (.cells #[.int .i64 a0, .int .i64 a1, .int .i64 a2, .int .i64 a3, .int .i64 a4, .int .i64 a5, .int .i64 a6] 23) = w0 at *
  refine (HCA.out _).mono ?_
  rintro e1 w1 ⟨rfl, hb1⟩
  have hc1 : CfM w w.heap.size a0 a1 a2 a3 a4 a5 a6 w1 := ⟨HC.out.1.below hb1 HC.out.1.lt, HC.out.2.trans (hb1.mono HC.out.2.size)⟩
  obtain ⟨y0, y1, y2, y3, y4, y5, y6⟩ := hc1.seven
  have HC1 := Lib.hid hc1
  clear x0 x1 x2 x3 x4 x5 x6 hb1 hc1
  cases b with
  | true =>
    go_wp2
    go_ret2
    exact ⟨HC1.out.2.alloc HC1.out.2.size _, .inl ⟨HB.out, _, rfl, HC1.out.2.size, Blk.new _ _ _⟩⟩
  | false =>
    go_wp2
    go_ret2
    exact ⟨HC1.out.2, .inr ⟨HB.out, rfl⟩⟩

end Go.Proofs.YtmiipkaobloedaaGreat
namespace Go.Proofs.YtmiipkaobloedaaGreat
open Go.RowKit Go.Shelf
attribute [local go_sem] Oper.semAt_some
theorem num35_any (x : Int) (w : World) : Calls Tryz.prog 9 #[.int .i64 x] w fun e w' => e = .returned (.int .i64 x) ∧ w = w' := by
  go_enter Tryz.func9, Tryz.ntmps9
  go_wp2
  go_ret
  exact ⟨rfl, rfl⟩
theorem same35_any (A : Option Addr) (n c : Nat) (l : List UInt8) (A' : Option Addr) (n' c' : Nat) (l' : List UInt8) (w : World) (B B' : Nat) (h : Sl w B A n c (bvs l)) (h' : Sl w B' A' n' c' (bvs l')) :
    Calls Tryz.prog 22 #[.slice A n c, .slice A' n' c'] w fun e w' => e = .returned (.bool (decide (l = l'))) ∧ w = w' := by
  have k := conv_sl h
  have k' := conv_sl h'
  have hd : (l == l') = decide (l = l') := by rw [Bool.eq_iff_iff]; simp
  generalize decide (l = l') = r at *
  go_enter Tryz.func22, Tryz.ntmps22
  go_wp2
  go_ret
  exact ⟨rfl, rfl⟩
/-- the state's invariants -/
structure Ok35 (c : Cf) (st : Sd) (K : Nat) : Prop where
  cf : CfOk c
  inv : Inv35 st
  bnd : Bnd st K
/-- a transmitter whose memory is F -/
def AmF (w : World) (F : Nat → Prop) (g : Nat) (c : Cf) (st : Sd) : Prop := ∃ D vq vs vo os, AmS w D F g c st vq vs vo os
/-- what a call of a transmitter with memory F leaves -/
def AmG (w : World) (F : Nat → Prop) (g : Nat) (c : Cf) (st : Sd) (w' : World) : Prop := ∃ F', AmF w' F' g c st ∧ Grows w F F' ∧ Kept (fun k _ => F k) w w'
section
variable {w w' : World} {D F : Nat → Prop} {g : Nat} {c : Cf} {st : Sd} {vq vo : Value} {vs os : List Value} {K : Nat}
theorem AmO.gg (h : AmO w D F g c st w') (hs : ∀ k, D k → F k) : AmG w F g c st w' := by
  obtain ⟨D', F', vq', vs', vo', os', h1, _, h3, h4⟩ := h
  exact ⟨F', ⟨D', vq', vs', vo', os', h1⟩, h3, h4.mono_at fun k o _ hk => hs k hk⟩
theorem AmF.below (h : AmF w F g c st) (hb : Below w.heap.size w w') : AmF w' F g c st := by
  obtain ⟨D, vq, vs, vo, os, h⟩ := h
  exact ⟨D, vq, vs, vo, os, h.below hb⟩
theorem AmF.lt (h : AmF w F g c st) : ∀ k, F k → k < w.heap.size := by
  obtain ⟨D, vq, vs, vo, os, h⟩ := h
  exact h.lt
/-- what another writes -/
theorem AmF.far {M : Nat → Obj → Prop} (h : AmF w F g c st) (hk : Kept M w w') (hm : ∀ k o, M k o → ¬ F k) : AmF w' F g c st := by
  obtain ⟨D, vq, vs, vo, os, h⟩ := h
  exact ⟨D, vq, vs, vo, os, h.far hk hm⟩
theorem AmF.stay (h : AmF w F g c st) (hk : ∀ k, F k → w'.heap[k]? = w.heap[k]?) : AmF w' F g c st := by
  obtain ⟨D, vq, vs, vo, os, h⟩ := h
  exact ⟨D, vq, vs, vo, os, h.stay hk⟩
theorem AmG.below {B : Nat} (h : AmG w F g c st w') (hF : ∀ k, F k → B ≤ k) (hB : B ≤ w.heap.size) : Below B w w' := by
  obtain ⟨F', _, _, h3⟩ := h
  exact h3.below (fun j _ hj => hF j hj) hB
theorem amf_submit (h : AmF w F g c st) (ho : Ok35 c st K) {A : Option Addr} {n cc : Nat} {x : List UInt8} (hx : Sl w w.heap.size A n cc (bvs x)) :
    Calls Tryz.prog 10 #[.pointer (some ⟨g, 0, none⟩), .slice A n cc] w fun e w' => e = .returned (.int .i64 (submitR c st x).2) ∧ AmG w F g c (submitR c st x).1 w' := by
  obtain ⟨D, vq, vs, vo, os, h⟩ := h
  have hh := ho.bnd.held
  have hq := queue_len ho.inv.pos
  have e : heldP st = sumLen st.queue := rfl
  exact (ssubmit_any h ho.cf hh (by omega) hx).mono fun e w' hh => ⟨hh.1, hh.2.gg h.sub⟩
theorem amf_tick (h : AmF w F g c st) (ho : Ok35 c st K) (hK : K ≤ 90000) (now : Int) (hn : now ≤ 9223372036854775807) :
    Calls Tryz.prog 17 #[.pointer (some ⟨g, 0, none⟩), .int .i64 now] w fun e w' => e = .returned (.int .i64 (tickR c st now).2) ∧ AmG w F g c (tickR c st now).1 w' := by
  obtain ⟨D, vq, vs, vo, os, h⟩ := h
  exact (stick_any h ho.cf.timer.1 ho.bnd hK ho.inv.w now hn).mono fun e w' hh => ⟨hh.1, hh.2.gg h.sub⟩
theorem amf_status (h : AmF w F g c st) (ho : Ok35 c st K) (hK : K ≤ 90000) (now ack : Int) (hn : now ≤ 9223372036854775807) (A : Option Addr) (n cc : Nat) (nks : List Nk) (hN : NkAt w A n cc nks) (hAF : ∀ ad, A = some ad → 0 < n → ¬ F ad.block) :
    Calls Tryz.prog 14 #[.pointer (some ⟨g, 0, none⟩), .int .i64 now, .agg #[.int .i64 ack, .slice A n cc]] w fun e w' => e = .returned (.int .i64 (statusR c st now ack nks).2) ∧ AmG w F g c (statusR c st now ack nks).1 w' := by
  obtain ⟨D, vq, vs, vo, os, h⟩ := h
  by_cases hf : st.failed = true
  · exact (sstatus_early h ho.cf.timer.1 now ack A n cc nks hN (.inl hf)).mono fun e w' hh => ⟨hh.1, hh.2.gg h.sub⟩
  · cases hv : validSt ack nks with
    | false => exact (sstatus_early h ho.cf.timer.1 now ack A n cc nks hN (.inr hv)).mono fun e w' hh => ⟨hh.1, hh.2.gg h.sub⟩
    | true => exact (sstatus_any h ho.cf ho.bnd hK ho.inv (by simpa using hf) now ack hn A n cc nks hN (fun ad e hz hd => hAF ad e hz (h.sub _ hd)) hv).mono fun e w' hh => ⟨hh.1, hh.2.gg h.sub⟩
theorem amf_state (h : AmF w F g c st) (ho : Ok35 c st K) : Calls Tryz.prog 12 #[.pointer (some ⟨g, 0, none⟩)] w fun e w' => e = .returned (.agg (stV st)) ∧ Below w.heap.size w w' := by
  obtain ⟨D, vq, vs, vo, os, h⟩ := h
  exact sstate_any h ho.cf.timer.1 ho.inv.f (by have := ho.inv.w; omega)
theorem amf_buffered (h : AmF w F g c st) (ho : Ok35 c st K) : Calls Tryz.prog 13 #[.pointer (some ⟨g, 0, none⟩)] w fun e w' => e = .returned (.int .i64 (bufP st)) ∧ Below w.heap.size w w' := by
  obtain ⟨D, vq, vs, vo, os, h⟩ := h
  exact sbuffered_any h ho.cf.timer.1 ho.bnd.held ho.inv.le ho.inv.w ho.bnd.ou
theorem amf_unconf (h : AmF w F g c st) (ho : Ok35 c st K) : Calls Tryz.prog 18 #[.pointer (some ⟨g, 0, none⟩)] w fun e w' => (∃ A cc, e = .returned (.slice A st.queue.length cc)) ∧ Below w.heap.size w w' := by
  obtain ⟨D, vq, vs, vo, os, h⟩ := h
  have hh := ho.bnd.held
  have hq := queue_len ho.inv.pos
  have e : heldP st = sumLen st.queue := rfl
  exact sunconf_any h ho.cf.timer.1 hh (by omega)
theorem amf_pending (h : AmF w F g c st) (ho : Ok35 c st K) : Calls Tryz.prog 37 #[.pointer (some ⟨g, 0, none⟩)] w (PdOut w (pendL st.out)) := by
  obtain ⟨D, vq, vs, vo, os, h⟩ := h
  exact spendgs_any h ho.cf.timer.1 ho.inv.w ho.bnd.ou
theorem Ok35.submit (ho : Ok35 c st K) (x : List UInt8) : Ok35 c (submitR c st x).1 K := by
  refine ⟨ho.cf, ho.inv.submitR c x, ?_⟩
  unfold submitR
  split
  · exact ho.bnd
  · split
    · exact ho.bnd
    · rename_i hx
      split
      · exact ho.bnd
      · rename_i hc
        have := ho.cf.cap
        exact ho.bnd.submit (by omega) (by omega) (by omega)
theorem Ok35.tick (ho : Ok35 c st K) (now : Int) (hn : now ≤ 9223372036854775807) : Ok35 c (tickR c st now).1 (K + 3) := by
  refine ⟨ho.cf, ho.inv.tickR c now, ?_⟩
  unfold tickR
  split
  · exact ho.bnd.mono (by omega)
  · exact (ho.bnd.tick c hn).mono (by omega)
theorem Ok35.status (ho : Ok35 c st K) (now ack : Int) (nks : List Nk) (hn : now ≤ 9223372036854775807) : Ok35 c (statusR c st now ack nks).1 (K + 3) := by
  refine ⟨ho.cf, ho.inv.statusR c now ack nks, ?_⟩
  unfold statusR
  split
  · exact ho.bnd.mono (by omega)
  · exact ho.bnd.status c hn ack nks
theorem Ok35.grant (ho : Ok35 c st K) (now n : Int) (hn : now ≤ 9223372036854775807) : Ok35 c (grantR c st now n).1 (K + 3) := by
  refine ⟨ho.cf, ho.inv.grantR c now n, ?_⟩
  unfold grantR
  split
  · exact ho.bnd.mono (by omega)
  · split
    · exact ho.bnd.mono (by omega)
    · exact (ho.bnd.grant ho.inv c hn n).mono (by omega)
end
end Go.Proofs.YtmiipkaobloedaaGreat
namespace Go.Proofs.YtmiipkaobloedaaGreat
open Go.RowKit Go.Shelf
theorem within_mem {lo hi : Int} {xs : List Int} (h : within lo hi xs = true) : ∀ x ∈ xs, lo ≤ x ∧ x ≤ hi := by
  intro x hx
  unfold within at h
  simp only [Bool.not_eq_true', List.any_eq_false] at h
  have := h x hx
  unfold outside at this
  simp at this
  omega
def cfOf (a0 a1 a2 a3 a4 a5 a6 : Int) : Cf := ⟨a0, a1, a2, a3, a4, a5, a6⟩
theorem cf_right {a0 a1 a2 a3 a4 a5 a6 : Int} (h : rightB a0 a1 a2 a3 a4 a5 a6 = true) : CfOk (cfOf a0 a1 a2 a3 a4 a5 a6) := by
  unfold rightB at h
  simp only [Bool.and_eq_true] at h
  obtain ⟨h1, h2, h3, h4, h5, h6⟩ := h
  exact ⟨within_mem h1 a0 (by simp), within_mem h2 a1 (by simp), within_mem h3 a2 (by simp), within_mem h5 a5 (by simp), within_mem h6 a6 (by simp)⟩
theorem ams_new {w : World} {g : Nat} (c : Cf) (hb : Blk w g 54 (sndC c (.slice none 0 0) (.slice none 0 0) newSd)) : AmS w (· = g) (· = g) g c newSd (.slice none 0 0) [] (.slice none 0 0) [] :=
  ⟨hb, rfl, fun _ h => h, fun k hk => by rw [show k = g from hk]; exact hb.lt, ownQ_nil _ _ _, fun k hk => by simp [qBlock] at hk, fun i p hi => by simp [newSd] at hi, ownQ_nil _ _ _, fun k hk => by simp [qBlock] at hk, fun i x hi => by simp [newSd] at hi, fun i j v hi _ => by simp at hi⟩
/-- what New leaves -/
def NewO (w : World) (a0 a1 a2 a3 a4 a5 a6 : Int) (e : Ending) (w' : World) : Prop :=
  Below w.heap.size w w' ∧
    ((rightB a0 a1 a2 a3 a4 a5 a6 = true ∧ ∃ s, e = .returned (.tuple #[.pointer (some ⟨s, 0, none⟩), .int .i64 0]) ∧ w.heap.size ≤ s ∧ AmF w' (· = s) s (cfOf a0 a1 a2 a3 a4 a5 a6) newSd ∧ Ok35 (cfOf a0 a1 a2 a3 a4 a5 a6) newSd 0) ∨ (rightB a0 a1 a2 a3 a4 a5 a6 = false ∧ e = .returned (.tuple #[.pointer none, .int .i64 2])))
theorem amf_new (a0 a1 a2 a3 a4 a5 a6 : Int) (w : World) : Calls Tryz.prog 8 #[.agg (cf7 a0 a1 a2 a3 a4 a5 a6)] w (NewO w a0 a1 a2 a3 a4 a5 a6) := by
  refine (new32 a0 a1 a2 a3 a4 a5 a6 w).mono ?_
  rintro e w' ⟨hb, ⟨h1, s, he, hs, hblk⟩ | h⟩
  · exact ⟨hb, .inl ⟨h1, s, he, hs, ⟨_, _, _, _, _, ams_new (cfOf a0 a1 a2 a3 a4 a5 a6) hblk⟩, ⟨cf_right h1, InvW.new, Bnd.new⟩⟩⟩
  · exact ⟨hb, .inr h⟩
end Go.Proofs.YtmiipkaobloedaaGreat
namespace Go.Proofs.YtmiipkaobloedaaGreat
open Go.RowKit Go.Shelf
attribute [local go_sem] Oper.semAt_some
section
variable {w : World} {F : Nat → Prop} {g : Nat} {c : Cf} {st : Sd} {K : Nat}
/-- what Grant leaves -/
def GrF (w : World) (F : Nat → Prop) (g : Nat) (c : Cf) (R : Sd × Option Pu × Int) (e : Ending) (w' : World) : Prop :=
  ∃ v, e = .returned (.tuple #[v, .int .i64 R.2.2]) ∧ w'.ownsRow w.heap.size 5 1 v (puB R.2.1).length (bvs (puB R.2.1)) ∧ AmG w F g c R.1 w'
set_option maxRecDepth 10000 in
theorem gives35_any {R : Sd × Option Pu × Int} (now n : Int) (bs : List UInt8) {A : Option Addr} {nn cc : Nat} (hs : Sl w w.heap.size A nn cc (bvs bs)) (hF : ∀ ad, A = some ad → ad.block < w.heap.size ∧ ¬ F ad.block) (h1 : puB R.2.1 = bs) (h2 : R.2.2 = 0)
    (hG : Calls Tryz.prog 11 #[.pointer (some ⟨g, 0, none⟩), .int .i64 now, .int .i64 n] w (GrF w F g c R)) :
    Calls Tryz.prog 23 #[.pointer (some ⟨g, 0, none⟩), .int .i64 now, .int .i64 n, .slice A nn cc] w fun e w' => e = .returned (.bool true) ∧ AmG w F g c R.1 w' := by
  have HG := Lib.hid hG
  have HS := Lib.hid hs
  have HF := Lib.hid hF
  clear hG hs hF
  go_enter Tryz.func23, Tryz.ntmps23
  go_wp2_with fail
  refine HG.out.mono ?_
  rintro e1 w1 ⟨vb, rfl, hvb, hA⟩
  rw [h1] at hvb
  rw [h2]
  obtain ⟨A1, c1, rfl, hs1, _⟩ := own_sl hvb
  have hk := hA
  obtain ⟨F', _, _, hk⟩ := hk
  have hs2 : Sl w1 w1.heap.size A nn cc (bvs bs) := HS.out.stay fun ad e => by
    have hl := (HF.out ad e).1
    have hh := Array.getElem?_eq_getElem hl
    rw [hk.same _ _ hh (HF.out ad e).2, hh]
  have HS1 := Lib.hid hs1
  have HS2 := Lib.hid hs2
  have HA := Lib.hid hA
  clear hA hvb hs1 hs2 hk h1 h2
  go_wp2_with (first
    | (go_at_call 9; refine (num35_any _ _).mono ?_; rintro e1 w2 ⟨rfl, rfl⟩)
    | (go_at_call 22; refine (same35_any _ _ _ bs _ _ _ bs _ _ _ HS1.out HS2.out).mono ?_; rintro e1 w2 ⟨rfl, rfl⟩))
  go_ret
  exact ⟨by simp, HA.out⟩
end
end Go.Proofs.YtmiipkaobloedaaGreat
