/- am: the check of a configuration. -/
import Derived.Test.YthicdlbelhokjaaGreatAp
namespace Go.Proofs.YthicdlbelhokjaaGreat
open Go.RowKit
attribute [local go_sem] Oper.semAt_some

/-- a number does not lie in a range -/
def outside (lo hi x : Int) : Bool := decide (x < lo) || decide (hi < x)
def ints (xs : List Int) : List Value := xs.map (Value.int .i64)
/-- IndexFunc's answer -/
def IxOut (b : Bool) (w : World) (e : Ending) (w' : World) : Prop := ((∃ k : Nat, e = .returned (.int .i64 k) ∧ b = true) ∨ (e = .returned (.int .i64 (-1)) ∧ b = false)) ∧ w = w'
theorem close59 (lo hi x : Int) (a b : Nat) (w : World) (ha : w.cell? ⟨a, 0, none⟩ = some (.int .i64 lo)) (hb : w.cell? ⟨b, 0, none⟩ = some (.int .i64 hi)) : Calls Tryz.prog 59 #[.int .i64 x, .pointer (some ⟨a, 0, none⟩), .pointer (some ⟨b, 0, none⟩)] w fun e w' => e = .returned (.bool (outside lo hi x)) ∧ w = w' := by
  by_cases h1 : x < lo
  · have e1 : outside lo hi x = true := by simp [outside, h1]
    have H1 := Lib.hid e1
    clear e1
    go_enter Tryz.func59, Tryz.ntmps59
    go_wp2
    go_ret
    exact ⟨ret_bool H1.out.symm, rfl⟩
  · have h1' : decide (x < lo) = false := by simpa using h1
    have e1 : decide (hi < x) = outside lo hi x := by simp [outside, h1']
    have H1 := Lib.hid e1
    clear e1
    go_enter Tryz.func59, Tryz.ntmps59
    go_wp2
    go_ret
    exact ⟨ret_bool H1.out, rfl⟩
theorem index59 (lo hi : Int) (a b r n : Nat) (xs : List Int) (w : World) (hn : xs.length = n) (hsm : n ≤ 1000) (hr : Blk w r 3 (ints xs).toArray) (ha : w.cell? ⟨a, 0, none⟩ = some (.int .i64 lo)) (hb : w.cell? ⟨b, 0, none⟩ = some (.int .i64 hi)) :
    Calls Tryz.prog 62 #[.slice (some ⟨r, 0, none⟩) n n, .func (.func 59) #[] #[.pointer (some ⟨a, 0, none⟩), .pointer (some ⟨b, 0, none⟩)]] w (IxOut (xs.any (outside lo hi)) w) := by
  have HC := Lib.hid fun x => close59 lo hi x a b w ha hb
  have HL := Lib.hid hn
  clear hn ha hb
  go_enter Tryz.func62, Tryz.ntmps62
  go_wp2
  go_loop [8] (fun i => ∃ k : Nat, k ≤ n ∧ i = .int .i64 k ∧ (xs.take k).any (outside lo hi) = false) (fun i => n - (intOf i).toNat)
  case atStart => exact ⟨0, Nat.zero_le _, rfl, by simp⟩
  case round =>
    obtain ⟨k, hk, rfl, hall⟩ := hrel
    have HA := Lib.hid hall
    clear hall
    by_cases hlt : k < n
    · have hkl : k < xs.length := by rw [HL.out]; exact hlt
      obtain ⟨x, hx⟩ : ∃ x, xs[k]? = some x := ⟨_, List.getElem?_eq_getElem hkl⟩
      have hcell := hr.cell k
      rw [List.getElem?_toArray, ints, List.getElem?_map, hx] at hcell
      simp at hcell
      have htk : xs.take (k + 1) = xs.take k ++ [x] := by rw [List.take_add_one, hx]; rfl
      have hin : x ∈ xs := List.mem_of_getElem? hx
      have HT := Lib.hid htk
      have HI := Lib.hid hin
      have hcx := HC.out x
      clear htk hin hkl hx
      cases hq : outside lo hi x with
      | false =>
        rw [hq] at hcx
        have HQ := Lib.hid hq
        have HX := Lib.hid hcx
        clear hq hcx
        go_wp2_with (go_at_call 59; refine HX.out.mono ?_; rintro e w' ⟨rfl, rfl⟩)
        go_round
        case rel => exact ⟨k + 1, by omega, by go_num, by rw [HT.out, List.any_append, HA.out]; simp [HQ.out]⟩
        case measure => simp [intOf]; omega
      | true =>
        rw [hq] at hcx
        have HQ := Lib.hid hq
        have HX := Lib.hid hcx
        clear hq hcx
        go_wp2_with (go_at_call 59; refine HX.out.mono ?_; rintro e w' ⟨rfl, rfl⟩)
        go_ret
        exact ⟨.inl ⟨k, rfl, by rw [List.any_eq_true]; exact ⟨x, HI.out, HQ.out⟩⟩, rfl⟩
    · have e : xs.take k = xs := List.take_of_length_le (by rw [HL.out]; omega)
      have hA := HA.out
      rw [e] at hA
      have HA' := Lib.hid hA
      clear hA e
      go_wp2
      go_ret
      exact ⟨.inr ⟨rfl, HA'.out⟩, rfl⟩
theorem contains59 (lo hi : Int) (a b r n : Nat) (xs : List Int) (w : World) (hn : xs.length = n) (hsm : n ≤ 1000) (hr : Blk w r 3 (ints xs).toArray) (ha : w.cell? ⟨a, 0, none⟩ = some (.int .i64 lo)) (hb : w.cell? ⟨b, 0, none⟩ = some (.int .i64 hi)) :
    Calls Tryz.prog 58 #[.slice (some ⟨r, 0, none⟩) n n, .func (.func 59) #[] #[.pointer (some ⟨a, 0, none⟩), .pointer (some ⟨b, 0, none⟩)]] w fun e w' => e = .returned (.bool (xs.any (outside lo hi))) ∧ w = w' := by
  have H := Lib.hid (index59 lo hi a b r n xs w hn hsm hr ha hb)
  clear hr ha hb
  go_enter Tryz.func58, Tryz.ntmps58
  go_wp2_with fail
  refine H.out.mono ?_
  rintro e w' ⟨⟨k, rfl, he⟩ | ⟨rfl, he⟩, rfl⟩
  · have HE := Lib.hid he
    clear he
    go_wp2
    go_ret
    exact ⟨ret_bool (by rw [HE.out]), rfl⟩
  · have HE := Lib.hid he
    clear he
    go_wp2
    go_ret
    exact ⟨ret_bool (by rw [HE.out]), rfl⟩
theorem in59 (lo hi : Int) (r n : Nat) (xs : List Int) (w : World) (hn : xs.length = n) (hsm : n ≤ 1000) (hr : Blk w r 3 (ints xs).toArray) :
    Calls Tryz.prog 52 #[.int .i64 lo, .int .i64 hi, .slice (some ⟨r, 0, none⟩) n n] w fun e w' => e = .returned (.bool (!xs.any (outside lo hi))) ∧ Below w.heap.size w w' := by
  have ba := (Blk.new w 3 #[.int .i64 lo]).alloc (.cells #[.int .i64 hi] 3)
  have bb := Blk.new (w.alloc (.cells #[.int .i64 lo] 3)) 3 #[.int .i64 hi]
  have br := (hr.alloc (.cells #[.int .i64 lo] 3)).alloc (.cells #[.int .i64 hi] 3)
  simp only [World.size_alloc] at bb
  have ca := ba.cell 0
  have cb := bb.cell 0
  rw [List.getElem?_toArray] at ca cb
  simp only [List.getElem?_cons_zero] at ca cb
  have hc := contains59 lo hi w.heap.size (w.heap.size + 1) r n xs ((w.alloc (.cells #[.int .i64 lo] 3)).alloc (.cells #[.int .i64 hi] 3)) hn hsm br ca cb
  have H := Lib.hid hc
  clear ba bb br ca cb hc hr
  go_enter Tryz.func52, Tryz.ntmps52
  go_wp2_with (go_at_call 58; refine H.out.mono ?_; rintro e w' ⟨rfl, rfl⟩)
  go_ret
  exact ⟨rfl, ((Below.refl _ _).alloc (Nat.le_refl _) _).alloc (by simp) _⟩
theorem close60 (lo hi x : Int) (a b : Nat) (w : World) (ha : w.cell? ⟨a, 0, none⟩ = some (.int .i64 lo)) (hb : w.cell? ⟨b, 0, none⟩ = some (.int .i64 hi)) : Calls Tryz.prog 60 #[.int .i64 x, .pointer (some ⟨a, 0, none⟩), .pointer (some ⟨b, 0, none⟩)] w fun e w' => e = .returned (.bool (outside lo hi x)) ∧ w = w' := by
  by_cases h1 : x < lo
  · have e1 : outside lo hi x = true := by simp [outside, h1]
    have H1 := Lib.hid e1
    clear e1
    go_enter Tryz.func60, Tryz.ntmps60
    go_wp2
    go_ret
    exact ⟨ret_bool H1.out.symm, rfl⟩
  · have h1' : decide (x < lo) = false := by simpa using h1
    have e1 : decide (hi < x) = outside lo hi x := by simp [outside, h1']
    have H1 := Lib.hid e1
    clear e1
    go_enter Tryz.func60, Tryz.ntmps60
    go_wp2
    go_ret
    exact ⟨ret_bool H1.out, rfl⟩
theorem index60 (lo hi : Int) (a b r n : Nat) (xs : List Int) (w : World) (hn : xs.length = n) (hsm : n ≤ 1000) (hr : Blk w r 3 (ints xs).toArray) (ha : w.cell? ⟨a, 0, none⟩ = some (.int .i64 lo)) (hb : w.cell? ⟨b, 0, none⟩ = some (.int .i64 hi)) :
    Calls Tryz.prog 62 #[.slice (some ⟨r, 0, none⟩) n n, .func (.func 60) #[] #[.pointer (some ⟨a, 0, none⟩), .pointer (some ⟨b, 0, none⟩)]] w (IxOut (xs.any (outside lo hi)) w) := by
  have HC := Lib.hid fun x => close60 lo hi x a b w ha hb
  have HL := Lib.hid hn
  clear hn ha hb
  go_enter Tryz.func62, Tryz.ntmps62
  go_wp2
  go_loop [8] (fun i => ∃ k : Nat, k ≤ n ∧ i = .int .i64 k ∧ (xs.take k).any (outside lo hi) = false) (fun i => n - (intOf i).toNat)
  case atStart => exact ⟨0, Nat.zero_le _, rfl, by simp⟩
  case round =>
    obtain ⟨k, hk, rfl, hall⟩ := hrel
    have HA := Lib.hid hall
    clear hall
    by_cases hlt : k < n
    · have hkl : k < xs.length := by rw [HL.out]; exact hlt
      obtain ⟨x, hx⟩ : ∃ x, xs[k]? = some x := ⟨_, List.getElem?_eq_getElem hkl⟩
      have hcell := hr.cell k
      rw [List.getElem?_toArray, ints, List.getElem?_map, hx] at hcell
      simp at hcell
      have htk : xs.take (k + 1) = xs.take k ++ [x] := by rw [List.take_add_one, hx]; rfl
      have hin : x ∈ xs := List.mem_of_getElem? hx
      have HT := Lib.hid htk
      have HI := Lib.hid hin
      have hcx := HC.out x
      clear htk hin hkl hx
      cases hq : outside lo hi x with
      | false =>
        rw [hq] at hcx
        have HQ := Lib.hid hq
        have HX := Lib.hid hcx
        clear hq hcx
        go_wp2_with (go_at_call 60; refine HX.out.mono ?_; rintro e w' ⟨rfl, rfl⟩)
        go_round
        case rel => exact ⟨k + 1, by omega, by go_num, by rw [HT.out, List.any_append, HA.out]; simp [HQ.out]⟩
        case measure => simp [intOf]; omega
      | true =>
        rw [hq] at hcx
        have HQ := Lib.hid hq
        have HX := Lib.hid hcx
        clear hq hcx
        go_wp2_with (go_at_call 60; refine HX.out.mono ?_; rintro e w' ⟨rfl, rfl⟩)
        go_ret
        exact ⟨.inl ⟨k, rfl, by rw [List.any_eq_true]; exact ⟨x, HI.out, HQ.out⟩⟩, rfl⟩
    · have e : xs.take k = xs := List.take_of_length_le (by rw [HL.out]; omega)
      have hA := HA.out
      rw [e] at hA
      have HA' := Lib.hid hA
      clear hA e
      go_wp2
      go_ret
      exact ⟨.inr ⟨rfl, HA'.out⟩, rfl⟩
theorem contains60 (lo hi : Int) (a b r n : Nat) (xs : List Int) (w : World) (hn : xs.length = n) (hsm : n ≤ 1000) (hr : Blk w r 3 (ints xs).toArray) (ha : w.cell? ⟨a, 0, none⟩ = some (.int .i64 lo)) (hb : w.cell? ⟨b, 0, none⟩ = some (.int .i64 hi)) :
    Calls Tryz.prog 58 #[.slice (some ⟨r, 0, none⟩) n n, .func (.func 60) #[] #[.pointer (some ⟨a, 0, none⟩), .pointer (some ⟨b, 0, none⟩)]] w fun e w' => e = .returned (.bool (xs.any (outside lo hi))) ∧ w = w' := by
  have H := Lib.hid (index60 lo hi a b r n xs w hn hsm hr ha hb)
  clear hr ha hb
  go_enter Tryz.func58, Tryz.ntmps58
  go_wp2_with fail
  refine H.out.mono ?_
  rintro e w' ⟨⟨k, rfl, he⟩ | ⟨rfl, he⟩, rfl⟩
  · have HE := Lib.hid he
    clear he
    go_wp2
    go_ret
    exact ⟨ret_bool (by rw [HE.out]), rfl⟩
  · have HE := Lib.hid he
    clear he
    go_wp2
    go_ret
    exact ⟨ret_bool (by rw [HE.out]), rfl⟩
theorem in60 (lo hi : Int) (r n : Nat) (xs : List Int) (w : World) (hn : xs.length = n) (hsm : n ≤ 1000) (hr : Blk w r 3 (ints xs).toArray) :
    Calls Tryz.prog 53 #[.int .i64 lo, .int .i64 hi, .slice (some ⟨r, 0, none⟩) n n] w fun e w' => e = .returned (.bool (!xs.any (outside lo hi))) ∧ Below w.heap.size w w' := by
  have ba := (Blk.new w 3 #[.int .i64 lo]).alloc (.cells #[.int .i64 hi] 3)
  have bb := Blk.new (w.alloc (.cells #[.int .i64 lo] 3)) 3 #[.int .i64 hi]
  have br := (hr.alloc (.cells #[.int .i64 lo] 3)).alloc (.cells #[.int .i64 hi] 3)
  simp only [World.size_alloc] at bb
  have ca := ba.cell 0
  have cb := bb.cell 0
  rw [List.getElem?_toArray] at ca cb
  simp only [List.getElem?_cons_zero] at ca cb
  have hc := contains60 lo hi w.heap.size (w.heap.size + 1) r n xs ((w.alloc (.cells #[.int .i64 lo] 3)).alloc (.cells #[.int .i64 hi] 3)) hn hsm br ca cb
  have H := Lib.hid hc
  clear ba bb br ca cb hc hr
  go_enter Tryz.func53, Tryz.ntmps53
  go_wp2_with (go_at_call 58; refine H.out.mono ?_; rintro e w' ⟨rfl, rfl⟩)
  go_ret
  exact ⟨rfl, ((Below.refl _ _).alloc (Nat.le_refl _) _).alloc (by simp) _⟩
end Go.Proofs.YthicdlbelhokjaaGreat
