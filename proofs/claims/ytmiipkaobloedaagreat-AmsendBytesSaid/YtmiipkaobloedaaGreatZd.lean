/- status.Valid. status.Valid. -/
import Derived.Test.YtmiipkaobloedaaGreatYUa
import Derived.Test.YtmiipkaobloedaaGreatZb
import Derived.Test.YtmiipkaobloedaaGreatZl
import Derived.Deep.DeepCutAuto
import Derived.Deep.RegionHeld3
import Derived.BigRegion
namespace Go.Proofs.YtmiipkaobloedaaGreat
open Go.RowKit
attribute [local go_sem] Oper.semAt_some

set_option maxHeartbeats 400000 in
theorem indexAllS_any (b : Nat) (fvs : List Value) (bs : List Bool) (Inv : World → Prop) (w : World) (hlen : bs.length = fvs.length) (hsm : fvs.length ≤ 1000) (hI : ∀ W, Inv W → Blk W b 24 fvs.toArray)
    (hcall : ∀ (i : Nat) (fv : Value) (x : Bool) (W : World), fvs[i]? = some fv → bs[i]? = some x → (∀ y ∈ bs.take i, y = true) → Inv W → Calls Tryz.prog 121 #[fv] W fun e W' => e = .returned (.bool (!x)) ∧ Inv W')
    (h0 : Inv w) : Calls Tryz.prog 123 #[.slice (some ⟨b, 0, none⟩) fvs.length fvs.length, .func (.func 121) #[] #[]] w (AllIs bs Inv) := by
  have HC := Lib.hid hcall
  have HI := Lib.hid hI
  have HL := Lib.hid hlen
  clear hcall hI hlen
  obtain ⟨N, hN⟩ : ∃ N, N = fvs.length := ⟨_, rfl⟩
  rw [← hN] at hsm ⊢
  have HN := Lib.hid hN
  clear hN
  go_enter Tryz.func123, Tryz.ntmps123
  go_wp2
  go_loopw [8] (fun i wr => ∃ k : Nat, k ≤ N ∧ i = .int .i64 k ∧ (∀ y ∈ bs.take k, y = true) ∧ Inv wr) (fun i _ => N - (intOf i).toNat)
  case atStart => exact ⟨0, Nat.zero_le _, rfl, by simp, h0⟩
  case round =>
    clear h0
    obtain ⟨k, hk, rfl, hall, hinv⟩ := hrel
    have HA := Lib.hid hall
    clear hall
    by_cases hlt : k < N
    · obtain ⟨fv, hfv⟩ : ∃ fv, fvs[k]? = some fv := ⟨_, List.getElem?_eq_getElem (by rw [← HN.out]; exact hlt)⟩
      obtain ⟨x, hx⟩ : ∃ x, bs[k]? = some x := ⟨_, List.getElem?_eq_getElem (by rw [HL.out, ← HN.out]; exact hlt)⟩
      have hcl := HC.out k fv x wr hfv hx HA.out hinv
      have hcell := (HI.out wr hinv).cell k
      rw [List.getElem?_toArray, hfv] at hcell
      have HCL := Lib.hid hcl
      have HX := Lib.hid hx
      clear hcl hfv hx
      cases x with
      | true =>
        go_wp2_with (go_at_call 121; refine HCL.out.mono ?_; rintro e w' ⟨rfl, hi'⟩)
        go_roundw
        case rel => exact ⟨k + 1, by omega, by go_num, by
          intro y hy
          rw [List.take_add_one, HX.out, List.mem_append] at hy
          rcases hy with hy | hy
          · exact HA.out y hy
          · simpa using hy, hi'⟩
        case measure => simp [intOf]; omega
      | false =>
        go_wp2_with (go_at_call 121; refine HCL.out.mono ?_; rintro e w' ⟨rfl, hi'⟩)
        go_ret
        refine ⟨.inl ⟨k, rfl, ?_⟩, hi'⟩
        rw [List.all_eq_false]
        exact ⟨false, List.mem_of_getElem? HX.out, by simp⟩
    · have e : bs.take k = bs := List.take_of_length_le (by rw [HL.out, ← HN.out]; omega)
      have hA := HA.out
      rw [e] at hA
      have HA' := Lib.hid hA
      clear hA e
      go_wp2
      go_ret
      exact ⟨.inr ⟨rfl, by rw [List.all_eq_true]; exact HA'.out⟩, hinv⟩

theorem containsAllS_any (b : Nat) (fvs : List Value) (bs : List Bool) (Inv : World → Prop) (w : World)
    (h : Calls Tryz.prog 123 #[.slice (some ⟨b, 0, none⟩) fvs.length fvs.length, .func (.func 121) #[] #[]] w (AllIs bs Inv)) :
    Calls Tryz.prog 106 #[.slice (some ⟨b, 0, none⟩) fvs.length fvs.length, .func (.func 121) #[] #[]] w fun e w' => e = .returned (.bool (!bs.all id)) ∧ Inv w' := by
  have H := Lib.hid h
  clear h
  go_enter Tryz.func106, Tryz.ntmps106
  go_wp2_with fail
  refine H.out.mono ?_
  rintro e w' ⟨⟨k, rfl, ha⟩ | ⟨rfl, ha⟩, hi⟩
  · have HA := Lib.hid ha
    clear ha
    go_wp2
    go_ret
    exact ⟨ret_bool (by rw [HA.out]; rfl), hi⟩
  · have HA := Lib.hid ha
    clear ha
    go_wp2
    go_ret
    exact ⟨ret_bool (by rw [HA.out]; rfl), hi⟩

theorem allS_any (b : Nat) (fvs : List Value) (bs : List Bool) (Inv : World → Prop) (w : World)
    (h : Calls Tryz.prog 106 #[.slice (some ⟨b, 0, none⟩) fvs.length fvs.length, .func (.func 121) #[] #[]] w fun e w' => e = .returned (.bool (!bs.all id)) ∧ Inv w') :
    Calls Tryz.prog 97 #[.slice (some ⟨b, 0, none⟩) fvs.length fvs.length] w fun e w' => e = .returned (.bool (bs.all id)) ∧ Inv w' := by
  have H := Lib.hid h
  clear h
  go_enter Tryz.func97, Tryz.ntmps97
  go_wp2_with fail
  refine H.out.mono ?_
  rintro e w' ⟨rfl, hi⟩
  go_wp2
  go_ret
  exact ⟨ret_bool (by simp), hi⟩

/-- the cells of a report's entry -/
def nkC (n : Nk) : Array Value := #[.int .i64 n.sn, .bool n.part, .int .i64 n.fr, .int .i64 n.lt]
theorem Blk.four4 {w : World} {g : Nat} {t : TypeId} {x y z u : Value} (b : Blk w g t #[x, y, z, u]) : w.cell? ⟨g, 0, none⟩ = some x ∧ w.cell? ⟨g, 1, none⟩ = some y ∧ w.cell? ⟨g, 2, none⟩ = some z ∧ w.cell? ⟨g, 3, none⟩ = some u :=
  ⟨b.cell 0, b.cell 1, b.cell 2, b.cell 3⟩
theorem dist_wrap (a b : Int) : bits .and .i64 (IntKind.i64.wrap (a - b)) 1023 = (a - b) % 1024 := by
  rw [and1023, IntKind.wrap_i64]
  omega
section
variable (w : World)
theorem sdist_any (ack sn : Int) : Calls Tryz.prog 100 #[.int .i64 ack, .int .i64 sn] w fun e w' => e = .returned (.int .i64 (distP ack sn)) ∧ w = w' := by
  go_enter Tryz.func100, Tryz.ntmps100
  go_wp2
  go_ret
  exact ⟨ret_int (by rw [← IntWalk.i64_left]; exact dist_wrap ack sn), rfl⟩
variable (bn ba : Nat) (ack : Int) (n : Nk)
theorem sal1_any (hb : Blk w bn 68 (nkC n)) : Calls Tryz.prog 95 #[.pointer (some ⟨bn, 0, none⟩)] w fun e w' => e = .returned (.bool (decide (n.fr = 0) && decide (n.lt = 0))) ∧ w = w' := by
  obtain ⟨x0, x1, x2, x3⟩ := hb.four4
  by_cases h0 : n.fr = 0
  · have e0 : (n.fr == 0) = true := by simp [h0]
    have e1 : (n.lt == 0) = decide (n.lt = 0) := by rw [Bool.eq_iff_iff]; simp
    rw [decide_eq_true h0]
    generalize decide (n.lt = 0) = d at *
    have H0 := Lib.hid h0
    clear h0
    go_enter Tryz.func95, Tryz.ntmps95
    go_wp2
    go_ret
    exact ⟨rfl, rfl⟩
  · have e0 : (n.fr == 0) = false := by simp [h0]
    rw [decide_eq_false h0]
    go_enter Tryz.func95, Tryz.ntmps95
    go_wp2
    go_ret
    exact ⟨rfl, rfl⟩
theorem sal2_any (hb : Blk w bn 68 (nkC n)) : Calls Tryz.prog 96 #[.pointer (some ⟨bn, 0, none⟩)] w fun e w' => e = .returned (.bool (decide (0 ≤ n.fr) && (decide (n.fr ≤ n.lt) && decide (n.lt ≤ 32767)))) ∧ w = w' := by
  obtain ⟨x0, x1, x2, x3⟩ := hb.four4
  by_cases h0 : 0 ≤ n.fr
  · by_cases h1 : n.fr ≤ n.lt
    · rw [decide_eq_true h0, decide_eq_true h1]
      have d0 := decide_eq_true h0
      have d1 := decide_eq_true h1
      go_enter Tryz.func96, Tryz.ntmps96
      go_wp2
      go_ret
      exact ⟨rfl, rfl⟩
    · rw [decide_eq_true h0, decide_eq_false h1]
      have d0 := decide_eq_true h0
      have d1 := decide_eq_false h1
      go_enter Tryz.func96, Tryz.ntmps96
      go_wp2
      go_ret
      exact ⟨rfl, rfl⟩
  · rw [decide_eq_false h0]
    have d0 := decide_eq_false h0
    go_enter Tryz.func96, Tryz.ntmps96
    go_wp2
    go_ret
    exact ⟨rfl, rfl⟩
theorem sal3_any (hb : Blk w bn 68 (nkC n)) : Calls Tryz.prog 98 #[.pointer (some ⟨bn, 0, none⟩)] w fun e w' => e = .returned (.bool (decide (0 ≤ n.sn) && decide (n.sn < 1024))) ∧ w = w' := by
  obtain ⟨x0, x1, x2, x3⟩ := hb.four4
  by_cases h0 : 0 ≤ n.sn
  · rw [decide_eq_true h0]
    have d0 := decide_eq_true h0
    go_enter Tryz.func98, Tryz.ntmps98
    go_wp2
    go_ret
    exact ⟨rfl, rfl⟩
  · rw [decide_eq_false h0]
    have d0 := decide_eq_false h0
    go_enter Tryz.func98, Tryz.ntmps98
    go_wp2
    go_ret
    exact ⟨rfl, rfl⟩
theorem sal4_any (hb : Blk w bn 68 (nkC n)) (ha : Blk w ba 3 #[.int .i64 ack]) : Calls Tryz.prog 99 #[.pointer (some ⟨ba, 0, none⟩), .pointer (some ⟨bn, 0, none⟩)] w fun e w' => e = .returned (.bool (decide (1 ≤ distP ack n.sn) && decide (distP ack n.sn ≤ 512))) ∧ w = w' := by
  obtain ⟨x0, x1, x2, x3⟩ := hb.four4
  have y0 := ha.cell 0
  simp at y0
  have hd := sdist_any w ack n.sn
  have HD := Lib.hid hd
  clear hd hb ha
  generalize distP ack n.sn = d at *
  by_cases h0 : 1 ≤ d
  · rw [decide_eq_true h0]
    have d0 := decide_eq_true h0
    go_enter Tryz.func99, Tryz.ntmps99
    go_wp2_with (go_at_call 100; refine HD.out.mono ?_; rintro e w' ⟨rfl, rfl⟩)
    go_ret
    exact ⟨rfl, rfl⟩
  · rw [decide_eq_false h0]
    have d0 := decide_eq_false h0
    go_enter Tryz.func99, Tryz.ntmps99
    go_wp2_with (go_at_call 100; refine HD.out.mono ?_; rintro e w' ⟨rfl, rfl⟩)
    go_ret
    exact ⟨rfl, rfl⟩
theorem not_s1 (fid : Nat) (cap : Array Value) (x : Bool) (hf : (fid = 95 ∧ cap = #[.pointer (some ⟨bn, 0, none⟩)]) ∨ (fid = 96 ∧ cap = #[.pointer (some ⟨bn, 0, none⟩)]) ∨ (fid = 98 ∧ cap = #[.pointer (some ⟨bn, 0, none⟩)]) ∨ (fid = 99 ∧ cap = #[.pointer (some ⟨ba, 0, none⟩), .pointer (some ⟨bn, 0, none⟩)]))
    (h : Calls Tryz.prog fid cap w fun e w' => e = .returned (.bool x) ∧ w = w') :
    Calls Tryz.prog 121 #[.func (.func fid) #[] cap] w fun e w' => e = .returned (.bool (!x)) ∧ w = w' := by
  have H := Lib.hid h
  clear h
  rcases hf with ⟨rfl, rfl⟩ | ⟨rfl, rfl⟩ | ⟨rfl, rfl⟩ | ⟨rfl, rfl⟩
  · go_enter Tryz.func121, Tryz.ntmps121
    go_wp2_with (go_at_call 95; refine H.out.mono ?_; rintro e w' ⟨rfl, rfl⟩)
    go_ret
    exact ⟨rfl, rfl⟩
  · go_enter Tryz.func121, Tryz.ntmps121
    go_wp2_with (go_at_call 96; refine H.out.mono ?_; rintro e w' ⟨rfl, rfl⟩)
    go_ret
    exact ⟨rfl, rfl⟩
  · go_enter Tryz.func121, Tryz.ntmps121
    go_wp2_with (go_at_call 98; refine H.out.mono ?_; rintro e w' ⟨rfl, rfl⟩)
    go_ret
    exact ⟨rfl, rfl⟩
  · go_enter Tryz.func121, Tryz.ntmps121
    go_wp2_with (go_at_call 99; refine H.out.mono ?_; rintro e w' ⟨rfl, rfl⟩)
    go_ret
    exact ⟨rfl, rfl⟩
/-- the conditions on one entry -/
def nkConds (ack : Int) (n : Nk) : List Bool :=
  [decide (0 ≤ n.sn) && decide (n.sn < 1024), decide (1 ≤ distP ack n.sn) && decide (distP ack n.sn ≤ 512), if n.part = true then decide (0 ≤ n.fr) && (decide (n.fr ≤ n.lt) && decide (n.lt ≤ 32767)) else decide (n.fr = 0) && decide (n.lt = 0)]
theorem nkConds_all : (nkConds ack n).all id = aloneP ack n := by
  simp [nkConds, aloneP]
set_option maxHeartbeats 800000 in
theorem salone_any : Calls Tryz.prog 66 #[.int .i64 ack, .agg (nkC n)] w fun e w' => e = .returned (.bool (aloneP ack n)) ∧ Below w.heap.size w w' := by
  obtain ⟨f3, hf3⟩ : ∃ f3, f3 = if n.part then 96 else 95 := ⟨_, rfl⟩
  have bA := ((Blk.new w 3 #[.int .i64 ack]).alloc (.cells (nkC n) 68)).alloc (.cells #[.func (.func 98) #[] #[.pointer (some ⟨w.heap.size + 1, 0, none⟩)], .func (.func 99) #[] #[.pointer (some ⟨w.heap.size, 0, none⟩), .pointer (some ⟨w.heap.size + 1, 0, none⟩)], .func (.func f3) #[] #[.pointer (some ⟨w.heap.size + 1, 0, none⟩)]] 24)
  have bN := (Blk.new (w.alloc (.cells #[.int .i64 ack] 3)) 68 (nkC n)).alloc (.cells #[.func (.func 98) #[] #[.pointer (some ⟨w.heap.size + 1, 0, none⟩)], .func (.func 99) #[] #[.pointer (some ⟨w.heap.size, 0, none⟩), .pointer (some ⟨w.heap.size + 1, 0, none⟩)], .func (.func f3) #[] #[.pointer (some ⟨w.heap.size + 1, 0, none⟩)]] 24)
  have bL := Blk.new ((w.alloc (.cells #[.int .i64 ack] 3)).alloc (.cells (nkC n) 68)) 24 #[.func (.func 98) #[] #[.pointer (some ⟨w.heap.size + 1, 0, none⟩)], .func (.func 99) #[] #[.pointer (some ⟨w.heap.size, 0, none⟩), .pointer (some ⟨w.heap.size + 1, 0, none⟩)], .func (.func f3) #[] #[.pointer (some ⟨w.heap.size + 1, 0, none⟩)]]
  simp only [World.size_alloc] at bN bL
  have hBw : Below w.heap.size w (((w.alloc (.cells #[.int .i64 ack] 3)).alloc (.cells (nkC n) 68)).alloc (.cells #[.func (.func 98) #[] #[.pointer (some ⟨w.heap.size + 1, 0, none⟩)], .func (.func 99) #[] #[.pointer (some ⟨w.heap.size, 0, none⟩), .pointer (some ⟨w.heap.size + 1, 0, none⟩)], .func (.func f3) #[] #[.pointer (some ⟨w.heap.size + 1, 0, none⟩)]] 24)) :=
    (((Below.refl _ w).alloc (Nat.le_refl _) _).alloc (by simp) _).alloc (by simp; omega) _
  have hall : ∀ W0, Blk W0 w.heap.size 3 #[.int .i64 ack] → Blk W0 (w.heap.size + 1) 68 (nkC n) → Blk W0 (w.heap.size + 1 + 1) 24 #[.func (.func 98) #[] #[.pointer (some ⟨w.heap.size + 1, 0, none⟩)], .func (.func 99) #[] #[.pointer (some ⟨w.heap.size, 0, none⟩), .pointer (some ⟨w.heap.size + 1, 0, none⟩)], .func (.func f3) #[] #[.pointer (some ⟨w.heap.size + 1, 0, none⟩)]] →
      Calls Tryz.prog 97 #[.slice (some ⟨w.heap.size + 1 + 1, 0, none⟩) 3 3] W0 fun e w' => e = .returned (.bool (aloneP ack n)) ∧ W0 = w' := fun W0 b0 b1 b2 => by
    rw [← nkConds_all]
    refine allS_any (w.heap.size + 1 + 1) [.func (.func 98) #[] #[.pointer (some ⟨w.heap.size + 1, 0, none⟩)], .func (.func 99) #[] #[.pointer (some ⟨w.heap.size, 0, none⟩), .pointer (some ⟨w.heap.size + 1, 0, none⟩)], .func (.func f3) #[] #[.pointer (some ⟨w.heap.size + 1, 0, none⟩)]] (nkConds ack n) (fun W => W0 = W) W0 ?_
    refine containsAllS_any (w.heap.size + 1 + 1) _ (nkConds ack n) (fun W => W0 = W) W0 ?_
    refine indexAllS_any (w.heap.size + 1 + 1) _ (nkConds ack n) (fun W => W0 = W) W0 rfl (by simp) (fun W hW => by rw [← hW]; exact b2) ?_ rfl
    rintro i fv x W hfv hx hpre rfl
    match i, hfv, hx, hpre with
    | 0, hfv, hx, _ =>
      simp only [nkConds, List.getElem?_cons_zero, Option.some.injEq] at hfv hx
      subst hfv hx
      exact not_s1 W0 (w.heap.size + 1) w.heap.size 98 _ _ (.inr (.inr (.inl ⟨rfl, rfl⟩))) (sal3_any W0 _ n b1)
    | 1, hfv, hx, _ =>
      simp only [nkConds, List.getElem?_cons_zero, List.getElem?_cons_succ, Option.some.injEq] at hfv hx
      subst hfv hx
      exact not_s1 W0 (w.heap.size + 1) w.heap.size 99 _ _ (.inr (.inr (.inr ⟨rfl, rfl⟩))) (sal4_any W0 _ _ ack n b1 b0)
    | 2, hfv, hx, _ =>
      simp only [nkConds, List.getElem?_cons_zero, List.getElem?_cons_succ, Option.some.injEq] at hfv hx
      subst hfv hx
      cases hp : n.part with
      | true =>
        simp only [hp, if_true] at hf3 ⊢
        subst hf3
        exact not_s1 W0 (w.heap.size + 1) w.heap.size 96 _ _ (.inr (.inl ⟨rfl, rfl⟩)) (sal2_any W0 _ n b1)
      | false =>
        simp only [hp, Bool.false_eq_true, if_false] at hf3 ⊢
        subst hf3
        exact not_s1 W0 (w.heap.size + 1) w.heap.size 95 _ _ (.inl ⟨rfl, rfl⟩) (sal1_any W0 _ n b1)
    | i + 3, hfv, _, _ => simp at hfv
  have hall2 := hall _ bA bN bL
  have HALL := Lib.hid hall2
  have HB := Lib.hid hBw
  have x1 := (Blk.new (w.alloc (.cells #[.int .i64 ack] 3)) 68 (nkC n)).cell 1
  clear hall hall2 bA bN bL hBw
  unfold nkC at *
  generalize aloneP ack n = R at *
  cases hp : n.part with
  | true =>
    rw [hp] at hf3 HALL HB x1
    simp only [if_true] at hf3
    subst hf3
    have HP := Lib.hid hp
    clear hp
    go_enter Tryz.func66, Tryz.ntmps66
    go_wp2_with (go_at_call 97; refine HALL.out.mono ?_; rintro e w' ⟨rfl, rfl⟩)
    go_ret
    exact ⟨rfl, HB.out⟩
  | false =>
    rw [hp] at hf3 HALL HB x1
    simp only [Bool.false_eq_true, if_false] at hf3
    subst hf3
    have HP := Lib.hid hp
    clear hp
    go_enter Tryz.func66, Tryz.ntmps66
    go_wp2_with (go_at_call 97; refine HALL.out.mono ?_; rintro e w' ⟨rfl, rfl⟩)
    go_ret
    exact ⟨rfl, HB.out⟩
set_option maxRecDepth 10000 in
set_option maxHeartbeats 1000000 in
theorem sfollows_any (a b : Nk) : Calls Tryz.prog 67 #[.int .i64 ack, .agg (nkC a), .agg (nkC b)] w fun e w' => e = .returned (.bool (followsP ack a b)) ∧ Below w.heap.size w w' := by
  have hd := fun (x : Int) (W : World) => sdist_any W ack x
  have HD := Lib.hid hd
  have hB := ((Below.refl w.heap.size w).alloc (Nat.le_refl _) (.cells (nkC a) 68)).alloc (by simp) (.cells (nkC b) 68)
  have ba := (Blk.new w 68 (nkC a)).alloc (.cells (nkC b) 68)
  have bb := Blk.new (w.alloc (.cells (nkC a) 68)) 68 (nkC b)
  simp only [World.size_alloc] at bb
  obtain ⟨x0, x1, x2, x3⟩ := ba.four4
  obtain ⟨y0, y1, y2, y3⟩ := bb.four4
  have HB := Lib.hid hB
  have hfin : followsP ack a b = (decide (distP ack b.sn < distP ack a.sn) || (decide (a.sn = b.sn) && (a.part && (b.part && decide (a.lt < b.fr))))) := rfl
  rw [hfin]
  clear hd hB ba bb hfin
  unfold nkC at *
  obtain ⟨asn, ap, af, al⟩ := a
  obtain ⟨bsn, bp, bf, bl⟩ := b
  dsimp only at *
  by_cases hA : distP ack bsn < distP ack asn
  · have d1 : decide (distP ack bsn < distP ack asn) = true := decide_eq_true hA
    rw [d1]
    go_enter Tryz.func67, Tryz.ntmps67
    go_wp2_with fail
    go_quiet ((go_at_call 100; exact Calls.quiet_of_same ((HD.out _ _).mono fun _ _ hh => ⟨hh.1, hh.2.symm⟩)))
    go_wp2
    go_ret
    exact ⟨rfl, HB.out.drewN _⟩
  have d1 : decide (distP ack bsn < distP ack asn) = false := decide_eq_false hA
  rw [d1]
  by_cases hBB : asn = bsn
  · have e1 : (asn == bsn) = true := by simp [hBB]
    rw [decide_eq_true hBB]
    have HBB := Lib.hid hBB
    clear hBB
    cases ap with
    | false =>
      go_enter Tryz.func67, Tryz.ntmps67
      go_wp2_with fail
      go_quiet ((go_at_call 100; exact Calls.quiet_of_same ((HD.out _ _).mono fun _ _ hh => ⟨hh.1, hh.2.symm⟩)))
      go_wp2
      go_ret
      exact ⟨rfl, HB.out.drewN _⟩
    | true =>
      cases bp with
      | false =>
        go_enter Tryz.func67, Tryz.ntmps67
        go_wp2_with fail
        go_quiet ((go_at_call 100; exact Calls.quiet_of_same ((HD.out _ _).mono fun _ _ hh => ⟨hh.1, hh.2.symm⟩)))
        go_wp2
        go_ret
        exact ⟨rfl, HB.out.drewN _⟩
      | true =>
        go_enter Tryz.func67, Tryz.ntmps67
        go_wp2_with fail
        go_quiet ((go_at_call 100; exact Calls.quiet_of_same ((HD.out _ _).mono fun _ _ hh => ⟨hh.1, hh.2.symm⟩)))
        go_wp2
        go_ret
        exact ⟨by simp, HB.out.drewN _⟩
  · have e1 : (asn == bsn) = false := by simp [hBB]
    rw [decide_eq_false hBB]
    go_enter Tryz.func67, Tryz.ntmps67
    go_wp2_with fail
    go_quiet ((go_at_call 100; exact Calls.quiet_of_same ((HD.out _ _).mono fun _ _ hh => ⟨hh.1, hh.2.symm⟩)))
    go_wp2
    go_ret
    exact ⟨rfl, HB.out.drewN _⟩
end
end Go.Proofs.YtmiipkaobloedaaGreat
namespace Go.Proofs.YtmiipkaobloedaaGreat
open Go.RowKit
attribute [local go_sem] Oper.semAt_some

/-- the entries of a report in memory -/
structure NkAt (w : World) (A : Option Addr) (n c : Nat) (l : List Nk) : Prop where
  len : l.length = n
  cap : n ≤ c
  mx : c ≤ 9223372036854775807
  at_ : 0 < n → ∃ ad, A = some ad ∧ ad.block < w.heap.size ∧ ∀ j r, l[j]? = some r → w.cell? (ad.add (j * 4)) = some (.int .i64 r.sn) ∧ w.cell? ⟨(ad.add (j * 4)).block, (ad.add (j * 4)).off + 1, none⟩ = some (.bool r.part) ∧ w.cell? ⟨(ad.add (j * 4)).block, (ad.add (j * 4)).off + 2, none⟩ = some (.int .i64 r.fr) ∧ w.cell? ⟨(ad.add (j * 4)).block, (ad.add (j * 4)).off + 3, none⟩ = some (.int .i64 r.lt)
theorem NkAt.below {w w' : World} {A : Option Addr} {n c : Nat} {l : List Nk} (h : NkAt w A n c l) (hb : Below w.heap.size w w') : NkAt w' A n c l :=
  ⟨h.len, h.cap, h.mx, fun hn => by
    obtain ⟨ad, e, hlt, hc⟩ := h.at_ hn
    refine ⟨ad, e, Nat.lt_of_lt_of_le hlt hb.size, fun j r hr => ?_⟩
    obtain ⟨k0, k1, k2, k3⟩ := hc j r hr
    have hbk : (ad.add (j * 4)).block < w.heap.size := by rw [block_add]; exact hlt
    exact ⟨(hb.cell hbk).trans k0, (hb.cell (p := ⟨(ad.add (j * 4)).block, _, none⟩) hbk).trans k1, (hb.cell (p := ⟨(ad.add (j * 4)).block, _, none⟩) hbk).trans k2, (hb.cell (p := ⟨(ad.add (j * 4)).block, _, none⟩) hbk).trans k3⟩⟩
theorem NkAt.drewN {w : World} {A : Option Addr} {n c : Nat} {l : List Nk} (h : NkAt w A n c l) (k : Nat) : NkAt (w.drewN k) A n c l := h.below ((Below.refl _ w).drewN k)
theorem NkAt.alloc {w : World} {A : Option Addr} {n c : Nat} {l : List Nk} (h : NkAt w A n c l) (o : Obj) : NkAt (w.alloc o) A n c l := h.below ((Below.refl _ w).alloc (Nat.le_refl _) o)
/-- entry k is in order behind the one before it -/
def nkOk (ack : Int) (l : List Nk) (k : Nat) : Prop := ∀ n, l[k]? = some n → aloneP ack n = true ∧ ∀ m, 0 < k → l[k - 1]? = some m → followsP ack m n = true
theorem chainP_iff (ack : Int) : ∀ l : List Nk, chainP ack l = true ↔ ∀ k, nkOk ack l k
  | [] => by simp [chainP, nkOk]
  | [n] => by
    simp only [chainP, nkOk]
    constructor
    · intro h k m hm
      cases k with
      | zero => simp at hm; subst hm; exact ⟨h, fun _ h0 => by omega⟩
      | succ k => simp at hm
    · intro h
      exact (h 0 n rfl).1
  | a :: b :: r => by
    have ih := chainP_iff ack (b :: r)
    simp only [chainP, Bool.and_eq_true, ih]
    constructor
    · rintro ⟨h1, h2, h3⟩ k n hn
      cases k with
      | zero => simp at hn; subst hn; exact ⟨h1, fun _ h0 => by omega⟩
      | succ k =>
        have h4 := h3 k n (by simpa using hn)
        refine ⟨h4.1, fun m _ hm => ?_⟩
        cases k with
        | zero => simp at hn hm; subst hn hm; exact h2
        | succ k => exact h4.2 m (by omega) (by simpa using hm)
    · intro h
      refine ⟨(h 0 a rfl).1, (h 1 b rfl).2 a (by omega) rfl, fun k n hn => ?_⟩
      have h4 := h (k + 1) n (by simpa using hn)
      refine ⟨h4.1, fun m h0 hm => h4.2 m (by omega) ?_⟩
      rw [show k + 1 - 1 = (k - 1) + 1 by omega]
      simpa using hm
section
variable (w : World)
set_option maxRecDepth 10000 in
set_option maxHeartbeats 8000000 in
theorem svalid_any (ack : Int) (A : Option Addr) (n c : Nat) (l : List Nk) (h : NkAt w A n c l) :
    Calls Tryz.prog 38 #[.agg #[.int .i64 ack, .slice A n c]] w fun e w' => e = .returned (.bool (validSt ack l)) ∧ Below w.heap.size w w' := by
  have hlen := h.len
  have hcap := h.cap
  have hmx := h.mx
  obtain ⟨R, hR⟩ : ∃ R, validSt ack l = R := ⟨_, rfl⟩
  rw [hR]
  have HR := Lib.hid hR
  clear hR
  by_cases h0 : 0 ≤ ack
  · have d0 : decide (ack < 0) = false := decide_eq_false (by omega)
    by_cases h1 : ack ≤ 1023
    · have d1 : decide (1023 < ack) = false := decide_eq_false (by omega)
      by_cases h5 : n ≤ 512
      · have hR2 : chainP ack l = R := by rw [← HR.out]; simp [validSt, hlen, h0, h1, h5]
        have HR2 := Lib.hid hR2
        have HL := Lib.hid hlen
        have HN := Lib.hid (h.alloc (.cells #[.int .i64 ack, .slice A n c] 41))
        have hbk := Blk.new w 41 #[.int .i64 ack, .slice A n c]
        have HBK := Lib.hid hbk
        have HBW := Lib.hid ((Below.refl w.heap.size w).alloc (Nat.le_refl _) (.cells #[.int .i64 ack, .slice A n c] 41))
        clear h hR2 hbk hlen
        go_enter Tryz.func38, Tryz.ntmps38
        go_wp2
        have hz := World.size_alloc w (.cells #[.int .i64 ack, .slice A n c] 41)
        have HZ := Lib.hid hz
        clear hz
        generalize w.alloc (.cells #[.int .i64 ack, .slice A n c] 41) = w0 at *
        go_loopw [22] (fun i wr => ∃ k : Nat, k ≤ n ∧ i = .int .i64 k ∧ Below w0.heap.size w0 wr ∧ ∀ j, j < k → nkOk ack l j) (fun i _ => n - (intOf i).toNat)
        case atStart => exact ⟨0, Nat.zero_le _, rfl, Below.refl _ _, fun j hj => by omega⟩
        case round =>
          obtain ⟨k, hk, rfl, hb, hall⟩ := hrel
          have HALL := Lib.hid hall
          clear hall
          by_cases hlt : k < n
          · obtain ⟨x, hx⟩ : ∃ x, l[k]? = some x := ⟨_, List.getElem?_eq_getElem (by have := HL.out; omega)⟩
            obtain ⟨ad, rfl, hadb, hcl⟩ := (HN.out.below hb).at_ (by omega)
            obtain ⟨k0, k1, k2, k3⟩ := hcl k x hx
            have HX := Lib.hid hx
            have HCL := Lib.hid hcl
            have hbw : w.heap.size < w0.heap.size := HBK.out.lt
            have b0 := (HBK.out.below hb hbw).alloc (.cells (nkC x) 68)
            have b1 := Blk.new wr 68 (nkC x)
            have hbW : Below w0.heap.size w0 (wr.alloc (.cells (nkC x) 68)) := hb.alloc hb.size _
            have z0 : (wr.alloc (.cells (nkC x) 68)).cell? ⟨w.heap.size, 0, none⟩ = some (.int .i64 ack) := b0.cell 0
            have z1 : (wr.alloc (.cells (nkC x) 68)).cell? ⟨w.heap.size, 1, none⟩ = some (.slice (some ad) n c) := b0.cell 1
            have y0 : (wr.alloc (.cells (nkC x) 68)).cell? ⟨wr.heap.size, 0, none⟩ = some (.int .i64 x.sn) := b1.cell 0
            have y1 : (wr.alloc (.cells (nkC x) 68)).cell? ⟨wr.heap.size, 1, none⟩ = some (.bool x.part) := b1.cell 1
            have y2 : (wr.alloc (.cells (nkC x) 68)).cell? ⟨wr.heap.size, 2, none⟩ = some (.int .i64 x.fr) := b1.cell 2
            have y3 : (wr.alloc (.cells (nkC x) 68)).cell? ⟨wr.heap.size, 3, none⟩ = some (.int .i64 x.lt) := b1.cell 3
            have hlt1 : wr.heap.size < (wr.alloc (.cells (nkC x) 68)).heap.size := by simp
            have hlt0 : w.heap.size < (wr.alloc (.cells (nkC x) 68)).heap.size := b0.lt
            have hal := fun (W : World) => salone_any W ack x
            have HAL := Lib.hid hal
            have HNW := Lib.hid ((HN.out.below hbW))
            clear b0 b1 hx hcl hal
            unfold nkC at *
            go_upto_region 6 with (fail)
            generalize wr.alloc (.cells #[.int .i64 x.sn, .bool x.part, .int .i64 x.fr, .int .i64 x.lt] 68) = w1 at *
            clear k0 k1 k2 k3
            cases hA : aloneP ack x with
            | false =>
              rw [hA] at HAL
              have hRf : R = false := by
                rw [← HR2.out, ← Bool.not_eq_true, chainP_iff]
                intro hh
                have := (hh k x HX.out).1
                rw [hA] at this
                cases this
              subst hRf
              have HA := Lib.hid hA
              clear hA
              refine wp_region_E (fun w' => w'.cell? ⟨w.heap.size, 0, none⟩ = some (.int .i64 ack) ∧ w'.cell? ⟨w.heap.size, 1, none⟩ = some (.slice (some ad) n c) ∧ w'.cell? ⟨wr.heap.size, 0, none⟩ = some (.int .i64 x.sn) ∧ w'.cell? ⟨wr.heap.size, 1, none⟩ = some (.bool x.part) ∧ w'.cell? ⟨wr.heap.size, 2, none⟩ = some (.int .i64 x.fr) ∧ w'.cell? ⟨wr.heap.size, 3, none⟩ = some (.int .i64 x.lt)) [3] (by kernel_rfl) ?_
              have hHeld := (show w1.drew.cell? ⟨w.heap.size, 0, none⟩ = some (.int .i64 ack) ∧ w1.drew.cell? ⟨w.heap.size, 1, none⟩ = some (.slice (some ad) n c) ∧ w1.drew.cell? ⟨wr.heap.size, 0, none⟩ = some (.int .i64 x.sn) ∧ w1.drew.cell? ⟨wr.heap.size, 1, none⟩ = some (.bool x.part) ∧ w1.drew.cell? ⟨wr.heap.size, 2, none⟩ = some (.int .i64 x.fr) ∧ w1.drew.cell? ⟨wr.heap.size, 3, none⟩ = some (.int .i64 x.lt) from ⟨z0, z1, y0, y1, y2, y3⟩)
              refine wpAnyE_takeY (i := 0) (v := ?_) rfl (by kernel_rfl) (by kernel_rfl) (by kernel_rfl) (by kernel_rfl) (fun _ _ _ h => h) (Or.inl ⟨by rfl, ?_⟩) hHeld ?_
              rotate_left
              · intro w' hSw
                go_simp
                try with_reducible rfl
              try simp only [Act.put, List.getElem_toArray, List.getElem_cons_zero, List.setIfInBounds_toArray, List.set_cons_zero, List.set_cons_succ]
              refine wpAnyE_take [3] (i := 1) (v := ?_) rfl (by kernel_rfl) (by kernel_rfl) (by kernel_rfl) (by kernel_rfl) (fun _ _ _ h => h) (Or.inl ⟨by rfl, ?_⟩) hHeld ?_
              rotate_left
              · intro w' hSw
                obtain ⟨hS1, hS2, hS3, hS4, hS5, hS6⟩ := hSw
                go_simp
                try with_reducible rfl
              try simp only [Act.put, List.getElem_toArray, List.getElem_cons_zero, List.getElem_cons_succ, List.setIfInBounds_toArray, List.set_cons_zero, List.set_cons_succ]
              refine wpAnyE_take [3] (i := 2) (v := ?_) rfl (by kernel_rfl) (by kernel_rfl) (by kernel_rfl) (by kernel_rfl) (fun _ _ _ h => h) (Or.inl ⟨by rfl, ?_⟩) hHeld ?_
              rotate_left
              · intro w' hSw
                obtain ⟨hS1, hS2, hS3, hS4, hS5, hS6⟩ := hSw
                go_simp
                try with_reducible rfl
              try simp only [Act.put, List.getElem_toArray, List.getElem_cons_zero, List.getElem_cons_succ, List.setIfInBounds_toArray, List.set_cons_zero, List.set_cons_succ]
              refine wpAnyE_one (i := 3) rfl (by kernel_rfl) (by kernel_rfl) (by rfl) (fun K hK => ?_)
              go_simp
              refine (HAL.out _).mono ?_
              rintro e1 w2 ⟨rfl, hb1⟩
              refine hK _ _ ?_
              clear hK K
              try simp only [Act.put, List.getElem_toArray, List.getElem_cons_zero, List.getElem_cons_succ, List.setIfInBounds_toArray, List.set_cons_zero, List.set_cons_succ]
              refine wpAnyE_takeZ (i := 4) (v := ?_) rfl (by kernel_rfl) (by kernel_rfl) (by kernel_rfl) (by kernel_rfl) (fun _ _ _ h => h) (Or.inl ⟨by rfl, ?_⟩) ?_
              rotate_left
              · intro w' hSw
                go_simp
                try with_reducible rfl
              try simp only [Act.put, List.getElem_toArray, List.getElem_cons_zero, List.getElem_cons_succ, List.setIfInBounds_toArray, List.set_cons_zero, List.set_cons_succ]
              refine wpAnyE_takeZ (i := 5) (v := ?_) rfl (by kernel_rfl) (by kernel_rfl) (by kernel_rfl) (by kernel_rfl) (fun _ _ _ h => h) (Or.inl ⟨by rfl, ?_⟩) ?_
              rotate_left
              · intro w' hSw
                go_simp
                try with_reducible rfl
              try simp only [Act.put, List.getElem_toArray, List.getElem_cons_zero, List.getElem_cons_succ, List.setIfInBounds_toArray, List.set_cons_zero, List.set_cons_succ]
              refine wpAnyE_takeZ (i := 6) (v := undef) rfl (by kernel_rfl) (by kernel_rfl) (by kernel_rfl) (by kernel_rfl) (fun _ _ _ h => h) (Or.inr ⟨by rfl, rfl⟩) ?_
              try simp only [Act.put, List.getElem_toArray, List.getElem_cons_zero, List.getElem_cons_succ, List.setIfInBounds_toArray, List.set_cons_zero, List.set_cons_succ]
              refine wpAnyE_takeZ (i := 7) (v := undef) rfl (by kernel_rfl) (by kernel_rfl) (by kernel_rfl) (by kernel_rfl) (fun _ _ _ h => h) (Or.inr ⟨by rfl, rfl⟩) ?_
              try simp only [Act.put, List.getElem_toArray, List.getElem_cons_zero, List.getElem_cons_succ, List.setIfInBounds_toArray, List.set_cons_zero, List.set_cons_succ]
              refine wpAnyE_takeZ (i := 8) (v := undef) rfl (by kernel_rfl) (by kernel_rfl) (by kernel_rfl) (by kernel_rfl) (fun _ _ _ h => h) (Or.inr ⟨by rfl, rfl⟩) ?_
              try simp only [Act.put, List.getElem_toArray, List.getElem_cons_zero, List.getElem_cons_succ, List.setIfInBounds_toArray, List.set_cons_zero, List.set_cons_succ]
              refine wpAnyE_takeZ (i := 9) (v := undef) rfl (by kernel_rfl) (by kernel_rfl) (by kernel_rfl) (by kernel_rfl) (fun _ _ _ h => h) (Or.inr ⟨by rfl, rfl⟩) ?_
              try simp only [Act.put, List.getElem_toArray, List.getElem_cons_zero, List.getElem_cons_succ, List.setIfInBounds_toArray, List.set_cons_zero, List.set_cons_succ]
              refine wpAnyE_takeZ (i := 10) (v := undef) rfl (by kernel_rfl) (by kernel_rfl) (by kernel_rfl) (by kernel_rfl) (fun _ _ _ h => h) (Or.inr ⟨by rfl, rfl⟩) ?_
              try simp only [Act.put, List.getElem_toArray, List.getElem_cons_zero, List.getElem_cons_succ, List.setIfInBounds_toArray, List.set_cons_zero, List.set_cons_succ]
              refine wpAnyE_takeZ (i := 11) (v := undef) rfl (by kernel_rfl) (by kernel_rfl) (by kernel_rfl) (by kernel_rfl) (fun _ _ _ h => h) (Or.inr ⟨by rfl, rfl⟩) ?_
              try simp only [Act.put, List.getElem_toArray, List.getElem_cons_zero, List.getElem_cons_succ, List.setIfInBounds_toArray, List.set_cons_zero, List.set_cons_succ]
              refine wpAnyE_takeZ (i := 12) (v := undef) rfl (by kernel_rfl) (by kernel_rfl) (by kernel_rfl) (by kernel_rfl) (fun _ _ _ h => h) (Or.inr ⟨by rfl, rfl⟩) ?_
              try simp only [Act.put, List.getElem_toArray, List.getElem_cons_zero, List.getElem_cons_succ, List.setIfInBounds_toArray, List.set_cons_zero, List.set_cons_succ]
              refine wpAnyE_takeZ (i := 13) (v := undef) rfl (by kernel_rfl) (by kernel_rfl) (by kernel_rfl) (by kernel_rfl) (fun _ _ _ h => h) (Or.inr ⟨by rfl, rfl⟩) ?_
              try simp only [Act.put, List.getElem_toArray, List.getElem_cons_zero, List.getElem_cons_succ, List.setIfInBounds_toArray, List.set_cons_zero, List.set_cons_succ]
              refine wpAnyE_takeZ (i := 14) (v := undef) rfl (by kernel_rfl) (by kernel_rfl) (by kernel_rfl) (by kernel_rfl) (fun _ _ _ h => h) (Or.inr ⟨by rfl, rfl⟩) ?_
              try simp only [Act.put, List.getElem_toArray, List.getElem_cons_zero, List.getElem_cons_succ, List.setIfInBounds_toArray, List.set_cons_zero, List.set_cons_succ]
              refine wpAnyE_takeZ (i := 15) (v := undef) rfl (by kernel_rfl) (by kernel_rfl) (by kernel_rfl) (by kernel_rfl) (fun _ _ _ h => h) (Or.inr ⟨by rfl, rfl⟩) ?_
              try simp only [Act.put, List.getElem_toArray, List.getElem_cons_zero, List.getElem_cons_succ, List.setIfInBounds_toArray, List.set_cons_zero, List.set_cons_succ]
              refine wpAnyE_takeZ (i := 16) (v := undef) rfl (by kernel_rfl) (by kernel_rfl) (by kernel_rfl) (by kernel_rfl) (fun _ _ _ h => h) (Or.inr ⟨by rfl, rfl⟩) ?_
              try simp only [Act.put, List.getElem_toArray, List.getElem_cons_zero, List.getElem_cons_succ, List.setIfInBounds_toArray, List.set_cons_zero, List.set_cons_succ]
              refine wpAnyE_takeZ (i := 17) (v := undef) rfl (by kernel_rfl) (by kernel_rfl) (by kernel_rfl) (by kernel_rfl) (fun _ _ _ h => h) (Or.inr ⟨by rfl, rfl⟩) ?_
              try simp only [Act.put, List.getElem_toArray, List.getElem_cons_zero, List.getElem_cons_succ, List.setIfInBounds_toArray, List.set_cons_zero, List.set_cons_succ]
              refine wpAnyE_takeZ (i := 18) (v := undef) rfl (by kernel_rfl) (by kernel_rfl) (by kernel_rfl) (by kernel_rfl) (fun _ _ _ h => h) (Or.inr ⟨by rfl, rfl⟩) ?_
              try simp only [Act.put, List.getElem_toArray, List.getElem_cons_zero, List.getElem_cons_succ, List.setIfInBounds_toArray, List.set_cons_zero, List.set_cons_succ]
              refine wpAnyE_takeZ (i := 19) (v := undef) rfl (by kernel_rfl) (by kernel_rfl) (by kernel_rfl) (by kernel_rfl) (fun _ _ _ h => h) (Or.inr ⟨by rfl, rfl⟩) ?_
              try simp only [Act.put, List.getElem_toArray, List.getElem_cons_zero, List.getElem_cons_succ, List.setIfInBounds_toArray, List.set_cons_zero, List.set_cons_succ]
              refine wpAnyE_takeZ (i := 20) (v := undef) rfl (by kernel_rfl) (by kernel_rfl) (by kernel_rfl) (by kernel_rfl) (fun _ _ _ h => h) (Or.inr ⟨by rfl, rfl⟩) ?_
              try simp only [Act.put, List.getElem_toArray, List.getElem_cons_zero, List.getElem_cons_succ, List.setIfInBounds_toArray, List.set_cons_zero, List.set_cons_succ]
              refine wpAnyE_takeZ (i := 21) (v := ?_) rfl (by kernel_rfl) (by kernel_rfl) (by kernel_rfl) (by kernel_rfl) (fun _ _ _ h => h) (Or.inl ⟨by rfl, ?_⟩) ?_
              rotate_left
              · intro w' hSw
                go_simp
                try with_reducible rfl
              try simp only [Act.put, List.getElem_toArray, List.getElem_cons_zero, List.getElem_cons_succ, List.setIfInBounds_toArray, List.set_cons_zero, List.set_cons_succ]
              refine wpAnyE_done (by kernel_rfl) ?_ _
              go_wp2
              go_ret
              exact ⟨rfl, HBW.out.trans (hbW.drew.trans (hb1.mono hbW.drew.size) |>.mono HBW.out.size)⟩
            | true =>
              rw [hA] at HAL
              have HA := Lib.hid hA
              clear hA
              by_cases hk0 : k = 0
              · subst hk0
                refine wp_region_E (fun w' => w'.cell? ⟨w.heap.size, 0, none⟩ = some (.int .i64 ack) ∧ w'.cell? ⟨w.heap.size, 1, none⟩ = some (.slice (some ad) n c) ∧ w'.cell? ⟨wr.heap.size, 0, none⟩ = some (.int .i64 x.sn) ∧ w'.cell? ⟨wr.heap.size, 1, none⟩ = some (.bool x.part) ∧ w'.cell? ⟨wr.heap.size, 2, none⟩ = some (.int .i64 x.fr) ∧ w'.cell? ⟨wr.heap.size, 3, none⟩ = some (.int .i64 x.lt)) [3] (by kernel_rfl) ?_
                have hHeld := (show w1.drew.cell? ⟨w.heap.size, 0, none⟩ = some (.int .i64 ack) ∧ w1.drew.cell? ⟨w.heap.size, 1, none⟩ = some (.slice (some ad) n c) ∧ w1.drew.cell? ⟨wr.heap.size, 0, none⟩ = some (.int .i64 x.sn) ∧ w1.drew.cell? ⟨wr.heap.size, 1, none⟩ = some (.bool x.part) ∧ w1.drew.cell? ⟨wr.heap.size, 2, none⟩ = some (.int .i64 x.fr) ∧ w1.drew.cell? ⟨wr.heap.size, 3, none⟩ = some (.int .i64 x.lt) from ⟨z0, z1, y0, y1, y2, y3⟩)
                refine wpAnyE_takeY (i := 0) (v := ?_) rfl (by kernel_rfl) (by kernel_rfl) (by kernel_rfl) (by kernel_rfl) (fun _ _ _ h => h) (Or.inl ⟨by rfl, ?_⟩) hHeld ?_
                rotate_left
                · intro w' hSw
                  go_simp
                  try with_reducible rfl
                try simp only [Act.put, List.getElem_toArray, List.getElem_cons_zero, List.setIfInBounds_toArray, List.set_cons_zero, List.set_cons_succ]
                refine wpAnyE_take [3] (i := 1) (v := ?_) rfl (by kernel_rfl) (by kernel_rfl) (by kernel_rfl) (by kernel_rfl) (fun _ _ _ h => h) (Or.inl ⟨by rfl, ?_⟩) hHeld ?_
                rotate_left
                · intro w' hSw
                  obtain ⟨hS1, hS2, hS3, hS4, hS5, hS6⟩ := hSw
                  go_simp
                  try with_reducible rfl
                try simp only [Act.put, List.getElem_toArray, List.getElem_cons_zero, List.getElem_cons_succ, List.setIfInBounds_toArray, List.set_cons_zero, List.set_cons_succ]
                refine wpAnyE_take [3] (i := 2) (v := ?_) rfl (by kernel_rfl) (by kernel_rfl) (by kernel_rfl) (by kernel_rfl) (fun _ _ _ h => h) (Or.inl ⟨by rfl, ?_⟩) hHeld ?_
                rotate_left
                · intro w' hSw
                  obtain ⟨hS1, hS2, hS3, hS4, hS5, hS6⟩ := hSw
                  go_simp
                  try with_reducible rfl
                try simp only [Act.put, List.getElem_toArray, List.getElem_cons_zero, List.getElem_cons_succ, List.setIfInBounds_toArray, List.set_cons_zero, List.set_cons_succ]
                refine wpAnyE_one (i := 3) rfl (by kernel_rfl) (by kernel_rfl) (by rfl) (fun K hK => ?_)
                go_simp
                refine (HAL.out _).mono ?_
                rintro e1 w2 ⟨rfl, hb1⟩
                refine hK _ _ ?_
                clear hK K
                try simp only [Act.put, List.getElem_toArray, List.getElem_cons_zero, List.getElem_cons_succ, List.setIfInBounds_toArray, List.set_cons_zero, List.set_cons_succ]
                refine wpAnyE_takeZ (i := 4) (v := ?_) rfl (by kernel_rfl) (by kernel_rfl) (by kernel_rfl) (by kernel_rfl) (fun _ _ _ h => h) (Or.inl ⟨by rfl, ?_⟩) ?_
                rotate_left
                · intro w' hSw
                  go_simp
                  try with_reducible rfl
                try simp only [Act.put, List.getElem_toArray, List.getElem_cons_zero, List.getElem_cons_succ, List.setIfInBounds_toArray, List.set_cons_zero, List.set_cons_succ]
                refine wpAnyE_takeZ (i := 5) (v := ?_) rfl (by kernel_rfl) (by kernel_rfl) (by kernel_rfl) (by kernel_rfl) (fun _ _ _ h => h) (Or.inl ⟨by rfl, ?_⟩) ?_
                rotate_left
                · intro w' hSw
                  go_simp
                  try with_reducible rfl
                try simp only [Act.put, List.getElem_toArray, List.getElem_cons_zero, List.getElem_cons_succ, List.setIfInBounds_toArray, List.set_cons_zero, List.set_cons_succ]
                refine wpAnyE_takeZ (i := 6) (v := ?_) rfl (by kernel_rfl) (by kernel_rfl) (by kernel_rfl) (by kernel_rfl) (fun _ _ _ h => h) (Or.inl ⟨by rfl, ?_⟩) ?_
                rotate_left
                · intro w' hSw
                  go_simp
                  try with_reducible rfl
                try simp only [Act.put, List.getElem_toArray, List.getElem_cons_zero, List.getElem_cons_succ, List.setIfInBounds_toArray, List.set_cons_zero, List.set_cons_succ]
                refine wpAnyE_takeZ (i := 7) (v := ?_) rfl (by kernel_rfl) (by kernel_rfl) (by kernel_rfl) (by kernel_rfl) (fun _ _ _ h => h) (Or.inl ⟨by rfl, ?_⟩) ?_
                rotate_left
                · intro w' hSw
                  go_simp
                  try with_reducible rfl
                try simp only [Act.put, List.getElem_toArray, List.getElem_cons_zero, List.getElem_cons_succ, List.setIfInBounds_toArray, List.set_cons_zero, List.set_cons_succ]
                refine wpAnyE_takeZ (i := 8) (v := ?_) rfl (by kernel_rfl) (by kernel_rfl) (by kernel_rfl) (by kernel_rfl) (fun _ _ _ h => h) (Or.inl ⟨by rfl, ?_⟩) ?_
                rotate_left
                · intro w' hSw
                  go_simp
                  try with_reducible rfl
                try simp only [Act.put, List.getElem_toArray, List.getElem_cons_zero, List.getElem_cons_succ, List.setIfInBounds_toArray, List.set_cons_zero, List.set_cons_succ]
                refine wpAnyE_takeZ (i := 9) (v := undef) rfl (by kernel_rfl) (by kernel_rfl) (by kernel_rfl) (by kernel_rfl) (fun _ _ _ h => h) (Or.inr ⟨by rfl, rfl⟩) ?_
                try simp only [Act.put, List.getElem_toArray, List.getElem_cons_zero, List.getElem_cons_succ, List.setIfInBounds_toArray, List.set_cons_zero, List.set_cons_succ]
                refine wpAnyE_takeZ (i := 10) (v := undef) rfl (by kernel_rfl) (by kernel_rfl) (by kernel_rfl) (by kernel_rfl) (fun _ _ _ h => h) (Or.inr ⟨by rfl, rfl⟩) ?_
                try simp only [Act.put, List.getElem_toArray, List.getElem_cons_zero, List.getElem_cons_succ, List.setIfInBounds_toArray, List.set_cons_zero, List.set_cons_succ]
                refine wpAnyE_takeZ (i := 11) (v := undef) rfl (by kernel_rfl) (by kernel_rfl) (by kernel_rfl) (by kernel_rfl) (fun _ _ _ h => h) (Or.inr ⟨by rfl, rfl⟩) ?_
                try simp only [Act.put, List.getElem_toArray, List.getElem_cons_zero, List.getElem_cons_succ, List.setIfInBounds_toArray, List.set_cons_zero, List.set_cons_succ]
                refine wpAnyE_takeZ (i := 12) (v := undef) rfl (by kernel_rfl) (by kernel_rfl) (by kernel_rfl) (by kernel_rfl) (fun _ _ _ h => h) (Or.inr ⟨by rfl, rfl⟩) ?_
                try simp only [Act.put, List.getElem_toArray, List.getElem_cons_zero, List.getElem_cons_succ, List.setIfInBounds_toArray, List.set_cons_zero, List.set_cons_succ]
                refine wpAnyE_takeZ (i := 13) (v := undef) rfl (by kernel_rfl) (by kernel_rfl) (by kernel_rfl) (by kernel_rfl) (fun _ _ _ h => h) (Or.inr ⟨by rfl, rfl⟩) ?_
                try simp only [Act.put, List.getElem_toArray, List.getElem_cons_zero, List.getElem_cons_succ, List.setIfInBounds_toArray, List.set_cons_zero, List.set_cons_succ]
                refine wpAnyE_takeZ (i := 14) (v := undef) rfl (by kernel_rfl) (by kernel_rfl) (by kernel_rfl) (by kernel_rfl) (fun _ _ _ h => h) (Or.inr ⟨by rfl, rfl⟩) ?_
                try simp only [Act.put, List.getElem_toArray, List.getElem_cons_zero, List.getElem_cons_succ, List.setIfInBounds_toArray, List.set_cons_zero, List.set_cons_succ]
                refine wpAnyE_takeZ (i := 15) (v := undef) rfl (by kernel_rfl) (by kernel_rfl) (by kernel_rfl) (by kernel_rfl) (fun _ _ _ h => h) (Or.inr ⟨by rfl, rfl⟩) ?_
                try simp only [Act.put, List.getElem_toArray, List.getElem_cons_zero, List.getElem_cons_succ, List.setIfInBounds_toArray, List.set_cons_zero, List.set_cons_succ]
                refine wpAnyE_takeZ (i := 16) (v := undef) rfl (by kernel_rfl) (by kernel_rfl) (by kernel_rfl) (by kernel_rfl) (fun _ _ _ h => h) (Or.inr ⟨by rfl, rfl⟩) ?_
                try simp only [Act.put, List.getElem_toArray, List.getElem_cons_zero, List.getElem_cons_succ, List.setIfInBounds_toArray, List.set_cons_zero, List.set_cons_succ]
                refine wpAnyE_takeZ (i := 17) (v := undef) rfl (by kernel_rfl) (by kernel_rfl) (by kernel_rfl) (by kernel_rfl) (fun _ _ _ h => h) (Or.inr ⟨by rfl, rfl⟩) ?_
                try simp only [Act.put, List.getElem_toArray, List.getElem_cons_zero, List.getElem_cons_succ, List.setIfInBounds_toArray, List.set_cons_zero, List.set_cons_succ]
                refine wpAnyE_takeZ (i := 18) (v := undef) rfl (by kernel_rfl) (by kernel_rfl) (by kernel_rfl) (by kernel_rfl) (fun _ _ _ h => h) (Or.inr ⟨by rfl, rfl⟩) ?_
                try simp only [Act.put, List.getElem_toArray, List.getElem_cons_zero, List.getElem_cons_succ, List.setIfInBounds_toArray, List.set_cons_zero, List.set_cons_succ]
                refine wpAnyE_takeZ (i := 19) (v := undef) rfl (by kernel_rfl) (by kernel_rfl) (by kernel_rfl) (by kernel_rfl) (fun _ _ _ h => h) (Or.inr ⟨by rfl, rfl⟩) ?_
                try simp only [Act.put, List.getElem_toArray, List.getElem_cons_zero, List.getElem_cons_succ, List.setIfInBounds_toArray, List.set_cons_zero, List.set_cons_succ]
                refine wpAnyE_takeZ (i := 20) (v := ?_) rfl (by kernel_rfl) (by kernel_rfl) (by kernel_rfl) (by kernel_rfl) (fun _ _ _ h => h) (Or.inl ⟨by rfl, ?_⟩) ?_
                rotate_left
                · intro w' hSw
                  go_simp
                  try with_reducible rfl
                try simp only [Act.put, List.getElem_toArray, List.getElem_cons_zero, List.getElem_cons_succ, List.setIfInBounds_toArray, List.set_cons_zero, List.set_cons_succ]
                refine wpAnyE_takeZ (i := 21) (v := ?_) rfl (by kernel_rfl) (by kernel_rfl) (by kernel_rfl) (by kernel_rfl) (fun _ _ _ h => h) (Or.inl ⟨by rfl, ?_⟩) ?_
                rotate_left
                · intro w' hSw
                  go_simp
                  try with_reducible rfl
                try simp only [Act.put, List.getElem_toArray, List.getElem_cons_zero, List.getElem_cons_succ, List.setIfInBounds_toArray, List.set_cons_zero, List.set_cons_succ]
                refine wpAnyE_done (by kernel_rfl) ?_ _
                go_wp2
                go_roundw
                case rel =>
                  refine ⟨1, by omega, rfl, hbW.drew.trans (hb1.mono hbW.drew.size), fun j hj m hm => ?_⟩
                  obtain rfl : j = 0 := by omega
                  rw [HX.out] at hm
                  cases hm
                  exact ⟨HA.out, fun _ h0 => by omega⟩
                case measure => simp [intOf]; omega
              · obtain ⟨k, rfl⟩ : ∃ k', k = k' + 1 := ⟨k - 1, by omega⟩
                obtain ⟨m, hm⟩ : ∃ m, l[k]? = some m := ⟨_, List.getElem?_eq_getElem (by have := HL.out; omega)⟩
                obtain ⟨ad', had', hadb', hcl'⟩ := HNW.out.at_ (by omega)
                cases had'
                obtain ⟨m0, m1, m2, m3⟩ := hcl' k m hm
                have hS : ∀ W, Below w1.heap.size w1 W → W.cell? ⟨w.heap.size, 0, none⟩ = some (.int .i64 ack) ∧ W.cell? ⟨w.heap.size, 1, none⟩ = some (.slice (some ad) n c) ∧ W.cell? ⟨wr.heap.size, 0, none⟩ = some (.int .i64 x.sn) ∧ W.cell? ⟨wr.heap.size, 1, none⟩ = some (.bool x.part) ∧ W.cell? ⟨wr.heap.size, 2, none⟩ = some (.int .i64 x.fr) ∧ W.cell? ⟨wr.heap.size, 3, none⟩ = some (.int .i64 x.lt) ∧ W.cell? (ad.add (k * 4)) = some (.int .i64 m.sn) ∧ W.cell? ⟨(ad.add (k * 4)).block, (ad.add (k * 4)).off + 1, none⟩ = some (.bool m.part) ∧ W.cell? ⟨(ad.add (k * 4)).block, (ad.add (k * 4)).off + 2, none⟩ = some (.int .i64 m.fr) ∧ W.cell? ⟨(ad.add (k * 4)).block, (ad.add (k * 4)).off + 3, none⟩ = some (.int .i64 m.lt) := fun W hW => by
                  have hbk : (ad.add (k * 4)).block < w1.heap.size := by rw [block_add]; exact hadb'
                  exact ⟨(hW.cell (p := ⟨w.heap.size, 0, none⟩) hlt0).trans z0, (hW.cell (p := ⟨w.heap.size, 1, none⟩) hlt0).trans z1, (hW.cell (p := ⟨wr.heap.size, 0, none⟩) hlt1).trans y0, (hW.cell (p := ⟨wr.heap.size, 1, none⟩) hlt1).trans y1, (hW.cell (p := ⟨wr.heap.size, 2, none⟩) hlt1).trans y2, (hW.cell (p := ⟨wr.heap.size, 3, none⟩) hlt1).trans y3,
                    (hW.cell hbk).trans m0, (hW.cell (p := ⟨(ad.add (k * 4)).block, _, none⟩) hbk).trans m1, (hW.cell (p := ⟨(ad.add (k * 4)).block, _, none⟩) hbk).trans m2, (hW.cell (p := ⟨(ad.add (k * 4)).block, _, none⟩) hbk).trans m3⟩
                have HS := Lib.hid hS
                have hfo := fun (W : World) => sfollows_any W ack m x
                have HFO := Lib.hid hfo
                have HM := Lib.hid hm
                have hkn : (k : Int) < n := by omega
                have hkn0 : (0 : Int) ≤ k := by omega
                have hwk : IntKind.i64.wrap (k : Int) = (k : Int) := IntWalk.i64_in _ (by omega)
                clear hS hfo hm hcl' m0 m1 m2 m3 z0 z1 y0 y1 y2 y3
                unfold nkC at HFO
                cases hF : followsP ack m x with
                | false =>
                  rw [hF] at HFO
                  have hRf : R = false := by
                    rw [← HR2.out, ← Bool.not_eq_true, chainP_iff]
                    intro hh
                    have := (hh (k + 1) x HX.out).2 m (by omega) HM.out
                    rw [hF] at this
                    cases this
                  subst hRf
                  have HF := Lib.hid hF
                  clear hF
                  refine wp_region_E (fun w' => w'.cell? ⟨w.heap.size, 0, none⟩ = some (.int .i64 ack) ∧ w'.cell? ⟨w.heap.size, 1, none⟩ = some (.slice (some ad) n c) ∧ w'.cell? ⟨wr.heap.size, 0, none⟩ = some (.int .i64 x.sn) ∧ w'.cell? ⟨wr.heap.size, 1, none⟩ = some (.bool x.part) ∧ w'.cell? ⟨wr.heap.size, 2, none⟩ = some (.int .i64 x.fr) ∧ w'.cell? ⟨wr.heap.size, 3, none⟩ = some (.int .i64 x.lt) ∧ w'.cell? (ad.add (k * 4)) = some (.int .i64 m.sn) ∧ w'.cell? ⟨(ad.add (k * 4)).block, (ad.add (k * 4)).off + 1, none⟩ = some (.bool m.part) ∧ w'.cell? ⟨(ad.add (k * 4)).block, (ad.add (k * 4)).off + 2, none⟩ = some (.int .i64 m.fr) ∧ w'.cell? ⟨(ad.add (k * 4)).block, (ad.add (k * 4)).off + 3, none⟩ = some (.int .i64 m.lt)) [18] (by kernel_rfl) ?_
                  have hHeld := HS.out _ (Below.refl w1.heap.size w1).drew
                  refine wpAnyE_takeY (i := 0) (v := ?_) rfl (by kernel_rfl) (by kernel_rfl) (by kernel_rfl) (by kernel_rfl) (fun _ _ _ h => h) (Or.inl ⟨by rfl, ?_⟩) hHeld ?_
                  rotate_left
                  · intro w' hSw
                    go_simp
                    try with_reducible rfl
                  try simp only [Act.put, List.getElem_toArray, List.getElem_cons_zero, List.setIfInBounds_toArray, List.set_cons_zero, List.set_cons_succ]
                  refine wpAnyE_take [18, 8, 5, 4, 3] (i := 1) (v := ?_) rfl (by kernel_rfl) (by kernel_rfl) (by kernel_rfl) (by kernel_rfl) (fun _ _ _ h => h) (Or.inl ⟨by rfl, ?_⟩) hHeld ?_
                  rotate_left
                  · intro w' hSw
                    obtain ⟨hS1, hS2, hS3, hS4, hS5, hS6, hS7, hS8, hS9, hS10⟩ := hSw
                    go_simp
                    try with_reducible rfl
                  try simp only [Act.put, List.getElem_toArray, List.getElem_cons_zero, List.getElem_cons_succ, List.setIfInBounds_toArray, List.set_cons_zero, List.set_cons_succ]
                  refine wpAnyE_take [18, 8, 5, 4, 3] (i := 2) (v := ?_) rfl (by kernel_rfl) (by kernel_rfl) (by kernel_rfl) (by kernel_rfl) (fun _ _ _ h => h) (Or.inl ⟨by rfl, ?_⟩) hHeld ?_
                  rotate_left
                  · intro w' hSw
                    obtain ⟨hS1, hS2, hS3, hS4, hS5, hS6, hS7, hS8, hS9, hS10⟩ := hSw
                    go_simp
                    try with_reducible rfl
                  try simp only [Act.put, List.getElem_toArray, List.getElem_cons_zero, List.getElem_cons_succ, List.setIfInBounds_toArray, List.set_cons_zero, List.set_cons_succ]
                  refine wpAnyE_oneS (i := 3) rfl (by kernel_rfl) (by rfl) (fun K hK => ?_)
                  go_simp
                  refine (HAL.out _).mono ?_
                  rintro e1 w2 ⟨rfl, hb1⟩
                  have hbx : Below w1.heap.size w1 w2 := (Below.refl w1.heap.size w1).drew.trans hb1
                  refine hK _ _ (HS.out _ hbx) ?_
                  clear hK K hHeld
                  have hHeld := (HS.out _ hbx)
                  try simp only [Act.put, List.getElem_toArray, List.getElem_cons_zero, List.getElem_cons_succ, List.setIfInBounds_toArray, List.set_cons_zero, List.set_cons_succ]
                  refine wpAnyE_takeY (i := 4) (v := ?_) rfl (by kernel_rfl) (by kernel_rfl) (by kernel_rfl) (by kernel_rfl) (fun _ _ _ h => h) (Or.inl ⟨by rfl, ?_⟩) hHeld ?_
                  rotate_left
                  · intro w' hSw
                    go_simp
                    try with_reducible rfl
                  try simp only [Act.put, List.getElem_toArray, List.getElem_cons_zero, List.getElem_cons_succ, List.setIfInBounds_toArray, List.set_cons_zero, List.set_cons_succ]
                  refine wpAnyE_takeY (i := 5) (v := ?_) rfl (by kernel_rfl) (by kernel_rfl) (by kernel_rfl) (by kernel_rfl) (fun _ _ _ h => h) (Or.inl ⟨by rfl, ?_⟩) hHeld ?_
                  rotate_left
                  · intro w' hSw
                    go_simp
                    try with_reducible rfl
                  try simp only [Act.put, List.getElem_toArray, List.getElem_cons_zero, List.getElem_cons_succ, List.setIfInBounds_toArray, List.set_cons_zero, List.set_cons_succ]
                  refine wpAnyE_takeY (i := 6) (v := ?_) rfl (by kernel_rfl) (by kernel_rfl) (by kernel_rfl) (by kernel_rfl) (fun _ _ _ h => h) (Or.inl ⟨by rfl, ?_⟩) hHeld ?_
                  rotate_left
                  · intro w' hSw
                    go_simp
                    try with_reducible rfl
                  try simp only [Act.put, List.getElem_toArray, List.getElem_cons_zero, List.getElem_cons_succ, List.setIfInBounds_toArray, List.set_cons_zero, List.set_cons_succ]
                  refine wpAnyE_takeY (i := 7) (v := ?_) rfl (by kernel_rfl) (by kernel_rfl) (by kernel_rfl) (by kernel_rfl) (fun _ _ _ h => h) (Or.inl ⟨by rfl, ?_⟩) hHeld ?_
                  rotate_left
                  · intro w' hSw
                    go_simp
                    try with_reducible rfl
                  try simp only [Act.put, List.getElem_toArray, List.getElem_cons_zero, List.getElem_cons_succ, List.setIfInBounds_toArray, List.set_cons_zero, List.set_cons_succ]
                  refine wpAnyE_takeY (i := 8) (v := ?_) rfl (by kernel_rfl) (by kernel_rfl) (by kernel_rfl) (by kernel_rfl) (fun _ _ _ h => h) (Or.inl ⟨by rfl, ?_⟩) hHeld ?_
                  rotate_left
                  · intro w' hSw
                    go_simp
                    try with_reducible rfl
                  try simp only [Act.put, List.getElem_toArray, List.getElem_cons_zero, List.getElem_cons_succ, List.setIfInBounds_toArray, List.set_cons_zero, List.set_cons_succ]
                  refine wpAnyE_takeY (i := 9) (v := ?_) rfl (by kernel_rfl) (by kernel_rfl) (by kernel_rfl) (by kernel_rfl) (fun _ _ _ h => h) (Or.inl ⟨by rfl, ?_⟩) hHeld ?_
                  rotate_left
                  · intro w' hSw
                    go_simp
                    try with_reducible rfl
                  try simp only [Act.put, List.getElem_toArray, List.getElem_cons_zero, List.getElem_cons_succ, List.setIfInBounds_toArray, List.set_cons_zero, List.set_cons_succ]
                  refine wpAnyE_take [18] (i := 10) (v := ?_) rfl (by kernel_rfl) (by kernel_rfl) (by kernel_rfl) (by kernel_rfl) (fun _ _ _ h => h) (Or.inl ⟨by rfl, ?_⟩) hHeld ?_
                  rotate_left
                  · intro w' hSw
                    obtain ⟨hS1, hS2, hS3, hS4, hS5, hS6, hS7, hS8, hS9, hS10⟩ := hSw
                    go_simp
                    try with_reducible rfl
                  try simp only [Act.put, List.getElem_toArray, List.getElem_cons_zero, List.getElem_cons_succ, List.setIfInBounds_toArray, List.set_cons_zero, List.set_cons_succ]
                  refine wpAnyE_takeY (i := 11) (v := ?_) rfl (by kernel_rfl) (by kernel_rfl) (by kernel_rfl) (by kernel_rfl) (fun _ _ _ h => h) (Or.inl ⟨by rfl, ?_⟩) hHeld ?_
                  rotate_left
                  · intro w' hSw
                    go_simp
                    try with_reducible rfl
                  try simp only [Act.put, List.getElem_toArray, List.getElem_cons_zero, List.getElem_cons_succ, List.setIfInBounds_toArray, List.set_cons_zero, List.set_cons_succ]
                  refine wpAnyE_take [18, 16, 15] (i := 12) (v := ?_) rfl (by kernel_rfl) (by kernel_rfl) (by kernel_rfl) (by kernel_rfl) (fun _ _ _ h => h) (Or.inl ⟨by rfl, ?_⟩) hHeld ?_
                  rotate_left
                  · intro w' hSw
                    obtain ⟨hS1, hS2, hS3, hS4, hS5, hS6, hS7, hS8, hS9, hS10⟩ := hSw
                    go_simp
                    try with_reducible rfl
                  try simp only [Act.put, List.getElem_toArray, List.getElem_cons_zero, List.getElem_cons_succ, List.setIfInBounds_toArray, List.set_cons_zero, List.set_cons_succ]
                  refine wpAnyE_takeY (i := 13) (v := ?_) rfl (by kernel_rfl) (by kernel_rfl) (by kernel_rfl) (by kernel_rfl) (fun _ _ _ h => h) (Or.inl ⟨by rfl, ?_⟩) hHeld ?_
                  rotate_left
                  · intro w' hSw
                    go_simp
                    try with_reducible rfl
                  try simp only [Act.put, List.getElem_toArray, List.getElem_cons_zero, List.getElem_cons_succ, List.setIfInBounds_toArray, List.set_cons_zero, List.set_cons_succ]
                  refine wpAnyE_takeY (i := 14) (v := ?_) rfl (by kernel_rfl) (by kernel_rfl) (by kernel_rfl) (by kernel_rfl) (fun _ _ _ h => h) (Or.inl ⟨by rfl, ?_⟩) hHeld ?_
                  rotate_left
                  · intro w' hSw
                    go_simp
                    try with_reducible rfl
                  try simp only [Act.put, List.getElem_toArray, List.getElem_cons_zero, List.getElem_cons_succ, List.setIfInBounds_toArray, List.set_cons_zero, List.set_cons_succ]
                  refine wpAnyE_takeY (i := 15) (v := ?_) rfl (by kernel_rfl) (by kernel_rfl) (by kernel_rfl) (by kernel_rfl) (fun _ _ _ h => h) (Or.inl ⟨by rfl, ?_⟩) hHeld ?_
                  rotate_left
                  · intro w' hSw
                    go_simp
                    try with_reducible rfl
                  try simp only [Act.put, List.getElem_toArray, List.getElem_cons_zero, List.getElem_cons_succ, List.setIfInBounds_toArray, List.set_cons_zero, List.set_cons_succ]
                  refine wpAnyE_take [18] (i := 16) (v := ?_) rfl (by kernel_rfl) (by kernel_rfl) (by kernel_rfl) (by kernel_rfl) (fun _ _ _ h => h) (Or.inl ⟨by rfl, ?_⟩) hHeld ?_
                  rotate_left
                  · intro w' hSw
                    obtain ⟨hS1, hS2, hS3, hS4, hS5, hS6, hS7, hS8, hS9, hS10⟩ := hSw
                    go_simp
                    try with_reducible rfl
                  try simp only [Act.put, List.getElem_toArray, List.getElem_cons_zero, List.getElem_cons_succ, List.setIfInBounds_toArray, List.set_cons_zero, List.set_cons_succ]
                  refine wpAnyE_take [18] (i := 17) (v := ?_) rfl (by kernel_rfl) (by kernel_rfl) (by kernel_rfl) (by kernel_rfl) (fun _ _ _ h => h) (Or.inl ⟨by rfl, ?_⟩) hHeld ?_
                  rotate_left
                  · intro w' hSw
                    obtain ⟨hS1, hS2, hS3, hS4, hS5, hS6, hS7, hS8, hS9, hS10⟩ := hSw
                    go_simp
                    try with_reducible rfl
                  try simp only [Act.put, List.getElem_toArray, List.getElem_cons_zero, List.getElem_cons_succ, List.setIfInBounds_toArray, List.set_cons_zero, List.set_cons_succ]
                  refine wpAnyE_one (i := 18) rfl (by kernel_rfl) (by kernel_rfl) (by rfl) (fun K hK => ?_)
                  go_simp
                  refine (HFO.out _).mono ?_
                  rintro e2 w3 ⟨rfl, hb2⟩
                  refine hK _ _ ?_
                  clear hK K
                  try simp only [Act.put, List.getElem_toArray, List.getElem_cons_zero, List.getElem_cons_succ, List.setIfInBounds_toArray, List.set_cons_zero, List.set_cons_succ]
                  refine wpAnyE_takeZ (i := 19) (v := ?_) rfl (by kernel_rfl) (by kernel_rfl) (by kernel_rfl) (by kernel_rfl) (fun _ _ _ h => h) (Or.inl ⟨by rfl, ?_⟩) ?_
                  rotate_left
                  · intro w' hSw
                    go_simp
                    try with_reducible rfl
                  try simp only [Act.put, List.getElem_toArray, List.getElem_cons_zero, List.getElem_cons_succ, List.setIfInBounds_toArray, List.set_cons_zero, List.set_cons_succ]
                  refine wpAnyE_takeZ (i := 20) (v := ?_) rfl (by kernel_rfl) (by kernel_rfl) (by kernel_rfl) (by kernel_rfl) (fun _ _ _ h => h) (Or.inl ⟨by rfl, ?_⟩) ?_
                  rotate_left
                  · intro w' hSw
                    go_simp
                    try with_reducible rfl
                  try simp only [Act.put, List.getElem_toArray, List.getElem_cons_zero, List.getElem_cons_succ, List.setIfInBounds_toArray, List.set_cons_zero, List.set_cons_succ]
                  refine wpAnyE_takeZ (i := 21) (v := ?_) rfl (by kernel_rfl) (by kernel_rfl) (by kernel_rfl) (by kernel_rfl) (fun _ _ _ h => h) (Or.inl ⟨by rfl, ?_⟩) ?_
                  rotate_left
                  · intro w' hSw
                    go_simp
                    try with_reducible rfl
                  try simp only [Act.put, List.getElem_toArray, List.getElem_cons_zero, List.getElem_cons_succ, List.setIfInBounds_toArray, List.set_cons_zero, List.set_cons_succ]
                  refine wpAnyE_done (by kernel_rfl) ?_ _
                  clear hwk
                  go_wp2
                  go_ret
                  have hbz : Below w1.heap.size w1 w3 := hbx.trans (hb2.mono hbx.size)
                  exact ⟨rfl, HBW.out.trans ((hbW.trans (hbz.mono hbW.size)).mono HBW.out.size)⟩
                | true =>
                  rw [hF] at HFO
                  have HF := Lib.hid hF
                  clear hF
                  refine wp_region_E (fun w' => w'.cell? ⟨w.heap.size, 0, none⟩ = some (.int .i64 ack) ∧ w'.cell? ⟨w.heap.size, 1, none⟩ = some (.slice (some ad) n c) ∧ w'.cell? ⟨wr.heap.size, 0, none⟩ = some (.int .i64 x.sn) ∧ w'.cell? ⟨wr.heap.size, 1, none⟩ = some (.bool x.part) ∧ w'.cell? ⟨wr.heap.size, 2, none⟩ = some (.int .i64 x.fr) ∧ w'.cell? ⟨wr.heap.size, 3, none⟩ = some (.int .i64 x.lt) ∧ w'.cell? (ad.add (k * 4)) = some (.int .i64 m.sn) ∧ w'.cell? ⟨(ad.add (k * 4)).block, (ad.add (k * 4)).off + 1, none⟩ = some (.bool m.part) ∧ w'.cell? ⟨(ad.add (k * 4)).block, (ad.add (k * 4)).off + 2, none⟩ = some (.int .i64 m.fr) ∧ w'.cell? ⟨(ad.add (k * 4)).block, (ad.add (k * 4)).off + 3, none⟩ = some (.int .i64 m.lt)) [18] (by kernel_rfl) ?_
                  have hHeld := HS.out _ (Below.refl w1.heap.size w1).drew
                  refine wpAnyE_takeY (i := 0) (v := ?_) rfl (by kernel_rfl) (by kernel_rfl) (by kernel_rfl) (by kernel_rfl) (fun _ _ _ h => h) (Or.inl ⟨by rfl, ?_⟩) hHeld ?_
                  rotate_left
                  · intro w' hSw
                    go_simp
                    try with_reducible rfl
                  try simp only [Act.put, List.getElem_toArray, List.getElem_cons_zero, List.setIfInBounds_toArray, List.set_cons_zero, List.set_cons_succ]
                  refine wpAnyE_take [18, 8, 5, 4, 3] (i := 1) (v := ?_) rfl (by kernel_rfl) (by kernel_rfl) (by kernel_rfl) (by kernel_rfl) (fun _ _ _ h => h) (Or.inl ⟨by rfl, ?_⟩) hHeld ?_
                  rotate_left
                  · intro w' hSw
                    obtain ⟨hS1, hS2, hS3, hS4, hS5, hS6, hS7, hS8, hS9, hS10⟩ := hSw
                    go_simp
                    try with_reducible rfl
                  try simp only [Act.put, List.getElem_toArray, List.getElem_cons_zero, List.getElem_cons_succ, List.setIfInBounds_toArray, List.set_cons_zero, List.set_cons_succ]
                  refine wpAnyE_take [18, 8, 5, 4, 3] (i := 2) (v := ?_) rfl (by kernel_rfl) (by kernel_rfl) (by kernel_rfl) (by kernel_rfl) (fun _ _ _ h => h) (Or.inl ⟨by rfl, ?_⟩) hHeld ?_
                  rotate_left
                  · intro w' hSw
                    obtain ⟨hS1, hS2, hS3, hS4, hS5, hS6, hS7, hS8, hS9, hS10⟩ := hSw
                    go_simp
                    try with_reducible rfl
                  try simp only [Act.put, List.getElem_toArray, List.getElem_cons_zero, List.getElem_cons_succ, List.setIfInBounds_toArray, List.set_cons_zero, List.set_cons_succ]
                  refine wpAnyE_oneS (i := 3) rfl (by kernel_rfl) (by rfl) (fun K hK => ?_)
                  go_simp
                  refine (HAL.out _).mono ?_
                  rintro e1 w2 ⟨rfl, hb1⟩
                  have hbx : Below w1.heap.size w1 w2 := (Below.refl w1.heap.size w1).drew.trans hb1
                  refine hK _ _ (HS.out _ hbx) ?_
                  clear hK K hHeld
                  have hHeld := (HS.out _ hbx)
                  try simp only [Act.put, List.getElem_toArray, List.getElem_cons_zero, List.getElem_cons_succ, List.setIfInBounds_toArray, List.set_cons_zero, List.set_cons_succ]
                  refine wpAnyE_takeY (i := 4) (v := ?_) rfl (by kernel_rfl) (by kernel_rfl) (by kernel_rfl) (by kernel_rfl) (fun _ _ _ h => h) (Or.inl ⟨by rfl, ?_⟩) hHeld ?_
                  rotate_left
                  · intro w' hSw
                    go_simp
                    try with_reducible rfl
                  try simp only [Act.put, List.getElem_toArray, List.getElem_cons_zero, List.getElem_cons_succ, List.setIfInBounds_toArray, List.set_cons_zero, List.set_cons_succ]
                  refine wpAnyE_takeY (i := 5) (v := ?_) rfl (by kernel_rfl) (by kernel_rfl) (by kernel_rfl) (by kernel_rfl) (fun _ _ _ h => h) (Or.inl ⟨by rfl, ?_⟩) hHeld ?_
                  rotate_left
                  · intro w' hSw
                    go_simp
                    try with_reducible rfl
                  try simp only [Act.put, List.getElem_toArray, List.getElem_cons_zero, List.getElem_cons_succ, List.setIfInBounds_toArray, List.set_cons_zero, List.set_cons_succ]
                  refine wpAnyE_takeY (i := 6) (v := ?_) rfl (by kernel_rfl) (by kernel_rfl) (by kernel_rfl) (by kernel_rfl) (fun _ _ _ h => h) (Or.inl ⟨by rfl, ?_⟩) hHeld ?_
                  rotate_left
                  · intro w' hSw
                    go_simp
                    try with_reducible rfl
                  try simp only [Act.put, List.getElem_toArray, List.getElem_cons_zero, List.getElem_cons_succ, List.setIfInBounds_toArray, List.set_cons_zero, List.set_cons_succ]
                  refine wpAnyE_takeY (i := 7) (v := ?_) rfl (by kernel_rfl) (by kernel_rfl) (by kernel_rfl) (by kernel_rfl) (fun _ _ _ h => h) (Or.inl ⟨by rfl, ?_⟩) hHeld ?_
                  rotate_left
                  · intro w' hSw
                    go_simp
                    try with_reducible rfl
                  try simp only [Act.put, List.getElem_toArray, List.getElem_cons_zero, List.getElem_cons_succ, List.setIfInBounds_toArray, List.set_cons_zero, List.set_cons_succ]
                  refine wpAnyE_takeY (i := 8) (v := ?_) rfl (by kernel_rfl) (by kernel_rfl) (by kernel_rfl) (by kernel_rfl) (fun _ _ _ h => h) (Or.inl ⟨by rfl, ?_⟩) hHeld ?_
                  rotate_left
                  · intro w' hSw
                    go_simp
                    try with_reducible rfl
                  try simp only [Act.put, List.getElem_toArray, List.getElem_cons_zero, List.getElem_cons_succ, List.setIfInBounds_toArray, List.set_cons_zero, List.set_cons_succ]
                  refine wpAnyE_takeY (i := 9) (v := ?_) rfl (by kernel_rfl) (by kernel_rfl) (by kernel_rfl) (by kernel_rfl) (fun _ _ _ h => h) (Or.inl ⟨by rfl, ?_⟩) hHeld ?_
                  rotate_left
                  · intro w' hSw
                    go_simp
                    try with_reducible rfl
                  try simp only [Act.put, List.getElem_toArray, List.getElem_cons_zero, List.getElem_cons_succ, List.setIfInBounds_toArray, List.set_cons_zero, List.set_cons_succ]
                  refine wpAnyE_take [18] (i := 10) (v := ?_) rfl (by kernel_rfl) (by kernel_rfl) (by kernel_rfl) (by kernel_rfl) (fun _ _ _ h => h) (Or.inl ⟨by rfl, ?_⟩) hHeld ?_
                  rotate_left
                  · intro w' hSw
                    obtain ⟨hS1, hS2, hS3, hS4, hS5, hS6, hS7, hS8, hS9, hS10⟩ := hSw
                    go_simp
                    try with_reducible rfl
                  try simp only [Act.put, List.getElem_toArray, List.getElem_cons_zero, List.getElem_cons_succ, List.setIfInBounds_toArray, List.set_cons_zero, List.set_cons_succ]
                  refine wpAnyE_takeY (i := 11) (v := ?_) rfl (by kernel_rfl) (by kernel_rfl) (by kernel_rfl) (by kernel_rfl) (fun _ _ _ h => h) (Or.inl ⟨by rfl, ?_⟩) hHeld ?_
                  rotate_left
                  · intro w' hSw
                    go_simp
                    try with_reducible rfl
                  try simp only [Act.put, List.getElem_toArray, List.getElem_cons_zero, List.getElem_cons_succ, List.setIfInBounds_toArray, List.set_cons_zero, List.set_cons_succ]
                  refine wpAnyE_take [18, 16, 15] (i := 12) (v := ?_) rfl (by kernel_rfl) (by kernel_rfl) (by kernel_rfl) (by kernel_rfl) (fun _ _ _ h => h) (Or.inl ⟨by rfl, ?_⟩) hHeld ?_
                  rotate_left
                  · intro w' hSw
                    obtain ⟨hS1, hS2, hS3, hS4, hS5, hS6, hS7, hS8, hS9, hS10⟩ := hSw
                    go_simp
                    try with_reducible rfl
                  try simp only [Act.put, List.getElem_toArray, List.getElem_cons_zero, List.getElem_cons_succ, List.setIfInBounds_toArray, List.set_cons_zero, List.set_cons_succ]
                  refine wpAnyE_takeY (i := 13) (v := ?_) rfl (by kernel_rfl) (by kernel_rfl) (by kernel_rfl) (by kernel_rfl) (fun _ _ _ h => h) (Or.inl ⟨by rfl, ?_⟩) hHeld ?_
                  rotate_left
                  · intro w' hSw
                    go_simp
                    try with_reducible rfl
                  try simp only [Act.put, List.getElem_toArray, List.getElem_cons_zero, List.getElem_cons_succ, List.setIfInBounds_toArray, List.set_cons_zero, List.set_cons_succ]
                  refine wpAnyE_takeY (i := 14) (v := ?_) rfl (by kernel_rfl) (by kernel_rfl) (by kernel_rfl) (by kernel_rfl) (fun _ _ _ h => h) (Or.inl ⟨by rfl, ?_⟩) hHeld ?_
                  rotate_left
                  · intro w' hSw
                    go_simp
                    try with_reducible rfl
                  try simp only [Act.put, List.getElem_toArray, List.getElem_cons_zero, List.getElem_cons_succ, List.setIfInBounds_toArray, List.set_cons_zero, List.set_cons_succ]
                  refine wpAnyE_takeY (i := 15) (v := ?_) rfl (by kernel_rfl) (by kernel_rfl) (by kernel_rfl) (by kernel_rfl) (fun _ _ _ h => h) (Or.inl ⟨by rfl, ?_⟩) hHeld ?_
                  rotate_left
                  · intro w' hSw
                    go_simp
                    try with_reducible rfl
                  try simp only [Act.put, List.getElem_toArray, List.getElem_cons_zero, List.getElem_cons_succ, List.setIfInBounds_toArray, List.set_cons_zero, List.set_cons_succ]
                  refine wpAnyE_take [18] (i := 16) (v := ?_) rfl (by kernel_rfl) (by kernel_rfl) (by kernel_rfl) (by kernel_rfl) (fun _ _ _ h => h) (Or.inl ⟨by rfl, ?_⟩) hHeld ?_
                  rotate_left
                  · intro w' hSw
                    obtain ⟨hS1, hS2, hS3, hS4, hS5, hS6, hS7, hS8, hS9, hS10⟩ := hSw
                    go_simp
                    try with_reducible rfl
                  try simp only [Act.put, List.getElem_toArray, List.getElem_cons_zero, List.getElem_cons_succ, List.setIfInBounds_toArray, List.set_cons_zero, List.set_cons_succ]
                  refine wpAnyE_take [18] (i := 17) (v := ?_) rfl (by kernel_rfl) (by kernel_rfl) (by kernel_rfl) (by kernel_rfl) (fun _ _ _ h => h) (Or.inl ⟨by rfl, ?_⟩) hHeld ?_
                  rotate_left
                  · intro w' hSw
                    obtain ⟨hS1, hS2, hS3, hS4, hS5, hS6, hS7, hS8, hS9, hS10⟩ := hSw
                    go_simp
                    try with_reducible rfl
                  try simp only [Act.put, List.getElem_toArray, List.getElem_cons_zero, List.getElem_cons_succ, List.setIfInBounds_toArray, List.set_cons_zero, List.set_cons_succ]
                  refine wpAnyE_one (i := 18) rfl (by kernel_rfl) (by kernel_rfl) (by rfl) (fun K hK => ?_)
                  go_simp
                  refine (HFO.out _).mono ?_
                  rintro e2 w3 ⟨rfl, hb2⟩
                  refine hK _ _ ?_
                  clear hK K
                  try simp only [Act.put, List.getElem_toArray, List.getElem_cons_zero, List.getElem_cons_succ, List.setIfInBounds_toArray, List.set_cons_zero, List.set_cons_succ]
                  refine wpAnyE_takeZ (i := 19) (v := ?_) rfl (by kernel_rfl) (by kernel_rfl) (by kernel_rfl) (by kernel_rfl) (fun _ _ _ h => h) (Or.inl ⟨by rfl, ?_⟩) ?_
                  rotate_left
                  · intro w' hSw
                    go_simp
                    try with_reducible rfl
                  try simp only [Act.put, List.getElem_toArray, List.getElem_cons_zero, List.getElem_cons_succ, List.setIfInBounds_toArray, List.set_cons_zero, List.set_cons_succ]
                  refine wpAnyE_takeZ (i := 20) (v := ?_) rfl (by kernel_rfl) (by kernel_rfl) (by kernel_rfl) (by kernel_rfl) (fun _ _ _ h => h) (Or.inl ⟨by rfl, ?_⟩) ?_
                  rotate_left
                  · intro w' hSw
                    go_simp
                    try with_reducible rfl
                  try simp only [Act.put, List.getElem_toArray, List.getElem_cons_zero, List.getElem_cons_succ, List.setIfInBounds_toArray, List.set_cons_zero, List.set_cons_succ]
                  refine wpAnyE_takeZ (i := 21) (v := ?_) rfl (by kernel_rfl) (by kernel_rfl) (by kernel_rfl) (by kernel_rfl) (fun _ _ _ h => h) (Or.inl ⟨by rfl, ?_⟩) ?_
                  rotate_left
                  · intro w' hSw
                    go_simp
                    try with_reducible rfl
                  try simp only [Act.put, List.getElem_toArray, List.getElem_cons_zero, List.getElem_cons_succ, List.setIfInBounds_toArray, List.set_cons_zero, List.set_cons_succ]
                  refine wpAnyE_done (by kernel_rfl) ?_ _
                  clear hwk
                  go_wp2
                  go_roundw
                  case rel =>
                    have hbz : Below w1.heap.size w1 w3 := hbx.trans (hb2.mono hbx.size)
                    refine ⟨k + 1 + 1, by omega, by go_num, hbW.trans (hbz.mono hbW.size), fun j hj => ?_⟩
                    rcases Nat.lt_or_ge j (k + 1) with h1 | h1
                    · exact HALL.out j h1
                    · obtain rfl : j = k + 1 := by omega
                      intro y hy
                      rw [HX.out] at hy
                      cases hy
                      refine ⟨HA.out, fun z _ hz => ?_⟩
                      rw [show k + 1 - 1 = k by omega, HM.out] at hz
                      cases hz
                      exact HF.out
                  case measure => simp [intOf]; omega
          · have hRt : R = true := by
              rw [← HR2.out, chainP_iff]
              intro j m hm
              have := (List.getElem?_eq_some_iff.1 hm).1
              exact HALL.out j (by have := HL.out; omega) m hm
            subst hRt
            go_wp2
            go_ret
            exact ⟨rfl, HBW.out.trans (hb.mono HBW.out.size)⟩
      · have hRf : R = false := by rw [← HR.out]; simp [validSt, hlen]; omega
        subst hRf
        have d5 : decide (512 < n) = true := decide_eq_true (by omega)
        have HL := Lib.hid hlen
        clear hlen h
        go_enter Tryz.func38, Tryz.ntmps38
        go_wp2
        go_ret
        exact ⟨rfl, (Below.refl w.heap.size w).alloc (Nat.le_refl _) _⟩
    · have hRf : R = false := by rw [← HR.out]; simp [validSt]; omega
      subst hRf
      have d1 : decide (1023 < ack) = true := decide_eq_true (by omega)
      clear hlen h
      go_enter Tryz.func38, Tryz.ntmps38
      go_wp2
      go_ret
      exact ⟨rfl, (Below.refl w.heap.size w).alloc (Nat.le_refl _) _⟩
  · have hRf : R = false := by rw [← HR.out]; simp [validSt]; omega
    subst hRf
    have d0 : decide (ack < 0) = true := decide_eq_true (by omega)
    clear hlen h
    go_enter Tryz.func38, Tryz.ntmps38
    go_wp2
    go_ret
    exact ⟨rfl, (Below.refl w.heap.size w).alloc (Nat.le_refl _) _⟩
end
end Go.Proofs.YtmiipkaobloedaaGreat
