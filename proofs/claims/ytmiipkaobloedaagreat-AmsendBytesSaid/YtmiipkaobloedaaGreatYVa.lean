/- ampdu.Valid: conditions that are closures, all of them. ampdu.Encode. -/
import Derived.Test.YtmiipkaobloedaaGreatYUa
import Derived.Test.YtmiipkaobloedaaGreatZk
import Derived.Test.YtmiipkaobloedaaGreatZn
import Derived.Deep.DeepCutAuto
namespace Go.Proofs.YtmiipkaobloedaaGreat
open Go.RowKit

set_option maxHeartbeats 400000 in
theorem indexAllA_any (b : Nat) (fvs : List Value) (bs : List Bool) (Inv : World → Prop) (w : World) (hlen : bs.length = fvs.length) (hsm : fvs.length ≤ 1000) (hI : ∀ W, Inv W → Blk W b 24 fvs.toArray)
    (hcall : ∀ (i : Nat) (fv : Value) (x : Bool) (W : World), fvs[i]? = some fv → bs[i]? = some x → (∀ y ∈ bs.take i, y = true) → Inv W → Calls Tryz.prog 107 #[fv] W fun e W' => e = .returned (.bool (!x)) ∧ Inv W')
    (h0 : Inv w) : Calls Tryz.prog 123 #[.slice (some ⟨b, 0, none⟩) fvs.length fvs.length, .func (.func 107) #[] #[]] w (AllIs bs Inv) := by
  have HC := Lib.hid hcall
  have HI := Lib.hid hI
  have HL := Lib.hid hlen
  clear hcall hI hlen
  obtain ⟨N, hN⟩ : ∃ N, N = fvs.length := ⟨_, rfl⟩
  rw [← hN] at hsm ⊢
  have HN := Lib.hid hN
  clear hN
  go_enter Tryz.func123, Tryz.ntmps123
  go_wp2
  go_loopw [8] (fun i wr => ∃ k : Nat, k ≤ N ∧ i = .int .i64 k ∧ (∀ y ∈ bs.take k, y = true) ∧ Inv wr) (fun i _ => N - (intOf i).toNat)
  case atStart => exact ⟨0, Nat.zero_le _, rfl, by simp, h0⟩
  case round =>
    clear h0
    obtain ⟨k, hk, rfl, hall, hinv⟩ := hrel
    have HA := Lib.hid hall
    clear hall
    by_cases hlt : k < N
    · obtain ⟨fv, hfv⟩ : ∃ fv, fvs[k]? = some fv := ⟨_, List.getElem?_eq_getElem (by rw [← HN.out]; exact hlt)⟩
      obtain ⟨x, hx⟩ : ∃ x, bs[k]? = some x := ⟨_, List.getElem?_eq_getElem (by rw [HL.out, ← HN.out]; exact hlt)⟩
      have hcl := HC.out k fv x wr hfv hx HA.out hinv
      have hcell := (HI.out wr hinv).cell k
      rw [List.getElem?_toArray, hfv] at hcell
      have HCL := Lib.hid hcl
      have HX := Lib.hid hx
      clear hcl hfv hx
      cases x with
      | true =>
        go_wp2_with (go_at_call 107; refine HCL.out.mono ?_; rintro e w' ⟨rfl, hi'⟩)
        go_roundw
        case rel => exact ⟨k + 1, by omega, by go_num, by
          intro y hy
          rw [List.take_add_one, HX.out, List.mem_append] at hy
          rcases hy with hy | hy
          · exact HA.out y hy
          · simpa using hy, hi'⟩
        case measure => simp [intOf]; omega
      | false =>
        go_wp2_with (go_at_call 107; refine HCL.out.mono ?_; rintro e w' ⟨rfl, hi'⟩)
        go_ret
        refine ⟨.inl ⟨k, rfl, ?_⟩, hi'⟩
        rw [List.all_eq_false]
        exact ⟨false, List.mem_of_getElem? HX.out, by simp⟩
    · have e : bs.take k = bs := List.take_of_length_le (by rw [HL.out, ← HN.out]; omega)
      have hA := HA.out
      rw [e] at hA
      have HA' := Lib.hid hA
      clear hA e
      go_wp2
      go_ret
      exact ⟨.inr ⟨rfl, by rw [List.all_eq_true]; exact HA'.out⟩, hinv⟩

theorem containsAllA_any (b : Nat) (fvs : List Value) (bs : List Bool) (Inv : World → Prop) (w : World)
    (h : Calls Tryz.prog 123 #[.slice (some ⟨b, 0, none⟩) fvs.length fvs.length, .func (.func 107) #[] #[]] w (AllIs bs Inv)) :
    Calls Tryz.prog 106 #[.slice (some ⟨b, 0, none⟩) fvs.length fvs.length, .func (.func 107) #[] #[]] w fun e w' => e = .returned (.bool (!bs.all id)) ∧ Inv w' := by
  have H := Lib.hid h
  clear h
  go_enter Tryz.func106, Tryz.ntmps106
  go_wp2_with fail
  refine H.out.mono ?_
  rintro e w' ⟨⟨k, rfl, ha⟩ | ⟨rfl, ha⟩, hi⟩
  · have HA := Lib.hid ha
    clear ha
    go_wp2
    go_ret
    exact ⟨ret_bool (by rw [HA.out]; rfl), hi⟩
  · have HA := Lib.hid ha
    clear ha
    go_wp2
    go_ret
    exact ⟨ret_bool (by rw [HA.out]; rfl), hi⟩

theorem allA_any (b : Nat) (fvs : List Value) (bs : List Bool) (Inv : World → Prop) (w : World)
    (h : Calls Tryz.prog 106 #[.slice (some ⟨b, 0, none⟩) fvs.length fvs.length, .func (.func 107) #[] #[]] w fun e w' => e = .returned (.bool (!bs.all id)) ∧ Inv w') :
    Calls Tryz.prog 80 #[.slice (some ⟨b, 0, none⟩) fvs.length fvs.length] w fun e w' => e = .returned (.bool (bs.all id)) ∧ Inv w' := by
  have H := Lib.hid h
  clear h
  go_enter Tryz.func80, Tryz.ntmps80
  go_wp2_with fail
  refine H.out.mono ?_
  rintro e w' ⟨rfl, hi⟩
  go_wp2
  go_ret
  exact ⟨ret_bool (by simp), hi⟩

/-- an acknowledged mode PDU's cells -/
def apdu (sn : Int) (po sg la : Bool) (off : Int) (s e : Bool) (A : Option Addr) (n c : Nat) : Array Value := #[.int .i64 sn, .bool po, .bool sg, .bool la, .int .i64 off, .bool s, .bool e, .slice A n c]
/-- the conditions on an acknowledged mode PDU -/
def aConds (sn : Int) (sg la : Bool) (off : Int) (ps : List (List UInt8)) : List Bool :=
  [decide (0 ≤ sn ∧ sn < 1024), validB ps, if sg then decide (0 ≤ off ∧ off ≤ 32767 - (sumLen ps : Int)) else !la && decide (off = 0)]
def validA (sn : Int) (sg la : Bool) (off : Int) (ps : List (List UInt8)) : Bool := (aConds sn sg la off ps).all id
theorem Blk.eight {w : World} {g : Nat} {t : TypeId} {x0 x1 x2 x3 x4 x5 x6 x7 : Value} (b : Blk w g t #[x0, x1, x2, x3, x4, x5, x6, x7]) :
    w.cell? ⟨g, 0, none⟩ = some x0 ∧ w.cell? ⟨g, 1, none⟩ = some x1 ∧ w.cell? ⟨g, 2, none⟩ = some x2 ∧ w.cell? ⟨g, 3, none⟩ = some x3 ∧ w.cell? ⟨g, 4, none⟩ = some x4 ∧ w.cell? ⟨g, 5, none⟩ = some x5 ∧ w.cell? ⟨g, 6, none⟩ = some x6 ∧ w.cell? ⟨g, 7, none⟩ = some x7 :=
  ⟨b.cell 0, b.cell 1, b.cell 2, b.cell 3, b.cell 4, b.cell 5, b.cell 6, b.cell 7⟩

section
variable (bp : Nat) (sn : Int) (po sg la : Bool) (off : Int) (s e : Bool) (A : Option Addr) (n c : Nat) (vs : List Value) (ps : List (List UInt8)) (w : World)
theorem a1_any (hb : Blk w bp 61 (apdu sn po sg la off s e A n c)) :
    Calls Tryz.prog 78 #[.pointer (some ⟨bp, 0, none⟩)] w fun e w' => e = .returned (.bool (!la && decide (off = 0))) ∧ w = w' := by
  obtain ⟨x0, x1, x2, x3, x4, x5, x6, x7⟩ := hb.eight
  have hd : (off == 0) = decide (off = 0) := by rw [Bool.eq_iff_iff]; simp
  generalize decide (off = 0) = d at *
  cases la with
  | false =>
    go_enter Tryz.func78, Tryz.ntmps78
    go_wp2
    go_ret
    exact ⟨rfl, rfl⟩
  | true =>
    go_enter Tryz.func78, Tryz.ntmps78
    go_wp2
    go_ret
    exact ⟨rfl, rfl⟩
theorem a3_any (hb : Blk w bp 61 (apdu sn po sg la off s e A n c)) :
    Calls Tryz.prog 81 #[.pointer (some ⟨bp, 0, none⟩)] w fun e w' => e = .returned (.bool (decide (0 ≤ sn ∧ sn < 1024))) ∧ w = w' := by
  obtain ⟨x0, x1, x2, x3, x4, x5, x6, x7⟩ := hb.eight
  by_cases h0 : 0 ≤ sn
  · by_cases h1 : sn < 1024
    · rw [decide_eq_true (p := 0 ≤ sn ∧ sn < 1024) ⟨h0, h1⟩]
      go_enter Tryz.func81, Tryz.ntmps81
      go_wp2
      go_ret
      exact ⟨rfl, rfl⟩
    · rw [decide_eq_false (p := 0 ≤ sn ∧ sn < 1024) (by omega)]
      go_enter Tryz.func81, Tryz.ntmps81
      go_wp2
      go_ret
      exact ⟨rfl, rfl⟩
  · rw [decide_eq_false (p := 0 ≤ sn ∧ sn < 1024) (by omega)]
    go_enter Tryz.func81, Tryz.ntmps81
    go_wp2
    go_ret
    exact ⟨rfl, rfl⟩
theorem a4_any (h : Sls w w.heap.size A n c vs ps) (hn : n ≤ 1048576) (hle : ∀ p ∈ ps, p.length ≤ 1099511627776) (hb : Blk w bp 61 (apdu sn po sg la off s e A n c)) :
    Calls Tryz.prog 82 #[.pointer (some ⟨bp, 0, none⟩)] w fun e w' => e = .returned (.bool (validB ps)) ∧ Below w.heap.size w w' := by
  obtain ⟨x0, x1, x2, x3, x4, x5, x6, x7⟩ := hb.eight
  have hv := valid_any s e A n c vs ps w h hn hle
  have HV := Lib.hid hv
  clear hv hle
  generalize validB ps = r at *
  go_enter Tryz.func82, Tryz.ntmps82
  go_wp2_with (go_at_call 83; refine HV.out.mono ?_; rintro e w' ⟨rfl, hb⟩)
  go_ret
  exact ⟨rfl, hb⟩
set_option maxRecDepth 100000 in
set_option maxHeartbeats 800000 in
theorem a2_any (h : Sls w w.heap.size A n c vs ps) (hn : n ≤ 1048576) (hle : ∀ p ∈ ps, p.length ≤ 1099511627776) (hb : Blk w bp 61 (apdu sn po sg la off s e A n c)) :
    Calls Tryz.prog 79 #[.pointer (some ⟨bp, 0, none⟩)] w fun e w' => e = .returned (.bool (decide (0 ≤ off ∧ off ≤ 32767 - (sumLen ps : Int)))) ∧ Below w.heap.size w w' := by
  obtain ⟨x0, x1, x2, x3, x4, x5, x6, x7⟩ := hb.eight
  by_cases h0 : 0 ≤ off
  · have hsz := size_any s e A n c vs ps w.drew h.drew' hn hle
    have hsum : sumLen ps ≤ 1152921504606846976 := by
      have := sumLen_bound ps _ hle
      have h2 := h.len
      have : 1099511627776 * ps.length ≤ 1099511627776 * 1048576 := Nat.mul_le_mul_left _ (by omega)
      omega
    have HZ := Lib.hid hsz
    clear hsz hle
    generalize sumLen ps = S at *
    have hd0 : decide (0 ≤ off) = true := by simpa using h0
    have hdd : decide (0 ≤ off ∧ off ≤ 32767 - (S : Int)) = decide (off ≤ 32767 - (S : Int)) := by simp [h0]
    rw [hdd]
    clear hdd
    go_enter Tryz.func79, Tryz.ntmps79
    go_wp2
    have hbp : bp < w.drew.heap.size := hb.lt
    go_region_held3 (fun w' => w'.cell? ⟨bp, 4, none⟩ = some (.int .i64 off) ∧ w'.cell? ⟨bp, 5, none⟩ = some (.bool s) ∧ w'.cell? ⟨bp, 6, none⟩ = some (.bool e) ∧ w'.cell? ⟨bp, 7, none⟩ = some (.slice A n c))
      (first | (refine ⟨(hb1.cell (p := ⟨bp, 4, none⟩) hbp).trans x4, (hb1.cell (p := ⟨bp, 5, none⟩) hbp).trans x5, (hb1.cell (p := ⟨bp, 6, none⟩) hbp).trans x6, (hb1.cell (p := ⟨bp, 7, none⟩) hbp).trans x7⟩) | go_keep)
      ((go_at_call 35; refine HZ.out.mono ?_; rintro e1 w1 ⟨rfl, hb1⟩))
    go_wp2
    go_ret
    refine ⟨ret_bool ?_, ((Below.refl w.heap.size w).drew).trans hb1⟩
    rw [IntWalk.i64_in _ (by omega)]
  · rw [decide_eq_false (p := 0 ≤ off ∧ off ≤ 32767 - (sumLen ps : Int)) (by omega)]
    have hd0 : decide (0 ≤ off) = false := by simpa using h0
    clear hle h
    go_enter Tryz.func79, Tryz.ntmps79
    go_wp2
    go_quiet (fail)
    go_wp2
    go_ret
    exact ⟨rfl, (Below.refl _ w).drewN _⟩
theorem not_a1 (fid : Nat) (x : Bool) (hf : fid = 78 ∨ fid = 79 ∨ fid = 81 ∨ fid = 82) (h : Calls Tryz.prog fid #[.pointer (some ⟨bp, 0, none⟩)] w fun e w' => e = .returned (.bool x) ∧ Below w.heap.size w w') :
    Calls Tryz.prog 107 #[.func (.func fid) #[] #[.pointer (some ⟨bp, 0, none⟩)]] w fun e w' => e = .returned (.bool (!x)) ∧ Below w.heap.size w w' := by
  have H := Lib.hid h
  clear h
  rcases hf with rfl | rfl | rfl | rfl
  · go_enter Tryz.func107, Tryz.ntmps107
    go_wp2_with (go_at_call 78; refine H.out.mono ?_; rintro e w' ⟨rfl, hb⟩)
    go_ret
    exact ⟨rfl, hb⟩
  · go_enter Tryz.func107, Tryz.ntmps107
    go_wp2_with (go_at_call 79; refine H.out.mono ?_; rintro e w' ⟨rfl, hb⟩)
    go_ret
    exact ⟨rfl, hb⟩
  · go_enter Tryz.func107, Tryz.ntmps107
    go_wp2_with (go_at_call 81; refine H.out.mono ?_; rintro e w' ⟨rfl, hb⟩)
    go_ret
    exact ⟨rfl, hb⟩
  · go_enter Tryz.func107, Tryz.ntmps107
    go_wp2_with (go_at_call 82; refine H.out.mono ?_; rintro e w' ⟨rfl, hb⟩)
    go_ret
    exact ⟨rfl, hb⟩

/-- The three conditions, called one after the other. -/
theorem validA_all (b : Nat) (h : Sls w w.heap.size A n c vs ps) (hn : n ≤ 1048576) (hle : ∀ p ∈ ps, p.length ≤ 1099511627776) (hbp : Blk w bp 61 (apdu sn po sg la off s e A n c)) (f3 : Nat) (hf3 : f3 = if sg then 79 else 78)
    (hb : Blk w b 24 #[.func (.func 81) #[] #[.pointer (some ⟨bp, 0, none⟩)], .func (.func 82) #[] #[.pointer (some ⟨bp, 0, none⟩)], .func (.func f3) #[] #[.pointer (some ⟨bp, 0, none⟩)]]) :
    Calls Tryz.prog 80 #[.slice (some ⟨b, 0, none⟩) 3 3] w fun e w' => e = .returned (.bool (validA sn sg la off ps)) ∧ Below w.heap.size w w' := by
  refine allA_any b [.func (.func 81) #[] #[.pointer (some ⟨bp, 0, none⟩)], .func (.func 82) #[] #[.pointer (some ⟨bp, 0, none⟩)], .func (.func f3) #[] #[.pointer (some ⟨bp, 0, none⟩)]] (aConds sn sg la off ps) (fun W => Below w.heap.size w W) w ?_
  refine containsAllA_any b _ (aConds sn sg la off ps) (fun W => Below w.heap.size w W) w ?_
  refine indexAllA_any b _ (aConds sn sg la off ps) (fun W => Below w.heap.size w W) w rfl (by simp) (fun W hW => hb.below hW hb.lt) ?_ (Below.refl _ _)
  intro i fv x W hfv hx hpre hW
  have hS := (h.below hW).more hW.size
  have hbW := hbp.below hW hbp.lt
  have key : Calls Tryz.prog 107 #[fv] W fun e W' => e = .returned (.bool (!x)) ∧ Below W.heap.size W W' := by
    match i, hfv, hx, hpre with
    | 0, hfv, hx, _ =>
      simp only [aConds, List.getElem?_cons_zero, Option.some.injEq] at hfv hx
      subst hfv hx
      exact not_a1 bp W 81 _ (by omega) ((a3_any bp sn po sg la off s e A n c W hbW).mono fun e W' hh => ⟨hh.1, by rw [← hh.2]; exact Below.refl _ _⟩)
    | 1, hfv, hx, _ =>
      simp only [aConds, List.getElem?_cons_zero, List.getElem?_cons_succ, Option.some.injEq] at hfv hx
      subst hfv hx
      exact not_a1 bp W 82 _ (by omega) (a4_any bp sn po sg la off s e A n c vs ps W hS hn hle hbW)
    | 2, hfv, hx, _ =>
      simp only [aConds, List.getElem?_cons_zero, List.getElem?_cons_succ, Option.some.injEq] at hfv hx
      subst hfv hx
      cases sg with
      | true =>
        simp only [if_true] at hf3 ⊢
        subst hf3
        exact not_a1 bp W 79 _ (by omega) (a2_any bp sn po true la off s e A n c vs ps W hS hn hle hbW)
      | false =>
        simp only [Bool.false_eq_true, if_false] at hf3 ⊢
        subst hf3
        exact not_a1 bp W 78 _ (by omega) ((a1_any bp sn po false la off s e A n c W hbW).mono fun e W' hh => ⟨hh.1, by rw [← hh.2]; exact Below.refl _ _⟩)
    | i + 3, hfv, _, _ => simp at hfv
  exact key.mono fun e W' hh => ⟨hh.1, hW.trans (hh.2.mono hW.size)⟩

set_option maxHeartbeats 800000 in
/-- Valid answers whether the PDU is valid. -/
theorem validA_any (h : Sls w w.heap.size A n c vs ps) (hn : n ≤ 1048576) (hle : ∀ p ∈ ps, p.length ≤ 1099511627776) :
    Calls Tryz.prog 55 #[.agg (apdu sn po sg la off s e A n c)] w (Tells' (validA sn sg la off ps) w) := by
  have HLE := Lib.hid hle
  clear hle
  obtain ⟨f3, hf3⟩ : ∃ f3, f3 = if sg then 79 else 78 := ⟨_, rfl⟩
  have hB := (((Below.refl w.heap.size w).alloc (Nat.le_refl _) (.cells (apdu sn po sg la off s e A n c) 61))).alloc (by simp) (.cells #[.func (.func 81) #[] #[.pointer (some ⟨w.heap.size, 0, none⟩)], .func (.func 82) #[] #[.pointer (some ⟨w.heap.size, 0, none⟩)], .func (.func f3) #[] #[.pointer (some ⟨w.heap.size, 0, none⟩)]] 24)
  have b0 := (Blk.new w 61 (apdu sn po sg la off s e A n c)).alloc (.cells #[.func (.func 81) #[] #[.pointer (some ⟨w.heap.size, 0, none⟩)], .func (.func 82) #[] #[.pointer (some ⟨w.heap.size, 0, none⟩)], .func (.func f3) #[] #[.pointer (some ⟨w.heap.size, 0, none⟩)]] 24)
  have b1 := Blk.new (w.alloc (.cells (apdu sn po sg la off s e A n c) 61)) 24 #[.func (.func 81) #[] #[.pointer (some ⟨w.heap.size, 0, none⟩)], .func (.func 82) #[] #[.pointer (some ⟨w.heap.size, 0, none⟩)], .func (.func f3) #[] #[.pointer (some ⟨w.heap.size, 0, none⟩)]]
  simp only [World.size_alloc] at b1
  have hall := validA_all w.heap.size sn po sg la off s e A n c vs ps _ (w.heap.size + 1) ((h.below hB).more hB.size) hn HLE.out b0 f3 hf3 b1
  have HALL := Lib.hid hall
  have HB := Lib.hid hB
  clear hall b0 b1 hB
  generalize validA sn sg la off ps = r at *
  unfold apdu at *
  cases sg with
  | true =>
    simp only [if_true] at hf3
    subst hf3
    go_enter Tryz.func55, Tryz.ntmps55
    go_wp2_with (go_at_call 80; refine HALL.out.mono ?_; rintro e w' ⟨rfl, hb⟩)
    go_ret
    exact ⟨rfl, HB.out.trans (hb.mono HB.out.size)⟩
  | false =>
    simp only [Bool.false_eq_true, if_false] at hf3
    subst hf3
    go_enter Tryz.func55, Tryz.ntmps55
    go_wp2_with (go_at_call 80; refine HALL.out.mono ?_; rintro e w' ⟨rfl, hb⟩)
    go_ret
    exact ⟨rfl, HB.out.trans (hb.mono HB.out.size)⟩
end
end Go.Proofs.YtmiipkaobloedaaGreat
namespace Go.Proofs.YtmiipkaobloedaaGreat
open Go.RowKit

theorem oneA_any (b : Bool) (w : World) : Calls Tryz.prog 91 #[.bool b] w fun e w' => e = .returned (.int .u64 b.toNat) ∧ w = w' := by
  cases b
  · go_enter Tryz.func91, Tryz.ntmps91
    go_wp2
    go_ret
    exact ⟨rfl, rfl⟩
  · go_enter Tryz.func91, Tryz.ntmps91
    go_wp2
    go_ret
    exact ⟨rfl, rfl⟩
theorem oneA_still (b : Bool) (w : World) : Calls Tryz.prog 91 #[.bool b] w fun e w' => e = .returned (.int .u64 b.toNat) ∧ w' = w := (oneA_any b w).mono fun _ _ h => ⟨h.1, h.2.symm⟩

def amHead1 (po sg : Bool) : List (Nat × Nat) := [(1, 1), (sg.toNat, 1), (po.toNat, 1)]
def amHead2 (sn : Nat) (s e : Bool) (n : Nat) : List (Nat × Nat) := [((!s).toNat, 1), ((!e).toNat, 1), ((decide (1 < n)).toNat, 1), (sn, 10)]
def amHead3 (la : Bool) (off : Nat) : List (Nat × Nat) := [(la.toNat, 1), (off, 15)]
/-- the bits of the fixed header -/
def amBits (sn : Nat) (po sg la : Bool) (off : Nat) (s e : Bool) (n : Nat) : List Bool := fieldBits (amHead1 po sg) ++ fieldBits (amHead2 sn s e n) ++ (if sg then fieldBits (amHead3 la off) else [])
theorem amBits_length (sn : Nat) (po sg la : Bool) (off : Nat) (s e : Bool) (n : Nat) : (amBits sn po sg la off s e n).length = if sg then 32 else 16 := by
  cases sg <;> simp [amBits, fieldBits, amHead1, amHead2, amHead3]
theorem not_mw {B g k : Nat} {cs : Array Value} {t : TypeId} (ht : t ≠ 5) (hk : k ≠ g) : ¬ Mw B g k (.cells cs t (0, 0)) := by
  rintro ⟨_, e | ⟨cs', fr, e⟩⟩
  · exact hk e
  · cases e; exact ht rfl
theorem Wtr.lt {w : World} {B g : Nat} {l : List Bool} (h : Wtr w B g l) : g < w.heap.size := by obtain ⟨_, v, hb, _⟩ := h; exact hb.lt
/-- the encoding -/
def encA (sn : Nat) (po sg la : Bool) (off : Nat) (s e : Bool) (ps : List (List UInt8)) : List UInt8 := pack (amBits sn po sg la off s e ps.length ++ lenBits ps (ps.length - 1)) ++ ps.flatten
theorem boolNat_le (b : Bool) : b.toNat ≤ 1 := by cases b <;> simp
theorem fld1 (b : Bool) : (1 : Nat) ≤ 64 ∧ b.toNat < 2 ^ 1 ∧ b.toNat < 18446744073709551616 := ⟨by omega, by have := boolNat_le b; omega, by have := boolNat_le b; omega⟩

structure ValidAP (sn : Int) (sg la : Bool) (off : Int) (ps : List (List UInt8)) : Prop where
  sn0 : 0 ≤ sn
  sn1 : sn < 1024
  vp : validB ps = true
  seg : sg = true → 0 ≤ off ∧ off ≤ 32767 - (sumLen ps : Int)
  whole : sg = false → la = false ∧ off = 0
theorem validA_iff (sn : Int) (sg la : Bool) (off : Int) (ps : List (List UInt8)) : validA sn sg la off ps = true ↔ ValidAP sn sg la off ps := by
  unfold validA aConds
  simp only [List.all_cons, List.all_nil, Bool.and_true, id, Bool.and_eq_true, decide_eq_true_eq]
  constructor
  · rintro ⟨⟨h1, h2⟩, h3, h4⟩
    refine ⟨h1, h2, h3, fun hs => ?_, fun hs => ?_⟩
    · subst hs; simpa using h4
    · subst hs; simpa using h4
  · rintro ⟨h1, h2, h3, h4, h5⟩
    refine ⟨⟨h1, h2⟩, h3, ?_⟩
    cases sg with
    | true => simpa using h4 rfl
    | false => simpa using h5 rfl

set_option maxHeartbeats 800000 in
theorem encodeA_bad (sn : Int) (po sg la : Bool) (off : Int) (s e : Bool) (A : Option Addr) (n c : Nat) (vs : List Value) (ps : List (List UInt8)) (w : World) (h : Sls w w.heap.size A n c vs ps) (hn : n ≤ 1048576) (hle : ∀ p ∈ ps, p.length ≤ 1099511627776)
    (hbad : validA sn sg la off ps = false) :
    Calls Tryz.prog 64 #[.agg (apdu sn po sg la off s e A n c)] w (GivesRowErr w.heap.size 5 w 0 [] 2) := by
  have hB := (Below.refl w.heap.size w).alloc (Nat.le_refl _) (.cells (apdu sn po sg la off s e A n c) 61)
  have hv := validA_any sn po sg la off s e A n c vs ps _ ((h.below hB).more hB.size) hn hle
  rw [hbad] at hv
  have HB := Lib.hid hB
  have HV := Lib.hid hv
  clear hB hv hle hbad
  unfold apdu at *
  go_enter Tryz.func64, Tryz.ntmps64
  go_wp2_with (go_at_call 55; refine HV.out.mono ?_; rintro e w' ⟨rfl, hb⟩)
  go_ret2
  exact ⟨_, rfl, World.ownsRow_nil _ _ _ _, HB.out.trans (hb.mono HB.out.size)⟩

set_option maxRecDepth 100000 in
set_option maxHeartbeats 4000000 in
theorem encodeA_ok (sn : Nat) (po sg la : Bool) (off : Nat) (s e : Bool) (A : Option Addr) (n c : Nat) (vs : List Value) (ps : List (List UInt8)) (w : World) (h : Sls w w.heap.size A n c vs ps) (hv : validA sn sg la off ps = true) (hoff : off ≤ 32767) :
    Calls Tryz.prog 64 #[.agg (apdu sn po sg la off s e A n c)] w (GivesRowErr w.heap.size 5 w (encA sn po sg la off s e ps).length (bvs (encA sn po sg la off s e ps)) 0) := by
  have hva := (validA_iff sn sg la off ps).1 hv
  obtain ⟨hlo, hhi, hpos, hshort, hsum⟩ := (validB_iff ps).1 hva.vp
  have hsn : sn ≤ 1023 := by have := hva.sn1; omega
  have hlen := h.len
  have hple : ∀ p ∈ ps, p.length ≤ 1099511627776 := fun p hp => by have := mem_le_sumLen hp; omega
  have hB := (Below.refl w.heap.size w).alloc (Nat.le_refl _) (.cells (apdu sn po sg la off s e A n c) 61)
  have hvc := validA_any sn po sg la off s e A n c vs ps _ ((h.below hB).more hB.size) (by omega) hple
  rw [hv] at hvc
  have HB := Lib.hid hB
  have HV := Lib.hid hvc
  have HL := Lib.hid hlen
  have HS := Lib.hid hshort
  have HSUM := Lib.hid hsum
  have bx := Blk.new w 61 (apdu sn po sg la off s e A n c)
  clear hB hvc hv hlen hpos hshort hple hva hsum
  unfold apdu at *
  go_enter Tryz.func64, Tryz.ntmps64
  go_wp2_with fail
  refine HV.out.mono ?_
  rintro e1 w1 ⟨rfl, hb1⟩
  have hbw : Below w.heap.size w w1 := HB.out.trans (hb1.mono HB.out.size)
  replace bx := bx.below hb1 bx.lt
  have hlt1 := bx.lt
  clear HV hb1 HB
  have hW2 : Wtr (w1.alloc (.cells #[.slice none 0 0, .int .i64 0] 145)) w1.heap.size w1.heap.size [] := ⟨Nat.le_refl _, _, Blk.new w1 _ _, World.ownsRow_nil _ _ _ _⟩
  have hbw2 := hbw.alloc hbw.size (.cells #[.slice none 0 0, .int .i64 0] 145)
  have hg2 : w1.heap.size + 1 = (w1.alloc (.cells #[.slice none 0 0, .int .i64 0] 145)).heap.size := by simp
  replace bx := bx.alloc (.cells #[.slice none 0 0, .int .i64 0] 145)
  go_wp2_with fail
  generalize w1.alloc (.cells #[.slice none 0 0, .int .i64 0] 145) = w2 at *
  generalize w1.heap.size = g at *
  clear hbw
  obtain ⟨x0, x1, x2, x3, x4, x5, x6, x7⟩ := bx.eight
  have x5' : w2.drew.cell? ⟨w.heap.size, 5, none⟩ = some (.bool s) := x5
  have x6' : w2.drew.cell? ⟨w.heap.size, 6, none⟩ = some (.bool e) := x6
  have x7' : w2.drew.cell? ⟨w.heap.size, 7, none⟩ = some (.slice A n c) := x7
  have hwl : w.heap.size < w2.heap.size := bx.lt
  go_region
  go_wp2
  have b5 := (Blk.new w2 59 #[.bool s, .bool e, .slice A n c]).drew
  replace bx := (bx.alloc (.cells #[.bool s, .bool e, .slice A n c] 59)).drew
  replace hW2 : Wtr (w2.alloc (.cells #[.bool s, .bool e, .slice A n c] 59)).drew g g [] := hW2.alloc _
  have hbw3 := (hbw2.alloc hbw2.size (.cells #[.bool s, .bool e, .slice A n c] 59)).drew
  generalize (w2.alloc (.cells #[.bool s, .bool e, .slice A n c] 59)).drew = w3 at *
  rw [← hg2] at b5 ⊢
  clear x0 x1 x2 x3 x4 x5 x6 x7 x5' x6' x7' hbw2 hwl hg2
  obtain ⟨x0, x1, x2, x3, x4, x5, x6, x7⟩ := bx.eight
  refine wp_region_still_tail 9 (by kernel_rfl) (by kernel_rfl) ?_
  simp only [List.take_succ_cons, List.take_zero, List.drop_succ_cons, List.drop_zero]
  still_step
  still_step
  still_step
  still_call (oneA_still _ _)
  still_step
  still_step
  still_step
  still_call (oneA_still _ _)
  still_step
  refine wpStill_nil ?_
  change wpList _ _ _ _ _ w3.drew
  replace hW2 : Wtr w3.drew g g [] := hW2
  replace hbw3 := hbw3.drew
  replace bx := bx.drew
  replace b5 := b5.drew
  generalize w3.drew = w4 at *
  clear x0 x1 x2 x3 x4 x5 x6 x7
  have hput := putAll_any g g w4.heap.size [] (amHead1 po sg) (w4.alloc (.cells (fieldCells (amHead1 po sg)).toArray 148)) (hW2.alloc _) (by simp) (by simp [amHead1]) (Blk.new _ _ _) (by
    intro x hx
    simp only [amHead1, List.mem_cons, List.not_mem_nil, or_false] at hx
    rcases hx with rfl | rfl | rfl
    · exact ⟨by omega, by decide, by omega⟩
    · exact fld1 sg
    · exact fld1 po)
  rw [List.nil_append] at hput
  have hh1 : fieldCells (amHead1 po sg) = [.int .u64 1, .int .i64 1, .int .u64 sg.toNat, .int .i64 1, .int .u64 po.toNat, .int .i64 1] := rfl
  have hh2 : (amHead1 po sg).length = 3 := rfl
  rw [hh1, hh2] at hput
  have HPut := Lib.hid hput
  clear hput hh1 hh2
  go_wp2_with fail
  refine HPut.out.mono ?_
  rintro e5 w5 ⟨rfl, hW5, hk5⟩
  have hg4 := hW2.lt
  have hbw5 := (hbw3.alloc hbw3.size _).trans ((hk5.below (B := g) (fun _ _ h => h.1) (by simp; omega)).mono (by omega))
  replace bx := (bx.alloc _).kept hk5 (not_mw (by decide) (by omega))
  replace b5 := (b5.alloc _).kept hk5 (not_mw (by decide) (by omega))
  clear HPut hW2 hk5 hbw3 hg4
  obtain ⟨x0, x1, x2, x3, x4, x5, x6, x7⟩ := bx.eight
  obtain ⟨y0, y1, y2⟩ := b5.three
  have hwr : IntKind.u64.wrap (sn : Int) = sn := by rw [IntKind.wrap_u64]; omega
  have hdn : decide ((1 : Int) < n) = decide (1 < n) := by rw [Bool.eq_iff_iff]; simp; omega
  go_wp2_with fail
  refine wp_region_still_tail 18 (by kernel_rfl) (by kernel_rfl) ?_
  simp only [List.take_succ_cons, List.take_zero, List.drop_succ_cons, List.drop_zero]
  still_step
  still_step
  still_step
  still_call (oneA_still _ _)
  still_step
  still_step
  still_step
  still_step
  still_call (oneA_still _ _)
  still_step
  still_step
  still_step
  still_call (oneA_still _ _)
  still_step
  still_step
  still_step
  still_step
  still_step
  refine wpStill_nil ?_
  change wpList _ _ _ _ _ w5.drew
  replace hW5 : Wtr w5.drew g g (fieldBits (amHead1 po sg)) := hW5
  replace hbw5 := hbw5.drew
  replace bx := bx.drew
  replace b5 := b5.drew
  generalize w5.drew = w6 at *
  clear x0 x1 x2 x3 x4 x5 x6 x7 y0 y1 y2 hwr hdn
  have hput := putAll_any g g w6.heap.size (fieldBits (amHead1 po sg)) (amHead2 sn s e n) (w6.alloc (.cells (fieldCells (amHead2 sn s e n)).toArray 148)) (hW5.alloc _) (by simp [fieldBits, amHead1]) (by simp [amHead2]) (Blk.new _ _ _) (by
    intro x hx
    simp only [amHead2, List.mem_cons, List.not_mem_nil, or_false] at hx
    rcases hx with rfl | rfl | rfl | rfl
    · exact fld1 _
    · exact fld1 _
    · exact fld1 _
    · exact ⟨by omega, by simp; omega, by omega⟩)
  have hh1 : fieldCells (amHead2 sn s e n) = [.int .u64 (!s).toNat, .int .i64 1, .int .u64 (!e).toNat, .int .i64 1, .int .u64 (decide (1 < n)).toNat, .int .i64 1, .int .u64 sn, .int .i64 10] := rfl
  have hh2 : (amHead2 sn s e n).length = 4 := rfl
  rw [hh1, hh2] at hput
  have HPut := Lib.hid hput
  clear hput hh1 hh2
  go_wp2_with fail
  refine HPut.out.mono ?_
  rintro e7 w7 ⟨rfl, hW7, hk7⟩
  have hg6 := hW5.lt
  have hbw7 := (hbw5.alloc hbw5.size _).trans ((hk7.below (B := g) (fun _ _ h => h.1) (by simp; omega)).mono (by omega))
  replace bx := (bx.alloc _).kept hk7 (not_mw (by decide) (by omega))
  replace b5 := (b5.alloc _).kept hk7 (not_mw (by decide) (by omega))
  clear HPut hW5 hk7 hbw5 hg6
  obtain ⟨x0, x1, x2, x3, x4, x5, x6, x7⟩ := bx.eight
  go_upto_if 50 with (fail)
  go_cut [] (fun wx => Wtr wx g g (amBits sn po sg la off s e n) ∧ Below w.heap.size w wx ∧ Blk wx (g + 1) 59 #[.bool s, .bool e, .slice A n c])
  case first =>
    cases sg with
    | false =>
      go_wp2_with fail
      go_meet
      exact ⟨by simpa [amBits] using hW7, hbw7, b5⟩
    | true =>
      have hwr : IntKind.u64.wrap (off : Int) = off := by rw [IntKind.wrap_u64]; omega
      go_wp2_with fail
      refine wp_region_still_tail 8 (by kernel_rfl) (by kernel_rfl) ?_
      simp only [List.take_succ_cons, List.take_zero, List.drop_succ_cons, List.drop_zero]
      still_step
      still_step
      still_call (oneA_still _ _)
      still_step
      still_step
      still_step
      still_step
      still_step
      refine wpStill_nil ?_
      change wpList _ _ _ _ _ w7.drew
      replace hW7 : Wtr w7.drew g g (fieldBits (amHead1 po true) ++ fieldBits (amHead2 sn s e n)) := hW7
      replace hbw7 := hbw7.drew
      replace b5 := b5.drew
      generalize w7.drew = w8 at *
      clear x0 x1 x2 x3 x4 x5 x6 x7 hwr
      have hput := putAll_any g g w8.heap.size _ (amHead3 la off) (w8.alloc (.cells (fieldCells (amHead3 la off)).toArray 148)) (hW7.alloc _) (by simp [fieldBits, amHead1, amHead2]) (by simp [amHead3]) (Blk.new _ _ _) (by
        intro x hx
        simp only [amHead3, List.mem_cons, List.not_mem_nil, or_false] at hx
        rcases hx with rfl | rfl
        · exact fld1 _
        · exact ⟨by omega, by simp; omega, by omega⟩)
      have hh1 : fieldCells (amHead3 la off) = [.int .u64 la.toNat, .int .i64 1, .int .u64 off, .int .i64 15] := rfl
      have hh2 : (amHead3 la off).length = 2 := rfl
      rw [hh1, hh2] at hput
      have HPut := Lib.hid hput
      clear hput hh1 hh2
      go_wp2_with fail
      refine HPut.out.mono ?_
      rintro e9 w9 ⟨rfl, hW9, hk9⟩
      have hg8 := hW7.lt
      have hbw9 := (hbw7.alloc hbw7.size _).trans ((hk9.below (B := g) (fun _ _ h => h.1) (by simp; omega)).mono (by omega))
      replace b5 := (b5.alloc _).kept hk9 (not_mw (by decide) (by omega))
      clear HPut
      go_wp2_with fail
      go_meet
      exact ⟨by simpa [amBits] using hW9, hbw9, b5⟩
  case rest =>
    clear hW7 hbw7 b5 bx x0 x1 x2 x3 x4 x5 x6 x7
    obtain ⟨hW4, hbw4, b1⟩ := hcut
    obtain ⟨y0, y1, c12⟩ := b1.three
    have hlH := amBits_length sn po sg la off s e n
    have hlH2 : (amBits sn po sg la off s e n).length ≤ 32 ∧ (amBits sn po sg la off s e n).length % 8 = 0 := by rw [hlH]; split <;> omega
    have HLH := Lib.hid hlH2
    have henc : encA sn po sg la off s e ps = pack (amBits sn po sg la off s e n ++ lenBits ps (n - 1)) ++ ps.flatten := by rw [← HL.out]; rfl
    have HE := Lib.hid henc
    clear henc hlH hlH2
    generalize hH : amBits sn po sg la off s e n = H at *
    generalize hEE : encA sn po sg la off s e ps = EE at *
    clear hH hEE
    have hcap := h.sl.cap
    have hmx := h.sl.mx
    obtain ⟨m, hm⟩ : ∃ m, n = m + 1 := ⟨n - 1, by have := HL.out; omega⟩
    subst hm
    have em : m + 1 - 1 = m := by omega
    rw [em] at HE
    clear em
    have hm63 : m ≤ 63 := by have := HL.out; omega
    rw [show ((m + 1 : Nat) : Int) = (m : Int) + 1 from by omega]
    go_wp2
    go_loopw [67] (fun i wr => ∃ k : Nat, k ≤ m ∧ i = .int .i64 k ∧ Wtr wr g g (H ++ lenBits ps k) ∧ Kept (Mw g g) wc wr) (fun i _ => m - (intOf i).toNat)
    case atStart => exact ⟨0, Nat.zero_le _, rfl, by simpa [lenBits] using hW4, Kept.refl _ _⟩
    case round =>
      obtain ⟨k, hk, rfl, hWk, hKk⟩ := hrel
      have hB4k := hKk.below (B := g) (fun _ _ h => h.1) (by have := hW4.lt; omega)
      have hbwk := hbw4.trans (hB4k.mono (by omega))
      by_cases hlt : k < m
      · obtain ⟨ad, Ai, ci, rfl, hb, hc, hsl⟩ := (h.below hbwk).get (k := k) (by omega)
        have hp := HS.out k (by rw [HL.out]; omega)
        have hls := lenBits_succ ps k
        have hlf : lenField ps k = [((decide (k + 2 < m + 1)).toNat, 1), ((ps[k]?.getD []).length, 11)] := by unfold lenField; rw [HL.out]
        rw [hlf] at hls
        generalize ps[k]?.getD [] = p at *
        have HLS := Lib.hid hls
        clear hls hlf
        obtain ⟨d, hd⟩ : ∃ d : Bool, decide (k + 2 < m + 1) = d := ⟨_, rfl⟩
        have hd' : decide ((k : Int) + 2 < (m : Int) + 1) = d := by rw [← hd, Bool.eq_iff_iff]; simp; omega
        rw [hd] at HLS
        clear hd
        have hwp : IntKind.u64.wrap (p.length : Int) = p.length := by rw [IntKind.wrap_u64]; omega
        have hlk : (H ++ lenBits ps k).length < 1000000 := by
          rw [List.length_append]
          have := lenBits_length ps k
          have := HLH.out.1
          omega
        have hput := putAll_any g g wr.heap.size (H ++ lenBits ps k) [(d.toNat, 1), (p.length, 11)] (wr.alloc (.cells (fieldCells [(d.toNat, 1), (p.length, 11)]).toArray 148)) (hWk.alloc _) hlk (by simp) (Blk.new _ _ _) (by
          intro x hx
          simp only [List.mem_cons, List.not_mem_nil, or_false] at hx
          rcases hx with rfl | rfl
          · exact fld1 d
          · exact ⟨by omega, by simp; omega, by omega⟩)
        simp only [fieldCells, List.length_cons, List.length_nil, Nat.zero_add, Nat.reduceAdd] at hput
        have HPut := Lib.hid hput
        clear hput hlk
        go_wp2_with fail
        refine (oneA_any _ _).mono ?_
        rintro e5 w5 ⟨rfl, rfl⟩
        go_wp2_with fail
        refine HPut.out.mono ?_
        rintro e6 w6 ⟨rfl, hW6, hk6⟩
        clear HPut
        go_wp2
        go_roundw
        case rel => exact ⟨k + 1, by omega, by go_num, by rw [HLS.out, ← List.append_assoc]; exact hW6, (hKk.alloc _).trans hk6⟩
        case measure => simp [intOf]; omega
      · obtain rfl : k = m := by omega
        clear hlt hk
        have hL12 : (H ++ lenBits ps k).length ≤ 32 + 12 * k := by rw [List.length_append, lenBits_length]; have := HLH.out.1; omega
        have hgr : g < wr.heap.size := hWk.lt
        have hal := alignW_any g g _ wr hWk (by omega)
        have HAL := Lib.hid hal
        have HL12 := Lib.hid hL12
        clear hal hL12
        go_wp2_with (go_at_call 92; refine HAL.out.mono ?_; rintro e7 w7 ⟨rfl, hW7, hk7⟩)
        obtain ⟨i0, hi, hz0, hz1, hz2⟩ := info_parts u8_info
        have hpk : pack (H ++ lenBits ps k ++ List.replicate (8 * nbytes (H ++ lenBits ps k).length - (H ++ lenBits ps k).length) false) = pack (H ++ lenBits ps k) := pack_pad _ _ (by unfold nbytes; omega)
        have hpl : (pack (H ++ lenBits ps k)).length ≤ 1000 := by have e := pack_length (H ++ lenBits ps k); have := HL12.out; unfold nbytes at e; omega
        have hLl : (H ++ lenBits ps k ++ List.replicate (8 * nbytes (H ++ lenBits ps k).length - (H ++ lenBits ps k).length) false).length < 1000000000 := by
          have e := HL12.out
          rw [List.length_append, List.length_replicate]; unfold nbytes; omega
        rw [← hpk] at HE hpl
        clear hpk
        generalize H ++ lenBits ps k ++ List.replicate (8 * nbytes (H ++ lenBits ps k).length - (H ++ lenBits ps k).length) false = L at *
        have hB7 := hk7.below (B := g) (fun _ _ h => h.1) (by omega)
        have hbw7 := hbwk.trans (hB7.mono (by omega))
        have b17 := (b1.kept hKk (not_mw (by decide) (by omega))).kept hk7 (not_mw (by decide) (by omega))
        have c7 := b17.cell 2
        simp at c7
        have hS7 := h.below hbw7
        have HPL := Lib.hid hpl
        clear hk7 hbwk hB4k hKk hWk HAL b1 c12 hW4 hbw4 hpl
        have HLl := Lib.hid hLl
        clear hLl
        have hwl := b17.lt
        have hws := hbw7.size
        go_region_held3 (fun w' => w'.cell? ⟨g + 1, 2, none⟩ = some (.slice A (k + 1) c))
          (first | (rw [hgrow10.cell_far _ (by simp; omega) (fun e => by have := (hv8.lt _ e.symm).1; simp at this; omega)]; assumption) | (rw [hb9.cell (p := ⟨g + 1, 2, none⟩) (by simp; omega)]; assumption) | (rw [hb8.cell (p := ⟨g + 1, 2, none⟩) (by simp; omega)]; assumption) | go_keep)
          (first
            | (go_at_call 93
               refine (bytes_any g g L w7.drew hW7 HLl.out).mono ?_
               rintro e8 w8 ⟨v8, rfl, hv8, hb8⟩
               have hz8 : w7.heap.size ≤ w8.heap.size := hb8.size)
            | (go_at_call 94
               refine (concat_any A (k + 1) c vs ps w8 (((hS7.drew').below (hb8.mono (by simp; omega))).more (by have := hb8.size; simp at this; omega)) (by have := HSUM.out; omega)).mono ?_
               rintro e9 w9 ⟨v9, rfl, hv9, hb9⟩
               obtain ⟨A9, c9, rfl, hs9, _⟩ := own_sl hv9
               have hz9 : w8.heap.size ≤ w9.heap.size := hb9.size)
            | (refine step_append_sl _ (by rfl) _ _ 31 (by rfl) w7.heap.size 5 i0 (.int .u8 0) 1 und29 hi hz0 hz1 hz2 rfl v8 (pack L).length (bvs (pack L)) (by rfl) (own_below hv8 hb9 (Nat.le_refl _)) w9.heap.size A9 (sumLen ps) c9 (bvs ps.flatten) (by rfl) hs9 (one_bvs _) (by have := HSUM.out; have := HPL.out; unfold maxLen; omega) (by have := HSUM.out; have := HPL.out; omega) (by have := hb8.size; have := hb9.size; simp at *; omega) ?_
               intro v10 w10 hown10 hgrow10 hat10))
        go_wp2
        go_ret2
        refine ⟨v10, rfl, ?_, ((hbw7.drew.trans (hb8.mono hbw7.size)).trans (hb9.mono (by omega))).grown hgrow10 (by omega) (fun j hj => by have := (hv8.lt j hj).1; simp at this; omega)⟩
        have hfl : EE.length = (pack L).length + sumLen ps := by rw [HE.out, List.length_append, flatten_length]
        rw [hfl, HE.out]
        have := own_base hown10 (base' := w.heap.size) (by omega)
        simpa [bvs] using this
end Go.Proofs.YtmiipkaobloedaaGreat
