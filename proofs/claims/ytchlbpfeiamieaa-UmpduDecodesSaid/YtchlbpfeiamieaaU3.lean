/- umpdu.Valid. -/
import Derived.Test.YtchlbpfeiamieaaU2
import Derived.Laws.EntriesVeiled
namespace Go.Proofs.Ytchlbpfeiamieaa
open Go.RowKit

/-- what Valid answers, condition by condition -/
def vConds (ps : List (List UInt8)) : List Bool :=
  [decide (1 ≤ ps.length ∧ ps.length ≤ 64), !(ps.any fun p => qEmpty p.length), !((ps.take (ps.length - 1)).any fun p => qLong p.length), decide (sumLen ps ≤ 32767)]
def validB (ps : List (List UInt8)) : Bool := (vConds ps).all id

theorem v3_any (bn n : Nat) (w : World) (h : Blk w bn 3 #[.int .i64 n]) :
    Calls Try.prog 97 #[.pointer (some ⟨bn, 0, none⟩)] w fun e w' => e = .returned (.bool (decide (1 ≤ n ∧ n ≤ 64))) ∧ w = w' := by
  have hc := h.cell 0
  simp at hc
  by_cases h1 : 1 ≤ n
  · by_cases h2 : n ≤ 64
    · have hd : decide (1 ≤ n ∧ n ≤ 64) = true := by simp; omega
      rw [hd]
      clear hd
      go_enter Try.func97, Try.ntmps97
      go_wp2
      go_ret
      exact ⟨ret_bool (by simp; omega), rfl⟩
    · have hd : decide (1 ≤ n ∧ n ≤ 64) = false := by simp; omega
      rw [hd]
      clear hd
      go_enter Try.func97, Try.ntmps97
      go_wp2
      go_ret
      exact ⟨ret_bool (by simp; omega), rfl⟩
  · have hd : decide (1 ≤ n ∧ n ≤ 64) = false := by simp; omega
    rw [hd]
    clear hd
    go_enter Try.func97, Try.ntmps97
    go_wp2
    go_ret
    exact ⟨rfl, rfl⟩

theorem v4_any (bc be : Nat) (s e : Bool) (A : Option Addr) (n c : Nat) (vs : List Value) (ps : List (List UInt8)) (w : World) (h : Sls w w.heap.size A n c vs ps)
    (hc : Blk w bc 24 #[.bool s, .bool e, .slice A n c]) (he : Blk w be 43 #[.func (.func 94) #[] #[]]) :
    Calls Try.prog 98 #[.pointer (some ⟨bc, 0, none⟩), .pointer (some ⟨be, 0, none⟩)] w fun e w' => e = .returned (.bool (!(ps.any fun p => qEmpty p.length))) ∧ w = w' := by
  have hc2 := hc.cell 2
  have he0 := he.cell 0
  simp at hc2 he0
  have hct := containsempty_any A n c vs ps w h
  have HC := Lib.hid hct
  clear hct
  generalize (ps.any fun p => qEmpty p.length) = r at *
  go_enter Try.func98, Try.ntmps98
  go_wp2_with (go_at_call 99; refine HC.out.mono ?_; rintro e w' ⟨rfl, rfl⟩)
  go_ret
  exact ⟨rfl, rfl⟩

set_option maxHeartbeats 400000 in
theorem v5_any (bc bn bl : Nat) (s e : Bool) (A : Option Addr) (n c : Nat) (vs : List Value) (ps : List (List UInt8)) (w : World) (h : Sls w w.heap.size A n c vs ps)
    (hc : Blk w bc 24 #[.bool s, .bool e, .slice A n c]) (hn : Blk w bn 3 #[.int .i64 n]) (hl : Blk w bl 43 #[.func (.func 95) #[] #[]]) (h1 : 1 ≤ n) :
    Calls Try.prog 100 #[.pointer (some ⟨bc, 0, none⟩), .pointer (some ⟨bn, 0, none⟩), .pointer (some ⟨bl, 0, none⟩)] w fun e w' => e = .returned (.bool (!((ps.take (n - 1)).any fun p => qLong p.length))) ∧ Below w.heap.size w w' := by
  have hc2 := hc.cell 2
  have hn0 := hn.cell 0
  have hl0 := hl.cell 0
  simp at hc2 hn0 hl0
  have hcap := h.sl.cap
  have hmx := h.sl.mx
  obtain ⟨m, rfl⟩ : ∃ m, n = m + 1 := ⟨n - 1, by omega⟩
  have hct := fun W (hW : Sls W W.heap.size A (m + 1) c vs ps) => containslong_any A m m _ _ W (hW.pre (k := m) (by omega))
  have e1 : m + 1 - 1 = m := by omega
  rw [e1]
  generalize ((ps.take m).any fun p => qLong p.length) = r at *
  have HC := Lib.hid hct
  clear hct e1
  have e2 : ((m : Int) + 1 - 1) = m := by omega
  have e3 : IntKind.i64.wrap ((m : Int) + 1 - 1) = m := by rw [e2]; exact IntWalk.i64_in _ (by omega)
  go_enter Try.func100, Try.ntmps100
  go_wp2
  go_quiet ((go_at_call 99; exact Calls.quiet_of_same ((HC.out _ (h.drewN' _)).mono fun _ _ hh => ⟨hh.1, hh.2.symm⟩)))
  go_wp2
  go_ret
  exact ⟨rfl, (Below.refl _ w).drewN _⟩

theorem v6_any (bc : Nat) (s e : Bool) (A : Option Addr) (n c : Nat) (vs : List Value) (ps : List (List UInt8)) (w : World) (h : Sls w w.heap.size A n c vs ps) (hn : n ≤ 1048576) (hle : ∀ p ∈ ps, p.length ≤ 1099511627776)
    (hc : Blk w bc 24 #[.bool s, .bool e, .slice A n c]) :
    Calls Try.prog 101 #[.pointer (some ⟨bc, 0, none⟩)] w fun e w' => e = .returned (.bool (decide (sumLen ps ≤ 32767))) ∧ Below w.heap.size w w' := by
  have hc0 := hc.cell 0
  have hc1 := hc.cell 1
  have hc2 := hc.cell 2
  simp at hc0 hc1 hc2
  have hsz := size_any s e A n c vs ps w h hn hle
  have HZ := Lib.hid hsz
  clear hsz hle
  generalize sumLen ps = S at *
  have hd : decide ((S : Int) ≤ 32767) = decide (S ≤ 32767) := by simp; omega
  generalize hr : decide (S ≤ 32767) = r at *
  clear hr
  go_enter Try.func101, Try.ntmps101
  go_wp2_with (go_at_call 28; refine HZ.out.mono ?_; rintro e w' ⟨rfl, hb⟩)
  go_ret
  first | exact ⟨rfl, hb⟩ | exact ⟨ret_bool hd, hb⟩

theorem not_v3 (bn : Nat) (x : Bool) (w : World) (h : Calls Try.prog 97 #[.pointer (some ⟨bn, 0, none⟩)] w fun e w' => e = .returned (.bool x) ∧ Below w.heap.size w w') :
    Calls Try.prog 152 #[.func (.func 97) #[] #[.pointer (some ⟨bn, 0, none⟩)]] w fun e w' => e = .returned (.bool (!x)) ∧ Below w.heap.size w w' := by
  have H := Lib.hid h
  clear h
  go_enter Try.func152, Try.ntmps152
  go_wp2_with (go_at_call 97; refine H.out.mono ?_; rintro e w' ⟨rfl, hb⟩)
  go_ret
  exact ⟨rfl, hb⟩

theorem not_v4 (bc be : Nat) (x : Bool) (w : World) (h : Calls Try.prog 98 #[.pointer (some ⟨bc, 0, none⟩), .pointer (some ⟨be, 0, none⟩)] w fun e w' => e = .returned (.bool x) ∧ Below w.heap.size w w') :
    Calls Try.prog 152 #[.func (.func 98) #[] #[.pointer (some ⟨bc, 0, none⟩), .pointer (some ⟨be, 0, none⟩)]] w fun e w' => e = .returned (.bool (!x)) ∧ Below w.heap.size w w' := by
  have H := Lib.hid h
  clear h
  go_enter Try.func152, Try.ntmps152
  go_wp2_with (go_at_call 98; refine H.out.mono ?_; rintro e w' ⟨rfl, hb⟩)
  go_ret
  exact ⟨rfl, hb⟩

theorem not_v5 (bc bn bl : Nat) (x : Bool) (w : World) (h : Calls Try.prog 100 #[.pointer (some ⟨bc, 0, none⟩), .pointer (some ⟨bn, 0, none⟩), .pointer (some ⟨bl, 0, none⟩)] w fun e w' => e = .returned (.bool x) ∧ Below w.heap.size w w') :
    Calls Try.prog 152 #[.func (.func 100) #[] #[.pointer (some ⟨bc, 0, none⟩), .pointer (some ⟨bn, 0, none⟩), .pointer (some ⟨bl, 0, none⟩)]] w fun e w' => e = .returned (.bool (!x)) ∧ Below w.heap.size w w' := by
  have H := Lib.hid h
  clear h
  go_enter Try.func152, Try.ntmps152
  go_wp2_with (go_at_call 100; refine H.out.mono ?_; rintro e w' ⟨rfl, hb⟩)
  go_ret
  exact ⟨rfl, hb⟩

theorem not_v6 (bc : Nat) (x : Bool) (w : World) (h : Calls Try.prog 101 #[.pointer (some ⟨bc, 0, none⟩)] w fun e w' => e = .returned (.bool x) ∧ Below w.heap.size w w') :
    Calls Try.prog 152 #[.func (.func 101) #[] #[.pointer (some ⟨bc, 0, none⟩)]] w fun e w' => e = .returned (.bool (!x)) ∧ Below w.heap.size w w' := by
  have H := Lib.hid h
  clear h
  go_enter Try.func152, Try.ntmps152
  go_wp2_with (go_at_call 101; refine H.out.mono ?_; rintro e w' ⟨rfl, hb⟩)
  go_ret
  exact ⟨rfl, hb⟩

/-- The four conditions, called one after the other. -/
theorem valid_all (bc bn be bl b : Nat) (s e : Bool) (A : Option Addr) (n c : Nat) (vs : List Value) (ps : List (List UInt8)) (w : World) (h : Sls w w.heap.size A n c vs ps) (hn : n ≤ 1048576) (hle : ∀ p ∈ ps, p.length ≤ 1099511627776)
    (hbc : Blk w bc 24 #[.bool s, .bool e, .slice A n c]) (hbn : Blk w bn 3 #[.int .i64 n]) (hbe : Blk w be 43 #[.func (.func 94) #[] #[]]) (hbl : Blk w bl 43 #[.func (.func 95) #[] #[]])
    (hb : Blk w b 28 #[.func (.func 97) #[] #[.pointer (some ⟨bn, 0, none⟩)], .func (.func 98) #[] #[.pointer (some ⟨bc, 0, none⟩), .pointer (some ⟨be, 0, none⟩)],
      .func (.func 100) #[] #[.pointer (some ⟨bc, 0, none⟩), .pointer (some ⟨bn, 0, none⟩), .pointer (some ⟨bl, 0, none⟩)], .func (.func 101) #[] #[.pointer (some ⟨bc, 0, none⟩)]]) :
    Calls Try.prog 96 #[.slice (some ⟨b, 0, none⟩) 4 4] w fun e w' => e = .returned (.bool (validB ps)) ∧ Below w.heap.size w w' := by
  refine all_any b [.func (.func 97) #[] #[.pointer (some ⟨bn, 0, none⟩)], .func (.func 98) #[] #[.pointer (some ⟨bc, 0, none⟩), .pointer (some ⟨be, 0, none⟩)],
      .func (.func 100) #[] #[.pointer (some ⟨bc, 0, none⟩), .pointer (some ⟨bn, 0, none⟩), .pointer (some ⟨bl, 0, none⟩)], .func (.func 101) #[] #[.pointer (some ⟨bc, 0, none⟩)]] (vConds ps) (fun W => Below w.heap.size w W) w ?_
  refine containsAll_any b _ (vConds ps) (fun W => Below w.heap.size w W) w ?_
  refine indexAll_any b _ (vConds ps) (fun W => Below w.heap.size w W) w rfl (by simp) (fun W hW => hb.below hW hb.lt) ?_ (Below.refl _ _)
  have hl := h.len
  intro i fv x W hfv hx hpre hW
  have hS := (h.below hW).more hW.size
  have key : Calls Try.prog 152 #[fv] W fun e W' => e = .returned (.bool (!x)) ∧ Below W.heap.size W W' := by
    match i, hfv, hx, hpre with
    | 0, hfv, hx, _ =>
      simp only [vConds, List.getElem?_cons_zero, Option.some.injEq] at hfv hx
      subst hfv hx
      refine not_v3 bn _ W ((v3_any bn n W (hbn.below hW hbn.lt)).mono fun e W' hh => ⟨?_, by rw [← hh.2]; exact Below.refl _ _⟩)
      rw [hh.1, hl]
    | 1, hfv, hx, _ =>
      simp only [vConds, List.getElem?_cons_zero, List.getElem?_cons_succ, Option.some.injEq] at hfv hx
      subst hfv hx
      exact not_v4 bc be _ W ((v4_any bc be s e A n c vs ps W hS (hbc.below hW hbc.lt) (hbe.below hW hbe.lt)).mono fun e W' hh => ⟨hh.1, by rw [← hh.2]; exact Below.refl _ _⟩)
    | 2, hfv, hx, hpre =>
      have h1 : 1 ≤ n := by
        have := hpre (decide (1 ≤ ps.length ∧ ps.length ≤ 64)) (by simp [vConds])
        simp at this
        omega
      simp only [vConds, List.getElem?_cons_zero, List.getElem?_cons_succ, Option.some.injEq] at hfv hx
      subst hfv hx
      rw [hl]
      exact not_v5 bc bn bl _ W (v5_any bc bn bl s e A n c vs ps W hS (hbc.below hW hbc.lt) (hbn.below hW hbn.lt) (hbl.below hW hbl.lt) h1)
    | 3, hfv, hx, _ =>
      simp only [vConds, List.getElem?_cons_zero, List.getElem?_cons_succ, Option.some.injEq] at hfv hx
      subst hfv hx
      exact not_v6 bc _ W (v6_any bc s e A n c vs ps W hS hn hle (hbc.below hW hbc.lt))
    | i + 4, hfv, _, _ => simp at hfv
  exact key.mono fun e W' hh => ⟨hh.1, hW.trans (hh.2.mono hW.size)⟩

set_option maxHeartbeats 800000 in
/-- Valid answers whether the chunk is valid. -/
theorem valid_any (s e : Bool) (A : Option Addr) (n c : Nat) (vs : List Value) (ps : List (List UInt8)) (w : World) (h : Sls w w.heap.size A n c vs ps) (hn : n ≤ 1048576) (hle : ∀ p ∈ ps, p.length ≤ 1099511627776) :
    Calls Try.prog 29 #[.agg #[.bool s, .bool e, .slice A n c]] w fun e w' => e = .returned (.bool (validB ps)) ∧ Below w.heap.size w w' := by
  have HLE := Lib.hid hle
  clear hle
  have hK := ((((Kept.refl (fun k _ => w.heap.size ≤ k) w).alloc (.cells #[.bool s, .bool e, .slice A n c] 24)).alloc (.cells #[.int .i64 n] 3)).alloc (.cells #[.func (.func 94) #[] #[]] 43)).alloc (.cells #[.func (.func 95) #[] #[]] 43)
  have hB := (hK.alloc (.cells #[.func (.func 97) #[] #[.pointer (some ⟨w.heap.size + 1, 0, none⟩)], .func (.func 98) #[] #[.pointer (some ⟨w.heap.size, 0, none⟩), .pointer (some ⟨w.heap.size + 1 + 1, 0, none⟩)],
      .func (.func 100) #[] #[.pointer (some ⟨w.heap.size, 0, none⟩), .pointer (some ⟨w.heap.size + 1, 0, none⟩), .pointer (some ⟨w.heap.size + 1 + 1 + 1, 0, none⟩)], .func (.func 101) #[] #[.pointer (some ⟨w.heap.size, 0, none⟩)]] 28)).below (B := w.heap.size) (fun _ _ h => h) (Nat.le_refl _)
  clear hK
  have b0 := Blk.new w 24 #[.bool s, .bool e, .slice A n c]
  have b1 := Blk.new (w.alloc (.cells #[.bool s, .bool e, .slice A n c] 24)) 3 #[.int .i64 n]
  have b2 := Blk.new ((w.alloc (.cells #[.bool s, .bool e, .slice A n c] 24)).alloc (.cells #[.int .i64 n] 3)) 43 #[.func (.func 94) #[] #[]]
  have b3 := Blk.new (((w.alloc (.cells #[.bool s, .bool e, .slice A n c] 24)).alloc (.cells #[.int .i64 n] 3)).alloc (.cells #[.func (.func 94) #[] #[]] 43)) 43 #[.func (.func 95) #[] #[]]
  have b4 := Blk.new ((((w.alloc (.cells #[.bool s, .bool e, .slice A n c] 24)).alloc (.cells #[.int .i64 n] 3)).alloc (.cells #[.func (.func 94) #[] #[]] 43)).alloc (.cells #[.func (.func 95) #[] #[]] 43)) 28 #[.func (.func 97) #[] #[.pointer (some ⟨w.heap.size + 1, 0, none⟩)], .func (.func 98) #[] #[.pointer (some ⟨w.heap.size, 0, none⟩), .pointer (some ⟨w.heap.size + 1 + 1, 0, none⟩)],
      .func (.func 100) #[] #[.pointer (some ⟨w.heap.size, 0, none⟩), .pointer (some ⟨w.heap.size + 1, 0, none⟩), .pointer (some ⟨w.heap.size + 1 + 1 + 1, 0, none⟩)], .func (.func 101) #[] #[.pointer (some ⟨w.heap.size, 0, none⟩)]]
  simp only [World.size_alloc] at b1 b2 b3 b4
  have hall := valid_all w.heap.size (w.heap.size + 1) (w.heap.size + 1 + 1) (w.heap.size + 1 + 1 + 1) (w.heap.size + 1 + 1 + 1 + 1) s e A n c vs ps _ ((h.below hB).more hB.size) hn HLE.out ((((b0.alloc _).alloc _).alloc _).alloc _) (((b1.alloc _).alloc _).alloc _) ((b2.alloc _).alloc _) (b3.alloc _) b4
  have HALL := Lib.hid hall
  have HB := Lib.hid hB
  clear hall b0 b1 b2 b3 b4 hB
  generalize validB ps = r at *
  go_enter Try.func29, Try.ntmps29
  go_wp2_with (go_at_call 96; refine HALL.out.mono ?_; rintro e w' ⟨rfl, hb⟩)
  go_ret
  exact ⟨rfl, HB.out.trans (hb.mono HB.out.size)⟩
end Go.Proofs.Ytchlbpfeiamieaa
