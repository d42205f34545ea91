/- law30.UmpduSame: the walk. -/
import Derived.Test.YtchlbpfeiamieaaE1
import Derived.Test.YtchlbpfeiamieaaL1
namespace Go.Proofs.Ytchlbpfeiamieaa
open Go.RowKit

theorem sameC_refl (s e : Bool) (ps : List (List UInt8)) : sameC s e ps s e ps = true := by simp [sameC]
theorem sameC_comm (s e : Bool) (ps : List (List UInt8)) (s' e' : Bool) (ps' : List (List UInt8)) : sameC s' e' ps' s e ps = sameC s e ps s' e' ps' := by
  unfold sameC
  rw [decide_eq_decide]
  constructor <;> (rintro ⟨rfl, rfl, rfl⟩; exact ⟨rfl, rfl, rfl⟩)

theorem Blk.three {w : World} {g : Nat} {t : TypeId} {x y z : Value} (b : Blk w g t #[x, y, z]) : w.cell? ⟨g, 0, none⟩ = some x ∧ w.cell? ⟨g, 1, none⟩ = some y ∧ w.cell? ⟨g, 2, none⟩ = some z :=
  ⟨b.cell 0, b.cell 1, b.cell 2⟩
set_option maxHeartbeats 1600000 in
theorem umpduSame_walk (s e : Bool) (A : Option Addr) (n c : Nat) (vs : List Value) (ps : List (List UInt8)) (s' e' : Bool) (A' : Option Addr) (n' c' : Nat) (vs' : List Value) (ps' : List (List UInt8)) (w : World) (h : Sls w w.heap.size A n c vs ps) (h' : Sls w w.heap.size A' n' c' vs' ps') :
    Calls Try.prog 5 #[.agg #[.bool s, .bool e, .slice A n c], .agg #[.bool s', .bool e', .slice A' n' c']] w (IsTrue w) := by
  have hB := ((Below.refl w.heap.size w).alloc (Nat.le_refl _) (.cells #[.bool s, .bool e, .slice A n c] 24)).alloc (by simp) (.cells #[.bool s', .bool e', .slice A' n' c'] 24)
  have b0 := (Blk.new w 24 #[.bool s, .bool e, .slice A n c]).alloc (.cells #[.bool s', .bool e', .slice A' n' c'] 24)
  have b1 := Blk.new (w.alloc (.cells #[.bool s, .bool e, .slice A n c] 24)) 24 #[.bool s', .bool e', .slice A' n' c']
  rw [World.size_alloc] at b1
  have hA := (h.below hB).more hB.size
  have hA' := (h'.below hB).more hB.size
  go_enter Try.func5, Try.ntmps5
  go_wp2_with fail
  generalize (w.alloc (.cells #[.bool s, .bool e, .slice A n c] 24)).alloc (.cells #[.bool s', .bool e', .slice A' n' c'] 24) = w1 at *
  refine (few_any s e A n c vs ps w1 hA).mono ?_
  rintro e1 w2 ⟨⟨r1, rfl, _⟩, hb1⟩
  have hB1 : Below w.heap.size w w2 := hB.trans (hb1.mono hB.size)
  have hsz1 := hb1.size
  have hA1 := (hA.below hb1).more hsz1
  have hA1' := (hA'.below hb1).more hsz1
  have d0 := b0.below hb1 b0.lt
  have d1 := b1.below hb1 b1.lt
  clear hb1 hA hA' b0 b1 hB hsz1
  have b0 := d0
  have b1 := d1
  cases r1 with
  | false =>
    go_wp2_with (go_at_call 18; refine (works_any _).mono ?_; rintro e2 w3 ⟨rfl, hb2⟩)
    go_ret
    exact ⟨rfl, hB1.trans (hb2.mono hB1.size)⟩
  | true =>
    obtain ⟨x0, x1, x2⟩ := b1.three
    go_wp2_with fail
    refine (few_any s' e' A' n' c' vs' ps' w2 hA1').mono ?_
    rintro e1 w3 ⟨⟨r2, rfl, _⟩, hb2⟩
    have hB2 : Below w.heap.size w w3 := hB1.trans (hb2.mono hB1.size)
    have hsz2 := hb2.size
    have hA2 := (hA1.below hb2).more hsz2
    have hA2' := (hA1'.below hb2).more hsz2
    have d0 := b0.below hb2 b0.lt
    have d1 := b1.below hb2 b1.lt
    clear hb2 hA1 hA1' b0 b1 hB1 hsz2 x0 x1 x2
    have b0 := d0
    have b1 := d1
    cases r2 with
    | false =>
      go_wp2_with (go_at_call 18; refine (works_any _).mono ?_; rintro e2 w4 ⟨rfl, hb3⟩)
      go_ret
      exact ⟨rfl, hB2.trans (hb3.mono hB2.size)⟩
    | true =>
      obtain ⟨x0, x1, x2⟩ := b0.three
      obtain ⟨y0, y1, y2⟩ := b1.three
      go_wp2_with fail
      refine (sameR_any s e A n c vs ps s' e' A' n' c' vs' ps' w3 hA2 hA2').mono ?_
      rintro e1 w4 ⟨rfl, hb2⟩
      have hB3 : Below w.heap.size w w4 := hB2.trans (hb2.mono hB2.size)
      have hsz2 := hb2.size
      have hA3 := (hA2.below hb2).more hsz2
      have hA3' := (hA2'.below hb2).more hsz2
      have d0 := b0.below hb2 b0.lt
      have d1 := b1.below hb2 b1.lt
      clear hb2 hA2 hA2' b0 b1 hB2 hsz2 x0 x1 x2 y0 y1 y2
      have b0 := d0
      have b1 := d1
      obtain ⟨x0, x1, x2⟩ := b0.three
      obtain ⟨y0, y1, y2⟩ := b1.three
      go_wp2_with fail
      refine (sameU_any s e A n c vs ps s' e' A' n' c' vs' ps' w4 hA3 hA3').mono ?_
      rintro e1 w5 ⟨rfl, hb2⟩
      have hB4 : Below w.heap.size w w5 := hB3.trans (hb2.mono hB3.size)
      have hsz2 := hb2.size
      have hA4 := (hA3.below hb2).more hsz2
      have hA4' := (hA3'.below hb2).more hsz2
      have d0 := b0.below hb2 b0.lt
      have d1 := b1.below hb2 b1.lt
      clear hb2 hA3 hA3' b0 b1 hB3 hsz2 x0 x1 x2 y0 y1 y2
      have b0 := d0
      have b1 := d1
      obtain ⟨x0, x1, x2⟩ := b0.three
      obtain ⟨y0, y1, y2⟩ := b1.three
      have hcm := sameC_comm s e ps s' e' ps'
      have hsu := sameU_any s' e' A' n' c' vs' ps' s e A n c vs ps w5 hA4' hA4
      rw [hcm] at hsu
      clear hcm
      generalize sameC s e ps s' e' ps' = r at *
      have hrr : (r == r) = true := by simp
      go_wp2_with fail
      refine hsu.mono ?_
      rintro e1 w6 ⟨rfl, hb2⟩
      have hB5 : Below w.heap.size w w6 := hB4.trans (hb2.mono hB4.size)
      have hsz2 := hb2.size
      have hA5 := (hA4.below hb2).more hsz2
      have d0 := b0.below hb2 b0.lt
      clear hb2 hA4 hA4' b0 b1 hB4 hsz2 x0 x1 x2 y0 y1 y2 hsu
      have b0 := d0
      obtain ⟨x0, x1, x2⟩ := b0.three
      have hsu := sameU_any s e A n c vs ps s e A n c vs ps w6 hA5 hA5
      rw [sameC_refl] at hsu
      go_wp2_with fail
      refine hsu.mono ?_
      rintro e1 w7 ⟨rfl, hb2⟩
      have hB6 : Below w.heap.size w w7 := hB5.trans (hb2.mono hB5.size)
      clear hb2 hsu hB5 hA5 b0 x0 x1 x2
      go_wp2_with (go_at_call 18; refine (works_any _).mono ?_; rintro e2 w8 ⟨rfl, hb3⟩)
      go_ret
      exact ⟨rfl, hB6.trans (hb3.mono hB6.size)⟩
end Go.Proofs.Ytchlbpfeiamieaa
