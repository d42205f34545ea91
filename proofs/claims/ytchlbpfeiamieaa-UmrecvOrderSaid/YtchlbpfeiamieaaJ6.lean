/- law31: num, same, submits; umsend: Next. -/
import Derived.Test.YtchlbpfeiamieaaJ5
namespace Go.Proofs.Ytchlbpfeiamieaa
open Go.RowKit Go.Shelf
attribute [local go_sem] Oper.semAt_some

theorem numS_any (x : Int) (w : World) : Calls Try.prog 59 #[.int .i64 x] w fun e w' => e = .returned (.int .i64 x) ∧ w = w' := by
  go_enter Try.func59, Try.ntmps59
  go_wp2
  go_ret
  exact ⟨rfl, rfl⟩
theorem snext_any (g n : Nat) (v x : Value) (k : Int) (w : World) (hb : Blk w g 175 #[v, x, .int .i64 n, .int .i64 k]) (hn : 1 ≤ n) : Calls Try.prog 129 #[.pointer (some ⟨g, 0, none⟩)] w fun e w' => e = .returned (.int .i64 k) ∧ w = w' := by
  have hno := snone_any g n _ _ _ w hb hn
  obtain ⟨x0, x1, x2, x3⟩ := hb.four'
  have HN := Lib.hid hno
  clear hno
  go_enter Try.func129, Try.ntmps129
  go_wp2_with (go_at_call 131; refine HN.out.mono ?_; rintro e1 w1 ⟨rfl, rfl⟩)
  go_ret
  exact ⟨rfl, rfl⟩
theorem submits_any (A : Option Addr) (n c : Nat) (b : Bool) (k : Int) (w : World) (_hnc : n ≤ c) (_hc : c ≤ 9223372036854775807) :
    Calls Try.prog 60 #[.agg #[.slice A n c, .bool b, .int .i64 k]] w fun e w' => e = .returned (.bool (decide (0 < n) || b)) ∧ Below w.heap.size w w' := by
  by_cases h0 : 0 < n
  · have d : decide ((0 : Int) < n) = true := by simp; omega
    have e1 : (decide (0 < n) || b) = true := by simp [h0]
    rw [e1]
    clear e1
    go_enter Try.func60, Try.ntmps60
    go_wp2
    go_ret
    exact ⟨rfl, (Below.refl _ _).alloc (Nat.le_refl _) _⟩
  · have d : decide ((0 : Int) < n) = false := by simp; omega
    have e1 : (decide (0 < n) || b) = b := by simp [h0]
    rw [e1]
    clear e1
    go_enter Try.func60, Try.ntmps60
    go_wp2
    go_ret
    exact ⟨rfl, (Below.refl _ _).alloc (Nat.le_refl _) _⟩
theorem sameS_any (A : Option Addr) (n c : Nat) (l : List UInt8) (A' : Option Addr) (n' c' : Nat) (l' : List UInt8) (w : World) (B B' : Nat) (h : Sl w B A n c (bvs l)) (h' : Sl w B' A' n' c' (bvs l')) :
    Calls Try.prog 63 #[.slice A n c, .slice A' n' c'] w fun e w' => e = .returned (.bool (decide (l = l'))) ∧ w = w' := by
  have k := conv_sl h
  have k' := conv_sl h'
  have hd : (l == l') = decide (l = l') := by rw [Bool.eq_iff_iff]; simp
  generalize decide (l = l') = r at *
  go_enter Try.func63, Try.ntmps63
  go_wp2
  go_ret
  exact ⟨rfl, rfl⟩
end Go.Proofs.Ytchlbpfeiamieaa
