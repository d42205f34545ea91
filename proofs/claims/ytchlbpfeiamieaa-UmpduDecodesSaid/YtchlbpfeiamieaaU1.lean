/- umpdu.Valid: the two predicates, IndexFunc, ContainsFunc. Printed by wip/gen_u1.py. -/
import Derived.Test.YtchlbpfeiamieaaU0
namespace Go.Proofs.Ytchlbpfeiamieaa
open Go.RowKit

def qEmpty (n : Nat) : Bool := decide (n = 0)
def qLong (n : Nat) : Bool := decide (2047 < n)
/-- IndexFunc's answer: an index where the predicate holds, or -1 where it holds nowhere. -/
def IdxIs (q : List UInt8 → Bool) (ps : List (List UInt8)) (w : World) (e : Ending) (w' : World) : Prop :=
  (∃ k : Nat, e = .returned (.int .i64 k) ∧ (∃ p ∈ ps, q p = true) ∧ w = w') ∨ (e = .returned (.int .i64 (-1)) ∧ (∀ p ∈ ps, q p = false) ∧ w = w')


theorem empty_any (A : Option Addr) (n c : Nat) (w : World) : Calls Try.prog 94 #[.slice A n c] w fun e w' => e = .returned (.bool (qEmpty n)) ∧ w = w' := by
  have hd : ((n : Int) == 0) = qEmpty n := by unfold qEmpty; rw [Bool.eq_iff_iff]; simp; try omega
  generalize qEmpty n = r at *
  go_enter Try.func94, Try.ntmps94
  go_wp2
  go_ret
  first | exact ⟨rfl, rfl⟩ | exact ⟨ret_bool hd, rfl⟩

set_option maxHeartbeats 400000 in
theorem indexempty_any (A : Option Addr) (n c : Nat) (vs : List Value) (ps : List (List UInt8)) (w : World) (h : Sls w w.heap.size A n c vs ps) :
    Calls Try.prog 153 #[.slice A n c, .func (.func 94) #[] #[]] w (IdxIs (fun p => qEmpty p.length) ps w) := by
  have HL := Lib.hid h.len
  have hn63 : n ≤ 9223372036854775807 := by have := h.sl.cap; have := h.sl.mx; omega
  go_enter Try.func153, Try.ntmps153
  go_wp2
  go_loop [8] (fun i => ∃ k : Nat, k ≤ n ∧ i = .int .i64 k ∧ ∀ p ∈ ps.take k, qEmpty p.length = false) (fun i => n - (intOf i).toNat)
  case atStart => exact ⟨0, Nat.zero_le _, rfl, by simp⟩
  case round =>
    obtain ⟨k, hk, rfl, hall⟩ := hrel
    have HA := Lib.hid hall
    clear hall
    by_cases hlt : k < n
    · obtain ⟨ad, Ai, ci, rfl, hb, hc, hsl⟩ := h.get hlt
      have hkl : k < ps.length := by rw [HL.out]; exact hlt
      have hin : ps[k]?.getD [] ∈ ps := by rw [List.getElem?_eq_getElem hkl]; exact List.getElem_mem _
      have htk : ps.take (k + 1) = ps.take k ++ [ps[k]?.getD []] := by rw [List.take_add_one, List.getElem?_eq_getElem hkl]; rfl
      generalize ps[k]?.getD [] = p at *
      have HT := Lib.hid htk
      have HI := Lib.hid hin
      clear htk hin hkl
      cases hq : qEmpty p.length with
      | false =>
        have HQ := Lib.hid hq
        have hfv := empty_any Ai p.length ci w
        rw [hq] at hfv
        have HF := Lib.hid hfv
        clear hfv hq
        go_wp2_with (go_at_call 94; refine HF.out.mono ?_; rintro e w' ⟨rfl, rfl⟩)
        go_round
        case rel => exact ⟨k + 1, by omega, by go_num, by
          intro q hq
          rw [HT.out, List.mem_append] at hq
          rcases hq with hq | hq
          · exact HA.out q hq
          · rw [List.mem_singleton] at hq; rw [hq]; exact HQ.out⟩
        case measure => simp [intOf]; omega
      | true =>
        have HQ := Lib.hid hq
        have hfv := empty_any Ai p.length ci w
        rw [hq] at hfv
        have HF := Lib.hid hfv
        clear hfv hq
        go_wp2_with (go_at_call 94; refine HF.out.mono ?_; rintro e w' ⟨rfl, rfl⟩)
        go_ret
        exact .inl ⟨k, rfl, ⟨p, HI.out, HQ.out⟩, rfl⟩
    · have e : ps.take k = ps := List.take_of_length_le (by rw [HL.out]; omega)
      have hA := HA.out
      rw [e] at hA
      have HA' := Lib.hid hA
      clear hA e
      go_wp2
      go_ret
      exact .inr ⟨rfl, HA'.out, rfl⟩

theorem containsempty_any (A : Option Addr) (n c : Nat) (vs : List Value) (ps : List (List UInt8)) (w : World) (h : Sls w w.heap.size A n c vs ps) :
    Calls Try.prog 99 #[.slice A n c, .func (.func 94) #[] #[]] w fun e w' => e = .returned (.bool (ps.any fun p => qEmpty p.length)) ∧ w = w' := by
  go_enter Try.func99, Try.ntmps99
  go_wp2_with fail
  refine (indexempty_any A n c vs ps w h).mono ?_
  rintro e w' (⟨k, rfl, ⟨p, hp, hq⟩, rfl⟩ | ⟨rfl, hall, rfl⟩)
  · have hany : (ps.any fun p => qEmpty p.length) = true := by rw [List.any_eq_true]; exact ⟨p, hp, hq⟩
    have HA := Lib.hid hany
    clear hany
    go_wp2
    go_ret
    exact ⟨ret_bool (by rw [HA.out]), rfl⟩
  · have hany : (ps.any fun p => qEmpty p.length) = false := by rw [List.any_eq_false]; intro p hp; have := hall p hp; dsimp only at this; rw [this]; simp
    have HA := Lib.hid hany
    clear hany hall
    go_wp2
    go_ret
    exact ⟨ret_bool (by rw [HA.out]), rfl⟩


theorem long_any (A : Option Addr) (n c : Nat) (w : World) : Calls Try.prog 95 #[.slice A n c] w fun e w' => e = .returned (.bool (qLong n)) ∧ w = w' := by
  have hd : (decide (2047 < (n : Int))) = qLong n := by unfold qLong; rw [Bool.eq_iff_iff]; simp; try omega
  generalize qLong n = r at *
  go_enter Try.func95, Try.ntmps95
  go_wp2
  go_ret
  first | exact ⟨rfl, rfl⟩ | exact ⟨ret_bool hd, rfl⟩

set_option maxHeartbeats 400000 in
theorem indexlong_any (A : Option Addr) (n c : Nat) (vs : List Value) (ps : List (List UInt8)) (w : World) (h : Sls w w.heap.size A n c vs ps) :
    Calls Try.prog 153 #[.slice A n c, .func (.func 95) #[] #[]] w (IdxIs (fun p => qLong p.length) ps w) := by
  have HL := Lib.hid h.len
  have hn63 : n ≤ 9223372036854775807 := by have := h.sl.cap; have := h.sl.mx; omega
  go_enter Try.func153, Try.ntmps153
  go_wp2
  go_loop [8] (fun i => ∃ k : Nat, k ≤ n ∧ i = .int .i64 k ∧ ∀ p ∈ ps.take k, qLong p.length = false) (fun i => n - (intOf i).toNat)
  case atStart => exact ⟨0, Nat.zero_le _, rfl, by simp⟩
  case round =>
    obtain ⟨k, hk, rfl, hall⟩ := hrel
    have HA := Lib.hid hall
    clear hall
    by_cases hlt : k < n
    · obtain ⟨ad, Ai, ci, rfl, hb, hc, hsl⟩ := h.get hlt
      have hkl : k < ps.length := by rw [HL.out]; exact hlt
      have hin : ps[k]?.getD [] ∈ ps := by rw [List.getElem?_eq_getElem hkl]; exact List.getElem_mem _
      have htk : ps.take (k + 1) = ps.take k ++ [ps[k]?.getD []] := by rw [List.take_add_one, List.getElem?_eq_getElem hkl]; rfl
      generalize ps[k]?.getD [] = p at *
      have HT := Lib.hid htk
      have HI := Lib.hid hin
      clear htk hin hkl
      cases hq : qLong p.length with
      | false =>
        have HQ := Lib.hid hq
        have hfv := long_any Ai p.length ci w
        rw [hq] at hfv
        have HF := Lib.hid hfv
        clear hfv hq
        go_wp2_with (go_at_call 95; refine HF.out.mono ?_; rintro e w' ⟨rfl, rfl⟩)
        go_round
        case rel => exact ⟨k + 1, by omega, by go_num, by
          intro q hq
          rw [HT.out, List.mem_append] at hq
          rcases hq with hq | hq
          · exact HA.out q hq
          · rw [List.mem_singleton] at hq; rw [hq]; exact HQ.out⟩
        case measure => simp [intOf]; omega
      | true =>
        have HQ := Lib.hid hq
        have hfv := long_any Ai p.length ci w
        rw [hq] at hfv
        have HF := Lib.hid hfv
        clear hfv hq
        go_wp2_with (go_at_call 95; refine HF.out.mono ?_; rintro e w' ⟨rfl, rfl⟩)
        go_ret
        exact .inl ⟨k, rfl, ⟨p, HI.out, HQ.out⟩, rfl⟩
    · have e : ps.take k = ps := List.take_of_length_le (by rw [HL.out]; omega)
      have hA := HA.out
      rw [e] at hA
      have HA' := Lib.hid hA
      clear hA e
      go_wp2
      go_ret
      exact .inr ⟨rfl, HA'.out, rfl⟩

theorem containslong_any (A : Option Addr) (n c : Nat) (vs : List Value) (ps : List (List UInt8)) (w : World) (h : Sls w w.heap.size A n c vs ps) :
    Calls Try.prog 99 #[.slice A n c, .func (.func 95) #[] #[]] w fun e w' => e = .returned (.bool (ps.any fun p => qLong p.length)) ∧ w = w' := by
  go_enter Try.func99, Try.ntmps99
  go_wp2_with fail
  refine (indexlong_any A n c vs ps w h).mono ?_
  rintro e w' (⟨k, rfl, ⟨p, hp, hq⟩, rfl⟩ | ⟨rfl, hall, rfl⟩)
  · have hany : (ps.any fun p => qLong p.length) = true := by rw [List.any_eq_true]; exact ⟨p, hp, hq⟩
    have HA := Lib.hid hany
    clear hany
    go_wp2
    go_ret
    exact ⟨ret_bool (by rw [HA.out]), rfl⟩
  · have hany : (ps.any fun p => qLong p.length) = false := by rw [List.any_eq_false]; intro p hp; have := hall p hp; dsimp only at this; rw [this]; simp
    have HA := Lib.hid hany
    clear hany hall
    go_wp2
    go_ret
    exact ⟨ret_bool (by rw [HA.out]), rfl⟩

end Go.Proofs.Ytchlbpfeiamieaa
