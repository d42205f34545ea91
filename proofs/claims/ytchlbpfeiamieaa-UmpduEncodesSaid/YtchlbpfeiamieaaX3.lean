/- The reference of layer 30: Size, Valid, Framing. -/
import Derived.Test.YtchlbpfeiamieaaX2
namespace Go.Proofs.Ytchlbpfeiamieaa
open Go.RowKit

theorem sumLen_bound (ps : List (List UInt8)) (M : Nat) (h : ∀ p ∈ ps, p.length ≤ M) : sumLen ps ≤ M * ps.length := by
  induction ps with
  | nil => simp [sumLen]
  | cons p ps ih =>
    have h1 := h p (by simp)
    have h2 := ih (fun q hq => h q (by simp [hq]))
    unfold sumLen at h2 ⊢
    rw [List.map_cons, List.sum_cons, List.length_cons, Nat.mul_succ]
    omega

/-- a call answers a number and keeps what lay -/
def Numbers (x : Int) (w : World) (e : Ending) (w' : World) : Prop := e = .returned (.int .i64 x) ∧ Below w.heap.size w w'

set_option maxHeartbeats 400000 in
theorem rsize_any (s e : Bool) (A : Option Addr) (n c : Nat) (vs : List Value) (ps : List (List UInt8)) (w : World) (h : Sls w w.heap.size A n c vs ps) (hn : n ≤ 1048576) (hle : ∀ p ∈ ps, p.length ≤ 1099511627776) :
    Calls Try.prog 55 #[.agg #[.bool s, .bool e, .slice A n c]] w (Numbers (sumLen ps) w) := by
  have HL := Lib.hid h.len
  have hA := h.alloc (Nat.le_refl _) (.cells #[.bool s, .bool e, .slice A n c] 24)
  have hsum : sumLen ps ≤ 1152921504606846976 := by
    have := sumLen_bound ps _ hle
    have h2 := HL.out
    have : 1099511627776 * ps.length ≤ 1099511627776 * 1048576 := Nat.mul_le_mul_left _ (by omega)
    omega
  have HSM := Lib.hid hsum
  clear hle hsum
  go_enter Try.func55, Try.ntmps55
  go_wp2
  go_loop [3, 4] (fun t i => ∃ k : Nat, k ≤ n ∧ i = .int .i64 k ∧ t = .int .i64 (sumLen (ps.take k))) (fun _ i => n - (intOf i).toNat)
  case atStart => exact ⟨0, Nat.zero_le _, rfl, rfl⟩
  case round =>
    obtain ⟨k, hk, rfl, rfl⟩ := hrel
    by_cases hlt : k < n
    · obtain ⟨ad, Ai, ci, rfl, hb, hc, hsl⟩ := hA.get hlt
      have hs1 := sumLen_take ps k (by rw [HL.out]; exact hlt)
      have hle1 := Nat.le_trans (sumLen_take_le ps (k + 1)) HSM.out
      generalize ps[k]?.getD [] = p at *
      generalize sumLen (List.take k ps) = S at *
      have hle2 : S + p.length ≤ 1152921504606846976 := by omega
      have HS := Lib.hid hs1
      clear hs1 hle1
      go_wp2
      go_round
      case rel => exact ⟨k + 1, by omega, by go_num, by rw [HS.out]; go_num⟩
      case measure => simp [intOf]; omega
    · have e : ps.take k = ps := List.take_of_length_le (by rw [HL.out]; omega)
      rw [e]
      clear e
      go_wp2
      go_ret
      exact ⟨rfl, (Below.refl _ _).alloc (Nat.le_refl _) _⟩

/-- the first k parts are as they must be -/
def partsOk (ps : List (List UInt8)) (k : Nat) : Prop := ∀ i, i < k → 1 ≤ (ps[i]?.getD []).length ∧ (i + 1 < ps.length → (ps[i]?.getD []).length ≤ 2047)
theorem validB_end (ps : List (List UInt8)) (h1 : 1 ≤ ps.length) (h2 : ps.length ≤ 64) (h : partsOk ps ps.length) : validB ps = decide (sumLen ps ≤ 32767) := by
  rw [Bool.eq_iff_iff, validB_iff]
  simp only [decide_eq_true_eq]
  constructor
  · exact fun hv => hv.sum
  · intro hs
    refine ⟨h1, h2, fun p hp => ?_, fun i hi => (h i (by omega)).2 hi, hs⟩
    obtain ⟨i, hi, rfl⟩ := List.mem_iff_getElem.1 hp
    have := (h i hi).1
    rwa [List.getElem?_eq_getElem hi] at this
theorem validB_no (ps : List (List UInt8)) (k : Nat) (hk : k < ps.length) (h : (ps[k]?.getD []).length < 1 ∨ 32767 < (ps[k]?.getD []).length ∨ (k + 1 < ps.length ∧ 2047 < (ps[k]?.getD []).length)) : validB ps = false := by
  rw [← Bool.not_eq_true, validB_iff]
  intro hv
  have hm : ps[k]?.getD [] ∈ ps := by rw [List.getElem?_eq_getElem hk]; exact List.getElem_mem hk
  have h1 := hv.pos _ hm
  have h2 := mem_le_sumLen hm
  have h3 := hv.sum
  rcases h with h | h | ⟨h, h'⟩
  · omega
  · omega
  · have := hv.short k h; omega
theorem partsOk_succ (ps : List (List UInt8)) (k : Nat) (h : partsOk ps k) (h1 : 1 ≤ (ps[k]?.getD []).length) (h2 : k + 1 < ps.length → (ps[k]?.getD []).length ≤ 2047) : partsOk ps (k + 1) := fun i hi => by
  rcases Nat.lt_or_ge i k with hk | hk
  · exact h i hk
  · obtain rfl : i = k := by omega
    exact ⟨h1, h2⟩
/-- a call answers b and keeps what lay -/
def Tells' (b : Bool) (w : World) (e : Ending) (w' : World) : Prop := e = .returned (.bool b) ∧ Below w.heap.size w w'

set_option maxHeartbeats 1600000 in
theorem rvalid_any (s e : Bool) (A : Option Addr) (n c : Nat) (vs : List Value) (ps : List (List UInt8)) (w : World) (h : Sls w w.heap.size A n c vs ps) (hn : n ≤ 1048576) (hle : ∀ p ∈ ps, p.length ≤ 1099511627776) :
    Calls Try.prog 77 #[.agg #[.bool s, .bool e, .slice A n c]] w (Tells' (validB ps) w) := by
  have HL := Lib.hid h.len
  have hB := (Below.refl w.heap.size w).alloc (Nat.le_refl _) (.cells #[.bool s, .bool e, .slice A n c] 24)
  have hA := (h.below hB).more hB.size
  have hsz := rsize_any s e A n c vs ps _ hA hn hle
  have hcap := h.sl.cap
  have hmx := h.sl.mx
  obtain ⟨r, hr⟩ : ∃ r, validB ps = r := ⟨_, rfl⟩
  rw [hr]
  have HR := Lib.hid hr
  have HZ := Lib.hid hsz
  have HB := Lib.hid hB
  clear hr hle hsz hB
  by_cases h0 : n < 1
  · have hrf : r = false := by rw [← HR.out, ← Bool.not_eq_true, validB_iff]; intro hv; have := hv.lo; have := HL.out; omega
    subst hrf
    go_enter Try.func77, Try.ntmps77
    go_wp2
    go_ret
    exact ⟨rfl, HB.out⟩
  by_cases h64 : 64 < n
  · have hrf : r = false := by rw [← HR.out, ← Bool.not_eq_true, validB_iff]; intro hv; have := hv.hi; have := HL.out; omega
    subst hrf
    go_enter Try.func77, Try.ntmps77
    go_wp2
    go_ret
    exact ⟨rfl, HB.out⟩
  have hd1 : decide ((n : Int) < 1) = false := by simp; omega
  have hd2 : decide ((64 : Int) < n) = false := by simp; omega
  go_enter Try.func77, Try.ntmps77
  go_wp2
  clear hd1 hd2
  go_loop [3] (fun i => ∃ k : Nat, k ≤ n ∧ i = .int .i64 k ∧ Hid (partsOk ps k)) (fun i => n - (intOf i).toNat)
  case atStart => exact ⟨0, Nat.zero_le _, rfl, Lib.hid (fun i hi => absurd hi (by omega))⟩
  case round =>
    obtain ⟨k, hk, rfl, HK⟩ := hrel
    by_cases hlt : k < n
    · obtain ⟨ad, Ai, ci, rfl, hb, hc, hsl⟩ := hA.get hlt
      have hno := validB_no ps k (by rw [HL.out]; exact hlt)
      have hsu := partsOk_succ ps k HK.out
      rw [HL.out] at hno hsu
      have hpm : (ps[k]?.getD []).length ≤ 9223372036854775807 := by have := hsl.cap; have := hsl.mx; omega
      generalize ps[k]?.getD [] = p at *
      have HNO := Lib.hid hno
      have HSU := Lib.hid hsu
      clear hno hsu
      by_cases h1 : p.length < 1
      · have hrf : r = false := by rw [← HR.out]; exact HNO.out (.inl h1)
        subst hrf
        go_wp2
        go_ret
        exact ⟨rfl, HB.out⟩
      by_cases h2 : 32767 < p.length
      · have hrf : r = false := by rw [← HR.out]; exact HNO.out (.inr (.inl h2))
        subst hrf
        go_wp2
        go_ret
        exact ⟨rfl, HB.out⟩
      by_cases h3 : k + 1 < n
      · by_cases h4 : 2047 < p.length
        · have hrf : r = false := by rw [← HR.out]; exact HNO.out (.inr (.inr ⟨h3, h4⟩))
          subst hrf
          have h3' : (k : Int) < (n : Int) - 1 := by omega
          go_wp2
          go_ret
          exact ⟨rfl, HB.out⟩
        · have h3' : (k : Int) < (n : Int) - 1 := by omega
          go_wp2
          go_round
          case rel => exact ⟨k + 1, by omega, by go_num, Lib.hid (HSU.out (by omega) (fun _ => by omega))⟩
          case measure => simp [intOf]; omega
      · have h3' : ¬ (k : Int) < (n : Int) - 1 := by omega
        go_wp2
        go_round
        case rel => exact ⟨k + 1, by omega, by go_num, Lib.hid (HSU.out (by omega) (fun h => absurd h h3))⟩
        case measure => simp [intOf]; omega
    · have hfin : r = decide (sumLen ps ≤ 32767) := by
        rw [← HR.out]
        have e := HL.out
        exact validB_end ps (by omega) (by omega) (by have := HK.out; rw [e, ← show k = n by omega]; exact this)
      have hd : decide ((sumLen ps : Int) ≤ 32767) = r := by rw [hfin, Bool.eq_iff_iff]; simp; omega
      clear hfin
      go_wp2_with (go_at_call 55; refine HZ.out.mono ?_; rintro e1 w1 ⟨rfl, hb1⟩)
      go_ret
      exact ⟨rfl, HB.out.trans (hb1.mono HB.out.size)⟩

set_option maxHeartbeats 800000 in
theorem framing_any (s e : Bool) (A : Option Addr) (n c : Nat) (w : World) :
    Calls Try.prog 79 #[.agg #[.bool s, .bool e, .slice A n c]] w fun e' w' => e' = .returned (.int .u64 (framN s e n)) ∧ w.alloc (.cells #[.bool s, .bool e, .slice A n c] 24) = w' := by
  have hf : framN s e n = 4 * (!s).toNat + 2 * (!e).toNat + (decide (1 < n)).toNat := rfl
  have HF := Lib.hid hf
  clear hf
  by_cases h1 : 1 < n
  · have hd : decide (1 < n) = true := by simpa using h1
    rw [hd] at HF
    clear hd
    generalize framN s e n = F at *
    cases s <;> cases e <;> (
      go_enter Try.func79, Try.ntmps79
      go_wp2
      go_ret
      exact ⟨by rw [HF.out]; rfl, rfl⟩)
  · have hd : decide (1 < n) = false := by simpa using h1
    rw [hd] at HF
    clear hd
    generalize framN s e n = F at *
    cases s <;> cases e <;> (
      go_enter Try.func79, Try.ntmps79
      go_wp2
      go_ret
      exact ⟨by rw [HF.out]; rfl, rfl⟩)
end Go.Proofs.Ytchlbpfeiamieaa
