/- law32: valid, same, lists. law32: lists. -/
import Derived.Test.YtchlbpfeiamieaaLa
import Derived.Deep.RegionHeld3
import Derived.Deep.RegionLaw
namespace Go.Proofs.Ytchlbpfeiamieaa
open Go.RowKit Go.Shelf
attribute [local go_sem] Oper.semAt_some

theorem same32_any (A B : Option Addr) (n c m d : Nat) (a b : List UInt8) (w : World) (ha : Sl w w.heap.size A n c (bvs a)) (hb : Sl w w.heap.size B m d (bvs b)) :
    Calls Try.prog 68 #[.slice A n c, .slice B m d] w fun e w' => e = .returned (.bool (a == b)) ∧ w = w' := by
  have h1 := conv_sl ha
  have h2 := conv_sl hb
  clear ha hb
  go_enter Try.func68, Try.ntmps68
  go_wp2
  go_ret
  exact ⟨rfl, rfl⟩
/-- what valid answers -/
def okS (s : List UInt8) : Bool := decide (1 ≤ s.length) && decide (s.length ≤ 60)
def validS (sdus : List (List UInt8)) : Bool := decide (sdus.length ≤ 8) && sdus.all okS
theorem validS_all {ps : List (List UInt8)} {n : Nat} (hl : ps.length = n) (h : ∀ k, k < n → okS (ps[k]?.getD []) = true) : decide ((n : Int) ≤ 8) = validS ps := by
  unfold validS
  rw [hl]
  have : ps.all okS = true := by
    rw [List.all_eq_true]
    intro s hs
    obtain ⟨i, hi, rfl⟩ := List.getElem_of_mem hs
    have := h i (by omega)
    rwa [List.getElem?_eq_getElem hi] at this
  rw [this, Bool.and_true, Bool.eq_iff_iff]
  simp
  omega
theorem validS_many {ps : List (List UInt8)} {n : Nat} (hl : ps.length = n) (h : 9 ≤ n) : decide ((n : Int) ≤ 8) = validS ps := by
  unfold validS
  rw [hl, decide_eq_false (by omega), decide_eq_false (by omega)]
  rfl
theorem validS_bad {ps : List (List UInt8)} {k : Nat} (hk : k < ps.length) (h : okS (ps[k]?.getD []) = false) : false = validS ps := by
  unfold validS
  have : ps.all okS = false := by
    rw [List.all_eq_false]
    exact ⟨ps[k], List.getElem_mem hk, by rw [List.getElem?_eq_getElem hk] at h; simp only [Option.getD_some] at h; simp [h]⟩
  rw [this, Bool.and_false]
set_option maxRecDepth 100000 in
set_option maxHeartbeats 1000000 in
theorem valid32_any (A : Option Addr) (n c : Nat) (vs : List Value) (ps : List (List UInt8)) (w : World) (h : Sls w w.heap.size A n c vs ps) :
    Calls Try.prog 65 #[.slice A n c] w fun e w' => e = .returned (.bool (validS ps)) ∧ w = w' := by
  have hcap := h.sl.cap
  have hmx := h.sl.mx
  have HL := Lib.hid h.len
  have HH := Lib.hid h
  clear h
  go_enter Try.func65, Try.ntmps65
  go_wp2
  go_loopg [3] (n + 9) (fun gk s3 wr => wr = w ∧ ∃ i : Nat, s3 = .int .i64 i ∧ i ≤ n ∧ i ≤ 9 ∧ gk + i = n + 9 ∧ ∀ k, k < i → okS (ps[k]?.getD []) = true)
  case atStart => exact ⟨rfl, 0, rfl, by omega, by omega, rfl, fun k hk => by omega⟩
  case round =>
    obtain ⟨rfl, i, rfl, hin, hi9, hgk, hall⟩ := hrel
    have HGK := Lib.hid hgk
    have HA := Lib.hid hall
    clear hgk hall
    by_cases hlt : i < n
    · by_cases h9 : i < 9
      · obtain ⟨ad, Ai, ci, rfl, hb, hc, hsl⟩ := HH.out.get hlt
        have hstep : okS (ps[i]?.getD []) = true → ∀ k, k < i + 1 → okS (ps[k]?.getD []) = true := fun h k hk => by
          rcases Nat.lt_or_ge k i with h1 | h1
          · exact HA.out k h1
          · rw [show k = i by omega]
            exact h
        have hbad : okS (ps[i]?.getD []) = false → false = validS ps := fun h => validS_bad (by have := HL.out; omega) h
        generalize ps[i]?.getD [] = p at *
        have hc1 := hsl.cap
        have hm1 := hsl.mx
        have d3 : decide ((i : Int) < 9) = true := by simp; omega
        have HST := Lib.hid hstep
        have HBD := Lib.hid hbad
        clear hsl hstep hbad
        by_cases h1 : p.length < 1
        · have d1 : decide ((p.length : Int) < 1) = true := by simp; omega
          have hf : okS p = false := by unfold okS; rw [decide_eq_false (by omega)]; rfl
          have HF := Lib.hid (HBD.out hf)
          clear hf h1
          go_wp2
          go_ret
          exact ⟨by rw [← HF.out]; rfl, rfl⟩
        · have d1 : decide ((p.length : Int) < 1) = false := by simp; omega
          by_cases h2 : 60 < p.length
          · have d2 : decide ((60 : Int) < (p.length : Int)) = true := by simp; omega
            have hf : okS p = false := by unfold okS; rw [decide_eq_false (show ¬ p.length ≤ 60 by omega), Bool.and_false]
            have HF := Lib.hid (HBD.out hf)
            clear hf h1 h2
            go_wp2
            go_ret
            exact ⟨by rw [← HF.out]; rfl, rfl⟩
          · have d2 : decide ((60 : Int) < (p.length : Int)) = false := by simp; omega
            have hf : okS p = true := by unfold okS; rw [decide_eq_true (by omega), decide_eq_true (by omega)]; rfl
            have HF := Lib.hid (HST.out hf)
            clear hf h1 h2
            go_wp2
            go_roundg (n + 9 - (i + 1))
            case measure => have := HGK.out; omega
            case rel => exact ⟨rfl, i + 1, by go_num, by omega, by omega, by omega, HF.out⟩
      · have d3 : decide ((i : Int) < 9) = false := by simp; omega
        have HF := Lib.hid (validS_many HL.out (show 9 ≤ n by omega))
        go_wp2
        go_ret
        exact ⟨by rw [← HF.out]; rfl, rfl⟩
    · have hin2 : i = n := by omega
      have HF := Lib.hid (validS_all HL.out (by rw [← hin2]; exact HA.out))
      clear hin2
      go_wp2
      go_ret
      exact ⟨by rw [← HF.out]; rfl, rfl⟩
end Go.Proofs.Ytchlbpfeiamieaa
namespace Go.Proofs.Ytchlbpfeiamieaa
open Go.RowKit Go.Shelf
attribute [local go_sem] Oper.semAt_some

set_option maxRecDepth 100000 in
set_option maxHeartbeats 1000000 in
theorem lists32_any (A B : Option Addr) (n c m d : Nat) (vs us : List Value) (ps qs : List (List UInt8)) (w : World) (h : Sls w w.heap.size A n c vs ps) (k : Sls w w.heap.size B m d us qs) :
    Calls Try.prog 69 #[.slice A n c, .slice B m d] w fun e w' => e = .returned (.bool (ps == qs)) ∧ Below w.heap.size w w' := by
  have hcap := h.sl.cap
  have hmx := h.sl.mx
  have kcap := k.sl.cap
  have kmx := k.sl.mx
  have HL := Lib.hid h.len
  have KL := Lib.hid k.len
  have HH := Lib.hid h
  have HK := Lib.hid k
  clear h k
  by_cases hnm : n = m
  · subst hnm
    go_enter Try.func69, Try.ntmps69
    go_wp2
    go_loopg [5] n (fun gk s5 wr => Below w.heap.size w wr ∧ ∃ i : Nat, s5 = .int .i64 i ∧ i ≤ n ∧ gk + i = n ∧ ∀ k, k < i → ps[k]? = qs[k]?)
    case atStart => exact ⟨Below.refl _ _, 0, rfl, by omega, rfl, fun k hk => by omega⟩
    case round =>
      obtain ⟨hb, i, rfl, hin, hgk, hall⟩ := hrel
      have HGK := Lib.hid hgk
      have HA := Lib.hid hall
      have HB := Lib.hid hb
      clear hgk hall hb
      by_cases hlt : i < n
      · obtain ⟨ad, Ai, ci, rfl, hba, hc, hsl⟩ := ((HH.out.below HB.out).more HB.out.size).get hlt
        obtain ⟨bd, Bi, di, rfl, hbb, kc, ksl⟩ := ((HK.out.below HB.out).more HB.out.size).get hlt
        have e1 : ps[i]? = some (ps[i]?.getD []) := by rw [List.getElem?_eq_getElem (by have := HL.out; omega)]; rfl
        have e2 : qs[i]? = some (qs[i]?.getD []) := by rw [List.getElem?_eq_getElem (by have := KL.out; omega)]; rfl
        have E1 := Lib.hid e1
        have E2 := Lib.hid e2
        clear e1 e2
        generalize ps[i]?.getD [] = p at *
        generalize qs[i]?.getD [] = q at *
        have hc1 := hsl.cap
        have hm1 := hsl.mx
        have kc1 := ksl.cap
        have km1 := ksl.mx
        have hsm := fun q' => same32_any Ai Bi p.length ci q.length di p q (wr.drewN q') (hsl.drewN q') (ksl.drewN q')
        obtain ⟨bq, hbq⟩ : ∃ bq : Bool, bq = (p == q) := ⟨_, rfl⟩
        simp only [← hbq] at hsm
        have HBQ := Lib.hid hbq
        have HSM := Lib.hid hsm
        clear hsl ksl hsm hbq
        go_wp2_with fail
        go_quiet ((go_at_call 68; exact Calls.quiet_of_same ((HSM.out _).mono fun _ _ hh => ⟨hh.1, hh.2.symm⟩)))
        cases bq with
        | true =>
          have hpq : p = q := eq_of_beq HBQ.out.symm
          have HPQ := Lib.hid hpq
          clear hpq
          have hB2 := HB.out.drewN nq
          have HB2 := Lib.hid hB2
          clear hB2
          go_wp2
          go_roundg (n - (i + 1))
          case measure => have := HGK.out; omega
          case rel =>
            refine ⟨HB2.out, i + 1, by go_num, by omega, by omega, fun k hk => ?_⟩
            rcases Nat.lt_or_ge k i with h1 | h1
            · exact HA.out k h1
            · rw [show k = i by omega, E1.out, E2.out, HPQ.out]
        | false =>
          have hpq : ¬ p = q := fun e => by have := HBQ.out; rw [e] at this; simp at this
          have hne : (ps == qs) = false := by
            cases hh : (ps == qs) with
            | false => rfl
            | true =>
              have e := eq_of_beq hh
              have e1 := E1.out
              rw [e, E2.out] at e1
              exact absurd (Option.some.inj e1).symm hpq
          have HNE := Lib.hid hne
          have HB2 := Lib.hid (HB.out.drewN nq)
          clear hne hpq
          go_wp2
          go_ret
          exact ⟨by rw [HNE.out]; rfl, HB2.out⟩
      · have hin2 : i = n := by omega
        have heq : (ps == qs) = true := by
          have : ps = qs := List.ext_getElem? fun k => by
            rcases Nat.lt_or_ge k n with h1 | h1
            · exact HA.out k (by omega)
            · rw [List.getElem?_eq_none (by have := HL.out; omega), List.getElem?_eq_none (by have := KL.out; omega)]
          rw [this]
          simp
        have HEQ := Lib.hid heq
        clear heq hin2
        go_wp2
        go_ret
        exact ⟨by rw [HEQ.out]; rfl, HB.out⟩
  · have hne : (ps == qs) = false := by
      cases hh : (ps == qs) with
      | false => rfl
      | true =>
        have e := eq_of_beq hh
        have h1 := HL.out
        have h2 := KL.out
        rw [e] at h1
        omega
    have HNE := Lib.hid hne
    have d1 : ((n : Int) != (m : Int)) = true := by simp; omega
    clear hne hnm
    go_enter Try.func69, Try.ntmps69
    go_wp2
    go_ret
    exact ⟨by rw [HNE.out]; rfl, Below.refl _ _⟩
end Go.Proofs.Ytchlbpfeiamieaa
