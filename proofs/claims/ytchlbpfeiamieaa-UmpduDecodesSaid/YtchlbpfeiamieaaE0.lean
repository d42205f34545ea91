/- Equality of slices and chunks: slices.Equal, slices.EqualFunc, umpdu.Same, the reference's Same. -/
import Derived.Test.YtchlbpfeiamieaaL0
namespace Go.Proofs.Ytchlbpfeiamieaa
open Go.RowKit


/-- wr is w with draws behind it -/
def Drew (w wr : World) : Prop := ∃ q, w.drewN q = wr
theorem Drew.refl (w : World) : Drew w w := ⟨0, rfl⟩
theorem Drew.more {w wr : World} (h : Drew w wr) (k : Nat) : Drew w (wr.drewN k) := by
  obtain ⟨q, rfl⟩ := h
  exact ⟨q + k, (World.drewN_drewN w q k).symm⟩
theorem Drew.trans {w w1 w2 : World} (h : Drew w w1) (h' : Drew w1 w2) : Drew w w2 := by
  obtain ⟨q, rfl⟩ := h'
  exact h.more q
theorem Sl.drewn {w wr : World} {B n c : Nat} {A : Option Addr} {xs : List Value} (h : Sl w B A n c xs) (hd : Drew w wr) : Sl wr B A n c xs := by
  obtain ⟨q, rfl⟩ := hd
  exact h.drewN q
theorem Sls.drewn {w wr : World} {B n c : Nat} {A : Option Addr} {vs : List Value} {ps : List (List UInt8)} (h : Sls w B A n c vs ps) (hd : Drew w wr) : Sls wr B A n c vs ps := by
  obtain ⟨q, rfl⟩ := hd
  exact ⟨h.sl.drewN q, h.len, fun i p hi => let ⟨Ai, ci, e, hs⟩ := h.each i p hi; ⟨Ai, ci, e, hs.drewN q⟩⟩
theorem Drew.size {w wr : World} (h : Drew w wr) : wr.heap.size = w.heap.size := by
  obtain ⟨q, rfl⟩ := h
  rfl
theorem Drew.below {w wr : World} (h : Drew w wr) (B : Nat) : Below B w wr := by
  obtain ⟨q, rfl⟩ := h
  exact (Below.refl B w).drewN q

/-- a call answers b; it draws, no more -/
def Answers (b : Bool) (w : World) (e : Ending) (w' : World) : Prop := e = .returned (.bool b) ∧ Drew w w'

theorem byte_ne {a b : UInt8} (h : a ≠ b) : ((a.toNat : Int) != (b.toNat : Int)) = true := by
  rw [bne_iff_ne]
  intro e
  exact h (UInt8.toNat_inj.1 (by omega))
theorem byte_eq (a : UInt8) : ((a.toNat : Int) != (a.toNat : Int)) = false := by simp

set_option maxHeartbeats 400000 in
theorem equal_any (A : Option Addr) (n c : Nat) (l : List UInt8) (A' : Option Addr) (n' c' : Nat) (l' : List UInt8) (w : World) (h : Sl w w.heap.size A n c (bvs l)) (h' : Sl w w.heap.size A' n' c' (bvs l')) :
    Calls Try.prog 92 #[.slice A n c, .slice A' n' c'] w (Answers (decide (l = l')) w) := by
  have hl : l.length = n := by simpa using h.len
  have hl' : l'.length = n' := by simpa using h'.len
  have hn : n ≤ 9223372036854775807 := by have := h.cap; have := h.mx; omega
  have HL := Lib.hid hl
  have HL' := Lib.hid hl'
  clear hl hl'
  by_cases hnn : n = n'
  · subst hnn
    obtain ⟨r, hr⟩ : ∃ r, decide (l = l') = r := ⟨_, rfl⟩
    rw [hr]
    have HR := Lib.hid hr
    clear hr
    go_enter Try.func92, Try.ntmps92
    go_wp2
    go_loopw [13] (fun i wr => ∃ k : Nat, k ≤ n ∧ i = .int .i64 k ∧ l.take k = l'.take k ∧ Drew w wr) (fun i _ => n - (intOf i).toNat)
    case atStart => exact ⟨0, Nat.zero_le _, rfl, by simp, Drew.refl _⟩
    case round =>
      obtain ⟨k, hk, rfl, htk, hdr⟩ := hrel
      have HT := Lib.hid htk
      clear htk
      by_cases hlt : k < n
      · obtain ⟨ad, u, rfl, hub, hu, hcu⟩ := (h.drewn hdr).get hlt
        obtain ⟨ad', u', rfl, hub', hu', hcu'⟩ := (h'.drewn hdr).get hlt
        obtain ⟨b, hb⟩ : ∃ b, l[k]? = some b := ⟨_, List.getElem?_eq_getElem (by rw [HL.out]; exact hlt)⟩
        obtain ⟨b', hb'⟩ : ∃ b, l'[k]? = some b := ⟨_, List.getElem?_eq_getElem (by rw [HL'.out]; exact hlt)⟩
        have e1 : u = .int .u8 (b.toNat : Int) := by unfold bvs at hu; rw [List.getElem?_map, hb] at hu; simpa [bv] using hu.symm
        have e2 : u' = .int .u8 (b'.toNat : Int) := by unfold bvs at hu'; rw [List.getElem?_map, hb'] at hu'; simpa [bv] using hu'.symm
        subst e1 e2
        have ht1 : l.take (k + 1) = l.take k ++ [b] := by rw [List.take_add_one, hb]; rfl
        have ht2 : l'.take (k + 1) = l'.take k ++ [b'] := by rw [List.take_add_one, hb']; rfl
        have H1 := Lib.hid ht1
        have H2 := Lib.hid ht2
        have HB := Lib.hid hb
        have HB' := Lib.hid hb'
        clear ht1 ht2 hu hu' hb hb' hub hub'
        have hi1 : (0 : Int) ≤ (k : Int) := by omega
        have hi2 : (k : Int) < n := by omega
        by_cases hbb : b = b'
        · subst hbb
          have hb0 := byte_eq b
          go_wp2
          go_quiet (fail)
          go_wp2
          go_roundw
          case rel => exact ⟨k + 1, by omega, by go_num, by rw [H1.out, H2.out, HT.out], hdr.more _⟩
          case measure => simp [intOf]; omega
        · have hb0 := byte_ne hbb
          have hrf : r = false := by
            rw [← HR.out]
            simp only [decide_eq_false_iff_not]
            intro e
            apply hbb
            have := HB.out
            rw [e, HB'.out] at this
            cases this
            rfl
          have HRF := Lib.hid hrf
          clear hrf hbb
          go_wp2
          go_quiet (fail)
          go_wp2
          go_ret
          exact ⟨ret_bool HRF.out.symm, hdr.more _⟩
      · have hrt : r = true := by
          rw [← HR.out]
          simp only [decide_eq_true_eq]
          have := HT.out
          rw [List.take_of_length_le (by rw [HL.out]; omega), List.take_of_length_le (by rw [HL'.out]; omega)] at this
          exact this
        have HRT := Lib.hid hrt
        clear hrt
        go_wp2
        go_ret
        exact ⟨ret_bool HRT.out.symm, hdr⟩
  · have hrf : decide (l = l') = false := by
      simp only [decide_eq_false_iff_not]
      rintro rfl
      exact hnn (HL.out.symm.trans HL'.out)
    have hne : ((n : Int) != (n' : Int)) = true := by rw [bne_iff_ne]; omega
    rw [hrf]
    clear hrf
    go_enter Try.func92, Try.ntmps92
    go_wp2
    go_ret
    exact ⟨rfl, Drew.refl _⟩

set_option maxHeartbeats 400000 in
theorem equalFunc_any (A : Option Addr) (n c : Nat) (vs : List Value) (ps : List (List UInt8)) (A' : Option Addr) (n' c' : Nat) (vs' : List Value) (ps' : List (List UInt8)) (w : World) (h : Sls w w.heap.size A n c vs ps) (h' : Sls w w.heap.size A' n' c' vs' ps') :
    Calls Try.prog 91 #[.slice A n c, .slice A' n' c', .func (.func 92) #[] #[]] w (Answers (decide (ps = ps')) w) := by
  have hn : n ≤ 9223372036854775807 := by have := h.sl.cap; have := h.sl.mx; omega
  have HL := Lib.hid h.len
  have HL' := Lib.hid h'.len
  by_cases hnn : n = n'
  · subst hnn
    obtain ⟨r, hr⟩ : ∃ r, decide (ps = ps') = r := ⟨_, rfl⟩
    rw [hr]
    have HR := Lib.hid hr
    clear hr
    go_enter Try.func91, Try.ntmps91
    go_wp2
    go_loopw [17] (fun i wr => ∃ k : Nat, k ≤ n ∧ i = .int .i64 k ∧ ps.take k = ps'.take k ∧ Drew w wr) (fun i _ => n - (intOf i).toNat)
    case atStart => exact ⟨0, Nat.zero_le _, rfl, by simp, Drew.refl _⟩
    case round =>
      obtain ⟨k, hk, rfl, htk, hdr⟩ := hrel
      have HT := Lib.hid htk
      clear htk
      by_cases hlt : k < n
      · obtain ⟨ad, Ai, ci, rfl, hub, hcu, hsl⟩ := (h.drewn hdr).get hlt
        obtain ⟨ad', Ai', ci', rfl, hub', hcu', hsl'⟩ := (h'.drewn hdr).get hlt
        have ht1 : ps.take (k + 1) = ps.take k ++ [ps[k]?.getD []] := by rw [List.take_add_one, List.getElem?_eq_getElem (by rw [HL.out]; exact hlt)]; rfl
        have ht2 : ps'.take (k + 1) = ps'.take k ++ [ps'[k]?.getD []] := by rw [List.take_add_one, List.getElem?_eq_getElem (by rw [HL'.out]; exact hlt)]; rfl
        have hpp : ps[k]?.getD [] ≠ ps'[k]?.getD [] → r = false := by
          intro hne
          rw [← HR.out]
          simp only [decide_eq_false_iff_not]
          intro e
          rw [e] at hne
          exact hne rfl
        generalize ps[k]?.getD [] = p at *
        generalize ps'[k]?.getD [] = p' at *
        have heq := equal_any Ai p.length ci p Ai' p'.length ci' p' wr (hsl.more (by rw [hdr.size]; exact Nat.le_refl _)) (hsl'.more (by rw [hdr.size]; exact Nat.le_refl _))
        have H1 := Lib.hid ht1
        have H2 := Lib.hid ht2
        have HPP := Lib.hid hpp
        clear ht1 ht2 hpp
        by_cases hbb : p = p'
        · subst hbb
          simp only [decide_true] at heq
          have HE := Lib.hid heq
          clear heq
          go_wp2_with (go_at_call 92; refine HE.out.mono ?_; rintro e1 w1 ⟨rfl, hd1⟩)
          go_roundw
          case rel => exact ⟨k + 1, by omega, by go_num, by rw [H1.out, H2.out, HT.out], hdr.trans hd1⟩
          case measure => simp [intOf]; omega
        · have hrf := HPP.out hbb
          simp only [decide_eq_false hbb] at heq
          have HE := Lib.hid heq
          have HRF := Lib.hid hrf
          clear heq hrf hbb
          go_wp2_with (go_at_call 92; refine HE.out.mono ?_; rintro e1 w1 ⟨rfl, hd1⟩)
          go_ret
          exact ⟨ret_bool HRF.out.symm, hdr.trans hd1⟩
      · have hrt : r = true := by
          rw [← HR.out]
          simp only [decide_eq_true_eq]
          have := HT.out
          rw [List.take_of_length_le (by rw [HL.out]; omega), List.take_of_length_le (by rw [HL'.out]; omega)] at this
          exact this
        have HRT := Lib.hid hrt
        clear hrt
        go_wp2
        go_ret
        exact ⟨ret_bool HRT.out.symm, hdr⟩
  · have hrf : decide (ps = ps') = false := by
      simp only [decide_eq_false_iff_not]
      rintro rfl
      exact hnn (HL.out.symm.trans HL'.out)
    have hne : ((n : Int) != (n' : Int)) = true := by rw [bne_iff_ne]; omega
    rw [hrf]
    clear hrf
    go_enter Try.func91, Try.ntmps91
    go_wp2
    go_ret
    exact ⟨rfl, Drew.refl _⟩
end Go.Proofs.Ytchlbpfeiamieaa
