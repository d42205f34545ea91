/- umpdu.Same and the reference's Same. -/
import Derived.Test.YtchlbpfeiamieaaE0
namespace Go.Proofs.Ytchlbpfeiamieaa
open Go.RowKit

def sameC (s e : Bool) (ps : List (List UInt8)) (s' e' : Bool) (ps' : List (List UInt8)) : Bool := decide (s = s' ∧ e = e' ∧ ps = ps')
/-- a call answers b and keeps what lay -/
def Tells (b : Bool) (w : World) (e : Ending) (w' : World) : Prop := e = .returned (.bool b) ∧ Below w.heap.size w w'

set_option maxHeartbeats 400000 in
theorem sameU_any (s e : Bool) (A : Option Addr) (n c : Nat) (vs : List Value) (ps : List (List UInt8)) (s' e' : Bool) (A' : Option Addr) (n' c' : Nat) (vs' : List Value) (ps' : List (List UInt8)) (w : World) (h : Sls w w.heap.size A n c vs ps) (h' : Sls w w.heap.size A' n' c' vs' ps') :
    Calls Try.prog 26 #[.agg #[.bool s, .bool e, .slice A n c], .agg #[.bool s', .bool e', .slice A' n' c']] w (Tells (sameC s e ps s' e' ps') w) := by
  have hB := ((Below.refl w.heap.size w).alloc (Nat.le_refl _) (.cells #[.bool s, .bool e, .slice A n c] 24)).alloc (by simp) (.cells #[.bool s', .bool e', .slice A' n' c'] 24)
  have heq := equalFunc_any A n c vs ps A' n' c' vs' ps' _ ((h.below hB).more hB.size) ((h'.below hB).more hB.size)
  have HE := Lib.hid heq
  have HB := Lib.hid hB
  clear heq hB
  unfold sameC
  by_cases hs : s = s'
  · by_cases he : e = e'
    · subst hs he
      simp only [true_and]
      have e1 : (s == s) = true := by simp
      have e2 : (e == e) = true := by simp
      generalize decide (ps = ps') = r at *
      go_enter Try.func26, Try.ntmps26
      go_wp2_with (go_at_call 91; refine HE.out.mono ?_; rintro e1 w1 ⟨rfl, hd⟩)
      go_ret
      exact ⟨rfl, HB.out.trans (hd.below _)⟩
    · have hd : decide (s = s' ∧ e = e' ∧ ps = ps') = false := by simp [he]
      rw [hd]
      clear hd
      subst hs
      have e1 : (s == s) = true := by simp
      have e2 : (e == e') = false := by simpa using he
      go_enter Try.func26, Try.ntmps26
      go_wp2
      go_ret
      exact ⟨rfl, HB.out⟩
  · have hd : decide (s = s' ∧ e = e' ∧ ps = ps') = false := by simp [hs]
    rw [hd]
    clear hd
    have e1 : (s == s') = false := by simpa using hs
    go_enter Try.func26, Try.ntmps26
    go_wp2
    go_ret
    exact ⟨rfl, HB.out⟩

set_option maxHeartbeats 800000 in
theorem sameR_any (s e : Bool) (A : Option Addr) (n c : Nat) (vs : List Value) (ps : List (List UInt8)) (s' e' : Bool) (A' : Option Addr) (n' c' : Nat) (vs' : List Value) (ps' : List (List UInt8)) (w : World) (h : Sls w w.heap.size A n c vs ps) (h' : Sls w w.heap.size A' n' c' vs' ps') :
    Calls Try.prog 25 #[.agg #[.bool s, .bool e, .slice A n c], .agg #[.bool s', .bool e', .slice A' n' c']] w (Tells (sameC s e ps s' e' ps') w) := by
  have hB := ((Below.refl w.heap.size w).alloc (Nat.le_refl _) (.cells #[.bool s, .bool e, .slice A n c] 24)).alloc (by simp) (.cells #[.bool s', .bool e', .slice A' n' c'] 24)
  have hA := (h.below hB).more hB.size
  have hA' := (h'.below hB).more hB.size
  have HB := Lib.hid hB
  have hn : n ≤ 9223372036854775807 := by have := h.sl.cap; have := h.sl.mx; omega
  have HL := Lib.hid h.len
  have HL' := Lib.hid h'.len
  clear hB
  unfold sameC
  by_cases hs : s = s'
  · by_cases he : e = e'
    · subst hs he
      simp only [true_and]
      have e1 : (s != s) = false := by simp
      have e2 : (e != e) = false := by simp
      by_cases hnn : n = n'
      · subst hnn
        have e3 : ((n : Int) != (n : Int)) = false := by simp
        obtain ⟨r, hr⟩ : ∃ r, decide (ps = ps') = r := ⟨_, rfl⟩
        rw [hr]
        have HR := Lib.hid hr
        clear hr
        have b0 := (Blk.new w 24 #[.bool s, .bool e, .slice A n c]).alloc (.cells #[.bool s, .bool e, .slice A' n c'] 24)
        have b1 := Blk.new (w.alloc (.cells #[.bool s, .bool e, .slice A n c] 24)) 24 #[.bool s, .bool e, .slice A' n c']
        rw [World.size_alloc] at b1
        go_enter Try.func25, Try.ntmps25
        go_wp2
        generalize (w.alloc (.cells #[.bool s, .bool e, .slice A n c] 24)).alloc (.cells #[.bool s, .bool e, .slice A' n c'] 24) = w1 at *
        go_loopw [5] (fun i wr => ∃ k : Nat, k ≤ n ∧ i = .int .i64 k ∧ ps.take k = ps'.take k ∧ Drew w1 wr) (fun i _ => n - (intOf i).toNat)
        case atStart => exact ⟨0, Nat.zero_le _, rfl, by simp, Drew.refl _⟩
        case round =>
          obtain ⟨k, hk, rfl, htk, hdr⟩ := hrel
          have HT := Lib.hid htk
          clear htk
          have c0 := (b0.below (hdr.below _) b0.lt).cell 2
          have c1 := (b1.below (hdr.below _) b1.lt).cell 2
          simp at c0 c1
          by_cases hlt : k < n
          · obtain ⟨ad, Ai, ci, rfl, hub, hcu, hsl⟩ := (hA.drewn hdr).get hlt
            obtain ⟨ad', Ai', ci', rfl, hub', hcu', hsl'⟩ := (hA'.drewn hdr).get hlt
            have ht1 : ps.take (k + 1) = ps.take k ++ [ps[k]?.getD []] := by rw [List.take_add_one, List.getElem?_eq_getElem (by rw [HL.out]; exact hlt)]; rfl
            have ht2 : ps'.take (k + 1) = ps'.take k ++ [ps'[k]?.getD []] := by rw [List.take_add_one, List.getElem?_eq_getElem (by rw [HL'.out]; exact hlt)]; rfl
            have hpp : ps[k]?.getD [] ≠ ps'[k]?.getD [] → r = false := by
              intro hne
              rw [← HR.out]
              simp only [decide_eq_false_iff_not]
              intro e
              rw [e] at hne
              exact hne rfl
            generalize ps[k]?.getD [] = p at *
            generalize ps'[k]?.getD [] = p' at *
            have k1 := fun q => conv_sl (hsl.drewN q)
            have k2 := fun q => conv_sl (hsl'.drewN q)
            have H1 := Lib.hid ht1
            have H2 := Lib.hid ht2
            have HPP := Lib.hid hpp
            clear ht1 ht2 hpp hsl hsl' hub hub'
            have hi1 : (0 : Int) ≤ (k : Int) := by omega
            have hi2 : (k : Int) < n := by omega
            by_cases hbb : p = p'
            · subst hbb
              have hb0 : (p != p) = false := by simp
              go_wp2
              go_quiet (fail)
              go_wp2
              go_roundw
              case rel => exact ⟨k + 1, by omega, by go_num, by rw [H1.out, H2.out, HT.out], hdr.more _⟩
              case measure => simp [intOf]; omega
            · have hrf := HPP.out hbb
              have hb0 : (p != p') = true := by simpa using hbb
              have hb1 : (p == p') = false := by simpa using hbb
              have HRF := Lib.hid hrf
              clear hrf hbb
              go_wp2
              go_quiet (fail)
              go_wp2
              go_ret
              exact ⟨ret_bool HRF.out.symm, HB.out.trans ((hdr.more _).below _)⟩
          · have hrt : r = true := by
              rw [← HR.out]
              simp only [decide_eq_true_eq]
              have := HT.out
              rw [List.take_of_length_le (by rw [HL.out]; omega), List.take_of_length_le (by rw [HL'.out]; omega)] at this
              exact this
            have HRT := Lib.hid hrt
            clear hrt
            go_wp2
            go_ret
            exact ⟨ret_bool HRT.out.symm, HB.out.trans (hdr.below _)⟩
      · have hrf : decide (ps = ps') = false := by
          simp only [decide_eq_false_iff_not]
          rintro rfl
          exact hnn (HL.out.symm.trans HL'.out)
        have hne : ((n : Int) != (n' : Int)) = true := by rw [bne_iff_ne]; omega
        rw [hrf]
        clear hrf
        go_enter Try.func25, Try.ntmps25
        go_wp2
        go_ret
        exact ⟨rfl, HB.out⟩
    · have hd : decide (s = s' ∧ e = e' ∧ ps = ps') = false := by simp [he]
      rw [hd]
      clear hd
      subst hs
      have e1 : (s != s) = false := by simp
      have e2 : (e != e') = true := by simpa using he
      go_enter Try.func25, Try.ntmps25
      go_wp2
      go_ret
      exact ⟨rfl, HB.out⟩
  · have hd : decide (s = s' ∧ e = e' ∧ ps = ps') = false := by simp [hs]
    rw [hd]
    clear hd
    have e1 : (s != s') = true := by simpa using hs
    go_enter Try.func25, Try.ntmps25
    go_wp2
    go_ret
    exact ⟨rfl, HB.out⟩
end Go.Proofs.Ytchlbpfeiamieaa
