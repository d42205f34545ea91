/- Equality of two PDUs: ampdu.Same, the reference's Same. Printed by gen_g0.py. law33: num, same, few. -/
import Derived.Test.YtchlbpfeiamieaaVa
import Derived.Test.YtchlbpfeiamieaaLa
namespace Go.Proofs.Ytchlbpfeiamieaa
open Go.RowKit

/-- two PDUs are equal -/
def sameP (sn : Int) (po sg la : Bool) (off : Int) (s e : Bool) (ps : List (List UInt8)) (sn' : Int) (po' sg' la' : Bool) (off' : Int) (s' e' : Bool) (ps' : List (List UInt8)) : Bool :=
  decide (sn = sn' ∧ po = po' ∧ sg = sg' ∧ la = la' ∧ off = off') && sameC s e ps s' e' ps'

set_option maxRecDepth 100000 in
set_option maxHeartbeats 2000000 in
theorem sameA_any (sn : Int) (po sg la : Bool) (off : Int) (s e : Bool) (A : Option Addr) (n c : Nat) (vs : List Value) (ps : List (List UInt8)) (sn' : Int) (po' sg' la' : Bool) (off' : Int) (s' e' : Bool) (A' : Option Addr) (n' c' : Nat) (vs' : List Value) (ps' : List (List UInt8)) (w : World) (h : Sls w w.heap.size A n c vs ps) (h' : Sls w w.heap.size A' n' c' vs' ps') :
    Calls Try.prog 53 #[.agg (apdu sn po sg la off s e A n c), .agg (apdu sn' po' sg' la' off' s' e' A' n' c')] w (Tells' (sameP sn po sg la off s e ps sn' po' sg' la' off' s' e' ps') w) := by
  have hB := ((Below.refl w.heap.size w).alloc (Nat.le_refl _) (.cells (apdu sn po sg la off s e A n c) 68)).alloc (by simp) (.cells (apdu sn' po' sg' la' off' s' e' A' n' c') 68)
  have hc := sameU_any s e A n c vs ps s' e' A' n' c' vs' ps' _ ((h.below hB).more hB.size) ((h'.below hB).more hB.size)
  unfold apdu at *
  have HC := Lib.hid hc
  have HB := Lib.hid hB
  clear hc hB
  unfold sameP
  by_cases hsn : sn = sn'
  · subst hsn
    by_cases hpo : po = po'
    · subst hpo
      by_cases hsg : sg = sg'
      · subst hsg
        by_cases hla : la = la'
        · subst hla
          by_cases hoff : off = off'
          · subst hoff
            simp only [true_and, decide_true, Bool.true_and]
            have bsn : (sn == sn) = true := by simp
            have bpo : (po == po) = true := by simp
            have bsg : (sg == sg) = true := by simp
            have bla : (la == la) = true := by simp
            have boff : (off == off) = true := by simp
            go_enter Try.func53, Try.ntmps53
            go_wp2_with fail
            refine HC.out.mono ?_
            rintro e1 w1 ⟨rfl, hb1⟩
            generalize sameC s e ps s' e' ps' = r at *
            go_wp2
            go_ret
            exact ⟨rfl, HB.out.trans (hb1.mono HB.out.size)⟩
          · have boff : (off == off') = false := by simpa using hoff
            have bsn : (sn == sn) = true := by simp
            have bpo : (po == po) = true := by simp
            have bsg : (sg == sg) = true := by simp
            have bla : (la == la) = true := by simp
            have hr : sameP sn po sg la off s e ps sn po sg la off' s' e' ps' = false := by unfold sameP; simp [hoff]
            unfold sameP at hr
            rw [hr]
            clear hr
            go_enter Try.func53, Try.ntmps53
            go_wp2
            go_ret
            exact ⟨rfl, HB.out⟩
        · have bla : (la == la') = false := by simpa using hla
          have bsn : (sn == sn) = true := by simp
          have bpo : (po == po) = true := by simp
          have bsg : (sg == sg) = true := by simp
          obtain ⟨boff, hboff⟩ : ∃ b, (off == off') = b := ⟨_, rfl⟩
          have hr : sameP sn po sg la off s e ps sn po sg la' off' s' e' ps' = false := by unfold sameP; simp [hla]
          unfold sameP at hr
          rw [hr]
          clear hr
          go_enter Try.func53, Try.ntmps53
          go_wp2
          go_ret
          exact ⟨rfl, HB.out⟩
      · have bsg : (sg == sg') = false := by simpa using hsg
        have bsn : (sn == sn) = true := by simp
        have bpo : (po == po) = true := by simp
        obtain ⟨bla, hbla⟩ : ∃ b, (la == la') = b := ⟨_, rfl⟩
        obtain ⟨boff, hboff⟩ : ∃ b, (off == off') = b := ⟨_, rfl⟩
        have hr : sameP sn po sg la off s e ps sn po sg' la' off' s' e' ps' = false := by unfold sameP; simp [hsg]
        unfold sameP at hr
        rw [hr]
        clear hr
        go_enter Try.func53, Try.ntmps53
        go_wp2
        go_ret
        exact ⟨rfl, HB.out⟩
    · have bpo : (po == po') = false := by simpa using hpo
      have bsn : (sn == sn) = true := by simp
      obtain ⟨bsg, hbsg⟩ : ∃ b, (sg == sg') = b := ⟨_, rfl⟩
      obtain ⟨bla, hbla⟩ : ∃ b, (la == la') = b := ⟨_, rfl⟩
      obtain ⟨boff, hboff⟩ : ∃ b, (off == off') = b := ⟨_, rfl⟩
      have hr : sameP sn po sg la off s e ps sn po' sg' la' off' s' e' ps' = false := by unfold sameP; simp [hpo]
      unfold sameP at hr
      rw [hr]
      clear hr
      go_enter Try.func53, Try.ntmps53
      go_wp2
      go_ret
      exact ⟨rfl, HB.out⟩
  · have bsn : (sn == sn') = false := by simpa using hsn
    obtain ⟨bpo, hbpo⟩ : ∃ b, (po == po') = b := ⟨_, rfl⟩
    obtain ⟨bsg, hbsg⟩ : ∃ b, (sg == sg') = b := ⟨_, rfl⟩
    obtain ⟨bla, hbla⟩ : ∃ b, (la == la') = b := ⟨_, rfl⟩
    obtain ⟨boff, hboff⟩ : ∃ b, (off == off') = b := ⟨_, rfl⟩
    have hr : sameP sn po sg la off s e ps sn' po' sg' la' off' s' e' ps' = false := by unfold sameP; simp [hsn]
    unfold sameP at hr
    rw [hr]
    clear hr
    go_enter Try.func53, Try.ntmps53
    go_wp2
    go_ret
    exact ⟨rfl, HB.out⟩

set_option maxRecDepth 100000 in
set_option maxHeartbeats 2000000 in
theorem sameRA_any (sn : Int) (po sg la : Bool) (off : Int) (s e : Bool) (A : Option Addr) (n c : Nat) (vs : List Value) (ps : List (List UInt8)) (sn' : Int) (po' sg' la' : Bool) (off' : Int) (s' e' : Bool) (A' : Option Addr) (n' c' : Nat) (vs' : List Value) (ps' : List (List UInt8)) (w : World) (h : Sls w w.heap.size A n c vs ps) (h' : Sls w w.heap.size A' n' c' vs' ps') :
    Calls Try.prog 41 #[.agg (apdu sn po sg la off s e A n c), .agg (apdu sn' po' sg' la' off' s' e' A' n' c')] w (Tells' (sameP sn po sg la off s e ps sn' po' sg' la' off' s' e' ps') w) := by
  have hB := ((Below.refl w.heap.size w).alloc (Nat.le_refl _) (.cells (apdu sn po sg la off s e A n c) 68)).alloc (by simp) (.cells (apdu sn' po' sg' la' off' s' e' A' n' c') 68)
  have hc := sameR_any s e A n c vs ps s' e' A' n' c' vs' ps' _ ((h.below hB).more hB.size) ((h'.below hB).more hB.size)
  unfold apdu at *
  have HC := Lib.hid hc
  have HB := Lib.hid hB
  clear hc hB
  unfold sameP
  by_cases hsn : sn = sn'
  · subst hsn
    by_cases hpo : po = po'
    · subst hpo
      by_cases hsg : sg = sg'
      · subst hsg
        by_cases hla : la = la'
        · subst hla
          by_cases hoff : off = off'
          · subst hoff
            simp only [true_and, decide_true, Bool.true_and]
            have bsn : (sn == sn) = true := by simp
            have bpo : (po == po) = true := by simp
            have bsg : (sg == sg) = true := by simp
            have bla : (la == la) = true := by simp
            have boff : (off == off) = true := by simp
            go_enter Try.func41, Try.ntmps41
            go_wp2_with fail
            refine HC.out.mono ?_
            rintro e1 w1 ⟨rfl, hb1⟩
            generalize sameC s e ps s' e' ps' = r at *
            go_wp2
            go_ret
            exact ⟨rfl, HB.out.trans (hb1.mono HB.out.size)⟩
          · have boff : (off == off') = false := by simpa using hoff
            have bsn : (sn == sn) = true := by simp
            have bpo : (po == po) = true := by simp
            have bsg : (sg == sg) = true := by simp
            have bla : (la == la) = true := by simp
            have hr : sameP sn po sg la off s e ps sn po sg la off' s' e' ps' = false := by unfold sameP; simp [hoff]
            unfold sameP at hr
            rw [hr]
            clear hr
            go_enter Try.func41, Try.ntmps41
            go_wp2
            go_ret
            exact ⟨rfl, HB.out⟩
        · have bla : (la == la') = false := by simpa using hla
          have bsn : (sn == sn) = true := by simp
          have bpo : (po == po) = true := by simp
          have bsg : (sg == sg) = true := by simp
          obtain ⟨boff, hboff⟩ : ∃ b, (off == off') = b := ⟨_, rfl⟩
          have hr : sameP sn po sg la off s e ps sn po sg la' off' s' e' ps' = false := by unfold sameP; simp [hla]
          unfold sameP at hr
          rw [hr]
          clear hr
          go_enter Try.func41, Try.ntmps41
          go_wp2
          go_ret
          exact ⟨rfl, HB.out⟩
      · have bsg : (sg == sg') = false := by simpa using hsg
        have bsn : (sn == sn) = true := by simp
        have bpo : (po == po) = true := by simp
        obtain ⟨bla, hbla⟩ : ∃ b, (la == la') = b := ⟨_, rfl⟩
        obtain ⟨boff, hboff⟩ : ∃ b, (off == off') = b := ⟨_, rfl⟩
        have hr : sameP sn po sg la off s e ps sn po sg' la' off' s' e' ps' = false := by unfold sameP; simp [hsg]
        unfold sameP at hr
        rw [hr]
        clear hr
        go_enter Try.func41, Try.ntmps41
        go_wp2
        go_ret
        exact ⟨rfl, HB.out⟩
    · have bpo : (po == po') = false := by simpa using hpo
      have bsn : (sn == sn) = true := by simp
      obtain ⟨bsg, hbsg⟩ : ∃ b, (sg == sg') = b := ⟨_, rfl⟩
      obtain ⟨bla, hbla⟩ : ∃ b, (la == la') = b := ⟨_, rfl⟩
      obtain ⟨boff, hboff⟩ : ∃ b, (off == off') = b := ⟨_, rfl⟩
      have hr : sameP sn po sg la off s e ps sn po' sg' la' off' s' e' ps' = false := by unfold sameP; simp [hpo]
      unfold sameP at hr
      rw [hr]
      clear hr
      go_enter Try.func41, Try.ntmps41
      go_wp2
      go_ret
      exact ⟨rfl, HB.out⟩
  · have bsn : (sn == sn') = false := by simpa using hsn
    obtain ⟨bpo, hbpo⟩ : ∃ b, (po == po') = b := ⟨_, rfl⟩
    obtain ⟨bsg, hbsg⟩ : ∃ b, (sg == sg') = b := ⟨_, rfl⟩
    obtain ⟨bla, hbla⟩ : ∃ b, (la == la') = b := ⟨_, rfl⟩
    obtain ⟨boff, hboff⟩ : ∃ b, (off == off') = b := ⟨_, rfl⟩
    have hr : sameP sn po sg la off s e ps sn' po' sg' la' off' s' e' ps' = false := by unfold sameP; simp [hsn]
    unfold sameP at hr
    rw [hr]
    clear hr
    go_enter Try.func41, Try.ntmps41
    go_wp2
    go_ret
    exact ⟨rfl, HB.out⟩
end Go.Proofs.Ytchlbpfeiamieaa
namespace Go.Proofs.Ytchlbpfeiamieaa
open Go.RowKit

theorem sameB_any (A : Option Addr) (n c : Nat) (l : List UInt8) (A' : Option Addr) (n' c' : Nat) (l' : List UInt8) (w : World) (B B' : Nat) (h : Sl w B A n c (bvs l)) (h' : Sl w B' A' n' c' (bvs l')) :
    Calls Try.prog 47 #[.slice A n c, .slice A' n' c'] w fun e w' => e = .returned (.bool (decide (l = l'))) ∧ w = w' := by
  have k := conv_sl h
  have k' := conv_sl h'
  have hd : (l == l') = decide (l = l') := by rw [Bool.eq_iff_iff]; simp
  generalize decide (l = l') = r at *
  go_enter Try.func47, Try.ntmps47
  go_wp2
  go_ret
  exact ⟨rfl, rfl⟩
theorem numB_any (x : Int) (w : World) : Calls Try.prog 42 #[.int .i64 x] w fun e w' => e = .returned (.int .i64 x) ∧ w = w' := by
  go_enter Try.func42, Try.ntmps42
  go_wp2
  go_ret
  exact ⟨rfl, rfl⟩


set_option maxHeartbeats 1000000 in
theorem fewA_any (sn : Int) (po sg la : Bool) (off : Int) (s e : Bool) (A : Option Addr) (n c : Nat) (vs : List Value) (ps : List (List UInt8)) (w : World) (h : Sls w w.heap.size A n c vs ps) :
    Calls Try.prog 43 #[.agg (apdu sn po sg la off s e A n c)] w (Says (Few ps) w.heap.size w) := by
  have HL := Lib.hid h.len
  have hA := h.alloc (Nat.le_refl _) (.cells (apdu sn po sg la off s e A n c) 68)
  unfold apdu at *
  by_cases h70 : n ≤ 70
  · go_enter Try.func43, Try.ntmps43
    go_wp2
    go_loop [3, 4] (fun t i => ∃ k : Nat, k ≤ n ∧ i = .int .i64 k ∧ t = .int .i64 (sumLen (ps.take k)) ∧ sumLen (ps.take k) ≤ 40000 * k ∧ ∀ p ∈ ps.take k, p.length ≤ 40000) (fun _ i => n - (intOf i).toNat)
    case atStart => exact ⟨0, Nat.zero_le _, rfl, rfl, by simp [sumLen], by simp⟩
    case round =>
      obtain ⟨k, hk, rfl, rfl, hs, hall⟩ := hrel
      have HA := Lib.hid hall
      clear hall
      by_cases hlt : k < n
      · obtain ⟨ad, Ai, ci, rfl, hb, hc, hsl⟩ := hA.get hlt
        have hs1 := sumLen_take ps k (by rw [HL.out]; exact hlt)
        have hl : (ps[k]?.getD []).length ≤ 9223372036854775807 := by have := hsl.cap; have := hsl.mx; omega
        generalize hp : ps[k]?.getD [] = p at *
        generalize hS : sumLen (List.take k ps) = S at *
        have HP := Lib.hid hp
        have HS := Lib.hid hs1
        clear hp hs1 hS
        by_cases hp4 : p.length ≤ 40000
        · go_wp2
          go_round
          case rel =>
            refine ⟨k + 1, by omega, by go_num, by rw [HS.out]; go_num, by rw [HS.out]; omega, ?_⟩
            intro q hq
            rw [List.take_add_one, List.mem_append] at hq
            rcases hq with hq | hq
            · exact HA.out q hq
            · have e := HP.out
              rw [List.getElem?_eq_getElem (by rw [HL.out]; exact hlt)] at hq e
              simp at hq e
              rw [hq, e]; exact hp4
          case measure => simp [intOf]; omega
        · go_wp2
          go_ret
          exact ⟨⟨false, rfl, by simp⟩, (Below.refl _ _).alloc (Nat.le_refl _) _⟩
      · have hfin : (sumLen (List.take k ps) ≤ 3000 ∨ n = 1) → Few ps := by
          intro hh
          have e : ps.take k = ps := List.take_of_length_le (by rw [HL.out]; omega)
          have hA2 := HA.out
          rw [e] at hA2 hh
          exact ⟨by rw [HL.out]; exact h70, hA2, by rw [HL.out]; exact hh⟩
        have HF := Lib.hid hfin
        clear hfin
        generalize sumLen (List.take k ps) = S at *
        by_cases h3 : S ≤ 3000
        · go_wp2
          go_ret
          exact ⟨⟨true, ret_bool (by first | (simp; done) | (simp; omega)), fun _ => HF.out (.inl h3)⟩, (Below.refl _ _).alloc (Nat.le_refl _) _⟩
        · by_cases h1 : n = 1
          · have h1' : ((n : Int) == 1) = true := by simp; omega
            have h1f := HF.out (.inr h1)
            have H1 := Lib.hid h1f
            clear h1 h1f
            go_wp2
            go_ret
            exact ⟨⟨true, ret_bool (by first | rfl | (simp; omega)), fun _ => H1.out⟩, (Below.refl _ _).alloc (Nat.le_refl _) _⟩
          · have h1' : ((n : Int) == 1) = false := by simp; omega
            go_wp2
            go_ret
            exact ⟨⟨false, ret_bool (by first | rfl | (simp; omega)), by simp⟩, (Below.refl _ _).alloc (Nat.le_refl _) _⟩
  · go_enter Try.func43, Try.ntmps43
    go_wp2
    go_ret
    exact ⟨⟨false, rfl, by simp⟩, (Below.refl _ _).alloc (Nat.le_refl _) _⟩
end Go.Proofs.Ytchlbpfeiamieaa
