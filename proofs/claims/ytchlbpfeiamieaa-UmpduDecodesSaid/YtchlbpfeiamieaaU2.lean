/- umpdu.Valid: conditions that are closures, all of them. -/
import Derived.Test.YtchlbpfeiamieaaU1
namespace Go.Proofs.Ytchlbpfeiamieaa
open Go.RowKit

theorem Sls.drew' {w : World} {B n c : Nat} {A : Option Addr} {vs : List Value} {ps : List (List UInt8)} (h : Sls w B A n c vs ps) : Sls w.drew B A n c vs ps := ⟨h.sl.drew, h.len, fun i p hi => let ⟨Ai, ci, e, hs⟩ := h.each i p hi; ⟨Ai, ci, e, hs.drew⟩⟩
theorem Sls.drewN' {w : World} {n c : Nat} {A : Option Addr} {vs : List Value} {ps : List (List UInt8)} (h : Sls w w.heap.size A n c vs ps) (k : Nat) : Sls (w.drewN k) (w.drewN k).heap.size A n c vs ps := ⟨h.sl.drewN k, h.len, fun i p hi => let ⟨Ai, ci, e, hs⟩ := h.each i p hi; ⟨Ai, ci, e, hs.drewN k⟩⟩
theorem Sls.pre {w : World} {B n c k : Nat} {A : Option Addr} {vs : List Value} {ps : List (List UInt8)} (h : Sls w B A n c vs ps) (hk : k ≤ n) : Sls w B A k k (vs.take k) (ps.take k) := by
  refine ⟨⟨by rw [List.length_take, h.sl.len]; omega, Nat.le_refl _, by have := h.sl.cap; have := h.sl.mx; omega, fun hp => ?_⟩, by rw [List.length_take, h.len]; omega, fun i p hi => ?_⟩
  · obtain ⟨ad, e, hb, hc⟩ := h.sl.at_ (by omega)
    refine ⟨ad, e, hb, fun j u hu => hc j u ?_⟩
    rw [List.getElem?_take] at hu
    split at hu
    · exact hu
    · cases hu
  · rw [List.getElem?_take] at hi
    split at hi
    · obtain ⟨Ai, ci, e, hs⟩ := h.each i p hi
      exact ⟨Ai, ci, by rw [List.getElem?_take, if_pos (by assumption)]; exact e, hs⟩
    · cases hi

/-- IndexFunc's answer over conditions -/
def AllIs (bs : List Bool) (Inv : World → Prop) (e : Ending) (w' : World) : Prop :=
  ((∃ k : Nat, e = .returned (.int .i64 k) ∧ bs.all id = false) ∨ (e = .returned (.int .i64 (-1)) ∧ bs.all id = true)) ∧ Inv w'

set_option maxHeartbeats 400000 in
theorem indexAll_any (b : Nat) (fvs : List Value) (bs : List Bool) (Inv : World → Prop) (w : World) (hlen : bs.length = fvs.length) (hsm : fvs.length ≤ 1000) (hI : ∀ W, Inv W → Blk W b 28 fvs.toArray)
    (hcall : ∀ (i : Nat) (fv : Value) (x : Bool) (W : World), fvs[i]? = some fv → bs[i]? = some x → (∀ y ∈ bs.take i, y = true) → Inv W → Calls Try.prog 152 #[fv] W fun e W' => e = .returned (.bool (!x)) ∧ Inv W')
    (h0 : Inv w) : Calls Try.prog 172 #[.slice (some ⟨b, 0, none⟩) fvs.length fvs.length, .func (.func 152) #[] #[]] w (AllIs bs Inv) := by
  have HC := Lib.hid hcall
  have HI := Lib.hid hI
  have HL := Lib.hid hlen
  clear hcall hI hlen
  obtain ⟨N, hN⟩ : ∃ N, N = fvs.length := ⟨_, rfl⟩
  rw [← hN] at hsm ⊢
  have HN := Lib.hid hN
  clear hN
  go_enter Try.func172, Try.ntmps172
  go_wp2
  go_loopw [8] (fun i wr => ∃ k : Nat, k ≤ N ∧ i = .int .i64 k ∧ (∀ y ∈ bs.take k, y = true) ∧ Inv wr) (fun i _ => N - (intOf i).toNat)
  case atStart => exact ⟨0, Nat.zero_le _, rfl, by simp, h0⟩
  case round =>
    clear h0
    obtain ⟨k, hk, rfl, hall, hinv⟩ := hrel
    have HA := Lib.hid hall
    clear hall
    by_cases hlt : k < N
    · obtain ⟨fv, hfv⟩ : ∃ fv, fvs[k]? = some fv := ⟨_, List.getElem?_eq_getElem (by rw [← HN.out]; exact hlt)⟩
      obtain ⟨x, hx⟩ : ∃ x, bs[k]? = some x := ⟨_, List.getElem?_eq_getElem (by rw [HL.out, ← HN.out]; exact hlt)⟩
      have hcl := HC.out k fv x wr hfv hx HA.out hinv
      have hcell := (HI.out wr hinv).cell k
      rw [List.getElem?_toArray, hfv] at hcell
      have HCL := Lib.hid hcl
      have HX := Lib.hid hx
      clear hcl hfv hx
      cases x with
      | true =>
        go_wp2_with (go_at_call 152; refine HCL.out.mono ?_; rintro e w' ⟨rfl, hi'⟩)
        go_roundw
        case rel => exact ⟨k + 1, by omega, by go_num, by
          intro y hy
          rw [List.take_add_one, HX.out, List.mem_append] at hy
          rcases hy with hy | hy
          · exact HA.out y hy
          · simpa using hy, hi'⟩
        case measure => simp [intOf]; omega
      | false =>
        go_wp2_with (go_at_call 152; refine HCL.out.mono ?_; rintro e w' ⟨rfl, hi'⟩)
        go_ret
        refine ⟨.inl ⟨k, rfl, ?_⟩, hi'⟩
        rw [List.all_eq_false]
        exact ⟨false, List.mem_of_getElem? HX.out, by simp⟩
    · have e : bs.take k = bs := List.take_of_length_le (by rw [HL.out, ← HN.out]; omega)
      have hA := HA.out
      rw [e] at hA
      have HA' := Lib.hid hA
      clear hA e
      go_wp2
      go_ret
      exact ⟨.inr ⟨rfl, by rw [List.all_eq_true]; exact HA'.out⟩, hinv⟩

theorem containsAll_any (b : Nat) (fvs : List Value) (bs : List Bool) (Inv : World → Prop) (w : World)
    (h : Calls Try.prog 172 #[.slice (some ⟨b, 0, none⟩) fvs.length fvs.length, .func (.func 152) #[] #[]] w (AllIs bs Inv)) :
    Calls Try.prog 151 #[.slice (some ⟨b, 0, none⟩) fvs.length fvs.length, .func (.func 152) #[] #[]] w fun e w' => e = .returned (.bool (!bs.all id)) ∧ Inv w' := by
  have H := Lib.hid h
  clear h
  go_enter Try.func151, Try.ntmps151
  go_wp2_with fail
  refine H.out.mono ?_
  rintro e w' ⟨⟨k, rfl, ha⟩ | ⟨rfl, ha⟩, hi⟩
  · have HA := Lib.hid ha
    clear ha
    go_wp2
    go_ret
    exact ⟨ret_bool (by rw [HA.out]; rfl), hi⟩
  · have HA := Lib.hid ha
    clear ha
    go_wp2
    go_ret
    exact ⟨ret_bool (by rw [HA.out]; rfl), hi⟩

theorem all_any (b : Nat) (fvs : List Value) (bs : List Bool) (Inv : World → Prop) (w : World)
    (h : Calls Try.prog 151 #[.slice (some ⟨b, 0, none⟩) fvs.length fvs.length, .func (.func 152) #[] #[]] w fun e w' => e = .returned (.bool (!bs.all id)) ∧ Inv w') :
    Calls Try.prog 96 #[.slice (some ⟨b, 0, none⟩) fvs.length fvs.length] w fun e w' => e = .returned (.bool (bs.all id)) ∧ Inv w' := by
  have H := Lib.hid h
  clear h
  go_enter Try.func96, Try.ntmps96
  go_wp2_with fail
  refine H.out.mono ?_
  rintro e w' ⟨rfl, hi⟩
  go_wp2
  go_ret
  exact ⟨ret_bool (by simp), hi⟩
end Go.Proofs.Ytchlbpfeiamieaa
