/- law30: same, num, few, fails. -/
import Derived.Test.YtchlbpfeiamieaaD3
import Derived.Laws.IdiomStrings
import Derived.Laws.BytesArg
import Derived.Lib.SlBytesConst
import Derived.Lib.BufferRead
namespace Go.Proofs.Ytchlbpfeiamieaa
open Go.RowKit

theorem und5 : Try.prog.underlying 5 = some (.int .u8) := by kernel_rfl
theorem und9 : Try.prog.underlying 9 = some .string := by kernel_rfl

theorem conv_sl {w : World} {B n c : Nat} {A : Option Addr} {l : List UInt8} (h : Sl w B A n c (bvs l)) : (convert 29 9 (.slice A n c)).run Try.prog w = .ok (.string ⟨l.toArray⟩) w := by
  have hl : l.length = n := by simpa using h.len
  subst hl
  rcases A with _ | a
  · have h0 : l.length = 0 := by
      rcases Nat.eq_zero_or_pos l.length with h0 | h0
      · exact h0
      · obtain ⟨_, e, _⟩ := h.at_ h0; cases e
    have : l = [] := List.eq_nil_of_length_eq_zero h0
    subst this
    exact Lib.run_convert_nil_bytes w 29 9 5 c und29 und5 und9
  · refine run_convert_bytes_back w 29 9 5 a c l und29 und5 und9 (fun j hj => ?_)
    obtain ⟨ad, e, _, hc⟩ := h.at_ (by omega)
    injection e with e
    subst e
    refine hc j _ ?_
    unfold bvs
    rw [List.getElem?_map, List.getElem?_eq_getElem hj]
    rfl

theorem same_any (A : Option Addr) (n c : Nat) (l : List UInt8) (A' : Option Addr) (n' c' : Nat) (l' : List UInt8) (w : World) (B B' : Nat) (h : Sl w B A n c (bvs l)) (h' : Sl w B' A' n' c' (bvs l')) :
    Calls Try.prog 21 #[.slice A n c, .slice A' n' c'] w fun e w' => e = .returned (.bool (decide (l = l'))) ∧ w = w' := by
  have k := conv_sl h
  have k' := conv_sl h'
  have hd : (l == l') = decide (l = l') := by rw [Bool.eq_iff_iff]; simp
  generalize decide (l = l') = r at *
  go_enter Try.func21, Try.ntmps21
  go_wp2
  go_ret
  exact ⟨rfl, rfl⟩
theorem num_any (x : Int) (w : World) : Calls Try.prog 22 #[.int .i64 x] w fun e w' => e = .returned (.int .i64 x) ∧ w = w' := by
  go_enter Try.func22, Try.ntmps22
  go_wp2
  go_ret
  exact ⟨rfl, rfl⟩

/-- a call answers true and keeps what lay -/
def IsTrue (w : World) (e : Ending) (w' : World) : Prop := e = .returned (.bool true) ∧ Below w.heap.size w w'

set_option maxHeartbeats 400000 in
theorem fails_any (A : Option Addr) (n c : Nat) (bs : List UInt8) (er : Nat) (w : World) (h : Sl w w.heap.size A n c (bvs bs)) (hsm : n ≤ 1000000) (hd : decU bs = .inl er) :
    Calls Try.prog 71 #[.int .i64 er, .slice A n c] w (IsTrue w) := by
  have hdc := decode_any A n c bs w h hsm
  rw [hd] at hdc
  have HD := Lib.hid hdc
  clear hdc hd hsm
  go_enter Try.func71, Try.ntmps71
  go_wp2_with fail
  refine HD.out.mono ?_
  rintro e1 w1 ⟨hB, ⟨er', he, rfl⟩ | ⟨sn, s, en, ps, vo, he, _⟩⟩
  · cases he
    go_wp2
    go_ret
    exact ⟨rfl, hB.alloc hB.size _⟩
  · cases he

def Few (ps : List (List UInt8)) : Prop := ps.length ≤ 70 ∧ (∀ p ∈ ps, p.length ≤ 40000) ∧ (sumLen ps ≤ 3000 ∨ ps.length = 1)
/-- what a bool result says -/
def Says (P : Prop) (B : Nat) (w : World) (e : Ending) (w' : World) : Prop := (∃ b : Bool, e = .returned (.bool b) ∧ (b = true → P)) ∧ Below B w w'

set_option maxHeartbeats 400000 in
theorem few_any (s e : Bool) (A : Option Addr) (n c : Nat) (vs : List Value) (ps : List (List UInt8)) (w : World) (h : Sls w w.heap.size A n c vs ps) :
    Calls Try.prog 17 #[.agg #[.bool s, .bool e, .slice A n c]] w (Says (Few ps) w.heap.size w) := by
  have HL := Lib.hid h.len
  have hA := h.alloc (Nat.le_refl _) (.cells #[.bool s, .bool e, .slice A n c] 24)
  by_cases h70 : n ≤ 70
  · go_enter Try.func17, Try.ntmps17
    go_wp2
    go_loop [3, 4] (fun t i => ∃ k : Nat, k ≤ n ∧ i = .int .i64 k ∧ t = .int .i64 (sumLen (ps.take k)) ∧ sumLen (ps.take k) ≤ 40000 * k ∧ ∀ p ∈ ps.take k, p.length ≤ 40000) (fun _ i => n - (intOf i).toNat)
    case atStart => exact ⟨0, Nat.zero_le _, rfl, rfl, by simp [sumLen], by simp⟩
    case round =>
      obtain ⟨k, hk, rfl, rfl, hs, hall⟩ := hrel
      have HA := Lib.hid hall
      clear hall
      by_cases hlt : k < n
      · obtain ⟨ad, Ai, ci, rfl, hb, hc, hsl⟩ := hA.get hlt
        have hs1 := sumLen_take ps k (by rw [HL.out]; exact hlt)
        have hl : (ps[k]?.getD []).length ≤ 9223372036854775807 := by have := hsl.cap; have := hsl.mx; omega
        generalize hp : ps[k]?.getD [] = p at *
        generalize hS : sumLen (List.take k ps) = S at *
        have HP := Lib.hid hp
        have HS := Lib.hid hs1
        clear hp hs1 hS
        by_cases hp4 : p.length ≤ 40000
        · go_wp2
          go_round
          case rel =>
            refine ⟨k + 1, by omega, by go_num, by rw [HS.out]; go_num, by rw [HS.out]; omega, ?_⟩
            intro q hq
            rw [List.take_add_one, List.mem_append] at hq
            rcases hq with hq | hq
            · exact HA.out q hq
            · have e := HP.out
              rw [List.getElem?_eq_getElem (by rw [HL.out]; exact hlt)] at hq e
              simp at hq e
              rw [hq, e]; exact hp4
          case measure => simp [intOf]; omega
        · go_wp2
          go_ret
          exact ⟨⟨false, rfl, by simp⟩, (Below.refl _ _).alloc (Nat.le_refl _) _⟩
      · have hfin : (sumLen (List.take k ps) ≤ 3000 ∨ n = 1) → Few ps := by
          intro hh
          have e : ps.take k = ps := List.take_of_length_le (by rw [HL.out]; omega)
          have hA2 := HA.out
          rw [e] at hA2 hh
          exact ⟨by rw [HL.out]; exact h70, hA2, by rw [HL.out]; exact hh⟩
        have HF := Lib.hid hfin
        clear hfin
        generalize sumLen (List.take k ps) = S at *
        by_cases h3 : S ≤ 3000
        · go_wp2
          go_ret
          exact ⟨⟨true, ret_bool (by first | (simp; done) | (simp; omega)), fun _ => HF.out (.inl h3)⟩, (Below.refl _ _).alloc (Nat.le_refl _) _⟩
        · by_cases h1 : n = 1
          · have h1' : ((n : Int) == 1) = true := by simp; omega
            have h1f := HF.out (.inr h1)
            have H1 := Lib.hid h1f
            clear h1 h1f
            go_wp2
            go_ret
            exact ⟨⟨true, ret_bool (by first | rfl | (simp; omega)), fun _ => H1.out⟩, (Below.refl _ _).alloc (Nat.le_refl _) _⟩
          · have h1' : ((n : Int) == 1) = false := by simp; omega
            go_wp2
            go_ret
            exact ⟨⟨false, ret_bool (by first | rfl | (simp; omega)), by simp⟩, (Below.refl _ _).alloc (Nat.le_refl _) _⟩
  · go_enter Try.func17, Try.ntmps17
    go_wp2
    go_ret
    exact ⟨⟨false, rfl, by simp⟩, (Below.refl _ _).alloc (Nat.le_refl _) _⟩
end Go.Proofs.Ytchlbpfeiamieaa
