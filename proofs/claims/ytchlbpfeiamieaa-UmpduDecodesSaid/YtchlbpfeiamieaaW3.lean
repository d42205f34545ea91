/- slices.Grow of nil, slices.Concat. -/
import Derived.Test.YtchlbpfeiamieaaW2
import Derived.Lib.AppendZeros
namespace Go.Proofs.Ytchlbpfeiamieaa
open Go.RowKit

def sumLen (ps : List (List UInt8)) : Nat := (ps.map List.length).sum

set_option maxRecDepth 3000 in
set_option maxHeartbeats 400000 in
theorem grow_nil (n : Nat) (w : World) (hsm : n ≤ 1000000000) : Calls Try.prog 138 #[.slice none 0 0, .int .i64 n] w (GivesRow w.heap.size 5 w 0 []) := by
  obtain ⟨i0, hi, hz0, hz1, hz2⟩ := info_parts u8_info
  rcases Nat.eq_zero_or_pos n with rfl | hpos
  · go_enter Try.func138, Try.ntmps138
    go_wp2
    go_ret
    exact ⟨_, rfl, World.ownsRow_nil _ _ _ _, Below.refl _ _⟩
  · have hr := Lib.run_append_nil_zeros (P := Try.prog) w 29 3 29 5 i0 (.int .u8 0) .i64 .i64 und29 (by kernel_rfl) hi hz0 n hpos (by omega) (by omega) (by rw [hz2]; omega)
    have hcap := grownCap_ge w n 0 5
    have hmx := grownCap_le_maxLen w n 0 5 (by unfold maxLen; omega)
    unfold maxLen at hmx
    generalize grownCap w n 0 5 = cap at *
    have HR := Lib.hid hr
    clear hr
    go_enter Try.func138, Try.ntmps138
    go_wp2_with (at_builtin; refine Lib.wpList_append_run _ rfl _ _ 29 3 rfl (.slice none 0 0) (.int .i64 n) rfl rfl _ _ HR.out ?_)
    go_ret
    refine ⟨_, rfl, ⟨rfl, .inr ⟨w.heap.size, cap, _, rfl, Nat.le_refl _, heap_alloc_new w _, Nat.zero_le _, by unfold maxLen; omega, ?_, rfl⟩⟩, ((Below.refl _ w).alloc (Nat.le_refl _) _).drew⟩
    rw [Array.size_append, size_zeroCells, size_zeroCells]
    simp; omega

theorem sumLen_nil : sumLen [] = 0 := rfl
theorem sumLen_take (ps : List (List UInt8)) (k : Nat) (h : k < ps.length) : sumLen (ps.take (k + 1)) = sumLen (ps.take k) + (ps[k]?.getD []).length := by
  unfold sumLen
  rw [List.take_add_one, List.getElem?_eq_getElem h, List.map_append, List.sum_append]
  rfl
theorem flatten_take (ps : List (List UInt8)) (k : Nat) (h : k < ps.length) : (ps.take (k + 1)).flatten = (ps.take k).flatten ++ ps[k]?.getD [] := by
  rw [List.take_add_one, List.getElem?_eq_getElem h, List.flatten_append]
  simp
theorem flatten_length (ps : List (List UInt8)) : ps.flatten.length = sumLen ps := by simp [sumLen, List.length_flatten]
theorem sumLen_take_le (ps : List (List UInt8)) (k : Nat) : sumLen (ps.take k) ≤ sumLen ps := by
  conv => rhs; rw [← List.take_append_drop k ps]
  unfold sumLen
  rw [List.map_append, List.sum_append]
  omega

set_option maxRecDepth 3000 in
set_option maxHeartbeats 1000000 in
theorem concat_any (A : Option Addr) (n c : Nat) (vs : List Value) (ps : List (List UInt8)) (w : World) (h : Sls w w.heap.size A n c vs ps) (hsm : sumLen ps ≤ 100000000) :
    Calls Try.prog 76 #[.slice A n c] w (GivesRow w.heap.size 5 w (sumLen ps) (bvs ps.flatten)) := by
  obtain ⟨i0, hi, hz0, hz1, hz2⟩ := info_parts u8_info
  have hn63 : n ≤ 9223372036854775807 := by have := h.sl.cap; have := h.sl.mx; omega
  have HL := Lib.hid h.len
  have HSM := Lib.hid hsm
  clear hsm
  go_enter Try.func76, Try.ntmps76
  go_wp2
  go_loop [3, 11] (fun t i => ∃ k : Nat, k ≤ n ∧ i = .int .i64 k ∧ t = .int .i64 (sumLen (ps.take k))) (fun _ i => n - (intOf i).toNat)
  case atStart => exact ⟨0, Nat.zero_le _, rfl, rfl⟩
  case round =>
    obtain ⟨k, hk, rfl, rfl⟩ := hrel
    by_cases hlt : k < n
    · obtain ⟨ad, Ai, ci, rfl, hb, hc, hsl⟩ := h.get hlt
      have hs1 := sumLen_take ps k (by rw [HL.out]; exact hlt)
      have hle1 := Nat.le_trans (sumLen_take_le ps (k + 1)) HSM.out
      have hle0 := Nat.le_trans (sumLen_take_le ps k) HSM.out
      generalize ps[k]?.getD [] = p at *
      generalize sumLen (List.take k ps) = S at *
      have hle2 : S + p.length ≤ 100000000 := by omega
      have HS := Lib.hid hs1
      clear hs1 hle1
      go_wp2
      go_round
      case rel => exact ⟨k + 1, by omega, by go_num, by rw [HS.out]; go_num⟩
      case measure => simp [intOf]; omega
    · have e : ps.take k = ps := List.take_of_length_le (by rw [HL.out]; omega)
      rw [e]
      have hle := HSM.out
      generalize hS : sumLen ps = S at *
      have HS := Lib.hid hS
      clear hS
      go_wp2_with (go_at_call 138; refine (grow_nil S w (by omega)).mono ?_; rintro e w1 ⟨v1, rfl, hv1, hb1⟩)
      clear hk hlt e
      go_loopw [6, 27] (fun v i wr => ∃ k : Nat, k ≤ n ∧ i = .int .i64 k ∧ wr.ownsRow w.heap.size 5 1 v (sumLen (ps.take k)) (bvs (ps.take k).flatten) ∧ Below w.heap.size w wr) (fun _ i _ => n - (intOf i).toNat)
      case atStart => exact ⟨0, Nat.zero_le _, rfl, by simpa [sumLen, bvs] using hv1, hb1⟩
      case round =>
        clear hv1 hb1
        obtain ⟨k, hk, rfl, hown, hbw⟩ := hrel
        by_cases hlt : k < n
        · obtain ⟨ad, Ai, ci, rfl, hb, hc, hsl⟩ := (h.below hbw).get hlt
          have hs1 := sumLen_take ps k (by rw [HL.out]; exact hlt)
          have hf1 := flatten_take ps k (by rw [HL.out]; exact hlt)
          have hle1 := sumLen_take_le ps (k + 1)
          rw [HS.out] at hle1
          generalize ps[k]?.getD [] = p at *
          generalize sumLen (List.take k ps) = S1 at *
          generalize (List.take k ps).flatten = F1 at *
          have hle2 : S1 + p.length ≤ 100000000 := by omega
          have HS1 := Lib.hid hs1
          have HF1 := Lib.hid hf1
          clear hs1 hle1 hf1
          go_wp2_with (at_builtin; refine wpList_append_sl _ rfl _ _ 29 rfl w.heap.size 5 i0 (.int .u8 0) 1 und29 hi hz0 hz1 hz2 rfl _ S1 (bvs F1) rfl hown w.heap.size Ai p.length ci (bvs p) rfl hsl (one_bvs p) ?c3 ?c4 ?c5 ?_)
          case c3 => unfold maxLen; omega
          case c4 => omega
          case c5 => exact hbw.size
          intro v' w2 hown' hgrow _
          go_wp2
          go_roundw
          case rel => exact ⟨k + 1, by omega, by go_num, by rw [HS1.out, HF1.out]; simpa [bvs] using hown', hbw.grown hgrow hbw.size (fun j hj => (hown.lt j hj).1)⟩
          case measure => simp [intOf]; omega
        · have e : ps.take k = ps := List.take_of_length_le (by rw [HL.out]; omega)
          rw [e, HS.out] at hown
          go_wp2
          go_ret
          exact ⟨_, rfl, hown, hbw⟩
end Go.Proofs.Ytchlbpfeiamieaa
