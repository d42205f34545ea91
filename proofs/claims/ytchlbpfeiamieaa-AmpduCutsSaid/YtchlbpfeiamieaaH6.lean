/- law33: joined; ampdu.Cut, every case. -/
import Derived.Test.YtchlbpfeiamieaaV6
import Derived.Test.YtchlbpfeiamieaaN5
import Derived.Test.YtchlbpfeiamieaaH2
namespace Go.Proofs.Ytchlbpfeiamieaa
open Go.RowKit Go.Shelf
attribute [local go_sem] Oper.semAt_some

set_option maxHeartbeats 1000000 in
theorem joined_any (s e : Bool) (A : Option Addr) (n c : Nat) (vs : List Value) (ps : List (List UInt8)) (w : World) (h : Sls w w.heap.size A n c vs ps) (hsm : sumLen ps ≤ 100000000) :
    Calls Try.prog 54 #[.agg #[.bool s, .bool e, .slice A n c]] w (GivesRow w.heap.size 5 w (sumLen ps) (bvs ps.flatten)) := by
  obtain ⟨i0, hi, hz0, hz1, hz2⟩ := info_parts u8_info
  have hn63 : n ≤ 9223372036854775807 := by have := h.sl.cap; have := h.sl.mx; omega
  have HL := Lib.hid h.len
  have HSM := Lib.hid hsm
  have hB := (Below.refl w.heap.size w).alloc (Nat.le_refl _) (.cells #[.bool s, .bool e, .slice A n c] 24)
  have hA := (h.below hB).more hB.size
  have bx := Blk.new w 24 #[.bool s, .bool e, .slice A n c]
  clear hsm h
  go_enter Try.func54, Try.ntmps54
  go_wp2
  generalize w.alloc (.cells #[.bool s, .bool e, .slice A n c] 24) = w1 at *
  have hlt1 := bx.lt
  go_loopw [3, 4] (fun v i wr => ∃ k : Nat, k ≤ n ∧ i = .int .i64 k ∧ wr.ownsRow w1.heap.size 5 1 v (sumLen (ps.take k)) (bvs (ps.take k).flatten) ∧ Below w1.heap.size w1 wr) (fun _ i _ => n - (intOf i).toNat)
  case atStart => exact ⟨0, Nat.zero_le _, rfl, by simpa [sumLen, bvs] using World.ownsRow_nil _ _ _ _, Below.refl _ _⟩
  case round =>
    obtain ⟨k, hk, rfl, hown, hbw⟩ := hrel
    obtain ⟨y0, y1, y2⟩ := (bx.below hbw hlt1).three
    by_cases hlt : k < n
    · obtain ⟨ad, Ai, ci, rfl, hb, hc, hsl⟩ := (hA.below hbw).get hlt
      have hs1 := sumLen_take ps k (by rw [HL.out]; exact hlt)
      have hf1 := flatten_take ps k (by rw [HL.out]; exact hlt)
      have hle1 := Nat.le_trans (sumLen_take_le ps (k + 1)) HSM.out
      generalize ps[k]?.getD [] = p at *
      generalize sumLen (List.take k ps) = S1 at *
      generalize (List.take k ps).flatten = F1 at *
      have hle2 : S1 + p.length ≤ 100000000 := by omega
      have HS1 := Lib.hid hs1
      have HF1 := Lib.hid hf1
      clear hs1 hle1 hf1
      go_wp2_with (at_builtin; refine wpList_append_sl _ rfl _ _ 29 rfl w1.heap.size 5 i0 (.int .u8 0) 1 und29 hi hz0 hz1 hz2 rfl _ S1 (bvs F1) rfl hown w1.heap.size Ai p.length ci (bvs p) rfl hsl (one_bvs p) ?c3 ?c4 ?c5 ?_)
      case c3 => unfold maxLen; omega
      case c4 => omega
      case c5 => exact hbw.size
      intro v' w2 hown' hgrow _
      go_wp2
      go_roundw
      case rel => exact ⟨k + 1, by omega, by go_num, by rw [HS1.out, HF1.out]; simpa [bvs] using hown', hbw.grown hgrow hbw.size (fun j hj => (hown.lt j hj).1)⟩
      case measure => simp [intOf]; omega
    · have e : ps.take k = ps := List.take_of_length_le (by rw [HL.out]; omega)
      rw [e] at hown
      go_wp2
      go_ret
      exact ⟨_, rfl, own_base hown hB.size, hB.trans (hbw.mono hB.size)⟩

/-- what Cut comes to: an error, or a segment -/
def CutIs (sn : Int) (po sg la : Bool) (off : Int) (s e : Bool) (A : Option Addr) (n c : Nat) (vs : List Value) (ps : List (List UInt8)) (fr till : Int) : Prop :=
  (∃ er : Int, er ≠ 0 ∧ ∀ w : World, Sls w w.heap.size A n c vs ps → Calls Try.prog 44 #[.agg (apdu sn po sg la off s e A n c), .int .i64 fr, .int .i64 till] w (CutFails w er)) ∨
  (∃ m o x y : Nat, sn = m ∧ off = o ∧ fr = x ∧ till = y ∧ validA sn sg la off ps = true ∧ o ≤ 32767 ∧ o ≤ x ∧ x < y ∧ y ≤ o + sumLen ps)
set_option maxRecDepth 100000 in
theorem cutA_all (sn : Int) (po sg la : Bool) (off : Int) (s e : Bool) (A : Option Addr) (n c : Nat) (vs : List Value) (ps : List (List UInt8)) (fr till : Int) (hn : n ≤ 1048576) (hle : ∀ p ∈ ps, p.length ≤ 1099511627776) :
    CutIs sn po sg la off s e A n c vs ps fr till := by
  cases hv : validA sn sg la off ps with
  | false => exact .inl ⟨2, by omega, fun w h => cutA_bad sn po sg la off s e A n c vs ps fr till w h hn hle hv⟩
  | true =>
    obtain ⟨m, o, rfl, rfl, ho⟩ := validA_nat hv
    by_cases hr : fr < o ∨ till ≤ fr ∨ (o : Int) + sumLen ps < till
    · exact .inl ⟨6, by omega, fun w h => cutA_range m po sg la o s e A n c vs ps fr till w h hv ho hr⟩
    · exact .inr ⟨m, o, fr.toNat, till.toNat, rfl, rfl, by omega, by omega, hv, ho, by omega, by omega, by omega⟩
end Go.Proofs.Ytchlbpfeiamieaa
