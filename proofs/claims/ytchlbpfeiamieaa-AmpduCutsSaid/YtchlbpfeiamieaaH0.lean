/- Layer 33: Header of the program and of the reference; the reference's Valid and bit. -/
import Derived.Test.YtchlbpfeiamieaaVa
import Derived.Test.YtchlbpfeiamieaaLa
namespace Go.Proofs.Ytchlbpfeiamieaa
open Go.RowKit Go.Shelf
attribute [local go_sem] Oper.semAt_some

theorem hdrN_bd (n : Int) : 0 ≤ hdrN n ∧ hdrN n ≤ 97 := by unfold hdrN; split <;> omega
/-- the number of header bytes -/
def hdrA (n : Int) (sg : Bool) : Int := if 0 < hdrN n ∧ sg = true then hdrN n + 2 else hdrN n

set_option maxHeartbeats 400000 in
theorem rheader_any (n : Int) (w : World) (h : -9223372036854775808 ≤ n ∧ n ≤ 9223372036854775807) :
    Calls Try.prog 127 #[.int .i64 n] w fun e w' => e = .returned (.int .i64 (hdrN n)) ∧ w = w' := by
  have hfin : hdrN n = if n < 1 ∨ 64 < n then 0 else 2 + (12 * (n - 1) + 7) / 8 := rfl
  have HF := Lib.hid hfin
  clear hfin
  generalize hdrN n = r at *
  by_cases h1 : n < 1
  · go_enter Try.func127, Try.ntmps127
    go_wp2
    go_ret
    exact ⟨ret_int (by rw [HF.out, if_pos (by omega)]), rfl⟩
  · by_cases h2 : 64 < n
    · go_enter Try.func127, Try.ntmps127
      go_wp2
      go_ret
      exact ⟨ret_int (by rw [HF.out, if_pos (by omega)]), rfl⟩
    · go_enter Try.func127, Try.ntmps127
      go_wp2
      go_ret
      exact ⟨ret_int (by rw [HF.out, if_neg (by omega)]), rfl⟩

set_option maxHeartbeats 400000 in
theorem headerA_any (n : Int) (sg : Bool) (w : World) (h : -9223372036854775808 ≤ n ∧ n ≤ 9223372036854775807) :
    Calls Try.prog 51 #[.int .i64 n, .bool sg] w fun e w' => e = .returned (.int .i64 (hdrA n sg)) ∧ w = w' := by
  have hh := header_any n w h
  have hbd := hdrN_bd n
  have hfin : hdrA n sg = if 0 < hdrN n ∧ sg = true then hdrN n + 2 else hdrN n := rfl
  generalize hdrA n sg = R at *
  generalize hdrN n = r at *
  have HH := Lib.hid hh
  have HF := Lib.hid hfin
  clear hh hfin
  cases sg
  all_goals
    by_cases h0 : 0 < r
    all_goals
      go_enter Try.func51, Try.ntmps51
      go_wp2_with (go_at_call 27; refine HH.out.mono ?_; rintro e1 w1 ⟨rfl, rfl⟩)
      go_ret
      exact ⟨ret_int (by rw [HF.out]; (try simp [h0]); (try omega)), rfl⟩

set_option maxHeartbeats 400000 in
theorem rheaderA_any (n : Int) (sg : Bool) (w : World) (h : -9223372036854775808 ≤ n ∧ n ≤ 9223372036854775807) :
    Calls Try.prog 52 #[.int .i64 n, .bool sg] w fun e w' => e = .returned (.int .i64 (hdrA n sg)) ∧ w = w' := by
  have hh := rheader_any n w h
  have hbd := hdrN_bd n
  have hfin : hdrA n sg = if 0 < hdrN n ∧ sg = true then hdrN n + 2 else hdrN n := rfl
  generalize hdrA n sg = R at *
  generalize hdrN n = r at *
  have HH := Lib.hid hh
  have HF := Lib.hid hfin
  clear hh hfin
  cases sg
  all_goals
    by_cases h0 : 0 < r
    all_goals
      go_enter Try.func52, Try.ntmps52
      go_wp2_with (go_at_call 127; refine HH.out.mono ?_; rintro e1 w1 ⟨rfl, rfl⟩)
      go_ret
      exact ⟨ret_int (by rw [HF.out]; (try simp [h0]); (try omega)), rfl⟩

theorem rbit_any (b : Bool) (w : World) : Calls Try.prog 120 #[.bool b] w fun e w' => e = .returned (.int .u64 b.toNat) ∧ w = w' := by
  cases b
  all_goals
    go_enter Try.func120, Try.ntmps120
    go_wp2
    go_ret
    exact ⟨rfl, rfl⟩

theorem validA_false1 {sn : Int} {sg la : Bool} {off : Int} {ps : List (List UInt8)} (h : sn < 0 ∨ 1023 < sn ∨ validB ps = false) : validA sn sg la off ps = false := by
  rw [← Bool.not_eq_true, validA_iff]
  intro hv
  have h0 := hv.sn0
  have h1 := hv.sn1
  have h2 := hv.vp
  rcases h with h | h | h
  · omega
  · omega
  · rw [h] at h2; cases h2

set_option maxHeartbeats 1600000 in
theorem rvalidA_any (sn : Int) (po sg la : Bool) (off : Int) (s e : Bool) (A : Option Addr) (n c : Nat) (vs : List Value) (ps : List (List UInt8)) (w : World) (h : Sls w w.heap.size A n c vs ps) (hn : n ≤ 1048576) (hle : ∀ p ∈ ps, p.length ≤ 1099511627776) :
    Calls Try.prog 50 #[.agg (apdu sn po sg la off s e A n c)] w (Tells' (validA sn sg la off ps) w) := by
  have hB := (Below.refl w.heap.size w).alloc (Nat.le_refl _) (.cells (apdu sn po sg la off s e A n c) 68)
  have hA := (h.below hB).more hB.size
  have hva := rvalid_any s e A n c vs ps _ hA hn hle
  have bx := Blk.new w 68 (apdu sn po sg la off s e A n c)
  have hsum : sumLen ps ≤ 1152921504606846976 := by
    have := sumLen_bound ps _ hle
    have h2 := h.len
    have : 1099511627776 * ps.length ≤ 1099511627776 * 1048576 := Nat.mul_le_mul_left _ (by omega)
    omega
  unfold apdu at *
  have HB := Lib.hid hB
  have HV := Lib.hid hva
  have HLE := Lib.hid hle
  clear hB hva hle
  by_cases h0 : sn < 0
  · rw [validA_false1 (.inl h0)]
    go_enter Try.func50, Try.ntmps50
    go_wp2
    go_ret
    exact ⟨rfl, HB.out⟩
  by_cases h1 : 1023 < sn
  · rw [validA_false1 (.inr (.inl h1))]
    go_enter Try.func50, Try.ntmps50
    go_wp2
    go_ret
    exact ⟨rfl, HB.out⟩
  have hd0 : decide (sn < 0) = false := by simpa using h0
  have hd1 : decide (1023 < sn) = false := by simpa using h1
  cases hvb : validB ps with
  | false =>
    rw [validA_false1 (.inr (.inr hvb))]
    rw [hvb] at HV
    clear hvb
    go_enter Try.func50, Try.ntmps50
    go_wp2_with (go_at_call 77; refine HV.out.mono ?_; rintro e1 w1 ⟨rfl, hb1⟩)
    go_ret
    exact ⟨rfl, HB.out.trans (hb1.mono HB.out.size)⟩
  | true =>
    have hval : validA sn sg la off ps = if sg then decide (0 ≤ off ∧ off ≤ 32767 - (sumLen ps : Int)) else !la && decide (off = 0) := by
      unfold validA aConds
      rw [hvb, show decide (0 ≤ sn ∧ sn < 1024) = true by simp; omega]
      simp
    generalize validA sn sg la off ps = R at *
    have HR := Lib.hid hval
    rw [hvb] at HV
    clear hval hvb
    go_enter Try.func50, Try.ntmps50
    go_wp2_with fail
    refine HV.out.mono ?_
    rintro e1 w1 ⟨rfl, hb1⟩
    have hA1 := (hA.below hb1).more hb1.size
    have bx1 := bx.below hb1 bx.lt
    have hB1 := HB.out.trans (hb1.mono HB.out.size)
    obtain ⟨x0, x1, x2, x3, x4, x5, x6, x7⟩ := bx1.eight
    have HB1 := Lib.hid hB1
    clear hb1 bx hA HB HV hB1
    cases sg with
    | false =>
      cases la with
      | true =>
        go_wp2
        go_ret
        exact ⟨ret_bool (by rw [HR.out]; simp), HB1.out⟩
      | false =>
        have e2 : (off == 0) = R := by rw [HR.out, Bool.eq_iff_iff]; simp
        clear HR
        go_wp2
        go_ret
        exact ⟨rfl, HB1.out⟩
    | true =>
      by_cases hoff : 0 ≤ off
      · have hsz := rsize_any s e A n c vs ps w1.drew hA1.drew' hn HLE.out
        have HZ := Lib.hid hsz
        clear hsz
        generalize sumLen ps = S at *
        have hdo : decide (0 ≤ off) = true := by simpa using hoff
        have hRR : R = decide (off ≤ 32767 - (S : Int)) := by rw [HR.out]; simp [hoff]
        subst hRR
        clear HR
        go_wp2
        have hbp : w.heap.size < w1.drew.heap.size := bx1.lt
        go_region_held3 (fun w' => w'.cell? ⟨w.heap.size, 4, none⟩ = some (.int .i64 off) ∧ w'.cell? ⟨w.heap.size, 5, none⟩ = some (.bool s) ∧ w'.cell? ⟨w.heap.size, 6, none⟩ = some (.bool e) ∧ w'.cell? ⟨w.heap.size, 7, none⟩ = some (.slice A n c))
          (first | (refine ⟨(hb2.cell (p := ⟨w.heap.size, 4, none⟩) hbp).trans x4, (hb2.cell (p := ⟨w.heap.size, 5, none⟩) hbp).trans x5, (hb2.cell (p := ⟨w.heap.size, 6, none⟩) hbp).trans x6, (hb2.cell (p := ⟨w.heap.size, 7, none⟩) hbp).trans x7⟩) | go_keep)
          ((go_at_call 55; refine HZ.out.mono ?_; rintro e2 w2 ⟨rfl, hb2⟩))
        go_wp2
        go_ret
        refine ⟨ret_bool ?_, HB1.out.trans ((((Below.refl w1.heap.size w1).drew).trans hb2).mono HB1.out.size)⟩
        rw [IntWalk.i64_in _ (by omega)]
      · have hRR : R = false := by rw [HR.out]; simp; omega
        subst hRR
        clear HR
        have hdo : decide (0 ≤ off) = false := by simpa using hoff
        clear hA1 h
        go_wp2
        go_quiet (fail)
        go_wp2
        go_ret
        exact ⟨rfl, HB1.out.trans (((Below.refl _ w1).drewN _).mono HB1.out.size)⟩
end Go.Proofs.Ytchlbpfeiamieaa
