/- The reference of layer 30: Tail, Encode. -/
import Derived.Test.YtchlbpfeiamieaaX3
namespace Go.Proofs.Ytchlbpfeiamieaa
open Go.RowKit

theorem lenBits_step (ps : List (List UInt8)) (k : Nat) (p : List UInt8) (hp : ps[k]?.getD [] = p) (L : List Bool) : bbs (L ++ lenBits ps (k + 1)) = bbs (L ++ lenBits ps k) ++ bbs (bitsOf (decide (k + 2 < ps.length)).toNat 1) ++ bbs (bitsOf p.length 11) := by
  rw [lenBits_succ]
  unfold lenField
  rw [hp]
  simp [fieldBits, bbs]

set_option maxRecDepth 100000 in
set_option maxHeartbeats 2000000 in
theorem tail_ok (A0 : Option Addr) (m c0 : Nat) (L : List Bool) (s e : Bool) (A : Option Addr) (n c : Nat) (vs : List Value) (ps : List (List UInt8)) (w : World) (h0 : Sl w w.heap.size A0 m c0 (bvs (bbs L))) (hm : m ≤ 1000) (h : Sls w w.heap.size A n c vs ps) (hv : validB ps = true) :
    Calls Try.prog 80 #[.slice A0 m c0, .agg #[.bool s, .bool e, .slice A n c]] w (GivesRow w.heap.size 5 w (pack (L ++ lenBits ps (n - 1)) ++ ps.flatten).length (bvs (pack (L ++ lenBits ps (n - 1)) ++ ps.flatten))) := by
  obtain ⟨i0, hi, hz0, hz1, hz2⟩ := info_parts u8_info
  obtain ⟨hlo, hhi, hpos, hshort, hsum⟩ := (validB_iff ps).1 hv
  have hlen := h.len
  have HL := Lib.hid hlen
  have HS := Lib.hid hshort
  have HSM := Lib.hid hsum
  have hLm : L.length = m := by have := h0.len; simpa using this
  have HLm := Lib.hid hLm
  obtain ⟨N, hN⟩ : ∃ N, n = N + 1 := ⟨n - 1, by omega⟩
  subst hN
  have hN63 : N ≤ 63 := by omega
  rw [show N + 1 - 1 = N by omega]
  have hB := (Below.refl w.heap.size w).alloc (Nat.le_refl _) (.cells #[.bool s, .bool e, .slice A (N + 1) c] 24)
  have hA := (h.below hB).more hB.size
  have h0' := (h0.below hB).more hB.size
  have bx := Blk.new w 24 #[.bool s, .bool e, .slice A (N + 1) c]
  have HB := Lib.hid hB
  clear hlo hhi hpos hshort hlen hsum hv hLm h h0 hB
  go_enter Try.func80, Try.ntmps80
  go_wp2
  generalize hw1 : w.alloc (.cells #[.bool s, .bool e, .slice A (N + 1) c] 24) = w1 at *
  have hsz1 : w1.heap.size = w.heap.size + 1 := by rw [← hw1]; simp
  have HSZ := Lib.hid hsz1
  clear hsz1 hw1
  go_loopw [0, 5] (fun v i wr => ∃ k : Nat, k ≤ N ∧ i = .int .i64 k ∧ (∃ Ab cb, v = .slice Ab (m + 12 * k) cb ∧ Sl wr wr.heap.size Ab (m + 12 * k) cb (bvs (bbs (L ++ lenBits ps k)))) ∧ Below w1.heap.size w1 wr) (fun _ i _ => N - (intOf i).toNat)
  case atStart => exact ⟨0, Nat.zero_le _, rfl, ⟨_, _, rfl, by simpa [lenBits] using h0'⟩, Below.refl _ _⟩
  case round =>
    clear h0'
    obtain ⟨k, hk, rfl, ⟨Ab, cb, rfl, hbits⟩, hb⟩ := hrel
    have bxk := bx.below hb bx.lt
    have x2 := bxk.cell 2
    simp at x2
    by_cases hlt : k < N
    · have hAk := (hA.below hb)
      obtain ⟨ad, Ai, ci, rfl, hbk, hc, hsl⟩ := hAk.get (k := k) (by omega)
      have hp := HS.out k (by rw [HL.out]; omega)
      have hst := fun p hp => lenBits_step ps k p hp L
      rw [HL.out] at hst
      obtain ⟨p, hpp⟩ : ∃ p, ps[k]?.getD [] = p := ⟨_, rfl⟩
      replace hst := hst p hpp
      rw [hpp] at hp hc
      clear hsl hpp
      obtain ⟨d, hd⟩ : ∃ d : Bool, decide (k + 2 < N + 1) = d := ⟨_, rfl⟩
      rw [hd] at hst
      have HST := Lib.hid hst
      have HD := Lib.hid hd
      clear hst hd
      have hd1 : d.toNat < 2 ^ 1 := by cases d <;> simp
      have hput := put_ok Ab (m + 12 * k) cb (bbs (L ++ lenBits ps k)) d.toNat 1 wr hbits (by omega) (by omega) hd1 (by omega)
      have HPut := Lib.hid hput
      have hwp : IntKind.u64.wrap (p.length : Int) = p.length := by rw [IntKind.wrap_u64]; omega
      clear hput hbits
      cases d
      all_goals
        first
          | have h2 : k + 2 < N + 1 := by simpa using HD.out
          | have h2 : ¬ k + 2 < N + 1 := by simpa using HD.out
        go_wp2_with fail
        refine HPut.out.mono ?_
        rintro e1 w2 ⟨v2, rfl, hv2, hb2⟩
        obtain ⟨A2, c2, rfl, hs2, _⟩ := own_sl hv2
        have hb12 := hb.trans (hb2.mono hb.size)
        have hc' := (hb2.cell (p := ad.add k) (by rw [block_add]; have := hb.size; omega)).trans hc
        have x2' := (hb2.cell (p := ⟨w.heap.size, 2, none⟩) (by have := hb.size; have := HSZ.out; simp; omega)).trans x2
        have hput2 := put_ok A2 _ c2 _ p.length 11 w2 hs2 (by omega) (by omega) (by omega) (by omega)
        have HPut2 := Lib.hid hput2
        clear hput2 HPut hs2 hc x2 hv2
        go_wp2_with fail
        refine HPut2.out.mono ?_
        rintro e3 w3 ⟨v3, rfl, hv3, hb3⟩
        obtain ⟨A3, c3, rfl, hs3, _⟩ := own_sl hv3
        rw [← HST.out] at hs3
        have hb13 := hb12.trans (hb3.mono hb12.size)
        clear HPut2 hv3 hc' x2' hb2 hb3 hb12
        go_wp2
        go_roundw
        case rel => exact ⟨k + 1, by omega, by go_num, ⟨A3, c3, by rw [show m + 12 * (k + 1) = m + 12 * k + 1 + 11 by omega], by rw [show m + 12 * (k + 1) = m + 12 * k + 1 + 11 by omega]; exact hs3⟩, hb13⟩
        case measure => simp [intOf]; omega
    · obtain rfl : k = N := by omega
      have hLl : (L ++ lenBits ps k).length = m + 12 * k := by rw [List.length_append, lenBits_length, HLm.out]
      have hal := ralign_any Ab (m + 12 * k) cb (L ++ lenBits ps k) wr hbits (by omega)
      have hpk := pack_pad (L ++ lenBits ps k) (8 * nbytes (L ++ lenBits ps k).length - (L ++ lenBits ps k).length) (by unfold nbytes; omega)
      have hpl : (pack (L ++ lenBits ps k)).length ≤ 1000 := by rw [pack_length, hLl]; unfold nbytes; omega
      have hpn : nbytes (L ++ lenBits ps k ++ List.replicate (8 * nbytes (L ++ lenBits ps k).length - (L ++ lenBits ps k).length) false).length = (pack (L ++ lenBits ps k)).length := by
        rw [← pack_length, hpk]
      have hl8 : 8 * nbytes (L ++ lenBits ps k).length ≤ 100000 := by rw [hLl]; unfold nbytes; omega
      generalize (L ++ lenBits ps k) ++ List.replicate (8 * nbytes (L ++ lenBits ps k).length - (L ++ lenBits ps k).length) false = L2 at *
      generalize 8 * nbytes (L ++ lenBits ps k).length = M8 at *
      generalize pack (L ++ lenBits ps k) = PK at *
      have HAL := Lib.hid hal
      have HPK := Lib.hid hpk
      have HPN := Lib.hid hpn
      clear hal hpk hLl hbits hlt hk hpn
      go_wp2_with fail
      refine HAL.out.mono ?_
      rintro e2 w2 ⟨v2, rfl, hv2, hb2⟩
      obtain ⟨A2, c2, rfl, hs2, _⟩ := own_sl hv2
      have hby := rbytes_any A2 M8 c2 L2 w2 hs2 (by omega)
      rw [HPK.out, HPN.out] at hby
      have HBY := Lib.hid hby
      have hb12 := hb.trans (hb2.mono hb.size)
      clear hby HAL hs2 hv2 hb2
      go_wp2_with fail
      refine HBY.out.mono ?_
      rintro e3 w3 ⟨v3, rfl, hv3, hb3⟩
      have hb13 := hb12.trans (hb3.mono hb12.size)
      have hv3' := own_base hv3 (show w.heap.size ≤ w2.heap.size by have := hb12.size; have := HSZ.out; omega)
      have hob : ∀ g, v3.ownBlock = some g → w1.heap.size ≤ g := fun g hg => by have := (hv3.lt g hg).1; have := hb12.size; omega
      have hv31 := own_base hv3 hb12.size
      clear HBY hb12 hb3 hv3 hb x2 bxk hob hv3'
      have hb := hb13
      clear hb13
      go_wp2
      go_loopw [7, 8] (fun v i wr => ∃ j : Nat, j ≤ k + 1 ∧ i = .int .i64 j ∧ wr.ownsRow w1.heap.size 5 1 v (PK.length + sumLen (ps.take j)) (bvs (PK ++ (ps.take j).flatten)) ∧ Below w1.heap.size w1 wr) (fun _ i _ => k + 1 - (intOf i).toNat)
      case atStart => exact ⟨0, Nat.zero_le _, rfl, by simpa [sumLen] using hv31, hb⟩
      case round =>
        clear hv31 hb
        obtain ⟨j, hj, rfl, hown, hb⟩ := hrel
        have bxk := bx.below hb bx.lt
        have x2 := bxk.cell 2
        simp at x2
        by_cases hlt : j < k + 1
        · obtain ⟨ad, Ai, ci, rfl, hbk, hc, hsl⟩ := (hA.below hb).get hlt
          have hs1 := sumLen_take ps j (by rw [HL.out]; exact hlt)
          have hf1 := flatten_take ps j (by rw [HL.out]; exact hlt)
          have hle1 := Nat.le_trans (sumLen_take_le ps (j + 1)) HSM.out
          generalize ps[j]?.getD [] = p at *
          generalize sumLen (List.take j ps) = S1 at *
          generalize (List.take j ps).flatten = F1 at *
          have hle2 : S1 + p.length ≤ 32767 := by omega
          have HS1 := Lib.hid hs1
          have HF1 := Lib.hid hf1
          clear hs1 hle1 hf1
          go_wp2_with (at_builtin; refine wpList_append_sl _ rfl _ _ 29 rfl w1.heap.size 5 i0 (.int .u8 0) 1 und29 hi hz0 hz1 hz2 rfl _ (PK.length + S1) (bvs (PK ++ F1)) rfl hown w1.heap.size Ai p.length ci (bvs p) rfl hsl (one_bvs p) ?c3 ?c4 ?c5 ?_)
          case c3 => unfold maxLen; omega
          case c4 => omega
          case c5 => exact hb.size
          intro v' w4 hown' hgrow _
          have hb4 := hb.grown hgrow hb.size (fun q hq => (hown.lt q hq).1)
          go_wp2
          go_roundw
          case rel => exact ⟨j + 1, by omega, by go_num, by rw [HS1.out, HF1.out, ← Nat.add_assoc]; simpa [bvs] using hown', hb4⟩
          case measure => simp [intOf]; omega
        · have e : ps.take j = ps := List.take_of_length_le (by rw [HL.out]; omega)
          rw [e] at hown
          clear e
          go_wp2
          go_ret
          refine ⟨_, rfl, ?_, HB.out.trans (hb.mono HB.out.size)⟩
          rw [List.length_append, flatten_length]
          exact own_base hown HB.out.size

set_option maxRecDepth 100000 in
set_option maxHeartbeats 2000000 in
theorem rencode_bad (sn : Int) (s e : Bool) (A : Option Addr) (n c : Nat) (vs : List Value) (ps : List (List UInt8)) (w : World) (h : Sls w w.heap.size A n c vs ps) (hn : n ≤ 1048576) (hle : ∀ p ∈ ps, p.length ≤ 1099511627776)
    (hbad : sn < 0 ∨ 1023 < sn ∨ validB ps = false) :
    Calls Try.prog 20 #[.agg #[.int .i64 sn, .bool s, .bool e, .slice A n c]] w (GivesRowErr w.heap.size 5 w 0 [] 2) := by
  have hB := (Below.refl w.heap.size w).alloc (Nat.le_refl _) (.cells #[.int .i64 sn, .bool s, .bool e, .slice A n c] 26)
  have hv := rvalid_any s e A n c vs ps _ ((h.below hB).more hB.size) hn hle
  have HB := Lib.hid hB
  have HV := Lib.hid hv
  clear hB hv hle
  by_cases h1 : sn < 0
  · clear hbad
    go_enter Try.func20, Try.ntmps20
    go_wp2
    go_ret2
    exact ⟨_, rfl, World.ownsRow_nil _ _ _ _, HB.out⟩
  · by_cases h2 : 1023 < sn
    · clear hbad
      go_enter Try.func20, Try.ntmps20
      go_wp2
      go_ret2
      exact ⟨_, rfl, World.ownsRow_nil _ _ _ _, HB.out⟩
    · have h3 : validB ps = false := by rcases hbad with h | h | h; omega; omega; exact h
      rw [h3] at HV
      clear hbad h3
      go_enter Try.func20, Try.ntmps20
      go_wp2_with (go_at_call 77; refine HV.out.mono ?_; rintro e w' ⟨rfl, hb⟩)
      go_ret2
      exact ⟨_, rfl, World.ownsRow_nil _ _ _ _, HB.out.trans (hb.mono HB.out.size)⟩
theorem encU_ref (sn : Nat) (s e : Bool) (ps : List (List UInt8)) : encU sn s e ps = pack (bitsOf 0 3 ++ bitsOf (framN s e ps.length) 3 ++ bitsOf sn 10 ++ lenBits ps (ps.length - 1)) ++ ps.flatten := by
  have hh : fieldBits (umHead sn s e ps.length) = bitsOf 0 3 ++ bitsOf (framN s e ps.length) 3 ++ bitsOf sn 10 := by
    have h3 : fieldBits [((!s).toNat, 1), ((!e).toNat, 1), ((decide (1 < ps.length)).toNat, 1)] = bitsOf (framN s e ps.length) 3 := by
      unfold framN
      generalize decide (1 < ps.length) = d
      cases s <;> cases e <;> cases d <;> decide
    rw [← h3]
    simp [fieldBits, umHead]
  unfold encU
  rw [hh]
end Go.Proofs.Ytchlbpfeiamieaa
