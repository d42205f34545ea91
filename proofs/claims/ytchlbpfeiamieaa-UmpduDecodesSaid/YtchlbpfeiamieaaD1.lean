/- umpdu.Decode: the parts. -/
import Derived.Test.YtchlbpfeiamieaaD0
namespace Go.Proofs.Ytchlbpfeiamieaa
open Go.RowKit

theorem sl_info : (Try.prog.info? 29).map (fun i => (i.zero, i.size, i.bytes)) = some (some (.slice none 0 0), 1, 24) := by kernel_rfl
theorem und22 : Try.prog.underlying 22 = some (.slice 29) := by kernel_rfl

theorem Sl.cut {w : World} {B n c k : Nat} {A : Option Addr} {xs : List Value} (h : Sl w B A n c xs) (hk : k ≤ n) : Sl w B (if c = k then A else A.map (·.add k)) (n - k) (c - k) (xs.drop k) := by
  refine ⟨by rw [List.length_drop, h.len], by have := h.cap; omega, by have := h.mx; omega, fun hn => ?_⟩
  obtain ⟨ad, rfl, hb, hc⟩ := h.at_ (by omega)
  have := h.cap
  rw [if_neg (by omega)]
  refine ⟨ad.add k, rfl, by rw [block_add]; exact hb, fun j u hu => ?_⟩
  rw [add_add]
  exact hc _ u (by rw [← hu, List.getElem?_drop])

/-- Parts in memory of their own: a row of slices into one row of bytes. -/
def PartsOut (w : World) (base : Nat) (vo : Value) (ps : List (List UInt8)) : Prop :=
  ∃ vs g cap data, w.ownsRow base 29 1 vo ps.length vs ∧ w.ownsRow base 5 1 (.slice (some ⟨g, 0, none⟩) data.length cap) data.length (bvs data) ∧
    ∀ (i : Nat) (p : List UInt8), ps[i]? = some p → ∃ off c, vs[i]? = some (Value.slice (some ⟨g, off, none⟩) p.length c) ∧ p.length ≤ c ∧ c ≤ 9223372036854775807 ∧ p = (data.drop off).take p.length

theorem PartsOut.kept {w w' : World} {base : Nat} {vo : Value} {ps : List (List UInt8)} (h : PartsOut w base vo ps) (hk : ∀ k o, base ≤ k → w.heap[k]? = some o → w'.heap[k]? = some o) : PartsOut w' base vo ps := by
  obtain ⟨vs, g, cap, data, h1, h2, h3⟩ := h
  have go : ∀ {e : TypeId} {v : Value} {n : Nat} {xs : List Value}, w.ownsRow base e 1 v n xs → w'.ownsRow base e 1 v n xs := by
    intro e v n xs hh
    rcases hh.2 with ⟨rfl, h0⟩ | ⟨g', cap, cur, rfl, h1, h2, h3⟩
    · exact ⟨hh.1, .inl ⟨rfl, h0⟩⟩
    · exact ⟨hh.1, .inr ⟨g', cap, cur, rfl, h1, hk _ _ h1 h2, h3⟩⟩
  exact ⟨vs, g, cap, data, go h1, go h2, h3⟩
theorem PartsOut.base {w : World} {base base' : Nat} {vo : Value} {ps : List (List UInt8)} (h : PartsOut w base vo ps) (hb : base' ≤ base) : PartsOut w base' vo ps := by
  obtain ⟨vs, g, cap, data, h1, h2, h3⟩ := h
  exact ⟨vs, g, cap, data, own_base h1 hb, own_base h2 hb, h3⟩
theorem PartsOut.sls {w : World} {base : Nat} {vo : Value} {ps : List (List UInt8)} (h : PartsOut w base vo ps) : ∃ A c vs, vo = .slice A ps.length c ∧ Sls w w.heap.size A ps.length c vs ps := by
  obtain ⟨vs, g, cap, data, h1, h2, h3⟩ := h
  obtain ⟨A, c, rfl, hs, _⟩ := own_sl h1
  refine ⟨A, c, vs, rfl, hs, rfl, fun i p hi => ?_⟩
  obtain ⟨off, ci, e, hc1, hc2, hp⟩ := h3 i p hi
  refine ⟨_, ci, e, ⟨by simp, hc1, hc2, fun hpos => ⟨_, rfl, (h2.lt g rfl).2, fun j u hu => ?_⟩⟩⟩
  have hj : j < p.length := by
    have := (List.getElem?_eq_some_iff.1 hu).1
    simpa using this
  have hcell := h2.cells (g := g) rfl (off + j) u (by
    unfold bvs at hu ⊢
    rw [List.getElem?_map] at hu ⊢
    rw [hp, List.getElem?_take, if_pos hj, List.getElem?_drop] at hu
    exact hu)
  have e2 : (⟨g, off, none⟩ : Addr).add j = (⟨g, 0, none⟩ : Addr).add (off + j) := by
    unfold Addr.add
    by_cases hj0 : j = 0
    · subst hj0
      by_cases ho : off = 0
      · simp [ho]
      · simp [ho]
    · simp [hj0]
  rw [e2]
  exact hcell

/-- the first k parts as values -/
def partVals (g : Nat) (ls : List Nat) (k : Nat) : List Value := (List.range k).map fun i => .slice (some ⟨g, (ls.take i).sum, none⟩) (ls[i]?.getD 0) (ls[i]?.getD 0)
theorem partVals_succ (g : Nat) (ls : List Nat) (k n : Nat) (h : ls[k]? = some n) : partVals g ls (k + 1) = partVals g ls k ++ [.slice (some ⟨g, (ls.take k).sum, none⟩) n n] := by
  simp [partVals, List.range_succ, h]
/-- what reading the parts comes to -/
def PartsIs (w : World) (R : Sum Nat (List (List UInt8))) (e : Ending) (w' : World) : Prop :=
  Below w.heap.size w w' ∧ ((∃ er : Nat, R = .inl er ∧ e = raise er) ∨ (∃ ps vo, R = .inr ps ∧ e = .returned vo ∧ PartsOut w' w.heap.size vo ps))

set_option maxRecDepth 100000 in
set_option maxHeartbeats 2000000 in
theorem parts_dec (r d : Nat) (v : Value) (A0 : Option Addr) (n0 c0 : Nat) (bs : List UInt8) (p : Nat) (Al : Option Addr) (N cl : Nat) (ls : List Nat) (w : World) (h : Rdr w r v bs p) (hd : Blk w d 130 #[.pointer (some ⟨r, 0, none⟩), .slice A0 n0 c0])
    (hb : Sl w w.heap.size A0 n0 c0 (bvs bs)) (hl : Sl w w.heap.size Al N cl (i64s ls)) (hsm : bs.length ≤ 1000000000) (hp : p ≤ 8 * bs.length) (hls : ls.length ≤ 63) (hlm : ∀ n ∈ ls, n ≤ 2047) :
    Calls Try.prog 86 #[.pointer (some ⟨d, 0, none⟩), .slice Al N cl, .int .i64 (ls.sum : Nat)] w (PartsIs w (partsRes ls (bs.drop (p / 8)))) := by
  obtain ⟨i0, hi, hz0, hz1, hz2⟩ := info_parts sl_info
  have hn0 : bs.length = n0 := by simpa using hb.len
  have cd0 := hd.cell 0
  have cd1 := hd.cell 1
  simp at cd0 cd1
  have hat : ∀ W, Rdr W r v bs p → Calls Try.prog 144 #[.pointer (some ⟨r, 0, none⟩)] W fun e w' => e = .returned (.int .i64 p) ∧ w' = W := fun W hW => (at_any r v bs p W hW).mono fun _ _ hh => ⟨hh.1, hh.2.symm⟩
  have HAT := Lib.hid hat
  clear hat
  have hcap := hb.cap
  have hmx := hb.mx
  obtain ⟨q, hq⟩ : ∃ q, p / 8 = q := ⟨_, rfl⟩
  have hqw : IntKind.i64.wrap ((p : Int) / 8) = (q : Int) := by rw [← hq]; rw [IntWalk.i64_in _ (by omega)]; omega
  have hq1 : q ≤ n0 := by omega
  have hdata : Sl w w.heap.size (if c0 = q then A0 else A0.map (·.add q)) (n0 - q) (c0 - q) (bvs (bs.drop q)) := by
    have := hb.cut hq1
    unfold bvs at this ⊢
    rwa [List.map_drop]
  have HPR := Lib.hid (show partsRes ls (bs.drop (p / 8)) = partsRes ls (bs.drop q) by rw [hq])
  generalize partsRes ls (bs.drop (p / 8)) = PR at *
  clear hq
  go_enter Try.func86, Try.ntmps86
  go_wp2
  refine wp_region_still_tail 11 (by kernel_rfl) (by kernel_rfl) ?_
  simp only [List.take_succ_cons, List.take_zero, List.drop_succ_cons, List.drop_zero]
  still_step
  still_step
  still_step
  still_step
  still_step
  still_step
  still_step
  still_step
  still_call (HAT.out _ h)
  still_step
  still_step
  refine wpStill_nil ?_
  change wpList _ _ _ _ _ w.drew
  have hdl : (bs.drop q).length = n0 - q := by rw [List.length_drop, hn0]
  have hDsm : n0 - q ≤ 1000000000 := by omega
  generalize (if c0 = q then A0 else Option.map (fun x => x.add q) A0) = A1 at *
  generalize bs.drop q = D at *
  generalize n0 - q = m at *
  have hl' : Sl w.drew w.drew.heap.size Al N cl (i64s ls) := hl.drew
  have hcl := clone_any A1 m (c0 - q) D w.drew hdata.drew hDsm
  have HC := Lib.hid hcl
  have hBd : Below w.heap.size w w.drew := (Below.refl _ w).drew
  have hzd : w.drew.heap.size = w.heap.size := rfl
  have HDL := Lib.hid hdl
  have HLM := Lib.hid hlm
  have hlN : ls.length = N := by have := hl.len; simpa [i64s] using this
  have HLN := Lib.hid hlN
  have hN63 : N ≤ 63 := by omega
  clear hcl hdata hb hl hDsm cd0 cd1 hd h HAT hqw hdl hlm hsm hlN
  generalize w.drew = w1 at *
  go_wp2_with fail
  refine HC.out.mono ?_
  rintro e2 w2 ⟨v2, rfl, hv2, hb2⟩
  have hBw : Below w.heap.size w w2 := hBd.trans (hb2.mono (by omega))
  rw [hzd] at hv2
  clear HC hBd
  by_cases h5 : D.length ≤ ls.sum
  · have hPR : PR = .inl 5 := by rw [HPR.out]; unfold partsRes; rw [if_pos h5]
    have HP5 := Lib.hid hPR
    clear hPR
    obtain ⟨A2, c2, rfl, _⟩ := own_sl hv2
    have h5' : ¬ ls.sum < m := by have := HDL.out; omega
    clear h5
    go_wp2_with (go_at_call 85; ((with_reducible refine (must_false _ _).mono ?_); rintro e3 w3 ⟨rfl, rfl⟩))
    exact ⟨rfl, hBw, .inl ⟨5, HP5.out, rfl⟩⟩
  · by_cases h9 : 32767 < D.length
    · have hPR : PR = .inl 9 := by rw [HPR.out]; unfold partsRes; rw [if_neg h5, if_pos h9]
      have HP9 := Lib.hid hPR
      clear hPR
      obtain ⟨A2, c2, rfl, _⟩ := own_sl hv2
      have h5' : ls.sum < m := by have := HDL.out; omega
      have h9' : decide ((m : Int) ≤ 32767) = false := by have := HDL.out; simp; omega
      clear h5 h9
      go_wp2_with (first | (go_at_call 85; ((with_reducible refine (must_false _ _).mono ?_); rintro e3 w3 ⟨rfl, rfl⟩)) | (go_at_call 85; ((with_reducible refine (must_true _ _).mono ?_); rintro e3 w3 ⟨rfl, rfl⟩)))
      exact ⟨rfl, hBw, .inl ⟨9, HP9.out, rfl⟩⟩
    · have hPR : PR = .inr (splitBy ls D) := by rw [HPR.out]; unfold partsRes; rw [if_neg h5, if_neg h9]
      have HPS := Lib.hid hPR
      clear hPR
      have h5' : ls.sum < m := by have := HDL.out; omega
      have h9' : decide ((m : Int) ≤ 32767) = true := by have := HDL.out; simp; omega
      have hm9 : m ≤ 32767 := by have := HDL.out; omega
      obtain ⟨g, cap, rfl, hgl, hgl2⟩ := hv2.form (by omega)
      have hcap2 : m ≤ cap ∧ cap ≤ 9223372036854775807 := by
        obtain ⟨A', c', e', hs', _⟩ := own_sl hv2
        injection e' with _ _ e3
        subst e3
        exact ⟨hs'.cap, hs'.mx⟩
      clear h5 h9
      go_wp2_with (go_at_call 85; ((with_reducible refine (must_true _ _).mono ?_); rintro e3 w3 ⟨rfl, rfl⟩))
      clear h9'
      go_loopw [6, 7, 33] (fun vo vd i wr => ∃ k : Nat, k ≤ N ∧ i = .int .i64 k ∧ vd = .slice (some ⟨g, (ls.take k).sum, none⟩) (m - (ls.take k).sum) (cap - (ls.take k).sum) ∧ wr.ownsRow w.heap.size 29 1 vo k (partVals g ls k) ∧
          wr.ownsRow w.heap.size 5 1 (.slice (some ⟨g, 0, none⟩) m cap) m (bvs D) ∧ Below w.heap.size w wr ∧ Below w1.heap.size w1 wr) (fun _ _ i _ => N - (intOf i).toNat)
      case atStart => exact ⟨0, Nat.zero_le _, rfl, by simp, World.ownsRow_nil _ _ _ _, hv2, hBw, hb2⟩
      case round =>
        clear hv2 hBw hb2
        obtain ⟨k, hk, rfl, rfl, hvo, hvd, hBw, hb2⟩ := hrel
        have hsk := sum_take_le ls k
        by_cases hlt : k < N
        · obtain ⟨n, hn⟩ : ∃ n, ls[k]? = some n := ⟨_, List.getElem?_eq_getElem (by rw [HLN.out]; exact hlt)⟩
          have hn2 := HLM.out n (List.mem_of_getElem? hn)
          have hsn := sum_take ls k n hn
          have hsk1 := sum_take_le ls (k + 1)
          obtain ⟨adl, u, rfl, _, hu, hcu⟩ := (hl'.below hb2).get hlt
          have hu' : u = .int .i64 (n : Int) := by
            unfold i64s at hu
            rw [List.getElem?_map, hn] at hu
            simpa using hu.symm
          subst hu'
          have hpv := partVals_succ g ls k n hn
          generalize (List.take k ls).sum = S at *
          have HSN := Lib.hid hsn
          have HPV := Lib.hid hpv
          have hSn : S + n ≤ ls.sum := by omega
          clear hsn hpv hu hn
          have hne : ¬ cap - S = n := by omega
          have hle1 : n ≤ m - S := by omega
          go_wp2_with (at_builtin; refine wpList_append_own _ rfl _ _ 22 rfl w.heap.size 29 i0 (.slice none 0 0) 1 24 und22 hi hz0 hz1 hz2 rfl (by decide) _ _ _ rfl (hvo.alloc _) ⟨wr.heap.size, 0, none⟩ 1 1 [.slice (some ⟨g, S, none⟩) n n] rfl rfl ?c1 ?c2 ?c3 ?c4 ?c5 ?_)
          case c1 => exact cell_one_new _ _ _
          case c2 => simp [Value.oneCell']
          case c3 => unfold maxLen; omega
          case c4 => omega
          case c5 => have := hBw.size; simp; omega
          intro v' w4 hown' hgrow _
          have hin : ∀ j, Value.ownBlock u6 = some j → w.heap.size ≤ j := fun j hj => (hvo.lt j hj).1
          have hB4 := (hBw.alloc hBw.size (.cells #[.slice (some ⟨g, S, none⟩) n n] 29)).grown hgrow (by have := hBw.size; simp; omega) hin
          have hb4 := (hb2.alloc hb2.size (.cells #[.slice (some ⟨g, S, none⟩) n n] 29)).grown hgrow (by have := hb2.size; simp; omega) (fun j hj => by rw [hzd]; exact hin j hj)
          have hvd4 : w4.ownsRow w.heap.size 5 1 (.slice (some ⟨g, 0, none⟩) m cap) m (bvs D) := (hvd.alloc _).kept hgrow (.inr (fun e => by
            obtain ⟨o1, ho1, ⟨cs1, fr1, rfl⟩, _⟩ := own_isRow hvd rfl
            obtain ⟨o2, ho2, ⟨cs2, fr2, rfl⟩, _⟩ := own_isRow hvo e.symm
            rw [ho1] at ho2
            cases ho2))
          go_wp2
          go_roundw
          case rel => exact ⟨k + 1, by omega, by go_num, by rw [HSN.out, Nat.sub_sub, Nat.sub_sub], by rw [HPV.out]; exact hown', hvd4, hB4, hb4⟩
          case measure => simp [intOf]; omega
        · obtain rfl : k = N := by omega
          have hS : (ls.take k).sum = ls.sum := by rw [List.take_of_length_le (by rw [HLN.out]; exact Nat.le_refl _)]
          rw [hS]
          go_wp2_with (at_builtin; refine wpList_append_own _ rfl _ _ 22 rfl w.heap.size 29 i0 (.slice none 0 0) 1 24 und22 hi hz0 hz1 hz2 rfl (by decide) _ _ _ rfl (hvo.alloc _) ⟨wr.heap.size, 0, none⟩ 1 1 [.slice (some ⟨g, ls.sum, none⟩) (m - ls.sum) (cap - ls.sum)] rfl rfl ?c1 ?c2 ?c3 ?c4 ?c5 ?_)
          case c1 => exact cell_one_new _ _ _
          case c2 => simp [Value.oneCell']
          case c3 => unfold maxLen; omega
          case c4 => omega
          case c5 => have := hBw.size; simp; omega
          intro v' w4 hown' hgrow _
          have hin : ∀ j, Value.ownBlock u6 = some j → w.heap.size ≤ j := fun j hj => (hvo.lt j hj).1
          have hB4 := (hBw.alloc hBw.size (.cells #[.slice (some ⟨g, ls.sum, none⟩) (m - ls.sum) (cap - ls.sum)] 29)).grown hgrow (by have := hBw.size; simp; omega) hin
          have hvd4 : w4.ownsRow w.heap.size 5 1 (.slice (some ⟨g, 0, none⟩) m cap) m (bvs D) := (hvd.alloc _).kept hgrow (.inr (fun e => by
            obtain ⟨o1, ho1, ⟨cs1, fr1, rfl⟩, _⟩ := own_isRow hvd rfl
            obtain ⟨o2, ho2, ⟨cs2, fr2, rfl⟩, _⟩ := own_isRow hvo e.symm
            rw [ho1] at ho2
            cases ho2))
          go_wp2
          go_ret
          refine ⟨hB4, .inr ⟨splitBy ls D, v', HPS.out, rfl, ?_⟩⟩
          refine ⟨partVals g ls k ++ [.slice (some ⟨g, ls.sum, none⟩) (m - ls.sum) (cap - ls.sum)], g, cap, D, ?_, ?_, ?_⟩
          · rw [splitBy_length, HLN.out]; exact hown'
          · rw [HDL.out]; exact hvd4
          · intro i p hi
            have hil : i < k + 1 := by
              have := (List.getElem?_eq_some_iff.1 hi).1
              rw [splitBy_length, HLN.out] at this
              exact this
            have hpl : (partVals g ls k).length = k := by simp [partVals]
            by_cases hik : i < k
            · obtain ⟨n, hn⟩ : ∃ n, ls[i]? = some n := ⟨_, List.getElem?_eq_getElem (by rw [HLN.out]; exact hik)⟩
              rw [splitBy_get ls D i n hn] at hi
              injection hi with hi
              have hsn := sum_take ls i n hn
              have hsl := sum_take_le ls (i + 1)
              have hlen : p.length = n := by rw [← hi, List.length_take, List.length_drop, HDL.out]; omega
              refine ⟨(ls.take i).sum, n, ?_, by omega, by omega, by rw [hlen]; exact hi.symm⟩
              rw [List.getElem?_append_left (by omega), hlen]
              simp [partVals, hik, hn]
            · obtain rfl : i = k := by omega
              have hk' : i = ls.length := HLN.out.symm
              rw [hk', splitBy_last] at hi
              injection hi with hi
              have hlen : p.length = m - ls.sum := by rw [← hi, List.length_drop, HDL.out]
              refine ⟨ls.sum, cap - ls.sum, ?_, by omega, by omega, ?_⟩
              · rw [List.getElem?_append_right (by omega), hpl, hlen]; simp
              · rw [hlen, ← hi, List.take_of_length_le (by rw [List.length_drop, HDL.out]; omega)]
end Go.Proofs.Ytchlbpfeiamieaa
