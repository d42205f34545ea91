/- umpdu.Decode: the lengths. umpdu.Decode: the parts. umpdu.Decode: errors are recovered. umpdu.Decode. -/
import Derived.Test.YtbjajboodohabaaGreatRa
import Derived.WideLaws
namespace Go.Proofs.YtbjajboodohabaaGreat
open Go.RowKit

/-- what reading the lengths comes to -/
def LensIs (w : World) (r : Nat) (v : Value) (bs : List UInt8) (R : Sum Nat (List Nat × Nat)) (e : Ending) (w' : World) : Prop :=
  Kept (fun k _ => k = r ∨ w.heap.size ≤ k) w w' ∧
  ((∃ er : Nat, R = .inl er ∧ e = raise er) ∨
   (∃ ls p vo, R = .inr (ls, p) ∧ e = .returned (.tuple #[vo, .int .i64 (ls.sum : Nat)]) ∧ w'.ownsRow w.heap.size 3 1 vo ls.length (i64s ls) ∧ Rdr w' r v bs p ∧ p ≤ 8 * bs.length))

/-- a slice value's length -/
def lenOfV : Value → Nat
  | .slice _ n _ => n
  | _ => 0
theorem lenOfV_own {w : World} {base : Nat} {e : TypeId} {size n : Nat} {v : Value} {xs : List Value} (h : w.ownsRow base e size v n xs) : lenOfV v = n := by
  rcases h.2 with ⟨rfl, h0⟩ | ⟨g', cap, cur, rfl, _⟩
  · exact h0.symm
  · rfl
theorem and2047 (V : Nat) (h : V < 4096) : bits BinOp.and IntKind.u64 (V : Int) 2047 = ((V % 2048 : Nat) : Int) := by
  have h1 := u64_and_nat V 2047 (by omega) (by omega)
  have h1' : bits BinOp.and IntKind.u64 (V : Int) 2047 = ((V &&& 2047 : Nat) : Int) := h1
  rw [h1']
  have : V &&& 2047 = V % 2048 := Nat.and_two_pow_sub_one_eq_mod V 11
  rw [this]

set_option maxRecDepth 100000 in
set_option maxHeartbeats 2000000 in
theorem lengths_dec (r d : Nat) (v vb : Value) (bs : List UInt8) (more : Bool) (pos : Nat) (w : World) (h : Rdr w r v bs pos) (hd : Blk w d 129 #[.pointer (some ⟨r, 0, none⟩), vb]) (hsm : bs.length ≤ 1000000000) (hp : pos ≤ 8 * bs.length) :
    Calls Tryz.prog 65 #[.pointer (some ⟨d, 0, none⟩), .bool more] w (LensIs w r v bs (lenRes bs more pos)) := by
  obtain ⟨i0, hi, hz0, hz1, hz2⟩ := info_parts int_info
  have hrd : d ≠ r := by
    rintro rfl
    have h1 := h.1
    unfold Blk at h1 hd
    rw [h1] at hd
    injection hd with hd
    injection hd with _ h2
    exact absurd h2 (by decide)
  have hdl := hd.lt
  have hrl := h.1.lt
  have HSM := Lib.hid hsm
  have HP := Lib.hid hp
  clear hsm hp
  obtain ⟨R, hR⟩ : ∃ R, readLens bs 64 more pos [] = R := ⟨_, rfl⟩
  have hRR : lenRes bs more pos = afterAlign bs R := by rw [← hR]; rfl
  have HR := Lib.hid hR
  have HRR := Lib.hid hRR
  clear hR hRR
  generalize lenRes bs more pos = RR at *
  go_enter Tryz.func65, Tryz.ntmps65
  go_wp2
  go_loopw [1, 4, 5] (fun m l s wr => ∃ (acc : List Nat) (more' : Bool) (q : Nat), m = .bool more' ∧ s = .int .i64 (acc.sum : Nat) ∧ acc.length ≤ 63 ∧ acc.sum ≤ 2047 * acc.length ∧ readLens bs (64 - acc.length) more' q acc = R ∧
      Rdr wr r v bs q ∧ q ≤ 8 * bs.length ∧ wr.ownsRow w.heap.size 3 1 l acc.length (i64s acc) ∧ Kept (fun k _ => k = r ∨ w.heap.size ≤ k) w wr) (fun _ l _ _ => 64 - lenOfV l)
  case atStart => exact ⟨[], more, pos, rfl, rfl, by simp, by simp, HR.out, h, HP.out, World.ownsRow_nil _ _ _ _, Kept.refl _ _⟩
  case round =>
    obtain ⟨acc, more', q, rfl, rfl, hal, hsum, hread, hrq, hq, how, hkp⟩ := hrel
    have hd1 := hd.kept hkp (by rintro (e | e); exact hrd e; omega)
    have cd0 := hd1.cell 0
    simp at cd0
    have HRD := Lib.hid hread
    have HQ := Lib.hid hq
    clear hread hq
    cases more' with
    | true =>
      obtain ⟨f, hf⟩ : ∃ f, 64 - acc.length = f + 1 := ⟨63 - acc.length, by omega⟩
      have hrd2 := HRD.out
      rw [hf] at hrd2
      simp only [readLens] at hrd2
      have HR2 := Lib.hid hrd2
      have HFF := Lib.hid hf
      clear hrd2 hf
      by_cases hfit : 8 * bs.length < q + 12
      · have hget := get_short r v bs q 12 wr hrq HQ.out HSM.out (by omega) (by have := HQ.out; omega)
        have hR5 : R = .inl 5 := by have := HR2.out; rw [if_pos hfit] at this; exact this.symm
        have HG := Lib.hid hget
        have H5 := Lib.hid hR5
        clear hget hR5 hfit
        go_wp2_with fail
        refine HG.out.mono ?_
        rintro e1 w1 ⟨rfl, hr1, hk1⟩
        go_wp2_with (go_at_call 96; refine (got_err _ _ rfl _).mono ?_; rintro e2 w2 ⟨rfl, rfl⟩)
        exact ⟨rfl, hkp.trans (hk1.mono fun _ _ e => .inl e), .inl ⟨5, by rw [HRR.out, H5.out]; rfl, rfl⟩⟩
      · have hget := get_ok r v bs q 12 wr hrq HSM.out (by omega) (by omega)
        have hV := val_lt (bitsAt bs q 12)
        rw [bitsAt_length] at hV
        have hR2 := HR2.out
        rw [if_neg hfit] at hR2
        have HG := Lib.hid hget
        have HFit := Lib.hid hfit
        clear hget hfit HR2
        generalize val (bitsAt bs q 12) = V at *
        have hand := and2047 V hV
        have hwrp : IntKind.i64.wrap ((V % 2048 : Nat) : Int) = ((V % 2048 : Nat) : Int) := IntWalk.i64_in _ (by omega)
        obtain ⟨n, hn⟩ : ∃ n, V % 2048 = n := ⟨_, rfl⟩
        obtain ⟨m', hm'⟩ : ∃ m', decide (V / 2048 = 1) = m' := ⟨_, rfl⟩
        have hmo : ((V : Int) / 2048 == 1) = m' := by rw [← hm', Bool.eq_iff_iff]; simp; omega
        rw [hn] at hand hwrp hR2
        rw [hm'] at hR2
        have hn2 : n < 2048 := by omega
        have HR3 := Lib.hid hR2
        clear hR2 hn hm' hV
        obtain ⟨A, c, rfl, hsl, _⟩ := own_sl how
        by_cases hbad : n = 0 ∨ 63 ≤ acc.length
        · have hR9 : R = .inl 9 := by have := HR3.out; rw [if_pos hbad] at this; exact this.symm
          have H9 := Lib.hid hR9
          clear hR9
          by_cases h0 : n = 0
          · subst h0
            clear hbad HR3
            go_wp2_with fail
            refine HG.out.mono ?_
            rintro e1 w1 ⟨rfl, hr1, hk1⟩
            go_wp2_with (first | (go_at_call 96; refine (got_ok _ _).mono ?_; rintro e2 w2 ⟨rfl, rfl⟩) | (go_at_call 63; ((with_reducible refine (must_false _ _).mono ?_); rintro e3 w3 ⟨rfl, rfl⟩)))
            exact ⟨rfl, hkp.trans (hk1.mono fun _ _ e => .inl e), .inl ⟨9, by rw [HRR.out, H9.out]; rfl, rfl⟩⟩
          · have hn0 : 0 < n := by omega
            have hb3 : decide ((acc.length : Int) < 63) = false := by simp; omega
            have hb4 : 63 ≤ acc.length := by omega
            clear hbad HR3 h0
            go_wp2_with fail
            refine HG.out.mono ?_
            rintro e1 w1 ⟨rfl, hr1, hk1⟩
            go_wp2_with (first | (go_at_call 96; refine (got_ok _ _).mono ?_; rintro e2 w2 ⟨rfl, rfl⟩) | (go_at_call 63; ((with_reducible refine (must_false _ _).mono ?_); rintro e3 w3 ⟨rfl, rfl⟩)))
            exact ⟨rfl, hkp.trans (hk1.mono fun _ _ e => .inl e), .inl ⟨9, by rw [HRR.out, H9.out]; rfl, rfl⟩⟩
        · have hR4 := HR3.out
          rw [if_neg hbad] at hR4
          have hb2 : 0 < n := by omega
          have hb3 : decide ((acc.length : Int) < 63) = true := by simp; omega
          have hal2 : acc.length < 63 := by omega
          have HR4 := Lib.hid hR4
          have HN0 := Lib.hid hbad
          clear hR4 hbad HR3
          go_wp2_with fail
          refine HG.out.mono ?_
          rintro e1 w1 ⟨rfl, hr1, hk1⟩
          have hkp1 := hkp.trans (hk1.mono (M' := fun k _ => k = r ∨ w.heap.size ≤ k) fun _ _ e => .inl e)
          have how1 := own_kept how hk1 (fun j o _ hj e => by have := (how.lt j hj).1; omega)
          go_wp2_with (first
            | (go_at_call 96; refine (got_ok _ _).mono ?_; rintro e2 w2 ⟨rfl, rfl⟩)
            | (go_at_call 63; ((with_reducible refine (must_true _ _).mono ?_); rintro e3 w3 ⟨rfl, rfl⟩))
            | (at_builtin; refine wpList_append_own _ rfl _ _ 136 rfl w.heap.size 3 i0 (.int .i64 0) 1 8 und137 hi hz0 hz1 hz2 rfl (by decide) _ _ _ rfl (how1.alloc _) ⟨w1.heap.size, 0, none⟩ 1 1 [.int .i64 n] rfl rfl ?c1 ?c2 ?c3 ?c4 ?c5 ?_))
          case c1 => exact cell_one_new _ _ _
          case c2 => simp [Value.oneCell']
          case c3 => unfold maxLen; omega
          case c4 => omega
          case c5 => have := hkp1.size; simp; omega
          intro v' w2 hown' hgrow _
          have hr2 : Rdr w2 r v bs (q + 12) := by
            refine ⟨(hr1.1.alloc _).grown hgrow (fun e => own_blk_ne how1 hr1.1 (by decide) e.symm), (hr1.2.alloc _).kept hgrow ?_⟩
            rcases hq : v.ownBlock with _ | j
            · exact .inl rfl
            · refine .inr (fun e => ?_)
              obtain ⟨o1, ho1, ⟨cs1, fr1, rfl⟩, _⟩ := own_isRow hr1.2 hq
              obtain ⟨o2, ho2, ⟨cs2, fr2, rfl⟩, _⟩ := own_isRow how1 e.symm
              rw [ho1] at ho2
              cases ho2
          have hlv := lenOfV_own hown'
          have HLV := Lib.hid hlv
          clear hlv
          go_wp2
          refine ⟨⟨acc ++ [n], m', q + 12, rfl, by simp, by simp; omega, by simp; omega, ?_, hr2, by have := HFit.out; omega, by simpa [i64s] using hown', (hkp1.alloc _).grown hgrow (fun j hj o _ => .inr ((how1.lt j hj).1))⟩, by rw [HLV.out]; simp [lenOfV]; omega⟩
          have := HR4.out
          rw [show f = 64 - (acc ++ [n]).length by have := HFF.out; simp; omega] at this
          exact this
    | false =>
      have hR6 : R = .inr (acc, q) := by
        have := HRD.out
        rw [← this]
        cases 64 - acc.length <;> rfl
      have hal := alignR_any r v bs q wr hrq HSM.out HQ.out
      have hpq : q + padN q ≤ 8 * bs.length := by have := HQ.out; unfold padN; omega
      have HAL := Lib.hid hal
      have HR6 := Lib.hid hR6
      have HPQ := Lib.hid hpq
      clear hal hR6 hpq
      obtain ⟨A, c, rfl, hsl, _⟩ := own_sl how
      by_cases hz : val (bitsAt bs q (padN q)) = 0
      · have hRF : RR = .inr (acc, q + padN q) := by rw [HRR.out, HR6.out]; simp only [afterAlign, if_pos hz]
        have hal := HAL.out
        simp only [if_pos hz] at hal
        have HRF := Lib.hid hRF
        have HAL2 := Lib.hid hal
        clear hRF hal hz HAL
        go_wp2_with fail
        refine HAL2.out.mono ?_
        rintro e1 w1 ⟨rfl, hr1, hk1⟩
        have how1 := own_kept how hk1 (fun j o _ hj e => by have := (how.lt j hj).1; omega)
        go_wp2_with (go_at_call 63; ((with_reducible refine (must_true _ _).mono ?_); rintro e3 w3 ⟨rfl, rfl⟩))
        go_ret2
        exact ⟨hkp.trans (hk1.mono fun _ _ e => .inl e), .inr ⟨acc, _, _, HRF.out, rfl, how1, hr1, HPQ.out⟩⟩
      · have hRF : RR = .inl 9 := by rw [HRR.out, HR6.out]; simp only [afterAlign, if_neg hz]
        have hal := HAL.out
        simp only [if_neg hz] at hal
        have HRF := Lib.hid hRF
        have HAL2 := Lib.hid hal
        clear hRF hal hz HAL
        go_wp2_with fail
        refine HAL2.out.mono ?_
        rintro e1 w1 ⟨rfl, hr1, hk1⟩
        go_wp2_with (go_at_call 63; ((with_reducible refine (must_false _ _).mono ?_); rintro e3 w3 ⟨rfl, rfl⟩))
        exact ⟨rfl, hkp.trans (hk1.mono fun _ _ e => .inl e), .inl ⟨9, HRF.out, rfl⟩⟩
end Go.Proofs.YtbjajboodohabaaGreat
namespace Go.Proofs.YtbjajboodohabaaGreat
open Go.RowKit

theorem sl_info : (Tryz.prog.info? 40).map (fun i => (i.zero, i.size, i.bytes)) = some (some (.slice none 0 0), 1, 24) := by kernel_rfl
theorem und22 : Tryz.prog.underlying 47 = some (.slice 40) := by kernel_rfl

theorem Sl.cut {w : World} {B n c k : Nat} {A : Option Addr} {xs : List Value} (h : Sl w B A n c xs) (hk : k ≤ n) : Sl w B (if c = k then A else A.map (·.add k)) (n - k) (c - k) (xs.drop k) := by
  refine ⟨by rw [List.length_drop, h.len], by have := h.cap; omega, by have := h.mx; omega, fun hn => ?_⟩
  obtain ⟨ad, rfl, hb, hc⟩ := h.at_ (by omega)
  have := h.cap
  rw [if_neg (by omega)]
  refine ⟨ad.add k, rfl, by rw [block_add]; exact hb, fun j u hu => ?_⟩
  rw [add_add]
  exact hc _ u (by rw [← hu, List.getElem?_drop])

/-- Parts in memory of their own: a row of slices into one row of bytes. -/
def PartsOut (w : World) (base : Nat) (vo : Value) (ps : List (List UInt8)) : Prop :=
  ∃ vs g cap data, w.ownsRow base 40 1 vo ps.length vs ∧ w.ownsRow base 5 1 (.slice (some ⟨g, 0, none⟩) data.length cap) data.length (bvs data) ∧
    ∀ (i : Nat) (p : List UInt8), ps[i]? = some p → ∃ off c, vs[i]? = some (Value.slice (some ⟨g, off, none⟩) p.length c) ∧ p.length ≤ c ∧ c ≤ 9223372036854775807 ∧ p = (data.drop off).take p.length

theorem PartsOut.kept {w w' : World} {base : Nat} {vo : Value} {ps : List (List UInt8)} (h : PartsOut w base vo ps) (hk : ∀ k o, base ≤ k → w.heap[k]? = some o → w'.heap[k]? = some o) : PartsOut w' base vo ps := by
  obtain ⟨vs, g, cap, data, h1, h2, h3⟩ := h
  have go : ∀ {e : TypeId} {v : Value} {n : Nat} {xs : List Value}, w.ownsRow base e 1 v n xs → w'.ownsRow base e 1 v n xs := by
    intro e v n xs hh
    rcases hh.2 with ⟨rfl, h0⟩ | ⟨g', cap, cur, rfl, h1, h2, h3⟩
    · exact ⟨hh.1, .inl ⟨rfl, h0⟩⟩
    · exact ⟨hh.1, .inr ⟨g', cap, cur, rfl, h1, hk _ _ h1 h2, h3⟩⟩
  exact ⟨vs, g, cap, data, go h1, go h2, h3⟩
theorem PartsOut.base {w : World} {base base' : Nat} {vo : Value} {ps : List (List UInt8)} (h : PartsOut w base vo ps) (hb : base' ≤ base) : PartsOut w base' vo ps := by
  obtain ⟨vs, g, cap, data, h1, h2, h3⟩ := h
  exact ⟨vs, g, cap, data, own_base h1 hb, own_base h2 hb, h3⟩
theorem PartsOut.sls {w : World} {base : Nat} {vo : Value} {ps : List (List UInt8)} (h : PartsOut w base vo ps) : ∃ A c vs, vo = .slice A ps.length c ∧ Sls w w.heap.size A ps.length c vs ps := by
  obtain ⟨vs, g, cap, data, h1, h2, h3⟩ := h
  obtain ⟨A, c, rfl, hs, _⟩ := own_sl h1
  refine ⟨A, c, vs, rfl, hs, rfl, fun i p hi => ?_⟩
  obtain ⟨off, ci, e, hc1, hc2, hp⟩ := h3 i p hi
  refine ⟨_, ci, e, ⟨by simp, hc1, hc2, fun hpos => ⟨_, rfl, (h2.lt g rfl).2, fun j u hu => ?_⟩⟩⟩
  have hj : j < p.length := by
    have := (List.getElem?_eq_some_iff.1 hu).1
    simpa using this
  have hcell := h2.cells (g := g) rfl (off + j) u (by
    unfold bvs at hu ⊢
    rw [List.getElem?_map] at hu ⊢
    rw [hp, List.getElem?_take, if_pos hj, List.getElem?_drop] at hu
    exact hu)
  have e2 : (⟨g, off, none⟩ : Addr).add j = (⟨g, 0, none⟩ : Addr).add (off + j) := by
    unfold Addr.add
    by_cases hj0 : j = 0
    · subst hj0
      by_cases ho : off = 0
      · simp [ho]
      · simp [ho]
    · simp [hj0]
  rw [e2]
  exact hcell

/-- the first k parts as values -/
def partVals (g : Nat) (ls : List Nat) (k : Nat) : List Value := (List.range k).map fun i => .slice (some ⟨g, (ls.take i).sum, none⟩) (ls[i]?.getD 0) (ls[i]?.getD 0)
theorem partVals_succ (g : Nat) (ls : List Nat) (k n : Nat) (h : ls[k]? = some n) : partVals g ls (k + 1) = partVals g ls k ++ [.slice (some ⟨g, (ls.take k).sum, none⟩) n n] := by
  simp [partVals, List.range_succ, h]
/-- what reading the parts comes to -/
def PartsIs (w : World) (R : Sum Nat (List (List UInt8))) (e : Ending) (w' : World) : Prop :=
  Below w.heap.size w w' ∧ ((∃ er : Nat, R = .inl er ∧ e = raise er) ∨ (∃ ps vo, R = .inr ps ∧ e = .returned vo ∧ PartsOut w' w.heap.size vo ps))

set_option maxRecDepth 100000 in
set_option maxHeartbeats 2000000 in
theorem parts_dec (r d : Nat) (v : Value) (A0 : Option Addr) (n0 c0 : Nat) (bs : List UInt8) (p : Nat) (Al : Option Addr) (N cl : Nat) (ls : List Nat) (w : World) (h : Rdr w r v bs p) (hd : Blk w d 129 #[.pointer (some ⟨r, 0, none⟩), .slice A0 n0 c0])
    (hb : Sl w w.heap.size A0 n0 c0 (bvs bs)) (hl : Sl w w.heap.size Al N cl (i64s ls)) (hsm : bs.length ≤ 1000000000) (hp : p ≤ 8 * bs.length) (hls : ls.length ≤ 63) (hlm : ∀ n ∈ ls, n ≤ 2047) :
    Calls Tryz.prog 64 #[.pointer (some ⟨d, 0, none⟩), .slice Al N cl, .int .i64 (ls.sum : Nat)] w (PartsIs w (partsRes ls (bs.drop (p / 8)))) := by
  obtain ⟨i0, hi, hz0, hz1, hz2⟩ := info_parts sl_info
  have hn0 : bs.length = n0 := by simpa using hb.len
  have cd0 := hd.cell 0
  have cd1 := hd.cell 1
  simp at cd0 cd1
  have hat : ∀ W, Rdr W r v bs p → Calls Tryz.prog 95 #[.pointer (some ⟨r, 0, none⟩)] W fun e w' => e = .returned (.int .i64 p) ∧ w' = W := fun W hW => (at_any r v bs p W hW).mono fun _ _ hh => ⟨hh.1, hh.2.symm⟩
  have HAT := Lib.hid hat
  clear hat
  have hcap := hb.cap
  have hmx := hb.mx
  obtain ⟨q, hq⟩ : ∃ q, p / 8 = q := ⟨_, rfl⟩
  have hqw : IntKind.i64.wrap ((p : Int) / 8) = (q : Int) := by rw [← hq]; rw [IntWalk.i64_in _ (by omega)]; omega
  have hq1 : q ≤ n0 := by omega
  have hdata : Sl w w.heap.size (if c0 = q then A0 else A0.map (·.add q)) (n0 - q) (c0 - q) (bvs (bs.drop q)) := by
    have := hb.cut hq1
    unfold bvs at this ⊢
    rwa [List.map_drop]
  have HPR := Lib.hid (show partsRes ls (bs.drop (p / 8)) = partsRes ls (bs.drop q) by rw [hq])
  generalize partsRes ls (bs.drop (p / 8)) = PR at *
  clear hq
  go_enter Tryz.func64, Tryz.ntmps64
  go_wp2
  refine wp_region_still_tail 11 (by kernel_rfl) (by kernel_rfl) ?_
  simp only [List.take_succ_cons, List.take_zero, List.drop_succ_cons, List.drop_zero]
  still_step
  still_step
  still_step
  still_step
  still_step
  still_step
  still_step
  still_step
  still_call (HAT.out _ h)
  still_step
  still_step
  refine wpStill_nil ?_
  change wpList _ _ _ _ _ w.drew
  have hdl : (bs.drop q).length = n0 - q := by rw [List.length_drop, hn0]
  have hDsm : n0 - q ≤ 1000000000 := by omega
  generalize (if c0 = q then A0 else Option.map (fun x => x.add q) A0) = A1 at *
  generalize bs.drop q = D at *
  generalize n0 - q = m at *
  have hl' : Sl w.drew w.drew.heap.size Al N cl (i64s ls) := hl.drew
  have hcl := clone_any A1 m (c0 - q) D w.drew hdata.drew hDsm
  have HC := Lib.hid hcl
  have hBd : Below w.heap.size w w.drew := (Below.refl _ w).drew
  have hzd : w.drew.heap.size = w.heap.size := rfl
  have HDL := Lib.hid hdl
  have HLM := Lib.hid hlm
  have hlN : ls.length = N := by have := hl.len; simpa [i64s] using this
  have HLN := Lib.hid hlN
  have hN63 : N ≤ 63 := by omega
  clear hcl hdata hb hl hDsm cd0 cd1 hd h HAT hqw hdl hlm hsm hlN
  generalize w.drew = w1 at *
  go_wp2_with fail
  refine HC.out.mono ?_
  rintro e2 w2 ⟨v2, rfl, hv2, hb2⟩
  have hBw : Below w.heap.size w w2 := hBd.trans (hb2.mono (by omega))
  rw [hzd] at hv2
  clear HC hBd
  by_cases h5 : D.length ≤ ls.sum
  · have hPR : PR = .inl 5 := by rw [HPR.out]; unfold partsRes; rw [if_pos h5]
    have HP5 := Lib.hid hPR
    clear hPR
    obtain ⟨A2, c2, rfl, _⟩ := own_sl hv2
    have h5' : ¬ ls.sum < m := by have := HDL.out; omega
    clear h5
    go_wp2_with (go_at_call 63; ((with_reducible refine (must_false _ _).mono ?_); rintro e3 w3 ⟨rfl, rfl⟩))
    exact ⟨rfl, hBw, .inl ⟨5, HP5.out, rfl⟩⟩
  · by_cases h9 : 32767 < D.length
    · have hPR : PR = .inl 9 := by rw [HPR.out]; unfold partsRes; rw [if_neg h5, if_pos h9]
      have HP9 := Lib.hid hPR
      clear hPR
      obtain ⟨A2, c2, rfl, _⟩ := own_sl hv2
      have h5' : ls.sum < m := by have := HDL.out; omega
      have h9' : decide ((m : Int) ≤ 32767) = false := by have := HDL.out; simp; omega
      clear h5 h9
      go_wp2_with (first | (go_at_call 63; ((with_reducible refine (must_false _ _).mono ?_); rintro e3 w3 ⟨rfl, rfl⟩)) | (go_at_call 63; ((with_reducible refine (must_true _ _).mono ?_); rintro e3 w3 ⟨rfl, rfl⟩)))
      exact ⟨rfl, hBw, .inl ⟨9, HP9.out, rfl⟩⟩
    · have hPR : PR = .inr (splitBy ls D) := by rw [HPR.out]; unfold partsRes; rw [if_neg h5, if_neg h9]
      have HPS := Lib.hid hPR
      clear hPR
      have h5' : ls.sum < m := by have := HDL.out; omega
      have h9' : decide ((m : Int) ≤ 32767) = true := by have := HDL.out; simp; omega
      have hm9 : m ≤ 32767 := by have := HDL.out; omega
      obtain ⟨g, cap, rfl, hgl, hgl2⟩ := hv2.form (by omega)
      have hcap2 : m ≤ cap ∧ cap ≤ 9223372036854775807 := by
        obtain ⟨A', c', e', hs', _⟩ := own_sl hv2
        injection e' with _ _ e3
        subst e3
        exact ⟨hs'.cap, hs'.mx⟩
      clear h5 h9
      go_wp2_with (go_at_call 63; ((with_reducible refine (must_true _ _).mono ?_); rintro e3 w3 ⟨rfl, rfl⟩))
      clear h9'
      go_loopw [6, 7, 33] (fun vo vd i wr => ∃ k : Nat, k ≤ N ∧ i = .int .i64 k ∧ vd = .slice (some ⟨g, (ls.take k).sum, none⟩) (m - (ls.take k).sum) (cap - (ls.take k).sum) ∧ wr.ownsRow w.heap.size 40 1 vo k (partVals g ls k) ∧
          wr.ownsRow w.heap.size 5 1 (.slice (some ⟨g, 0, none⟩) m cap) m (bvs D) ∧ Below w.heap.size w wr ∧ Below w1.heap.size w1 wr) (fun _ _ i _ => N - (intOf i).toNat)
      case atStart => exact ⟨0, Nat.zero_le _, rfl, by simp, World.ownsRow_nil _ _ _ _, hv2, hBw, hb2⟩
      case round =>
        clear hv2 hBw hb2
        obtain ⟨k, hk, rfl, rfl, hvo, hvd, hBw, hb2⟩ := hrel
        have hsk := sum_take_le ls k
        by_cases hlt : k < N
        · obtain ⟨n, hn⟩ : ∃ n, ls[k]? = some n := ⟨_, List.getElem?_eq_getElem (by rw [HLN.out]; exact hlt)⟩
          have hn2 := HLM.out n (List.mem_of_getElem? hn)
          have hsn := sum_take ls k n hn
          have hsk1 := sum_take_le ls (k + 1)
          obtain ⟨adl, u, rfl, _, hu, hcu⟩ := (hl'.below hb2).get hlt
          have hu' : u = .int .i64 (n : Int) := by
            unfold i64s at hu
            rw [List.getElem?_map, hn] at hu
            simpa using hu.symm
          subst hu'
          have hpv := partVals_succ g ls k n hn
          generalize (List.take k ls).sum = S at *
          have HSN := Lib.hid hsn
          have HPV := Lib.hid hpv
          have hSn : S + n ≤ ls.sum := by omega
          clear hsn hpv hu hn
          have hne : ¬ cap - S = n := by omega
          have hle1 : n ≤ m - S := by omega
          go_wp2_with (at_builtin; refine wpList_append_own _ rfl _ _ 47 rfl w.heap.size 40 i0 (.slice none 0 0) 1 24 und22 hi hz0 hz1 hz2 rfl (by decide) _ _ _ rfl (hvo.alloc _) ⟨wr.heap.size, 0, none⟩ 1 1 [.slice (some ⟨g, S, none⟩) n n] rfl rfl ?c1 ?c2 ?c3 ?c4 ?c5 ?_)
          case c1 => exact cell_one_new _ _ _
          case c2 => simp [Value.oneCell']
          case c3 => unfold maxLen; omega
          case c4 => omega
          case c5 => have := hBw.size; simp; omega
          intro v' w4 hown' hgrow _
          have hin : ∀ j, Value.ownBlock u6 = some j → w.heap.size ≤ j := fun j hj => (hvo.lt j hj).1
          have hB4 := (hBw.alloc hBw.size (.cells #[.slice (some ⟨g, S, none⟩) n n] 40)).grown hgrow (by have := hBw.size; simp; omega) hin
          have hb4 := (hb2.alloc hb2.size (.cells #[.slice (some ⟨g, S, none⟩) n n] 40)).grown hgrow (by have := hb2.size; simp; omega) (fun j hj => by rw [hzd]; exact hin j hj)
          have hvd4 : w4.ownsRow w.heap.size 5 1 (.slice (some ⟨g, 0, none⟩) m cap) m (bvs D) := (hvd.alloc _).kept hgrow (.inr (fun e => by
            obtain ⟨o1, ho1, ⟨cs1, fr1, rfl⟩, _⟩ := own_isRow hvd rfl
            obtain ⟨o2, ho2, ⟨cs2, fr2, rfl⟩, _⟩ := own_isRow hvo e.symm
            rw [ho1] at ho2
            cases ho2))
          go_wp2
          go_roundw
          case rel => exact ⟨k + 1, by omega, by go_num, by rw [HSN.out, Nat.sub_sub, Nat.sub_sub], by rw [HPV.out]; exact hown', hvd4, hB4, hb4⟩
          case measure => simp [intOf]; omega
        · obtain rfl : k = N := by omega
          have hS : (ls.take k).sum = ls.sum := by rw [List.take_of_length_le (by rw [HLN.out]; exact Nat.le_refl _)]
          rw [hS]
          go_wp2_with (at_builtin; refine wpList_append_own _ rfl _ _ 47 rfl w.heap.size 40 i0 (.slice none 0 0) 1 24 und22 hi hz0 hz1 hz2 rfl (by decide) _ _ _ rfl (hvo.alloc _) ⟨wr.heap.size, 0, none⟩ 1 1 [.slice (some ⟨g, ls.sum, none⟩) (m - ls.sum) (cap - ls.sum)] rfl rfl ?c1 ?c2 ?c3 ?c4 ?c5 ?_)
          case c1 => exact cell_one_new _ _ _
          case c2 => simp [Value.oneCell']
          case c3 => unfold maxLen; omega
          case c4 => omega
          case c5 => have := hBw.size; simp; omega
          intro v' w4 hown' hgrow _
          have hin : ∀ j, Value.ownBlock u6 = some j → w.heap.size ≤ j := fun j hj => (hvo.lt j hj).1
          have hB4 := (hBw.alloc hBw.size (.cells #[.slice (some ⟨g, ls.sum, none⟩) (m - ls.sum) (cap - ls.sum)] 40)).grown hgrow (by have := hBw.size; simp; omega) hin
          have hvd4 : w4.ownsRow w.heap.size 5 1 (.slice (some ⟨g, 0, none⟩) m cap) m (bvs D) := (hvd.alloc _).kept hgrow (.inr (fun e => by
            obtain ⟨o1, ho1, ⟨cs1, fr1, rfl⟩, _⟩ := own_isRow hvd rfl
            obtain ⟨o2, ho2, ⟨cs2, fr2, rfl⟩, _⟩ := own_isRow hvo e.symm
            rw [ho1] at ho2
            cases ho2))
          go_wp2
          go_ret
          refine ⟨hB4, .inr ⟨splitBy ls D, v', HPS.out, rfl, ?_⟩⟩
          refine ⟨partVals g ls k ++ [.slice (some ⟨g, ls.sum, none⟩) (m - ls.sum) (cap - ls.sum)], g, cap, D, ?_, ?_, ?_⟩
          · rw [splitBy_length, HLN.out]; exact hown'
          · rw [HDL.out]; exact hvd4
          · intro i p hi
            have hil : i < k + 1 := by
              have := (List.getElem?_eq_some_iff.1 hi).1
              rw [splitBy_length, HLN.out] at this
              exact this
            have hpl : (partVals g ls k).length = k := by simp [partVals]
            by_cases hik : i < k
            · obtain ⟨n, hn⟩ : ∃ n, ls[i]? = some n := ⟨_, List.getElem?_eq_getElem (by rw [HLN.out]; exact hik)⟩
              rw [splitBy_get ls D i n hn] at hi
              injection hi with hi
              have hsn := sum_take ls i n hn
              have hsl := sum_take_le ls (i + 1)
              have hlen : p.length = n := by rw [← hi, List.length_take, List.length_drop, HDL.out]; omega
              refine ⟨(ls.take i).sum, n, ?_, by omega, by omega, by rw [hlen]; exact hi.symm⟩
              rw [List.getElem?_append_left (by omega), hlen]
              simp [partVals, hik, hn]
            · obtain rfl : i = k := by omega
              have hk' : i = ls.length := HLN.out.symm
              rw [hk', splitBy_last] at hi
              injection hi with hi
              have hlen : p.length = m - ls.sum := by rw [← hi, List.length_drop, HDL.out]
              refine ⟨ls.sum, cap - ls.sum, ?_, by omega, by omega, ?_⟩
              · rw [List.getElem?_append_right (by omega), hpl, hlen]; simp
              · rw [hlen, ← hi, List.take_of_length_le (by rw [List.length_drop, HDL.out]; omega)]
end Go.Proofs.YtbjajboodohabaaGreat
namespace Go.Proofs.YtbjajboodohabaaGreat
open Go.RowKit
/-- the post of a deferred function, its caller's frames fixed -/
def defPost (P : Program) (fn : Func) (c₀ : Frame) (cs cs' : List Frame) (R : Ending → FrameMode → World → Prop) (e : Exit) (a : Act) (w : World) : Prop := bodyPostS P fn c₀ cs R e a cs' w

theorem dec1_idle (bp be : Nat) (w : World) :
    CallsD Tryz.prog 59 #[.pointer (some ⟨bp, 0, none⟩), .pointer (some ⟨be, 0, none⟩)] .returning w fun e u' w' => e = .returned (.tuple #[]) ∧ u' = .returning ∧ w = w' := by
  have hnn := run_eql_nil_nil (P := Tryz.prog) w (t := 20) (by kernel_rfl)
  refine callsD_of_wpS Tryz.func59 rfl fun c₀ cs hu => ?_
  apply wpS_seq
  apply wpS_region
  generalize hQ : Exit.thenS _ _ = Q
  simp [wpOpsS, go_sem, recoverD, hu, Tryz.ntmps59]
  subst hQ
  simp only [Exit.thenS]
  refine wpS_of_wp ?_
  change Code.wp _ _ (defPost Tryz.prog Tryz.f59 c₀ cs (c₀ :: cs) _) { tmps := #[.pointer (some ⟨bp, 0, none⟩), .pointer (some ⟨be, 0, none⟩), .nilIface, undef, undef, .nilIface, undef, undef, undef, undef, undef, undef, undef, undef, undef, undef, undef, undef], defers := [] } w
  go_wp2
  cases c₀
  simp_all [defPost, bodyPostS, results, Tryz.results59]

theorem assert_errno (er : Int) (w : World) : (Instr.typeAssert (.iface 26 (.int .i64 er)) 20 26 true).run Tryz.prog w = .ok (.tuple #[.int .i64 er, .bool true]) w := by kernel_rfl

set_option maxHeartbeats 400000 in
set_option maxRecDepth 100000 in
theorem dec1_caught (bp be : Nat) (er : Int) (v0 v1 v2 v3 v4 : Value) (w : World) (hp : Blk w bp 80 #[v0, v1, v2, v3]) (he : Blk w be 26 #[v4]) (hne : be ≠ bp) :
    CallsD Tryz.prog 59 #[.pointer (some ⟨bp, 0, none⟩), .pointer (some ⟨be, 0, none⟩)] (.panicking [{ v := .iface 26 (.int .i64 er), recovered := false }]) w fun e u' w' => e = .returned (.tuple #[]) ∧ u' = .panicking [{ v := .iface 26 (.int .i64 er), recovered := true }] ∧
      Blk w' bp 80 #[.int .i64 0, .bool false, .bool false, .slice none 0 0] ∧ Blk w' be 26 #[.int .i64 er] ∧ Kept (fun k _ => k = bp ∨ k = be) w w' := by
  have hnn := run_eql_held_nil (P := Tryz.prog) w 20 26 (.int .i64 er) (by kernel_rfl)
  have hta := assert_errno er w
  refine callsD_of_wpS Tryz.func59 rfl fun c₀ cs hu => ?_
  apply wpS_seq
  apply wpS_region
  generalize hQ : Exit.thenS _ _ = Q
  simp [wpOpsS, go_sem, recoverD, hu, Tryz.ntmps59]
  subst hQ
  simp only [Exit.thenS]
  refine wpS_of_wp ?_
  change Code.wp _ _ (defPost Tryz.prog Tryz.f59 c₀ cs _ _) { tmps := #[.pointer (some ⟨bp, 0, none⟩), .pointer (some ⟨be, 0, none⟩), .iface 26 (.int .i64 er), undef, undef, .iface 26 (.int .i64 er), undef, undef, undef, undef, undef, undef, undef, undef, undef, undef, undef, undef], defers := [] } w
  have c0 := hp.cell 0
  have c1 := hp.cell 1
  have c2 := hp.cell 2
  have c3 := hp.cell 3
  have f0 := hp.frozen 0
  have f1 := hp.frozen 1
  have f2 := hp.frozen 2
  have f3 := hp.frozen 3
  have c4 := he.cell 0
  have f4 := he.frozen 0
  simp at c0 c1 c2 c3 c4
  go_wp2
  refine ⟨rfl, _, rfl, .tuple #[], by simp [results, Tryz.results59], rfl, rfl, ?_, ?_, ?_⟩
  · have := (((hp.set_ 0 (.int .i64 0)).set_ 1 (.bool false)).set_ 2 (.bool false)).set_ 3 (.slice none 0 0)
    simpa using this.far (p := ⟨be, 0, none⟩) (fun e => hne e.symm) (.int .i64 er)
  · have := ((((he.far (p := ⟨bp, 0, none⟩) hne (.int .i64 0)).far (p := ⟨bp, 1, none⟩) hne (.bool false)).far (p := ⟨bp, 2, none⟩) hne (.bool false)).far (p := ⟨bp, 3, none⟩) hne (.slice none 0 0)).set_ 0 (.int .i64 er)
    simpa using this
  · exact (((((Kept.refl _ w).setCell (p := ⟨bp, 0, none⟩) (fun _ _ => .inl rfl) _).setCell (p := ⟨bp, 1, none⟩) (fun _ _ => .inl rfl) _).setCell (p := ⟨bp, 2, none⟩) (fun _ _ => .inl rfl) _).setCell (p := ⟨bp, 3, none⟩) (fun _ _ => .inl rfl) _).setCell (p := ⟨be, 0, none⟩) (fun _ _ => .inr rfl) _

/-- what Decode comes to -/
def DecIs (w : World) (R : Sum Nat (Nat × Bool × Bool × List (List UInt8))) (e : Ending) (w' : World) : Prop :=
  Below w.heap.size w w' ∧
  ((∃ er : Nat, R = .inl er ∧ e = .returned (.tuple #[.agg #[.int .i64 0, .bool false, .bool false, .slice none 0 0], .int .i64 er])) ∨
   (∃ (sn : Nat) (s en : Bool) (ps : List (List UInt8)) (vo : Value), R = .inr (sn, s, en, ps) ∧ e = .returned (.tuple #[.agg #[.int .i64 sn, .bool s, .bool en, vo], .int .i64 0]) ∧ PartsOut w' w.heap.size vo ps))

/-- an error is raised: it is recovered, the results are set -/
theorem dec_raise (w W : World) (R : Sum Nat (Nat × Bool × Bool × List (List UInt8))) (er : Nat) (T : Array Value) (v0 v1 v2 v3 v4 : Value) (h2 : T[2]? = some (.pointer (some ⟨w.heap.size, 0, none⟩))) (h3 : T[3]? = some (.pointer (some ⟨w.heap.size + 1, 0, none⟩)))
    (hp : Blk W w.heap.size 80 #[v0, v1, v2, v3]) (he : Blk W (w.heap.size + 1) 26 #[v4]) (hB : Below w.heap.size w W) (hR : R = .inl er) :
    bodyPostD Tryz.prog Tryz.f31 (DecIs w R) (.panic [{ v := .iface 26 (.int .i64 er), recovered := false }]) { tmps := T, defers := [{ target := .fn (.func 59) #[.pointer (some ⟨w.heap.size, 0, none⟩), .pointer (some ⟨w.heap.size + 1, 0, none⟩)], args := #[] }] } W := by
  refine leaves_cons (f := 59) (args := #[.pointer (some ⟨w.heap.size, 0, none⟩), .pointer (some ⟨w.heap.size + 1, 0, none⟩)]) (by simp) (by simp [go_sem]) ?_
  refine (dec1_caught _ _ (er : Int) _ _ _ _ _ W hp he (by omega)).mono ?_
  rintro e u' w'' ⟨rfl, rfl, hp', he', hk⟩
  have c0 := hp'.cell 0
  have c1 := hp'.cell 1
  have c2 := hp'.cell 2
  have c3 := hp'.cell 3
  have c4 := he'.cell 0
  simp at c0 c1 c2 c3 c4
  refine ⟨.tuple #[.agg #[.int .i64 0, .bool false, .bool false, .slice none 0 0], .int .i64 er], ?_, hB.trans (hk.below (fun k _ e => by omega) hB.size), .inl ⟨er, hR, rfl⟩⟩
  simp [results, Tryz.results31, go_sem, h2, h3, c0, c1, c2, c3, c4]

end Go.Proofs.YtbjajboodohabaaGreat
namespace Go.Proofs.YtbjajboodohabaaGreat
open Go.RowKit

set_option maxRecDepth 100000 in
set_option maxHeartbeats 2000000 in
theorem decode_any (A : Option Addr) (n c : Nat) (bs : List UInt8) (w : World) (h : Sl w w.heap.size A n c (bvs bs)) (hsm : n ≤ 1000000) :
    Calls Tryz.prog 31 #[.slice A n c] w (DecIs w (decU bs)) := by
  have hlen : bs.length = n := by simpa using h.len
  obtain ⟨R, hR⟩ : ∃ R, decU bs = R := ⟨_, rfl⟩
  rw [hR]
  have HR := Lib.hid hR
  clear hR
  have hB0 := ((Below.refl w.heap.size w).alloc (Nat.le_refl _) (.cells #[.int .i64 0, .bool false, .bool false, .slice none 0 0] 80)).alloc (by simp) (.cells #[.int .i64 0] 26)
  have hs0 := (h.below hB0).more hB0.size
  have hnr := newReader_any A n c bs _ hs0 (by omega)
  have HNR := Lib.hid hnr
  have HB0 := Lib.hid hB0
  have HSM := Lib.hid hsm
  have HLEN := Lib.hid hlen
  clear hnr hB0 hs0 hsm hlen
  go_enter_defers Tryz.func31, Tryz.ntmps31
  go_wp2_with fail
  refine HNR.out.mono ?_
  rintro e1 w1 ⟨r, v, rfl, hr, hrd, hb1⟩
  have bp0 : Blk ((w.alloc (.cells #[.int .i64 0, .bool false, .bool false, .slice none 0 0] 80)).alloc (.cells #[.int .i64 0] 26)) w.heap.size 80 #[.int .i64 0, .bool false, .bool false, .slice none 0 0] := (Blk.new w _ _).alloc _
  have be0 : Blk ((w.alloc (.cells #[.int .i64 0, .bool false, .bool false, .slice none 0 0] 80)).alloc (.cells #[.int .i64 0] 26)) (w.heap.size + 1) 26 #[.int .i64 0] := by simpa using Blk.new (w.alloc (.cells #[.int .i64 0, .bool false, .bool false, .slice none 0 0] 80)) 26 #[.int .i64 0]
  have bp1 := bp0.below hb1 bp0.lt
  have be1 := be0.below hb1 be0.lt
  have hB1 : Below w.heap.size w w1 := HB0.out.trans (hb1.mono HB0.out.size)
  have hrsz : w.heap.size + 1 < r := by simp at hr; omega
  have hrl := hrd.1.lt
  clear bp0 be0 hb1 hr HNR HB0
  have hW2 : ∃ w2, (w1.alloc (.cells #[.pointer (some ⟨r, 0, none⟩), .slice A n c] 129)).alloc (.cells #[.int .i64 3, .int .i64 1, .int .i64 1, .int .i64 1, .int .i64 10] 3) = w2 := ⟨_, rfl⟩
  obtain ⟨w2, hw2⟩ := hW2
  have bp2 : Blk w2 w.heap.size 80 #[.int .i64 0, .bool false, .bool false, .slice none 0 0] := by rw [← hw2]; exact (bp1.alloc _).alloc _
  have be2 : Blk w2 (w.heap.size + 1) 26 #[.int .i64 0] := by rw [← hw2]; exact (be1.alloc _).alloc _
  have hB2 : Below w.heap.size w w2 := by rw [← hw2]; exact (hB1.alloc hB1.size _).alloc (by have := hB1.size; simp; omega) _
  have hrd2 : Rdr w2 r v bs 0 := by rw [← hw2]; exact ⟨(hrd.1.alloc _).alloc _, (hrd.2.alloc _).alloc _⟩
  have hd2 : Blk w2 w1.heap.size 129 #[.pointer (some ⟨r, 0, none⟩), .slice A n c] := by rw [← hw2]; exact (Blk.new w1 _ _).alloc _
  have hb2 : Blk w2 (w1.heap.size + 1) 3 (i64s [3, 1, 1, 1, 10]).toArray := by
    rw [← hw2]
    have := Blk.new (w1.alloc (.cells #[.pointer (some ⟨r, 0, none⟩), .slice A n c] 129)) 3 #[.int .i64 3, .int .i64 1, .int .i64 1, .int .i64 1, .int .i64 10]
    rw [World.size_alloc] at this
    exact this
  go_wp2_with fail
  clear hrd bp1 be1 hB1 hw2
  generalize w1.heap.size = d at *
  have hbl : bs.length ≤ 1000000 := by have := HLEN.out; have := HSM.out; omega
  by_cases h2 : bs.length < 2
  · have hR5 : R = .inl 5 := by rw [← HR.out]; unfold decU; rw [if_pos h2]
    have HR5 := Lib.hid hR5
    clear hR5
    have hga := getAll_short r (d + 1) v bs 0 [3, 1, 1, 1, 10] w2 hrd2 (by omega) (by simp) (by simp) hb2 (by omega) (by simp; omega)
    simp only [List.length_cons, List.length_nil, Nat.zero_add, Nat.reduceAdd] at hga
    refine hga.mono ?_
    rintro e3 w3 ⟨rfl, hrd3, hk3⟩
    have hB3 : Below w.heap.size w w3 := hB2.trans (hk3.below (B := w.heap.size) (fun k _ e => by have := hB2.size; omega) hB2.size)
    have bp3 := bp2.kept hk3 (by have := bp2.lt; omega)
    have be3 := be2.kept hk3 (by have := be2.lt; omega)
    clear hga h2 hbl
    go_wp2_with (go_at_call 61; ((with_reducible refine (gots_err _ _ _ _ rfl _).mono ?_); rintro e4 w4 ⟨rfl, rfl⟩))
    exact dec_raise w _ R 5 _ _ _ _ _ _ rfl rfl bp3 be3 hB3 HR5.out
  · have hga := getAll_ok r (d + 1) v bs 0 [3, 1, 1, 1, 10] w2 hrd2 (by omega) (by simp) (by simp) hb2 (by simp; omega)
    simp only [List.length_cons, List.length_nil, Nat.zero_add, Nat.reduceAdd] at hga
    refine hga.mono ?_
    rintro e3 w3 ⟨vo, rfl, hvo, hrd3, hk3⟩
    have hB3 : Below w.heap.size w w3 := hB2.trans (hk3.below (B := w.heap.size) (fun k _ e => by have := hB2.size; omega) hB2.size)
    have bp3 := bp2.kept hk3 (by have := bp2.lt; omega)
    have be3 := be2.kept hk3 (by have := be2.lt; omega)
    have hd3 := hd2.kept hk3 (by have := hd2.lt; omega)
    have hR1 := HR.out
    unfold decU at hR1
    rw [if_neg h2] at hR1
    have hgv : getAll bs 0 [3, 1, 1, 1, 10] = [val (bitsAt bs 0 3), val (bitsAt bs 3 1), val (bitsAt bs 4 1), val (bitsAt bs 5 1), val (bitsAt bs 6 10)] := rfl
    rw [hgv] at hvo
    have hx4 : val (bitsAt bs 6 10) < 1024 := by have := val_lt (bitsAt bs 6 10); rw [bitsAt_length] at this; exact this
    have hd2l := hd2.lt
    have hbl2 : 2 ≤ bs.length := by omega
    clear hgv hga hb2 hrd2 hB2 bp2 be2 hd2 hk3 h2
    simp only [List.length_cons, List.length_nil, Nat.zero_add, Nat.reduceAdd] at hvo
    rw [show (0 : Nat) + [3, 1, 1, 1, 10].sum = 16 from rfl] at hrd3
    generalize val (bitsAt bs 0 3) = x0 at *
    generalize val (bitsAt bs 3 1) = x1 at *
    generalize val (bitsAt bs 4 1) = x2 at *
    generalize val (bitsAt bs 5 1) = x3 at *
    generalize val (bitsAt bs 6 10) = x4 at *
    obtain ⟨gl, capl, rfl, hgl, hgl2⟩ := hvo.form (by omega)
    have l0 := hvo.cellAt 0 (by omega)
    have l1 := hvo.cellAt 1 (by omega)
    have l2 := hvo.cellAt 2 (by omega)
    have l3 := hvo.cellAt 3 (by omega)
    have l4 := hvo.cellAt 4 (by omega)
    simp [u64s] at l0 l1 l2 l3 l4
    by_cases h0 : x0 = 0
    · subst h0
      simp only [ne_eq, not_true, if_false] at hR1
      have HR1 := Lib.hid hR1
      clear hR1
      go_wp2_with (first | (go_at_call 61; ((with_reducible refine (gots_ok _ _ _ _).mono ?_); rintro e4 w4 ⟨rfl, rfl⟩)) | (go_at_call 63; ((with_reducible refine (must_true _ _).mono ?_); rintro e4 w4 ⟨rfl, rfl⟩)))
      have beq : ∀ x : Nat, ((x : Int) == 0) = decide (x = 0) := fun x => by rw [Bool.eq_iff_iff]; simp
      have beq1 : ((x3 : Int) == 1) = decide (x3 = 1) := by rw [Bool.eq_iff_iff]; simp; omega
      have b1 := beq x1
      have b2 := beq x2
      clear beq
      generalize decide (x1 = 0) = s1 at *
      generalize decide (x2 = 0) = s2 at *
      generalize decide (x3 = 1) = m3 at *
      have l1' : w3.drew.cell? ⟨gl, 1, none⟩ = some (.int .u64 x1) := l1
      have l2' : w3.drew.cell? ⟨gl, 2, none⟩ = some (.int .u64 x2) := l2
      refine wp_region_noPanic ?_
      go_region
      refine NoPanic.normal ?_
      have e4 : (w3.alloc (.cells #[.bool s1, .bool s2, .slice none 0 0] 76)).drew = w3.drew.alloc (.cells #[.bool s1, .bool s2, .slice none 0 0] 76) := rfl
      have e5 : w3.heap.size = w3.drew.heap.size := rfl
      rw [e4, e5]
      clear e4 e5 l1' l2'
      replace bp3 := bp3.drew
      replace be3 := be3.drew
      replace hd3 := hd3.drew
      replace hB3 := hB3.drew
      replace hrd3 : Rdr w3.drew r v bs 16 := hrd3
      replace hvo := hvo.drew'
      clear l0 l1 l2 l3 l4
      generalize w3.drew = w4 at *
      have l3 := (hvo.alloc (.cells #[.bool s1, .bool s2, .slice none 0 0] 76)).cellAt 3 (by omega)
      simp [u64s] at l3
      have bc5 := Blk.new w4 76 #[.bool s1, .bool s2, .slice none 0 0]
      replace bp3 := bp3.alloc (.cells #[.bool s1, .bool s2, .slice none 0 0] 76)
      replace be3 := be3.alloc (.cells #[.bool s1, .bool s2, .slice none 0 0] 76)
      replace hd3 := hd3.alloc (.cells #[.bool s1, .bool s2, .slice none 0 0] 76)
      replace hrd3 : Rdr (w4.alloc (.cells #[.bool s1, .bool s2, .slice none 0 0] 76)) r v bs 16 := ⟨hrd3.1.alloc _, hrd3.2.alloc _⟩
      replace hvo := hvo.alloc (.cells #[.bool s1, .bool s2, .slice none 0 0] 76)
      replace hB3 := hB3.alloc hB3.size (.cells #[.bool s1, .bool s2, .slice none 0 0] 76)
      have hsz4 : w4.heap.size < (w4.alloc (.cells #[.bool s1, .bool s2, .slice none 0 0] 76)).heap.size := by simp
      have hld := lengths_dec r d v _ bs m3 16 _ hrd3 hd3 (by omega) (by omega)
      have HLD := Lib.hid hld
      have hnM : ∀ k, k < w4.heap.size + 1 → k ≠ r → ¬ (k = r ∨ (w4.alloc (.cells #[.bool s1, .bool s2, .slice none 0 0] 76)).heap.size ≤ k) := by intro k h1 h2; simp; omega
      have HNM := Lib.hid hnM
      have bpl := bp3.lt
      have bel := be3.lt
      have dl := hd3.lt
      simp only [World.size_alloc] at bpl bel dl
      clear hld hnM
      go_wp2_with fail
      refine HLD.out.mono ?_
      rintro e5 w5 ⟨hk5, h5⟩
      have bp5 := bp3.kept hk5 (HNM.out _ (by omega) (by omega))
      have be5 := be3.kept hk5 (HNM.out _ (by omega) (by omega))
      have hd5 := hd3.kept hk5 (HNM.out _ (by omega) (by omega))
      have bc5' := bc5.kept hk5 (HNM.out _ (by omega) (by omega))
      have hB5 : Below w.heap.size w w5 := hB3.trans (hk5.below (B := w.heap.size) (fun k _ e => by have := hB3.size; omega) hB3.size)
      have hvo5 := own_kept hvo hk5 (fun j o hr hj => HNM.out j (by have := (hvo.lt j hj).2; simp only [World.size_alloc] at this; omega) (by have := (hvo.lt j hj).1; omega))
      rcases h5 with ⟨er, hl, rfl⟩ | ⟨ls, p, vl, hl, rfl, hvl, hrd5, hp5⟩
      · go_wp2
        exact dec_raise w _ R er _ _ _ _ _ _ rfl rfl bp5 be5 hB5 (by rw [← HR1.out, hl])
      · obtain ⟨hlp1, hlp2⟩ := lenRes_props hl
        have HL := Lib.hid hl
        have HLP := Lib.hid hlp2
        clear hl hlp2 HLD
        obtain ⟨Al, cl, rfl, hsl, _⟩ := own_sl hvl
        have hBw5 : Sl w5 w5.heap.size A n c (bvs bs) := (h.below hB5).more hB5.size
        have hpd := parts_dec r d v A n c bs p Al ls.length cl ls w5 hrd5 hd5 hBw5 hsl (by omega) hp5 hlp1 (fun n hn => (HLP.out n hn).2)
        have HPD := Lib.hid hpd
        clear hpd
        go_wp2_with fail
        refine HPD.out.mono ?_
        rintro e6 w6 ⟨hB6, h6⟩
        have bp6 := bp5.below hB6 bp5.lt
        have be6 := be5.below hB6 be5.lt
        have bc6 := bc5'.below hB6 bc5'.lt
        have hB6' : Below w.heap.size w w6 := hB5.trans (hB6.mono hB5.size)
        have hvo6 := own_below hvo5 hB6 (Nat.le_refl _)
        clear HPD hsl hBw5 hrd5 hd5
        rcases h6 with ⟨er, hp6, rfl⟩ | ⟨ps, vo, hp6, rfl, hpo⟩
        · go_wp2
          exact dec_raise w _ R er _ _ _ _ _ _ rfl rfl bp6 be6 hB6' (by rw [← HR1.out, HL.out]; dsimp only; rw [hp6])
        · have hRF : R = .inr (x4, s1, s2, ps) := by rw [← HR1.out, HL.out]; dsimp only; rw [hp6]
          have HRF := Lib.hid hRF
          clear hRF hp6
          obtain ⟨Ao, co, vso, rfl, _⟩ := hpo.sls
          have c62 := bc6.cell 2
          have f62 := bc6.frozen 2
          simp at c62
          have bc7 := bc6.set_ 2 (.slice Ao ps.length co)
          have bp7 := bp6.far (p := ⟨w4.heap.size, 2, none⟩) (by simp; omega) (.slice Ao ps.length co)
          have be7 := be6.far (p := ⟨w4.heap.size, 2, none⟩) (by simp; omega) (.slice Ao ps.length co)
          have hB7 := hB6'.setCell (p := ⟨w4.heap.size, 2, none⟩) (by simp; omega) (.slice Ao ps.length co)
          have hvo7 := hvo6.kept (grownBy_setAt w6 w4.heap.size 2 (.slice Ao ps.length co)) (.inr (own_blk_ne hvo6 bc6 (by decide)))
          have hpo7 : PartsOut (w6.setCell ⟨w4.heap.size, 2, none⟩ (.slice Ao ps.length co)) w5.heap.size (.slice Ao ps.length co) ps := hpo.kept (fun k o hk ho => (Below.heap_setCell w6 _ _ k (by have := bc5'.lt; simp; omega)).trans ho)
          have HPO := Lib.hid hpo7
          go_wp2_with fail
          simp at bc7
          generalize w6.setCell ⟨w4.heap.size, 2, none⟩ (.slice Ao ps.length co) = w7 at *
          have k0 := bc7.cell 0
          have k1 := bc7.cell 1
          have k2 := bc7.cell 2
          have l4 := hvo7.cellAt 4 (by omega)
          simp [u64s] at k0 k1 k2 l4
          have hwx : IntKind.i64.wrap (x4 : Int) = x4 := IntWalk.i64_in _ (by omega)
          refine wp_region_still_tail 6 (by kernel_rfl) (by kernel_rfl) ?_
          simp only [List.take_succ_cons, List.take_zero, List.drop_succ_cons, List.drop_zero]
          still_step
          still_step
          still_step
          still_step
          still_step
          still_step
          refine wpStill_nil ?_
          change wpList _ _ _ _ _ w7.drew
          clear k0 k1 k2 l4 c62 f62
          replace bp7 := bp7.drew
          replace be7 := be7.drew
          replace hB7 := hB7.drew
          replace HPO : Hid (PartsOut w7.drew w5.heap.size (.slice Ao ps.length co) ps) := HPO
          generalize w7.drew = w8 at *
          have k0 := bp7.cell 0
          have k1 := bp7.cell 1
          have k2 := bp7.cell 2
          have k3 := bp7.cell 3
          have g0 := bp7.frozen 0
          have g1 := bp7.frozen 1
          have g2 := bp7.frozen 2
          have g3 := bp7.frozen 3
          have k4 := be7.cell 0
          have g4 := be7.frozen 0
          simp at k0 k1 k2 k3 k4
          go_wp2
          refine leaves_cons (f := 59) (args := #[.pointer (some ⟨w.heap.size, 0, none⟩), .pointer (some ⟨w.heap.size + 1, 0, none⟩)]) (by simp) (by simp [go_sem]) ?_
          refine (dec1_idle _ _ _).mono ?_
          rintro e9 u9 w9 ⟨rfl, rfl, rfl⟩
          have hbp9 := ((((bp7.set_ 0 (.int .i64 x4)).set_ 1 (.bool s1)).set_ 2 (.bool s2)).set_ 3 (.slice Ao ps.length co)).far (p := ⟨w.heap.size + 1, 0, none⟩) (by simp) (.int .i64 0)
          have hbe9 := ((((be7.far (p := ⟨w.heap.size, 0, none⟩) (by simp) (.int .i64 x4)).far (p := ⟨w.heap.size, 1, none⟩) (by simp) (.bool s1)).far (p := ⟨w.heap.size, 2, none⟩) (by simp) (.bool s2)).far (p := ⟨w.heap.size, 3, none⟩) (by simp) (.slice Ao ps.length co)).set_ 0 (.int .i64 0)
          have hB9 := ((((hB7.setCell (p := ⟨w.heap.size, 0, none⟩) (by simp) (.int .i64 x4)).setCell (p := ⟨w.heap.size, 1, none⟩) (by simp) (.bool s1)).setCell (p := ⟨w.heap.size, 2, none⟩) (by simp) (.bool s2)).setCell (p := ⟨w.heap.size, 3, none⟩) (by simp) (.slice Ao ps.length co)).setCell (p := ⟨w.heap.size + 1, 0, none⟩) (by simp) (.int .i64 0)
          have hpo9 : PartsOut (((((w8.setCell ⟨w.heap.size, 0, none⟩ (.int .i64 x4)).setCell ⟨w.heap.size, 1, none⟩ (.bool s1)).setCell ⟨w.heap.size, 2, none⟩ (.bool s2)).setCell ⟨w.heap.size, 3, none⟩ (.slice Ao ps.length co)).setCell ⟨w.heap.size + 1, 0, none⟩ (.int .i64 0)) w5.heap.size (.slice Ao ps.length co) ps :=
            HPO.out.kept (fun k o hk ho => by
              have h1 := bc5'.lt
              rw [Below.heap_setCell _ _ _ k (by simp; omega), Below.heap_setCell _ _ _ k (by simp; omega), Below.heap_setCell _ _ _ k (by simp; omega), Below.heap_setCell _ _ _ k (by simp; omega), Below.heap_setCell _ _ _ k (by simp; omega)]
              exact ho)
          have q0 := hbp9.cell 0
          have q1 := hbp9.cell 1
          have q2 := hbp9.cell 2
          have q3 := hbp9.cell 3
          have q4 := hbe9.cell 0
          simp at q0 q1 q2 q3 q4
          refine ⟨.tuple #[.agg #[.int .i64 x4, .bool s1, .bool s2, .slice Ao ps.length co], .int .i64 0], by simp [results, Tryz.results31, go_sem, q0, q1, q2, q3, q4], hB9, .inr ⟨x4, s1, s2, ps, _, HRF.out, rfl, hpo9.base hB5.size⟩⟩
    · rw [if_pos h0] at hR1
      have HR1 := Lib.hid hR1.symm
      have hx0 : ((x0 : Int) == 0) = false := by simp; omega
      clear hR1 h0
      go_wp2_with (first | (go_at_call 61; ((with_reducible refine (gots_ok _ _ _ _).mono ?_); rintro e4 w4 ⟨rfl, rfl⟩)) | (go_at_call 63; ((with_reducible refine (must_false _ _).mono ?_); rintro e4 w4 ⟨rfl, rfl⟩)))
      exact dec_raise w _ R 9 _ _ _ _ _ _ rfl rfl bp3 be3 hB3 HR1.out
end Go.Proofs.YtbjajboodohabaaGreat
