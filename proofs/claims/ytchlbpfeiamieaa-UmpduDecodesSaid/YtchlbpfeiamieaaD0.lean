/- umpdu.Decode: the lengths. -/
import Derived.Test.YtchlbpfeiamieaaR2
namespace Go.Proofs.Ytchlbpfeiamieaa
open Go.RowKit

/-- what reading the lengths comes to -/
def LensIs (w : World) (r : Nat) (v : Value) (bs : List UInt8) (R : Sum Nat (List Nat × Nat)) (e : Ending) (w' : World) : Prop :=
  Kept (fun k _ => k = r ∨ w.heap.size ≤ k) w w' ∧
  ((∃ er : Nat, R = .inl er ∧ e = raise er) ∨
   (∃ ls p vo, R = .inr (ls, p) ∧ e = .returned (.tuple #[vo, .int .i64 (ls.sum : Nat)]) ∧ w'.ownsRow w.heap.size 3 1 vo ls.length (i64s ls) ∧ Rdr w' r v bs p ∧ p ≤ 8 * bs.length))

/-- a slice value's length -/
def lenOfV : Value → Nat
  | .slice _ n _ => n
  | _ => 0
theorem lenOfV_own {w : World} {base : Nat} {e : TypeId} {size n : Nat} {v : Value} {xs : List Value} (h : w.ownsRow base e size v n xs) : lenOfV v = n := by
  rcases h.2 with ⟨rfl, h0⟩ | ⟨g', cap, cur, rfl, _⟩
  · exact h0.symm
  · rfl
theorem and2047 (V : Nat) (h : V < 4096) : bits BinOp.and IntKind.u64 (V : Int) 2047 = ((V % 2048 : Nat) : Int) := by
  have h1 := u64_and_nat V 2047 (by omega) (by omega)
  have h1' : bits BinOp.and IntKind.u64 (V : Int) 2047 = ((V &&& 2047 : Nat) : Int) := h1
  rw [h1']
  have : V &&& 2047 = V % 2048 := Nat.and_two_pow_sub_one_eq_mod V 11
  rw [this]

set_option maxRecDepth 100000 in
set_option maxHeartbeats 2000000 in
theorem lengths_dec (r d : Nat) (v vb : Value) (bs : List UInt8) (more : Bool) (pos : Nat) (w : World) (h : Rdr w r v bs pos) (hd : Blk w d 130 #[.pointer (some ⟨r, 0, none⟩), vb]) (hsm : bs.length ≤ 1000000000) (hp : pos ≤ 8 * bs.length) :
    Calls Try.prog 87 #[.pointer (some ⟨d, 0, none⟩), .bool more] w (LensIs w r v bs (lenRes bs more pos)) := by
  obtain ⟨i0, hi, hz0, hz1, hz2⟩ := info_parts int_info
  have hrd : d ≠ r := by
    rintro rfl
    have h1 := h.1
    unfold Blk at h1 hd
    rw [h1] at hd
    injection hd with hd
    injection hd with _ h2
    exact absurd h2 (by decide)
  have hdl := hd.lt
  have hrl := h.1.lt
  have HSM := Lib.hid hsm
  have HP := Lib.hid hp
  clear hsm hp
  obtain ⟨R, hR⟩ : ∃ R, readLens bs 64 more pos [] = R := ⟨_, rfl⟩
  have hRR : lenRes bs more pos = afterAlign bs R := by rw [← hR]; rfl
  have HR := Lib.hid hR
  have HRR := Lib.hid hRR
  clear hR hRR
  generalize lenRes bs more pos = RR at *
  go_enter Try.func87, Try.ntmps87
  go_wp2
  go_loopw [1, 4, 5] (fun m l s wr => ∃ (acc : List Nat) (more' : Bool) (q : Nat), m = .bool more' ∧ s = .int .i64 (acc.sum : Nat) ∧ acc.length ≤ 63 ∧ acc.sum ≤ 2047 * acc.length ∧ readLens bs (64 - acc.length) more' q acc = R ∧
      Rdr wr r v bs q ∧ q ≤ 8 * bs.length ∧ wr.ownsRow w.heap.size 3 1 l acc.length (i64s acc) ∧ Kept (fun k _ => k = r ∨ w.heap.size ≤ k) w wr) (fun _ l _ _ => 64 - lenOfV l)
  case atStart => exact ⟨[], more, pos, rfl, rfl, by simp, by simp, HR.out, h, HP.out, World.ownsRow_nil _ _ _ _, Kept.refl _ _⟩
  case round =>
    obtain ⟨acc, more', q, rfl, rfl, hal, hsum, hread, hrq, hq, how, hkp⟩ := hrel
    have hd1 := hd.kept hkp (by rintro (e | e); exact hrd e; omega)
    have cd0 := hd1.cell 0
    simp at cd0
    have HRD := Lib.hid hread
    have HQ := Lib.hid hq
    clear hread hq
    cases more' with
    | true =>
      obtain ⟨f, hf⟩ : ∃ f, 64 - acc.length = f + 1 := ⟨63 - acc.length, by omega⟩
      have hrd2 := HRD.out
      rw [hf] at hrd2
      simp only [readLens] at hrd2
      have HR2 := Lib.hid hrd2
      have HFF := Lib.hid hf
      clear hrd2 hf
      by_cases hfit : 8 * bs.length < q + 12
      · have hget := get_short r v bs q 12 wr hrq HQ.out HSM.out (by omega) (by have := HQ.out; omega)
        have hR5 : R = .inl 5 := by have := HR2.out; rw [if_pos hfit] at this; exact this.symm
        have HG := Lib.hid hget
        have H5 := Lib.hid hR5
        clear hget hR5 hfit
        go_wp2_with fail
        refine HG.out.mono ?_
        rintro e1 w1 ⟨rfl, hr1, hk1⟩
        go_wp2_with (go_at_call 145; refine (got_err _ _ rfl _).mono ?_; rintro e2 w2 ⟨rfl, rfl⟩)
        exact ⟨rfl, hkp.trans (hk1.mono fun _ _ e => .inl e), .inl ⟨5, by rw [HRR.out, H5.out]; rfl, rfl⟩⟩
      · have hget := get_ok r v bs q 12 wr hrq HSM.out (by omega) (by omega)
        have hV := val_lt (bitsAt bs q 12)
        rw [bitsAt_length] at hV
        have hR2 := HR2.out
        rw [if_neg hfit] at hR2
        have HG := Lib.hid hget
        have HFit := Lib.hid hfit
        clear hget hfit HR2
        generalize val (bitsAt bs q 12) = V at *
        have hand := and2047 V hV
        have hwrp : IntKind.i64.wrap ((V % 2048 : Nat) : Int) = ((V % 2048 : Nat) : Int) := IntWalk.i64_in _ (by omega)
        obtain ⟨n, hn⟩ : ∃ n, V % 2048 = n := ⟨_, rfl⟩
        obtain ⟨m', hm'⟩ : ∃ m', decide (V / 2048 = 1) = m' := ⟨_, rfl⟩
        have hmo : ((V : Int) / 2048 == 1) = m' := by rw [← hm', Bool.eq_iff_iff]; simp; omega
        rw [hn] at hand hwrp hR2
        rw [hm'] at hR2
        have hn2 : n < 2048 := by omega
        have HR3 := Lib.hid hR2
        clear hR2 hn hm' hV
        obtain ⟨A, c, rfl, hsl, _⟩ := own_sl how
        by_cases hbad : n = 0 ∨ 63 ≤ acc.length
        · have hR9 : R = .inl 9 := by have := HR3.out; rw [if_pos hbad] at this; exact this.symm
          have H9 := Lib.hid hR9
          clear hR9
          by_cases h0 : n = 0
          · subst h0
            clear hbad HR3
            go_wp2_with fail
            refine HG.out.mono ?_
            rintro e1 w1 ⟨rfl, hr1, hk1⟩
            go_wp2_with (first | (go_at_call 145; refine (got_ok _ _).mono ?_; rintro e2 w2 ⟨rfl, rfl⟩) | (go_at_call 85; ((with_reducible refine (must_false _ _).mono ?_); rintro e3 w3 ⟨rfl, rfl⟩)))
            exact ⟨rfl, hkp.trans (hk1.mono fun _ _ e => .inl e), .inl ⟨9, by rw [HRR.out, H9.out]; rfl, rfl⟩⟩
          · have hn0 : 0 < n := by omega
            have hb3 : decide ((acc.length : Int) < 63) = false := by simp; omega
            have hb4 : 63 ≤ acc.length := by omega
            clear hbad HR3 h0
            go_wp2_with fail
            refine HG.out.mono ?_
            rintro e1 w1 ⟨rfl, hr1, hk1⟩
            go_wp2_with (first | (go_at_call 145; refine (got_ok _ _).mono ?_; rintro e2 w2 ⟨rfl, rfl⟩) | (go_at_call 85; ((with_reducible refine (must_false _ _).mono ?_); rintro e3 w3 ⟨rfl, rfl⟩)))
            exact ⟨rfl, hkp.trans (hk1.mono fun _ _ e => .inl e), .inl ⟨9, by rw [HRR.out, H9.out]; rfl, rfl⟩⟩
        · have hR4 := HR3.out
          rw [if_neg hbad] at hR4
          have hb2 : 0 < n := by omega
          have hb3 : decide ((acc.length : Int) < 63) = true := by simp; omega
          have hal2 : acc.length < 63 := by omega
          have HR4 := Lib.hid hR4
          have HN0 := Lib.hid hbad
          clear hR4 hbad HR3
          go_wp2_with fail
          refine HG.out.mono ?_
          rintro e1 w1 ⟨rfl, hr1, hk1⟩
          have hkp1 := hkp.trans (hk1.mono (M' := fun k _ => k = r ∨ w.heap.size ≤ k) fun _ _ e => .inl e)
          have how1 := own_kept how hk1 (fun j o _ hj e => by have := (how.lt j hj).1; omega)
          go_wp2_with (first
            | (go_at_call 145; refine (got_ok _ _).mono ?_; rintro e2 w2 ⟨rfl, rfl⟩)
            | (go_at_call 85; ((with_reducible refine (must_true _ _).mono ?_); rintro e3 w3 ⟨rfl, rfl⟩))
            | (at_builtin; refine wpList_append_own _ rfl _ _ 137 rfl w.heap.size 3 i0 (.int .i64 0) 1 8 und137 hi hz0 hz1 hz2 rfl (by decide) _ _ _ rfl (how1.alloc _) ⟨w1.heap.size, 0, none⟩ 1 1 [.int .i64 n] rfl rfl ?c1 ?c2 ?c3 ?c4 ?c5 ?_))
          case c1 => exact cell_one_new _ _ _
          case c2 => simp [Value.oneCell']
          case c3 => unfold maxLen; omega
          case c4 => omega
          case c5 => have := hkp1.size; simp; omega
          intro v' w2 hown' hgrow _
          have hr2 : Rdr w2 r v bs (q + 12) := by
            refine ⟨(hr1.1.alloc _).grown hgrow (fun e => own_blk_ne how1 hr1.1 (by decide) e.symm), (hr1.2.alloc _).kept hgrow ?_⟩
            rcases hq : v.ownBlock with _ | j
            · exact .inl rfl
            · refine .inr (fun e => ?_)
              obtain ⟨o1, ho1, ⟨cs1, fr1, rfl⟩, _⟩ := own_isRow hr1.2 hq
              obtain ⟨o2, ho2, ⟨cs2, fr2, rfl⟩, _⟩ := own_isRow how1 e.symm
              rw [ho1] at ho2
              cases ho2
          have hlv := lenOfV_own hown'
          have HLV := Lib.hid hlv
          clear hlv
          go_wp2
          refine ⟨⟨acc ++ [n], m', q + 12, rfl, by simp, by simp; omega, by simp; omega, ?_, hr2, by have := HFit.out; omega, by simpa [i64s] using hown', (hkp1.alloc _).grown hgrow (fun j hj o _ => .inr ((how1.lt j hj).1))⟩, by rw [HLV.out]; simp [lenOfV]; omega⟩
          have := HR4.out
          rw [show f = 64 - (acc ++ [n]).length by have := HFF.out; simp; omega] at this
          exact this
    | false =>
      have hR6 : R = .inr (acc, q) := by
        have := HRD.out
        rw [← this]
        cases 64 - acc.length <;> rfl
      have hal := alignR_any r v bs q wr hrq HSM.out HQ.out
      have hpq : q + padN q ≤ 8 * bs.length := by have := HQ.out; unfold padN; omega
      have HAL := Lib.hid hal
      have HR6 := Lib.hid hR6
      have HPQ := Lib.hid hpq
      clear hal hR6 hpq
      obtain ⟨A, c, rfl, hsl, _⟩ := own_sl how
      by_cases hz : val (bitsAt bs q (padN q)) = 0
      · have hRF : RR = .inr (acc, q + padN q) := by rw [HRR.out, HR6.out]; simp only [afterAlign, if_pos hz]
        have hal := HAL.out
        simp only [if_pos hz] at hal
        have HRF := Lib.hid hRF
        have HAL2 := Lib.hid hal
        clear hRF hal hz HAL
        go_wp2_with fail
        refine HAL2.out.mono ?_
        rintro e1 w1 ⟨rfl, hr1, hk1⟩
        have how1 := own_kept how hk1 (fun j o _ hj e => by have := (how.lt j hj).1; omega)
        go_wp2_with (go_at_call 85; ((with_reducible refine (must_true _ _).mono ?_); rintro e3 w3 ⟨rfl, rfl⟩))
        go_ret2
        exact ⟨hkp.trans (hk1.mono fun _ _ e => .inl e), .inr ⟨acc, _, _, HRF.out, rfl, how1, hr1, HPQ.out⟩⟩
      · have hRF : RR = .inl 9 := by rw [HRR.out, HR6.out]; simp only [afterAlign, if_neg hz]
        have hal := HAL.out
        simp only [if_neg hz] at hal
        have HRF := Lib.hid hRF
        have HAL2 := Lib.hid hal
        clear hRF hal hz HAL
        go_wp2_with fail
        refine HAL2.out.mono ?_
        rintro e1 w1 ⟨rfl, hr1, hk1⟩
        go_wp2_with (go_at_call 85; ((with_reducible refine (must_false _ _).mono ?_); rintro e3 w3 ⟨rfl, rfl⟩))
        exact ⟨rfl, hkp.trans (hk1.mono fun _ _ e => .inl e), .inl ⟨9, HRF.out, rfl⟩⟩
end Go.Proofs.Ytchlbpfeiamieaa
