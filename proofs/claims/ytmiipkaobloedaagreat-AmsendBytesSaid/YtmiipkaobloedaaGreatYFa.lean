/- ampdu.Decode: must, got, the chunk. ampdu.Decode: errors are recovered. ampdu.Decode. -/
import Derived.Test.YtmiipkaobloedaaGreatYDa
import Derived.Test.YtmiipkaobloedaaGreatYV5
import Derived.Test.YtmiipkaobloedaaGreatYVc
import Derived.WideLaws
namespace Go.Proofs.YtmiipkaobloedaaGreat
open Go.RowKit Go.Shelf
attribute [local go_sem] Oper.semAt_some

theorem mustA_true (er : Int) (w : World) : Calls Tryz.prog 53 #[.bool true, .int .i64 er] w fun e w' => e = .returned (.tuple #[]) ∧ w = w' := by
  go_enter Tryz.func53, Tryz.ntmps53
  go_wp2
  go_end0
  exact ⟨rfl, rfl⟩
theorem mustA_false (er : Int) (w : World) : Calls Tryz.prog 53 #[.bool false, .int .i64 er] w fun e w' => e = raise er ∧ w = w' := by
  unfold raise
  go_enter Tryz.func53, Tryz.ntmps53
  go_wp2
  exact ⟨rfl, rfl, rfl⟩
theorem gotA_ok (x : Int) (w : World) : Calls Tryz.prog 75 #[.int .u64 x, .int .i64 0] w fun e w' => e = .returned (.int .u64 x) ∧ w = w' := by
  go_enter Tryz.func75, Tryz.ntmps75
  go_wp2_with (go_at_call 53; refine (mustA_true _ _).mono ?_; rintro e w' ⟨rfl, rfl⟩)
  go_ret
  exact ⟨rfl, rfl⟩
theorem gotA_err (x er : Int) (her : (er == 0) = false) (w : World) : Calls Tryz.prog 75 #[.int .u64 x, .int .i64 er] w fun e w' => e = raise er ∧ w = w' := by
  go_enter Tryz.func75, Tryz.ntmps75
  go_wp2_with (go_at_call 53; refine (mustA_false _ _).mono ?_; rintro e w' ⟨rfl, rfl⟩)
  exact ⟨rfl, rfl, rfl⟩
theorem gotsA_ok (A : Option Addr) (n c : Nat) (w : World) : Calls Tryz.prog 51 #[.slice A n c, .int .i64 0] w fun e w' => e = .returned (.slice A n c) ∧ w = w' := by
  go_enter Tryz.func51, Tryz.ntmps51
  go_wp2_with (go_at_call 53; refine (mustA_true _ _).mono ?_; rintro e w' ⟨rfl, rfl⟩)
  go_ret
  exact ⟨rfl, rfl⟩
theorem gotsA_err (A : Option Addr) (n c : Nat) (er : Int) (her : (er == 0) = false) (w : World) : Calls Tryz.prog 51 #[.slice A n c, .int .i64 er] w fun e w' => e = raise er ∧ w = w' := by
  go_enter Tryz.func51, Tryz.ntmps51
  go_wp2_with (go_at_call 53; refine (mustA_false _ _).mono ?_; rintro e w' ⟨rfl, rfl⟩)
  exact ⟨rfl, rfl, rfl⟩

/-- an owned row, where a row of another kind grows -/
theorem own_other {w w' : World} {b b' : Nat} {e e' : TypeId} {n n' : Nat} {v v' : Value} {xs xs' : List Value} (h : w.ownsRow b e 1 v n xs) (h' : w.ownsRow b' e' 1 v' n' xs') (hne : e ≠ e') (hg : w.grownBy w' v'.ownBlock) : w'.ownsRow b e 1 v n xs := by
  refine h.kept hg ?_
  rcases hv : v.ownBlock with _ | j
  · exact .inl rfl
  · refine .inr (fun e1 => ?_)
    obtain ⟨o1, ho1, ⟨cs1, fr1, rfl⟩, _⟩ := own_isRow h hv
    obtain ⟨o2, ho2, ⟨cs2, fr2, rfl⟩, _⟩ := own_isRow h' e1.symm
    rw [ho1] at ho2
    cases ho2
    exact hne rfl
/-- lengths, padding and data -/
def chunkRes (bs : List UInt8) (more : Bool) (pos : Nat) : Sum Nat (List (List UInt8)) :=
  match lenRes bs more pos with
  | .inl er => .inl er
  | .inr (ls, p) => partsRes ls (bs.drop (p / 8))
/-- what reading a chunk comes to -/
def ChunkIs (w : World) (r : Nat) (s e : Bool) (R : Sum Nat (List (List UInt8))) (en : Ending) (w' : World) : Prop :=
  Kept (fun k _ => k = r ∨ w.heap.size ≤ k) w w' ∧
  ((∃ er : Nat, R = .inl er ∧ en = raise er) ∨ (∃ ps A c, R = .inr ps ∧ en = .returned (.agg #[.bool s, .bool e, .slice A ps.length c]) ∧ PartsOut w' w.heap.size (.slice A ps.length c) ps))

set_option maxRecDepth 100000 in
set_option maxHeartbeats 8000000 in
theorem chunk_dec (r d : Nat) (v : Value) (A0 : Option Addr) (n0 c0 : Nat) (bs : List UInt8) (s e more : Bool) (pos : Nat) (w : World) (h : Rdr w r v bs pos) (hd : Blk w d 101 #[.pointer (some ⟨r, 0, none⟩), .slice A0 n0 c0])
    (hb : ∀ W, Kept (fun k _ => k = r ∨ w.heap.size ≤ k) w W → Sl W W.heap.size A0 n0 c0 (bvs bs)) (hsm : bs.length ≤ 1000000000) (hp : pos ≤ 8 * bs.length) :
    Calls Tryz.prog 54 #[.pointer (some ⟨d, 0, none⟩), .bool s, .bool e, .bool more] w (ChunkIs w r s e (chunkRes bs more pos)) := by
  obtain ⟨i0, hi, hz0, hz1, hz2⟩ := info_parts int_info
  obtain ⟨j0, hj0, hm0, hm1, hm2⟩ := info_parts sl_info
  have hrd : d ≠ r := by
    rintro rfl
    have h1 := h.1
    unfold Blk at h1 hd
    rw [h1] at hd
    injection hd with hd
    injection hd with _ h2
    exact absurd h2 (by decide)
  have hdl := hd.lt
  have hrl := h.1.lt
  have HSM := Lib.hid hsm
  have HP := Lib.hid hp
  have HB := Lib.hid hb
  clear hsm hp hb
  obtain ⟨R, hR⟩ : ∃ R, readLens bs 64 more pos [] = R := ⟨_, rfl⟩
  have hRR : lenRes bs more pos = afterAlign bs R := by rw [← hR]; rfl
  obtain ⟨CR, hCR⟩ : ∃ CR, chunkRes bs more pos = CR := ⟨_, rfl⟩
  have hCRR := hCR
  unfold chunkRes at hCRR
  rw [hCR]
  rw [hRR] at hCRR
  have HR := Lib.hid hR
  have HCR := Lib.hid hCRR
  clear hR hRR hCR hCRR
  go_enter Tryz.func54, Tryz.ntmps54
  go_wp2
  have hk0 : Kept (fun k _ => k = r ∨ w.heap.size ≤ k) w ((w.alloc (.cells #[.bool false, .bool false, .slice none 0 0] 59)).alloc (.cells #[.bool s, .bool e, .slice none 0 0] 59)) := ((Kept.refl _ w).alloc _).alloc _
  have br0 := (Blk.new w 59 #[.bool false, .bool false, .slice none 0 0]).alloc (.cells #[.bool s, .bool e, .slice none 0 0] 59)
  have bc0 := Blk.new (w.alloc (.cells #[.bool false, .bool false, .slice none 0 0] 59)) 59 #[.bool s, .bool e, .slice none 0 0]
  have h0 : Rdr ((w.alloc (.cells #[.bool false, .bool false, .slice none 0 0] 59)).alloc (.cells #[.bool s, .bool e, .slice none 0 0] 59)) r v bs pos := ⟨(h.1.alloc _).alloc _, (h.2.alloc _).alloc _⟩
  have hsz0 : w.heap.size + 2 ≤ ((w.alloc (.cells #[.bool false, .bool false, .slice none 0 0] 59)).alloc (.cells #[.bool s, .bool e, .slice none 0 0] 59)).heap.size := by simp
  rw [World.size_alloc] at bc0
  generalize (w.alloc (.cells #[.bool false, .bool false, .slice none 0 0] 59)).alloc (.cells #[.bool s, .bool e, .slice none 0 0] 59) = w0 at *
  go_loopw [3, 10, 11] (fun m l s wr => ∃ (acc : List Nat) (more' : Bool) (q : Nat), m = .bool more' ∧ s = .int .i64 (acc.sum : Nat) ∧ acc.length ≤ 63 ∧ acc.sum ≤ 2047 * acc.length ∧ (∀ x ∈ acc, x ≤ 2047) ∧ readLens bs (64 - acc.length) more' q acc = R ∧
      Rdr wr r v bs q ∧ q ≤ 8 * bs.length ∧ wr.ownsRow w0.heap.size 3 1 l acc.length (i64s acc) ∧ Kept (fun k _ => k = r ∨ w0.heap.size ≤ k) w0 wr) (fun _ l _ _ => 64 - lenOfV l)
  case atStart => exact ⟨[], more, pos, rfl, rfl, by simp, by simp, by simp, HR.out, h0, HP.out, World.ownsRow_nil _ _ _ _, Kept.refl _ _⟩
  case round =>
    obtain ⟨acc, more', q, rfl, rfl, hal, hsum, hmem, hread, hrq, hq, how, hkp⟩ := hrel
    have hkw : Kept (fun k _ => k = r ∨ w.heap.size ≤ k) w wr := hk0.trans (hkp.mono fun k _ e => e.imp id (fun e => by omega))
    have hd1 := hd.kept hkw (by rintro (e | e); exact hrd e; omega)
    have cd0 := hd1.cell 0
    simp at cd0
    have HRD := Lib.hid hread
    have HQ := Lib.hid hq
    have HMEM := Lib.hid hmem
    clear hread hq hmem
    cases more' with
    | true =>
      obtain ⟨f, hf⟩ : ∃ f, 64 - acc.length = f + 1 := ⟨63 - acc.length, by omega⟩
      have hrd2 := HRD.out
      rw [hf] at hrd2
      simp only [readLens] at hrd2
      have HR2 := Lib.hid hrd2
      have HFF := Lib.hid hf
      clear hrd2 hf
      by_cases hfit : 8 * bs.length < q + 12
      · have hget := get_short r v bs q 12 wr hrq HQ.out HSM.out (by omega) (by have := HQ.out; omega)
        have hR5 : R = .inl 5 := by have := HR2.out; rw [if_pos hfit] at this; exact this.symm
        have HG := Lib.hid hget
        have H5 := Lib.hid hR5
        clear hget hR5 hfit
        go_wp2_with fail
        refine HG.out.mono ?_
        rintro e1 w1 ⟨rfl, hr1, hk1⟩
        go_wp2_with (go_at_call 75; refine (gotA_err _ _ rfl _).mono ?_; rintro e2 w2 ⟨rfl, rfl⟩)
        exact ⟨rfl, hkw.trans (hk1.mono fun _ _ e => .inl e), .inl ⟨5, by rw [← HCR.out, H5.out]; rfl, rfl⟩⟩
      · have hget := get_ok r v bs q 12 wr hrq HSM.out (by omega) (by omega)
        have hV := val_lt (bitsAt bs q 12)
        rw [bitsAt_length] at hV
        have hR2 := HR2.out
        rw [if_neg hfit] at hR2
        have HG := Lib.hid hget
        have HFit := Lib.hid hfit
        clear hget hfit HR2
        generalize val (bitsAt bs q 12) = V at *
        have hand := and2047 V hV
        have hwrp : IntKind.i64.wrap ((V % 2048 : Nat) : Int) = ((V % 2048 : Nat) : Int) := IntWalk.i64_in _ (by omega)
        obtain ⟨n, hn⟩ : ∃ n, V % 2048 = n := ⟨_, rfl⟩
        obtain ⟨m', hm'⟩ : ∃ m', decide (V / 2048 = 1) = m' := ⟨_, rfl⟩
        have hmo : ((V : Int) / 2048 == 1) = m' := by rw [← hm', Bool.eq_iff_iff]; simp; omega
        rw [hn] at hand hwrp hR2
        rw [hm'] at hR2
        have hn2 : n < 2048 := by omega
        have HR3 := Lib.hid hR2
        clear hR2 hn hm' hV
        obtain ⟨A, c, rfl, hsl, _⟩ := own_sl how
        by_cases hbad : n = 0 ∨ 63 ≤ acc.length
        · have hR9 : R = .inl 9 := by have := HR3.out; rw [if_pos hbad] at this; exact this.symm
          have H9 := Lib.hid hR9
          clear hR9
          by_cases h00 : n = 0
          · subst h00
            clear hbad HR3
            go_wp2_with fail
            refine HG.out.mono ?_
            rintro e1 w1 ⟨rfl, hr1, hk1⟩
            go_wp2_with (first | (go_at_call 75; refine (gotA_ok _ _).mono ?_; rintro e2 w2 ⟨rfl, rfl⟩) | (go_at_call 53; ((with_reducible refine (mustA_false _ _).mono ?_); rintro e3 w3 ⟨rfl, rfl⟩)))
            exact ⟨rfl, hkw.trans (hk1.mono fun _ _ e => .inl e), .inl ⟨9, by rw [← HCR.out, H9.out]; rfl, rfl⟩⟩
          · have hn0 : 0 < n := by omega
            have hb3 : decide ((acc.length : Int) < 63) = false := by simp; omega
            have hb4 : 63 ≤ acc.length := by omega
            clear hbad HR3 h00
            go_wp2_with fail
            refine HG.out.mono ?_
            rintro e1 w1 ⟨rfl, hr1, hk1⟩
            go_wp2_with (first | (go_at_call 75; refine (gotA_ok _ _).mono ?_; rintro e2 w2 ⟨rfl, rfl⟩) | (go_at_call 53; ((with_reducible refine (mustA_false _ _).mono ?_); rintro e3 w3 ⟨rfl, rfl⟩)))
            exact ⟨rfl, hkw.trans (hk1.mono fun _ _ e => .inl e), .inl ⟨9, by rw [← HCR.out, H9.out]; rfl, rfl⟩⟩
        · have hR4 := HR3.out
          rw [if_neg hbad] at hR4
          have hb2 : 0 < n := by omega
          have hb3 : decide ((acc.length : Int) < 63) = true := by simp; omega
          have hal2 : acc.length < 63 := by omega
          have HR4 := Lib.hid hR4
          have HN0 := Lib.hid hbad
          clear hR4 hbad HR3
          go_wp2_with fail
          refine HG.out.mono ?_
          rintro e1 w1 ⟨rfl, hr1, hk1⟩
          have hkp1 := hkp.trans (hk1.mono (M' := fun k _ => k = r ∨ w0.heap.size ≤ k) fun _ _ e => .inl e)
          have how1 := own_kept how hk1 (fun j o _ hj e => by have := (how.lt j hj).1; omega)
          go_wp2_with (first
            | (go_at_call 75; refine (gotA_ok _ _).mono ?_; rintro e2 w2 ⟨rfl, rfl⟩)
            | (go_at_call 53; ((with_reducible refine (mustA_true _ _).mono ?_); rintro e3 w3 ⟨rfl, rfl⟩))
            | (at_builtin; refine wpList_append_own _ rfl _ _ 57 rfl w0.heap.size 3 i0 (.int .i64 0) 1 8 und137 hi hz0 hz1 hz2 rfl (by decide) _ _ _ rfl (how1.alloc _) ⟨w1.heap.size, 0, none⟩ 1 1 [.int .i64 n] rfl rfl ?c1 ?c2 ?c3 ?c4 ?c5 ?_))
          case c1 => exact cell_one_new _ _ _
          case c2 => simp [Value.oneCell']
          case c3 => unfold maxLen; omega
          case c4 => omega
          case c5 => have := hkp1.size; simp; omega
          intro v' w2 hown' hgrow _
          have hr2 : Rdr w2 r v bs (q + 12) := by
            refine ⟨(hr1.1.alloc _).grown hgrow (fun e => own_blk_ne how1 hr1.1 (by decide) e.symm), (hr1.2.alloc _).kept hgrow ?_⟩
            rcases hq : v.ownBlock with _ | j
            · exact .inl rfl
            · refine .inr (fun e => ?_)
              obtain ⟨o1, ho1, ⟨cs1, fr1, rfl⟩, _⟩ := own_isRow hr1.2 hq
              obtain ⟨o2, ho2, ⟨cs2, fr2, rfl⟩, _⟩ := own_isRow how1 e.symm
              rw [ho1] at ho2
              cases ho2
          have hlv := lenOfV_own hown'
          have HLV := Lib.hid hlv
          clear hlv
          go_wp2
          refine ⟨⟨acc ++ [n], m', q + 12, rfl, by simp, by simp; omega, by simp; omega, ?_, ?_, hr2, by have := HFit.out; omega, by simpa [i64s] using hown', (hkp1.alloc _).grown hgrow (fun j hj o _ => .inr ((how1.lt j hj).1))⟩, by rw [HLV.out]; simp [lenOfV]; omega⟩
          · intro x hx
            rcases List.mem_append.1 hx with hx | hx
            · exact HMEM.out x hx
            · simp at hx; omega
          · have := HR4.out
            rw [show f = 64 - (acc ++ [n]).length by have := HFF.out; simp; omega] at this
            exact this
    | false =>
      have hR6 : R = .inr (acc, q) := by
        have := HRD.out
        rw [← this]
        cases 64 - acc.length <;> rfl
      have hal' := alignR_any r v bs q wr hrq HSM.out HQ.out
      have hpq : q + padN q ≤ 8 * bs.length := by have := HQ.out; unfold padN; omega
      have HAL := Lib.hid hal'
      have HR6 := Lib.hid hR6
      have HPQ := Lib.hid hpq
      clear hal' hR6 hpq
      obtain ⟨A, c, rfl, hsl, _⟩ := own_sl how
      by_cases hz : val (bitsAt bs q (padN q)) = 0
      · have hRF : CR = partsRes acc (bs.drop ((q + padN q) / 8)) := by rw [← HCR.out, HR6.out]; simp only [afterAlign, if_pos hz]
        have hal' := HAL.out
        simp only [if_pos hz] at hal'
        have HRF := Lib.hid hRF
        have HAL2 := Lib.hid hal'
        clear hRF hal' hz HAL
        go_wp2_with fail
        refine HAL2.out.mono ?_
        rintro e1 w1 ⟨rfl, hr1, hk1⟩
        have how1 := own_kept how hk1 (fun j o _ hj e => by have := (how.lt j hj).1; omega)
        have hkp1 := hkp.trans (hk1.mono (M' := fun k _ => k = r ∨ w0.heap.size ≤ k) fun _ _ e => .inl e)
        have hkw1 := hkw.trans (hk1.mono (M' := fun k _ => k = r ∨ w.heap.size ≤ k) fun _ _ e => .inl e)
        have hb1 := HB.out w1 hkw1
        have hd1 := hd.kept hkw1 (by rintro (e | e); exact hrd e; omega)
        have bc1 := bc0.kept hkp1 (by rintro (e | e); omega; omega)
        have br1 := br0.kept hkp1 (by rintro (e | e); omega; omega)
        clear hkp hkw how hsl hrq cd0 HAL2 HR6 HRD HQ hk1
        generalize q + padN q = p at *
        go_wp2_with (go_at_call 53; ((with_reducible refine (mustA_true _ _).mono ?_); rintro e3 w3 ⟨rfl, rfl⟩))
        have cd0 := hd1.cell 0
        have cd1 := hd1.cell 1
        simp at cd0 cd1
        have hat : ∀ W, Rdr W r v bs p → Calls Tryz.prog 77 #[.pointer (some ⟨r, 0, none⟩)] W fun e w' => e = .returned (.int .i64 p) ∧ w' = W := fun W hW => (at_any r v bs p W hW).mono fun _ _ hh => ⟨hh.1, hh.2.symm⟩
        have HAT := Lib.hid hat
        have hn0 : bs.length = n0 := by simpa using hb1.len
        have hcap := hb1.cap
        have hmx := hb1.mx
        have hbsm := HSM.out
        have hpq := HPQ.out
        obtain ⟨q, hq⟩ : ∃ q, p / 8 = q := ⟨_, rfl⟩
        have hqw : IntKind.i64.wrap ((p : Int) / 8) = (q : Int) := by rw [← hq]; rw [IntWalk.i64_in _ (by omega)]; omega
        have hq1 : q ≤ n0 := by omega
        have hdata : Sl w1 w1.heap.size (if c0 = q then A0 else A0.map (·.add q)) (n0 - q) (c0 - q) (bvs (bs.drop q)) := by
          have := hb1.cut hq1
          unfold bvs at this ⊢
          rwa [List.map_drop]
        have HPR := Lib.hid (show CR = partsRes acc (bs.drop q) by rw [HRF.out, hq])
        have hdl : (bs.drop q).length = n0 - q := by rw [List.length_drop, hn0]
        have hDsm : n0 - q ≤ 1000000000 := by omega
        have HQQ := Lib.hid hq
        clear hat hq HRF hn0 hbsm hpq
        refine wp_region_still_tail 11 (by kernel_rfl) (by kernel_rfl) ?_
        simp only [List.take_succ_cons, List.take_zero, List.drop_succ_cons, List.drop_zero]
        still_step
        still_step
        still_step
        still_step
        still_step
        still_step
        still_step
        still_step
        still_call (HAT.out _ hr1)
        still_step
        still_step
        refine wpStill_nil ?_
        change wpList _ _ _ _ _ w1.drew
        generalize (if c0 = q then A0 else Option.map (fun x => x.add q) A0) = A1 at *
        generalize bs.drop q = D at *
        generalize n0 - q = m at *
        have hcl := clone_any A1 m (c0 - q) D w1.drew hdata.drew hDsm
        have HC := Lib.hid hcl
        have HDL := Lib.hid hdl
        clear hcl hdata hdl hb1 hd1 hr1 cd0 cd1 hcap hmx hqw hq1 HAT HQQ HPQ
        replace hkw1 := hkw1.drew
        replace bc1 := bc1.drew
        replace br1 := br1.drew
        replace how1 := (own_base how1 (show w.heap.size ≤ w0.heap.size by omega)).drew'
        have hw1s : w.heap.size + 2 ≤ w1.drew.heap.size := Nat.le_trans hsz0 hkp1.drew.size
        clear hkp1
        generalize w1.drew = w2 at *
        go_wp2_with fail
        refine HC.out.mono ?_
        rintro e2 w3 ⟨v3, rfl, hv3, hb3⟩
        replace hkw1 := hkw1.trans ((Kept.of_below hb3).mono (M' := fun k _ => k = r ∨ w.heap.size ≤ k) (fun j _ hj => .inr (by omega)))
        replace bc1 := bc1.below hb3 bc1.lt
        replace br1 := br1.below hb3 br1.lt
        replace how1 := own_below how1 hb3 (Nat.le_refl _)
        replace hv3 := own_base hv3 (show w.heap.size ≤ w2.heap.size by omega)
        replace hw1s : w.heap.size + 2 ≤ w3.heap.size := Nat.le_trans hw1s hb3.size
        clear HC hb3
        by_cases h5 : D.length ≤ acc.sum
        · have hPR : CR = .inl 5 := by rw [HPR.out]; unfold partsRes; rw [if_pos h5]
          have HP5 := Lib.hid hPR
          clear hPR
          obtain ⟨A2, c2, rfl, _⟩ := own_sl hv3
          have h5' : ¬ acc.sum < m := by have := HDL.out; omega
          clear h5
          go_wp2_with (go_at_call 53; ((with_reducible refine (mustA_false _ _).mono ?_); rintro e3 w3 ⟨rfl, rfl⟩))
          exact ⟨rfl, hkw1, .inl ⟨5, HP5.out, rfl⟩⟩
        · by_cases h9 : 32767 < D.length
          · have hPR : CR = .inl 9 := by rw [HPR.out]; unfold partsRes; rw [if_neg h5, if_pos h9]
            have HP9 := Lib.hid hPR
            clear hPR
            obtain ⟨A2, c2, rfl, _⟩ := own_sl hv3
            have h5' : acc.sum < m := by have := HDL.out; omega
            have h9' : decide ((m : Int) ≤ 32767) = false := by have := HDL.out; simp; omega
            clear h5 h9
            go_wp2_with (first | (go_at_call 53; ((with_reducible refine (mustA_false _ _).mono ?_); rintro e3 w3 ⟨rfl, rfl⟩)) | (go_at_call 53; ((with_reducible refine (mustA_true _ _).mono ?_); rintro e3 w3 ⟨rfl, rfl⟩)))
            exact ⟨rfl, hkw1, .inl ⟨9, HP9.out, rfl⟩⟩
          · have hPR : CR = .inr (splitBy acc D) := by rw [HPR.out]; unfold partsRes; rw [if_neg h5, if_neg h9]
            have HPS := Lib.hid hPR
            clear hPR HPR
            have h5' : acc.sum < m := by have := HDL.out; omega
            have h9' : decide ((m : Int) ≤ 32767) = true := by have := HDL.out; simp; omega
            have hm9 : m ≤ 32767 := by have := HDL.out; omega
            obtain ⟨g, cap, rfl, hgl, hgl2⟩ := hv3.form (by omega)
            have hcap2 : m ≤ cap ∧ cap ≤ 9223372036854775807 := by
              obtain ⟨A', c', e', hs', _⟩ := own_sl hv3
              injection e' with _ _ e3
              subst e3
              exact ⟨hs'.cap, hs'.mx⟩
            clear h5 h9
            go_wp2_with (go_at_call 53; ((with_reducible refine (mustA_true _ _).mono ?_); rintro e3 w3 ⟨rfl, rfl⟩))
            clear h9'
            go_loopw [14, 80] (fun vd i wr => ∃ (k : Nat) (vo : Value), k ≤ acc.length ∧ i = .int .i64 k ∧ vd = .slice (some ⟨g, (acc.take k).sum, none⟩) (m - (acc.take k).sum) (cap - (acc.take k).sum) ∧ Blk wr (w.heap.size + 1) 59 #[.bool s, .bool e, vo] ∧ Blk wr w.heap.size 59 #[.bool false, .bool false, .slice none 0 0] ∧
                wr.ownsRow w.heap.size 31 1 vo k (partVals g acc k) ∧ wr.ownsRow w.heap.size 5 1 (.slice (some ⟨g, 0, none⟩) m cap) m (bvs D) ∧ wr.ownsRow w.heap.size 3 1 (.slice A acc.length c) acc.length (i64s acc) ∧ Kept (fun k _ => k = r ∨ w.heap.size ≤ k) w wr ∧ w.heap.size + 2 ≤ wr.heap.size) (fun _ i _ => acc.length - (intOf i).toNat)
            case atStart => exact ⟨0, _, Nat.zero_le _, rfl, by simp, bc1, br1, World.ownsRow_nil _ _ _ _, hv3, how1, hkw1, hw1s⟩
            case round =>
              clear hv3 bc1 br1 how1 hkw1 hw1s
              obtain ⟨k, vo, hk, rfl, rfl, bc, br, hvo, hvd, hvl, hkw, hws⟩ := hrel
              have hsk := sum_take_le acc k
              by_cases hlt : k < acc.length
              · obtain ⟨n, hn⟩ : ∃ n, acc[k]? = some n := ⟨_, List.getElem?_eq_getElem hlt⟩
                have hn2 := HMEM.out n (List.mem_of_getElem? hn)
                have hsn := sum_take acc k n hn
                have hsk1 := sum_take_le acc (k + 1)
                obtain ⟨adl, u, rfl, _, hu, hcu⟩ := (own_sl' hvl).get hlt
                have hu' : u = .int .i64 (n : Int) := by
                  unfold i64s at hu
                  rw [List.getElem?_map, hn] at hu
                  simpa using hu.symm
                subst hu'
                have hpv := partVals_succ g acc k n hn
                generalize (List.take k acc).sum = S at *
                have HSN := Lib.hid hsn
                have HPV := Lib.hid hpv
                have hSn : S + n ≤ acc.sum := by omega
                clear hsn hpv hu hn
                have hne : ¬ cap - S = n := by omega
                have hle1 : n ≤ m - S := by omega
                have hle2 : n ≤ cap - S := by omega
                obtain ⟨Ao, co, rfl, hso, _⟩ := own_sl hvo
                have c2 := bc.cell 2
                have f2 := bc.frozen 2
                simp at c2
                have c2a := (World.cell?_alloc_lt wr (.cells #[.slice (some ⟨g, S, none⟩) n n] 31) ⟨w.heap.size + 1, 2, none⟩ bc.lt).trans c2
                go_upto_region 17 with (fail)
                go_cut [] from 84 to 92 (fun wx => ∃ (A5 : Option Addr) (c5 : Nat), Blk wx (w.heap.size + 1) 59 #[.bool s, .bool e, .slice A5 (k + 1) c5] ∧ Blk wx w.heap.size 59 #[.bool false, .bool false, .slice none 0 0] ∧ wx.ownsRow w.heap.size 31 1 (.slice A5 (k + 1) c5) (k + 1) (partVals g acc (k + 1)) ∧
                  wx.ownsRow w.heap.size 5 1 (.slice (some ⟨g, 0, none⟩) m cap) m (bvs D) ∧ wx.ownsRow w.heap.size 3 1 (.slice (some adl) acc.length c) acc.length (i64s acc) ∧ Kept (fun k _ => k = r ∨ w.heap.size ≤ k) w wx ∧ w.heap.size + 2 ≤ wx.heap.size)
                case first =>
                  go_region_law ((refine step_append_sl _ (by rfl) _ _ 49 (by rfl) w.heap.size 31 j0 (.slice none 0 0) 24 und22 hj0 hm0 hm1 hm2 rfl (.slice Ao k co) k (partVals g acc k) (by rfl) (World.ownsRow.drew' (hvo.alloc (.cells #[.slice (some ⟨g, S, none⟩) n n] 31))) (wr.alloc (.cells #[.slice (some ⟨g, S, none⟩) n n] 31)).heap.size (some ⟨wr.heap.size, 0, none⟩) 1 1 [.slice (some ⟨g, S, none⟩) n n] (by rfl) (sl_new1 wr (.slice (some ⟨g, S, none⟩) n n) 31) (by simp [Value.oneCell']) (by unfold maxLen; omega) (by omega) (by simp; omega) ?_; intro v5 w5 hown5 hgrow5 _; obtain ⟨A5, c5, rfl, hs5, _⟩ := own_sl hown5; have hG5 := (bc.alloc (.cells #[.slice (some ⟨g, S, none⟩) n n] 31)).drew.grown hgrow5 (fun e => own_blk_ne hvo bc (by decide) e.symm); have q2 := hG5.cell 2; have q3 := hG5.frozen 2; simp at q2))
                  all_goals
                    go_wp2_with fail
                    go_meet
                    have hvo4 := World.ownsRow.drew' (hvo.alloc (.cells #[.slice (some ⟨g, S, none⟩) n n] 31))
                    have hvd5 := own_other (World.ownsRow.drew' (hvd.alloc (.cells #[.slice (some ⟨g, S, none⟩) n n] 31))) hvo4 (by decide) hgrow5
                    have hvl5 := own_other (World.ownsRow.drew' (hvl.alloc (.cells #[.slice (some ⟨g, S, none⟩) n n] 31))) hvo4 (by decide) hgrow5
                    have hbr5 := (br.alloc (.cells #[.slice (some ⟨g, S, none⟩) n n] 31)).drew.grown hgrow5 (fun e => own_blk_ne hvo br (by decide) e.symm)
                    refine ⟨A5, c5, by simpa using hG5.set_ 2 (.slice A5 (k + 1) c5), hbr5.far (by simp) _, ?_, own_store (i := 2) hvd5 hG5 (by decide) _, own_store (i := 2) hvl5 hG5 (by decide) _,
                      ((hkw.alloc _).drew.grown hgrow5 (fun j hj o _ => .inr ((hvo.lt j hj).1))).setCell (p := ⟨w.heap.size + 1, 2, none⟩) (fun _ _ => .inr (by simp)) _, ?_⟩
                    · rw [HPV.out]
                      exact own_store (i := 2) hown5 hG5 (by decide) _
                    · have := hgrow5.size
                      simp at this ⊢
                      omega
                case rest =>
                  obtain ⟨A5, c5, bc5, br5, hvo5, hvd5, hvl5, hkw5, hws5⟩ := hcut
                  go_wp2
                  go_roundw
                  case rel => exact ⟨k + 1, _, by omega, by go_num, by rw [HSN.out, Nat.sub_sub, Nat.sub_sub], bc5, br5, hvo5, hvd5, hvl5, hkw5, hws5⟩
                  case measure => simp [intOf]; omega
              · obtain rfl : k = acc.length := by omega
                have hS : (acc.take acc.length).sum = acc.sum := by rw [List.take_of_length_le (Nat.le_refl _)]
                rw [hS]
                obtain ⟨Ao, co, rfl, hso, _⟩ := own_sl hvo
                have c2 := bc.cell 2
                have f2 := bc.frozen 2
                simp at c2
                go_wp2_with (at_builtin; refine wpList_append_own _ rfl _ _ 49 rfl w.heap.size 31 j0 (.slice none 0 0) 1 24 und22 hj0 hm0 hm1 hm2 rfl (by decide) _ _ _ rfl (hvo.alloc _) ⟨wr.heap.size, 0, none⟩ 1 1 [.slice (some ⟨g, acc.sum, none⟩) (m - acc.sum) (cap - acc.sum)] rfl rfl ?c1 ?c2 ?c3 ?c4 ?c5 ?_)
                case c1 => exact cell_one_new _ _ _
                case c2 => simp [Value.oneCell']
                case c3 => unfold maxLen; omega
                case c4 => omega
                case c5 => simp; omega
                intro v' w4 hown' hgrow _
                obtain ⟨A5, c5, rfl, hs5, _⟩ := own_sl hown'
                have hvd4 := own_other (hvd.alloc (.cells #[.slice (some ⟨g, acc.sum, none⟩) (m - acc.sum) (cap - acc.sum)] 31)) (hvo.alloc _) (by decide) hgrow
                have bc4 := (bc.alloc (.cells #[.slice (some ⟨g, acc.sum, none⟩) (m - acc.sum) (cap - acc.sum)] 31)).grown hgrow (fun e => own_blk_ne hvo bc (by decide) e.symm)
                have br4 := (br.alloc (.cells #[.slice (some ⟨g, acc.sum, none⟩) (m - acc.sum) (cap - acc.sum)] 31)).grown hgrow (fun e => own_blk_ne hvo br (by decide) e.symm)
                have hkw4 := (hkw.alloc (.cells #[.slice (some ⟨g, acc.sum, none⟩) (m - acc.sum) (cap - acc.sum)] 31)).grown hgrow (fun j hj o _ => .inr ((hvo.lt j hj).1))
                have hvo5 := own_store (i := 2) hown' bc4 (by decide) (.slice A5 (acc.length + 1) c5)
                have hvd5 := own_store (i := 2) hvd4 bc4 (by decide) (.slice A5 (acc.length + 1) c5)
                have br5 := br4.far (p := ⟨w.heap.size + 1, 2, none⟩) (by simp) (.slice A5 (acc.length + 1) c5)
                have bc5 := bc4.set_ 2 (.slice A5 (acc.length + 1) c5)
                have hkw5 := hkw4.setCell (p := ⟨w.heap.size + 1, 2, none⟩) (fun _ _ => .inr (by simp)) (.slice A5 (acc.length + 1) c5)
                have k2 := bc4.cell 2
                have k3 := bc4.frozen 2
                have k0 := bc4.cell 0
                have k1 := bc4.cell 1
                have g0 := br4.cell 0
                have g1 := br4.cell 1
                have g2 := br4.cell 2
                have g3 := br4.frozen 0
                have g4 := br4.frozen 1
                have g5 := br4.frozen 2
                simp at bc5 k2 k0 k1 g0 g1 g2
                clear hvo hvd hvl bc br hkw hvd4 hown' hgrow hs5 hso c2 f2 hkw4 br4
                go_wp2_with fail
                have br6 := ((br5.set_ 0 (.bool s)).set_ 1 (.bool e)).set_ 2 (.slice A5 (acc.length + 1) c5)
                simp at br6
                have own6 : ∀ {ty : TypeId} {vv : Value} {nn : Nat} {xs : List Value}, (w4.setCell ⟨w.heap.size + 1, 2, none⟩ (.slice A5 (acc.length + 1) c5)).ownsRow w.heap.size ty 1 vv nn xs → ty ≠ 59 →
                    ((((w4.setCell ⟨w.heap.size + 1, 2, none⟩ (.slice A5 (acc.length + 1) c5)).setCell ⟨w.heap.size, 0, none⟩ (.bool s)).setCell ⟨w.heap.size, 1, none⟩ (.bool e)).setCell ⟨w.heap.size, 2, none⟩ (.slice A5 (acc.length + 1) c5)).ownsRow w.heap.size ty 1 vv nn xs := fun hh ht =>
                  own_store (i := 2) (own_store (i := 1) (own_store (i := 0) hh br5 ht _) (br5.set_ 0 (.bool s)) ht _) ((br5.set_ 0 (.bool s)).set_ 1 (.bool e)) ht _
                have hkw6 := ((hkw5.setCell (p := ⟨w.heap.size, 0, none⟩) (fun _ _ => .inr (Nat.le_refl _)) (.bool s)).setCell (p := ⟨w.heap.size, 1, none⟩) (fun _ _ => .inr (Nat.le_refl _)) (.bool e)).setCell (p := ⟨w.heap.size, 2, none⟩) (fun _ _ => .inr (Nat.le_refl _)) (.slice A5 (acc.length + 1) c5)
                have q0 := br6.cell 0
                have q1 := br6.cell 1
                have q2 := br6.cell 2
                simp at q0 q1 q2
                have hspl := splitBy_length acc D
                refine ⟨rfl, .agg #[.bool s, .bool e, .slice A5 (acc.length + 1) c5], by simp [results, Tryz.results54, go_sem, q0, q1, q2], hkw6, .inr ⟨splitBy acc D, A5, c5, HPS.out, by rw [hspl], ?_⟩⟩
                rw [hspl]
                refine ⟨partVals g acc acc.length ++ [.slice (some ⟨g, acc.sum, none⟩) (m - acc.sum) (cap - acc.sum)], g, cap, D, ?_, ?_, ?_⟩
                · rw [hspl]; exact own6 hvo5 (by decide)
                · rw [HDL.out]; exact own6 hvd5 (by decide)
                · intro i p hi
                  have hil : i < acc.length + 1 := by
                    have := (List.getElem?_eq_some_iff.1 hi).1
                    rw [hspl] at this
                    exact this
                  have hpl : (partVals g acc acc.length).length = acc.length := by simp [partVals]
                  by_cases hik : i < acc.length
                  · obtain ⟨n, hn⟩ : ∃ n, acc[i]? = some n := ⟨_, List.getElem?_eq_getElem hik⟩
                    rw [splitBy_get acc D i n hn] at hi
                    injection hi with hi
                    have hsn := sum_take acc i n hn
                    have hsl := sum_take_le acc (i + 1)
                    have hlen : p.length = n := by rw [← hi, List.length_take, List.length_drop, HDL.out]; omega
                    refine ⟨(acc.take i).sum, n, ?_, by omega, by omega, by rw [hlen]; exact hi.symm⟩
                    rw [List.getElem?_append_left (by omega), hlen]
                    simp [partVals, hik, (List.getElem?_eq_some_iff.1 hn).2]
                  · obtain rfl : i = acc.length := by omega
                    rw [splitBy_last] at hi
                    injection hi with hi
                    have hlen : p.length = m - acc.sum := by rw [← hi, List.length_drop, HDL.out]
                    refine ⟨acc.sum, cap - acc.sum, ?_, by omega, by omega, ?_⟩
                    · rw [List.getElem?_append_right (by omega), hpl, hlen]; simp
                    · rw [hlen, ← hi, List.take_of_length_le (by rw [List.length_drop, HDL.out]; omega)]
      · have hRF : CR = .inl 9 := by rw [← HCR.out, HR6.out]; simp only [afterAlign, if_neg hz]
        have hal' := HAL.out
        simp only [if_neg hz] at hal'
        have HRF := Lib.hid hRF
        have HAL2 := Lib.hid hal'
        clear hRF hal' hz HAL
        go_wp2_with fail
        refine HAL2.out.mono ?_
        rintro e1 w1 ⟨rfl, hr1, hk1⟩
        go_wp2_with (go_at_call 53; ((with_reducible refine (mustA_false _ _).mono ?_); rintro e3 w3 ⟨rfl, rfl⟩))
        exact ⟨rfl, hkw.trans (hk1.mono fun _ _ e => .inl e), .inl ⟨9, HRF.out, rfl⟩⟩
end Go.Proofs.YtmiipkaobloedaaGreat
namespace Go.Proofs.YtmiipkaobloedaaGreat
open Go.RowKit

theorem dec1A_idle (bp be : Nat) (w : World) :
    CallsD Tryz.prog 49 #[.pointer (some ⟨bp, 0, none⟩), .pointer (some ⟨be, 0, none⟩)] .returning w fun e u' w' => e = .returned (.tuple #[]) ∧ u' = .returning ∧ w = w' := by
  have hnn := run_eql_nil_nil (P := Tryz.prog) w (t := 20) (by kernel_rfl)
  refine callsD_of_wpS Tryz.func49 rfl fun c₀ cs hu => ?_
  apply wpS_seq
  apply wpS_region
  generalize hQ : Exit.thenS _ _ = Q
  simp [wpOpsS, go_sem, recoverD, hu, Tryz.ntmps49]
  subst hQ
  simp only [Exit.thenS]
  refine wpS_of_wp ?_
  change Code.wp _ _ (defPost Tryz.prog Tryz.f49 c₀ cs (c₀ :: cs) _) { tmps := #[.pointer (some ⟨bp, 0, none⟩), .pointer (some ⟨be, 0, none⟩), .nilIface, undef, undef, .nilIface, undef, undef, undef, undef, undef, undef, undef, undef, undef, undef, undef, undef], defers := [] } w
  go_wp2
  cases c₀
  simp_all [defPost, bodyPostS, results, Tryz.results49]

set_option maxHeartbeats 800000 in
set_option maxRecDepth 100000 in
theorem dec1A_caught (bp be : Nat) (er : Int) (v0 v1 v2 v3 v4 v5 v6 v7 v8 : Value) (w : World) (hp : Blk w bp 61 #[v0, v1, v2, v3, v4, v5, v6, v7]) (he : Blk w be 26 #[v8]) (hne : be ≠ bp) :
    CallsD Tryz.prog 49 #[.pointer (some ⟨bp, 0, none⟩), .pointer (some ⟨be, 0, none⟩)] (.panicking [{ v := .iface 26 (.int .i64 er), recovered := false }]) w fun e u' w' => e = .returned (.tuple #[]) ∧ u' = .panicking [{ v := .iface 26 (.int .i64 er), recovered := true }] ∧
      Blk w' bp 61 #[.int .i64 0, .bool false, .bool false, .bool false, .int .i64 0, .bool false, .bool false, .slice none 0 0] ∧ Blk w' be 26 #[.int .i64 er] ∧ Kept (fun k _ => k = bp ∨ k = be) w w' := by
  have hnn := run_eql_held_nil (P := Tryz.prog) w 20 26 (.int .i64 er) (by kernel_rfl)
  have hta := assert_errno er w
  refine callsD_of_wpS Tryz.func49 rfl fun c₀ cs hu => ?_
  apply wpS_seq
  apply wpS_region
  generalize hQ : Exit.thenS _ _ = Q
  simp [wpOpsS, go_sem, recoverD, hu, Tryz.ntmps49]
  subst hQ
  simp only [Exit.thenS]
  refine wpS_of_wp ?_
  change Code.wp _ _ (defPost Tryz.prog Tryz.f49 c₀ cs _ _) { tmps := #[.pointer (some ⟨bp, 0, none⟩), .pointer (some ⟨be, 0, none⟩), .iface 26 (.int .i64 er), undef, undef, .iface 26 (.int .i64 er), undef, undef, undef, undef, undef, undef, undef, undef, undef, undef, undef, undef], defers := [] } w
  obtain ⟨c0, c1, c2, c3, c4, c5, c6, c7⟩ := hp.eight
  have f0 := hp.frozen 0
  have f1 := hp.frozen 1
  have f2 := hp.frozen 2
  have f3 := hp.frozen 3
  have f4 := hp.frozen 4
  have f5 := hp.frozen 5
  have f6 := hp.frozen 6
  have f7 := hp.frozen 7
  have c8 := he.cell 0
  have f8 := he.frozen 0
  simp at c8
  go_wp2
  refine ⟨rfl, _, rfl, .tuple #[], by simp [results, Tryz.results49], rfl, rfl, ?_, ?_, ?_⟩
  · exact (hp.put8 (.int .i64 0) (.bool false) (.bool false) (.bool false) (.int .i64 0) (.bool false) (.bool false) (.slice none 0 0)).far (p := ⟨be, 0, none⟩) (fun e => hne e.symm) (.int .i64 er)
  · have := ((((((((he.far (p := ⟨bp, 0, none⟩) hne (.int .i64 0)).far (p := ⟨bp, 1, none⟩) hne (.bool false)).far (p := ⟨bp, 2, none⟩) hne (.bool false)).far (p := ⟨bp, 3, none⟩) hne (.bool false)).far (p := ⟨bp, 4, none⟩) hne (.int .i64 0)).far (p := ⟨bp, 5, none⟩) hne (.bool false)).far (p := ⟨bp, 6, none⟩) hne (.bool false)).far (p := ⟨bp, 7, none⟩) hne (.slice none 0 0)).set_ 0 (.int .i64 er)
    simpa using this
  · exact (((((((((Kept.refl _ w).setCell (p := ⟨bp, 0, none⟩) (fun _ _ => .inl rfl) _).setCell (p := ⟨bp, 1, none⟩) (fun _ _ => .inl rfl) _).setCell (p := ⟨bp, 2, none⟩) (fun _ _ => .inl rfl) _).setCell (p := ⟨bp, 3, none⟩) (fun _ _ => .inl rfl) _).setCell (p := ⟨bp, 4, none⟩) (fun _ _ => .inl rfl) _).setCell (p := ⟨bp, 5, none⟩) (fun _ _ => .inl rfl) _).setCell (p := ⟨bp, 6, none⟩) (fun _ _ => .inl rfl) _).setCell (p := ⟨bp, 7, none⟩) (fun _ _ => .inl rfl) _).setCell (p := ⟨be, 0, none⟩) (fun _ _ => .inr rfl) _

/-- a PDU -/
structure APdu where
  sn : Nat
  po : Bool
  sg : Bool
  la : Bool
  off : Nat
  s : Bool
  e : Bool
  ps : List (List UInt8)
/-- what Decode computes -/
def decA (bs : List UInt8) : Sum Nat APdu :=
  if bs.length < 2 then .inl 5
  else if val (bitsAt bs 0 1) ≠ 1 then .inl 9
  else if val (bitsAt bs 1 1) = 1 then
    if bs.length < 4 then .inl 5
    else match chunkRes bs (decide (val (bitsAt bs 5 1) = 1)) 32 with
      | .inl er => .inl er
      | .inr ps => if validA (val (bitsAt bs 6 10) : Nat) true (decide (val (bitsAt bs 16 1) = 1)) (val (bitsAt bs 17 15) : Nat) ps = true then
          .inr ⟨val (bitsAt bs 6 10), decide (val (bitsAt bs 2 1) = 1), true, decide (val (bitsAt bs 16 1) = 1), val (bitsAt bs 17 15), decide (val (bitsAt bs 3 1) = 0), decide (val (bitsAt bs 4 1) = 0), ps⟩ else .inl 9
  else match chunkRes bs (decide (val (bitsAt bs 5 1) = 1)) 16 with
      | .inl er => .inl er
      | .inr ps => if validA (val (bitsAt bs 6 10) : Nat) false false (0 : Nat) ps = true then
          .inr ⟨val (bitsAt bs 6 10), decide (val (bitsAt bs 2 1) = 1), false, false, 0, decide (val (bitsAt bs 3 1) = 0), decide (val (bitsAt bs 4 1) = 0), ps⟩ else .inl 9
/-- what Decode comes to -/
def DecAIs (w : World) (R : Sum Nat APdu) (e : Ending) (w' : World) : Prop :=
  Below w.heap.size w w' ∧
  ((∃ er : Nat, R = .inl er ∧ e = .returned (.tuple #[.agg (apdu 0 false false false 0 false false none 0 0), .int .i64 er])) ∨
   (∃ (p : APdu) (A : Option Addr) (c : Nat), R = .inr p ∧ e = .returned (.tuple #[.agg (apdu p.sn p.po p.sg p.la p.off p.s p.e A p.ps.length c), .int .i64 0]) ∧ PartsOut w' w.heap.size (.slice A p.ps.length c) p.ps))

/-- an error is raised: it is recovered, the results are set -/
theorem decA_raise (w W : World) (R : Sum Nat APdu) (er : Nat) (T : Array Value) (v0 v1 v2 v3 v4 v5 v6 v7 v8 : Value) (h2 : T[2]? = some (.pointer (some ⟨w.heap.size, 0, none⟩))) (h3 : T[3]? = some (.pointer (some ⟨w.heap.size + 1, 0, none⟩)))
    (hp : Blk W w.heap.size 61 #[v0, v1, v2, v3, v4, v5, v6, v7]) (he : Blk W (w.heap.size + 1) 26 #[v8]) (hB : Below w.heap.size w W) (hR : R = .inl er) :
    bodyPostD Tryz.prog Tryz.f20 (DecAIs w R) (.panic [{ v := .iface 26 (.int .i64 er), recovered := false }]) { tmps := T, defers := [{ target := .fn (.func 49) #[.pointer (some ⟨w.heap.size, 0, none⟩), .pointer (some ⟨w.heap.size + 1, 0, none⟩)], args := #[] }] } W := by
  refine leaves_cons (f := 49) (args := #[.pointer (some ⟨w.heap.size, 0, none⟩), .pointer (some ⟨w.heap.size + 1, 0, none⟩)]) (by simp) (by simp [go_sem]) ?_
  refine (dec1A_caught _ _ (er : Int) _ _ _ _ _ _ _ _ _ W hp he (by omega)).mono ?_
  rintro e u' w'' ⟨rfl, rfl, hp', he', hk⟩
  obtain ⟨c0, c1, c2, c3, c4, c5, c6, c7⟩ := hp'.eight
  have c8 := he'.cell 0
  simp at c8
  refine ⟨.tuple #[.agg (apdu 0 false false false 0 false false none 0 0), .int .i64 er], ?_, hB.trans (hk.below (fun k _ e => by omega) hB.size), .inl ⟨er, hR, rfl⟩⟩
  simp [results, Tryz.results20, go_sem, h2, h3, c0, c1, c2, c3, c4, c5, c6, c7, c8, apdu]

/-- the PDU stands: it is returned -/
theorem decA_done (w W : World) (R : Sum Nat APdu) (T : Array Value) (p : APdu) (A : Option Addr) (c Z : Nat) (h2 : T[2]? = some (.pointer (some ⟨w.heap.size, 0, none⟩))) (h3 : T[3]? = some (.pointer (some ⟨w.heap.size + 1, 0, none⟩)))
    (hp : Blk W w.heap.size 61 (apdu p.sn p.po p.sg p.la p.off p.s p.e A p.ps.length c)) (he : Blk W (w.heap.size + 1) 26 #[.int .i64 0]) (hB : Below w.heap.size w W) (hR : R = .inr p) (hpo : PartsOut W Z (.slice A p.ps.length c) p.ps) (hZ : w.heap.size ≤ Z) :
    bodyPostD Tryz.prog Tryz.f20 (DecAIs w R) .ret { tmps := T, defers := [{ target := .fn (.func 49) #[.pointer (some ⟨w.heap.size, 0, none⟩), .pointer (some ⟨w.heap.size + 1, 0, none⟩)], args := #[] }] } W := by
  refine leaves_cons (f := 49) (args := #[.pointer (some ⟨w.heap.size, 0, none⟩), .pointer (some ⟨w.heap.size + 1, 0, none⟩)]) (by simp) (by simp [go_sem]) ?_
  refine (dec1A_idle _ _ _).mono ?_
  rintro e9 u9 w9 ⟨rfl, rfl, rfl⟩
  unfold apdu at hp
  obtain ⟨c0, c1, c2, c3, c4, c5, c6, c7⟩ := hp.eight
  have c8 := he.cell 0
  simp at c8
  refine ⟨.tuple #[.agg (apdu p.sn p.po p.sg p.la p.off p.s p.e A p.ps.length c), .int .i64 0], ?_, hB, .inr ⟨p, A, c, hR, rfl, hpo.base hZ⟩⟩
  simp [results, Tryz.results20, go_sem, h2, h3, c0, c1, c2, c3, c4, c5, c6, c7, c8, apdu]
end Go.Proofs.YtmiipkaobloedaaGreat
namespace Go.Proofs.YtmiipkaobloedaaGreat
open Go.RowKit Go.Shelf
attribute [local go_sem] Oper.semAt_some

theorem chunkRes_props {bs : List UInt8} {mo : Bool} {q : Nat} {ps : List (List UInt8)} (h : chunkRes bs mo q = .inr ps) : ps.length ≤ 64 ∧ ∀ p ∈ ps, p.length ≤ 32767 := by
  unfold chunkRes at h
  cases hl : lenRes bs mo q with
  | inl er => rw [hl] at h; cases h
  | inr lp =>
    obtain ⟨ls, p⟩ := lp
    rw [hl] at h
    obtain ⟨hlp1, hlp2⟩ := lenRes_props hl
    simp only at h
    generalize bs.drop (p / 8) = D at h
    unfold partsRes at h
    split at h
    · cases h
    · split at h
      · cases h
      · injection h with h
        subst h
        refine ⟨by rw [splitBy_length]; omega, fun x hx => ?_⟩
        obtain ⟨i, hi⟩ := List.mem_iff_getElem?.1 hx
        by_cases hil : i < ls.length
        · rw [splitBy_get ls D i _ (List.getElem?_eq_getElem hil)] at hi
          injection hi with hi
          rw [← hi, List.length_take, List.length_drop]
          omega
        · have hil2 : i = ls.length := by
            have := (List.getElem?_eq_some_iff.1 hi).1
            rw [splitBy_length] at this
            omega
          rw [hil2, splitBy_last] at hi
          injection hi with hi
          rw [← hi, List.length_drop]
          omega
theorem Blk.far8 {w : World} {g' t : Nat} {cs : Array Value} (h : Blk w g' t cs) {g : Nat} (hne : g' ≠ g) (u0 u1 u2 u3 u4 u5 u6 u7 : Value) : Blk ((((((((w.setCell ⟨g, 0, none⟩ u0).setCell ⟨g, 1, none⟩ u1).setCell ⟨g, 2, none⟩ u2).setCell ⟨g, 3, none⟩ u3).setCell ⟨g, 4, none⟩ u4).setCell ⟨g, 5, none⟩ u5).setCell ⟨g, 6, none⟩ u6).setCell ⟨g, 7, none⟩ u7) g' t cs :=
  (((((((h.far (p := ⟨g, 0, none⟩) hne u0).far (p := ⟨g, 1, none⟩) hne u1).far (p := ⟨g, 2, none⟩) hne u2).far (p := ⟨g, 3, none⟩) hne u3).far (p := ⟨g, 4, none⟩) hne u4).far (p := ⟨g, 5, none⟩) hne u5).far (p := ⟨g, 6, none⟩) hne u6).far (p := ⟨g, 7, none⟩) hne u7
theorem own_put8 {w : World} {base : Nat} {e t : TypeId} {v : Value} {n g : Nat} {xs : List Value} {cs : Array Value} (h : w.ownsRow base e 1 v n xs) (b : Blk w g t cs) (hne : e ≠ t) (u0 u1 u2 u3 u4 u5 u6 u7 : Value) : (((((((((w.setCell ⟨g, 0, none⟩ u0).setCell ⟨g, 1, none⟩ u1).setCell ⟨g, 2, none⟩ u2).setCell ⟨g, 3, none⟩ u3).setCell ⟨g, 4, none⟩ u4).setCell ⟨g, 5, none⟩ u5).setCell ⟨g, 6, none⟩ u6).setCell ⟨g, 7, none⟩ u7)).ownsRow base e 1 v n xs := by
  have b0 := b.set_ 0 u0
  have b1 := b0.set_ 1 u1
  have b2 := b1.set_ 2 u2
  have b3 := b2.set_ 3 u3
  have b4 := b3.set_ 4 u4
  have b5 := b4.set_ 5 u5
  have b6 := b5.set_ 6 u6
  exact own_store (i := 7) (own_store (i := 6) (own_store (i := 5) (own_store (i := 4) (own_store (i := 3) (own_store (i := 2) (own_store (i := 1) (own_store (i := 0) h b hne _) b0 hne _) b1 hne _) b2 hne _) b3 hne _) b4 hne _) b5 hne _) b6 hne _

set_option maxRecDepth 100000 in
set_option maxHeartbeats 8000000 in
theorem decodeA_any (A : Option Addr) (n c : Nat) (bs : List UInt8) (w : World) (h : Sl w w.heap.size A n c (bvs bs)) (hsm : n ≤ 1000000) :
    Calls Tryz.prog 20 #[.slice A n c] w (DecAIs w (decA bs)) := by
  have hlen : bs.length = n := by simpa using h.len
  obtain ⟨R, hR⟩ : ∃ R, decA bs = R := ⟨_, rfl⟩
  rw [hR]
  have HR := Lib.hid hR
  clear hR
  have hB0 := ((Below.refl w.heap.size w).alloc (Nat.le_refl _) (.cells (apdu 0 false false false 0 false false none 0 0) 61)).alloc (by simp) (.cells #[.int .i64 0] 26)
  have hs0 := (h.below hB0).more hB0.size
  have hnr := newReader_any A n c bs _ hs0 (by omega)
  have bp0 := (Blk.new w 61 (apdu 0 false false false 0 false false none 0 0)).alloc (.cells #[.int .i64 0] 26)
  have be0 := Blk.new (w.alloc (.cells (apdu 0 false false false 0 false false none 0 0) 61)) 26 #[.int .i64 0]
  rw [World.size_alloc] at be0
  unfold apdu at hnr hB0 bp0 be0
  have HNR := Lib.hid hnr
  have HB0 := Lib.hid hB0
  have HSM := Lib.hid hsm
  have HLEN := Lib.hid hlen
  clear hnr hB0 hs0 hsm hlen
  go_enter_defers Tryz.func20, Tryz.ntmps20
  go_wp2_with fail
  refine HNR.out.mono ?_
  rintro e1 w1 ⟨r, v, rfl, hr, hrd, hb1⟩
  have bp1 := bp0.below hb1 bp0.lt
  have be1 := be0.below hb1 be0.lt
  have hB1 : Below w.heap.size w w1 := HB0.out.trans (hb1.mono HB0.out.size)
  have hrsz : w.heap.size + 1 < r := by simp at hr; omega
  have hrl := hrd.1.lt
  clear bp0 be0 hb1 hr HNR HB0
  have hW2 : ∃ w2, (w1.alloc (.cells #[.pointer (some ⟨r, 0, none⟩), .slice A n c] 101)).alloc (.cells #[.int .i64 1, .int .i64 1, .int .i64 1, .int .i64 1, .int .i64 1, .int .i64 1, .int .i64 10] 3) = w2 := ⟨_, rfl⟩
  obtain ⟨w2, hw2⟩ := hW2
  have bp2 := (bp1.alloc (.cells #[.pointer (some ⟨r, 0, none⟩), .slice A n c] 101)).alloc (.cells #[.int .i64 1, .int .i64 1, .int .i64 1, .int .i64 1, .int .i64 1, .int .i64 1, .int .i64 10] 3)
  have be2 := (be1.alloc (.cells #[.pointer (some ⟨r, 0, none⟩), .slice A n c] 101)).alloc (.cells #[.int .i64 1, .int .i64 1, .int .i64 1, .int .i64 1, .int .i64 1, .int .i64 1, .int .i64 10] 3)
  rw [hw2] at bp2 be2
  have hB2 : Below w.heap.size w w2 := by rw [← hw2]; exact (hB1.alloc hB1.size _).alloc (by have := hB1.size; simp; omega) _
  have hrd2 : Rdr w2 r v bs 0 := by rw [← hw2]; exact ⟨(hrd.1.alloc _).alloc _, (hrd.2.alloc _).alloc _⟩
  have hd2 : Blk w2 w1.heap.size 101 #[.pointer (some ⟨r, 0, none⟩), .slice A n c] := by rw [← hw2]; exact (Blk.new w1 _ _).alloc _
  have hb2 : Blk w2 (w1.heap.size + 1) 3 (i64s [1, 1, 1, 1, 1, 1, 10]).toArray := by
    rw [← hw2]
    have := Blk.new (w1.alloc (.cells #[.pointer (some ⟨r, 0, none⟩), .slice A n c] 101)) 3 #[.int .i64 1, .int .i64 1, .int .i64 1, .int .i64 1, .int .i64 1, .int .i64 1, .int .i64 10]
    rw [World.size_alloc] at this
    exact this
  go_wp2_with fail
  clear hrd bp1 be1 hB1 hw2
  have hdr : w1.heap.size ≠ r := by omega
  generalize w1.heap.size = d at *
  have hbl : bs.length ≤ 1000000 := by have := HLEN.out; have := HSM.out; omega
  by_cases h2 : bs.length < 2
  · have hR5 : R = .inl 5 := by rw [← HR.out]; unfold decA; rw [if_pos h2]
    have HR5 := Lib.hid hR5
    clear hR5
    have hga := getAll_short r (d + 1) v bs 0 [1, 1, 1, 1, 1, 1, 10] w2 hrd2 (by omega) (by simp) (by simp) hb2 (by omega) (by simp; omega)
    simp only [List.length_cons, List.length_nil, Nat.zero_add, Nat.reduceAdd] at hga
    refine hga.mono ?_
    rintro e3 w3 ⟨rfl, hrd3, hk3⟩
    have hB3 : Below w.heap.size w w3 := hB2.trans (hk3.below (B := w.heap.size) (fun k _ e => by have := hB2.size; omega) hB2.size)
    have bp3 := bp2.kept hk3 (by have := bp2.lt; omega)
    have be3 := be2.kept hk3 (by have := be2.lt; omega)
    clear hga h2 hbl
    go_wp2_with (go_at_call 51; ((with_reducible refine (gotsA_err _ _ _ _ rfl _).mono ?_); rintro e4 w4 ⟨rfl, rfl⟩))
    exact decA_raise w _ R 5 _ _ _ _ _ _ _ _ _ _ rfl rfl bp3 be3 hB3 HR5.out
  · have hga := getAll_ok r (d + 1) v bs 0 [1, 1, 1, 1, 1, 1, 10] w2 hrd2 (by omega) (by simp) (by simp) hb2 (by simp; omega)
    simp only [List.length_cons, List.length_nil, Nat.zero_add, Nat.reduceAdd] at hga
    refine hga.mono ?_
    rintro e3 w3 ⟨vo, rfl, hvo, hrd3, hk3⟩
    have hB3 : Below w.heap.size w w3 := hB2.trans (hk3.below (B := w.heap.size) (fun k _ e => by have := hB2.size; omega) hB2.size)
    have bp3 := bp2.kept hk3 (by have := bp2.lt; omega)
    have be3 := be2.kept hk3 (by have := be2.lt; omega)
    have hd3 := hd2.kept hk3 (by have := hd2.lt; omega)
    have hR1 := HR.out
    unfold decA at hR1
    rw [if_neg h2] at hR1
    have hgv : getAll bs 0 [1, 1, 1, 1, 1, 1, 10] = [val (bitsAt bs 0 1), val (bitsAt bs 1 1), val (bitsAt bs 2 1), val (bitsAt bs 3 1), val (bitsAt bs 4 1), val (bitsAt bs 5 1), val (bitsAt bs 6 10)] := rfl
    rw [hgv] at hvo
    have hx6 : val (bitsAt bs 6 10) < 1024 := by have := val_lt (bitsAt bs 6 10); rw [bitsAt_length] at this; exact this
    have hd2l := hd2.lt
    have hbl2 : 2 ≤ bs.length := by omega
    clear hgv hga hb2 hrd2 hB2 bp2 be2 hd2 hk3 h2
    simp only [List.length_cons, List.length_nil, Nat.zero_add, Nat.reduceAdd] at hvo
    rw [show (0 : Nat) + [1, 1, 1, 1, 1, 1, 10].sum = 16 from rfl] at hrd3
    generalize val (bitsAt bs 0 1) = x0 at *
    generalize val (bitsAt bs 1 1) = x1 at *
    generalize val (bitsAt bs 2 1) = x2 at *
    generalize val (bitsAt bs 3 1) = x3 at *
    generalize val (bitsAt bs 4 1) = x4 at *
    generalize val (bitsAt bs 5 1) = x5 at *
    generalize val (bitsAt bs 6 10) = x6 at *
    obtain ⟨gl, capl, rfl, hgl, hgl2⟩ := hvo.form (by omega)
    have l0 := hvo.cellAt 0 (by omega)
    have l1 := hvo.cellAt 1 (by omega)
    have l2 := hvo.cellAt 2 (by omega)
    have l6 := hvo.cellAt 6 (by omega)
    simp [u64s] at l0 l1 l2 l6
    by_cases h0 : x0 = 1
    · subst h0
      simp only [ne_eq, not_true, if_false] at hR1
      have HR1 := Lib.hid hR1
      clear hR1
      have hwx : IntKind.i64.wrap (x6 : Int) = x6 := IntWalk.i64_in _ (by omega)
      have bq1 : ((x1 : Int) == 1) = decide (x1 = 1) := by rw [Bool.eq_iff_iff]; simp; omega
      have bq2 : ((x2 : Int) == 1) = decide (x2 = 1) := by rw [Bool.eq_iff_iff]; simp; omega
      obtain ⟨sg, hsg⟩ : ∃ sg, decide (x1 = 1) = sg := ⟨_, rfl⟩
      obtain ⟨po, hpo⟩ : ∃ po, decide (x2 = 1) = po := ⟨_, rfl⟩
      rw [hsg] at bq1
      rw [hpo] at bq2 HR1
      have l1' : w3.drew.cell? ⟨gl, 1, none⟩ = some (.int .u64 x1) := l1
      have l2' : w3.drew.cell? ⟨gl, 2, none⟩ = some (.int .u64 x2) := l2
      have l6' : w3.drew.cell? ⟨gl, 6, none⟩ = some (.int .u64 x6) := l6
      have HSG := Lib.hid hsg
      clear hsg hpo
      obtain ⟨p0, p1, p2, p3, p4, p5, p6, p7⟩ := bp3.eight
      have f0 := bp3.frozen 0
      have f1 := bp3.frozen 1
      have f2 := bp3.frozen 2
      have f3 := bp3.frozen 3
      have f4 := bp3.frozen 4
      have f5 := bp3.frozen 5
      have f6 := bp3.frozen 6
      have f7 := bp3.frozen 7
      go_wp2_with (first | (go_at_call 51; ((with_reducible refine (gotsA_ok _ _ _ _).mono ?_); rintro e4 w4 ⟨rfl, rfl⟩)) | (go_at_call 53; ((with_reducible refine (mustA_true _ _).mono ?_); rintro e4 w4 ⟨rfl, rfl⟩)))
      refine wp_region_noPanic ?_
      go_region
      refine NoPanic.normal ?_
      have bp4 := (bp3.put8 (.int .i64 x6) (.bool po) (.bool sg) (.bool false) (.int .i64 0) (.bool false) (.bool false) (.slice none 0 0)).drew
      have be4 := (be3.far8 (g := w.heap.size) (by omega) (.int .i64 x6) (.bool po) (.bool sg) (.bool false) (.int .i64 0) (.bool false) (.bool false) (.slice none 0 0)).drew
      have hd4 := (hd3.far8 (g := w.heap.size) (by omega) (.int .i64 x6) (.bool po) (.bool sg) (.bool false) (.int .i64 0) (.bool false) (.bool false) (.slice none 0 0)).drew
      have hvo4 := World.ownsRow.drew' (own_put8 hvo bp3 (by decide) (.int .i64 x6) (.bool po) (.bool sg) (.bool false) (.int .i64 0) (.bool false) (.bool false) (.slice none 0 0))
      have hB4 := (below_put8 hB3 (Nat.le_refl _) (.int .i64 x6) (.bool po) (.bool sg) (.bool false) (.int .i64 0) (.bool false) (.bool false) (.slice none 0 0)).drew
      have hrd4a := (hrd3.1.far8 (g := w.heap.size) (by omega) (.int .i64 x6) (.bool po) (.bool sg) (.bool false) (.int .i64 0) (.bool false) (.bool false) (.slice none 0 0)).drew
      have hrd4b := World.ownsRow.drew' (own_put8 hrd3.2 bp3 (by decide) (.int .i64 x6) (.bool po) (.bool sg) (.bool false) (.int .i64 0) (.bool false) (.bool false) (.slice none 0 0))
      clear p0 p1 p2 p3 p4 p5 p6 p7 f0 f1 f2 f3 f4 f5 f6 f7 bp3 be3 hd3 hvo hB3 hrd3 l0 l1 l2 l6 l1' l2' l6' bq1 bq2 hwx
      generalize ((((((((w3.setCell ⟨w.heap.size, 0, none⟩ (.int .i64 x6)).setCell ⟨w.heap.size, 1, none⟩ (.bool po)).setCell ⟨w.heap.size, 2, none⟩ (.bool sg)).setCell ⟨w.heap.size, 3, none⟩ (.bool false)).setCell ⟨w.heap.size, 4, none⟩ (.int .i64 0)).setCell ⟨w.heap.size, 5, none⟩ (.bool false)).setCell ⟨w.heap.size, 6, none⟩ (.bool false)).setCell ⟨w.heap.size, 7, none⟩ (.slice none 0 0)).drew = w4 at *
      have hrd4 : Rdr w4 r v bs 16 := ⟨hrd4a, hrd4b⟩
      clear hrd4a hrd4b
      replace hvo4 := own_base hvo4 (show w.heap.size + 2 ≤ _ by omega)
      obtain ⟨p0, p1, p2, p3, p4, p5, p6, p7⟩ := bp4.eight
      go_upto_if 41 with (fail)
      go_cut [6] from 42 to 60 (fun s6 wx => ∃ (la : Bool) (off q : Nat), Blk wx w.heap.size 61 #[.int .i64 x6, .bool po, .bool sg, .bool la, .int .i64 off, .bool false, .bool false, .slice none 0 0] ∧ Blk wx (w.heap.size + 1) 26 #[.int .i64 0] ∧ Blk wx d 101 #[.pointer (some ⟨r, 0, none⟩), .slice A n c] ∧
        wx.ownsRow (w.heap.size + 2) 107 1 (.slice (some ⟨gl, 0, none⟩) 7 capl) 7 (u64s [1, x1, x2, x3, x4, x5, x6]) ∧ Rdr wx r v bs q ∧ Below w.heap.size w wx ∧ q ≤ 8 * bs.length ∧ off ≤ 32767 ∧
        R = (match chunkRes bs (decide (x5 = 1)) q with | .inl er => .inl er | .inr ps => if validA (x6 : Nat) sg la (off : Nat) ps = true then .inr ⟨x6, po, sg, la, off, decide (x3 = 0), decide (x4 = 0), ps⟩ else .inl 9))
      case first =>
        have cd0 := hd4.cell 0
        simp at cd0
        by_cases hx1 : x1 = 1
        · have hsg := HSG.out
          rw [decide_eq_true hx1] at hsg
          have hR2 := HR1.out
          rw [if_pos hx1] at hR2
          subst hsg
          have bp5 := bp4.alloc (.cells #[.int .i64 1, .int .i64 15] 3)
          have be5 := be4.alloc (.cells #[.int .i64 1, .int .i64 15] 3)
          have hd5 := hd4.alloc (.cells #[.int .i64 1, .int .i64 15] 3)
          have hvo5 := hvo4.alloc (.cells #[.int .i64 1, .int .i64 15] 3)
          have hB5 := hB4.alloc hB4.size (.cells #[.int .i64 1, .int .i64 15] 3)
          have hrd5 : Rdr (w4.alloc (.cells #[.int .i64 1, .int .i64 15] 3)) r v bs 16 := ⟨hrd4.1.alloc _, hrd4.2.alloc _⟩
          have hb5 : Blk (w4.alloc (.cells #[.int .i64 1, .int .i64 15] 3)) w4.heap.size 3 (i64s [1, 15]).toArray := Blk.new w4 3 #[.int .i64 1, .int .i64 15]
          by_cases h4 : bs.length < 4
          · rw [if_pos h4] at hR2
            have HR2 := Lib.hid hR2.symm
            have hga := getAll_short r w4.heap.size v bs 16 [1, 15] _ hrd5 (by omega) (by simp) (by simp) hb5 (by omega) (by simp; omega)
            simp only [List.length_cons, List.length_nil, Nat.zero_add, Nat.reduceAdd] at hga
            have HGA := Lib.hid hga
            clear hga hR2 h4 hx1
            go_wp2_with fail
            refine HGA.out.mono ?_
            rintro e6 w6 ⟨rfl, hrd6, hk6⟩
            have hB6 : Below w.heap.size w w6 := hB5.trans (hk6.below (B := w.heap.size) (fun k _ e => by have := hB5.size; omega) hB5.size)
            have bp6 := bp5.kept hk6 (by have := bp5.lt; omega)
            have be6 := be5.kept hk6 (by have := be5.lt; omega)
            go_wp2_with (go_at_call 51; ((with_reducible refine (gotsA_err _ _ _ _ rfl _).mono ?_); rintro e7 w7 ⟨rfl, rfl⟩))
            exact decA_raise w _ R 5 _ _ _ _ _ _ _ _ _ _ rfl rfl bp6 be6 hB6 HR2.out
          · rw [if_neg h4] at hR2
            have hga := getAll_ok r w4.heap.size v bs 16 [1, 15] _ hrd5 (by omega) (by simp) (by simp) hb5 (by simp; omega)
            simp only [List.length_cons, List.length_nil, Nat.zero_add, Nat.reduceAdd] at hga
            have HGA := Lib.hid hga
            have HR2 := Lib.hid hR2.symm
            have hbl4 : 4 ≤ bs.length := by omega
            clear hga hR2 h4 hx1
            go_wp2_with fail
            refine HGA.out.mono ?_
            rintro e6 w6 ⟨vm, rfl, hvm, hrd6, hk6⟩
            have hB6 : Below w.heap.size w w6 := hB5.trans (hk6.below (B := w.heap.size) (fun k _ e => by have := hB5.size; omega) hB5.size)
            have bp6 := bp5.kept hk6 (by have := bp5.lt; omega)
            have be6 := be5.kept hk6 (by have := be5.lt; omega)
            have hd6 := hd5.kept hk6 (by have := hd5.lt; omega)
            have hvo6 := own_kept hvo5 hk6 (fun j o _ hj e => by have := (hvo5.lt j hj); obtain rfl : gl = j := (by simpa [Value.ownBlock] using hj); omega)
            have hgv : getAll bs 16 [1, 15] = [val (bitsAt bs 16 1), val (bitsAt bs 17 15)] := rfl
            rw [hgv] at hvm
            have hx8 : val (bitsAt bs 17 15) < 32768 := by have := val_lt (bitsAt bs 17 15); rw [bitsAt_length] at this; exact this
            have hR3 := HR2.out
            clear hgv HR2
            simp only [List.length_cons, List.length_nil, Nat.zero_add, Nat.reduceAdd] at hvm
            rw [show (16 : Nat) + [1, 15].sum = 32 from rfl] at hrd6
            generalize val (bitsAt bs 16 1) = y0 at *
            generalize val (bitsAt bs 17 15) = y1 at *
            have HR3 := Lib.hid hR3
            clear hR3
            obtain ⟨gm, capm, rfl, hgm, hgm2⟩ := hvm.form (by omega)
            have m0 := hvm.cellAt 0 (by omega)
            have m1 := hvm.cellAt 1 (by omega)
            simp [u64s] at m0 m1
            have m0' : w6.drew.cell? ⟨gm, 0, none⟩ = some (.int .u64 y0) := m0
            have m1' : w6.drew.cell? ⟨gm, 1, none⟩ = some (.int .u64 y1) := m1
            have hwy : IntKind.i64.wrap (y1 : Int) = y1 := IntWalk.i64_in _ (by omega)
            have bqy : ((y0 : Int) == 1) = decide (y0 = 1) := by rw [Bool.eq_iff_iff]; simp; omega
            obtain ⟨la, hla⟩ : ∃ la, decide (y0 = 1) = la := ⟨_, rfl⟩
            rw [hla] at bqy HR3
            clear hla
            obtain ⟨z0, z1, z2, z3, z4, z5, z6, z7⟩ := bp6.eight
            have f3 := bp6.frozen 3
            have f4 := bp6.frozen 4
            go_wp2_with (go_at_call 51; ((with_reducible refine (gotsA_ok _ _ _ _).mono ?_); rintro e7 w7 ⟨rfl, rfl⟩))
            refine wp_region_noPanic ?_
            go_region
            refine NoPanic.normal ?_
            go_wp2_with fail
            go_meet
            have bp7 := ((bp6.set_ 3 (.bool la)).set_ 4 (.int .i64 y1)).drew
            simp at bp7
            refine ⟨la, y1, 32, bp7, ((be6.far (p := ⟨w.heap.size, 3, none⟩) (by simp) (.bool la)).far (p := ⟨w.heap.size, 4, none⟩) (by simp) (.int .i64 y1)).drew, ((hd6.far (p := ⟨w.heap.size, 3, none⟩) (by simp; omega) (.bool la)).far (p := ⟨w.heap.size, 4, none⟩) (by simp; omega) (.int .i64 y1)).drew,
              World.ownsRow.drew' (own_store (i := 4) (own_store (i := 3) hvo6 bp6 (by decide) (.bool la)) (bp6.set_ 3 (.bool la)) (by decide) _),
              ⟨((hrd6.1.far (p := ⟨w.heap.size, 3, none⟩) (by simp; omega) (.bool la)).far (p := ⟨w.heap.size, 4, none⟩) (by simp; omega) (.int .i64 y1)).drew, World.ownsRow.drew' (own_store (i := 4) (own_store (i := 3) hrd6.2 bp6 (by decide) (.bool la)) (bp6.set_ 3 (.bool la)) (by decide) _)⟩,
              ((hB6.setCell (p := ⟨w.heap.size, 3, none⟩) (by simp) (.bool la)).setCell (p := ⟨w.heap.size, 4, none⟩) (by simp) (.int .i64 y1)).drew, by omega, by omega, HR3.out⟩
        · have hsg := HSG.out
          rw [decide_eq_false hx1] at hsg
          have hR2 := HR1.out
          rw [if_neg hx1] at hR2
          subst hsg
          have HR2 := Lib.hid hR2.symm
          clear hR2 hx1
          go_wp2_with fail
          go_meet
          exact ⟨false, 0, 16, bp4, be4, hd4, hvo4, hrd4, hB4, by omega, by omega, HR2.out⟩
      case rest =>
        obtain ⟨la, off, q, bp5, be5, hd5, hvo5, hrd5, hB5, hq, hoff, hR5⟩ := hcut
        have HR5 := Lib.hid hR5
        clear hR5 HR1 HR p0 p1 p2 p3 p4 p5 p6 p7 bp4 be4 hd4 hvo4 hrd4 hB4
        have l3 := hvo5.cellAt 3 (by omega)
        have l4 := hvo5.cellAt 4 (by omega)
        have l5 := hvo5.cellAt 5 (by omega)
        simp [u64s] at l3 l4 l5
        have b3 : ((x3 : Int) == 0) = decide (x3 = 0) := by rw [Bool.eq_iff_iff]; simp
        have b4 : ((x4 : Int) == 0) = decide (x4 = 0) := by rw [Bool.eq_iff_iff]; simp
        have b5 : ((x5 : Int) == 1) = decide (x5 = 1) := by rw [Bool.eq_iff_iff]; simp; omega
        generalize decide (x3 = 0) = s at *
        generalize decide (x4 = 0) = e at *
        generalize decide (x5 = 1) = mo at *
        have hch := chunk_dec r d v A n c bs s e mo q wc.drew hrd5 hd5.drew (fun W hW => (h.below (hB5.drew.trans (hW.below (B := w.heap.size) (fun k _ e => by have := hB5.size; simp at e; omega) hB5.size))).more (by have := hB5.size; have := hW.size; simp at this; omega)) (by omega) hq
        have HCH := Lib.hid hch
        clear hch
        go_wp2_with fail
        refine wp_region_still_tail 13 (by kernel_rfl) (by kernel_rfl) ?_
        simp only [List.take_succ_cons, List.take_zero, List.drop_succ_cons, List.drop_zero]
        still_step
        still_step
        still_step
        still_step
        still_step
        still_step
        still_step
        still_step
        still_step
        still_step
        still_step
        still_step
        still_step
        refine wpStill_nil ?_
        change wpList _ _ _ _ _ wc.drew
        replace bp5 := bp5.drew
        replace be5 := be5.drew
        replace hB5 := hB5.drew
        clear hd5 hvo5 hrd5 l3 l4 l5 b3 b4 b5
        have hwc : w.heap.size + 1 < wc.drew.heap.size := be5.lt
        generalize wc.drew = w5 at *
        go_wp2_with fail
        refine HCH.out.mono ?_
        rintro e6 w6 ⟨hk6, h6⟩
        have hB6 : Below w.heap.size w w6 := hB5.trans (hk6.below (B := w.heap.size) (fun k _ e => by omega) hB5.size)
        have bp6 := bp5.kept hk6 (by omega)
        have be6 := be5.kept hk6 (by omega)
        rcases h6 with ⟨er, hl, rfl⟩ | ⟨ps, Ao, co, hl, rfl, hpo⟩
        · have HRE := Lib.hid (show R = .inl er by rw [HR5.out, hl])
          clear hl
          go_wp2
          exact decA_raise w _ R er _ _ _ _ _ _ _ _ _ _ rfl rfl bp6 be6 hB6 HRE.out
        · have hRp : R = if validA (x6 : Nat) sg la (off : Nat) ps = true then .inr ⟨x6, po, sg, la, off, s, e, ps⟩ else .inl 9 := by rw [HR5.out, hl]
          have HRP := Lib.hid hRp
          have hcp := Lib.hid (chunkRes_props hl)
          clear hRp hl HR5 HCH hB5 bp5 be5
          obtain ⟨z0, z1, z2, z3, z4, z5, z6, z7⟩ := bp6.eight
          have f5 := bp6.frozen 5
          have f6 := bp6.frozen 6
          have f7 := bp6.frozen 7
          have bp7 := ((bp6.set_ 5 (.bool s)).set_ 6 (.bool e)).set_ 7 (.slice Ao ps.length co)
          have be7 := ((be6.far (p := ⟨w.heap.size, 5, none⟩) (by simp) (.bool s)).far (p := ⟨w.heap.size, 6, none⟩) (by simp) (.bool e)).far (p := ⟨w.heap.size, 7, none⟩) (by simp) (.slice Ao ps.length co)
          have hB7 := ((hB6.setCell (p := ⟨w.heap.size, 5, none⟩) (by simp) (.bool s)).setCell (p := ⟨w.heap.size, 6, none⟩) (by simp) (.bool e)).setCell (p := ⟨w.heap.size, 7, none⟩) (by simp) (.slice Ao ps.length co)
          have hpo7 : PartsOut (((w6.setCell ⟨w.heap.size, 5, none⟩ (.bool s)).setCell ⟨w.heap.size, 6, none⟩ (.bool e)).setCell ⟨w.heap.size, 7, none⟩ (.slice Ao ps.length co)) w5.heap.size (.slice Ao ps.length co) ps :=
            hpo.kept (fun k o hk ho => by
              rw [Below.heap_setCell _ _ _ k (by simp; omega), Below.heap_setCell _ _ _ k (by simp; omega), Below.heap_setCell _ _ _ k (by simp; omega)]
              exact ho)
          simp at bp7
          obtain ⟨Ax, cx, vsx, hvx, hslx⟩ := hpo7.sls
          injection hvx with hx1 _ hx2
          subst hx1 hx2
          have hva := validA_any x6 po sg la off s e Ao ps.length co vsx ps _ hslx (by have := hcp.out.1; omega) (fun p hp => by have := hcp.out.2 p hp; omega)
          unfold apdu at hva
          have HVA := Lib.hid hva
          have HPO := Lib.hid hpo7
          clear hva hslx
          go_wp2_with fail
          refine HVA.out.mono ?_
          rintro e8 w8 ⟨rfl, hb8⟩
          have bp8 := bp7.below hb8 bp7.lt
          have be8 := be7.below hb8 be7.lt
          have hB8 := hB7.trans (hb8.mono hB7.size)
          by_cases hvv : validA (x6 : Nat) sg la (off : Nat) ps = true
          · have HR9 := Lib.hid (show R = .inr ⟨x6, po, sg, la, off, s, e, ps⟩ by rw [HRP.out, if_pos hvv])
            rw [hvv]
            clear hvv
            have hpo8 : PartsOut w8 w5.heap.size (.slice Ao ps.length co) ps := HPO.out.kept (fun k o _ ho => (hb8.block k (lt_of_heap ho)).trans ho)
            have HPO8 := Lib.hid hpo8
            clear hpo8
            clear z0 z1 z2 z3 z4 z5 z6 z7 f5 f6 f7
            obtain ⟨z0, z1, z2, z3, z4, z5, z6, z7⟩ := bp8.eight
            have f0 := bp8.frozen 0
            have f1 := bp8.frozen 1
            have f2 := bp8.frozen 2
            have f3 := bp8.frozen 3
            have f4 := bp8.frozen 4
            have f5 := bp8.frozen 5
            have f6 := bp8.frozen 6
            have f7 := bp8.frozen 7
            have f8 := be8.frozen 0
            have z8 := be8.cell 0
            simp at z8
            go_wp2_with (go_at_call 53; ((with_reducible refine (mustA_true _ _).mono ?_); rintro e9 w9 ⟨rfl, rfl⟩))
            have bp9 := (bp8.put8 (.int .i64 x6) (.bool po) (.bool sg) (.bool la) (.int .i64 off) (.bool s) (.bool e) (.slice Ao ps.length co)).far (p := ⟨w.heap.size + 1, 0, none⟩) (by simp) (.int .i64 0)
            have be9 := (be8.far8 (g := w.heap.size) (by omega) (.int .i64 x6) (.bool po) (.bool sg) (.bool la) (.int .i64 off) (.bool s) (.bool e) (.slice Ao ps.length co)).set_ 0 (.int .i64 0)
            have hB9 := (below_put8 hB8 (Nat.le_refl _) (.int .i64 x6) (.bool po) (.bool sg) (.bool la) (.int .i64 off) (.bool s) (.bool e) (.slice Ao ps.length co)).setCell (p := ⟨w.heap.size + 1, 0, none⟩) (by simp) (.int .i64 0)
            refine decA_done w _ R _ ⟨x6, po, sg, la, off, s, e, ps⟩ Ao co w5.heap.size rfl rfl bp9 be9 hB9 HR9.out (HPO8.out.kept (fun k o hk ho => ?_)) (by omega)
            have hs := fun (X : World) (g i : Nat) (u : Value) (hg : g < w5.heap.size) => Below.heap_setCell X ⟨g, i, none⟩ u k (by simp; omega)
            rw [hs _ _ _ _ (by omega), hs _ _ _ _ (by omega), hs _ _ _ _ (by omega), hs _ _ _ _ (by omega), hs _ _ _ _ (by omega), hs _ _ _ _ (by omega), hs _ _ _ _ (by omega), hs _ _ _ _ (by omega), hs _ _ _ _ (by omega)]
            exact ho
          · have HR9 := Lib.hid (show R = .inl 9 by rw [HRP.out, if_neg hvv])
            rw [Bool.not_eq_true] at hvv
            rw [hvv]
            clear hvv
            go_wp2_with (go_at_call 53; ((with_reducible refine (mustA_false _ _).mono ?_); rintro e9 w9 ⟨rfl, rfl⟩))
            exact decA_raise w _ R 9 _ _ _ _ _ _ _ _ _ _ rfl rfl bp8 be8 hB8 HR9.out
    · rw [if_pos h0] at hR1
      have HR1 := Lib.hid hR1.symm
      have hx0 : ((x0 : Int) == 1) = false := by simp; omega
      clear hR1 h0
      go_wp2_with (first | (go_at_call 51; ((with_reducible refine (gotsA_ok _ _ _ _).mono ?_); rintro e4 w4 ⟨rfl, rfl⟩)) | (go_at_call 53; ((with_reducible refine (mustA_false _ _).mono ?_); rintro e4 w4 ⟨rfl, rfl⟩)))
      exact decA_raise w _ R 9 _ _ _ _ _ _ _ _ _ _ rfl rfl bp3 be3 hB3 HR1.out
end Go.Proofs.YtmiipkaobloedaaGreat
