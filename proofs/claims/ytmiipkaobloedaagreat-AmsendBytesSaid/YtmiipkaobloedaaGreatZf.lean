/- missing: the ranges of a PDU that a report gives as missing. Status: an entry beyond the acknowledged PDUs. Status: the state between two rounds of its loop; an acknowledged PDU in memory; Status of a failed transmitter, or of an invalid report. -/
import Derived.Test.YtmiipkaobloedaaGreatYAx
import Derived.Test.YtmiipkaobloedaaGreatZa
import Derived.Test.YtmiipkaobloedaaGreatZb
import Derived.Test.YtmiipkaobloedaaGreatZd
import Derived.Test.YtmiipkaobloedaaGreatZe
import Derived.Deep.RegionWith
import Derived.BigRegion
import Derived.BigQuiet
namespace Go.Proofs.YtmiipkaobloedaaGreat
open Go.RowKit Go.Shelf
attribute [local go_sem] Oper.semAt_some
theorem nkR_nat (y : Nk) (h : 0 ≤ (nkR y).1 ∧ 0 ≤ (nkR y).2) : (nkR y).1 = ((nkRange y).1 : Int) ∧ (nkR y).2 = ((nkRange y).2 : Int) := by
  unfold nkR nkRange at *
  split
  · rename_i hp
    simp only [hp, if_true] at h
    dsimp only
    omega
  · dsimp only
    omega
/-- what the rounds of missing have gathered -/
def msTo (x : Ou) (fl : List Nk) (k : Nat) : List (Nat × Nat) := (fl.take k).foldl (missStep (sizeO x)) []
theorem msTo_zero (x : Ou) (fl : List Nk) : msTo x fl 0 = [] := by simp [msTo]
theorem msTo_succ (x : Ou) (fl : List Nk) (k : Nat) (y : Nk) (h : fl[k]? = some y) : msTo x fl (k + 1) = missStep (sizeO x) (msTo x fl k) y := by
  unfold msTo
  rw [List.take_add_one, h]
  simp
theorem msTo_all (x : Ou) (nks : List Nk) : msTo x (nks.filter (nkHas x.sn)) (nks.filter (nkHas x.sn)).length = missP nks x := by
  unfold msTo missP nkHas
  rw [List.take_length]
theorem mergeP_len (l : List (Nat × Nat)) (x : Nat × Nat) : (mergeP l x).length ≤ l.length + 1 := by
  unfold mergeP
  cases hl : l.getLast? with
  | none => simp
  | some y =>
    dsimp only
    split
    · simp
    · simp
theorem mergeP_lt {l : List (Nat × Nat)} {x : Nat × Nat} {m : Nat} (h : ∀ r ∈ l, r.2 < m) (hx : x.2 < m) : ∀ r ∈ mergeP l x, r.2 < m := by
  unfold mergeP
  cases hl : l.getLast? with
  | none => simpa using hx
  | some y =>
    dsimp only
    split
    · intro r hr
      rcases List.mem_append.1 hr with hr | hr
      · exact h r (List.dropLast_subset l hr)
      · simp at hr; subst hr; exact hx
    · intro r hr
      rcases List.mem_append.1 hr with hr | hr
      · exact h r hr
      · simp at hr; subst hr; exact hx
theorem msTo_ok (x : Ou) (fl : List Nk) (hs : sizeO x ≤ 100000) : ∀ k, (msTo x fl k).length ≤ k ∧ ∀ r ∈ msTo x fl k, r.2 < 1000000
  | 0 => by rw [msTo_zero]; simp
  | k + 1 => by
    obtain ⟨h1, h2⟩ := msTo_ok x fl hs k
    cases hy : fl[k]? with
    | none =>
      have e : msTo x fl (k + 1) = msTo x fl k := by unfold msTo; rw [List.take_add_one, hy]; simp
      rw [e]
      exact ⟨by omega, h2⟩
    | some y =>
      rw [msTo_succ x fl k y hy]
      unfold missStep
      split
      · exact ⟨by omega, h2⟩
      · exact ⟨by have := mergeP_len (msTo x fl k) ((nkRange y).1, min (nkRange y).2 (sizeO x - 1)); omega, mergeP_lt h2 (by dsimp only; omega)⟩
/-- the memory between two rounds of missing: lc: the cell of the list -/
structure MsI (wc : World) (lc : Nat) (x : Ou) (fl : List Nk) (k : Nat) (W : World) : Prop where
  row : ∃ v, W.ownsRow wc.heap.size 93 2 v (msTo x fl k).length (spC (msTo x fl k)) ∧ Blk W lc 80 #[v]
  kp : Kept (fun j _ => j = lc) wc W
theorem MsI.far {wc : World} {lc : Nat} {x : Ou} {fl : List Nk} (hlc : lc < wc.heap.size) : FarJ wc.heap.size (MsI wc lc x fl) := by
  refine ⟨fun k A B row hs hg hr => ?_, fun k A B hs hb => ?_⟩
  · obtain ⟨⟨v, hv, hb⟩, hk⟩ := hs
    refine ⟨⟨v, hv.kept hg ?_, hb.grown hg ?_⟩, hk.grown hg (fun j e o ho => ?_)⟩
    · rcases hv.2 with ⟨rfl, _⟩ | ⟨q, cap, cur, rfl, h1, h2, _⟩
      · exact .inl rfl
      · refine .inr (fun e => ?_)
        obtain ⟨h3, o, h4, h5⟩ := hr q e.symm
        rw [h2] at h4
        cases h4
        cases h5
    · intro e
      have := (hr lc e.symm).1
      omega
    · have h1 := (hr j e).1
      have h2 := (Array.getElem?_eq_some_iff.1 ho).1
      omega
  · obtain ⟨⟨v, hv, hbk⟩, hk⟩ := hs
    refine ⟨⟨v, hv.kept (row := none) ⟨hb.os, hb.tape, hb.output, hb.size, fun k hk _ => hb.block k hk⟩ ?_, hbk.below hb hbk.lt⟩, hk.trans (Kept.ofBelow hb)⟩
    cases h : v.ownBlock with
    | none => exact .inl rfl
    | some j => exact .inr (by simp)
section
variable {D F : Nat → Prop} {w : World}
set_option maxRecDepth 100000 in
set_option maxHeartbeats 4000000 in
theorem smissing_any (ack : Int) (nks : List Nk) (A : Option Addr) (n c : Nat) (hN : NkAt w A n c nks) (hn : n ≤ 1000) (p : Nat) (x : Ou) {Ap Ar : Option Addr} {cp cr : Nat} {vp : List Value} (hO : OuAt w D F p x Ap cp vp Ar cr)
    (hv : ∀ y ∈ nks, 0 ≤ (nkR y).1 ∧ 0 ≤ (nkR y).2) (hsz : sizeO x ≤ 100000) (h1 : 1 ≤ sizeO x) :
    Calls Tryz.prog 42 #[.agg #[.int .i64 ack, .slice A n c], .pointer (some ⟨p, 0, none⟩)] w (GivesSp w (missP nks x)) := by
  have hN3 := ((hN.alloc (.cells #[.int .i64 ack, .slice A n c] 41)).alloc (.cells #[.pointer (some ⟨p, 0, none⟩)] 75)).alloc (.cells #[.slice none 0 0] 80)
  have hr0 := ((Blk.new w 41 #[.int .i64 ack, .slice A n c]).alloc (.cells #[.pointer (some ⟨p, 0, none⟩)] 75)).alloc (.cells #[.slice none 0 0] 80)
  have hx0 := (Blk.new (w.alloc (.cells #[.int .i64 ack, .slice A n c] 41)) 75 #[.pointer (some ⟨p, 0, none⟩)]).alloc (.cells #[.slice none 0 0] 80)
  have hl0 := Blk.new ((w.alloc (.cells #[.int .i64 ack, .slice A n c] 41)).alloc (.cells #[.pointer (some ⟨p, 0, none⟩)] 75)) 80 #[.slice none 0 0]
  have hB0 : Below w.heap.size w (((w.alloc (.cells #[.int .i64 ack, .slice A n c] 41)).alloc (.cells #[.pointer (some ⟨p, 0, none⟩)] 75)).alloc (.cells #[.slice none 0 0] 80)) := (((Below.refl _ w).alloc (Nat.le_refl _) _).alloc (by simp) _).alloc (by simp; omega) _
  have hs0 : (((w.alloc (.cells #[.int .i64 ack, .slice A n c] 41)).alloc (.cells #[.pointer (some ⟨p, 0, none⟩)] 75)).alloc (.cells #[.slice none 0 0] 80)).heap.size = w.heap.size + 3 := by simp
  simp only [World.size_alloc] at hx0 hl0
  have HP0 := Lib.hid (hO.blk.below hB0 hO.blk.lt)
  have HPL := Lib.hid hO.blk.lt
  have HN := Lib.hid hN3
  have HR0 := Lib.hid hr0
  have HX0 := Lib.hid hx0
  have HL0 := Lib.hid hl0
  have HB0 := Lib.hid hB0
  have HS0 := Lib.hid hs0
  clear hN3 hr0 hx0 hl0 hB0 hs0 hN hO
  refine (callsIn_wide (n := 5)).1 ?_
  refine callsIn_of_wp_marks Tryz.func42 rfl trivial ?_ rfl
  simp only [Tryz.ntmps42, List.size_toArray, List.length_cons, List.length_nil, Nat.reduceAdd, Nat.reduceSub, Array.replicate_succ, Array.replicate_zero, List.push_toArray, List.append_toArray, List.nil_append, List.cons_append]
  refine (wpIn_wide (n := 5)).2 ?_
  go_wp2_with fail
  generalize ((w.alloc (.cells #[.int .i64 ack, .slice A n c] 41)).alloc (.cells #[.pointer (some ⟨p, 0, none⟩)] 75)).alloc (.cells #[.slice none 0 0] 80) = w3 at *
  have z0 := HR0.out.cell 0
  have z1 := HR0.out.cell 1
  have z2 := HX0.out.cell 0
  have z3 : w3.cell? ⟨p, 0, none⟩ = some (.int .i64 (x.sn : Nat)) := HP0.out.cell 0
  simp at z0 z1 z2
  have HRG := Lib.hid (fun (W : World) (hW : Below w3.heap.size w3 W) => sranges_any ack x.sn A n c nks W (HN.out.below hW) (by omega))
  go_cut [13] from 7 to 14 (fun s13 wx => ∃ g b A' c', s13 = .func (.func 102) #[] #[.pointer (some ⟨g, 0, none⟩), .pointer (some ⟨b, 0, none⟩)] ∧
      Blk wx g 39 #[.slice A' n c'] ∧ Blk wx b 3 #[.int .i64 (x.sn : Nat)] ∧ NkAt wx A' n c' nks ∧ (∀ ad, A' = some ad → w3.heap.size ≤ ad.block ∧ ad.block < wx.heap.size) ∧ w3.heap.size ≤ g ∧ w3.heap.size ≤ b ∧ Below w3.heap.size w3 wx)
  case first =>
    refine wp_region_noPanic ?_
    go_region_with (go_at_call 69; refine (HRG.out _ (by first | exact Below.refl _ _ | exact (Below.refl _ _).drew | exact (Below.refl _ _).drewN _)).mono ?_; rintro e w5 ⟨g, b, A', c', rfl, k1, k2, k3, k4, k5, k6, k7⟩)
    all_goals
      refine NoPanic.normal ?_
      go_wp2_with fail
      go_meet
      exact ⟨g, b, A', c', rfl, k1, k2, k3, k4, k5, k6, by first | exact k7 | exact (Below.refl _ w3).drew.trans k7 | exact ((Below.refl _ w3).drewN _).trans k7⟩
  case rest =>
    obtain ⟨g, b, A', c', rfl, k1, k2, k3, k4, k5, k6, k7⟩ := hcut
    have K1 := Lib.hid k1
    have K2 := Lib.hid k2
    have K3 := Lib.hid k3
    have K4 := Lib.hid k4
    have K7 := Lib.hid k7
    clear k1 k2 k3 k4 k7
    go_wp2_with fail
    have hw3 := HS0.out
    have hwc := K7.out.size
    have hgl := K1.out.lt
    have hbl := K2.out.lt
    have HL := Lib.hid (HL0.out.below K7.out HL0.out.lt)
    have HX := Lib.hid (HX0.out.below K7.out HX0.out.lt)
    have HPp := Lib.hid (HP0.out.below K7.out HP0.out.lt)
    have hpl := HP0.out.lt
    obtain ⟨M, hM⟩ : ∃ M : Nat → Obj → Prop, M = fun k o => k = w.heap.size + 1 + 1 ∨ k = wc.heap.size + 1 ∨ (wc.heap.size ≤ k ∧ ∃ cs r, o = .cells cs 93 r) := ⟨_, rfl⟩
    have hseq := ranges1_ix 4 g b A' n c' nks x.sn M wc K1.out K2.out K3.out (fun ad e => (K4.out ad e).2) (by rw [hM]; rintro o (h | h | h) <;> omega) (by rw [hM]; rintro o (h | h | h) <;> omega)
      (by rw [hM]; rintro ad e o (h | h | h) <;> have := K4.out ad e <;> omega) (by rw [hM]; rintro k o hk (h | h | h); omega; omega; exact h.2)
    apply (wpIn_wide (n := 5)).1
    refine wpIn_range_ix (gf := 102) (lb := #[.pointer (some ⟨g, 0, none⟩), .pointer (some ⟨b, 0, none⟩)]) rfl (enters_of Tryz.func102 (by kernel_rfl) rfl)
      hseq Kept.trans ?a3 (Below.refl _ _) (fun k => by unfold rngVals; split <;> rfl)
      (MsI wc (w.heap.size + 1 + 1) x (nks.filter (nkHas x.sn))) (MsI.far (by omega)) ?a5 ?a6 ?a7
    case a3 =>
      intro Wk o o' ho hc
      exact (Kept.refl _ Wk).grown (grownBy_putObj' Wk _ o') (fun j e _ _ => by cases e; rw [hM]; exact .inr (.inl rfl))
    case a5 => exact ⟨⟨_, by rw [msTo_zero]; exact World.ownsRow_nil _ _ _ _, HL.out⟩, Kept.refl _ _⟩
    case a7 =>
      rintro D Wk hD ⟨⟨v, hv, hb⟩, hK⟩ hDk
      rw [msTo_all] at hv
      obtain ⟨Av, cv, rfl, _, _⟩ := SpAt.of_own (l := missP nks x) hv
      have hlw := Nat.lt_of_lt_of_le HL.out.lt hK.size
      have l0 := hb.cell 0
      have lf := hb.frozen 0
      simp at l0
      have hDn : D ≠ w.heap.size + 1 + 1 := by omega
      have hD1 : (Wk.setCell ⟨w.heap.size + 1 + 1, 0, none⟩ (.slice Av (missP nks x).length cv)).heap[D]? = some (.deferred (some [])) := (Below.heap_setCell Wk ⟨w.heap.size + 1 + 1, 0, none⟩ (.slice Av (missP nks x).length cv) D hDn).trans hDk
      have hv1 : (Wk.setCell ⟨w.heap.size + 1 + 1, 0, none⟩ (.slice Av (missP nks x).length cv)).ownsRow wc.heap.size 93 2 (.slice Av (missP nks x).length cv) (missP nks x).length (spC (missP nks x)) := ownsRow_setCell_other hv (fun e => by have := (hv.lt _ e).1; have e3 : (⟨w.heap.size + 1 + 1, 0, none⟩ : Addr).block = w.heap.size + 1 + 1 := rfl; omega) (.slice Av (missP nks x).length cv)
      have hb1 : Blk (Wk.setCell ⟨w.heap.size + 1 + 1, 0, none⟩ (.slice Av (missP nks x).length cv)) (w.heap.size + 1 + 1) 80 #[.slice Av (missP nks x).length cv] := by simpa using hb.set_ 0 (.slice Av (missP nks x).length cv)
      have hb2 := hb1.putObj (by omega) (k := D) (.deferred none)
      have hv2 : ((Wk.setCell ⟨w.heap.size + 1 + 1, 0, none⟩ (.slice Av (missP nks x).length cv)).putObj D (.deferred none)).ownsRow wc.heap.size 93 2 (.slice Av (missP nks x).length cv) (missP nks x).length (spC (missP nks x)) := by
        refine hv1.kept (grownBy_putObj' _ D _) ?_
        rcases hv1.2 with ⟨e1, _⟩ | ⟨t, cap, cur, e1, q1, q2, _⟩
        · exact .inl (by rw [e1]; rfl)
        · refine .inr (fun e => ?_)
          rw [e1] at e
          have e2 : t = D := by injection e
          subst e2
          rw [hD1] at q2
          cases q2
      have hB2 : Below w.heap.size w ((Wk.setCell ⟨w.heap.size + 1 + 1, 0, none⟩ (.slice Av (missP nks x).length cv)).putObj D (.deferred none)) := by
        have e1 := HB0.out.trans (K7.out.mono (by omega))
        have e2 : Below w.heap.size wc Wk := hK.below (fun j _ hj => by omega) (by omega)
        exact ((e1.trans e2).setCell (p := ⟨w.heap.size + 1 + 1, 0, none⟩) (by simp; omega) (.slice Av (missP nks x).length cv)).trans (Below.putObj (by omega) _)
      have HV2 := Lib.hid (own_base (base' := w.heap.size) hv2 (by omega))
      have HB2 := Lib.hid hB2
      have HD1 := Lib.hid hD1
      have c2 := hb2.cell 0
      simp at c2
      clear hv hb hv1 hb1 hb2 hv2 hB2 hD1 hDk hM hseq
      gi_wp2
      go_wp2
      refine ⟨by simp, .inl ⟨_, _, rfl, run_takeDeferred HD1.out, ?_⟩⟩
      exact ⟨.slice Av (missP nks x).length cv, by simp [results, Tryz.results42, go_sem, c2], .slice Av (missP nks x).length cv, rfl, HV2.out, HB2.out⟩
    case a6 =>
      rintro l' k Wk hk ⟨⟨v, hrow, hbk⟩, hK⟩ ⟨oR, hoR, hoC⟩
      obtain ⟨y, hy⟩ : ∃ y, (nks.filter (nkHas x.sn))[k]? = some y := ⟨_, List.getElem?_eq_getElem hk⟩
      have hvv : rngVals (nks.filter (nkHas x.sn)) k = #[.int .i64 ((nkRange y).1 : Int), .int .i64 ((nkRange y).2 : Int)] := by
        unfold rngVals
        rw [hy]
        obtain ⟨e1, e2⟩ := nkR_nat y (hv y (List.mem_filter.1 (List.mem_of_getElem? hy)).1)
        simp only [e1, e2]
      rw [hvv]
      have hst := msTo_succ x _ k y hy
      obtain ⟨ra, hra⟩ : ∃ ra, (nkRange y).1 = ra := ⟨_, rfl⟩
      obtain ⟨rb, hrb⟩ : ∃ rb, (nkRange y).2 = rb := ⟨_, rfl⟩
      obtain ⟨hok1, hok2⟩ := msTo_ok x (nks.filter (nkHas x.sn)) hsz k
      unfold missStep at hst
      rw [hra, hrb] at hst ⊢
      have HST := Lib.hid hst
      have HOK2 := Lib.hid hok2
      have hrl := (Array.getElem?_eq_some_iff.1 hoR).1
      clear hvv hst hy hra hrb hok2
      gi_wp2_with fail
      refine ⟨⟨Nat.le_refl _, fun _ _ _ h _ => h⟩, ?_⟩
      intro W3 o' hW3
      have hXw : Blk W3 (w.heap.size + 1) 75 #[.pointer (some ⟨p, 0, none⟩)] := by rw [hW3]; exact (HX.out.kept hK (by omega)).putObj (by omega) _
      have hPw : Blk W3 p 82 (ouC x (.slice Ap x.ps.length cp) (.slice Ar x.pend.length cr)) := by rw [hW3]; exact (HPp.out.kept hK (by have := HPL.out; omega)).putObj (by have := HPL.out; omega) _
      have hLw : Blk W3 (w.heap.size + 1 + 1) 80 #[v] := by rw [hW3]; exact hbk.putObj (by omega) _
      have hrw : W3.ownsRow wc.heap.size 93 2 v (msTo x (nks.filter (nkHas x.sn)) k).length (spC (msTo x (nks.filter (nkHas x.sn)) k)) := by
        rw [hW3]
        refine hrow.kept (grownBy_putObj' Wk _ o') ?_
        rcases hrow.2 with ⟨rfl, _⟩ | ⟨q, cap, cur, rfl, q1, q2, _⟩
        · exact .inl rfl
        · refine .inr (fun e => ?_)
          have e2 : q = wc.heap.size + 1 := by injection e
          rw [e2, hoR] at q2
          cases q2
          cases hoC
      have hKw : Kept (fun j _ => j = w.heap.size + 1 + 1) wc W3 := by
        rw [hW3]
        exact hK.grown (grownBy_putObj' Wk _ o') (fun j e o ho => by cases e; have := (Array.getElem?_eq_some_iff.1 ho).1; omega)
      have hM3 : Kept M Wk W3 := by
        rw [hW3]
        exact (Kept.refl _ Wk).grown (grownBy_putObj' Wk _ o') (fun j e _ _ => by cases e; rw [hM]; exact .inr (.inl rfl))
      have hz3 := hKw.size
      have x0 := hXw.cell 0
      have x8 : W3.cell? ⟨p, 8, none⟩ = some (.int .i64 (sizeO x : Nat)) := hPw.cell 8
      have l0 := hLw.cell 0
      have lf := hLw.frozen 0
      simp at x0 l0
      obtain ⟨q, hq⟩ : ∃ q, sizeO x = q + 1 := ⟨sizeO x - 1, by omega⟩
      rw [hq] at x8
      have x8 : W3.cell? ⟨p, 8, none⟩ = some (.int .i64 ((q : Int) + 1)) := by rw [x8]; simp
      have hw1 : IntKind.i64.wrap ((q : Int) + 1 - 1) = (q : Int) := by rw [IntWalk.i64_in _ (by omega)]; omega
      have hw2 : IntKind.i64.wrap (q : Int) = (q : Int) := IntWalk.i64_in _ (by omega)
      have hst := HST.out
      rw [show sizeO x - 1 = q by omega] at hst
      have hvb : ∀ j, v.ownBlock = some j → wc.heap.size ≤ j := fun j e => (hrw.lt j e).1
      have hSkip : ∀ a', min rb q < ra → ixPost wc.heap.size (Kept M) (MsI wc (w.heap.size + 1 + 1) x (nks.filter (nkHas x.sn))) (k + 1) Wk W3 .normal a' W3 := fun a' hm => by
        rw [if_pos hm] at hst
        exact ⟨⟨Nat.le_refl _, fun _ _ _ h _ => h⟩, hM3, ⟨⟨v, by rw [hst]; exact hrw, hLw⟩, hKw⟩⟩
      have hCall : ∀ m : Nat, Calls Tryz.prog 70 #[v, .agg #[.int .i64 (ra : Int), .int .i64 (m : Int)], .func (.func 71) #[] #[]] W3 (MgOut W3 wc.heap.size v (msTo x (nks.filter (nkHas x.sn)) k) (ra, m)) := fun m =>
        smerged_any W3 wc.heap.size v _ (ra, m) hrw hz3 (by have := (List.length_filter_le (nkHas x.sn) nks); have := K3.out.len; omega) HOK2.out
      have hFin : ∀ m v' w5, min rb q = m → ra ≤ m → w5.ownsRow wc.heap.size 93 2 v' (mergeP (msTo x (nks.filter (nkHas x.sn)) k) (ra, m)).length (spC (mergeP (msTo x (nks.filter (nkHas x.sn)) k) (ra, m))) → Kept (fun k _ => some k = v.ownBlock) W3 w5 →
          Blk w5 (w.heap.size + 1 + 1) 80 #[v] ∧ ∀ a', ixPost wc.heap.size (Kept M) (MsI wc (w.heap.size + 1 + 1) x (nks.filter (nkHas x.sn))) (k + 1) Wk W3 .normal a' (w5.setCell ⟨w.heap.size + 1 + 1, 0, none⟩ v') := fun m v' w5 hm hr h5 hk5 => by
        have hL5 : Blk w5 (w.heap.size + 1 + 1) 80 #[v] := hLw.kept hk5 (fun e => by have := hvb _ e.symm; omega)
        refine ⟨hL5, fun a' => ?_⟩
        rw [if_neg (by omega), hm] at hst
        have hkM : Kept M W3 w5 := ⟨hk5.os, hk5.tape, hk5.output, hk5.size, fun j o hj hn => hk5.same j o hj (fun e => hn (by
          rw [hM]
          refine .inr (.inr ⟨hvb j e.symm, ?_⟩)
          rcases hrw.2 with ⟨rfl, _⟩ | ⟨t, cap, cur, rfl, q1, q2, _⟩
          · cases e
          · have e2 : j = t := by injection e
            rw [e2, q2] at hj
            cases hj
            exact ⟨_, _, rfl⟩))⟩
        have hkL : Kept (fun j (_ : Obj) => j = w.heap.size + 1 + 1) wc w5 := ⟨hk5.os.trans hKw.os, hk5.tape.trans hKw.tape, hk5.output.trans hKw.output, Nat.le_trans hz3 hk5.size, fun j o hj hn => hk5.same j o (hKw.same j o hj hn) (fun e => by
          have h1 := hvb _ e.symm
          have h2 := (Array.getElem?_eq_some_iff.1 hj).1
          omega)⟩
        have hkF : KeepsFrom wc.heap.size W3 w5 := ⟨hk5.size, fun j o hj ho hc => hk5.same j o ho (fun e => by
          rcases hrw.2 with ⟨rfl, _⟩ | ⟨t, cap, cur, rfl, q1, q2, _⟩
          · cases e
          · have e2 : j = t := by injection e
            rw [e2, q2] at ho
            cases ho
            cases hc)⟩
        refine ⟨KeepsFrom.tr hkF (KeepsFrom.setBlk hL5 v'), (hM3.trans hkM).setCell (p := ⟨w.heap.size + 1 + 1, 0, none⟩) (fun _ _ => by rw [hM]; exact .inl rfl) v', ⟨⟨v', ?_, by simpa using hL5.set_ 0 v'⟩, hkL.setCell (p := ⟨w.heap.size + 1 + 1, 0, none⟩) (fun _ _ => rfl) v'⟩⟩
        rw [hst]
        exact ownsRow_setCell_other h5 (fun e => by have := (h5.lt _ e).1; have e3 : (⟨w.heap.size + 1 + 1, 0, none⟩ : Addr).block = w.heap.size + 1 + 1 := rfl; omega) v'
      have HCALL := Lib.hid hCall
      have HSK := Lib.hid hSkip
      have HFIN := Lib.hid hFin
      clear hXw hPw hLw hrw hrow hbk hK hW3 hKw hM3 hoR hoC hM hSkip hCall hFin hst hvb
      by_cases hc : rb ≤ q
      · by_cases hr : ra ≤ rb
        · have d1 : decide (rb < ra) = false := decide_eq_false (by omega)
          gi_wp2_with fail
          refine ⟨trivial, CallsIn.inRound l' ((callsIn_wide (n := 2)).2 ((HCALL.out rb).mono ?_))⟩
          rintro e w5 ⟨v', rfl, hrow5, hk5, _⟩
          obtain ⟨hL5, hF5⟩ := HFIN.out rb v' w5 (by omega) hr hrow5 hk5
          obtain ⟨A5, c5', rfl, _, _⟩ := SpAt.of_own (l := mergeP (msTo x (nks.filter (nkHas x.sn)) k) (ra, rb)) hrow5
          have c5 := hL5.cell 0
          have f5 := hL5.frozen 0
          simp at c5
          have HF5 := Lib.hid hF5
          clear hF5 hL5 hrow5 hk5
          gi_wp2_with fail
          exact HF5.out _
        · have d1 : decide (rb < ra) = true := decide_eq_true (by omega)
          gi_wp2_with fail
          exact HSK.out _ (by omega)
      · by_cases hr : ra ≤ q
        · have d1 : decide (q < ra) = false := decide_eq_false (by omega)
          gi_wp2_with fail
          refine ⟨trivial, CallsIn.inRound l' ((callsIn_wide (n := 2)).2 ((HCALL.out q).mono ?_))⟩
          rintro e w5 ⟨v', rfl, hrow5, hk5, _⟩
          obtain ⟨hL5, hF5⟩ := HFIN.out q v' w5 (by omega) hr hrow5 hk5
          obtain ⟨A5, c5', rfl, _, _⟩ := SpAt.of_own (l := mergeP (msTo x (nks.filter (nkHas x.sn)) k) (ra, q)) hrow5
          have c5 := hL5.cell 0
          have f5 := hL5.frozen 0
          simp at c5
          have HF5 := Lib.hid hF5
          clear hF5 hL5 hrow5 hk5
          gi_wp2_with fail
          exact HF5.out _
        · have d1 : decide (q < ra) = true := decide_eq_true (by omega)
          gi_wp2_with fail
          exact HSK.out _ (by omega)
end
end Go.Proofs.YtmiipkaobloedaaGreat
namespace Go.Proofs.YtmiipkaobloedaaGreat
open Go.RowKit Go.Shelf
attribute [local go_sem] Oper.semAt_some
section
variable {D F : Nat → Prop} {g : Nat} {c : Cf} {st : Sd} {vq vo : Value} {vs os : List Value} {w : World}
/-- an entry's place is behind the m-th PDU -/
def behind (st : Sd) (m : Int) (x : Nk) : Bool := decide (m ≤ placeI st x.sn)
set_option maxRecDepth 10000 in
set_option maxHeartbeats 1000000 in
theorem sst1_any (h : AmS w D F g c st vq vs vo os) (h1 : st.first < 1024) (bs bn : Nat) (m : Int) (hs : Blk w bs 25 #[.pointer (some ⟨g, 0, none⟩)]) (hn : Blk w bn 3 #[.int .i64 m]) (x : Nk) (hx : 0 ≤ x.sn ∧ x.sn ≤ 1023) :
    Calls Tryz.prog 41 #[.agg (nkC x), .pointer (some ⟨bs, 0, none⟩), .pointer (some ⟨bn, 0, none⟩)] w fun e w' => e = .returned (.bool (behind st m x)) ∧ Below w.heap.size w w' := by
  have hB : Below w.heap.size w (w.alloc (.cells (nkC x) 68)) := (Below.refl _ w).alloc (Nat.le_refl _) _
  have s0 := (hs.below hB hs.lt).cell 0
  have n0 := (hn.below hB hn.lt).cell 0
  have hA := h.below hB
  have HPL := Lib.hid (fun (k : Nat) => splace_any (hA.drewN k) h1 x.sn hx)
  have HB := Lib.hid hB
  simp [nkC] at s0 n0
  have b0 : (w.alloc (.cells (nkC x) 68)).cell? ⟨w.heap.size, 0, none⟩ = some (.int .i64 x.sn) := (Blk.new w 68 (nkC x)).cell 0
  clear hA h hs hn hB
  unfold nkC at *
  go_enter Tryz.func41, Tryz.ntmps41
  go_upto_region 1 with (fail)
  generalize w.alloc (.cells #[.int .i64 x.sn, .bool x.part, .int .i64 x.fr, .int .i64 x.lt] 68) = w1 at *
  go_quiet ((go_at_call 39; exact Calls.quiet_of_same ((HPL.out _).mono fun _ _ hh => ⟨hh.1, hh.2.symm⟩)))
  go_wp2
  go_ret
  exact ⟨rfl, HB.out.drewN _⟩
set_option maxRecDepth 10000 in
set_option maxHeartbeats 1000000 in
theorem sixn_any (h : AmS w D F g c st vq vs vo os) (h1 : st.first < 1024) (bs bn : Nat) (m : Int) (hs : Blk w bs 25 #[.pointer (some ⟨g, 0, none⟩)]) (hn : Blk w bn 3 #[.int .i64 m])
    (A : Option Addr) (n cc : Nat) (l : List Nk) (hN : NkAt w A n cc l) (hx : ∀ x ∈ l, 0 ≤ x.sn ∧ x.sn ≤ 1023) :
    Calls Tryz.prog 68 #[.slice A n cc, .func (.func 41) #[] #[.pointer (some ⟨bs, 0, none⟩), .pointer (some ⟨bn, 0, none⟩)]] w
      fun e w' => (∃ i : Int, e = .returned (.int .i64 i) ∧ decide (0 ≤ i) = l.any (behind st m)) ∧ Below w.heap.size w w' := by
  have hcap := hN.cap
  have hmx := hN.mx
  have HL := Lib.hid hN.len
  have HN := Lib.hid hN
  have HC := Lib.hid (fun (W : World) (hW : Below w.heap.size w W) (x : Nk) (hx : 0 ≤ x.sn ∧ x.sn ≤ 1023) => sst1_any (h.below hW) h1 bs bn m (hs.below hW hs.lt) (hn.below hW hn.lt) x hx)
  have HX := Lib.hid hx
  clear h hs hn hN hx
  unfold nkC at HC
  go_enter Tryz.func68, Tryz.ntmps68
  go_wp2
  go_loopw [8] (fun i wr => ∃ k : Nat, k ≤ n ∧ i = .int .i64 k ∧ Below w.heap.size w wr ∧ ∀ (j : Nat) (y : Nk), j < k → l[j]? = some y → behind st m y = false) (fun i _ => n - (intOf i).toNat)
  case atStart => exact ⟨0, Nat.zero_le _, rfl, Below.refl _ _, fun j y hj => by omega⟩
  case round =>
    obtain ⟨k, hk, rfl, hb, hall⟩ := hrel
    have HA := Lib.hid hall
    clear hall
    by_cases hlt : k < n
    · obtain ⟨x, hx⟩ : ∃ x, l[k]? = some x := ⟨_, List.getElem?_eq_getElem (by have := HL.out; omega)⟩
      obtain ⟨ad, rfl, hadb, hcl⟩ := (HN.out.below hb).at_ (by omega)
      obtain ⟨k0, k1, k2, k3⟩ := hcl k x hx
      have hcall := HC.out wr hb x (HX.out x (List.mem_of_getElem? hx))
      have HK := Lib.hid hx
      have HCC := Lib.hid hcall
      have HB := Lib.hid hb
      clear hx hcl hcall hb
      go_wp2_with fail
      refine HCC.out.mono ?_
      rintro e1 w1 ⟨rfl, hb1⟩
      have HB1 := Lib.hid (HB.out.trans (hb1.mono HB.out.size))
      clear hb1 k0 k1 k2 k3
      cases hq : behind st m x with
      | false =>
        have HQ := Lib.hid hq
        clear hq
        go_wp2
        go_round
        case rel =>
          refine ⟨k + 1, by omega, by go_num, HB1.out, fun j y hj hy => ?_⟩
          rcases Nat.lt_or_ge j k with h2 | h2
          · exact HA.out j y h2 hy
          · rw [show j = k by omega, HK.out] at hy
            cases hy
            exact HQ.out
        case measure => simp [intOf]; omega
      | true =>
        have HQ := Lib.hid hq
        clear hq
        go_wp2
        go_ret
        refine ⟨⟨_, rfl, ?_⟩, HB1.out⟩
        rw [List.any_eq_true.2 ⟨x, List.mem_of_getElem? HK.out, HQ.out⟩]
        simp
    · have HB := Lib.hid hb
      clear hb
      go_wp2
      go_ret
      refine ⟨⟨_, rfl, ?_⟩, HB.out⟩
      have : l.any (behind st m) = false := by
        rw [List.any_eq_false]
        intro y hy
        obtain ⟨j, hj⟩ := List.mem_iff_getElem?.1 hy
        have := HA.out j y (by have := (List.getElem?_eq_some_iff.1 hj).1; have := HL.out; omega) hj
        simp [this]
      rw [this]
      rfl
theorem scont_any (h : AmS w D F g c st vq vs vo os) (h1 : st.first < 1024) (bs bn : Nat) (m : Int) (hs : Blk w bs 25 #[.pointer (some ⟨g, 0, none⟩)]) (hn : Blk w bn 3 #[.int .i64 m])
    (A : Option Addr) (n cc : Nat) (l : List Nk) (hN : NkAt w A n cc l) (hx : ∀ x ∈ l, 0 ≤ x.sn ∧ x.sn ≤ 1023) :
    Calls Tryz.prog 40 #[.slice A n cc, .func (.func 41) #[] #[.pointer (some ⟨bs, 0, none⟩), .pointer (some ⟨bn, 0, none⟩)]] w
      fun e w' => e = .returned (.bool (l.any (behind st m))) ∧ Below w.heap.size w w' := by
  have hix := sixn_any h h1 bs bn m hs hn A n cc l hN hx
  have HIX := Lib.hid hix
  clear h hs hn hN hx hix
  go_enter Tryz.func40, Tryz.ntmps40
  go_wp2_with fail
  refine HIX.out.mono ?_
  rintro e1 w1 ⟨⟨i, rfl, hi⟩, hb⟩
  have HI := Lib.hid hi
  have HB := Lib.hid hb
  clear hi hb
  go_wp2
  go_ret
  exact ⟨ret_bool HI.out, HB.out⟩
end
end Go.Proofs.YtmiipkaobloedaaGreat
namespace Go.Proofs.YtmiipkaobloedaaGreat
open Go.RowKit Go.Shelf
attribute [local go_sem] Oper.semAt_some
/-- a report's answers for the first k PDUs are noted -/
def stK (c : Cf) (m : Ou → List (Nat × Nat)) (st : Sd) (k : Nat) : Sd := { st with out := (statOut c m k st.out).1, failed := st.failed || (statOut c m k st.out).2 }
theorem stK_zero (c : Cf) (m : Ou → List (Nat × Nat)) (st : Sd) : stK c m st 0 = st := by
  obtain ⟨q, d, f, t, fi, o, p, b, po, wa, ex, ow, fa, no⟩ := st
  simp [stK, statOut]
theorem stK_get (c : Cf) (m : Ou → List (Nat × Nat)) (st : Sd) (k : Nat) : (stK c m st k).out[k]? = st.out[k]? := by
  show (statOut c m k st.out).1[k]? = st.out[k]?
  rw [statOut_get, if_neg (Nat.lt_irrefl k)]
theorem stK_succ {c : Cf} {m : Ou → List (Nat × Nat)} {st : Sd} {k : Nat} {x : Ou} (hx : st.out[k]? = some x) : stK c m st (k + 1) = setOut (stK c m st k) k (statOne c m x) := by
  have h1 : (statOut c m (k + 1) st.out).1 = (statOut c m k st.out).1.set k (statOne c m x).1 := by
    apply List.ext_getElem?
    intro i
    rw [statOut_get, List.getElem?_set, statOut_get, statOut_len]
    have hk := (List.getElem?_eq_some_iff.1 hx).1
    by_cases hik : k = i
    · subst hik
      rw [if_pos (by omega), if_pos rfl, if_pos hk, hx]
      rfl
    · rw [if_neg hik]
      by_cases hlt : i < k
      · rw [if_pos (by omega), if_pos hlt]
      · rw [if_neg (by omega), if_neg hlt]
  have h2 : (statOut c m (k + 1) st.out).2 = ((statOut c m k st.out).2 || (statOne c m x).2) := by
    simp only [statOut]
    rw [List.take_add_one, hx]
    simp
  unfold stK setOut
  rw [h1, h2, Bool.or_assoc]
theorem stK_acked {c : Cf} {m : Ou → List (Nat × Nat)} {st : Sd} {k : Nat} {x : Ou} (hx : st.out[k]? = some x) (ha : x.acked = true) : stK c m st (k + 1) = stK c m st k := by
  have hg := stK_get c m st k
  rw [hx] at hg
  rw [stK_succ hx]
  have e : statOne c m x = (x, false) := by unfold statOne; rw [if_pos ha]
  rw [e]
  unfold setOut
  have h3 : (stK c m st k).out.set k x = (stK c m st k).out := by
    apply List.ext_getElem?
    intro i
    rw [List.getElem?_set]
    split
    · rename_i hik
      subst hik
      split
      · exact hg.symm
      · rename_i hl
        exact (List.getElem?_eq_none (by omega)).symm
    · rfl
  simp only [h3, Bool.or_false]
section
variable {D F : Nat → Prop} {g : Nat} {c : Cf} {st : Sd} {vq vo : Value} {vs os : List Value} {w : World}
/-- an outstanding PDU is acknowledged -/
theorem AmS.confirm (h : AmS w D F g c st vq vs vo os) {i p : Nat} {x : Ou} {Ap Ar : Option Addr} {cp cr : Nat} {vp : List Value} (hx : st.out[i]? = some x) (hp : os[i]? = some (.pointer (some ⟨p, 0, none⟩))) (hO : OuAt w D F p x Ap cp vp Ar cr) :
    AmS ((w.setCell ⟨p, 9, none⟩ (.bool true)).setCell ⟨p, 10, none⟩ (.slice none 0 0)) D F g c (setOut st i ({ x with acked := true, pend := [] }, false)) vq vs vo os ∧ Kept (fun k _ => D k) w ((w.setCell ⟨p, 9, none⟩ (.bool true)).setCell ⟨p, 10, none⟩ (.slice none 0 0)) := by
  obtain ⟨h1, o1⟩ := h.setP hx hp hO 9 (.bool true) (z := { x with acked := true }) (by simp [ouC, sizeO]) rfl hO.rs hO.rf
  have hil := (List.getElem?_eq_some_iff.1 hx).1
  have hx1 : (st.out.set i { x with acked := true })[i]? = some { x with acked := true } := List.getElem?_set_self hil
  obtain ⟨h2, _⟩ := h1.setP hx1 hp o1 10 (.slice none 0 0) (z := { x with acked := true, pend := [] }) (Ar' := none) (cr' := 0) (by simp [ouC, sizeO]) rfl (SpAt.nil _) (fun ad e => by cases e)
  have e : setOut st i ({ x with acked := true, pend := [] }, false) = { st with out := (st.out.set i { x with acked := true }).set i { x with acked := true, pend := [] } } := by
    unfold setOut
    rw [List.set_set, Bool.or_false]
  rw [e]
  exact ⟨h2, ((Kept.refl _ w).setCell (p := ⟨p, 9, none⟩) (fun _ _ => hO.d) _).setCell (p := ⟨p, 10, none⟩) (fun _ _ => hO.d) _⟩
/-- a block that was laid since is written -/
theorem AmS.putE {w0 : World} (h : AmS w0 D F g c st vq vs vo os) {b : Nat} (hF : ∀ k, F k → k < w.heap.size) (hb : w.heap.size ≤ b) (j : Nat) (u : Value) : AmS (w0.setCell ⟨b, j, none⟩ u) D F g c st vq vs vo os :=
  h.stay fun k hk => heap_far (fun e => by have := hF k hk; have e2 : k = b := e; omega)
theorem Kept.putE {M : Nat → Obj → Prop} {w0 : World} (hk : Kept M w w0) {b : Nat} (hb : w.heap.size ≤ b) (j : Nat) (u : Value) : Kept M w (w0.setCell ⟨b, j, none⟩ u) :=
  ⟨hk.os, hk.tape, hk.output, Nat.le_trans hk.size (by simp [World.setCell]), fun k o ho hm => (heap_far (fun e => by have := (Array.getElem?_eq_some_iff.1 ho).1; have e2 : k = b := e; omega)).trans (hk.same k o ho hm)⟩
/-- what Status lays first: the transmitter's pointer, the report, the error -/
structure StW (w : World) (g : Nat) (ack : Int) (A : Option Addr) (n cc : Nat) (w0 : World) : Prop where
  b : Below w.heap.size w w0
  s : Blk w0 w.heap.size 25 #[.pointer (some ⟨g, 0, none⟩)]
  r : Blk w0 (w.heap.size + 1) 41 #[.int .i64 ack, .slice A n cc]
  e : Blk w0 (w.heap.size + 1 + 1) 26 #[.int .i64 0]
  z : w0.heap.size = w.heap.size + 3
theorem StW.mk' (w : World) (g : Nat) (ack : Int) (A : Option Addr) (n cc : Nat) : StW w g ack A n cc (((w.alloc (.cells #[.pointer (some ⟨g, 0, none⟩)] 25)).alloc (.cells #[.int .i64 ack, .slice A n cc] 41)).alloc (.cells #[.int .i64 0] 26)) := by
  have h1 := ((Blk.new w 25 #[.pointer (some ⟨g, 0, none⟩)]).alloc (.cells #[.int .i64 ack, .slice A n cc] 41)).alloc (.cells #[.int .i64 0] 26)
  have h2 := (Blk.new (w.alloc (.cells #[.pointer (some ⟨g, 0, none⟩)] 25)) 41 #[.int .i64 ack, .slice A n cc]).alloc (.cells #[.int .i64 0] 26)
  have h3 := Blk.new ((w.alloc (.cells #[.pointer (some ⟨g, 0, none⟩)] 25)).alloc (.cells #[.int .i64 ack, .slice A n cc] 41)) 26 #[.int .i64 0]
  simp only [World.size_alloc] at h2 h3
  exact ⟨(((Below.refl _ w).alloc (Nat.le_refl _) _).alloc (by simp) _).alloc (by simp; omega) _, h1, h2, h3, by simp⟩
set_option maxRecDepth 100000 in
set_option maxHeartbeats 1000000 in
theorem sstatus_early (h : AmS w D F g c st vq vs vo os) (ht : 1 ≤ c.timer) (now ack : Int) (A : Option Addr) (n cc : Nat) (nks : List Nk) (hN : NkAt w A n cc nks) (hx : st.failed = true ∨ validSt ack nks = false) :
    Calls Tryz.prog 14 #[.pointer (some ⟨g, 0, none⟩), .int .i64 now, .agg #[.int .i64 ack, .slice A n cc]] w (ErOut w D F g c (statusR c st now ack nks)) := by
  have HW := Lib.hid (StW.mk' w g ack A n cc)
  have HH := Lib.hid h
  have HN := Lib.hid hN
  go_enter_defers Tryz.func14, Tryz.ntmps14
  clear h hN
  go_wp2_with fail
  generalize ((w.alloc (.cells #[.pointer (some ⟨g, 0, none⟩)] 25)).alloc (.cells #[.int .i64 ack, .slice A n cc] 41)).alloc (.cells #[.int .i64 0] 26) = w0 at *
  have hA := HH.out.below HW.out.b
  have hch := scheck_any hA ht
  have e0 := HW.out.e.cell 0
  have e1 := HW.out.e.frozen 0
  have r0 := HW.out.r.cell 0
  have r1 := HW.out.r.cell 1
  simp at e0 r0 r1
  have HA := Lib.hid hA
  have HCH := Lib.hid hch
  clear hA hch
  refine HCH.out.mono ?_
  cases hf : st.failed with
  | true =>
    have hfin : statusR c st now ack nks = (st, 8) := by unfold statusR; rw [if_pos hf]
    have HFIN := Lib.hid hfin
    clear hfin hf hx
    simp only [if_true]
    rintro e1 w1 ⟨rfl, rfl⟩
    go_wp2
    have q := ((HW.out.e.set_ 0 (.int .i64 8)).set_ 0 (.int .i64 8)).cell 0
    simp at q
    refine ⟨.int .i64 8, by simp [results, Tryz.results14, go_sem, q], ?_⟩
    rw [HFIN.out]
    have hz := HW.out.z
    exact ⟨rfl, ((HA.out.putE HH.out.lt (b := w.heap.size + 1 + 1) (by omega) 0 _).putE HH.out.lt (b := w.heap.size + 1 + 1) (by omega) 0 _).o (((Kept.ofBelow HW.out.b).putE (b := w.heap.size + 1 + 1) (by omega) 0 _).putE (b := w.heap.size + 1 + 1) (by omega) 0 _)⟩
  | false =>
    have hv : validSt ack nks = false := by
      rcases hx with e | e
      · rw [hf] at e; cases e
      · exact e
    have hfin : statusR c st now ack nks = (st, 2) := by unfold statusR statusS; rw [if_neg (by simp [hf]), if_pos hv]
    have HFIN := Lib.hid hfin
    have hva := svalid_any (w0.setCell ⟨w.heap.size + 1 + 1, 0, none⟩ (.int .i64 0)) ack A n cc nks (HN.out.below (HW.out.b.setCell (p := ⟨w.heap.size + 1 + 1, 0, none⟩) (by simp; omega) _))
    rw [hv] at hva
    have HVA := Lib.hid hva
    clear hfin hf hx hv hva
    simp only [Bool.false_eq_true, if_false]
    rintro e1 w1 ⟨rfl, rfl⟩
    go_wp2_with fail
    refine HVA.out.mono ?_
    rintro e2 w2 ⟨rfl, hb2⟩
    have hE2 := (HW.out.e.set_ 0 (.int .i64 0)).below hb2 (by have := HW.out.e.lt; simpa [World.setCell] using this)
    have c2 := hE2.cell 0
    have f2 := hE2.frozen 0
    simp at c2
    have HE2 := Lib.hid hE2
    have HB2 := Lib.hid hb2
    clear hE2 hb2
    go_wp2
    have q := (HE2.out.set_ 0 (.int .i64 2)).cell 0
    simp at q
    refine ⟨.int .i64 2, by simp [results, Tryz.results14, go_sem, q], ?_⟩
    rw [HFIN.out]
    exact ⟨rfl, (((HA.out.putE HH.out.lt (b := w.heap.size + 1 + 1) (by omega) 0 _).below HB2.out).putE HH.out.lt (b := w.heap.size + 1 + 1) (by omega) 0 _).o ((((Kept.ofBelow HW.out.b).putE (b := w.heap.size + 1 + 1) (by omega) 0 _).trans (Kept.ofBelow HB2.out)).putE (b := w.heap.size + 1 + 1) (by omega) 0 _)⟩
end
end Go.Proofs.YtmiipkaobloedaaGreat
