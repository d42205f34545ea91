/- rlc: transparent mode: Submit. -/
import Derived.Test.YthicdlbelhokjaaGreatAe
namespace Go.Proofs.YthicdlbelhokjaaGreat
open Go.RowKit
attribute [local go_sem] Oper.semAt_some

theorem fits_any (A : Option Addr) (n c : Nat) (w : World) (_hnc : n ≤ c) (_hc : c ≤ 9223372036854775807) : Calls Tryz.prog 242 #[.slice A n c] w fun e w' => e = .returned (.bool (decide (0 < n) && decide (n ≤ 9000))) ∧ w = w' := by
  by_cases h0 : 0 < n
  · have e1 : (decide (0 < n) && decide (n ≤ 9000)) = decide ((n : Int) ≤ 9000) := by rw [Bool.eq_iff_iff]; simp [h0]; omega
    rw [e1]
    clear e1
    go_enter Tryz.func242, Tryz.ntmps242
    go_wp2
    go_ret
    exact ⟨rfl, rfl⟩
  · have e1 : (decide (0 < n) && decide (n ≤ 9000)) = false := by simp [h0]
    rw [e1]
    clear e1
    go_enter Tryz.func242, Tryz.ntmps242
    go_wp2
    go_ret
    exact ⟨rfl, rfl⟩
/-- what a queue's calls may change: its cells, its row -/
def MQ (g : Nat) (v : Value) (k : Nat) (_ : Obj) : Prop := k = g ∨ qBlock v = some k
/-- one SDU is put -/
def PutOne (w : World) (base g t : Nat) (v : Value) (cap : Nat) (sdus : List (List UInt8)) (x : List UInt8) (w' : World) : Prop :=
  ∃ v' vs', Ent w' base g t v' vs' (sdus ++ [x]) cap ∧ Kept (MQ t v) w w' ∧ (∀ k, qBlock v' = some k → qBlock v = some k ∨ w.heap.size ≤ k)
def NumD (x : Int) (w : World) (e : Ending) (w' : World) : Prop := e = .returned (.int .i64 x) ∧ Drew w w'

theorem tsubmit_size (base g t : Nat) (v : Value) (vs : List Value) (sdus : List (List UInt8)) (cap : Nat) (A : Option Addr) (n c : Nat) (w : World) (_h : Ent w base g t v vs sdus cap) (hn : n = 0 ∨ 9000 < n) (hnm : n ≤ c) (hcm : c ≤ 9223372036854775807) :
    Calls Tryz.prog 239 #[.pointer (some ⟨t, 0, none⟩), .slice A n c] w (NumD 2 w) := by
  have hf := fits_any A n c w hnm hcm
  have e1 : (decide (0 < n) && decide (n ≤ 9000)) = false := by simp; omega
  rw [e1] at hf
  have HF := Lib.hid hf
  clear hf e1 hn
  go_enter Tryz.func239, Tryz.ntmps239
  go_wp2_with (go_at_call 242; refine HF.out.mono ?_; rintro e1 w1 ⟨rfl, rfl⟩)
  go_ret
  exact ⟨rfl, Drew.refl _⟩
set_option maxHeartbeats 400000 in
theorem tsubmit_full (base g t : Nat) (v : Value) (vs : List Value) (sdus : List (List UInt8)) (cap : Nat) (A : Option Addr) (n c : Nat) (w : World) (h : Ent w base g t v vs sdus cap) (hn0 : 0 < n) (hn : n ≤ 9000) (hnm : n ≤ c) (hcm : c ≤ 9223372036854775807) (hf : cap ≤ sdus.length) :
    Calls Tryz.prog 239 #[.pointer (some ⟨t, 0, none⟩), .slice A n c] w (NumD 7 w) := by
  have hfi := fits_any A n c w hnm hcm
  have e1 : (decide (0 < n) && decide (n ≤ 9000)) = true := by simp; omega
  rw [e1] at hfi
  obtain ⟨Av, cv, rfl, hs⟩ := h.sls
  have hc1 := hs.sl.cap
  have hm1 := hs.sl.mx
  obtain ⟨x0, x1⟩ : w.cell? ⟨t, 0, none⟩ = some (.slice Av sdus.length cv) ∧ w.cell? ⟨t, 1, none⟩ = some (.int .i64 cap) := ⟨h.blk.cell 0, h.blk.cell 1⟩
  have d : decide (cap ≤ sdus.length) = true := by simpa using hf
  have HF := Lib.hid hfi
  clear hfi e1 hs h
  go_enter Tryz.func239, Tryz.ntmps239
  go_wp2_with (go_at_call 242; refine HF.out.mono ?_; rintro e1 w1 ⟨rfl, rfl⟩)
  go_quiet (fail)
  go_wp2
  go_ret
  exact ⟨rfl, ⟨_, rfl⟩⟩
set_option maxRecDepth 10000 in
set_option maxHeartbeats 1000000 in
theorem tsubmit_ok (base g t : Nat) (v : Value) (vs : List Value) (sdus : List (List UInt8)) (cap : Nat) (A : Option Addr) (n c : Nat) (x : List UInt8) (w : World) (h : Ent w base g t v vs sdus cap) (hgt : g ≠ t) (hx : Sl w w.heap.size A n c (bvs x)) (hn0 : 0 < n) (hn : n ≤ 9000) (hf : sdus.length < cap) (hsd : sdus.length ≤ 1000000) (hbase : base ≤ w.heap.size) :
    Calls Tryz.prog 239 #[.pointer (some ⟨t, 0, none⟩), .slice A n c] w fun e w' => e = .returned (.int .i64 0) ∧ PutOne w base g t v cap sdus x w' := by
  obtain ⟨j0, hj0, hm0, hm1, hm2⟩ := info_parts sl_info
  have hnm := hx.cap
  have hcm := hx.mx
  have hfi := fits_any A n c w hnm hcm
  have e1 : (decide (0 < n) && decide (n ≤ 9000)) = true := by simp; omega
  rw [e1] at hfi
  obtain ⟨Av, cv, rfl, hs⟩ := h.sls
  have hc1 := hs.sl.cap
  have hmx1 := hs.sl.mx
  obtain ⟨x0, x1⟩ : w.cell? ⟨t, 0, none⟩ = some (.slice Av sdus.length cv) ∧ w.cell? ⟨t, 1, none⟩ = some (.int .i64 cap) := ⟨h.blk.cell 0, h.blk.cell 1⟩
  have d : decide (cap ≤ sdus.length) = false := by simpa using hf
  have HF := Lib.hid hfi
  have HH := Lib.hid h
  have HX := Lib.hid hx
  clear hfi e1 hs h hx
  go_enter Tryz.func239, Tryz.ntmps239
  go_wp2_with (go_at_call 242; refine HF.out.mono ?_; rintro e1 w1 ⟨rfl, rfl⟩)
  go_quiet (fail)
  have h := HH.out.drewN nq
  have hx := HX.out.drewN nq
  have hK0 : Kept (MQ t (.slice Av sdus.length cv)) w (w.drewN nq) := (Kept.refl _ w).drewN nq
  have hsz0 : (w.drewN nq).heap.size = w.heap.size := (Drew.size ⟨nq, rfl⟩)
  have hx' : Sl (w.drewN nq) (w.drewN nq).heap.size A n c (bvs x) := by rw [hsz0]; exact hx
  have hbase' : base ≤ (w.drewN nq).heap.size := by rw [hsz0]; exact hbase
  have x0' : (w.drewN nq).cell? ⟨t, 0, none⟩ = some (.slice Av sdus.length cv) := x0
  generalize w.drewN nq = W at *
  have HSZ := Lib.hid hsz0
  have HK0 := Lib.hid hK0
  have hcl := clone_any A n c x W.drew hx'.drew (by omega)
  have HCL := Lib.hid hcl
  have hgl := h.blk.lt
  have f0 := h.blk.frozen 0
  clear hcl HF HH HX x0 x1 hx hsz0 hK0
  go_wp2_with fail
  go_region_law (first
    | ((refine step_append_q (by rfl) _ _ 43 (by rfl) j0 (.slice none 0 0) 24 und43 hj0 hm0 hm1 hm2 rfl (by rfl) ((h.row.drew.below hb1 (Nat.le_refl _)).alloc (.cells #[.slice A1 n c1] 51)) ⟨w1.heap.size, 0, none⟩ 1 (.slice A1 n c1) (by rfl) (World.news_of_block (heap_alloc_new w1 _) 0 _ rfl) rfl (by unfold maxLen; omega) (by omega) (by simp; have := hb1.size; simp at this; omega) ?_; intro v5 w5 hown5 hgrow5 hq5; obtain ⟨A5, c5, rfl, hs5⟩ := hown5.sl; have hG5 := ((h.blk.drew.below hb1 h.blk.lt).alloc (.cells #[.slice A1 n c1] 51)).grown hgrow5 (fun e => ((h.row.drew.below hb1 (Nat.le_refl _)).alloc (.cells #[.slice A1 n c1] 51)).blk_ne ((h.blk.drew.below hb1 h.blk.lt).alloc (.cells #[.slice A1 n c1] 51)) (by decide) e.symm); have hE5 := ((h.ent.drew.below hb1 h.ent.lt).alloc (.cells #[.slice A1 n c1] 51)).grown hgrow5 (fun e => ((h.row.drew.below hb1 (Nat.le_refl _)).alloc (.cells #[.slice A1 n c1] 51)).blk_ne ((h.ent.drew.below hb1 h.ent.lt).alloc (.cells #[.slice A1 n c1] 51)) (by decide) e.symm); have q2 := hG5.cell 0; have q3 := hG5.frozen 0; simp at q2))
    | ((go_simp; (with_reducible refine HCL.out.mono ?_); rintro e1 w1 ⟨v1, rfl, hv1, hb1⟩; obtain ⟨A1, c1, rfl, hs1, _⟩ := own_sl hv1; have y0' := (hb1.cell (p := ⟨t, 0, none⟩) hgl).trans x0'; have hgl1 : t < w1.heap.size := Nat.lt_of_lt_of_le hgl hb1.size; have y0'' := (World.cell?_alloc_lt w1 (.cells #[.slice A1 n c1] 51) ⟨t, 0, none⟩ hgl1).trans y0'; have f0' := (hb1.frozen (p := ⟨t, 0, none⟩) hgl).trans f0)))
  all_goals
    have hb1' : Below W.heap.size W w1 := ((Below.refl W.heap.size W).drew).trans hb1
    have hz1 := hb1'.size
    have hG6 := hG5.set_ 0 (.slice A5 (sdus.length + 1) c5)
    simp at hG6
    have hE6 := hE5.far (p := ⟨t, 0, none⟩) hgt (.slice A5 (sdus.length + 1) c5)
    have hQ6 := hown5.store (i := 0) hG5 (by decide) (.slice A5 (sdus.length + 1) c5)
    have hKw1 : Kept (MQ t (.slice Av sdus.length cv)) w w1 := HK0.out.trans ((Kept.of_below hb1').mono_at (fun k o ho hm => by have := lt_of_heap ho; omega))
    have hrow1 := (h.row.below hb1' (Nat.le_refl _)).alloc (.cells #[.slice A1 n c1] 51)
    have hK5 := (hKw1.alloc (.cells #[.slice A1 n c1] 51)).grown hgrow5 (fun k hk o ho => .inr hk)
    have hK6 : Kept (MQ t (.slice Av sdus.length cv)) w (w5.setCell ⟨t, 0, none⟩ (.slice A5 (sdus.length + 1) c5)) := hK5.setCell (p := ⟨t, 0, none⟩) (fun _ _ => .inl rfl) _
    have hq6 : ∀ k, qBlock (.slice A5 (sdus.length + 1) c5) = some k → qBlock (.slice Av sdus.length cv) = some k ∨ w.heap.size ≤ k := fun k hk => (hq5 k hk).imp id (fun h => by have := HSZ.out; simp at h; omega)
    have hne5 : ∀ {m : Nat} {v' : Value} {ys : List Value}, (w1.alloc (.cells #[.slice A1 n c1] 51)).ownsRow base 5 1 v' m ys → (w5.setCell ⟨t, 0, none⟩ (.slice A5 (sdus.length + 1) c5)).ownsRow base 5 1 v' m ys := fun {m v' ys} ho => by
      refine own_store (i := 0) (ho.kept hgrow5 ?_) hG5 (by decide) _
      rcases hvb : v'.ownBlock with _ | j
      · exact .inl rfl
      · refine .inr (fun e => ?_)
        obtain ⟨o2, ho2, ⟨cs2, fr2, rfl⟩, _⟩ := own_isRow ho hvb
        obtain ⟨cur, hh, _⟩ := hrow1.row e.symm
        rw [hh] at ho2
        cases ho2
    go_wp2_with fail
    go_ret
    refine ⟨rfl, _, _, ⟨hE6, hG6, by simpa using hQ6, fun i p hi => ?_⟩, hK6, hq6⟩
    rcases Nat.lt_or_ge i sdus.length with hlt | hge
    · rw [List.getElem?_append_left hlt] at hi
      obtain ⟨A', c', k1, k2⟩ := h.each i p hi
      exact ⟨A', c', by rw [List.getElem?_append_left (by rw [h.row.1]; exact hlt)]; exact k1, hne5 ((own_below k2 hb1' (Nat.le_refl _)).alloc _)⟩
    · have hi0 : i = sdus.length := by
        have := (List.getElem?_eq_some_iff.1 hi).1
        simp at this
        omega
      subst hi0
      simp at hi
      subst hi
      have hxl : x.length = n := by simpa using hx'.len
      subst hxl
      exact ⟨A1, c1, by rw [← h.row.1]; simp, hne5 ((own_base hv1 hbase').alloc _)⟩
end Go.Proofs.YthicdlbelhokjaaGreat
