/- rlc: an entity of transparent mode; the examples of the chapter. -/
import Derived.Test.YtbjajboodohabaaGreatE3
import Derived.Test.YtbjajboodohabaaGreatJb
import Derived.Lib.SlBytesConst
namespace Go.Proofs.YtbjajboodohabaaGreat.Tm
open Go.RowKit
attribute [local go_sem] Oper.semAt_some
theorem und43 : Tryz.prog.underlying 47 = some (.slice 40) := by kernel_rfl
theorem und51 : Tryz.prog.underlying 40 = some (.slice 5) := by kernel_rfl

/-- an entity of transparent mode -/
structure Ent (w : World) (base g t : Nat) (v : Value) (vs : List Value) (sdus : List (List UInt8)) (cap : Nat) : Prop where
  ent : Blk w g 64 #[.int .i64 1, .iface 92 (.pointer (some ⟨t, 0, none⟩)), .pointer none]
  blk : Blk w t 96 #[v, .int .i64 cap]
  row : OwnQ w base 40 v sdus.length vs
  each : ∀ (i : Nat) (p : List UInt8), sdus[i]? = some p → ∃ A c, vs[i]? = some (.slice A p.length c) ∧ w.ownsRow base 5 1 (.slice A p.length c) p.length (bvs p)
theorem Ent.sls {w : World} {base g t : Nat} {v : Value} {vs : List Value} {sdus : List (List UInt8)} {cap : Nat} (h : Ent w base g t v vs sdus cap) : ∃ A c, v = .slice A sdus.length c ∧ Sls w w.heap.size A sdus.length c vs sdus := by
  obtain ⟨A, c, e, hs⟩ := h.row.sl
  refine ⟨A, c, e, hs, rfl, fun i p hi => ?_⟩
  obtain ⟨A', c', h1, h2⟩ := h.each i p hi
  exact ⟨A', c', h1, own_sl' h2⟩
theorem Ent.below {w w' : World} {base g t B : Nat} {v : Value} {vs : List Value} {sdus : List (List UInt8)} {cap : Nat} (h : Ent w base g t v vs sdus cap) (hb : Below B w w') (hB : w.heap.size ≤ B) : Ent w' base g t v vs sdus cap :=
  ⟨h.ent.below hb (by have := h.ent.lt; omega), h.blk.below hb (by have := h.blk.lt; omega), h.row.below hb hB, fun i p hi => let ⟨A, c, e, ho⟩ := h.each i p hi; ⟨A, c, e, own_below ho hb hB⟩⟩
theorem Ent.drewN {w : World} {base g t : Nat} {v : Value} {vs : List Value} {sdus : List (List UInt8)} {cap : Nat} (h : Ent w base g t v vs sdus cap) (k : Nat) : Ent (w.drewN k) base g t v vs sdus cap := ⟨h.ent, h.blk, h.row, h.each⟩
theorem Ent.alloc {w : World} {base g t : Nat} {v : Value} {vs : List Value} {sdus : List (List UInt8)} {cap : Nat} (h : Ent w base g t v vs sdus cap) (o : Obj) : Ent (w.alloc o) base g t v vs sdus cap := h.below ((Below.refl _ w).alloc (Nat.le_refl _) o) (Nat.le_refl _)

theorem meth_buffered (a : Addr) (w : World) : (method 403 92 (.pointer (some a)) "userplane/rlc.buffered").run Tryz.prog w = .ok (139, .pointer (some a)) w := by kernel_rfl
theorem meth_clone (a : Addr) (w : World) : (method 403 92 (.pointer (some a)) "userplane/rlc.clone").run Tryz.prog w = .ok (140, .pointer (some a)) w := by kernel_rfl
theorem meth_grant (a : Addr) (w : World) : (method 403 92 (.pointer (some a)) "userplane/rlc.grant").run Tryz.prog w = .ok (141, .pointer (some a)) w := by kernel_rfl
theorem meth_receive (a : Addr) (w : World) : (method 403 92 (.pointer (some a)) "userplane/rlc.receive").run Tryz.prog w = .ok (142, .pointer (some a)) w := by kernel_rfl
theorem meth_submit (a : Addr) (w : World) : (method 403 92 (.pointer (some a)) "userplane/rlc.submit").run Tryz.prog w = .ok (143, .pointer (some a)) w := by kernel_rfl
theorem meth_tick (a : Addr) (w : World) : (method 403 92 (.pointer (some a)) "userplane/rlc.tick").run Tryz.prog w = .ok (144, .pointer (some a)) w := by kernel_rfl

set_option maxHeartbeats 400000 in
theorem qbytes_any (t : Nat) (x : Value) (A : Option Addr) (n c : Nat) (vs : List Value) (ps : List (List UInt8)) (w : World) (hb : Blk w t 96 #[.slice A n c, x]) (h : Sls w w.heap.size A n c vs ps) (hsum : sumLen ps ≤ 1152921504606846976) :
    Calls Tryz.prog 145 #[.pointer (some ⟨t, 0, none⟩)] w fun e w' => e = .returned (.int .i64 (sumLen ps)) ∧ w = w' := by
  have HL := Lib.hid h.len
  have HSM := Lib.hid hsum
  have hn63 : n ≤ 9223372036854775807 := by have := h.sl.cap; have := h.sl.mx; omega
  have x0 := hb.cell 0
  simp at x0
  clear hsum
  go_enter Tryz.func145, Tryz.ntmps145
  go_wp2
  go_loop [3, 11] (fun s i => ∃ k : Nat, k ≤ n ∧ i = .int .i64 k ∧ s = .int .i64 (sumLen (ps.take k))) (fun _ i => n - (intOf i).toNat)
  case atStart => exact ⟨0, Nat.zero_le _, rfl, rfl⟩
  case round =>
    obtain ⟨k, hk, rfl, rfl⟩ := hrel
    by_cases hlt : k < n
    · obtain ⟨ad, Ai, ci, rfl, hb, hc, hsl⟩ := h.get hlt
      have hs1 := sumLen_take ps k (by rw [HL.out]; exact hlt)
      have hle1 := Nat.le_trans (sumLen_take_le ps (k + 1)) HSM.out
      have hcap := hsl.cap
      have hmx := hsl.mx
      generalize ps[k]?.getD [] = p at *
      generalize sumLen (List.take k ps) = S at *
      have hle2 : S + p.length ≤ 1152921504606846976 := by omega
      have HS := Lib.hid hs1
      clear hs1 hle1
      go_wp2
      go_round
      case rel => exact ⟨k + 1, by omega, by go_num, by rw [HS.out]; go_num⟩
      case measure => simp [intOf]; omega
    · have e : ps.take k = ps := List.take_of_length_le (by rw [HL.out]; omega)
      rw [e]
      clear e
      go_wp2
      go_ret
      exact ⟨rfl, rfl⟩
theorem tbuffered_any (base g t : Nat) (v : Value) (vs : List Value) (sdus : List (List UInt8)) (cap : Nat) (w : World) (h : Ent w base g t v vs sdus cap) (hsum : sumLen sdus ≤ 1152921504606846976) :
    Calls Tryz.prog 139 #[.pointer (some ⟨t, 0, none⟩)] w fun e w' => e = .returned (.int .i64 (sumLen sdus)) ∧ w = w' := by
  obtain ⟨A, c, rfl, hs⟩ := h.sls
  have hq := qbytes_any t _ A sdus.length c vs sdus w h.blk hs hsum
  have x0 := h.blk.cell 0
  simp at x0
  have HQ := Lib.hid hq
  clear hq hs
  go_enter Tryz.func139, Tryz.ntmps139
  go_wp2_with (go_at_call 145; refine HQ.out.mono ?_; rintro e1 w1 ⟨rfl, rfl⟩)
  go_ret
  exact ⟨rfl, rfl⟩
set_option maxRecDepth 100000 in
theorem rbuffered_any (base g t : Nat) (v : Value) (vs : List Value) (sdus : List (List UInt8)) (cap : Nat) (w : World) (h : Ent w base g t v vs sdus cap) (hsum : sumLen sdus ≤ 1152921504606846976) :
    Calls Tryz.prog 18 #[.pointer (some ⟨g, 0, none⟩)] w fun e w' => e = .returned (.int .i64 (sumLen sdus)) ∧ w = w' := by
  have hno := none_any g 1 _ _ w h.ent
  have htb := tbuffered_any base g t v vs sdus cap w h hsum
  have x1 := h.ent.cell 1
  simp at x1
  have HN := Lib.hid hno
  have HTB := Lib.hid htb
  have hme := meth_buffered ⟨t, 0, none⟩
  clear hno htb
  go_enter Tryz.func18, Tryz.ntmps18
  go_wp2_with (first | (go_at_call 24; refine HN.out.mono ?_; rintro e1 w1 ⟨rfl, rfl⟩) | (go_at_call 139; refine HTB.out.mono ?_; rintro e1 w1 ⟨rfl, rfl⟩))
  go_ret
  exact ⟨rfl, rfl⟩
end Go.Proofs.YtbjajboodohabaaGreat.Tm
namespace Go.Proofs.YtbjajboodohabaaGreat.Tm
open Go.RowKit
attribute [local go_sem] Oper.semAt_some

theorem fits_any (A : Option Addr) (n c : Nat) (w : World) (_hnc : n ≤ c) (_hc : c ≤ 9223372036854775807) : Calls Tryz.prog 146 #[.slice A n c] w fun e w' => e = .returned (.bool (decide (0 < n) && decide (n ≤ 9000))) ∧ w = w' := by
  by_cases h0 : 0 < n
  · have e1 : (decide (0 < n) && decide (n ≤ 9000)) = decide ((n : Int) ≤ 9000) := by rw [Bool.eq_iff_iff]; simp [h0]; omega
    rw [e1]
    clear e1
    go_enter Tryz.func146, Tryz.ntmps146
    go_wp2
    go_ret
    exact ⟨rfl, rfl⟩
  · have e1 : (decide (0 < n) && decide (n ≤ 9000)) = false := by simp [h0]
    rw [e1]
    clear e1
    go_enter Tryz.func146, Tryz.ntmps146
    go_wp2
    go_ret
    exact ⟨rfl, rfl⟩
/-- what a queue's calls may change: its cells, its row -/
def MQ (g : Nat) (v : Value) (k : Nat) (_ : Obj) : Prop := k = g ∨ qBlock v = some k
/-- one SDU is put -/
def PutOne (w : World) (base g t : Nat) (v : Value) (cap : Nat) (sdus : List (List UInt8)) (x : List UInt8) (w' : World) : Prop :=
  ∃ v' vs', Ent w' base g t v' vs' (sdus ++ [x]) cap ∧ Kept (MQ t v) w w' ∧ (∀ k, qBlock v' = some k → qBlock v = some k ∨ w.heap.size ≤ k)
def NumD (x : Int) (w : World) (e : Ending) (w' : World) : Prop := e = .returned (.int .i64 x) ∧ Drew w w'

theorem tsubmit_size (base g t : Nat) (v : Value) (vs : List Value) (sdus : List (List UInt8)) (cap : Nat) (A : Option Addr) (n c : Nat) (w : World) (_h : Ent w base g t v vs sdus cap) (hn : n = 0 ∨ 9000 < n) (hnm : n ≤ c) (hcm : c ≤ 9223372036854775807) :
    Calls Tryz.prog 143 #[.pointer (some ⟨t, 0, none⟩), .slice A n c] w (NumD 2 w) := by
  have hf := fits_any A n c w hnm hcm
  have e1 : (decide (0 < n) && decide (n ≤ 9000)) = false := by simp; omega
  rw [e1] at hf
  have HF := Lib.hid hf
  clear hf e1 hn
  go_enter Tryz.func143, Tryz.ntmps143
  go_wp2_with (go_at_call 146; refine HF.out.mono ?_; rintro e1 w1 ⟨rfl, rfl⟩)
  go_ret
  exact ⟨rfl, Drew.refl _⟩
set_option maxHeartbeats 400000 in
theorem tsubmit_full (base g t : Nat) (v : Value) (vs : List Value) (sdus : List (List UInt8)) (cap : Nat) (A : Option Addr) (n c : Nat) (w : World) (h : Ent w base g t v vs sdus cap) (hn0 : 0 < n) (hn : n ≤ 9000) (hnm : n ≤ c) (hcm : c ≤ 9223372036854775807) (hf : cap ≤ sdus.length) :
    Calls Tryz.prog 143 #[.pointer (some ⟨t, 0, none⟩), .slice A n c] w (NumD 7 w) := by
  have hfi := fits_any A n c w hnm hcm
  have e1 : (decide (0 < n) && decide (n ≤ 9000)) = true := by simp; omega
  rw [e1] at hfi
  obtain ⟨Av, cv, rfl, hs⟩ := h.sls
  have hc1 := hs.sl.cap
  have hm1 := hs.sl.mx
  obtain ⟨x0, x1⟩ : w.cell? ⟨t, 0, none⟩ = some (.slice Av sdus.length cv) ∧ w.cell? ⟨t, 1, none⟩ = some (.int .i64 cap) := ⟨h.blk.cell 0, h.blk.cell 1⟩
  have d : decide (cap ≤ sdus.length) = true := by simpa using hf
  have HF := Lib.hid hfi
  clear hfi e1 hs h
  go_enter Tryz.func143, Tryz.ntmps143
  go_wp2_with (go_at_call 146; refine HF.out.mono ?_; rintro e1 w1 ⟨rfl, rfl⟩)
  go_quiet (fail)
  go_wp2
  go_ret
  exact ⟨rfl, ⟨_, rfl⟩⟩
set_option maxRecDepth 10000 in
set_option maxHeartbeats 1000000 in
theorem tsubmit_ok (base g t : Nat) (v : Value) (vs : List Value) (sdus : List (List UInt8)) (cap : Nat) (A : Option Addr) (n c : Nat) (x : List UInt8) (w : World) (h : Ent w base g t v vs sdus cap) (hgt : g ≠ t) (hx : Sl w w.heap.size A n c (bvs x)) (hn0 : 0 < n) (hn : n ≤ 9000) (hf : sdus.length < cap) (hsd : sdus.length ≤ 1000000) (hbase : base ≤ w.heap.size) :
    Calls Tryz.prog 143 #[.pointer (some ⟨t, 0, none⟩), .slice A n c] w fun e w' => e = .returned (.int .i64 0) ∧ PutOne w base g t v cap sdus x w' := by
  obtain ⟨j0, hj0, hm0, hm1, hm2⟩ := info_parts sl_info
  have hnm := hx.cap
  have hcm := hx.mx
  have hfi := fits_any A n c w hnm hcm
  have e1 : (decide (0 < n) && decide (n ≤ 9000)) = true := by simp; omega
  rw [e1] at hfi
  obtain ⟨Av, cv, rfl, hs⟩ := h.sls
  have hc1 := hs.sl.cap
  have hmx1 := hs.sl.mx
  obtain ⟨x0, x1⟩ : w.cell? ⟨t, 0, none⟩ = some (.slice Av sdus.length cv) ∧ w.cell? ⟨t, 1, none⟩ = some (.int .i64 cap) := ⟨h.blk.cell 0, h.blk.cell 1⟩
  have d : decide (cap ≤ sdus.length) = false := by simpa using hf
  have HF := Lib.hid hfi
  have HH := Lib.hid h
  have HX := Lib.hid hx
  clear hfi e1 hs h hx
  go_enter Tryz.func143, Tryz.ntmps143
  go_wp2_with (go_at_call 146; refine HF.out.mono ?_; rintro e1 w1 ⟨rfl, rfl⟩)
  go_quiet (fail)
  have h := HH.out.drewN nq
  have hx := HX.out.drewN nq
  have hK0 : Kept (MQ t (.slice Av sdus.length cv)) w (w.drewN nq) := (Kept.refl _ w).drewN nq
  have hsz0 : (w.drewN nq).heap.size = w.heap.size := (Drew.size ⟨nq, rfl⟩)
  have hx' : Sl (w.drewN nq) (w.drewN nq).heap.size A n c (bvs x) := by rw [hsz0]; exact hx
  have hbase' : base ≤ (w.drewN nq).heap.size := by rw [hsz0]; exact hbase
  have x0' : (w.drewN nq).cell? ⟨t, 0, none⟩ = some (.slice Av sdus.length cv) := x0
  generalize w.drewN nq = W at *
  have HSZ := Lib.hid hsz0
  have HK0 := Lib.hid hK0
  have hcl := clone_any A n c x W.drew hx'.drew (by omega)
  have HCL := Lib.hid hcl
  have hgl := h.blk.lt
  have f0 := h.blk.frozen 0
  clear hcl HF HH HX x0 x1 hx hsz0 hK0
  go_wp2_with fail
  go_region_law (first
    | ((refine step_append_q (by rfl) _ _ 47 (by rfl) j0 (.slice none 0 0) 24 und43 hj0 hm0 hm1 hm2 rfl (by rfl) ((h.row.drew.below hb1 (Nat.le_refl _)).alloc (.cells #[.slice A1 n c1] 40)) ⟨w1.heap.size, 0, none⟩ 1 (.slice A1 n c1) (by rfl) (World.news_of_block (heap_alloc_new w1 _) 0 _ rfl) rfl (by unfold maxLen; omega) (by omega) (by simp; have := hb1.size; simp at this; omega) ?_; intro v5 w5 hown5 hgrow5 hq5; obtain ⟨A5, c5, rfl, hs5⟩ := hown5.sl; have hG5 := ((h.blk.drew.below hb1 h.blk.lt).alloc (.cells #[.slice A1 n c1] 40)).grown hgrow5 (fun e => ((h.row.drew.below hb1 (Nat.le_refl _)).alloc (.cells #[.slice A1 n c1] 40)).blk_ne ((h.blk.drew.below hb1 h.blk.lt).alloc (.cells #[.slice A1 n c1] 40)) (by decide) e.symm); have hE5 := ((h.ent.drew.below hb1 h.ent.lt).alloc (.cells #[.slice A1 n c1] 40)).grown hgrow5 (fun e => ((h.row.drew.below hb1 (Nat.le_refl _)).alloc (.cells #[.slice A1 n c1] 40)).blk_ne ((h.ent.drew.below hb1 h.ent.lt).alloc (.cells #[.slice A1 n c1] 40)) (by decide) e.symm); have q2 := hG5.cell 0; have q3 := hG5.frozen 0; simp at q2))
    | ((go_simp; (with_reducible refine HCL.out.mono ?_); rintro e1 w1 ⟨v1, rfl, hv1, hb1⟩; obtain ⟨A1, c1, rfl, hs1, _⟩ := own_sl hv1; have y0' := (hb1.cell (p := ⟨t, 0, none⟩) hgl).trans x0'; have hgl1 : t < w1.heap.size := Nat.lt_of_lt_of_le hgl hb1.size; have y0'' := (World.cell?_alloc_lt w1 (.cells #[.slice A1 n c1] 40) ⟨t, 0, none⟩ hgl1).trans y0'; have f0' := (hb1.frozen (p := ⟨t, 0, none⟩) hgl).trans f0)))
  all_goals
    have hb1' : Below W.heap.size W w1 := ((Below.refl W.heap.size W).drew).trans hb1
    have hz1 := hb1'.size
    have hG6 := hG5.set_ 0 (.slice A5 (sdus.length + 1) c5)
    simp at hG6
    have hE6 := hE5.far (p := ⟨t, 0, none⟩) hgt (.slice A5 (sdus.length + 1) c5)
    have hQ6 := hown5.store (i := 0) hG5 (by decide) (.slice A5 (sdus.length + 1) c5)
    have hKw1 : Kept (MQ t (.slice Av sdus.length cv)) w w1 := HK0.out.trans ((Kept.of_below hb1').mono_at (fun k o ho hm => by have := lt_of_heap ho; omega))
    have hrow1 := (h.row.below hb1' (Nat.le_refl _)).alloc (.cells #[.slice A1 n c1] 40)
    have hK5 := (hKw1.alloc (.cells #[.slice A1 n c1] 40)).grown hgrow5 (fun k hk o ho => .inr hk)
    have hK6 : Kept (MQ t (.slice Av sdus.length cv)) w (w5.setCell ⟨t, 0, none⟩ (.slice A5 (sdus.length + 1) c5)) := hK5.setCell (p := ⟨t, 0, none⟩) (fun _ _ => .inl rfl) _
    have hq6 : ∀ k, qBlock (.slice A5 (sdus.length + 1) c5) = some k → qBlock (.slice Av sdus.length cv) = some k ∨ w.heap.size ≤ k := fun k hk => (hq5 k hk).imp id (fun h => by have := HSZ.out; simp at h; omega)
    have hne5 : ∀ {m : Nat} {v' : Value} {ys : List Value}, (w1.alloc (.cells #[.slice A1 n c1] 40)).ownsRow base 5 1 v' m ys → (w5.setCell ⟨t, 0, none⟩ (.slice A5 (sdus.length + 1) c5)).ownsRow base 5 1 v' m ys := fun {m v' ys} ho => by
      refine own_store (i := 0) (ho.kept hgrow5 ?_) hG5 (by decide) _
      rcases hvb : v'.ownBlock with _ | j
      · exact .inl rfl
      · refine .inr (fun e => ?_)
        obtain ⟨o2, ho2, ⟨cs2, fr2, rfl⟩, _⟩ := own_isRow ho hvb
        obtain ⟨cur, hh, _⟩ := hrow1.row e.symm
        rw [hh] at ho2
        cases ho2
    go_wp2_with fail
    go_ret
    refine ⟨rfl, _, _, ⟨hE6, hG6, by simpa using hQ6, fun i p hi => ?_⟩, hK6, hq6⟩
    rcases Nat.lt_or_ge i sdus.length with hlt | hge
    · rw [List.getElem?_append_left hlt] at hi
      obtain ⟨A', c', k1, k2⟩ := h.each i p hi
      exact ⟨A', c', by rw [List.getElem?_append_left (by rw [h.row.1]; exact hlt)]; exact k1, hne5 ((own_below k2 hb1' (Nat.le_refl _)).alloc _)⟩
    · have hi0 : i = sdus.length := by
        have := (List.getElem?_eq_some_iff.1 hi).1
        simp at this
        omega
      subst hi0
      simp at hi
      subst hi
      have hxl : x.length = n := by simpa using hx'.len
      subst hxl
      exact ⟨A1, c1, by rw [← h.row.1]; simp, hne5 ((own_base hv1 hbase').alloc _)⟩
end Go.Proofs.YtbjajboodohabaaGreat.Tm
namespace Go.Proofs.YtbjajboodohabaaGreat.Tm
open Go.RowKit
attribute [local go_sem] Oper.semAt_some

theorem rsubmit_of (base g t : Nat) (v : Value) (vs : List Value) (sdus : List (List UInt8)) (cap : Nat) (A : Option Addr) (n c : Nat) (w : World) (h : Ent w base g t v vs sdus cap) (k : Int) (Q : World → Prop)
    (hc : Calls Tryz.prog 143 #[.pointer (some ⟨t, 0, none⟩), .slice A n c] w fun e w' => e = .returned (.int .i64 k) ∧ Q w') :
    Calls Tryz.prog 9 #[.pointer (some ⟨g, 0, none⟩), .slice A n c] w fun e w' => e = .returned (.int .i64 k) ∧ Q w' := by
  have hno := none_any g 1 _ _ w h.ent
  have x1 := h.ent.cell 1
  simp at x1
  have HN := Lib.hid hno
  have HC := Lib.hid hc
  have hme := meth_submit ⟨t, 0, none⟩
  clear hno hc h
  go_enter Tryz.func9, Tryz.ntmps9
  go_wp2_with (first | (go_at_call 24; refine HN.out.mono ?_; rintro e1 w1 ⟨rfl, rfl⟩) | (go_at_call 143; refine HC.out.mono ?_; rintro e1 w1 ⟨rfl, hq⟩))
  go_ret
  exact ⟨rfl, hq⟩

/-- a grant that gives nothing -/
def NoGrant (w : World) (e : Ending) (w' : World) : Prop := e = .returned (.tuple #[.slice none 0 0, .int .i64 0]) ∧ w = w'
/-- a grant that gives the first SDU -/
def OneGrant (w : World) (base g t : Nat) (v : Value) (cap : Nat) (x : List UInt8) (rest : List (List UInt8)) (e : Ending) (w' : World) : Prop :=
  ∃ A c v' vs', e = .returned (.tuple #[.slice A x.length c, .int .i64 0]) ∧ w'.ownsRow base 5 1 (.slice A x.length c) x.length (bvs x) ∧ Ent w' base g t v' vs' rest cap ∧ qBlock v' = qBlock v ∧ Kept (fun k _ => k = t) w w'
theorem tgrant_empty (base g t : Nat) (v : Value) (vs : List Value) (cap : Nat) (now n : Int) (w : World) (h : Ent w base g t v vs [] cap) :
    Calls Tryz.prog 141 #[.pointer (some ⟨t, 0, none⟩), .int .i64 now, .int .i64 n] w (NoGrant w) := by
  obtain ⟨A, c, rfl, hs⟩ := h.sls
  have hcap := hs.sl.cap
  have hmx := hs.sl.mx
  dsimp only [List.length_nil] at hcap
  have x0 := h.blk.cell 0
  simp at x0
  clear hs h
  go_enter Tryz.func141, Tryz.ntmps141
  go_wp2
  go_ret2
  exact ⟨rfl, rfl⟩
theorem tgrant_long (base g t : Nat) (v : Value) (vs : List Value) (cap : Nat) (x : List UInt8) (rest : List (List UInt8)) (now n : Int) (w : World) (h : Ent w base g t v vs (x :: rest) cap) (hn : n < x.length) :
    Calls Tryz.prog 141 #[.pointer (some ⟨t, 0, none⟩), .int .i64 now, .int .i64 n] w (NoGrant w) := by
  obtain ⟨A, c, rfl, hs⟩ := h.sls
  have hcap := hs.sl.cap
  have hmx := hs.sl.mx
  obtain ⟨ad, Ai, ci, rfl, had, hc, hsl⟩ := hs.get (k := 0) (by simp)
  simp at hc hsl
  have hc' : w.cell? ad = some (.slice Ai x.length ci) := by simpa [Addr.add] using hc
  have hci := hsl.cap
  have hmi := hsl.mx
  have x0 := h.blk.cell 0
  simp at x0 hcap
  have hL1 : ((rest.length : Int) + 1 == 0) = false := by simp; omega
  have hn' : decide (n < (x.length : Int)) = true := by simp; omega
  clear hs h hsl
  go_enter Tryz.func141, Tryz.ntmps141
  go_wp2
  go_ret2
  exact ⟨rfl, rfl⟩
set_option maxRecDepth 10000 in
set_option maxHeartbeats 1000000 in
theorem tgrant_ok (base g t : Nat) (v : Value) (vs : List Value) (cap : Nat) (x : List UInt8) (rest : List (List UInt8)) (now n : Int) (w : World) (h : Ent w base g t v vs (x :: rest) cap) (hgt : g ≠ t) (hn : x.length ≤ n) :
    Calls Tryz.prog 141 #[.pointer (some ⟨t, 0, none⟩), .int .i64 now, .int .i64 n] w (OneGrant w base g t v cap x rest) := by
  obtain ⟨hlen, hrow⟩ := h.row
  rcases hrow with ⟨_, h0⟩ | ⟨gq, o, cq, cur, rfl, hbg, hh, hnc, hcm, hcs, htk⟩
  · simp at h0
  obtain ⟨v0, vs', rfl⟩ : ∃ v0 vs', vs = v0 :: vs' := by
    cases vs with
    | nil => simp at hlen
    | cons a b => exact ⟨a, b, rfl⟩
  obtain ⟨Ax, cx, hv0, hox⟩ := h.each 0 x rfl
  have hsx := own_sl' hox
  have hcap := hsx.cap
  have hmx := hsx.mx
  have hc0 := h.row.cells 0 _ hv0
  simp only [Nat.add_zero] at hc0
  obtain ⟨x0, x1⟩ : w.cell? ⟨t, 0, none⟩ = some (.slice (some ⟨gq, o, none⟩) (x :: rest).length cq) ∧ w.cell? ⟨t, 1, none⟩ = some (.int .i64 cap) := ⟨h.blk.cell 0, h.blk.cell 1⟩
  have f0 := h.blk.frozen 0
  have htail := OwnQ.tail (n := rest.length) (by simpa using h.row)
  have hgl := h.blk.lt
  unfold maxLen at hcm
  obtain ⟨vt, hvt⟩ : ∃ vt, vt = Value.slice (some (if cq = 1 then (⟨gq, o, none⟩ : Addr) else ⟨gq, o + 1, none⟩)) rest.length (cq - 1) := ⟨_, rfl⟩
  rw [← hvt] at htail
  have b1 := h.blk.set_ 0 vt
  simp at b1
  have t1 := htail.store (i := 0) h.blk (by decide) vt
  have e1 := h.ent.far (p := ⟨t, 0, none⟩) hgt vt
  have keep5 : ∀ {m : Nat} {v' : Value} {ys : List Value}, w.ownsRow base 5 1 v' m ys → (w.setCell ⟨t, 0, none⟩ vt).ownsRow base 5 1 v' m ys := fun ho => own_store (i := 0) ho h.blk (by decide) _
  have hent : Ent (w.setCell ⟨t, 0, none⟩ vt) base g t vt vs' rest cap :=
    ⟨e1, b1, t1, fun i p hi => let ⟨A', c', k1, k2⟩ := h.each (i + 1) p (by simpa using hi); ⟨A', c', by simpa using k1, keep5 k2⟩⟩
  have hk1 : Kept (fun k _ => k = t) w (w.setCell ⟨t, 0, none⟩ vt) := (Kept.refl _ w).setCell (p := ⟨t, 0, none⟩) (fun _ _ => rfl) _
  have HS := Lib.hid (keep5 hox)
  have HE := Lib.hid hent
  have HK := Lib.hid hk1
  have hL1 : ((rest.length : Int) + 1 == 0) = false := by simp; omega
  have hn' : decide (n < (x.length : Int)) = false := by simp; omega
  clear htk hh hcs hlen hv0 hox hsx h b1 t1 e1 keep5 hent hk1 htail
  by_cases hq : cq = 1
  · rw [if_pos hq] at hvt
    subst hvt hq
    go_enter Tryz.func141, Tryz.ntmps141
    go_wp2
    go_ret2
    exact ⟨_, _, _, _, rfl, HS.out, HE.out, rfl, HK.out⟩
  · rw [if_neg hq] at hvt
    subst hvt
    go_enter Tryz.func141, Tryz.ntmps141
    go_wp2
    go_ret2
    exact ⟨_, _, _, _, rfl, HS.out, HE.out, rfl, HK.out⟩
theorem rgrant_of (base g t : Nat) (v : Value) (vs : List Value) (sdus : List (List UInt8)) (cap : Nat) (now n : Int) (w : World) (h : Ent w base g t v vs sdus cap) (Q : Ending → World → Prop) (hQ : ∀ e w', Q e w' → ∃ b x, e = .returned (.tuple #[b, x]))
    (hc : Calls Tryz.prog 141 #[.pointer (some ⟨t, 0, none⟩), .int .i64 now, .int .i64 n] w Q) :
    Calls Tryz.prog 11 #[.pointer (some ⟨g, 0, none⟩), .int .i64 now, .int .i64 n] w Q := by
  have hno := none_any g 1 _ _ w h.ent
  have x1 := h.ent.cell 1
  simp at x1
  have HN := Lib.hid hno
  have HC := Lib.hid (hc.mono fun e w' hq => (⟨hQ e w' hq, hq⟩ : (∃ b x, e = .returned (.tuple #[b, x])) ∧ Q e w'))
  have hme := meth_grant ⟨t, 0, none⟩
  clear hno hc h hQ
  go_enter Tryz.func11, Tryz.ntmps11
  go_wp2_with (first | (go_at_call 24; refine HN.out.mono ?_; rintro e1 w1 ⟨rfl, rfl⟩) | (go_at_call 141; refine HC.out.mono ?_; rintro e1 w1 ⟨⟨b, x, rfl⟩, hq⟩))
  exact hq
end Go.Proofs.YtbjajboodohabaaGreat.Tm
namespace Go.Proofs.YtbjajboodohabaaGreat.Tm
open Go.RowKit
attribute [local go_sem] Oper.semAt_some

/-- the entity behind a call, in more memory -/
def EntOn (W : World) (base g t : Nat) (sdus : List (List UInt8)) (cap : Nat) (u : Value) (e : Ending) (w' : World) : Prop :=
  e = .returned u ∧ ∃ v vs, Ent w' base g t v vs sdus cap ∧ Below base W w'
theorem rsubmit_lit (W : World) (base g t : Nat) (v : Value) (vs : List Value) (sdus : List (List UInt8)) (cap : Nat) (h : Ent W base g t v vs sdus cap) (hbg : base ≤ t) (hgt : g ≠ t) (x : List UInt8) (cs : Array Value) (fr : Nat × Nat) (hcs : cs.toList = bvs x) (m : Nat) (hm : m = x.length)
    (hx0 : 0 < x.length) (hx9 : x.length ≤ 9000) (hf : sdus.length < cap) (hsd : sdus.length ≤ 1000000) :
    Calls Tryz.prog 9 #[.pointer (some ⟨g, 0, none⟩), .slice (some ⟨W.heap.size, 0, none⟩) m m] (W.alloc (.cells cs 5 fr)) (EntOn W base g t (sdus ++ [x]) cap (.int .i64 0)) := by
  subst hm
  have hbW : base ≤ W.heap.size := by have := h.blk.lt; omega
  have hs : Sl (W.alloc (.cells cs 5 fr)) (W.alloc (.cells cs 5 fr)).heap.size (some ⟨W.heap.size, 0, none⟩) (bvs x).length (bvs x).length (bvs x) := sl_lit (heap_new W _) hcs (by simp; omega)
  rw [bvs_length] at hs
  refine (rsubmit_of base g t v vs sdus cap _ x.length x.length _ (h.alloc _) 0 _ (tsubmit_ok base g t v vs sdus cap _ x.length x.length x _ (h.alloc _) hgt hs hx0 hx9 hf hsd (by simp; omega))).mono ?_
  rintro e w' ⟨rfl, v', vs', hs', hk', _⟩
  refine ⟨rfl, v', vs', hs', ((Below.refl base W).alloc hbW _).trans (hk'.below (B := base) ?_ (by simp; omega))⟩
  rintro k o (rfl | hk)
  · exact hbg
  · exact (h.row.lt hk).1
theorem rsubmit_fullL (W : World) (base g t : Nat) (v : Value) (vs : List Value) (sdus : List (List UInt8)) (cap : Nat) (h : Ent W base g t v vs sdus cap) (hbg : base ≤ t) (x : List UInt8) (cs : Array Value) (fr : Nat × Nat) (_hcs : cs.toList = bvs x) (m : Nat) (hm : m = x.length)
    (hx0 : 0 < x.length) (hx9 : x.length ≤ 9000) (hf : cap ≤ sdus.length) :
    Calls Tryz.prog 9 #[.pointer (some ⟨g, 0, none⟩), .slice (some ⟨W.heap.size, 0, none⟩) m m] (W.alloc (.cells cs 5 fr)) (EntOn W base g t sdus cap (.int .i64 7)) := by
  subst hm
  have hbW : base ≤ W.heap.size := by have := h.blk.lt; omega
  refine (rsubmit_of base g t v vs sdus cap _ x.length x.length _ (h.alloc _) 7 _ (tsubmit_full base g t v vs sdus cap _ x.length x.length _ (h.alloc _) hx0 hx9 (Nat.le_refl _) (by omega) hf)).mono ?_
  rintro e w' ⟨rfl, q, rfl⟩
  exact ⟨rfl, v, vs, (h.alloc _).drewN q, ((Below.refl base W).alloc hbW _).drewN q⟩
theorem noGrant_two {w : World} : ∀ e w', NoGrant w e w' → ∃ b x, e = .returned (.tuple #[b, x]) := fun _ _ h => ⟨_, _, h.1⟩
theorem oneGrant_two {w : World} {base g t : Nat} {v : Value} {cap : Nat} {x : List UInt8} {rest : List (List UInt8)} : ∀ e w', OneGrant w base g t v cap x rest e w' → ∃ b y, e = .returned (.tuple #[b, y]) := fun _ _ ⟨_, _, _, _, h, _⟩ => ⟨_, _, h⟩

set_option maxRecDepth 10000 in
set_option maxHeartbeats 1000000 in
theorem known_any (w : World) : Calls Tryz.prog 5 #[] w (IsTrue w) := by
  have hne := rnew_ok 2 0 0 0 0 0 0 0 0 w (by omega) (by omega)
  unfold cfg at hne
  have kc := fun (w : World) (C : Array Value) (n c : Nat) => Lib.run_convert_bytes_const (P := Tryz.prog) w 40 5 C n c und51 und5
  have HNE := Lib.hid hne
  clear hne
  go_enter Tryz.func5, Tryz.ntmps5
  go_wp2_with fail
  refine HNE.out.mono ?_
  rintro e1 w1 ⟨g, t, rfl, hg1, ht1, hgl, htl, hgt, hb1⟩
  have h1 : Ent w1 w.heap.size g t (.slice none 0 0) [] [] 2 := ⟨hg1, ht1, ownQ_nil _ _ _, fun i p hi => by simp at hi⟩
  obtain ⟨B, hB⟩ : ∃ B, B = w.heap.size := ⟨_, rfl⟩
  rw [← hB] at h1 htl hb1
  have HB := Lib.hid hB
  clear hB hg1 ht1 hgl
  go_wp2_with fail
  refine (rsubmit_lit w1 B g t _ _ [] 2 h1 htl hgt [97, 98, 99] _ _ rfl 3 rfl (by decide) (by decide) (by decide) (by decide)).mono ?_
  rintro e2 w2 ⟨rfl, v2, vs2, h2, hb2⟩
  go_wp2_with fail
  refine (rsubmit_lit w2 B g t _ _ [[97, 98, 99]] 2 h2 htl hgt [100] _ _ rfl 1 rfl (by decide) (by decide) (by decide) (by decide)).mono ?_
  rintro e3 w3 ⟨rfl, v3, vs3, h3, hb3⟩
  go_wp2_with fail
  refine (rsubmit_fullL w3 B g t _ _ [[97, 98, 99], [100]] 2 h3 htl [101] _ _ rfl 1 rfl (by decide) (by decide) (by decide)).mono ?_
  rintro e4 w4 ⟨rfl, v4, vs4, h4, hb4⟩
  go_wp2_with fail
  refine (rgrant_of B g t _ _ _ 2 0 2 w4 h4 _ noGrant_two (tgrant_long B g t _ _ 2 [97, 98, 99] [[100]] 0 2 w4 h4 (by decide))).mono ?_
  rintro e5 w5 ⟨rfl, rfl⟩
  go_wp2_with fail
  refine (rgrant_of B g t _ _ _ 2 0 3 w4 h4 _ oneGrant_two (tgrant_ok B g t _ _ 2 [97, 98, 99] [[100]] 0 3 w4 h4 hgt (by decide))).mono ?_
  rintro e6 w6 ⟨A6, c6, v6, vs6, rfl, ho6, h6, _, hk6⟩
  have hb6 : Below B w4 w6 := hk6.below (fun k o e => by omega) (by have := h4.blk.lt; omega)
  have kc6 : (convert 40 9 (.slice A6 3 c6)).run Tryz.prog w6 = .ok (.string ⟨#[97, 98, 99]⟩) w6 := conv_sl (own_sl' ho6)
  have hbf := rbuffered_any B g t v6 vs6 [[100]] 2 w6 h6 (by decide)
  have HBF := Lib.hid hbf
  have HBB := Lib.hid (((((hb1.trans hb2).trans hb3).trans hb4)).trans hb6)
  clear h1 h2 h3 h4 h6 hb1 hb2 hb3 hb4 hb6 hk6 ho6 hbf kc
  go_wp2_with (go_at_call 18; refine HBF.out.mono ?_; rintro e1 w1 ⟨rfl, rfl⟩)
  go_ret
  refine ⟨rfl, ?_⟩
  rw [← HB.out]
  exact HBB.out
end Go.Proofs.YtbjajboodohabaaGreat.Tm
