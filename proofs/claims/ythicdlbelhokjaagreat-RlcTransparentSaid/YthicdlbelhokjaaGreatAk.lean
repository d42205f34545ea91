/- The reference's queue: Submit, Grant, Bytes. -/
import Derived.Test.YthicdlbelhokjaaGreatAi
namespace Go.Proofs.YthicdlbelhokjaaGreat
open Go.RowKit
attribute [local go_sem] Oper.semAt_some

/-- the reference's queue -/
structure Ref (w : World) (base q : Nat) (u : Value) (us : List Value) (sdus : List (List UInt8)) (cap : Nat) : Prop where
  blk : Blk w q 50 #[.int .i64 cap, u]
  row : OwnQ w base 51 u sdus.length us
  each : ∀ (i : Nat) (p : List UInt8), sdus[i]? = some p → ∃ A c, us[i]? = some (.slice A p.length c) ∧ Sl w base A p.length c (bvs p)
theorem Ref.below {w w' : World} {base q B : Nat} {u : Value} {us : List Value} {sdus : List (List UInt8)} {cap : Nat} (h : Ref w base q u us sdus cap) (hb : Below B w w') (hB : w.heap.size ≤ B) : Ref w' base q u us sdus cap :=
  ⟨h.blk.below hb (by have := h.blk.lt; omega), h.row.below hb hB, fun i p hi => by
    obtain ⟨A, c, e, hs⟩ := h.each i p hi
    refine ⟨A, c, e, hs.len, hs.cap, hs.mx, fun hn => ?_⟩
    obtain ⟨ad, ea, hl, hc⟩ := hs.at_ hn
    refine ⟨ad, ea, hl, fun j x hx => ?_⟩
    have h1 := hc j x hx
    have h2 := World.block_lt_of_cell? w _ h1
    exact (hb.cell (by omega)).trans h1⟩
theorem Ref.drewN {w : World} {base q : Nat} {u : Value} {us : List Value} {sdus : List (List UInt8)} {cap : Nat} (h : Ref w base q u us sdus cap) (k : Nat) : Ref (w.drewN k) base q u us sdus cap :=
  ⟨h.blk, h.row, fun i p hi => let ⟨A, c, e, hs⟩ := h.each i p hi; ⟨A, c, e, hs.drewN k⟩⟩
theorem Ref.sls {w : World} {base q : Nat} {u : Value} {us : List Value} {sdus : List (List UInt8)} {cap : Nat} (h : Ref w base q u us sdus cap) (hb : base ≤ w.heap.size) : ∃ A c, u = .slice A sdus.length c ∧ Sls w w.heap.size A sdus.length c us sdus := by
  obtain ⟨A, c, e, hs⟩ := h.row.sl
  refine ⟨A, c, e, hs, rfl, fun i p hi => ?_⟩
  obtain ⟨A', c', h1, h2⟩ := h.each i p hi
  exact ⟨A', c', h1, h2.more hb⟩

theorem qsubmit_bad (q : Nat) (A : Option Addr) (n c : Nat) (w : World) (hn : n = 0 ∨ 9000 < n) (hnm : n ≤ c) (_hcm : c ≤ 9223372036854775807) :
    Calls Tryz.prog 18 #[.pointer (some ⟨q, 0, none⟩), .slice A n c] w (NumD 2 w) := by
  rcases hn with rfl | hn
  · go_enter Tryz.func18, Tryz.ntmps18
    go_wp2
    go_ret
    exact ⟨rfl, Drew.refl _⟩
  · have d0 : ((n : Int) == 0) = false := by simp; omega
    have d1 : decide ((9000 : Int) < n) = true := by simp; omega
    go_enter Tryz.func18, Tryz.ntmps18
    go_wp2
    go_ret
    exact ⟨rfl, Drew.refl _⟩
set_option maxHeartbeats 400000 in
theorem qsubmit_full (base q : Nat) (u : Value) (us : List Value) (sdus : List (List UInt8)) (cap : Nat) (A : Option Addr) (n c : Nat) (w : World) (h : Ref w base q u us sdus cap) (hb : base ≤ w.heap.size) (hn0 : 0 < n) (hn : n ≤ 9000) (_hnm : n ≤ c) (_hcm : c ≤ 9223372036854775807) (hf : cap ≤ sdus.length) :
    Calls Tryz.prog 18 #[.pointer (some ⟨q, 0, none⟩), .slice A n c] w (NumD 7 w) := by
  obtain ⟨Av, cv, rfl, hs⟩ := h.sls hb
  have hc1 := hs.sl.cap
  have hm1 := hs.sl.mx
  obtain ⟨x0, x1⟩ : w.cell? ⟨q, 0, none⟩ = some (.int .i64 cap) ∧ w.cell? ⟨q, 1, none⟩ = some (.slice Av sdus.length cv) := ⟨h.blk.cell 0, h.blk.cell 1⟩
  have d0 : ((n : Int) == 0) = false := by simp; omega
  have d1 : decide ((9000 : Int) < n) = false := by simp; omega
  have d : decide (cap ≤ sdus.length) = true := by simpa using hf
  clear hs h
  go_enter Tryz.func18, Tryz.ntmps18
  go_wp2_with fail
  go_quiet (fail)
  go_wp2
  go_ret
  exact ⟨rfl, ⟨_, rfl⟩⟩
/-- one SDU is put -/
def QPut (w : World) (base q : Nat) (u : Value) (cap : Nat) (sdus : List (List UInt8)) (us : List Value) (x : Value) (w' : World) : Prop :=
  ∃ u', Blk w' q 50 #[.int .i64 cap, u'] ∧ OwnQ w' base 51 u' (sdus.length + 1) (us ++ [x]) ∧ Kept (MQ q u) w w' ∧ (∀ k, qBlock u' = some k → qBlock u = some k ∨ w.heap.size ≤ k)
set_option maxRecDepth 10000 in
set_option maxHeartbeats 1000000 in
theorem qsubmit_ok (base q : Nat) (u : Value) (us : List Value) (sdus : List (List UInt8)) (cap : Nat) (A : Option Addr) (n c : Nat) (w : World) (h : Ref w base q u us sdus cap) (hb : base ≤ w.heap.size) (hn0 : 0 < n) (hn : n ≤ 9000) (_hnm : n ≤ c) (_hcm : c ≤ 9223372036854775807) (hf : sdus.length < cap) (hsd : sdus.length ≤ 1000000) :
    Calls Tryz.prog 18 #[.pointer (some ⟨q, 0, none⟩), .slice A n c] w fun e w' => e = .returned (.int .i64 0) ∧ QPut w base q u cap sdus us (.slice A n c) w' := by
  obtain ⟨j0, hj0, hm0, hm1', hm2⟩ := info_parts sl_info
  obtain ⟨Av, cv, rfl, hs⟩ := h.sls hb
  have hc1 := hs.sl.cap
  have hm1 := hs.sl.mx
  obtain ⟨x0, x1⟩ : w.cell? ⟨q, 0, none⟩ = some (.int .i64 cap) ∧ w.cell? ⟨q, 1, none⟩ = some (.slice Av sdus.length cv) := ⟨h.blk.cell 0, h.blk.cell 1⟩
  have d0 : ((n : Int) == 0) = false := by simp; omega
  have d1 : decide ((9000 : Int) < n) = false := by simp; omega
  have d : decide (cap ≤ sdus.length) = false := by simpa using hf
  have HH := Lib.hid h
  clear hs h
  go_enter Tryz.func18, Tryz.ntmps18
  go_wp2_with fail
  go_quiet (fail)
  have h := HH.out.drewN nq
  have hK0 : Kept (MQ q (.slice Av sdus.length cv)) w (w.drewN nq) := (Kept.refl _ w).drewN nq
  have hsz0 : (w.drewN nq).heap.size = w.heap.size := (Drew.size ⟨nq, rfl⟩)
  have x1' : (w.drewN nq).cell? ⟨q, 1, none⟩ = some (.slice Av sdus.length cv) := x1
  generalize w.drewN nq = W at *
  have HSZ := Lib.hid hsz0
  have HK0 := Lib.hid hK0
  have HW := Lib.hid h
  clear hsz0 hK0 h HH x0 x1
  go_wp2_with (at_builtin; refine wpList_append_q rfl (.tmp 27) (.tmp 29) 43 rfl j0 (.slice none 0 0) 24 und43 hj0 hm0 hm1' hm2 rfl rfl (HW.out.row.alloc (.cells #[.slice A n c] 51)) ⟨W.heap.size, 0, none⟩ 1 (.slice A n c) rfl (World.news_of_block (heap_alloc_new W _) 0 _ rfl) rfl ?c1 ?c2 ?c3 ?_)
  case c1 => unfold maxLen; omega
  case c2 => omega
  case c3 => have := HSZ.out; simp; omega
  intro u5 w5 hown5 hgrow5 hq5
  obtain ⟨A5, c5, rfl, hs5⟩ := hown5.sl
  have hG5 := (HW.out.blk.alloc (.cells #[.slice A n c] 51)).grown hgrow5 (fun e => (HW.out.row.alloc (.cells #[.slice A n c] 51)).blk_ne (HW.out.blk.alloc (.cells #[.slice A n c] 51)) (by decide) e.symm)
  obtain ⟨q0, q1⟩ : w5.cell? ⟨q, 0, none⟩ = some (.int .i64 cap) ∧ w5.cell? ⟨q, 1, none⟩ = some (.slice Av sdus.length cv) := ⟨hG5.cell 0, hG5.cell 1⟩
  have q3 := hG5.frozen 1
  have hG6 := hG5.set_ 1 (.slice A5 (sdus.length + 1) c5)
  simp at hG6
  have hQ6 := hown5.store (i := 1) hG5 (by decide) (.slice A5 (sdus.length + 1) c5)
  have hK6 : Kept (MQ q (.slice Av sdus.length cv)) w (w5.setCell ⟨q, 1, none⟩ (.slice A5 (sdus.length + 1) c5)) := ((HK0.out.alloc (.cells #[.slice A n c] 51)).grown hgrow5 (fun k hk o ho => .inr hk)).setCell (p := ⟨q, 1, none⟩) (fun _ _ => .inl rfl) _
  have hq6 : ∀ k, qBlock (.slice A5 (sdus.length + 1) c5) = some k → qBlock (.slice Av sdus.length cv) = some k ∨ w.heap.size ≤ k := fun k hk => (hq5 k hk).imp id (fun h => by have := HSZ.out; omega)
  have HG6 := Lib.hid hG6
  have HQ6 := Lib.hid hQ6
  have HK6 := Lib.hid hK6
  have Hq6 := Lib.hid hq6
  clear hG6 hQ6 hK6 hq6 hown5 hgrow5 hq5 hG5 hs5
  go_wp2
  go_ret
  exact ⟨rfl, _, HG6.out, HQ6.out, HK6.out, Hq6.out⟩
/-- the first SDU is taken -/
def QGot (w : World) (base q : Nat) (u : Value) (us : List Value) (cap : Nat) (x : List UInt8) (rest : List (List UInt8)) (e : Ending) (w' : World) : Prop :=
  ∃ A c u' us', e = .returned (.slice A x.length c) ∧ Sl w' base A x.length c (bvs x) ∧ Ref w' base q u' us' rest cap ∧ qBlock u' = qBlock u ∧ Kept (fun k _ => k = q) w w' ∧ ∀ i : Nat, us'[i]? = us[i + 1]?
theorem qgrant_empty (base q : Nat) (u : Value) (us : List Value) (cap : Nat) (n : Int) (w : World) (h : Ref w base q u us [] cap) (hb : base ≤ w.heap.size) :
    Calls Tryz.prog 20 #[.pointer (some ⟨q, 0, none⟩), .int .i64 n] w fun e w' => e = .returned (.slice none 0 0) ∧ w = w' := by
  obtain ⟨A, c, rfl, hs⟩ := h.sls hb
  have hcap := hs.sl.cap
  have hmx := hs.sl.mx
  dsimp only [List.length_nil] at hcap
  have x1 := h.blk.cell 1
  simp at x1
  clear hs h
  go_enter Tryz.func20, Tryz.ntmps20
  go_wp2
  go_ret
  exact ⟨rfl, rfl⟩
theorem qgrant_long (base q : Nat) (u : Value) (us : List Value) (cap : Nat) (x : List UInt8) (rest : List (List UInt8)) (n : Int) (w : World) (h : Ref w base q u us (x :: rest) cap) (hb : base ≤ w.heap.size) (hn : n < x.length) :
    Calls Tryz.prog 20 #[.pointer (some ⟨q, 0, none⟩), .int .i64 n] w fun e w' => e = .returned (.slice none 0 0) ∧ w = w' := by
  obtain ⟨A, c, rfl, hs⟩ := h.sls hb
  have hcap := hs.sl.cap
  have hmx := hs.sl.mx
  obtain ⟨ad, Ai, ci, rfl, had, hc, hsl⟩ := hs.get (k := 0) (by simp)
  simp at hc hsl
  have hc' : w.cell? ad = some (.slice Ai x.length ci) := by simpa [Addr.add] using hc
  have hci := hsl.cap
  have hmi := hsl.mx
  have x1 := h.blk.cell 1
  simp at x1 hcap
  have hL1 : ((rest.length : Int) + 1 == 0) = false := by simp; omega
  have hn' : decide (n < (x.length : Int)) = true := by simp; omega
  clear hs h hsl
  go_enter Tryz.func20, Tryz.ntmps20
  go_wp2
  go_ret
  exact ⟨rfl, rfl⟩
set_option maxRecDepth 10000 in
set_option maxHeartbeats 1000000 in
theorem qgrant_ok (base q : Nat) (u : Value) (us : List Value) (cap : Nat) (x : List UInt8) (rest : List (List UInt8)) (n : Int) (w : World) (h : Ref w base q u us (x :: rest) cap) (hqb : base ≤ q) (hn : x.length ≤ n) :
    Calls Tryz.prog 20 #[.pointer (some ⟨q, 0, none⟩), .int .i64 n] w (QGot w base q u us cap x rest) := by
  obtain ⟨hlen, hrow⟩ := h.row
  rcases hrow with ⟨_, h0⟩ | ⟨gq, o, cq, cur, rfl, hbg, hh, hnc, hcm, hcs, htk⟩
  · simp at h0
  obtain ⟨v0, us', rfl⟩ : ∃ v0 us', us = v0 :: us' := by
    cases us with
    | nil => simp at hlen
    | cons a b => exact ⟨a, b, rfl⟩
  obtain ⟨Ax, cx, hv0, hsx⟩ := h.each 0 x rfl
  have hcap := hsx.cap
  have hmx := hsx.mx
  have hc0 := h.row.cells 0 _ hv0
  simp only [Nat.add_zero] at hc0
  obtain ⟨x0, x1⟩ : w.cell? ⟨q, 0, none⟩ = some (.int .i64 cap) ∧ w.cell? ⟨q, 1, none⟩ = some (.slice (some ⟨gq, o, none⟩) (x :: rest).length cq) := ⟨h.blk.cell 0, h.blk.cell 1⟩
  have f1 := h.blk.frozen 1
  have htail := OwnQ.tail (n := rest.length) (by simpa using h.row)
  have hgl := h.blk.lt
  unfold maxLen at hcm
  obtain ⟨vt, hvt⟩ : ∃ vt, vt = Value.slice (some (if cq = 1 then (⟨gq, o, none⟩ : Addr) else ⟨gq, o + 1, none⟩)) rest.length (cq - 1) := ⟨_, rfl⟩
  rw [← hvt] at htail
  have b1 := h.blk.set_ 1 vt
  simp at b1
  have t1 := htail.store (i := 1) h.blk (by decide) vt
  have keepS : ∀ {A : Option Addr} {n c : Nat} {xs : List Value}, Sl w base A n c xs → Sl (w.setCell ⟨q, 1, none⟩ vt) base A n c xs := fun hs => hs.setCell (p := ⟨q, 1, none⟩) hqb _
  have href : Ref (w.setCell ⟨q, 1, none⟩ vt) base q vt us' rest cap :=
    ⟨b1, t1, fun i p hi => let ⟨A', c', k1, k2⟩ := h.each (i + 1) p (by simpa using hi); ⟨A', c', by simpa using k1, keepS k2⟩⟩
  have hk1 : Kept (fun k _ => k = q) w (w.setCell ⟨q, 1, none⟩ vt) := (Kept.refl _ w).setCell (p := ⟨q, 1, none⟩) (fun _ _ => rfl) _
  have HS := Lib.hid (keepS hsx)
  have HE := Lib.hid href
  have HK := Lib.hid hk1
  have hL1 : ((rest.length : Int) + 1 == 0) = false := by simp; omega
  have hn' : decide (n < (x.length : Int)) = false := by simp; omega
  clear htk hh hcs hlen hv0 hsx h b1 t1 keepS href hk1 htail
  by_cases hq : cq = 1
  · rw [if_pos hq] at hvt
    subst hvt hq
    go_enter Tryz.func20, Tryz.ntmps20
    go_wp2
    go_ret
    exact ⟨_, _, _, _, rfl, HS.out, HE.out, rfl, HK.out, fun i => by simp⟩
  · rw [if_neg hq] at hvt
    subst hvt
    go_enter Tryz.func20, Tryz.ntmps20
    go_wp2
    go_ret
    exact ⟨_, _, _, _, rfl, HS.out, HE.out, rfl, HK.out, fun i => by simp⟩
set_option maxHeartbeats 400000 in
theorem qbytes2_any (base q : Nat) (u : Value) (us : List Value) (sdus : List (List UInt8)) (cap : Nat) (w : World) (h0 : Ref w base q u us sdus cap) (hb : base ≤ w.heap.size) (hsum : sumLen sdus ≤ 1152921504606846976) :
    Calls Tryz.prog 24 #[.pointer (some ⟨q, 0, none⟩)] w fun e w' => e = .returned (.int .i64 (sumLen sdus)) ∧ w = w' := by
  obtain ⟨A, c, rfl, h⟩ := h0.sls hb
  have HSM := Lib.hid hsum
  obtain ⟨n, hn⟩ : ∃ n, n = sdus.length := ⟨_, rfl⟩
  have x1 := h0.blk.cell 1
  rw [← hn] at h x1
  have HL := Lib.hid hn
  have hcp := h.sl.cap
  have hmx0 := h.sl.mx
  simp at x1
  clear hsum h0 hn
  go_enter Tryz.func24, Tryz.ntmps24
  go_wp2
  go_loop [3, 4] (fun s i => ∃ k : Nat, k ≤ n ∧ i = .int .i64 k ∧ s = .int .i64 (sumLen (sdus.take k))) (fun _ i => n - (intOf i).toNat)
  case atStart => exact ⟨0, Nat.zero_le _, rfl, rfl⟩
  case round =>
    obtain ⟨k, hk, rfl, rfl⟩ := hrel
    by_cases hlt : k < n
    · obtain ⟨ad, Ai, ci, rfl, hb, hc, hsl⟩ := h.get hlt
      have hs1 := sumLen_take sdus k (by rw [← HL.out]; exact hlt)
      have hle1 := Nat.le_trans (sumLen_take_le sdus (k + 1)) HSM.out
      have hcap := hsl.cap
      have hmx := hsl.mx
      generalize sdus[k]?.getD [] = p at *
      generalize sumLen (List.take k sdus) = S at *
      have hle2 : S + p.length ≤ 1152921504606846976 := by omega
      have HS := Lib.hid hs1
      clear hs1 hle1
      go_wp2
      go_round
      case rel => exact ⟨k + 1, by omega, by go_num, by rw [HS.out]; go_num⟩
      case measure => simp [intOf]; omega
    · have e : sdus.take k = sdus := List.take_of_length_le (by rw [← HL.out]; omega)
      rw [e]
      clear e
      go_wp2
      go_ret
      exact ⟨rfl, rfl⟩
end Go.Proofs.YthicdlbelhokjaaGreat
