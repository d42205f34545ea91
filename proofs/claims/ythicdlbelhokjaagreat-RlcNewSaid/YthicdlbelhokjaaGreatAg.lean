/- rlc: Submit, Grant of an entity of transparent mode. -/
import Derived.Test.YthicdlbelhokjaaGreatAf
namespace Go.Proofs.YthicdlbelhokjaaGreat
open Go.RowKit
attribute [local go_sem] Oper.semAt_some

theorem rsubmit_of (base g t : Nat) (v : Value) (vs : List Value) (sdus : List (List UInt8)) (cap : Nat) (A : Option Addr) (n c : Nat) (w : World) (h : Ent w base g t v vs sdus cap) (k : Int) (Q : World → Prop)
    (hc : Calls Tryz.prog 239 #[.pointer (some ⟨t, 0, none⟩), .slice A n c] w fun e w' => e = .returned (.int .i64 k) ∧ Q w') :
    Calls Tryz.prog 17 #[.pointer (some ⟨g, 0, none⟩), .slice A n c] w fun e w' => e = .returned (.int .i64 k) ∧ Q w' := by
  have hno := none_any g 1 _ _ w h.ent
  have x1 := h.ent.cell 1
  simp at x1
  have HN := Lib.hid hno
  have HC := Lib.hid hc
  have hme := meth_submit ⟨t, 0, none⟩
  clear hno hc h
  go_enter Tryz.func17, Tryz.ntmps17
  go_wp2_with (first | (go_at_call 36; refine HN.out.mono ?_; rintro e1 w1 ⟨rfl, rfl⟩) | (go_at_call 239; refine HC.out.mono ?_; rintro e1 w1 ⟨rfl, hq⟩))
  go_ret
  exact ⟨rfl, hq⟩

/-- a grant that gives nothing -/
def NoGrant (w : World) (e : Ending) (w' : World) : Prop := e = .returned (.tuple #[.slice none 0 0, .int .i64 0]) ∧ w = w'
/-- a grant that gives the first SDU -/
def OneGrant (w : World) (base g t : Nat) (v : Value) (cap : Nat) (x : List UInt8) (rest : List (List UInt8)) (e : Ending) (w' : World) : Prop :=
  ∃ A c v' vs', e = .returned (.tuple #[.slice A x.length c, .int .i64 0]) ∧ w'.ownsRow base 5 1 (.slice A x.length c) x.length (bvs x) ∧ Ent w' base g t v' vs' rest cap ∧ qBlock v' = qBlock v ∧ Kept (fun k _ => k = t) w w'
theorem tgrant_empty (base g t : Nat) (v : Value) (vs : List Value) (cap : Nat) (now n : Int) (w : World) (h : Ent w base g t v vs [] cap) :
    Calls Tryz.prog 237 #[.pointer (some ⟨t, 0, none⟩), .int .i64 now, .int .i64 n] w (NoGrant w) := by
  obtain ⟨A, c, rfl, hs⟩ := h.sls
  have hcap := hs.sl.cap
  have hmx := hs.sl.mx
  dsimp only [List.length_nil] at hcap
  have x0 := h.blk.cell 0
  simp at x0
  clear hs h
  go_enter Tryz.func237, Tryz.ntmps237
  go_wp2
  go_ret2
  exact ⟨rfl, rfl⟩
theorem tgrant_long (base g t : Nat) (v : Value) (vs : List Value) (cap : Nat) (x : List UInt8) (rest : List (List UInt8)) (now n : Int) (w : World) (h : Ent w base g t v vs (x :: rest) cap) (hn : n < x.length) :
    Calls Tryz.prog 237 #[.pointer (some ⟨t, 0, none⟩), .int .i64 now, .int .i64 n] w (NoGrant w) := by
  obtain ⟨A, c, rfl, hs⟩ := h.sls
  have hcap := hs.sl.cap
  have hmx := hs.sl.mx
  obtain ⟨ad, Ai, ci, rfl, had, hc, hsl⟩ := hs.get (k := 0) (by simp)
  simp at hc hsl
  have hc' : w.cell? ad = some (.slice Ai x.length ci) := by simpa [Addr.add] using hc
  have hci := hsl.cap
  have hmi := hsl.mx
  have x0 := h.blk.cell 0
  simp at x0 hcap
  have hL1 : ((rest.length : Int) + 1 == 0) = false := by simp; omega
  have hn' : decide (n < (x.length : Int)) = true := by simp; omega
  clear hs h hsl
  go_enter Tryz.func237, Tryz.ntmps237
  go_wp2
  go_ret2
  exact ⟨rfl, rfl⟩
set_option maxRecDepth 10000 in
set_option maxHeartbeats 1000000 in
theorem tgrant_ok (base g t : Nat) (v : Value) (vs : List Value) (cap : Nat) (x : List UInt8) (rest : List (List UInt8)) (now n : Int) (w : World) (h : Ent w base g t v vs (x :: rest) cap) (hgt : g ≠ t) (hn : x.length ≤ n) :
    Calls Tryz.prog 237 #[.pointer (some ⟨t, 0, none⟩), .int .i64 now, .int .i64 n] w (OneGrant w base g t v cap x rest) := by
  obtain ⟨hlen, hrow⟩ := h.row
  rcases hrow with ⟨_, h0⟩ | ⟨gq, o, cq, cur, rfl, hbg, hh, hnc, hcm, hcs, htk⟩
  · simp at h0
  obtain ⟨v0, vs', rfl⟩ : ∃ v0 vs', vs = v0 :: vs' := by
    cases vs with
    | nil => simp at hlen
    | cons a b => exact ⟨a, b, rfl⟩
  obtain ⟨Ax, cx, hv0, hox⟩ := h.each 0 x rfl
  have hsx := own_sl' hox
  have hcap := hsx.cap
  have hmx := hsx.mx
  have hc0 := h.row.cells 0 _ hv0
  simp only [Nat.add_zero] at hc0
  obtain ⟨x0, x1⟩ : w.cell? ⟨t, 0, none⟩ = some (.slice (some ⟨gq, o, none⟩) (x :: rest).length cq) ∧ w.cell? ⟨t, 1, none⟩ = some (.int .i64 cap) := ⟨h.blk.cell 0, h.blk.cell 1⟩
  have f0 := h.blk.frozen 0
  have htail := OwnQ.tail (n := rest.length) (by simpa using h.row)
  have hgl := h.blk.lt
  unfold maxLen at hcm
  obtain ⟨vt, hvt⟩ : ∃ vt, vt = Value.slice (some (if cq = 1 then (⟨gq, o, none⟩ : Addr) else ⟨gq, o + 1, none⟩)) rest.length (cq - 1) := ⟨_, rfl⟩
  rw [← hvt] at htail
  have b1 := h.blk.set_ 0 vt
  simp at b1
  have t1 := htail.store (i := 0) h.blk (by decide) vt
  have e1 := h.ent.far (p := ⟨t, 0, none⟩) hgt vt
  have keep5 : ∀ {m : Nat} {v' : Value} {ys : List Value}, w.ownsRow base 5 1 v' m ys → (w.setCell ⟨t, 0, none⟩ vt).ownsRow base 5 1 v' m ys := fun ho => own_store (i := 0) ho h.blk (by decide) _
  have hent : Ent (w.setCell ⟨t, 0, none⟩ vt) base g t vt vs' rest cap :=
    ⟨e1, b1, t1, fun i p hi => let ⟨A', c', k1, k2⟩ := h.each (i + 1) p (by simpa using hi); ⟨A', c', by simpa using k1, keep5 k2⟩⟩
  have hk1 : Kept (fun k _ => k = t) w (w.setCell ⟨t, 0, none⟩ vt) := (Kept.refl _ w).setCell (p := ⟨t, 0, none⟩) (fun _ _ => rfl) _
  have HS := Lib.hid (keep5 hox)
  have HE := Lib.hid hent
  have HK := Lib.hid hk1
  have hL1 : ((rest.length : Int) + 1 == 0) = false := by simp; omega
  have hn' : decide (n < (x.length : Int)) = false := by simp; omega
  clear htk hh hcs hlen hv0 hox hsx h b1 t1 e1 keep5 hent hk1 htail
  by_cases hq : cq = 1
  · rw [if_pos hq] at hvt
    subst hvt hq
    go_enter Tryz.func237, Tryz.ntmps237
    go_wp2
    go_ret2
    exact ⟨_, _, _, _, rfl, HS.out, HE.out, rfl, HK.out⟩
  · rw [if_neg hq] at hvt
    subst hvt
    go_enter Tryz.func237, Tryz.ntmps237
    go_wp2
    go_ret2
    exact ⟨_, _, _, _, rfl, HS.out, HE.out, rfl, HK.out⟩
theorem rgrant_of (base g t : Nat) (v : Value) (vs : List Value) (sdus : List (List UInt8)) (cap : Nat) (now n : Int) (w : World) (h : Ent w base g t v vs sdus cap) (Q : Ending → World → Prop) (hQ : ∀ e w', Q e w' → ∃ b x, e = .returned (.tuple #[b, x]))
    (hc : Calls Tryz.prog 237 #[.pointer (some ⟨t, 0, none⟩), .int .i64 now, .int .i64 n] w Q) :
    Calls Tryz.prog 19 #[.pointer (some ⟨g, 0, none⟩), .int .i64 now, .int .i64 n] w Q := by
  have hno := none_any g 1 _ _ w h.ent
  have x1 := h.ent.cell 1
  simp at x1
  have HN := Lib.hid hno
  have HC := Lib.hid (hc.mono fun e w' hq => (⟨hQ e w' hq, hq⟩ : (∃ b x, e = .returned (.tuple #[b, x])) ∧ Q e w'))
  have hme := meth_grant ⟨t, 0, none⟩
  clear hno hc h hQ
  go_enter Tryz.func19, Tryz.ntmps19
  go_wp2_with (first | (go_at_call 36; refine HN.out.mono ?_; rintro e1 w1 ⟨rfl, rfl⟩) | (go_at_call 237; refine HC.out.mono ?_; rintro e1 w1 ⟨⟨b, x, rfl⟩, hq⟩))
  exact hq
end Go.Proofs.YthicdlbelhokjaaGreat
