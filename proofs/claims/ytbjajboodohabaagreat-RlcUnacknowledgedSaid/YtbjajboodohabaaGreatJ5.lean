/- umsend: take. -/
import Derived.Test.YtbjajboodohabaaGreatJb
namespace Go.Proofs.YtbjajboodohabaaGreat
open Go.RowKit Go.Shelf
attribute [local go_sem] Oper.semAt_some

/-- what take gives: m bytes of the first SDU (in its row: take_sl reads them), and the queue behind it -/
def TakeIs (w : World) (base g : Nat) (v : Value) (sent cap next m : Nat) (ends : Bool) (x : List UInt8) (sdus' : List (List UInt8)) (sent' : Nat) (e : Ending) (w' : World) : Prop :=
  ∃ adx cx, e = .returned (.tuple #[.slice (some (adx.add sent)) m m, .bool ends]) ∧ w'.ownsRow base 5 1 (.slice (some adx) x.length cx) x.length (bvs x) ∧ (∃ v' vs', Snd w' base g v' vs' sdus' sent' cap next ∧ qBlock v' = qBlock v) ∧ Kept (fun k _ => k = g) w w'

theorem take_sl {w : World} {base : Nat} {adx : Addr} {cx sent m : Nat} {x : List UInt8} (h : w.ownsRow base 5 1 (.slice (some adx) x.length cx) x.length (bvs x)) (hm : 1 ≤ m) (hs : sent + m ≤ x.length) : Sl w w.heap.size (some (adx.add sent)) m m (bvs ((x.drop sent).take m)) := by
  have hsx := own_sl' h
  have hcap := hsx.cap
  have hmx := hsx.mx
  have hmid := hsx.mid (a := sent) (m := m) hs
  rw [if_neg (by omega), Option.map_some] at hmid
  have e1 : ((bvs x).drop sent).take m = bvs ((x.drop sent).take m) := by simp [bvs]
  rw [e1] at hmid
  exact ⟨hmid.len, Nat.le_refl _, by omega, hmid.at_⟩

set_option maxRecDepth 10000 in
set_option maxHeartbeats 1000000 in
theorem stake_more (g base sent cap next n : Nat) (v : Value) (vs : List Value) (x : List UInt8) (rest : List (List UInt8)) (w : World) (h : Snd w base g v vs (x :: rest) sent cap next) (hn0 : 1 ≤ n) (hx9 : x.length ≤ 1000000) (hlt : sent + n < x.length) :
    Calls Tryz.prog 52 #[.pointer (some ⟨g, 0, none⟩), .int .i64 n] w (TakeIs w base g v sent cap next n false x (x :: rest) (sent + n)) := by
  obtain ⟨hlen, hrow⟩ := h.row
  rcases hrow with ⟨_, h0⟩ | ⟨gq, o, cq, cur, rfl, hbg, hh, hnc, hcm, hcs, htk⟩
  · simp at h0
  obtain ⟨Ax, cx, hv0, hox⟩ := h.each 0 x rfl
  have hsx := own_sl' hox
  have hc0 := h.row.cells 0 _ hv0
  simp only [Nat.add_zero] at hc0
  obtain ⟨adx, _, rfl, _⟩ := hsx.get (k := 0) (by omega)
  have hcap := hsx.cap
  have hmx := hsx.mx
  obtain ⟨x0, x1, x2, x3⟩ := h.blk.four'
  have f1 := h.blk.frozen 1
  have hne : ¬ cx = sent := by omega
  have hox' := own_store (i := 1) hox h.blk (by decide) (.int .i64 ((sent : Int) + n))
  have hb' := h.blk.set_ 1 (.int .i64 ((sent : Int) + n))
  simp at hb'
  have hsnd : Snd (w.setCell ⟨g, 1, none⟩ (.int .i64 ((sent : Int) + n))) base g (.slice (some ⟨gq, o, none⟩) (x :: rest).length cq) vs (x :: rest) (sent + n) cap next :=
    ⟨by simpa using hb', h.row.store h.blk (by decide) _, fun i p hi => let ⟨A', c', k1, k2⟩ := h.each i p hi; ⟨A', c', k1, own_store (i := 1) k2 h.blk (by decide) _⟩⟩
  have hgl := h.blk.lt
  unfold maxLen at hcm
  have HS := Lib.hid hox'
  have HSND := Lib.hid hsnd
  clear htk hh hcs hlen hv0 hox hsx h hox' hb' hsnd
  go_enter Tryz.func52, Tryz.ntmps52
  go_wp2
  go_ret2
  exact ⟨adx, cx, by simp, HS.out, ⟨_, _, HSND.out, rfl⟩, (Kept.refl _ w).setCell (p := ⟨g, 1, none⟩) (fun _ _ => rfl) _⟩

set_option maxRecDepth 10000 in
set_option maxHeartbeats 1000000 in
theorem stake_end (g base sent cap next n : Nat) (v : Value) (vs : List Value) (x : List UInt8) (rest : List (List UInt8)) (w : World) (h : Snd w base g v vs (x :: rest) sent cap next) (hn : n ≤ 1000000000) (hx9 : x.length ≤ 1000000) (hs : sent < x.length) (hge : x.length ≤ sent + n) :
    Calls Tryz.prog 52 #[.pointer (some ⟨g, 0, none⟩), .int .i64 n] w (TakeIs w base g v sent cap next (x.length - sent) true x rest 0) := by
  obtain ⟨hlen, hrow⟩ := h.row
  rcases hrow with ⟨_, h0⟩ | ⟨gq, o, cq, cur, rfl, hbg, hh, hnc, hcm, hcs, htk⟩
  · simp at h0
  obtain ⟨v0, vs', rfl⟩ : ∃ v0 vs', vs = v0 :: vs' := by
    cases vs with
    | nil => simp at hlen
    | cons a b => exact ⟨a, b, rfl⟩
  obtain ⟨Ax, cx, hv0, hox⟩ := h.each 0 x rfl
  have hsx := own_sl' hox
  have hc0 := h.row.cells 0 _ hv0
  simp only [Nat.add_zero] at hc0
  obtain ⟨adx, _, rfl, _⟩ := hsx.get (k := 0) (by omega)
  have hcap := hsx.cap
  have hmx := hsx.mx
  obtain ⟨x0, x1, x2, x3⟩ := h.blk.four'
  have f0 := h.blk.frozen 0
  have f1 := h.blk.frozen 1
  have hne : ¬ cx = sent := by omega
  have htail := OwnQ.tail (n := rest.length) (by simpa using h.row)
  have hgl := h.blk.lt
  unfold maxLen at hcm
  have hle : ¬ sent + n < x.length := by omega
  obtain ⟨vt, hvt⟩ : ∃ vt, vt = Value.slice (some (if cq = 1 then (⟨gq, o, none⟩ : Addr) else ⟨gq, o + 1, none⟩)) rest.length (cq - 1) := ⟨_, rfl⟩
  rw [← hvt] at htail
  have b1 := h.blk.set_ 1 (.int .i64 (x.length : Int))
  have b2 := b1.set_ 0 vt
  have b3 := b2.set_ 1 (.int .i64 0)
  simp at b1 b2 b3
  have t3 := ((htail.store (i := 1) h.blk (by decide) (.int .i64 (x.length : Int))).store (i := 0) b1 (by decide) vt).store (i := 1) b2 (by decide) (.int .i64 0)
  have keep5 : ∀ {m : Nat} {v' : Value} {ys : List Value}, w.ownsRow base 5 1 v' m ys → (((w.setCell ⟨g, 1, none⟩ (.int .i64 (x.length : Int))).setCell ⟨g, 0, none⟩ vt).setCell ⟨g, 1, none⟩ (.int .i64 0)).ownsRow base 5 1 v' m ys := fun ho =>
    own_store (i := 1) (own_store (i := 0) (own_store (i := 1) ho h.blk (by decide) _) b1 (by decide) _) b2 (by decide) _
  have hsnd : Snd (((w.setCell ⟨g, 1, none⟩ (.int .i64 (x.length : Int))).setCell ⟨g, 0, none⟩ vt).setCell ⟨g, 1, none⟩ (.int .i64 0)) base g vt vs' rest 0 cap next :=
    ⟨by simpa using b3, t3, fun i p hi => let ⟨A', c', k1, k2⟩ := h.each (i + 1) p (by simpa using hi); ⟨A', c', by simpa using k1, keep5 k2⟩⟩
  have hk3 : Kept (fun k _ => k = g) w (((w.setCell ⟨g, 1, none⟩ (.int .i64 (x.length : Int))).setCell ⟨g, 0, none⟩ vt).setCell ⟨g, 1, none⟩ (.int .i64 0)) :=
    (((Kept.refl _ w).setCell (p := ⟨g, 1, none⟩) (fun _ _ => rfl) _).setCell (p := ⟨g, 0, none⟩) (fun _ _ => rfl) _).setCell (p := ⟨g, 1, none⟩) (fun _ _ => rfl) _
  have HS := Lib.hid (keep5 hox)
  have HSND := Lib.hid hsnd
  have HK := Lib.hid hk3
  clear htk hh hcs hlen hv0 hox hsx h b1 b2 b3 t3 keep5 hsnd hk3 htail
  by_cases hq : cq = 1
  · rw [if_pos hq] at hvt
    subst hvt hq
    go_enter Tryz.func52, Tryz.ntmps52
    go_wp2
    go_ret2
    exact ⟨_, _, rfl, HS.out, ⟨_, _, HSND.out, rfl⟩, HK.out⟩
  · rw [if_neg hq] at hvt
    subst hvt
    go_enter Tryz.func52, Tryz.ntmps52
    go_wp2
    go_ret2
    exact ⟨_, _, rfl, HS.out, ⟨_, _, HSND.out, rfl⟩, HK.out⟩
end Go.Proofs.YtbjajboodohabaaGreat
