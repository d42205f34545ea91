/- umsend: Buffered. -/
import Derived.Test.YtbjajboodohabaaGreatKb
namespace Go.Proofs.YtbjajboodohabaaGreat
open Go.RowKit Go.Shelf
attribute [local go_sem] Oper.semAt_some

theorem blk_quiet' {w w' : World} {g : Nat} {t : TypeId} {cs : Array Value} {row : Option Nat} (h : Blk w g t cs) (hg : w.grownBy w' row) (hr : ∀ r, row = some r → ∃ o : Obj, w.heap[r]? = some o ∧ o.isCells = false) : Blk w' g t cs := by
  refine h.grown hg (fun e => ?_)
  obtain ⟨o, ho, hc⟩ := hr g e.symm
  unfold Blk at h
  rw [h] at ho
  cases ho
  cases hc
/-- the unsent bytes of the first k SDUs -/
def unsN (sdus : List (List UInt8)) (sent k : Nat) : Int := (sumLen (sdus.take k) : Int) - ((if k = 0 then 0 else sent : Nat) : Int)
theorem unsN_succ (sdus : List (List UInt8)) (sent k : Nat) (h : k < sdus.length) : unsN sdus sent (k + 1) = unsN sdus sent k + (((sdus[k]?.getD []).length : Nat) - (unsOff sent k : Int)) := by
  unfold unsN unsOff
  rw [sumLen_take sdus k h]
  rcases Nat.eq_zero_or_pos k with rfl | hk
  · simp
    omega
  · rw [if_neg (by omega), if_neg (by omega), if_neg (by omega)]
    omega
theorem unsN_bd (sdus : List (List UInt8)) (sent k : Nat) (hs : sumLen sdus ≤ 1000000000) (h2 : sent ≤ 1000000000) : -1000000000 ≤ unsN sdus sent k ∧ unsN sdus sent k ≤ 1000000000 := by
  have := sumLen_take_le sdus k
  unfold unsN
  split <;> omega
/-- a round's memory -/
structure BufInv (gn Z : Nat) (sdus : List (List UInt8)) (sent : Nat) (w0 : World) (k : Nat) (W : World) : Prop where
  b : Blk W gn 3 #[.int .i64 (unsN sdus sent k)]
  kp : Kept (fun j _ => j = gn ∨ Z ≤ j) w0 W
theorem bufInv_own (gn Z : Nat) (sdus : List (List UInt8)) (sent : Nat) (w0 : World) : OwnFrom Z (BufInv gn Z sdus sent w0) := fun _k X _Y _row hs hg hr =>
  ⟨blk_quiet' hs.b hg (fun r e => (hr r e).2), hs.kp.trans ((Kept.refl _ X).grown hg (fun j e _ _ => .inr (hr j e).1))⟩
theorem Snd.lenVals {w : World} {base g : Nat} {v : Value} {vs : List Value} {sdus : List (List UInt8)} {sent cap next : Nat} (h : Snd w base g v vs sdus sent cap next) : LenVals vs sdus := fun i p hi => by
  obtain ⟨A, c, e, ho⟩ := h.each i p hi
  have hs := own_sl' ho
  exact ⟨A, c, e, hs.cap, hs.mx⟩
/-- a number, in more memory -/
def NumberB (x : Int) (w : World) (e : Ending) (w' : World) : Prop := e = .returned (.int .i64 x) ∧ Below w.heap.size w w'

set_option maxRecDepth 100000 in
set_option maxHeartbeats 2000000 in
theorem sbuffered_any (g base sent cap next : Nat) (v : Value) (vs : List Value) (sdus : List (List UInt8)) (w : World) (h : Snd w base g v vs sdus sent cap next) (hc : 1 ≤ cap) (hn : sdus.length ≤ 1000000) (hsum : sumLen sdus ≤ 1000000000) (hsent : sent ≤ 1000000000) (hz : sdus = [] → sent = 0) :
    Calls Tryz.prog 19 #[.pointer (some ⟨g, 0, none⟩)] w (NumberB ((sumLen sdus : Int) - sent) w) := by
  refine (callsIn_wide (n := 5)).1 ?_
  have hA := h.alloc (.cells #[.int .i64 0] 3)
  have hun := sunsent_any g base sent cap next v vs sdus _ hA hc hn
  have bn := Blk.new w 3 #[.int .i64 0]
  have hB := (Below.refl w.heap.size w).alloc (Nat.le_refl _) (.cells #[.int .i64 0] 3)
  have hfin : unsN sdus sent sdus.length = (sumLen sdus : Int) - sent := by
    unfold unsN
    rw [List.take_length]
    split
    · rename_i e
      have := hz (List.eq_nil_of_length_eq_zero e)
      omega
    · rfl
  have HUN := Lib.hid hun
  have HB := Lib.hid hB
  have HN := Lib.hid bn
  have HL := Lib.hid h.lenVals
  have HF := Lib.hid hfin
  clear hun hB bn hA h hfin hz
  refine callsIn_of_wp_marks Tryz.func19 rfl trivial ?_ rfl
  simp only [Tryz.ntmps19, List.size_toArray, List.length_cons, List.length_nil, Nat.reduceAdd, Nat.reduceSub, Array.replicate_succ, Array.replicate_zero, List.push_toArray, List.append_toArray, List.nil_append, List.cons_append]
  refine wpIn_wide.2 ?_
  go_wp2_with fail
  refine HUN.out.mono ?_
  rintro e1 w1 ⟨G, v1, rfl, hG, bG, hv1, hb1⟩
  have bn1 := HN.out.below hb1 HN.out.lt
  have hB1 := HB.out.trans (hb1.mono HB.out.size)
  simp only [World.size_alloc] at hG hv1
  go_wp2_with fail
  have hGl := bG.lt
  have hvl := fun j hj => hv1.lt j hj
  apply wpIn_wide (n := 5).1
  apply wpIn_range_idx (gf := 70) (lb := #[.pointer (some ⟨G, 0, none⟩)]) rfl (by omega) rfl trivial (enters_of Tryz.func70 (by kernel_rfl) rfl)
    (unsent1_idx _ (by omega) G (w.heap.size + 1) v1 vs sdus sent hsent hn (fun j _ => j = w.heap.size ∨ w1.heap.size ≤ j) w1 bG hv1 HL.out (by omega) (fun j _ hj => by have := hvl j hj; omega))
    Kept.trans (fun W l o o' hl ho hc _ => (Kept.refl _ W).grown (grownBy_putObj' W l o') (fun j e _ _ => by cases e; exact .inr hl)) (Below.refl _ _) (fun _ => rfl)
    (BufInv w.heap.size w1.heap.size sdus sent w1) (bufInv_own _ _ _ _ _) ⟨by simpa [unsN, sumLen] using bn1, Kept.refl _ _⟩
  case hassign =>
    intro l k W K hK
    simp only [unsVals]
    gi_wp2
    exact hK
  case hbody =>
    intro l k W hk hI
    have bk := hI.b
    have hkp := hI.kp
    have hsu := unsN_succ sdus sent k hk
    have hbd := unsN_bd sdus sent k hsum hsent
    have hbd2 := unsN_bd sdus sent (k + 1) hsum hsent
    have y0 := bk.cell 0
    have yf := bk.frozen 0
    simp at y0
    rw [hsu] at hbd2
    have HSU := Lib.hid hsu
    have HI := Lib.hid hI
    generalize unsN sdus sent k = U at *
    generalize (((sdus[k]?.getD []).length : Nat) - (unsOff sent k : Int) : Int) = D at *
    clear hsu hI
    gi_wp2
    have hK : Kept (fun j _ => j = w.heap.size ∨ w1.heap.size ≤ j) W (W.setCell ⟨w.heap.size, 0, none⟩ (.int .i64 (U + D))) := (Kept.refl _ W).setCell (p := ⟨w.heap.size, 0, none⟩) (fun _ _ => .inl rfl) _
    refine ⟨(KeepsOthers.setCell _ _ _).from _, hK, ?_, HI.out.kp.trans hK⟩
    rw [HSU.out]
    simpa using bk.set_ 0 (.int .i64 (U + D))
  case hdone =>
    intro D W hD hI hDef
    have bk := hI.b
    have hBW : Below w.heap.size w W := hB1.trans (hI.kp.below (B := w.heap.size) (fun j _ hj => by have := hB1.size; omega) hB1.size)
    rw [HF.out] at bk
    generalize (sumLen sdus : Int) - sent = T at *
    have y0 := bk.cell 0
    have yf := bk.frozen 0
    simp at y0
    have bk2 := bk.set_ 0 (.int .i64 T)
    simp at bk2
    have hDef2 : (W.setCell ⟨w.heap.size, 0, none⟩ (.int .i64 T)).heap[D]? = some (.deferred (some [])) := (KeepsOthers.setCell W ⟨w.heap.size, 0, none⟩ (.int .i64 T)).same D _ hDef rfl
    have hr : ∀ r, some D = some r → ∃ o : Obj, (W.setCell ⟨w.heap.size, 0, none⟩ (.int .i64 T)).heap[r]? = some o ∧ o.isCells = false := fun r e => by cases e; exact ⟨_, hDef2, rfl⟩
    have bk3 := blk_quiet' bk2 (grownBy_putObj' _ D (.deferred none)) hr
    have hBW2 := (hBW.setCell (p := ⟨w.heap.size, 0, none⟩) (Nat.le_refl _) (.int .i64 T)).grown (grownBy_putObj' _ D (.deferred none)) (by have := hBW.size; simp [World.setCell]; omega) (fun j hj => by cases hj; have := hB1.size; omega)
    have HR := Lib.hid hDef2
    have H3 := Lib.hid bk3
    have HB2 := Lib.hid hBW2
    clear hDef2 hr bk2 bk3 hBW2 hBW hDef
    gi_wp2
    go_wp2
    have q0 := H3.out.cell 0
    refine ⟨by simp, .inl ⟨_, _, rfl, run_takeDeferred HR.out, ?_⟩⟩
    exact ⟨.int .i64 T, by simp [results, Tryz.results19, go_sem, q0], rfl, HB2.out⟩
end Go.Proofs.YtbjajboodohabaaGreat
