/- umsend: Unsent and Buffered. -/
import Derived.Test.YtbjajboodohabaaGreatKa
import Derived.Test.YtbjajboodohabaaGreatVb
import Derived.Sort.CutIn
namespace Go.Proofs.YtbjajboodohabaaGreat
open Go.RowKit Go.Shelf
attribute [local go_sem] Oper.semAt_some

theorem Sls.onecell {w : World} {B : Nat} {A : Option Addr} {n c : Nat} {vs : List Value} {ps : List (List UInt8)} (h : Sls w B A n c vs ps) : ∀ u ∈ vs, u.oneCell' = true := by
  intro u hu
  obtain ⟨i, hi, rfl⟩ := List.getElem_of_mem hu
  have hl : i < ps.length := by have := h.len; have := h.sl.len; omega
  obtain ⟨Ai, ci, e, _⟩ := h.each i _ (List.getElem?_eq_getElem hl)
  rw [List.getElem?_eq_getElem hi] at e
  rw [Option.some.inj e]
  rfl
set_option maxHeartbeats 400000 in
theorem cloneS_any (A : Option Addr) (n c : Nat) (vs : List Value) (w : World) (h : Sl w w.heap.size A n c vs) (h1 : ∀ u ∈ vs, u.oneCell' = true) (hsm : n ≤ 1000000000) :
    Calls Tryz.prog 69 #[.slice A n c] w (GivesRow w.heap.size 40 w n vs) := by
  have hnil := fun (W : World) => Lib.run_eql_slice_nil (P := Tryz.prog) W 47 40 A n c 0 0 und22
  obtain ⟨i0, hi, hz0, hz1, hz2⟩ := info_parts sl_info
  have hs1 := h.alloc (Nat.le_refl _) (.cells #[] 40)
  rcases A with _ | ad
  · obtain rfl : n = 0 := by
      rcases Nat.eq_zero_or_pos n with h0 | h0
      · exact h0
      · obtain ⟨_, e, _⟩ := h.at_ h0; cases e
    have hl : vs = [] := List.eq_nil_of_length_eq_zero h.len
    go_enter Tryz.func69, Tryz.ntmps69
    go_wp2
    go_ret
    exact ⟨_, rfl, by rw [hl]; exact World.ownsRow_nil _ _ _ _, Below.refl _ _⟩
  · go_enter Tryz.func69, Tryz.ntmps69
    go_wp2_with (at_builtin; refine wpList_append_sl _ rfl _ _ 47 rfl w.heap.size 40 i0 (.slice none 0 0) 24 und22 hi hz0 hz1 hz2 rfl (.slice (some ⟨w.heap.size, 0, none⟩) 0 0) 0 [] rfl ?c0 w.heap.size (some ad) n c vs rfl hs1 h1 ?c3 ?c4 ?c5 ?_)
    case c0 => exact World.ownsRow_lit w #[] 0 (Nat.le_refl _) (by unfold maxLen; omega) rfl
    case c3 => unfold maxLen; omega
    case c4 => omega
    case c5 => simp
    intro v' w1 hown' hgrow _
    go_wp2
    go_ret
    exact ⟨_, rfl, by simpa using hown', ((Below.refl _ w).alloc (Nat.le_refl _) _).grown hgrow (by simp) (by simp [Value.ownBlock])⟩

theorem cell_two_other (w : World) {g k : Nat} (hne : g ≠ k) (i : Nat) (u0 u1 : Value) : ((w.setCell ⟨k, 0, none⟩ u0).setCell ⟨k, 1, none⟩ u1).cell? ⟨g, i, none⟩ = w.cell? ⟨g, i, none⟩ :=
  (World.cell?_setCell_other _ ⟨k, 1, none⟩ ⟨g, i, none⟩ _ (fun e => hne (by cases e; rfl))).trans (World.cell?_setCell_other _ ⟨k, 0, none⟩ ⟨g, i, none⟩ _ (fun e => hne (by cases e; rfl)))
/-- what Unsent gives -/
def UnsentOut (w : World) (vs : List Value) (n sent : Nat) (e : Ending) (w' : World) : Prop :=
  ∃ G v1, e = .returned (.func (.func 70) #[] #[.pointer (some ⟨G, 0, none⟩)]) ∧ w.heap.size ≤ G ∧ Blk w' G 66 #[v1, .int .i64 sent] ∧ w'.ownsRow w.heap.size 40 1 v1 n vs ∧ Below w.heap.size w w'
set_option maxRecDepth 10000 in
set_option maxHeartbeats 1000000 in
theorem sunsent_any (g base sent cap next : Nat) (v : Value) (vs : List Value) (sdus : List (List UInt8)) (w : World) (h : Snd w base g v vs sdus sent cap next) (hc : 1 ≤ cap) (hn : sdus.length ≤ 1000000) :
    Calls Tryz.prog 39 #[.pointer (some ⟨g, 0, none⟩)] w (UnsentOut w vs sdus.length sent) := by
  have hA := h.alloc (.cells #[.slice none 0 0, .int .i64 0] 66)
  have hno := snone_any g cap _ _ _ _ hA.blk hc
  obtain ⟨A, c, hv, hs⟩ := hA.sls
  obtain ⟨x0, x1, x2, x3⟩ := hA.blk.four'
  have hgl := hA.blk.lt
  have hgl0 := h.blk.lt
  have bG := Blk.new w 66 #[.slice none 0 0, .int .i64 0]
  have hBW := (Below.refl w.heap.size w).alloc (Nat.le_refl _) (.cells #[.slice none 0 0, .int .i64 0] 66)
  have hcl := cloneS_any A sdus.length c vs (w.alloc (.cells #[.slice none 0 0, .int .i64 0] 66)).drew (hs.sl.drew) hs.onecell (by omega)
  have HN := Lib.hid hno
  have HCL := Lib.hid hcl
  have HB := Lib.hid hBW
  have HG := Lib.hid bG
  rw [hv] at x0
  clear hno hcl hs hA h hBW bG hv
  go_enter Tryz.func39, Tryz.ntmps39
  go_wp2_with (go_at_call 25; refine HN.out.mono ?_; rintro e1 w1 ⟨rfl, rfl⟩)
  have hne0 : g ≠ w.heap.size := by omega
  have hgW : g < (w.alloc (.cells #[.slice none 0 0, .int .i64 0] 66)).drew.heap.size := hgl
  go_region_held3 (fun w' => w'.cell? ⟨g, 0, none⟩ = some (.slice A sdus.length c) ∧ w'.cell? ⟨g, 1, none⟩ = some (.int .i64 sent))
    (first | (exact ⟨(hb1.cell (p := ⟨g, 0, none⟩) hgW).trans x0, (hb1.cell (p := ⟨g, 1, none⟩) hgW).trans x1⟩) | (exact ⟨(cell_two_other w1 hne0 0 _ _).trans ((hb1.cell (p := ⟨g, 0, none⟩) hgW).trans x0), (cell_two_other w1 hne0 1 _ _).trans ((hb1.cell (p := ⟨g, 1, none⟩) hgW).trans x1)⟩) | go_keep)
    ((go_at_call 69; refine HCL.out.mono ?_; rintro e1 w1 ⟨v1, rfl, hv1, hb1⟩; obtain ⟨A1, c1, rfl, hs1, _⟩ := own_sl hv1; have bG1 := HG.out.drew.below hb1 HG.out.drew.lt; have q0 := bG1.cell 0; have q1 := bG1.cell 1; have g0 := bG1.frozen 0; have g1 := bG1.frozen 1))
  all_goals
    go_wp2
    go_ret
    refine ⟨w.heap.size, .slice A1 sdus.length c1, rfl, Nat.le_refl _, ?_, ?_, ?_⟩
    · simpa using (bG1.set_ 0 (.slice A1 sdus.length c1)).set_ 1 (.int .i64 (sent : Int))
    · exact own_base (own_store (i := 1) (own_store (i := 0) hv1 bG1 (by decide) _) (by simpa using bG1.set_ 0 (.slice A1 sdus.length c1)) (by decide) _) (by show w.heap.size ≤ (w.alloc (.cells #[.slice none 0 0, .int .i64 0] 66)).heap.size; simp)
    · exact ((HB.out.drew.trans (hb1.mono (by show w.heap.size ≤ (w.alloc (.cells #[.slice none 0 0, .int .i64 0] 66)).heap.size; simp))).setCell (Nat.le_refl _) _).setCell (Nat.le_refl _) _

/-- the bytes of SDU k that are sent -/
def unsOff (sent k : Nat) : Nat := if k = 0 then sent else 0
theorem unsOff_le (sent k : Nat) : unsOff sent k ≤ sent := by unfold unsOff; split <;> omega
/-- the unsent bytes of SDU k, and its length, as values -/
def unsVals (sdus : List (List UInt8)) (sent : Nat) (k : Nat) : Array Value := #[.int .i64 ((sdus[k]?.getD []).length : Nat), .int .i64 (((sdus[k]?.getD []).length : Nat) - (unsOff sent k : Int))]
/-- the values are slices of the SDUs' lengths -/
def LenVals (vs : List Value) (sdus : List (List UInt8)) : Prop := ∀ (i : Nat) (p : List UInt8), sdus[i]? = some p → ∃ A c, vs[i]? = some (.slice A p.length c) ∧ p.length ≤ c ∧ c ≤ 9223372036854775807

set_option maxRecDepth 100000 in
set_option maxHeartbeats 2000000 in
theorem unsent1_idx (n : Nat) (hn : 1 ≤ n) (G B : Nat) (v : Value) (vs : List Value) (sdus : List (List UInt8)) (sent : Nat) (hsent : sent ≤ 1000000000) (_hlen : sdus.length ≤ 1000000) (M : Nat → Obj → Prop) (w : World)
    (hg : Blk w G 66 #[v, .int .i64 sent]) (hv : w.ownsRow B 40 1 v sdus.length vs) (hl : LenVals vs sdus) (hMg : ¬ M G (.cells #[v, .int .i64 sent] 66 (0, 0))) (hMv : ∀ k o, v.ownBlock = some k → ¬ M k o) :
    SeqIdx Fence.wide n Tryz.prog 70 #[.pointer (some ⟨G, 0, none⟩)] (unsVals sdus sent) sdus.length (Kept M) w := fun l J W hW _ hY h0 => by
  have hg' := hg.below hW hg.lt
  have hv' : W.ownsRow B 40 1 v sdus.length vs := hv.kept (row := none) ⟨hW.os, hW.tape, hW.output, hW.size, fun k hk _ => hW.block k hk⟩ (by
    rcases hb : v.ownBlock with _ | k
    · exact .inl rfl
    · exact .inr (by simp))
  have hvk : ∀ wr, Kept M W wr → wr.ownsRow B 40 1 v sdus.length vs := fun wr hk => own_kept hv' hk (fun k o _ hk2 => hMv k o hk2)
  obtain ⟨Av, cv, rfl, hsv, _⟩ := own_sl hv'
  have hcap := hsv.cap
  have hmx := hsv.mx
  have HVK := Lib.hid hvk
  have HL := Lib.hid hl
  have HY := Lib.hid hY
  clear hvk hsv hY hl
  refine callsIn_of_wp Tryz.func70 rfl trivial ?_ rfl
  simp only [Tryz.ntmps70, List.size_toArray, List.length_cons, List.length_nil, Nat.reduceAdd, Nat.reduceSub, Array.replicate_succ, Array.replicate_zero, List.push_toArray, List.append_toArray, List.nil_append, List.cons_append]
  have hcw := hg'.cell 0
  have hcw1 := hg'.cell 1
  simp at hcw hcw1
  refine wpInW_scope ?_
  gi_wp2
  refine wpIn_label ?_
  gi_wp2
  gi_loopw [3, 11] (fun s i wr => ∃ k : Nat, k ≤ sdus.length ∧ i = .int .i64 k ∧ s = .int .i64 (unsOff sent k : Nat) ∧ J k wr ∧ Kept M W wr) (fun _ i _ => sdus.length - (intOf i).toNat)
  case atStart => exact ⟨0, Nat.zero_le _, rfl, rfl, h0, Kept.refl _ _⟩
  case round =>
    obtain ⟨k, hk, rfl, rfl, hJs, hnx⟩ := hrel
    by_cases hlt : k < sdus.length
    · have hvr := HVK.out wr hnx
      have hsr := own_sl' hvr
      obtain ⟨ad, u, rfl, hadl, hu, hck⟩ := hsr.get hlt
      obtain ⟨Ap, cp, hp1, hp2, hp3⟩ := HL.out k _ (List.getElem?_eq_getElem hlt)
      rw [hp1] at hu
      cases hu
      have hYk := HY.out k wr hlt hJs
      unfold unsVals at hYk
      rw [List.getElem?_eq_getElem hlt, Option.getD_some] at hYk
      have hsb : unsOff sent k ≤ 1000000000 := by have := unsOff_le sent k; omega
      generalize unsOff sent k = s at *
      generalize sdus[k] = p at *
      obtain ⟨fn, tmps, assign, body, hy, hR⟩ := hYk
      clear hvr hsr
      gi_wp2
      refine hR.mono ?_
      rintro e W3 ⟨rfl, hJ3, hk3⟩
      gi_wp2
      go_roundw
      case rel => exact ⟨k + 1, by omega, by go_num, rfl, hJ3, hnx.trans hk3⟩
      case measure => simp [intOf]; omega
    · have e : k = sdus.length := by omega
      have hJs' : J sdus.length wr := by rw [e] at hJs; exact hJs
      clear e hJs
      generalize unsOff sent k = s at *
      gi_wp2
      first
        | go_end0
        | (rw [Exit.noGoto_normal]; go_end0)
      exact ⟨⟨_, rfl⟩, hJs'⟩
end Go.Proofs.YtbjajboodohabaaGreat
