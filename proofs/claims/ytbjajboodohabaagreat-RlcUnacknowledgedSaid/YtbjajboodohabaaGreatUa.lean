/- umpdu: Header, Lengths, Size. umpdu.Valid: the two predicates, IndexFunc, ContainsFunc. Printed by wip/gen_u1.py. umpdu.Valid: conditions that are closures, all of them. umpdu.Valid. umpdu.Encode. -/
import Derived.Test.YtbjajboodohabaaGreatWa
import Derived.Laws.EntriesVeiled
import Derived.StillTailTactics
import Derived.Deep.RegionHeld3
namespace Go.Proofs.YtbjajboodohabaaGreat
open Go.RowKit Go.Shelf
attribute [local go_sem] Oper.semAt_some

theorem int_info : (Tryz.prog.info? 3).map (fun i => (i.zero, i.size, i.bytes)) = some (some (.int .i64 0), 1, 8) := by kernel_rfl
theorem und137 : Tryz.prog.underlying 136 = some (.slice 3) := by kernel_rfl

theorem ret_int {k : IntKind} {a b : Int} (h : a = b) : Ending.returned (.int k a) = .returned (.int k b) := by rw [h]
theorem ret_bool {a b : Bool} (h : a = b) : Ending.returned (.bool a) = .returned (.bool b) := by rw [h]

/-- the number of header bytes -/
def hdrN (n : Int) : Int := if n < 1 ∨ 64 < n then 0 else 2 + (12 * (n - 1) + 7) / 8

set_option maxHeartbeats 400000 in
theorem header_any (n : Int) (w : World) (h : -9223372036854775808 ≤ n ∧ n ≤ 9223372036854775807) :
    Calls Tryz.prog 51 #[.int .i64 n] w fun e w' => e = .returned (.int .i64 (hdrN n)) ∧ w = w' := by
  have hfin : hdrN n = if n < 1 ∨ 64 < n then 0 else 2 + (12 * (n - 1) + 7) / 8 := rfl
  have HF := Lib.hid hfin
  clear hfin
  generalize hdrN n = r at *
  by_cases h1 : n < 1
  · go_enter Tryz.func51, Tryz.ntmps51
    go_wp2
    go_ret
    exact ⟨ret_int (by rw [HF.out, if_pos (by omega)]), rfl⟩
  · by_cases h2 : 64 < n
    · go_enter Tryz.func51, Tryz.ntmps51
      go_wp2
      go_ret
      exact ⟨ret_int (by rw [HF.out, if_pos (by omega)]), rfl⟩
    · go_enter Tryz.func51, Tryz.ntmps51
      go_wp2
      go_ret
      exact ⟨ret_int (by rw [HF.out, if_neg (by omega)]), rfl⟩

/-- lengths as values -/
def lens (ps : List (List UInt8)) : List Value := ps.map fun p => .int .i64 (p.length : Nat)
theorem lens_take (ps : List (List UInt8)) (k : Nat) (h : k < ps.length) : lens (ps.take (k + 1)) = lens (ps.take k) ++ [.int .i64 ((ps[k]?.getD []).length : Nat)] := by
  unfold lens
  rw [List.take_add_one, List.getElem?_eq_getElem h, List.map_append]
  rfl
theorem lens_length (ps : List (List UInt8)) : (lens ps).length = ps.length := by simp [lens]

/-- The iterator over lengths: the function value, its box, its row. -/
def GivesLens (w : World) (ps : List (List UInt8)) (e : Ending) (w' : World) : Prop :=
  ∃ g v, e = .returned (.func (.func 117) #[] #[.pointer (some ⟨g, 0, none⟩)]) ∧ w.heap.size ≤ g ∧ Blk w' g 136 #[v] ∧ w'.ownsRow w.heap.size 3 1 v ps.length (lens ps) ∧ Below w.heap.size w w'

set_option maxRecDepth 3000 in
set_option maxHeartbeats 1000000 in
theorem lengths_any (s e : Bool) (A : Option Addr) (n c : Nat) (vs : List Value) (ps : List (List UInt8)) (w : World) (h : Sls w w.heap.size A n c vs ps) (hn : n ≤ 1048576) :
    Calls Tryz.prog 107 #[.agg #[.bool s, .bool e, .slice A n c]] w (GivesLens w ps) := by
  obtain ⟨i0, hi, hz0, hz1, hz2⟩ := info_parts int_info
  have HL := Lib.hid h.len
  have hA := h.alloc (Nat.le_refl _) (.cells #[.bool s, .bool e, .slice A n c] 76)
  go_enter Tryz.func107, Tryz.ntmps107
  go_wp2
  go_loopw [9] (fun i wr => ∃ (k : Nat) (v : Value), k ≤ n ∧ i = .int .i64 k ∧ Blk wr w.heap.size 76 #[.bool s, .bool e, .slice A n c] ∧ Blk wr (w.heap.size + 1) 136 #[v] ∧ wr.ownsRow w.heap.size 3 1 v k (lens (ps.take k)) ∧ Below w.heap.size w wr) (fun i _ => n - (intOf i).toNat)
  case atStart => exact ⟨0, _, Nat.zero_le _, rfl, (Blk.new w _ _).alloc _, by simpa using Blk.new (w.alloc (.cells #[.bool s, .bool e, .slice A n c] 76)) 136 #[.slice none 0 0], World.ownsRow_nil _ _ _ _, ((Below.refl _ w).alloc (Nat.le_refl _) _).alloc (by simp) _⟩
  case round =>
    obtain ⟨k, v, hk, rfl, hb0, hb1, hown, hbw⟩ := hrel
    by_cases hlt : k < n
    · obtain ⟨ad, Ai, ci, rfl, hb, hc, hsl⟩ := (h.below hbw).get hlt
      have hs1 := lens_take ps k (by rw [HL.out]; exact hlt)
      have hl : (ps[k]?.getD []).length ≤ 9223372036854775807 := by have := hsl.cap; have := hsl.mx; omega
      generalize ps[k]?.getD [] = p at *
      generalize lens (List.take k ps) = L at *
      have HS1 := Lib.hid hs1
      clear hs1
      have c1 := hb1.cell 0
      have f1 := hb1.frozen 0
      simp at c1
      go_wp2_with (at_builtin; refine wpList_append_own _ rfl _ _ 136 rfl w.heap.size 3 i0 (.int .i64 0) 1 8 und137 hi hz0 hz1 hz2 rfl (by decide) _ _ _ rfl (hown.alloc _) ⟨wr.heap.size, 0, none⟩ 1 1 [.int .i64 (p.length : Nat)] rfl rfl ?c1 ?c2 ?c3 ?c4 ?c5 ?_)
      case c1 => exact cell_one_new _ _ _
      case c2 => simp [Value.oneCell']
      case c3 => unfold maxLen; omega
      case c4 => omega
      case c5 => have := hbw.size; simp; omega
      intro v' w2 hown' hgrow _
      have hne : v.ownBlock ≠ some (w.heap.size + 1) := own_blk_ne hown hb1 (by decide)
      have hne0 : v.ownBlock ≠ some w.heap.size := own_blk_ne hown hb0 (by decide)
      have hb1' := (hb1.alloc (.cells #[.int .i64 (p.length : Nat)] 3)).grown hgrow (fun e => hne e.symm)
      have hb0' := (hb0.alloc (.cells #[.int .i64 (p.length : Nat)] 3)).grown hgrow (fun e => hne0 e.symm)
      have hbw' := (hbw.alloc hbw.size (.cells #[.int .i64 (p.length : Nat)] 3)).grown hgrow (by have := hbw.size; simp; omega) (fun j hj => (hown.lt j hj).1)
      have c1' := hb1'.cell 0
      have f1' := hb1'.frozen 0
      simp at c1'
      obtain ⟨g', cap', rfl, hgl, hgl2⟩ := hown'.form (by omega)
      go_wp2
      go_roundw
      case rel =>
        refine ⟨k + 1, _, by omega, by go_num, hb0'.far (by simp) _, by simpa using hb1'.set_ 0 (.slice (some ⟨g', 0, none⟩) (k + 1) cap'), ?_, hbw'.setCell (p := ⟨w.heap.size + 1, 0, none⟩) (by simp) _⟩
        rw [HS1.out]
        exact hown'.kept (grownBy_setAt _ _ 0 _) (.inr (own_blk_ne hown' hb1' (by decide)))
      case measure => simp [intOf]; omega
    · have e : ps.take k = ps := List.take_of_length_le (by rw [HL.out]; omega)
      have hkn : k = ps.length := by rw [HL.out]; omega
      rw [e, hkn] at hown
      clear e hkn
      go_wp2
      go_ret
      exact ⟨_, _, rfl, by omega, hb1, hown, hbw⟩

/-- an index and a length that a machine bears -/
abbrev IL := { x : Nat × Nat // x.2 ≤ 1099511627776 }
/-- the first k pairs (index, length) -/
def ilen (ps : List (List UInt8)) (h : ∀ p ∈ ps, p.length ≤ 1099511627776) (k : Nat) : List IL :=
  (List.range k).map fun i => ⟨(i, (ps[i]?.getD []).length), by
    rcases Nat.lt_or_ge i ps.length with hi | hi
    · rw [List.getElem?_eq_getElem hi]; exact h _ (List.getElem_mem hi)
    · rw [List.getElem?_eq_none hi]; simp⟩
theorem ilen_succ (ps : List (List UInt8)) (h : ∀ p ∈ ps, p.length ≤ 1099511627776) (k : Nat) (x : IL) (hx : x.1 = (k, (ps[k]?.getD []).length)) : ilen ps h (k + 1) = ilen ps h k ++ [x] := by
  unfold ilen
  rw [List.range_succ, List.map_append]
  congr 1
  simp only [List.map_cons, List.map_nil, List.cons.injEq, and_true]
  exact Subtype.ext hx.symm
theorem ilen_length (ps : List (List UInt8)) (h : ∀ p ∈ ps, p.length ≤ 1099511627776) (k : Nat) : (ilen ps h k).length = k := by simp [ilen]

set_option maxRecDepth 100000 in
set_option maxHeartbeats 2000000 in
theorem lengths1_stops (n : Nat) (hn : 1 ≤ n) (g B : Nat) (v : Value) (ps : List (List UInt8)) (hle : ∀ p ∈ ps, p.length ≤ 1099511627776) (hlen : ps.length ≤ 1048576) (M : Nat → Obj → Prop) (w : World)
    (hg : Blk w g 136 #[v]) (hv : w.ownsRow B 3 1 v ps.length (lens ps)) (hMg : ¬ M g (.cells #[v] 136 (0, 0))) (hMv : ∀ k o, v.ownBlock = some k → ¬ M k o) :
    SeqStopsK Fence.wide n Tryz.prog 117 #[.pointer (some ⟨g, 0, none⟩)] (fun x : IL => #[Value.int .i64 (x.1.1 : Nat), .int .i64 (x.1.2 : Nat)]) (Kept M)
      (fun xs => xs = ilen ps hle ps.length) (fun pre => ∃ k, k ≤ ps.length ∧ pre = ilen ps hle k) ps.length w := fun l J Jx W hW _ _ hY h0 => by
  have hg' := hg.below hW hg.lt
  have hv' : W.ownsRow B 3 1 v ps.length (lens ps) := hv.kept (row := none) ⟨hW.os, hW.tape, hW.output, hW.size, fun k hk _ => hW.block k hk⟩ (by
    rcases hb : v.ownBlock with _ | k
    · exact .inl rfl
    · exact .inr (by simp))
  have hvk : ∀ wr, Kept M W wr → wr.ownsRow B 3 1 v ps.length (lens ps) := by
    intro wr hk
    rcases hv'.2 with ⟨rfl, h0⟩ | ⟨g', cap, cur, rfl, h1, h2, h3⟩
    · exact ⟨hv'.1, .inl ⟨rfl, h0⟩⟩
    · exact ⟨hv'.1, .inr ⟨g', cap, cur, rfl, h1, hk.same _ _ h2 (hMv _ _ rfl), h3⟩⟩
  have HVK := Lib.hid hvk
  clear hvk
  obtain ⟨A, c, rfl, hsl, _⟩ := own_sl hv'
  refine callsIn_of_wp Tryz.func117 rfl trivial ?_ rfl
  simp only [Tryz.ntmps117, List.size_toArray, List.length_cons, List.length_nil, Nat.reduceAdd, Nat.reduceSub, Array.replicate_succ, Array.replicate_zero, List.push_toArray, List.append_toArray, List.nil_append, List.cons_append]
  have hcw := hg'.cell 0
  simp at hcw
  refine wpInW_scope ?_
  gi_wp2
  refine wpIn_label ?_
  gi_wp2
  gi_loopw [7] (fun i wr => ∃ k : Nat, k ≤ ps.length ∧ i = .int .i64 k ∧ J (ilen ps hle k) wr ∧ Kept M W wr)
    (fun i _ => ps.length - (intOf i).toNat)
  case atStart => exact ⟨0, Nat.zero_le _, by simp, by simpa [ilen] using h0, Kept.refl _ _⟩
  case round =>
    obtain ⟨k, hk, rfl, hJs, hnx⟩ := hrel
    by_cases hlt : k < ps.length
    · obtain ⟨A', c', e', hs', _⟩ := own_sl (HVK.out wr hnx)
      injection e' with e1 e2 e3
      subst e1 e3
      obtain ⟨ad, u, rfl, _, hu, hcell⟩ := hs'.get hlt
      have hp : (ps[k]?.getD []).length ≤ 1099511627776 := by
        rw [List.getElem?_eq_getElem hlt]; exact hle _ (List.getElem_mem _)
      have hu' : u = .int .i64 ((ps[k]?.getD []).length : Nat) := by
        unfold lens at hu
        rw [List.getElem?_map, List.getElem?_eq_getElem hlt] at hu
        rw [List.getElem?_eq_getElem hlt]
        simpa using hu.symm
      have hsucc := ilen_succ ps hle k ⟨(k, (ps[k]?.getD []).length), hp⟩ rfl
      have hYk := hY _ ⟨(k, (ps[k]?.getD []).length), hp⟩ wr hJs (by rw [ilen_length]; exact hlt)
      rw [hu'] at hcell
      clear hu hu'
      have HSucc := Lib.hid hsucc
      clear hsucc
      generalize (ps[k]?.getD []).length = m at *
      obtain ⟨fn, tmps, assign, body, hy, hR⟩ := hYk
      dsimp only at hy
      gi_wp2
      refine hR.mono ?_
      rintro e W3 (⟨rfl, hJ3, hk3⟩ | ⟨rfl, hJx3⟩)
      · gi_wp2
        go_roundw
        case rel => exact ⟨k + 1, by omega, by go_num, by rw [HSucc.out]; exact hJ3, hnx.trans hk3⟩
        case measure => simp [intOf]; omega
      · gi_wp2
        rw [Exit.noGoto_normal]
        go_end0
        exact ⟨⟨_, rfl⟩, .inr ⟨_, ⟨k + 1, by omega, HSucc.out.symm⟩, hJx3⟩⟩
    · have e : k = ps.length := by omega
      have hJs' : J (ilen ps hle ps.length) wr := by rw [e] at hJs; exact hJs
      clear e hJs
      gi_wp2
      rw [Exit.noGoto_normal]
      go_end0
      exact ⟨⟨_, rfl⟩, .inl ⟨_, rfl, hJs'⟩⟩

def sumIL (l : List IL) : Nat := (l.map fun x => x.1.2).sum
theorem sumIL_snoc (l : List IL) (x : IL) : sumIL (l ++ [x]) = sumIL l + x.1.2 := by simp [sumIL]
theorem sumIL_le (l : List IL) : sumIL l ≤ 1099511627776 * l.length := by
  induction l with
  | nil => simp [sumIL]
  | cons x l ih =>
    have := x.2
    unfold sumIL at ih ⊢
    rw [List.map_cons, List.sum_cons, List.length_cons]
    omega
theorem sumIL_ilen (ps : List (List UInt8)) (h : ∀ p ∈ ps, p.length ≤ 1099511627776) (k : Nat) (hk : k ≤ ps.length) : sumIL (ilen ps h k) = sumLen (ps.take k) := by
  induction k with
  | zero => rfl
  | succ k ih =>
    have hp : (ps[k]?.getD []).length ≤ 1099511627776 := by
      rw [List.getElem?_eq_getElem (by omega)]; exact h _ (List.getElem_mem _)
    rw [ilen_succ ps h k ⟨_, hp⟩ rfl, sumIL_snoc, sumLen_take ps k (by omega), ih (by omega)]

theorem blk_own {β : Type} (g : Nat) (t : TypeId) (f : β → Array Value) : Own (fun s W => Blk W g t (f s)) := fun s X Y row hs hg hrow =>
  hs.grown hg (fun e' => by obtain ⟨o, ho, hc⟩ := hrow g e'.symm; rw [show X.heap[g]? = _ from hs] at ho; cases ho; cases hc)

set_option maxRecDepth 100000 in
set_option maxHeartbeats 2000000 in
theorem size_any (s e : Bool) (A : Option Addr) (n c : Nat) (vs : List Value) (ps : List (List UInt8)) (w : World) (h : Sls w w.heap.size A n c vs ps) (hn : n ≤ 1048576) (hle : ∀ p ∈ ps, p.length ≤ 1099511627776) :
    Calls Tryz.prog 89 #[.agg #[.bool s, .bool e, .slice A n c]] w fun e w' => e = .returned (.int .i64 (sumLen ps)) ∧ Below w.heap.size w w' := by
  refine (callsIn_wide (n := 5)).1 ?_
  have HL := Lib.hid h.len
  refine callsIn_of_wp_marks Tryz.func89 rfl trivial ?_ rfl
  simp only [Tryz.ntmps89, List.size_toArray, List.length_cons, List.length_nil, Nat.reduceAdd, Nat.reduceSub, Array.replicate_succ, Array.replicate_zero, List.push_toArray, List.append_toArray, List.nil_append, List.cons_append]
  have hA := (h.alloc (Nat.le_refl _) (.cells #[.bool s, .bool e, .slice A n c] 76)).alloc (by simp) (.cells #[.int .i64 0] 3)
  have hA := hA.more (B' := ((w.alloc (.cells #[.bool s, .bool e, .slice A n c] 76)).alloc (.cells #[.int .i64 0] 3)).heap.size) (by simp; omega)
  have HA := Lib.hid hA
  clear hA
  gi_wp2_with (refine ⟨trivial, ?_⟩; gi_at_call 107; refine ((callsIn_wide (n := 4)).2 (lengths_any s e A n c vs ps _ HA.out hn)).mono ?_; rintro e1 w1 ⟨g, v, rfl, hg, hbg, hv, hbw⟩)
  have hr0 : Blk ((w.alloc (.cells #[.bool s, .bool e, .slice A n c] 76)).alloc (.cells #[.int .i64 0] 3)) (w.heap.size + 1) 3 #[.int .i64 0] := by
    simpa using Blk.new (w.alloc (.cells #[.bool s, .bool e, .slice A n c] 76)) 3 #[.int .i64 0]
  have hr1 := hr0.below hbw hr0.lt
  have hgn : g ≠ w.heap.size + 1 := by simp at hg; omega
  have hvn : ∀ k, v.ownBlock = some k → k ≠ w.heap.size + 1 := fun k hk => by have := (hv.lt k hk).1; simp at this; omega
  have hB1 : Below w.heap.size w w1 := ((Below.refl _ w).alloc (Nat.le_refl _) _).alloc (by simp) _ |>.trans (hbw.mono (by simp; omega))
  have hsz : w.heap.size + 1 < w1.heap.size := hr1.lt
  refine wpIn_rangeFunc_ownG rfl (by omega) (gf := 117) (lb := #[.pointer (some ⟨g, 0, none⟩)]) rfl trivial (enters_of Tryz.func117 (by kernel_rfl) rfl)
    (lengths1_stops _ (by omega) g _ v ps hle (by rw [HL.out]; exact hn) (MB (fun k _ => k = w.heap.size + 1) w1.heap.size) w1 hbg hv (by rintro (e | ⟨_, e⟩); exact hgn e; cases e) (fun k o hk => by
      rintro (e | ⟨e, _⟩)
      · exact hvn k hk e
      · have := (hv.lt k hk).2; omega))
    Kept.trans (MB.b w1) (Below.refl _ _) (fun _ => rfl)
    (fun pre W => Blk W (w.heap.size + 1) 3 #[.int .i64 (sumIL pre)] ∧ Kept (MB (fun k _ => k = w.heap.size + 1) w1.heap.size) w1 W) (fun _ _ _ => False)
    (OwnFrom.and (Own.from (blk_own _ _ _) _) ownFrom_kept) (fun _ _ _ _ _ hs _ _ => hs)
    ⟨by simpa [sumIL] using hr1, Kept.refl _ _⟩
    (fun x => { tmps := #[.agg #[.bool s, .bool e, .slice A n c], .pointer (some ⟨w.heap.size, 0, none⟩), .pointer (some ⟨w.heap.size + 1, 0, none⟩), undef, .int .i64 (x.1.2 : Nat), .agg #[.bool s, .bool e, .slice A n c], .func (.func 117) #[] #[.pointer (some ⟨g, 0, none⟩)], .int .i64 (x.1.1 : Nat), .int .i64 (x.1.2 : Nat), undef, undef, undef, undef], defers := [] }) ?assign ?body ?done ?stop
  case assign =>
    intro l x W K hK
    gi_wp2
    exact hK
  case body =>
    rintro lp pre x W ⟨hbx, hKe⟩ hlen
    have hc := hbx.cell 0
    have hf := hbx.frozen 0
    simp at hc
    have hx := x.2
    have hsl := sumIL_le pre
    have hsn := sumIL_snoc pre x
    have HSN := Lib.hid hsn
    clear hsn
    generalize sumIL pre = S at *
    have hlen' : pre.length < 1048576 := by have := HL.out; omega
    obtain ⟨⟨xi, xl⟩, hxl⟩ := x
    dsimp only at *
    gi_wp2
    refine ⟨(KeepsOthers.setCell _ _ _).from _, (Kept.refl _ W).setCell (p := ⟨w.heap.size + 1, 0, none⟩) (fun _ _ => .inl rfl) _, ?_, hKe.setCell (p := ⟨w.heap.size + 1, 0, none⟩) (fun _ _ => .inl rfl) _⟩
    rw [HSN.out]
    simpa using hbx.set_ 0 (.int .i64 ((S : Int) + xl))
  case done =>
    rintro D ys W hD rfl ⟨hbx, hKe⟩ hK
    have hc := hbx.cell 0
    have hf := hbx.frozen 0
    simp at hc
    have hS := sumIL_ilen ps hle ps.length (Nat.le_refl _)
    rw [List.take_of_length_le (Nat.le_refl _)] at hS
    rw [hS] at hc hbx
    clear hS
    generalize hSS : sumLen ps = S at *
    have HSS := Lib.hid hSS
    clear hSS
    have hK2 := (KeepsOthers.setCell W ⟨w.heap.size + 1, 0, none⟩ (.int .i64 S)).same D _ hK rfl
    gi_wp2
    refine ⟨by simp, .inl ⟨_, _, rfl, run_takeDeferred hK2, ?_⟩⟩
    have hKe2 := (hKe.setCell (p := ⟨w.heap.size + 1, 0, none⟩) (fun _ _ => .inl rfl) (.int .i64 S)).taken (.deferred none) hD hK2 rfl
    have hbx2 := (hbx.set_ 0 (.int .i64 S)).grown (grownBy_putObj' _ D (.deferred none)) (by simp; omega)
    have hc2 := hbx2.cell 0
    simp at hc2
    refine ⟨.int .i64 S, by simp [results, Tryz.results89, go_sem, hc2], ret_int (by rw [HSS.out]), hB1.trans (hKe2.drop.below (fun k o e => by omega) (by omega))⟩
  case stop =>
    rintro D c pre W _ _ h _
    exact h.elim
end Go.Proofs.YtbjajboodohabaaGreat
namespace Go.Proofs.YtbjajboodohabaaGreat
open Go.RowKit

def qEmpty (n : Nat) : Bool := decide (n = 0)
def qLong (n : Nat) : Bool := decide (2047 < n)
/-- IndexFunc's answer: an index where the predicate holds, or -1 where it holds nowhere. -/
def IdxIs (q : List UInt8 → Bool) (ps : List (List UInt8)) (w : World) (e : Ending) (w' : World) : Prop :=
  (∃ k : Nat, e = .returned (.int .i64 k) ∧ (∃ p ∈ ps, q p = true) ∧ w = w') ∨ (e = .returned (.int .i64 (-1)) ∧ (∀ p ∈ ps, q p = false) ∧ w = w')


theorem empty_any (A : Option Addr) (n c : Nat) (w : World) : Calls Tryz.prog 81 #[.slice A n c] w fun e w' => e = .returned (.bool (qEmpty n)) ∧ w = w' := by
  have hd : ((n : Int) == 0) = qEmpty n := by unfold qEmpty; rw [Bool.eq_iff_iff]; simp; try omega
  generalize qEmpty n = r at *
  go_enter Tryz.func81, Tryz.ntmps81
  go_wp2
  go_ret
  first | exact ⟨rfl, rfl⟩ | exact ⟨ret_bool hd, rfl⟩

set_option maxHeartbeats 400000 in
theorem indexempty_any (A : Option Addr) (n c : Nat) (vs : List Value) (ps : List (List UInt8)) (w : World) (h : Sls w w.heap.size A n c vs ps) :
    Calls Tryz.prog 106 #[.slice A n c, .func (.func 81) #[] #[]] w (IdxIs (fun p => qEmpty p.length) ps w) := by
  have HL := Lib.hid h.len
  have hn63 : n ≤ 9223372036854775807 := by have := h.sl.cap; have := h.sl.mx; omega
  go_enter Tryz.func106, Tryz.ntmps106
  go_wp2
  go_loop [8] (fun i => ∃ k : Nat, k ≤ n ∧ i = .int .i64 k ∧ ∀ p ∈ ps.take k, qEmpty p.length = false) (fun i => n - (intOf i).toNat)
  case atStart => exact ⟨0, Nat.zero_le _, rfl, by simp⟩
  case round =>
    obtain ⟨k, hk, rfl, hall⟩ := hrel
    have HA := Lib.hid hall
    clear hall
    by_cases hlt : k < n
    · obtain ⟨ad, Ai, ci, rfl, hb, hc, hsl⟩ := h.get hlt
      have hkl : k < ps.length := by rw [HL.out]; exact hlt
      have hin : ps[k]?.getD [] ∈ ps := by rw [List.getElem?_eq_getElem hkl]; exact List.getElem_mem _
      have htk : ps.take (k + 1) = ps.take k ++ [ps[k]?.getD []] := by rw [List.take_add_one, List.getElem?_eq_getElem hkl]; rfl
      generalize ps[k]?.getD [] = p at *
      have HT := Lib.hid htk
      have HI := Lib.hid hin
      clear htk hin hkl
      cases hq : qEmpty p.length with
      | false =>
        have HQ := Lib.hid hq
        have hfv := empty_any Ai p.length ci w
        rw [hq] at hfv
        have HF := Lib.hid hfv
        clear hfv hq
        go_wp2_with (go_at_call 81; refine HF.out.mono ?_; rintro e w' ⟨rfl, rfl⟩)
        go_round
        case rel => exact ⟨k + 1, by omega, by go_num, by
          intro q hq
          rw [HT.out, List.mem_append] at hq
          rcases hq with hq | hq
          · exact HA.out q hq
          · rw [List.mem_singleton] at hq; rw [hq]; exact HQ.out⟩
        case measure => simp [intOf]; omega
      | true =>
        have HQ := Lib.hid hq
        have hfv := empty_any Ai p.length ci w
        rw [hq] at hfv
        have HF := Lib.hid hfv
        clear hfv hq
        go_wp2_with (go_at_call 81; refine HF.out.mono ?_; rintro e w' ⟨rfl, rfl⟩)
        go_ret
        exact .inl ⟨k, rfl, ⟨p, HI.out, HQ.out⟩, rfl⟩
    · have e : ps.take k = ps := List.take_of_length_le (by rw [HL.out]; omega)
      have hA := HA.out
      rw [e] at hA
      have HA' := Lib.hid hA
      clear hA e
      go_wp2
      go_ret
      exact .inr ⟨rfl, HA'.out, rfl⟩

theorem containsempty_any (A : Option Addr) (n c : Nat) (vs : List Value) (ps : List (List UInt8)) (w : World) (h : Sls w w.heap.size A n c vs ps) :
    Calls Tryz.prog 86 #[.slice A n c, .func (.func 81) #[] #[]] w fun e w' => e = .returned (.bool (ps.any fun p => qEmpty p.length)) ∧ w = w' := by
  go_enter Tryz.func86, Tryz.ntmps86
  go_wp2_with fail
  refine (indexempty_any A n c vs ps w h).mono ?_
  rintro e w' (⟨k, rfl, ⟨p, hp, hq⟩, rfl⟩ | ⟨rfl, hall, rfl⟩)
  · have hany : (ps.any fun p => qEmpty p.length) = true := by rw [List.any_eq_true]; exact ⟨p, hp, hq⟩
    have HA := Lib.hid hany
    clear hany
    go_wp2
    go_ret
    exact ⟨ret_bool (by rw [HA.out]), rfl⟩
  · have hany : (ps.any fun p => qEmpty p.length) = false := by rw [List.any_eq_false]; intro p hp; have := hall p hp; dsimp only at this; rw [this]; simp
    have HA := Lib.hid hany
    clear hany hall
    go_wp2
    go_ret
    exact ⟨ret_bool (by rw [HA.out]), rfl⟩


theorem long_any (A : Option Addr) (n c : Nat) (w : World) : Calls Tryz.prog 82 #[.slice A n c] w fun e w' => e = .returned (.bool (qLong n)) ∧ w = w' := by
  have hd : (decide (2047 < (n : Int))) = qLong n := by unfold qLong; rw [Bool.eq_iff_iff]; simp; try omega
  generalize qLong n = r at *
  go_enter Tryz.func82, Tryz.ntmps82
  go_wp2
  go_ret
  first | exact ⟨rfl, rfl⟩ | exact ⟨ret_bool hd, rfl⟩

set_option maxHeartbeats 400000 in
theorem indexlong_any (A : Option Addr) (n c : Nat) (vs : List Value) (ps : List (List UInt8)) (w : World) (h : Sls w w.heap.size A n c vs ps) :
    Calls Tryz.prog 106 #[.slice A n c, .func (.func 82) #[] #[]] w (IdxIs (fun p => qLong p.length) ps w) := by
  have HL := Lib.hid h.len
  have hn63 : n ≤ 9223372036854775807 := by have := h.sl.cap; have := h.sl.mx; omega
  go_enter Tryz.func106, Tryz.ntmps106
  go_wp2
  go_loop [8] (fun i => ∃ k : Nat, k ≤ n ∧ i = .int .i64 k ∧ ∀ p ∈ ps.take k, qLong p.length = false) (fun i => n - (intOf i).toNat)
  case atStart => exact ⟨0, Nat.zero_le _, rfl, by simp⟩
  case round =>
    obtain ⟨k, hk, rfl, hall⟩ := hrel
    have HA := Lib.hid hall
    clear hall
    by_cases hlt : k < n
    · obtain ⟨ad, Ai, ci, rfl, hb, hc, hsl⟩ := h.get hlt
      have hkl : k < ps.length := by rw [HL.out]; exact hlt
      have hin : ps[k]?.getD [] ∈ ps := by rw [List.getElem?_eq_getElem hkl]; exact List.getElem_mem _
      have htk : ps.take (k + 1) = ps.take k ++ [ps[k]?.getD []] := by rw [List.take_add_one, List.getElem?_eq_getElem hkl]; rfl
      generalize ps[k]?.getD [] = p at *
      have HT := Lib.hid htk
      have HI := Lib.hid hin
      clear htk hin hkl
      cases hq : qLong p.length with
      | false =>
        have HQ := Lib.hid hq
        have hfv := long_any Ai p.length ci w
        rw [hq] at hfv
        have HF := Lib.hid hfv
        clear hfv hq
        go_wp2_with (go_at_call 82; refine HF.out.mono ?_; rintro e w' ⟨rfl, rfl⟩)
        go_round
        case rel => exact ⟨k + 1, by omega, by go_num, by
          intro q hq
          rw [HT.out, List.mem_append] at hq
          rcases hq with hq | hq
          · exact HA.out q hq
          · rw [List.mem_singleton] at hq; rw [hq]; exact HQ.out⟩
        case measure => simp [intOf]; omega
      | true =>
        have HQ := Lib.hid hq
        have hfv := long_any Ai p.length ci w
        rw [hq] at hfv
        have HF := Lib.hid hfv
        clear hfv hq
        go_wp2_with (go_at_call 82; refine HF.out.mono ?_; rintro e w' ⟨rfl, rfl⟩)
        go_ret
        exact .inl ⟨k, rfl, ⟨p, HI.out, HQ.out⟩, rfl⟩
    · have e : ps.take k = ps := List.take_of_length_le (by rw [HL.out]; omega)
      have hA := HA.out
      rw [e] at hA
      have HA' := Lib.hid hA
      clear hA e
      go_wp2
      go_ret
      exact .inr ⟨rfl, HA'.out, rfl⟩

theorem containslong_any (A : Option Addr) (n c : Nat) (vs : List Value) (ps : List (List UInt8)) (w : World) (h : Sls w w.heap.size A n c vs ps) :
    Calls Tryz.prog 86 #[.slice A n c, .func (.func 82) #[] #[]] w fun e w' => e = .returned (.bool (ps.any fun p => qLong p.length)) ∧ w = w' := by
  go_enter Tryz.func86, Tryz.ntmps86
  go_wp2_with fail
  refine (indexlong_any A n c vs ps w h).mono ?_
  rintro e w' (⟨k, rfl, ⟨p, hp, hq⟩, rfl⟩ | ⟨rfl, hall, rfl⟩)
  · have hany : (ps.any fun p => qLong p.length) = true := by rw [List.any_eq_true]; exact ⟨p, hp, hq⟩
    have HA := Lib.hid hany
    clear hany
    go_wp2
    go_ret
    exact ⟨ret_bool (by rw [HA.out]), rfl⟩
  · have hany : (ps.any fun p => qLong p.length) = false := by rw [List.any_eq_false]; intro p hp; have := hall p hp; dsimp only at this; rw [this]; simp
    have HA := Lib.hid hany
    clear hany hall
    go_wp2
    go_ret
    exact ⟨ret_bool (by rw [HA.out]), rfl⟩

end Go.Proofs.YtbjajboodohabaaGreat
namespace Go.Proofs.YtbjajboodohabaaGreat
open Go.RowKit

theorem Sls.drew' {w : World} {B n c : Nat} {A : Option Addr} {vs : List Value} {ps : List (List UInt8)} (h : Sls w B A n c vs ps) : Sls w.drew B A n c vs ps := ⟨h.sl.drew, h.len, fun i p hi => let ⟨Ai, ci, e, hs⟩ := h.each i p hi; ⟨Ai, ci, e, hs.drew⟩⟩
theorem Sls.drewN' {w : World} {n c : Nat} {A : Option Addr} {vs : List Value} {ps : List (List UInt8)} (h : Sls w w.heap.size A n c vs ps) (k : Nat) : Sls (w.drewN k) (w.drewN k).heap.size A n c vs ps := ⟨h.sl.drewN k, h.len, fun i p hi => let ⟨Ai, ci, e, hs⟩ := h.each i p hi; ⟨Ai, ci, e, hs.drewN k⟩⟩
theorem Sls.pre {w : World} {B n c k : Nat} {A : Option Addr} {vs : List Value} {ps : List (List UInt8)} (h : Sls w B A n c vs ps) (hk : k ≤ n) : Sls w B A k k (vs.take k) (ps.take k) := by
  refine ⟨⟨by rw [List.length_take, h.sl.len]; omega, Nat.le_refl _, by have := h.sl.cap; have := h.sl.mx; omega, fun hp => ?_⟩, by rw [List.length_take, h.len]; omega, fun i p hi => ?_⟩
  · obtain ⟨ad, e, hb, hc⟩ := h.sl.at_ (by omega)
    refine ⟨ad, e, hb, fun j u hu => hc j u ?_⟩
    rw [List.getElem?_take] at hu
    split at hu
    · exact hu
    · cases hu
  · rw [List.getElem?_take] at hi
    split at hi
    · obtain ⟨Ai, ci, e, hs⟩ := h.each i p hi
      exact ⟨Ai, ci, by rw [List.getElem?_take, if_pos (by assumption)]; exact e, hs⟩
    · cases hi

/-- IndexFunc's answer over conditions -/
def AllIs (bs : List Bool) (Inv : World → Prop) (e : Ending) (w' : World) : Prop :=
  ((∃ k : Nat, e = .returned (.int .i64 k) ∧ bs.all id = false) ∨ (e = .returned (.int .i64 (-1)) ∧ bs.all id = true)) ∧ Inv w'

set_option maxHeartbeats 400000 in
theorem indexAll_any (b : Nat) (fvs : List Value) (bs : List Bool) (Inv : World → Prop) (w : World) (hlen : bs.length = fvs.length) (hsm : fvs.length ≤ 1000) (hI : ∀ W, Inv W → Blk W b 24 fvs.toArray)
    (hcall : ∀ (i : Nat) (fv : Value) (x : Bool) (W : World), fvs[i]? = some fv → bs[i]? = some x → (∀ y ∈ bs.take i, y = true) → Inv W → Calls Tryz.prog 105 #[fv] W fun e W' => e = .returned (.bool (!x)) ∧ Inv W')
    (h0 : Inv w) : Calls Tryz.prog 116 #[.slice (some ⟨b, 0, none⟩) fvs.length fvs.length, .func (.func 105) #[] #[]] w (AllIs bs Inv) := by
  have HC := Lib.hid hcall
  have HI := Lib.hid hI
  have HL := Lib.hid hlen
  clear hcall hI hlen
  obtain ⟨N, hN⟩ : ∃ N, N = fvs.length := ⟨_, rfl⟩
  rw [← hN] at hsm ⊢
  have HN := Lib.hid hN
  clear hN
  go_enter Tryz.func116, Tryz.ntmps116
  go_wp2
  go_loopw [8] (fun i wr => ∃ k : Nat, k ≤ N ∧ i = .int .i64 k ∧ (∀ y ∈ bs.take k, y = true) ∧ Inv wr) (fun i _ => N - (intOf i).toNat)
  case atStart => exact ⟨0, Nat.zero_le _, rfl, by simp, h0⟩
  case round =>
    clear h0
    obtain ⟨k, hk, rfl, hall, hinv⟩ := hrel
    have HA := Lib.hid hall
    clear hall
    by_cases hlt : k < N
    · obtain ⟨fv, hfv⟩ : ∃ fv, fvs[k]? = some fv := ⟨_, List.getElem?_eq_getElem (by rw [← HN.out]; exact hlt)⟩
      obtain ⟨x, hx⟩ : ∃ x, bs[k]? = some x := ⟨_, List.getElem?_eq_getElem (by rw [HL.out, ← HN.out]; exact hlt)⟩
      have hcl := HC.out k fv x wr hfv hx HA.out hinv
      have hcell := (HI.out wr hinv).cell k
      rw [List.getElem?_toArray, hfv] at hcell
      have HCL := Lib.hid hcl
      have HX := Lib.hid hx
      clear hcl hfv hx
      cases x with
      | true =>
        go_wp2_with (go_at_call 105; refine HCL.out.mono ?_; rintro e w' ⟨rfl, hi'⟩)
        go_roundw
        case rel => exact ⟨k + 1, by omega, by go_num, by
          intro y hy
          rw [List.take_add_one, HX.out, List.mem_append] at hy
          rcases hy with hy | hy
          · exact HA.out y hy
          · simpa using hy, hi'⟩
        case measure => simp [intOf]; omega
      | false =>
        go_wp2_with (go_at_call 105; refine HCL.out.mono ?_; rintro e w' ⟨rfl, hi'⟩)
        go_ret
        refine ⟨.inl ⟨k, rfl, ?_⟩, hi'⟩
        rw [List.all_eq_false]
        exact ⟨false, List.mem_of_getElem? HX.out, by simp⟩
    · have e : bs.take k = bs := List.take_of_length_le (by rw [HL.out, ← HN.out]; omega)
      have hA := HA.out
      rw [e] at hA
      have HA' := Lib.hid hA
      clear hA e
      go_wp2
      go_ret
      exact ⟨.inr ⟨rfl, by rw [List.all_eq_true]; exact HA'.out⟩, hinv⟩

theorem containsAll_any (b : Nat) (fvs : List Value) (bs : List Bool) (Inv : World → Prop) (w : World)
    (h : Calls Tryz.prog 116 #[.slice (some ⟨b, 0, none⟩) fvs.length fvs.length, .func (.func 105) #[] #[]] w (AllIs bs Inv)) :
    Calls Tryz.prog 104 #[.slice (some ⟨b, 0, none⟩) fvs.length fvs.length, .func (.func 105) #[] #[]] w fun e w' => e = .returned (.bool (!bs.all id)) ∧ Inv w' := by
  have H := Lib.hid h
  clear h
  go_enter Tryz.func104, Tryz.ntmps104
  go_wp2_with fail
  refine H.out.mono ?_
  rintro e w' ⟨⟨k, rfl, ha⟩ | ⟨rfl, ha⟩, hi⟩
  · have HA := Lib.hid ha
    clear ha
    go_wp2
    go_ret
    exact ⟨ret_bool (by rw [HA.out]; rfl), hi⟩
  · have HA := Lib.hid ha
    clear ha
    go_wp2
    go_ret
    exact ⟨ret_bool (by rw [HA.out]; rfl), hi⟩

theorem all_any (b : Nat) (fvs : List Value) (bs : List Bool) (Inv : World → Prop) (w : World)
    (h : Calls Tryz.prog 104 #[.slice (some ⟨b, 0, none⟩) fvs.length fvs.length, .func (.func 105) #[] #[]] w fun e w' => e = .returned (.bool (!bs.all id)) ∧ Inv w') :
    Calls Tryz.prog 83 #[.slice (some ⟨b, 0, none⟩) fvs.length fvs.length] w fun e w' => e = .returned (.bool (bs.all id)) ∧ Inv w' := by
  have H := Lib.hid h
  clear h
  go_enter Tryz.func83, Tryz.ntmps83
  go_wp2_with fail
  refine H.out.mono ?_
  rintro e w' ⟨rfl, hi⟩
  go_wp2
  go_ret
  exact ⟨ret_bool (by simp), hi⟩
end Go.Proofs.YtbjajboodohabaaGreat
namespace Go.Proofs.YtbjajboodohabaaGreat
open Go.RowKit

/-- what Valid answers, condition by condition -/
def vConds (ps : List (List UInt8)) : List Bool :=
  [decide (1 ≤ ps.length ∧ ps.length ≤ 64), !(ps.any fun p => qEmpty p.length), !((ps.take (ps.length - 1)).any fun p => qLong p.length), decide (sumLen ps ≤ 32767)]
def validB (ps : List (List UInt8)) : Bool := (vConds ps).all id

theorem v3_any (bn n : Nat) (w : World) (h : Blk w bn 3 #[.int .i64 n]) :
    Calls Tryz.prog 84 #[.pointer (some ⟨bn, 0, none⟩)] w fun e w' => e = .returned (.bool (decide (1 ≤ n ∧ n ≤ 64))) ∧ w = w' := by
  have hc := h.cell 0
  simp at hc
  by_cases h1 : 1 ≤ n
  · by_cases h2 : n ≤ 64
    · have hd : decide (1 ≤ n ∧ n ≤ 64) = true := by simp; omega
      rw [hd]
      clear hd
      go_enter Tryz.func84, Tryz.ntmps84
      go_wp2
      go_ret
      exact ⟨ret_bool (by simp; omega), rfl⟩
    · have hd : decide (1 ≤ n ∧ n ≤ 64) = false := by simp; omega
      rw [hd]
      clear hd
      go_enter Tryz.func84, Tryz.ntmps84
      go_wp2
      go_ret
      exact ⟨ret_bool (by simp; omega), rfl⟩
  · have hd : decide (1 ≤ n ∧ n ≤ 64) = false := by simp; omega
    rw [hd]
    clear hd
    go_enter Tryz.func84, Tryz.ntmps84
    go_wp2
    go_ret
    exact ⟨rfl, rfl⟩

theorem v4_any (bc be : Nat) (s e : Bool) (A : Option Addr) (n c : Nat) (vs : List Value) (ps : List (List UInt8)) (w : World) (h : Sls w w.heap.size A n c vs ps)
    (hc : Blk w bc 76 #[.bool s, .bool e, .slice A n c]) (he : Blk w be 161 #[.func (.func 81) #[] #[]]) :
    Calls Tryz.prog 85 #[.pointer (some ⟨bc, 0, none⟩), .pointer (some ⟨be, 0, none⟩)] w fun e w' => e = .returned (.bool (!(ps.any fun p => qEmpty p.length))) ∧ w = w' := by
  have hc2 := hc.cell 2
  have he0 := he.cell 0
  simp at hc2 he0
  have hct := containsempty_any A n c vs ps w h
  have HC := Lib.hid hct
  clear hct
  generalize (ps.any fun p => qEmpty p.length) = r at *
  go_enter Tryz.func85, Tryz.ntmps85
  go_wp2_with (go_at_call 86; refine HC.out.mono ?_; rintro e w' ⟨rfl, rfl⟩)
  go_ret
  exact ⟨rfl, rfl⟩

set_option maxHeartbeats 400000 in
theorem v5_any (bc bn bl : Nat) (s e : Bool) (A : Option Addr) (n c : Nat) (vs : List Value) (ps : List (List UInt8)) (w : World) (h : Sls w w.heap.size A n c vs ps)
    (hc : Blk w bc 76 #[.bool s, .bool e, .slice A n c]) (hn : Blk w bn 3 #[.int .i64 n]) (hl : Blk w bl 161 #[.func (.func 82) #[] #[]]) (h1 : 1 ≤ n) :
    Calls Tryz.prog 87 #[.pointer (some ⟨bc, 0, none⟩), .pointer (some ⟨bn, 0, none⟩), .pointer (some ⟨bl, 0, none⟩)] w fun e w' => e = .returned (.bool (!((ps.take (n - 1)).any fun p => qLong p.length))) ∧ Below w.heap.size w w' := by
  have hc2 := hc.cell 2
  have hn0 := hn.cell 0
  have hl0 := hl.cell 0
  simp at hc2 hn0 hl0
  have hcap := h.sl.cap
  have hmx := h.sl.mx
  obtain ⟨m, rfl⟩ : ∃ m, n = m + 1 := ⟨n - 1, by omega⟩
  have hct := fun W (hW : Sls W W.heap.size A (m + 1) c vs ps) => containslong_any A m m _ _ W (hW.pre (k := m) (by omega))
  have e1 : m + 1 - 1 = m := by omega
  rw [e1]
  generalize ((ps.take m).any fun p => qLong p.length) = r at *
  have HC := Lib.hid hct
  clear hct e1
  have e2 : ((m : Int) + 1 - 1) = m := by omega
  have e3 : IntKind.i64.wrap ((m : Int) + 1 - 1) = m := by rw [e2]; exact IntWalk.i64_in _ (by omega)
  go_enter Tryz.func87, Tryz.ntmps87
  go_wp2
  go_quiet ((go_at_call 86; exact Calls.quiet_of_same ((HC.out _ (h.drewN' _)).mono fun _ _ hh => ⟨hh.1, hh.2.symm⟩)))
  go_wp2
  go_ret
  exact ⟨rfl, (Below.refl _ w).drewN _⟩

theorem v6_any (bc : Nat) (s e : Bool) (A : Option Addr) (n c : Nat) (vs : List Value) (ps : List (List UInt8)) (w : World) (h : Sls w w.heap.size A n c vs ps) (hn : n ≤ 1048576) (hle : ∀ p ∈ ps, p.length ≤ 1099511627776)
    (hc : Blk w bc 76 #[.bool s, .bool e, .slice A n c]) :
    Calls Tryz.prog 88 #[.pointer (some ⟨bc, 0, none⟩)] w fun e w' => e = .returned (.bool (decide (sumLen ps ≤ 32767))) ∧ Below w.heap.size w w' := by
  have hc0 := hc.cell 0
  have hc1 := hc.cell 1
  have hc2 := hc.cell 2
  simp at hc0 hc1 hc2
  have hsz := size_any s e A n c vs ps w h hn hle
  have HZ := Lib.hid hsz
  clear hsz hle
  generalize sumLen ps = S at *
  have hd : decide ((S : Int) ≤ 32767) = decide (S ≤ 32767) := by simp; omega
  generalize hr : decide (S ≤ 32767) = r at *
  clear hr
  go_enter Tryz.func88, Tryz.ntmps88
  go_wp2_with (go_at_call 89; refine HZ.out.mono ?_; rintro e w' ⟨rfl, hb⟩)
  go_ret
  first | exact ⟨rfl, hb⟩ | exact ⟨ret_bool hd, hb⟩

theorem not_v3 (bn : Nat) (x : Bool) (w : World) (h : Calls Tryz.prog 84 #[.pointer (some ⟨bn, 0, none⟩)] w fun e w' => e = .returned (.bool x) ∧ Below w.heap.size w w') :
    Calls Tryz.prog 105 #[.func (.func 84) #[] #[.pointer (some ⟨bn, 0, none⟩)]] w fun e w' => e = .returned (.bool (!x)) ∧ Below w.heap.size w w' := by
  have H := Lib.hid h
  clear h
  go_enter Tryz.func105, Tryz.ntmps105
  go_wp2_with (go_at_call 84; refine H.out.mono ?_; rintro e w' ⟨rfl, hb⟩)
  go_ret
  exact ⟨rfl, hb⟩

theorem not_v4 (bc be : Nat) (x : Bool) (w : World) (h : Calls Tryz.prog 85 #[.pointer (some ⟨bc, 0, none⟩), .pointer (some ⟨be, 0, none⟩)] w fun e w' => e = .returned (.bool x) ∧ Below w.heap.size w w') :
    Calls Tryz.prog 105 #[.func (.func 85) #[] #[.pointer (some ⟨bc, 0, none⟩), .pointer (some ⟨be, 0, none⟩)]] w fun e w' => e = .returned (.bool (!x)) ∧ Below w.heap.size w w' := by
  have H := Lib.hid h
  clear h
  go_enter Tryz.func105, Tryz.ntmps105
  go_wp2_with (go_at_call 85; refine H.out.mono ?_; rintro e w' ⟨rfl, hb⟩)
  go_ret
  exact ⟨rfl, hb⟩

theorem not_v5 (bc bn bl : Nat) (x : Bool) (w : World) (h : Calls Tryz.prog 87 #[.pointer (some ⟨bc, 0, none⟩), .pointer (some ⟨bn, 0, none⟩), .pointer (some ⟨bl, 0, none⟩)] w fun e w' => e = .returned (.bool x) ∧ Below w.heap.size w w') :
    Calls Tryz.prog 105 #[.func (.func 87) #[] #[.pointer (some ⟨bc, 0, none⟩), .pointer (some ⟨bn, 0, none⟩), .pointer (some ⟨bl, 0, none⟩)]] w fun e w' => e = .returned (.bool (!x)) ∧ Below w.heap.size w w' := by
  have H := Lib.hid h
  clear h
  go_enter Tryz.func105, Tryz.ntmps105
  go_wp2_with (go_at_call 87; refine H.out.mono ?_; rintro e w' ⟨rfl, hb⟩)
  go_ret
  exact ⟨rfl, hb⟩

theorem not_v6 (bc : Nat) (x : Bool) (w : World) (h : Calls Tryz.prog 88 #[.pointer (some ⟨bc, 0, none⟩)] w fun e w' => e = .returned (.bool x) ∧ Below w.heap.size w w') :
    Calls Tryz.prog 105 #[.func (.func 88) #[] #[.pointer (some ⟨bc, 0, none⟩)]] w fun e w' => e = .returned (.bool (!x)) ∧ Below w.heap.size w w' := by
  have H := Lib.hid h
  clear h
  go_enter Tryz.func105, Tryz.ntmps105
  go_wp2_with (go_at_call 88; refine H.out.mono ?_; rintro e w' ⟨rfl, hb⟩)
  go_ret
  exact ⟨rfl, hb⟩

/-- The four conditions, called one after the other. -/
theorem valid_all (bc bn be bl b : Nat) (s e : Bool) (A : Option Addr) (n c : Nat) (vs : List Value) (ps : List (List UInt8)) (w : World) (h : Sls w w.heap.size A n c vs ps) (hn : n ≤ 1048576) (hle : ∀ p ∈ ps, p.length ≤ 1099511627776)
    (hbc : Blk w bc 76 #[.bool s, .bool e, .slice A n c]) (hbn : Blk w bn 3 #[.int .i64 n]) (hbe : Blk w be 161 #[.func (.func 81) #[] #[]]) (hbl : Blk w bl 161 #[.func (.func 82) #[] #[]])
    (hb : Blk w b 24 #[.func (.func 84) #[] #[.pointer (some ⟨bn, 0, none⟩)], .func (.func 85) #[] #[.pointer (some ⟨bc, 0, none⟩), .pointer (some ⟨be, 0, none⟩)],
      .func (.func 87) #[] #[.pointer (some ⟨bc, 0, none⟩), .pointer (some ⟨bn, 0, none⟩), .pointer (some ⟨bl, 0, none⟩)], .func (.func 88) #[] #[.pointer (some ⟨bc, 0, none⟩)]]) :
    Calls Tryz.prog 83 #[.slice (some ⟨b, 0, none⟩) 4 4] w fun e w' => e = .returned (.bool (validB ps)) ∧ Below w.heap.size w w' := by
  refine all_any b [.func (.func 84) #[] #[.pointer (some ⟨bn, 0, none⟩)], .func (.func 85) #[] #[.pointer (some ⟨bc, 0, none⟩), .pointer (some ⟨be, 0, none⟩)],
      .func (.func 87) #[] #[.pointer (some ⟨bc, 0, none⟩), .pointer (some ⟨bn, 0, none⟩), .pointer (some ⟨bl, 0, none⟩)], .func (.func 88) #[] #[.pointer (some ⟨bc, 0, none⟩)]] (vConds ps) (fun W => Below w.heap.size w W) w ?_
  refine containsAll_any b _ (vConds ps) (fun W => Below w.heap.size w W) w ?_
  refine indexAll_any b _ (vConds ps) (fun W => Below w.heap.size w W) w rfl (by simp) (fun W hW => hb.below hW hb.lt) ?_ (Below.refl _ _)
  have hl := h.len
  intro i fv x W hfv hx hpre hW
  have hS := (h.below hW).more hW.size
  have key : Calls Tryz.prog 105 #[fv] W fun e W' => e = .returned (.bool (!x)) ∧ Below W.heap.size W W' := by
    match i, hfv, hx, hpre with
    | 0, hfv, hx, _ =>
      simp only [vConds, List.getElem?_cons_zero, Option.some.injEq] at hfv hx
      subst hfv hx
      refine not_v3 bn _ W ((v3_any bn n W (hbn.below hW hbn.lt)).mono fun e W' hh => ⟨?_, by rw [← hh.2]; exact Below.refl _ _⟩)
      rw [hh.1, hl]
    | 1, hfv, hx, _ =>
      simp only [vConds, List.getElem?_cons_zero, List.getElem?_cons_succ, Option.some.injEq] at hfv hx
      subst hfv hx
      exact not_v4 bc be _ W ((v4_any bc be s e A n c vs ps W hS (hbc.below hW hbc.lt) (hbe.below hW hbe.lt)).mono fun e W' hh => ⟨hh.1, by rw [← hh.2]; exact Below.refl _ _⟩)
    | 2, hfv, hx, hpre =>
      have h1 : 1 ≤ n := by
        have := hpre (decide (1 ≤ ps.length ∧ ps.length ≤ 64)) (by simp [vConds])
        simp at this
        omega
      simp only [vConds, List.getElem?_cons_zero, List.getElem?_cons_succ, Option.some.injEq] at hfv hx
      subst hfv hx
      rw [hl]
      exact not_v5 bc bn bl _ W (v5_any bc bn bl s e A n c vs ps W hS (hbc.below hW hbc.lt) (hbn.below hW hbn.lt) (hbl.below hW hbl.lt) h1)
    | 3, hfv, hx, _ =>
      simp only [vConds, List.getElem?_cons_zero, List.getElem?_cons_succ, Option.some.injEq] at hfv hx
      subst hfv hx
      exact not_v6 bc _ W (v6_any bc s e A n c vs ps W hS hn hle (hbc.below hW hbc.lt))
    | i + 4, hfv, _, _ => simp at hfv
  exact key.mono fun e W' hh => ⟨hh.1, hW.trans (hh.2.mono hW.size)⟩

set_option maxHeartbeats 800000 in
/-- Valid answers whether the chunk is valid. -/
theorem valid_any (s e : Bool) (A : Option Addr) (n c : Nat) (vs : List Value) (ps : List (List UInt8)) (w : World) (h : Sls w w.heap.size A n c vs ps) (hn : n ≤ 1048576) (hle : ∀ p ∈ ps, p.length ≤ 1099511627776) :
    Calls Tryz.prog 53 #[.agg #[.bool s, .bool e, .slice A n c]] w fun e w' => e = .returned (.bool (validB ps)) ∧ Below w.heap.size w w' := by
  have HLE := Lib.hid hle
  clear hle
  have hK := ((((Kept.refl (fun k _ => w.heap.size ≤ k) w).alloc (.cells #[.bool s, .bool e, .slice A n c] 76)).alloc (.cells #[.int .i64 n] 3)).alloc (.cells #[.func (.func 81) #[] #[]] 161)).alloc (.cells #[.func (.func 82) #[] #[]] 161)
  have hB := (hK.alloc (.cells #[.func (.func 84) #[] #[.pointer (some ⟨w.heap.size + 1, 0, none⟩)], .func (.func 85) #[] #[.pointer (some ⟨w.heap.size, 0, none⟩), .pointer (some ⟨w.heap.size + 1 + 1, 0, none⟩)],
      .func (.func 87) #[] #[.pointer (some ⟨w.heap.size, 0, none⟩), .pointer (some ⟨w.heap.size + 1, 0, none⟩), .pointer (some ⟨w.heap.size + 1 + 1 + 1, 0, none⟩)], .func (.func 88) #[] #[.pointer (some ⟨w.heap.size, 0, none⟩)]] 24)).below (B := w.heap.size) (fun _ _ h => h) (Nat.le_refl _)
  clear hK
  have b0 := Blk.new w 76 #[.bool s, .bool e, .slice A n c]
  have b1 := Blk.new (w.alloc (.cells #[.bool s, .bool e, .slice A n c] 76)) 3 #[.int .i64 n]
  have b2 := Blk.new ((w.alloc (.cells #[.bool s, .bool e, .slice A n c] 76)).alloc (.cells #[.int .i64 n] 3)) 161 #[.func (.func 81) #[] #[]]
  have b3 := Blk.new (((w.alloc (.cells #[.bool s, .bool e, .slice A n c] 76)).alloc (.cells #[.int .i64 n] 3)).alloc (.cells #[.func (.func 81) #[] #[]] 161)) 161 #[.func (.func 82) #[] #[]]
  have b4 := Blk.new ((((w.alloc (.cells #[.bool s, .bool e, .slice A n c] 76)).alloc (.cells #[.int .i64 n] 3)).alloc (.cells #[.func (.func 81) #[] #[]] 161)).alloc (.cells #[.func (.func 82) #[] #[]] 161)) 24 #[.func (.func 84) #[] #[.pointer (some ⟨w.heap.size + 1, 0, none⟩)], .func (.func 85) #[] #[.pointer (some ⟨w.heap.size, 0, none⟩), .pointer (some ⟨w.heap.size + 1 + 1, 0, none⟩)],
      .func (.func 87) #[] #[.pointer (some ⟨w.heap.size, 0, none⟩), .pointer (some ⟨w.heap.size + 1, 0, none⟩), .pointer (some ⟨w.heap.size + 1 + 1 + 1, 0, none⟩)], .func (.func 88) #[] #[.pointer (some ⟨w.heap.size, 0, none⟩)]]
  simp only [World.size_alloc] at b1 b2 b3 b4
  have hall := valid_all w.heap.size (w.heap.size + 1) (w.heap.size + 1 + 1) (w.heap.size + 1 + 1 + 1) (w.heap.size + 1 + 1 + 1 + 1) s e A n c vs ps _ ((h.below hB).more hB.size) hn HLE.out ((((b0.alloc _).alloc _).alloc _).alloc _) (((b1.alloc _).alloc _).alloc _) ((b2.alloc _).alloc _) (b3.alloc _) b4
  have HALL := Lib.hid hall
  have HB := Lib.hid hB
  clear hall b0 b1 b2 b3 b4 hB
  generalize validB ps = r at *
  go_enter Tryz.func53, Tryz.ntmps53
  go_wp2_with (go_at_call 83; refine HALL.out.mono ?_; rintro e w' ⟨rfl, hb⟩)
  go_ret
  exact ⟨rfl, HB.out.trans (hb.mono HB.out.size)⟩
end Go.Proofs.YtbjajboodohabaaGreat
namespace Go.Proofs.YtbjajboodohabaaGreat
open Go.RowKit

/-- the fields of the fixed header -/
def umHead (sn : Nat) (s e : Bool) (n : Nat) : List (Nat × Nat) := [(0, 3), ((!s).toNat, 1), ((!e).toNat, 1), ((decide (1 < n)).toNat, 1), (sn, 10)]
/-- the two fields of length i -/
def lenField (ps : List (List UInt8)) (i : Nat) : List (Nat × Nat) := [((decide (i + 2 < ps.length)).toNat, 1), ((ps[i]?.getD []).length, 11)]
/-- the bits of the first k lengths -/
def lenBits (ps : List (List UInt8)) (k : Nat) : List Bool := (List.range k).flatMap fun i => fieldBits (lenField ps i)
theorem lenBits_succ (ps : List (List UInt8)) (k : Nat) : lenBits ps (k + 1) = lenBits ps k ++ fieldBits (lenField ps k) := by simp [lenBits, List.range_succ]
theorem lenBits_length (ps : List (List UInt8)) (k : Nat) : (lenBits ps k).length = 12 * k := by
  unfold lenBits
  rw [List.length_flatMap]
  have : ∀ i, (fieldBits (lenField ps i)).length = 12 := fun i => by simp [fieldBits, lenField]
  simp only [this, List.map_const', List.length_range, List.sum_replicate_nat]
  omega
theorem mem_le_sumLen {ps : List (List UInt8)} {p : List UInt8} (h : p ∈ ps) : p.length ≤ sumLen ps := by
  induction ps with
  | nil => cases h
  | cons q ps ih =>
    unfold sumLen at ih ⊢
    rw [List.map_cons, List.sum_cons]
    rcases List.mem_cons.1 h with rfl | h
    · omega
    · have := ih h; omega
/-- the encoding -/
def encU (sn : Nat) (s e : Bool) (ps : List (List UInt8)) : List UInt8 := pack (fieldBits (umHead sn s e ps.length) ++ lenBits ps (ps.length - 1)) ++ ps.flatten

structure ValidP (ps : List (List UInt8)) : Prop where
  lo : 1 ≤ ps.length
  hi : ps.length ≤ 64
  pos : ∀ p ∈ ps, 1 ≤ p.length
  short : ∀ i, i + 1 < ps.length → (ps[i]?.getD []).length ≤ 2047
  sum : sumLen ps ≤ 32767
theorem validB_iff (ps : List (List UInt8)) : validB ps = true ↔ ValidP ps := by
  unfold validB vConds
  simp only [List.all_cons, List.all_nil, Bool.and_true, id, Bool.and_eq_true, Bool.not_eq_true', decide_eq_true_eq, List.any_eq_false, Bool.not_eq_true]
  constructor
  · rintro ⟨⟨h1, h2⟩, h3, h4, h5⟩
    refine ⟨h1, h2, fun p hp => ?_, fun i hi => ?_, h5⟩
    · have := h3 p hp
      simp [qEmpty] at this
      cases p with
      | nil => exact absurd rfl this
      | cons => simp
    · have := h4 (ps[i]?.getD []) (by
        rw [List.getElem?_eq_getElem (by omega)]
        show ps[i] ∈ _
        rw [List.mem_take_iff_getElem]
        exact ⟨i, by omega, rfl⟩)
      simp [qLong] at this
      omega
  · rintro ⟨h1, h2, h3, h4, h5⟩
    refine ⟨⟨h1, h2⟩, fun p hp => ?_, fun p hp => ?_, h5⟩
    · have := h3 p hp
      simp [qEmpty]
      rintro rfl
      simp at this
    · rw [List.mem_take_iff_getElem] at hp
      obtain ⟨i, hi, rfl⟩ := hp
      have := h4 i (by omega)
      rw [List.getElem?_eq_getElem (by omega)] at this
      simp [qLong]
      simpa using this

theorem one_still (b : Bool) (w : World) : Calls Tryz.prog 55 #[.bool b] w fun e w' => e = .returned (.int .u64 b.toNat) ∧ w' = w := (one_any b w).mono fun _ _ h => ⟨h.1, h.2.symm⟩

/-- a pair of a row and an error number -/
def GivesRowErr (B : Nat) (t : TypeId) (w : World) (n : Nat) (xs : List Value) (er : Int) (e : Ending) (w' : World) : Prop :=
  ∃ v, e = .returned (.tuple #[v, .int .i64 er]) ∧ w'.ownsRow B t 1 v n xs ∧ Below B w w'

set_option maxHeartbeats 800000 in
theorem encode_bad (sn : Int) (s e : Bool) (A : Option Addr) (n c : Nat) (vs : List Value) (ps : List (List UInt8)) (w : World) (h : Sls w w.heap.size A n c vs ps) (hn : n ≤ 1048576) (hle : ∀ p ∈ ps, p.length ≤ 1099511627776)
    (hbad : sn < 0 ∨ 1023 < sn ∨ validB ps = false) :
    Calls Tryz.prog 29 #[.agg #[.int .i64 sn, .bool s, .bool e, .slice A n c]] w (GivesRowErr w.heap.size 5 w 0 [] 2) := by
  have hB := ((Below.refl w.heap.size w).alloc (Nat.le_refl _) (.cells #[.int .i64 sn, .bool s, .bool e, .slice A n c] 80)).alloc (by simp) (.cells #[.bool s, .bool e, .slice A n c] 76)
  have hv := valid_any s e A n c vs ps _ ((h.below hB).more hB.size) hn hle
  have HB := Lib.hid hB
  have HV := Lib.hid hv
  clear hB hv hle
  by_cases h1 : sn < 0
  · clear hbad
    go_enter Tryz.func29, Tryz.ntmps29
    go_wp2
    go_ret2
    exact ⟨_, rfl, World.ownsRow_nil _ _ _ _, HB.out⟩
  · by_cases h2 : 1023 < sn
    · clear hbad
      go_enter Tryz.func29, Tryz.ntmps29
      go_wp2
      go_ret2
      exact ⟨_, rfl, World.ownsRow_nil _ _ _ _, HB.out⟩
    · have h3 : validB ps = false := by rcases hbad with h | h | h; omega; omega; exact h
      rw [h3] at HV
      clear hbad h3
      go_enter Tryz.func29, Tryz.ntmps29
      go_wp2_with (go_at_call 53; refine HV.out.mono ?_; rintro e w' ⟨rfl, hb⟩)
      go_ret2
      exact ⟨_, rfl, World.ownsRow_nil _ _ _ _, HB.out.trans (hb.mono HB.out.size)⟩

set_option maxRecDepth 100000 in
set_option maxHeartbeats 2000000 in
theorem encode_ok (sn : Nat) (s e : Bool) (A : Option Addr) (n c : Nat) (vs : List Value) (ps : List (List UInt8)) (w : World) (h : Sls w w.heap.size A n c vs ps) (hsn : sn ≤ 1023) (hv : validB ps = true) :
    Calls Tryz.prog 29 #[.agg #[.int .i64 sn, .bool s, .bool e, .slice A n c]] w (GivesRowErr w.heap.size 5 w (encU sn s e ps).length (bvs (encU sn s e ps)) 0) := by
  obtain ⟨hlo, hhi, hpos, hshort, hsum⟩ := (validB_iff ps).1 hv
  have hlen := h.len
  have hple : ∀ p ∈ ps, p.length ≤ 1099511627776 := fun p hp => by have := mem_le_sumLen hp; omega
  have hB := ((Below.refl w.heap.size w).alloc (Nat.le_refl _) (.cells #[.int .i64 sn, .bool s, .bool e, .slice A n c] 80)).alloc (by simp) (.cells #[.bool s, .bool e, .slice A n c] 76)
  have hva := valid_any s e A n c vs ps _ ((h.below hB).more hB.size) (by omega) hple
  rw [hv] at hva
  have HB := Lib.hid hB
  have HV := Lib.hid hva
  have HL := Lib.hid hlen
  have HP := Lib.hid hpos
  have HS := Lib.hid hshort
  have b0 := (Blk.new w 80 #[.int .i64 sn, .bool s, .bool e, .slice A n c]).alloc (.cells #[.bool s, .bool e, .slice A n c] 76)
  have b1 := Blk.new (w.alloc (.cells #[.int .i64 sn, .bool s, .bool e, .slice A n c] 80)) 76 #[.bool s, .bool e, .slice A n c]
  rw [World.size_alloc] at b1
  clear hB hva hv hlen hpos hshort hple
  go_enter Tryz.func29, Tryz.ntmps29
  go_wp2_with fail
  refine HV.out.mono ?_
  rintro e1 w1 ⟨rfl, hb1⟩
  have hbw : Below w.heap.size w w1 := HB.out.trans (hb1.mono HB.out.size)
  replace b0 := b0.below hb1 b0.lt
  replace b1 := b1.below hb1 b1.lt
  have c12 := b1.cell 2
  simp at c12
  have hlt1 := b1.lt
  clear HV hb1 HB
  go_wp2_with fail
  have hW2 : Wtr (w1.alloc (.cells #[.slice none 0 0, .int .i64 0] 115)) w1.heap.size w1.heap.size [] := ⟨Nat.le_refl _, _, Blk.new w1 _ _, World.ownsRow_nil _ _ _ _⟩
  have hbw2 := hbw.alloc hbw.size (.cells #[.slice none 0 0, .int .i64 0] 115)
  replace b0 := b0.alloc (.cells #[.slice none 0 0, .int .i64 0] 115)
  replace b1 := b1.alloc (.cells #[.slice none 0 0, .int .i64 0] 115)
  obtain ⟨g, hg⟩ : ∃ g, g = w1.heap.size := ⟨_, rfl⟩
  have hgl : w.heap.size + 1 < g := by omega
  rw [← hg] at hW2 ⊢
  generalize w1.alloc (.cells #[.slice none 0 0, .int .i64 0] 115) = w2 at *
  clear hbw c12 hlt1 hg
  have c00 := b0.cell 0
  have c10 := b1.cell 0
  have c11 := b1.cell 1
  have c12 := b1.cell 2
  simp at c00 c10 c11 c12
  have hwr : IntKind.u64.wrap (sn : Int) = sn := by rw [IntKind.wrap_u64]; omega
  have hdn : decide ((1 : Int) < n) = decide (1 < n) := by rw [Bool.eq_iff_iff]; simp; omega
  refine wp_region_still_tail 19 (by kernel_rfl) (by kernel_rfl) ?_
  simp only [List.take_succ_cons, List.take_zero, List.drop_succ_cons, List.drop_zero]
  still_step
  still_step
  still_step
  still_step
  still_call (one_still _ _)
  still_step
  still_step
  still_step
  still_step
  still_call (one_still _ _)
  still_step
  still_step
  still_step
  still_call (one_still _ _)
  still_step
  still_step
  still_step
  still_step
  still_step
  refine wpStill_nil ?_
  change wpList _ _ _ _ _ w2.drew
  replace hW2 : Wtr w2.drew g g [] := hW2
  replace hbw2 := hbw2.drew
  replace b0 := b0.drew
  replace b1 := b1.drew
  generalize w2.drew = w3 at *
  clear c00 c10 c11 c12 hwr hdn
  have hput := putAll_any g g w3.heap.size [] (umHead sn s e n) (w3.alloc (.cells (fieldCells (umHead sn s e n)).toArray 119)) (hW2.alloc _) (by simp) (by simp [umHead]) (Blk.new _ _ _) (by
    intro x hx
    simp only [umHead, List.mem_cons, List.not_mem_nil, or_false] at hx
    have hb : ∀ b : Bool, b.toNat ≤ 1 := fun b => by cases b <;> simp
    rcases hx with rfl | rfl | rfl | rfl | rfl
    · exact ⟨by omega, by decide, by omega⟩
    · exact ⟨by omega, by have := hb (!s); simp; omega, by have := hb (!s); omega⟩
    · exact ⟨by omega, by have := hb (!e); simp; omega, by have := hb (!e); omega⟩
    · exact ⟨by omega, by have := hb (decide (1 < n)); simp; omega, by have := hb (decide (1 < n)); omega⟩
    · exact ⟨by omega, by simp; omega, by omega⟩)
  simp only [umHead, fieldCells, List.length_cons, List.length_nil, Nat.zero_add, Nat.reduceAdd, List.nil_append] at hput
  have HPut := Lib.hid hput
  clear hput
  go_wp2_with fail
  refine HPut.out.mono ?_
  rintro e4 w4 ⟨rfl, hW4, hk4⟩
  have hg3 : g < w3.heap.size := by obtain ⟨_, v, hb, _⟩ := hW2; exact hb.lt
  clear HPut hW2
  have hB4 := hk4.below (B := g) (fun _ _ h => h.1) (by simp; omega)
  have hbw4 := (hbw2.alloc hbw2.size _).trans (hB4.mono (by omega))
  replace b1 := (b1.alloc _).below hB4 (by omega)
  clear hB4 hbw2 hk4 b0
  have c12 := b1.cell 2
  simp at c12
  have hh : fieldBits [(0, 3), ((!s).toNat, 1), ((!e).toNat, 1), ((decide (1 < n)).toNat, 1), (sn, 10)] = fieldBits (umHead sn s e ps.length) := by rw [HL.out]; rfl
  rw [hh] at hW4
  clear hh
  have hlH : (fieldBits (umHead sn s e ps.length)).length = 16 := by simp [fieldBits, umHead]
  have HLH := Lib.hid hlH
  clear hlH
  have henc : encU sn s e ps = pack (fieldBits (umHead sn s e ps.length) ++ lenBits ps (n - 1)) ++ ps.flatten := by rw [← HL.out]; rfl
  have HE := Lib.hid henc
  clear henc
  generalize hH : fieldBits (umHead sn s e ps.length) = H at *
  generalize hEE : encU sn s e ps = EE at *
  clear hH hEE
  have hcap := h.sl.cap
  have hmx := h.sl.mx
  obtain ⟨m, hm⟩ : ∃ m, n = m + 1 := ⟨n - 1, by have := HL.out; omega⟩
  subst hm
  have em : m + 1 - 1 = m := by omega
  rw [em] at HE
  clear em
  go_wp2
  go_loopw [54] (fun i wr => ∃ k : Nat, k ≤ m ∧ i = .int .i64 k ∧ Wtr wr g g (H ++ lenBits ps k) ∧ Kept (Mw g g) w4 wr) (fun i _ => m - (intOf i).toNat)
  case atStart => exact ⟨0, Nat.zero_le _, rfl, by simpa [lenBits] using hW4, Kept.refl _ _⟩
  case round =>
    obtain ⟨k, hk, rfl, hWk, hKk⟩ := hrel
    have hB4k := hKk.below (B := g) (fun _ _ h => h.1) (by have : g < w4.heap.size := (by obtain ⟨_, v, hb, _⟩ := hW4; exact hb.lt); omega)
    have hbwk := hbw4.trans (hB4k.mono (by omega))
    by_cases hlt : k < m
    · obtain ⟨ad, Ai, ci, rfl, hb, hc, hsl⟩ := (h.below hbwk).get (k := k) (by omega)
      have hp := HS.out k (by rw [HL.out]; omega)
      have hls := lenBits_succ ps k
      have hlf : lenField ps k = [((decide (k + 2 < m + 1)).toNat, 1), ((ps[k]?.getD []).length, 11)] := by unfold lenField; rw [HL.out]
      rw [hlf] at hls
      generalize ps[k]?.getD [] = p at *
      have HLS := Lib.hid hls
      clear hls hlf
      obtain ⟨d, hd⟩ : ∃ d : Bool, decide (k + 2 < m + 1) = d := ⟨_, rfl⟩
      have hd' : decide ((k : Int) + 2 < (m : Int) + 1) = d := by rw [← hd, Bool.eq_iff_iff]; simp; omega
      rw [hd] at HLS
      clear hd
      have hwp : IntKind.u64.wrap (p.length : Int) = p.length := by rw [IntKind.wrap_u64]; omega
      have hlk : (H ++ lenBits ps k).length < 1000000 := by
        rw [List.length_append, HLH.out]
        have := lenBits_length ps k
        have := HL.out
        omega
      have hput := putAll_any g g wr.heap.size (H ++ lenBits ps k) [(d.toNat, 1), (p.length, 11)] (wr.alloc (.cells (fieldCells [(d.toNat, 1), (p.length, 11)]).toArray 119)) (hWk.alloc _) hlk (by simp) (Blk.new _ _ _) (by
        intro x hx
        simp only [List.mem_cons, List.not_mem_nil, or_false] at hx
        have hb : ∀ b : Bool, b.toNat ≤ 1 := fun b => by cases b <;> simp
        rcases hx with rfl | rfl
        · exact ⟨by omega, by have := hb d; simp; omega, by have := hb d; omega⟩
        · exact ⟨by omega, by simp; omega, by omega⟩)
      simp only [fieldCells, List.length_cons, List.length_nil, Nat.zero_add, Nat.reduceAdd] at hput
      have HPut := Lib.hid hput
      clear hput hlk
      go_wp2_with fail
      refine (one_any _ _).mono ?_
      rintro e5 w5 ⟨rfl, rfl⟩
      go_wp2_with fail
      refine HPut.out.mono ?_
      rintro e6 w6 ⟨rfl, hW6, hk6⟩
      clear HPut
      go_wp2
      go_roundw
      case rel => exact ⟨k + 1, by omega, by go_num, by rw [HLS.out, ← List.append_assoc]; exact hW6, (hKk.alloc _).trans hk6⟩
      case measure => simp [intOf]; omega
    · obtain rfl : k = m := by omega
      clear hlt hk
      have hL12 : (H ++ lenBits ps k).length = 16 + 12 * k := by rw [List.length_append, HLH.out, lenBits_length]
      have hk64 : k + 1 ≤ 64 := by have := HL.out; omega
      have hgr : g < wr.heap.size := by obtain ⟨_, v, hb, _⟩ := hWk; exact hb.lt
      have hal := alignW_any g g _ wr hWk (by omega)
      have HAL := Lib.hid hal
      have HL12 := Lib.hid hL12
      clear hal hL12
      go_wp2_with (go_at_call 56; refine HAL.out.mono ?_; rintro e7 w7 ⟨rfl, hW7, hk7⟩)
      obtain ⟨i0, hi, hz0, hz1, hz2⟩ := info_parts u8_info
      have hpk : pack (H ++ lenBits ps k ++ List.replicate (8 * nbytes (H ++ lenBits ps k).length - (H ++ lenBits ps k).length) false) = pack (H ++ lenBits ps k) := pack_pad _ _ (by unfold nbytes; omega)
      have hpl : (pack (H ++ lenBits ps k)).length ≤ 1000 := by have e := pack_length (H ++ lenBits ps k); rw [HL12.out] at e; unfold nbytes at e; omega
      have hLl : (H ++ lenBits ps k ++ List.replicate (8 * nbytes (H ++ lenBits ps k).length - (H ++ lenBits ps k).length) false).length < 1000000000 := by
        have e := HL12.out
        rw [List.length_append, List.length_replicate, e]; unfold nbytes; omega
      rw [← hpk] at HE hpl
      clear hpk
      generalize H ++ lenBits ps k ++ List.replicate (8 * nbytes (H ++ lenBits ps k).length - (H ++ lenBits ps k).length) false = L at *
      have hB7 := hk7.below (B := g) (fun _ _ h => h.1) (by omega)
      have hbw7 := hbwk.trans (hB7.mono (by omega))
      have b17 := (b1.below hB4k (by omega)).below hB7 (by omega)
      have c7 := b17.cell 2
      simp at c7
      have hS7 := h.below hbw7
      have HPL := Lib.hid hpl
      have HSUM := Lib.hid hsum
      clear hk7 hbwk hB4k hKk hWk HAL b1 c12 hW4 hbw4 hpl hsum
      have HLl := Lib.hid hLl
      clear hLl
      have hwl := b17.lt
      have hws := hbw7.size
      go_region_held3 (fun w' => w'.cell? ⟨w.heap.size + 1, 2, none⟩ = some (.slice A (k + 1) c))
        (first | (rw [hgrow10.cell_far _ (by simp; omega) (fun e => by have := (hv8.lt _ e.symm).1; simp at this; omega)]; assumption) | (rw [hb9.cell (p := ⟨w.heap.size + 1, 2, none⟩) (by simp; omega)]; assumption) | (rw [hb8.cell (p := ⟨w.heap.size + 1, 2, none⟩) (by simp; omega)]; assumption) | go_keep)
        (first
          | (go_at_call 57
             refine (bytes_any g g L w7.drew hW7 HLl.out).mono ?_
             rintro e8 w8 ⟨v8, rfl, hv8, hb8⟩
             have hz8 : w7.heap.size ≤ w8.heap.size := hb8.size)
          | (go_at_call 58
             refine (concat_any A (k + 1) c vs ps w8 (((hS7.drew').below (hb8.mono (by simp; omega))).more (by have := hb8.size; simp at this; omega)) (by have := HSUM.out; omega)).mono ?_
             rintro e9 w9 ⟨v9, rfl, hv9, hb9⟩
             obtain ⟨A9, c9, rfl, hs9, _⟩ := own_sl hv9
             have hz9 : w8.heap.size ≤ w9.heap.size := hb9.size)
          | (refine step_append_sl _ (by rfl) _ _ 40 (by rfl) w7.heap.size 5 i0 (.int .u8 0) 1 und29 hi hz0 hz1 hz2 rfl v8 (pack L).length (bvs (pack L)) (by rfl) (own_below hv8 hb9 (Nat.le_refl _)) w9.heap.size A9 (sumLen ps) c9 (bvs ps.flatten) (by rfl) hs9 (one_bvs _) (by have := HSUM.out; have := HPL.out; unfold maxLen; omega) (by have := HSUM.out; have := HPL.out; omega) (by have := hb8.size; have := hb9.size; simp at *; omega) ?_
             intro v10 w10 hown10 hgrow10 hat10))
      go_wp2
      go_ret2
      refine ⟨v10, rfl, ?_, ((hbw7.drew.trans (hb8.mono hbw7.size)).trans (hb9.mono (by omega))).grown hgrow10 (by omega) (fun j hj => by have := (hv8.lt j hj).1; simp at this; omega)⟩
      have hfl : EE.length = (pack L).length + sumLen ps := by rw [HE.out, List.length_append, flatten_length]
      rw [hfl, HE.out]
      have := own_base hown10 (base' := w.heap.size) (by omega)
      simpa [bvs] using this
end Go.Proofs.YtbjajboodohabaaGreat
