/- umpdu: Header, Lengths, Size. umpdu.Valid: the two predicates, IndexFunc, ContainsFunc. Printed by wip/gen_u1.py. umpdu.Valid: conditions that are closures, all of them. umpdu.Valid. umpdu.Encode. -/
import Derived.Test.YtmiipkaobloedaaGreatYWa
import Derived.Laws.EntriesVeiled
import Derived.StillTailTactics
import Derived.Deep.RegionHeld3
namespace Go.Proofs.YtmiipkaobloedaaGreat
open Go.RowKit Go.Shelf
attribute [local go_sem] Oper.semAt_some

theorem int_info : (Tryz.prog.info? 3).map (fun i => (i.zero, i.size, i.bytes)) = some (some (.int .i64 0), 1, 8) := by kernel_rfl
theorem und137 : Tryz.prog.underlying 57 = some (.slice 3) := by kernel_rfl

theorem ret_int {k : IntKind} {a b : Int} (h : a = b) : Ending.returned (.int k a) = .returned (.int k b) := by rw [h]
theorem ret_bool {a b : Bool} (h : a = b) : Ending.returned (.bool a) = .returned (.bool b) := by rw [h]

/-- the number of header bytes -/
def hdrN (n : Int) : Int := if n < 1 ∨ 64 < n then 0 else 2 + (12 * (n - 1) + 7) / 8

set_option maxHeartbeats 400000 in
theorem header_any (n : Int) (w : World) (h : -9223372036854775808 ≤ n ∧ n ≤ 9223372036854775807) :
    Calls Tryz.prog 86 #[.int .i64 n] w fun e w' => e = .returned (.int .i64 (hdrN n)) ∧ w = w' := by
  have hfin : hdrN n = if n < 1 ∨ 64 < n then 0 else 2 + (12 * (n - 1) + 7) / 8 := rfl
  have HF := Lib.hid hfin
  clear hfin
  generalize hdrN n = r at *
  by_cases h1 : n < 1
  · go_enter Tryz.func86, Tryz.ntmps86
    go_wp2
    go_ret
    exact ⟨ret_int (by rw [HF.out, if_pos (by omega)]), rfl⟩
  · by_cases h2 : 64 < n
    · go_enter Tryz.func86, Tryz.ntmps86
      go_wp2
      go_ret
      exact ⟨ret_int (by rw [HF.out, if_pos (by omega)]), rfl⟩
    · go_enter Tryz.func86, Tryz.ntmps86
      go_wp2
      go_ret
      exact ⟨ret_int (by rw [HF.out, if_neg (by omega)]), rfl⟩

/-- lengths as values -/
def lens (ps : List (List UInt8)) : List Value := ps.map fun p => .int .i64 (p.length : Nat)
theorem lens_take (ps : List (List UInt8)) (k : Nat) (h : k < ps.length) : lens (ps.take (k + 1)) = lens (ps.take k) ++ [.int .i64 ((ps[k]?.getD []).length : Nat)] := by
  unfold lens
  rw [List.take_add_one, List.getElem?_eq_getElem h, List.map_append]
  rfl
theorem lens_length (ps : List (List UInt8)) : (lens ps).length = ps.length := by simp [lens]

/-- The iterator over lengths: the function value, its box, its row. -/
def GivesLens (w : World) (ps : List (List UInt8)) (e : Ending) (w' : World) : Prop :=
  ∃ g v, e = .returned (.func (.func 89) #[] #[.pointer (some ⟨g, 0, none⟩)]) ∧ w.heap.size ≤ g ∧ Blk w' g 57 #[v] ∧ w'.ownsRow w.heap.size 3 1 v ps.length (lens ps) ∧ Below w.heap.size w w'

set_option maxRecDepth 3000 in
set_option maxHeartbeats 1000000 in
theorem lengths_any (s e : Bool) (A : Option Addr) (n c : Nat) (vs : List Value) (ps : List (List UInt8)) (w : World) (h : Sls w w.heap.size A n c vs ps) (hn : n ≤ 1048576) :
    Calls Tryz.prog 62 #[.agg #[.bool s, .bool e, .slice A n c]] w (GivesLens w ps) := by
  obtain ⟨i0, hi, hz0, hz1, hz2⟩ := info_parts int_info
  have HL := Lib.hid h.len
  have hA := h.alloc (Nat.le_refl _) (.cells #[.bool s, .bool e, .slice A n c] 59)
  go_enter Tryz.func62, Tryz.ntmps62
  go_wp2
  go_loopw [9] (fun i wr => ∃ (k : Nat) (v : Value), k ≤ n ∧ i = .int .i64 k ∧ Blk wr w.heap.size 59 #[.bool s, .bool e, .slice A n c] ∧ Blk wr (w.heap.size + 1) 57 #[v] ∧ wr.ownsRow w.heap.size 3 1 v k (lens (ps.take k)) ∧ Below w.heap.size w wr) (fun i _ => n - (intOf i).toNat)
  case atStart => exact ⟨0, _, Nat.zero_le _, rfl, (Blk.new w _ _).alloc _, by simpa using Blk.new (w.alloc (.cells #[.bool s, .bool e, .slice A n c] 59)) 57 #[.slice none 0 0], World.ownsRow_nil _ _ _ _, ((Below.refl _ w).alloc (Nat.le_refl _) _).alloc (by simp) _⟩
  case round =>
    obtain ⟨k, v, hk, rfl, hb0, hb1, hown, hbw⟩ := hrel
    by_cases hlt : k < n
    · obtain ⟨ad, Ai, ci, rfl, hb, hc, hsl⟩ := (h.below hbw).get hlt
      have hs1 := lens_take ps k (by rw [HL.out]; exact hlt)
      have hl : (ps[k]?.getD []).length ≤ 9223372036854775807 := by have := hsl.cap; have := hsl.mx; omega
      generalize ps[k]?.getD [] = p at *
      generalize lens (List.take k ps) = L at *
      have HS1 := Lib.hid hs1
      clear hs1
      have c1 := hb1.cell 0
      have f1 := hb1.frozen 0
      simp at c1
      go_wp2_with (at_builtin; refine wpList_append_own _ rfl _ _ 57 rfl w.heap.size 3 i0 (.int .i64 0) 1 8 und137 hi hz0 hz1 hz2 rfl (by decide) _ _ _ rfl (hown.alloc _) ⟨wr.heap.size, 0, none⟩ 1 1 [.int .i64 (p.length : Nat)] rfl rfl ?c1 ?c2 ?c3 ?c4 ?c5 ?_)
      case c1 => exact cell_one_new _ _ _
      case c2 => simp [Value.oneCell']
      case c3 => unfold maxLen; omega
      case c4 => omega
      case c5 => have := hbw.size; simp; omega
      intro v' w2 hown' hgrow _
      have hne : v.ownBlock ≠ some (w.heap.size + 1) := own_blk_ne hown hb1 (by decide)
      have hne0 : v.ownBlock ≠ some w.heap.size := own_blk_ne hown hb0 (by decide)
      have hb1' := (hb1.alloc (.cells #[.int .i64 (p.length : Nat)] 3)).grown hgrow (fun e => hne e.symm)
      have hb0' := (hb0.alloc (.cells #[.int .i64 (p.length : Nat)] 3)).grown hgrow (fun e => hne0 e.symm)
      have hbw' := (hbw.alloc hbw.size (.cells #[.int .i64 (p.length : Nat)] 3)).grown hgrow (by have := hbw.size; simp; omega) (fun j hj => (hown.lt j hj).1)
      have c1' := hb1'.cell 0
      have f1' := hb1'.frozen 0
      simp at c1'
      obtain ⟨g', cap', rfl, hgl, hgl2⟩ := hown'.form (by omega)
      go_wp2
      go_roundw
      case rel =>
        refine ⟨k + 1, _, by omega, by go_num, hb0'.far (by simp) _, by simpa using hb1'.set_ 0 (.slice (some ⟨g', 0, none⟩) (k + 1) cap'), ?_, hbw'.setCell (p := ⟨w.heap.size + 1, 0, none⟩) (by simp) _⟩
        rw [HS1.out]
        exact hown'.kept (grownBy_setAt _ _ 0 _) (.inr (own_blk_ne hown' hb1' (by decide)))
      case measure => simp [intOf]; omega
    · have e : ps.take k = ps := List.take_of_length_le (by rw [HL.out]; omega)
      have hkn : k = ps.length := by rw [HL.out]; omega
      rw [e, hkn] at hown
      clear e hkn
      go_wp2
      go_ret
      exact ⟨_, _, rfl, by omega, hb1, hown, hbw⟩

/-- an index and a length that a machine bears -/
abbrev IL := { x : Nat × Nat // x.2 ≤ 1099511627776 }
/-- the first k pairs (index, length) -/
def ilen (ps : List (List UInt8)) (h : ∀ p ∈ ps, p.length ≤ 1099511627776) (k : Nat) : List IL :=
  (List.range k).map fun i => ⟨(i, (ps[i]?.getD []).length), by
    rcases Nat.lt_or_ge i ps.length with hi | hi
    · rw [List.getElem?_eq_getElem hi]; exact h _ (List.getElem_mem hi)
    · rw [List.getElem?_eq_none hi]; simp⟩
theorem ilen_succ (ps : List (List UInt8)) (h : ∀ p ∈ ps, p.length ≤ 1099511627776) (k : Nat) (x : IL) (hx : x.1 = (k, (ps[k]?.getD []).length)) : ilen ps h (k + 1) = ilen ps h k ++ [x] := by
  unfold ilen
  rw [List.range_succ, List.map_append]
  congr 1
  simp only [List.map_cons, List.map_nil, List.cons.injEq, and_true]
  exact Subtype.ext hx.symm
theorem ilen_length (ps : List (List UInt8)) (h : ∀ p ∈ ps, p.length ≤ 1099511627776) (k : Nat) : (ilen ps h k).length = k := by simp [ilen]

set_option maxRecDepth 100000 in
set_option maxHeartbeats 2000000 in
theorem lengths1_stops (n : Nat) (hn : 1 ≤ n) (g B : Nat) (v : Value) (ps : List (List UInt8)) (hle : ∀ p ∈ ps, p.length ≤ 1099511627776) (hlen : ps.length ≤ 1048576) (M : Nat → Obj → Prop) (w : World)
    (hg : Blk w g 57 #[v]) (hv : w.ownsRow B 3 1 v ps.length (lens ps)) (hMg : ¬ M g (.cells #[v] 57 (0, 0))) (hMv : ∀ k o, v.ownBlock = some k → ¬ M k o) :
    SeqStopsK Fence.wide n Tryz.prog 89 #[.pointer (some ⟨g, 0, none⟩)] (fun x : IL => #[Value.int .i64 (x.1.1 : Nat), .int .i64 (x.1.2 : Nat)]) (Kept M)
      (fun xs => xs = ilen ps hle ps.length) (fun pre => ∃ k, k ≤ ps.length ∧ pre = ilen ps hle k) ps.length w := fun l J Jx W hW _ _ hY h0 => by
  have hg' := hg.below hW hg.lt
  have hv' : W.ownsRow B 3 1 v ps.length (lens ps) := hv.kept (row := none) ⟨hW.os, hW.tape, hW.output, hW.size, fun k hk _ => hW.block k hk⟩ (by
    rcases hb : v.ownBlock with _ | k
    · exact .inl rfl
    · exact .inr (by simp))
  have hvk : ∀ wr, Kept M W wr → wr.ownsRow B 3 1 v ps.length (lens ps) := by
    intro wr hk
    rcases hv'.2 with ⟨rfl, h0⟩ | ⟨g', cap, cur, rfl, h1, h2, h3⟩
    · exact ⟨hv'.1, .inl ⟨rfl, h0⟩⟩
    · exact ⟨hv'.1, .inr ⟨g', cap, cur, rfl, h1, hk.same _ _ h2 (hMv _ _ rfl), h3⟩⟩
  have HVK := Lib.hid hvk
  clear hvk
  obtain ⟨A, c, rfl, hsl, _⟩ := own_sl hv'
  refine callsIn_of_wp Tryz.func89 rfl trivial ?_ rfl
  simp only [Tryz.ntmps89, List.size_toArray, List.length_cons, List.length_nil, Nat.reduceAdd, Nat.reduceSub, Array.replicate_succ, Array.replicate_zero, List.push_toArray, List.append_toArray, List.nil_append, List.cons_append]
  have hcw := hg'.cell 0
  simp at hcw
  refine wpInW_scope ?_
  gi_wp2
  refine wpIn_label ?_
  gi_wp2
  gi_loopw [7] (fun i wr => ∃ k : Nat, k ≤ ps.length ∧ i = .int .i64 k ∧ J (ilen ps hle k) wr ∧ Kept M W wr)
    (fun i _ => ps.length - (intOf i).toNat)
  case atStart => exact ⟨0, Nat.zero_le _, by simp, by simpa [ilen] using h0, Kept.refl _ _⟩
  case round =>
    obtain ⟨k, hk, rfl, hJs, hnx⟩ := hrel
    by_cases hlt : k < ps.length
    · obtain ⟨A', c', e', hs', _⟩ := own_sl (HVK.out wr hnx)
      injection e' with e1 e2 e3
      subst e1 e3
      obtain ⟨ad, u, rfl, _, hu, hcell⟩ := hs'.get hlt
      have hp : (ps[k]?.getD []).length ≤ 1099511627776 := by
        rw [List.getElem?_eq_getElem hlt]; exact hle _ (List.getElem_mem _)
      have hu' : u = .int .i64 ((ps[k]?.getD []).length : Nat) := by
        unfold lens at hu
        rw [List.getElem?_map, List.getElem?_eq_getElem hlt] at hu
        rw [List.getElem?_eq_getElem hlt]
        simpa using hu.symm
      have hsucc := ilen_succ ps hle k ⟨(k, (ps[k]?.getD []).length), hp⟩ rfl
      have hYk := hY _ ⟨(k, (ps[k]?.getD []).length), hp⟩ wr hJs (by rw [ilen_length]; exact hlt)
      rw [hu'] at hcell
      clear hu hu'
      have HSucc := Lib.hid hsucc
      clear hsucc
      generalize (ps[k]?.getD []).length = m at *
      obtain ⟨fn, tmps, assign, body, hy, hR⟩ := hYk
      dsimp only at hy
      gi_wp2
      refine hR.mono ?_
      rintro e W3 (⟨rfl, hJ3, hk3⟩ | ⟨rfl, hJx3⟩)
      · gi_wp2
        go_roundw
        case rel => exact ⟨k + 1, by omega, by go_num, by rw [HSucc.out]; exact hJ3, hnx.trans hk3⟩
        case measure => simp [intOf]; omega
      · gi_wp2
        rw [Exit.noGoto_normal]
        go_end0
        exact ⟨⟨_, rfl⟩, .inr ⟨_, ⟨k + 1, by omega, HSucc.out.symm⟩, hJx3⟩⟩
    · have e : k = ps.length := by omega
      have hJs' : J (ilen ps hle ps.length) wr := by rw [e] at hJs; exact hJs
      clear e hJs
      gi_wp2
      rw [Exit.noGoto_normal]
      go_end0
      exact ⟨⟨_, rfl⟩, .inl ⟨_, rfl, hJs'⟩⟩

def sumIL (l : List IL) : Nat := (l.map fun x => x.1.2).sum
theorem sumIL_snoc (l : List IL) (x : IL) : sumIL (l ++ [x]) = sumIL l + x.1.2 := by simp [sumIL]
theorem sumIL_le (l : List IL) : sumIL l ≤ 1099511627776 * l.length := by
  induction l with
  | nil => simp [sumIL]
  | cons x l ih =>
    have := x.2
    unfold sumIL at ih ⊢
    rw [List.map_cons, List.sum_cons, List.length_cons]
    omega
theorem sumIL_ilen (ps : List (List UInt8)) (h : ∀ p ∈ ps, p.length ≤ 1099511627776) (k : Nat) (hk : k ≤ ps.length) : sumIL (ilen ps h k) = sumLen (ps.take k) := by
  induction k with
  | zero => rfl
  | succ k ih =>
    have hp : (ps[k]?.getD []).length ≤ 1099511627776 := by
      rw [List.getElem?_eq_getElem (by omega)]; exact h _ (List.getElem_mem _)
    rw [ilen_succ ps h k ⟨_, hp⟩ rfl, sumIL_snoc, sumLen_take ps k (by omega), ih (by omega)]

theorem blk_own {β : Type} (g : Nat) (t : TypeId) (f : β → Array Value) : Own (fun s W => Blk W g t (f s)) := fun s X Y row hs hg hrow =>
  hs.grown hg (fun e' => by obtain ⟨o, ho, hc⟩ := hrow g e'.symm; rw [show X.heap[g]? = _ from hs] at ho; cases ho; cases hc)

set_option maxRecDepth 100000 in
set_option maxHeartbeats 2000000 in
theorem size_any (s e : Bool) (A : Option Addr) (n c : Nat) (vs : List Value) (ps : List (List UInt8)) (w : World) (h : Sls w w.heap.size A n c vs ps) (hn : n ≤ 1048576) (hle : ∀ p ∈ ps, p.length ≤ 1099511627776) :
    Calls Tryz.prog 35 #[.agg #[.bool s, .bool e, .slice A n c]] w fun e w' => e = .returned (.int .i64 (sumLen ps)) ∧ Below w.heap.size w w' := by
  refine (callsIn_wide (n := 5)).1 ?_
  have HL := Lib.hid h.len
  refine callsIn_of_wp_marks Tryz.func35 rfl trivial ?_ rfl
  simp only [Tryz.ntmps35, List.size_toArray, List.length_cons, List.length_nil, Nat.reduceAdd, Nat.reduceSub, Array.replicate_succ, Array.replicate_zero, List.push_toArray, List.append_toArray, List.nil_append, List.cons_append]
  have hA := (h.alloc (Nat.le_refl _) (.cells #[.bool s, .bool e, .slice A n c] 59)).alloc (by simp) (.cells #[.int .i64 0] 3)
  have hA := hA.more (B' := ((w.alloc (.cells #[.bool s, .bool e, .slice A n c] 59)).alloc (.cells #[.int .i64 0] 3)).heap.size) (by simp; omega)
  have HA := Lib.hid hA
  clear hA
  gi_wp2_with (refine ⟨trivial, ?_⟩; gi_at_call 62; refine ((callsIn_wide (n := 4)).2 (lengths_any s e A n c vs ps _ HA.out hn)).mono ?_; rintro e1 w1 ⟨g, v, rfl, hg, hbg, hv, hbw⟩)
  have hr0 : Blk ((w.alloc (.cells #[.bool s, .bool e, .slice A n c] 59)).alloc (.cells #[.int .i64 0] 3)) (w.heap.size + 1) 3 #[.int .i64 0] := by
    simpa using Blk.new (w.alloc (.cells #[.bool s, .bool e, .slice A n c] 59)) 3 #[.int .i64 0]
  have hr1 := hr0.below hbw hr0.lt
  have hgn : g ≠ w.heap.size + 1 := by simp at hg; omega
  have hvn : ∀ k, v.ownBlock = some k → k ≠ w.heap.size + 1 := fun k hk => by have := (hv.lt k hk).1; simp at this; omega
  have hB1 : Below w.heap.size w w1 := ((Below.refl _ w).alloc (Nat.le_refl _) _).alloc (by simp) _ |>.trans (hbw.mono (by simp; omega))
  have hsz : w.heap.size + 1 < w1.heap.size := hr1.lt
  refine wpIn_rangeFunc_ownG rfl (by omega) (gf := 89) (lb := #[.pointer (some ⟨g, 0, none⟩)]) rfl trivial (enters_of Tryz.func89 (by kernel_rfl) rfl)
    (lengths1_stops _ (by omega) g _ v ps hle (by rw [HL.out]; exact hn) (MB (fun k _ => k = w.heap.size + 1) w1.heap.size) w1 hbg hv (by rintro (e | ⟨_, e⟩); exact hgn e; cases e) (fun k o hk => by
      rintro (e | ⟨e, _⟩)
      · exact hvn k hk e
      · have := (hv.lt k hk).2; omega))
    Kept.trans (MB.b w1) (Below.refl _ _) (fun _ => rfl)
    (fun pre W => Blk W (w.heap.size + 1) 3 #[.int .i64 (sumIL pre)] ∧ Kept (MB (fun k _ => k = w.heap.size + 1) w1.heap.size) w1 W) (fun _ _ _ => False)
    (OwnFrom.and (Own.from (blk_own _ _ _) _) ownFrom_kept) (fun _ _ _ _ _ hs _ _ => hs)
    ⟨by simpa [sumIL] using hr1, Kept.refl _ _⟩
    (fun x => { tmps := #[.agg #[.bool s, .bool e, .slice A n c], .pointer (some ⟨w.heap.size, 0, none⟩), .pointer (some ⟨w.heap.size + 1, 0, none⟩), undef, .int .i64 (x.1.2 : Nat), .agg #[.bool s, .bool e, .slice A n c], .func (.func 89) #[] #[.pointer (some ⟨g, 0, none⟩)], .int .i64 (x.1.1 : Nat), .int .i64 (x.1.2 : Nat), undef, undef, undef, undef], defers := [] }) ?assign ?body ?done ?stop
  case assign =>
    intro l x W K hK
    gi_wp2
    exact hK
  case body =>
    rintro lp pre x W ⟨hbx, hKe⟩ hlen
    have hc := hbx.cell 0
    have hf := hbx.frozen 0
    simp at hc
    have hx := x.2
    have hsl := sumIL_le pre
    have hsn := sumIL_snoc pre x
    have HSN := Lib.hid hsn
    clear hsn
    generalize sumIL pre = S at *
    have hlen' : pre.length < 1048576 := by have := HL.out; omega
    obtain ⟨⟨xi, xl⟩, hxl⟩ := x
    dsimp only at *
    gi_wp2
    refine ⟨(KeepsOthers.setCell _ _ _).from _, (Kept.refl _ W).setCell (p := ⟨w.heap.size + 1, 0, none⟩) (fun _ _ => .inl rfl) _, ?_, hKe.setCell (p := ⟨w.heap.size + 1, 0, none⟩) (fun _ _ => .inl rfl) _⟩
    rw [HSN.out]
    simpa using hbx.set_ 0 (.int .i64 ((S : Int) + xl))
  case done =>
    rintro D ys W hD rfl ⟨hbx, hKe⟩ hK
    have hc := hbx.cell 0
    have hf := hbx.frozen 0
    simp at hc
    have hS := sumIL_ilen ps hle ps.length (Nat.le_refl _)
    rw [List.take_of_length_le (Nat.le_refl _)] at hS
    rw [hS] at hc hbx
    clear hS
    generalize hSS : sumLen ps = S at *
    have HSS := Lib.hid hSS
    clear hSS
    have hK2 := (KeepsOthers.setCell W ⟨w.heap.size + 1, 0, none⟩ (.int .i64 S)).same D _ hK rfl
    gi_wp2
    refine ⟨by simp, .inl ⟨_, _, rfl, run_takeDeferred hK2, ?_⟩⟩
    have hKe2 := (hKe.setCell (p := ⟨w.heap.size + 1, 0, none⟩) (fun _ _ => .inl rfl) (.int .i64 S)).taken (.deferred none) hD hK2 rfl
    have hbx2 := (hbx.set_ 0 (.int .i64 S)).grown (grownBy_putObj' _ D (.deferred none)) (by simp; omega)
    have hc2 := hbx2.cell 0
    simp at hc2
    refine ⟨.int .i64 S, by simp [results, Tryz.results35, go_sem, hc2], ret_int (by rw [HSS.out]), hB1.trans (hKe2.drop.below (fun k o e => by omega) (by omega))⟩
  case stop =>
    rintro D c pre W _ _ h _
    exact h.elim
end Go.Proofs.YtmiipkaobloedaaGreat
namespace Go.Proofs.YtmiipkaobloedaaGreat
open Go.RowKit

def qEmpty (n : Nat) : Bool := decide (n = 0)
def qLong (n : Nat) : Bool := decide (2047 < n)
/-- IndexFunc's answer: an index where the predicate holds, or -1 where it holds nowhere. -/
def IdxIs (q : List UInt8 → Bool) (ps : List (List UInt8)) (w : World) (e : Ending) (w' : World) : Prop :=
  (∃ k : Nat, e = .returned (.int .i64 k) ∧ (∃ p ∈ ps, q p = true) ∧ w = w') ∨ (e = .returned (.int .i64 (-1)) ∧ (∀ p ∈ ps, q p = false) ∧ w = w')


theorem empty_any (A : Option Addr) (n c : Nat) (w : World) : Calls Tryz.prog 108 #[.slice A n c] w fun e w' => e = .returned (.bool (qEmpty n)) ∧ w = w' := by
  have hd : ((n : Int) == 0) = qEmpty n := by unfold qEmpty; rw [Bool.eq_iff_iff]; simp; try omega
  generalize qEmpty n = r at *
  go_enter Tryz.func108, Tryz.ntmps108
  go_wp2
  go_ret
  first | exact ⟨rfl, rfl⟩ | exact ⟨ret_bool hd, rfl⟩

set_option maxHeartbeats 400000 in
theorem indexempty_any (A : Option Addr) (n c : Nat) (vs : List Value) (ps : List (List UInt8)) (w : World) (h : Sls w w.heap.size A n c vs ps) :
    Calls Tryz.prog 125 #[.slice A n c, .func (.func 108) #[] #[]] w (IdxIs (fun p => qEmpty p.length) ps w) := by
  have HL := Lib.hid h.len
  have hn63 : n ≤ 9223372036854775807 := by have := h.sl.cap; have := h.sl.mx; omega
  go_enter Tryz.func125, Tryz.ntmps125
  go_wp2
  go_loop [8] (fun i => ∃ k : Nat, k ≤ n ∧ i = .int .i64 k ∧ ∀ p ∈ ps.take k, qEmpty p.length = false) (fun i => n - (intOf i).toNat)
  case atStart => exact ⟨0, Nat.zero_le _, rfl, by simp⟩
  case round =>
    obtain ⟨k, hk, rfl, hall⟩ := hrel
    have HA := Lib.hid hall
    clear hall
    by_cases hlt : k < n
    · obtain ⟨ad, Ai, ci, rfl, hb, hc, hsl⟩ := h.get hlt
      have hkl : k < ps.length := by rw [HL.out]; exact hlt
      have hin : ps[k]?.getD [] ∈ ps := by rw [List.getElem?_eq_getElem hkl]; exact List.getElem_mem _
      have htk : ps.take (k + 1) = ps.take k ++ [ps[k]?.getD []] := by rw [List.take_add_one, List.getElem?_eq_getElem hkl]; rfl
      generalize ps[k]?.getD [] = p at *
      have HT := Lib.hid htk
      have HI := Lib.hid hin
      clear htk hin hkl
      cases hq : qEmpty p.length with
      | false =>
        have HQ := Lib.hid hq
        have hfv := empty_any Ai p.length ci w
        rw [hq] at hfv
        have HF := Lib.hid hfv
        clear hfv hq
        go_wp2_with (go_at_call 108; refine HF.out.mono ?_; rintro e w' ⟨rfl, rfl⟩)
        go_round
        case rel => exact ⟨k + 1, by omega, by go_num, by
          intro q hq
          rw [HT.out, List.mem_append] at hq
          rcases hq with hq | hq
          · exact HA.out q hq
          · rw [List.mem_singleton] at hq; rw [hq]; exact HQ.out⟩
        case measure => simp [intOf]; omega
      | true =>
        have HQ := Lib.hid hq
        have hfv := empty_any Ai p.length ci w
        rw [hq] at hfv
        have HF := Lib.hid hfv
        clear hfv hq
        go_wp2_with (go_at_call 108; refine HF.out.mono ?_; rintro e w' ⟨rfl, rfl⟩)
        go_ret
        exact .inl ⟨k, rfl, ⟨p, HI.out, HQ.out⟩, rfl⟩
    · have e : ps.take k = ps := List.take_of_length_le (by rw [HL.out]; omega)
      have hA := HA.out
      rw [e] at hA
      have HA' := Lib.hid hA
      clear hA e
      go_wp2
      go_ret
      exact .inr ⟨rfl, HA'.out, rfl⟩

theorem containsempty_any (A : Option Addr) (n c : Nat) (vs : List Value) (ps : List (List UInt8)) (w : World) (h : Sls w w.heap.size A n c vs ps) :
    Calls Tryz.prog 113 #[.slice A n c, .func (.func 108) #[] #[]] w fun e w' => e = .returned (.bool (ps.any fun p => qEmpty p.length)) ∧ w = w' := by
  go_enter Tryz.func113, Tryz.ntmps113
  go_wp2_with fail
  refine (indexempty_any A n c vs ps w h).mono ?_
  rintro e w' (⟨k, rfl, ⟨p, hp, hq⟩, rfl⟩ | ⟨rfl, hall, rfl⟩)
  · have hany : (ps.any fun p => qEmpty p.length) = true := by rw [List.any_eq_true]; exact ⟨p, hp, hq⟩
    have HA := Lib.hid hany
    clear hany
    go_wp2
    go_ret
    exact ⟨ret_bool (by rw [HA.out]), rfl⟩
  · have hany : (ps.any fun p => qEmpty p.length) = false := by rw [List.any_eq_false]; intro p hp; have := hall p hp; dsimp only at this; rw [this]; simp
    have HA := Lib.hid hany
    clear hany hall
    go_wp2
    go_ret
    exact ⟨ret_bool (by rw [HA.out]), rfl⟩


theorem long_any (A : Option Addr) (n c : Nat) (w : World) : Calls Tryz.prog 109 #[.slice A n c] w fun e w' => e = .returned (.bool (qLong n)) ∧ w = w' := by
  have hd : (decide (2047 < (n : Int))) = qLong n := by unfold qLong; rw [Bool.eq_iff_iff]; simp; try omega
  generalize qLong n = r at *
  go_enter Tryz.func109, Tryz.ntmps109
  go_wp2
  go_ret
  first | exact ⟨rfl, rfl⟩ | exact ⟨ret_bool hd, rfl⟩

set_option maxHeartbeats 400000 in
theorem indexlong_any (A : Option Addr) (n c : Nat) (vs : List Value) (ps : List (List UInt8)) (w : World) (h : Sls w w.heap.size A n c vs ps) :
    Calls Tryz.prog 125 #[.slice A n c, .func (.func 109) #[] #[]] w (IdxIs (fun p => qLong p.length) ps w) := by
  have HL := Lib.hid h.len
  have hn63 : n ≤ 9223372036854775807 := by have := h.sl.cap; have := h.sl.mx; omega
  go_enter Tryz.func125, Tryz.ntmps125
  go_wp2
  go_loop [8] (fun i => ∃ k : Nat, k ≤ n ∧ i = .int .i64 k ∧ ∀ p ∈ ps.take k, qLong p.length = false) (fun i => n - (intOf i).toNat)
  case atStart => exact ⟨0, Nat.zero_le _, rfl, by simp⟩
  case round =>
    obtain ⟨k, hk, rfl, hall⟩ := hrel
    have HA := Lib.hid hall
    clear hall
    by_cases hlt : k < n
    · obtain ⟨ad, Ai, ci, rfl, hb, hc, hsl⟩ := h.get hlt
      have hkl : k < ps.length := by rw [HL.out]; exact hlt
      have hin : ps[k]?.getD [] ∈ ps := by rw [List.getElem?_eq_getElem hkl]; exact List.getElem_mem _
      have htk : ps.take (k + 1) = ps.take k ++ [ps[k]?.getD []] := by rw [List.take_add_one, List.getElem?_eq_getElem hkl]; rfl
      generalize ps[k]?.getD [] = p at *
      have HT := Lib.hid htk
      have HI := Lib.hid hin
      clear htk hin hkl
      cases hq : qLong p.length with
      | false =>
        have HQ := Lib.hid hq
        have hfv := long_any Ai p.length ci w
        rw [hq] at hfv
        have HF := Lib.hid hfv
        clear hfv hq
        go_wp2_with (go_at_call 109; refine HF.out.mono ?_; rintro e w' ⟨rfl, rfl⟩)
        go_round
        case rel => exact ⟨k + 1, by omega, by go_num, by
          intro q hq
          rw [HT.out, List.mem_append] at hq
          rcases hq with hq | hq
          · exact HA.out q hq
          · rw [List.mem_singleton] at hq; rw [hq]; exact HQ.out⟩
        case measure => simp [intOf]; omega
      | true =>
        have HQ := Lib.hid hq
        have hfv := long_any Ai p.length ci w
        rw [hq] at hfv
        have HF := Lib.hid hfv
        clear hfv hq
        go_wp2_with (go_at_call 109; refine HF.out.mono ?_; rintro e w' ⟨rfl, rfl⟩)
        go_ret
        exact .inl ⟨k, rfl, ⟨p, HI.out, HQ.out⟩, rfl⟩
    · have e : ps.take k = ps := List.take_of_length_le (by rw [HL.out]; omega)
      have hA := HA.out
      rw [e] at hA
      have HA' := Lib.hid hA
      clear hA e
      go_wp2
      go_ret
      exact .inr ⟨rfl, HA'.out, rfl⟩

theorem containslong_any (A : Option Addr) (n c : Nat) (vs : List Value) (ps : List (List UInt8)) (w : World) (h : Sls w w.heap.size A n c vs ps) :
    Calls Tryz.prog 113 #[.slice A n c, .func (.func 109) #[] #[]] w fun e w' => e = .returned (.bool (ps.any fun p => qLong p.length)) ∧ w = w' := by
  go_enter Tryz.func113, Tryz.ntmps113
  go_wp2_with fail
  refine (indexlong_any A n c vs ps w h).mono ?_
  rintro e w' (⟨k, rfl, ⟨p, hp, hq⟩, rfl⟩ | ⟨rfl, hall, rfl⟩)
  · have hany : (ps.any fun p => qLong p.length) = true := by rw [List.any_eq_true]; exact ⟨p, hp, hq⟩
    have HA := Lib.hid hany
    clear hany
    go_wp2
    go_ret
    exact ⟨ret_bool (by rw [HA.out]), rfl⟩
  · have hany : (ps.any fun p => qLong p.length) = false := by rw [List.any_eq_false]; intro p hp; have := hall p hp; dsimp only at this; rw [this]; simp
    have HA := Lib.hid hany
    clear hany hall
    go_wp2
    go_ret
    exact ⟨ret_bool (by rw [HA.out]), rfl⟩

end Go.Proofs.YtmiipkaobloedaaGreat
namespace Go.Proofs.YtmiipkaobloedaaGreat
open Go.RowKit

theorem Sls.drew' {w : World} {B n c : Nat} {A : Option Addr} {vs : List Value} {ps : List (List UInt8)} (h : Sls w B A n c vs ps) : Sls w.drew B A n c vs ps := ⟨h.sl.drew, h.len, fun i p hi => let ⟨Ai, ci, e, hs⟩ := h.each i p hi; ⟨Ai, ci, e, hs.drew⟩⟩
theorem Sls.drewN' {w : World} {n c : Nat} {A : Option Addr} {vs : List Value} {ps : List (List UInt8)} (h : Sls w w.heap.size A n c vs ps) (k : Nat) : Sls (w.drewN k) (w.drewN k).heap.size A n c vs ps := ⟨h.sl.drewN k, h.len, fun i p hi => let ⟨Ai, ci, e, hs⟩ := h.each i p hi; ⟨Ai, ci, e, hs.drewN k⟩⟩
theorem Sls.pre {w : World} {B n c k : Nat} {A : Option Addr} {vs : List Value} {ps : List (List UInt8)} (h : Sls w B A n c vs ps) (hk : k ≤ n) : Sls w B A k k (vs.take k) (ps.take k) := by
  refine ⟨⟨by rw [List.length_take, h.sl.len]; omega, Nat.le_refl _, by have := h.sl.cap; have := h.sl.mx; omega, fun hp => ?_⟩, by rw [List.length_take, h.len]; omega, fun i p hi => ?_⟩
  · obtain ⟨ad, e, hb, hc⟩ := h.sl.at_ (by omega)
    refine ⟨ad, e, hb, fun j u hu => hc j u ?_⟩
    rw [List.getElem?_take] at hu
    split at hu
    · exact hu
    · cases hu
  · rw [List.getElem?_take] at hi
    split at hi
    · obtain ⟨Ai, ci, e, hs⟩ := h.each i p hi
      exact ⟨Ai, ci, by rw [List.getElem?_take, if_pos (by assumption)]; exact e, hs⟩
    · cases hi

/-- IndexFunc's answer over conditions -/
def AllIs (bs : List Bool) (Inv : World → Prop) (e : Ending) (w' : World) : Prop :=
  ((∃ k : Nat, e = .returned (.int .i64 k) ∧ bs.all id = false) ∨ (e = .returned (.int .i64 (-1)) ∧ bs.all id = true)) ∧ Inv w'

set_option maxHeartbeats 400000 in
theorem indexAll_any (b : Nat) (fvs : List Value) (bs : List Bool) (Inv : World → Prop) (w : World) (hlen : bs.length = fvs.length) (hsm : fvs.length ≤ 1000) (hI : ∀ W, Inv W → Blk W b 24 fvs.toArray)
    (hcall : ∀ (i : Nat) (fv : Value) (x : Bool) (W : World), fvs[i]? = some fv → bs[i]? = some x → (∀ y ∈ bs.take i, y = true) → Inv W → Calls Tryz.prog 124 #[fv] W fun e W' => e = .returned (.bool (!x)) ∧ Inv W')
    (h0 : Inv w) : Calls Tryz.prog 123 #[.slice (some ⟨b, 0, none⟩) fvs.length fvs.length, .func (.func 124) #[] #[]] w (AllIs bs Inv) := by
  have HC := Lib.hid hcall
  have HI := Lib.hid hI
  have HL := Lib.hid hlen
  clear hcall hI hlen
  obtain ⟨N, hN⟩ : ∃ N, N = fvs.length := ⟨_, rfl⟩
  rw [← hN] at hsm ⊢
  have HN := Lib.hid hN
  clear hN
  go_enter Tryz.func123, Tryz.ntmps123
  go_wp2
  go_loopw [8] (fun i wr => ∃ k : Nat, k ≤ N ∧ i = .int .i64 k ∧ (∀ y ∈ bs.take k, y = true) ∧ Inv wr) (fun i _ => N - (intOf i).toNat)
  case atStart => exact ⟨0, Nat.zero_le _, rfl, by simp, h0⟩
  case round =>
    clear h0
    obtain ⟨k, hk, rfl, hall, hinv⟩ := hrel
    have HA := Lib.hid hall
    clear hall
    by_cases hlt : k < N
    · obtain ⟨fv, hfv⟩ : ∃ fv, fvs[k]? = some fv := ⟨_, List.getElem?_eq_getElem (by rw [← HN.out]; exact hlt)⟩
      obtain ⟨x, hx⟩ : ∃ x, bs[k]? = some x := ⟨_, List.getElem?_eq_getElem (by rw [HL.out, ← HN.out]; exact hlt)⟩
      have hcl := HC.out k fv x wr hfv hx HA.out hinv
      have hcell := (HI.out wr hinv).cell k
      rw [List.getElem?_toArray, hfv] at hcell
      have HCL := Lib.hid hcl
      have HX := Lib.hid hx
      clear hcl hfv hx
      cases x with
      | true =>
        go_wp2_with (go_at_call 124; refine HCL.out.mono ?_; rintro e w' ⟨rfl, hi'⟩)
        go_roundw
        case rel => exact ⟨k + 1, by omega, by go_num, by
          intro y hy
          rw [List.take_add_one, HX.out, List.mem_append] at hy
          rcases hy with hy | hy
          · exact HA.out y hy
          · simpa using hy, hi'⟩
        case measure => simp [intOf]; omega
      | false =>
        go_wp2_with (go_at_call 124; refine HCL.out.mono ?_; rintro e w' ⟨rfl, hi'⟩)
        go_ret
        refine ⟨.inl ⟨k, rfl, ?_⟩, hi'⟩
        rw [List.all_eq_false]
        exact ⟨false, List.mem_of_getElem? HX.out, by simp⟩
    · have e : bs.take k = bs := List.take_of_length_le (by rw [HL.out, ← HN.out]; omega)
      have hA := HA.out
      rw [e] at hA
      have HA' := Lib.hid hA
      clear hA e
      go_wp2
      go_ret
      exact ⟨.inr ⟨rfl, by rw [List.all_eq_true]; exact HA'.out⟩, hinv⟩

theorem containsAll_any (b : Nat) (fvs : List Value) (bs : List Bool) (Inv : World → Prop) (w : World)
    (h : Calls Tryz.prog 123 #[.slice (some ⟨b, 0, none⟩) fvs.length fvs.length, .func (.func 124) #[] #[]] w (AllIs bs Inv)) :
    Calls Tryz.prog 106 #[.slice (some ⟨b, 0, none⟩) fvs.length fvs.length, .func (.func 124) #[] #[]] w fun e w' => e = .returned (.bool (!bs.all id)) ∧ Inv w' := by
  have H := Lib.hid h
  clear h
  go_enter Tryz.func106, Tryz.ntmps106
  go_wp2_with fail
  refine H.out.mono ?_
  rintro e w' ⟨⟨k, rfl, ha⟩ | ⟨rfl, ha⟩, hi⟩
  · have HA := Lib.hid ha
    clear ha
    go_wp2
    go_ret
    exact ⟨ret_bool (by rw [HA.out]; rfl), hi⟩
  · have HA := Lib.hid ha
    clear ha
    go_wp2
    go_ret
    exact ⟨ret_bool (by rw [HA.out]; rfl), hi⟩

theorem all_any (b : Nat) (fvs : List Value) (bs : List Bool) (Inv : World → Prop) (w : World)
    (h : Calls Tryz.prog 106 #[.slice (some ⟨b, 0, none⟩) fvs.length fvs.length, .func (.func 124) #[] #[]] w fun e w' => e = .returned (.bool (!bs.all id)) ∧ Inv w') :
    Calls Tryz.prog 110 #[.slice (some ⟨b, 0, none⟩) fvs.length fvs.length] w fun e w' => e = .returned (.bool (bs.all id)) ∧ Inv w' := by
  have H := Lib.hid h
  clear h
  go_enter Tryz.func110, Tryz.ntmps110
  go_wp2_with fail
  refine H.out.mono ?_
  rintro e w' ⟨rfl, hi⟩
  go_wp2
  go_ret
  exact ⟨ret_bool (by simp), hi⟩
end Go.Proofs.YtmiipkaobloedaaGreat
namespace Go.Proofs.YtmiipkaobloedaaGreat
open Go.RowKit

/-- what Valid answers, condition by condition -/
def vConds (ps : List (List UInt8)) : List Bool :=
  [decide (1 ≤ ps.length ∧ ps.length ≤ 64), !(ps.any fun p => qEmpty p.length), !((ps.take (ps.length - 1)).any fun p => qLong p.length), decide (sumLen ps ≤ 32767)]
def validB (ps : List (List UInt8)) : Bool := (vConds ps).all id

theorem v3_any (bn n : Nat) (w : World) (h : Blk w bn 3 #[.int .i64 n]) :
    Calls Tryz.prog 111 #[.pointer (some ⟨bn, 0, none⟩)] w fun e w' => e = .returned (.bool (decide (1 ≤ n ∧ n ≤ 64))) ∧ w = w' := by
  have hc := h.cell 0
  simp at hc
  by_cases h1 : 1 ≤ n
  · by_cases h2 : n ≤ 64
    · have hd : decide (1 ≤ n ∧ n ≤ 64) = true := by simp; omega
      rw [hd]
      clear hd
      go_enter Tryz.func111, Tryz.ntmps111
      go_wp2
      go_ret
      exact ⟨ret_bool (by simp; omega), rfl⟩
    · have hd : decide (1 ≤ n ∧ n ≤ 64) = false := by simp; omega
      rw [hd]
      clear hd
      go_enter Tryz.func111, Tryz.ntmps111
      go_wp2
      go_ret
      exact ⟨ret_bool (by simp; omega), rfl⟩
  · have hd : decide (1 ≤ n ∧ n ≤ 64) = false := by simp; omega
    rw [hd]
    clear hd
    go_enter Tryz.func111, Tryz.ntmps111
    go_wp2
    go_ret
    exact ⟨rfl, rfl⟩

theorem v4_any (bc be : Nat) (s e : Bool) (A : Option Addr) (n c : Nat) (vs : List Value) (ps : List (List UInt8)) (w : World) (h : Sls w w.heap.size A n c vs ps)
    (hc : Blk w bc 59 #[.bool s, .bool e, .slice A n c]) (he : Blk w be 161 #[.func (.func 108) #[] #[]]) :
    Calls Tryz.prog 112 #[.pointer (some ⟨bc, 0, none⟩), .pointer (some ⟨be, 0, none⟩)] w fun e w' => e = .returned (.bool (!(ps.any fun p => qEmpty p.length))) ∧ w = w' := by
  have hc2 := hc.cell 2
  have he0 := he.cell 0
  simp at hc2 he0
  have hct := containsempty_any A n c vs ps w h
  have HC := Lib.hid hct
  clear hct
  generalize (ps.any fun p => qEmpty p.length) = r at *
  go_enter Tryz.func112, Tryz.ntmps112
  go_wp2_with (go_at_call 113; refine HC.out.mono ?_; rintro e w' ⟨rfl, rfl⟩)
  go_ret
  exact ⟨rfl, rfl⟩

set_option maxHeartbeats 400000 in
theorem v5_any (bc bn bl : Nat) (s e : Bool) (A : Option Addr) (n c : Nat) (vs : List Value) (ps : List (List UInt8)) (w : World) (h : Sls w w.heap.size A n c vs ps)
    (hc : Blk w bc 59 #[.bool s, .bool e, .slice A n c]) (hn : Blk w bn 3 #[.int .i64 n]) (hl : Blk w bl 161 #[.func (.func 109) #[] #[]]) (h1 : 1 ≤ n) :
    Calls Tryz.prog 114 #[.pointer (some ⟨bc, 0, none⟩), .pointer (some ⟨bn, 0, none⟩), .pointer (some ⟨bl, 0, none⟩)] w fun e w' => e = .returned (.bool (!((ps.take (n - 1)).any fun p => qLong p.length))) ∧ Below w.heap.size w w' := by
  have hc2 := hc.cell 2
  have hn0 := hn.cell 0
  have hl0 := hl.cell 0
  simp at hc2 hn0 hl0
  have hcap := h.sl.cap
  have hmx := h.sl.mx
  obtain ⟨m, rfl⟩ : ∃ m, n = m + 1 := ⟨n - 1, by omega⟩
  have hct := fun W (hW : Sls W W.heap.size A (m + 1) c vs ps) => containslong_any A m m _ _ W (hW.pre (k := m) (by omega))
  have e1 : m + 1 - 1 = m := by omega
  rw [e1]
  generalize ((ps.take m).any fun p => qLong p.length) = r at *
  have HC := Lib.hid hct
  clear hct e1
  have e2 : ((m : Int) + 1 - 1) = m := by omega
  have e3 : IntKind.i64.wrap ((m : Int) + 1 - 1) = m := by rw [e2]; exact IntWalk.i64_in _ (by omega)
  go_enter Tryz.func114, Tryz.ntmps114
  go_wp2
  go_quiet ((go_at_call 113; exact Calls.quiet_of_same ((HC.out _ (h.drewN' _)).mono fun _ _ hh => ⟨hh.1, hh.2.symm⟩)))
  go_wp2
  go_ret
  exact ⟨rfl, (Below.refl _ w).drewN _⟩

theorem v6_any (bc : Nat) (s e : Bool) (A : Option Addr) (n c : Nat) (vs : List Value) (ps : List (List UInt8)) (w : World) (h : Sls w w.heap.size A n c vs ps) (hn : n ≤ 1048576) (hle : ∀ p ∈ ps, p.length ≤ 1099511627776)
    (hc : Blk w bc 59 #[.bool s, .bool e, .slice A n c]) :
    Calls Tryz.prog 115 #[.pointer (some ⟨bc, 0, none⟩)] w fun e w' => e = .returned (.bool (decide (sumLen ps ≤ 32767))) ∧ Below w.heap.size w w' := by
  have hc0 := hc.cell 0
  have hc1 := hc.cell 1
  have hc2 := hc.cell 2
  simp at hc0 hc1 hc2
  have hsz := size_any s e A n c vs ps w h hn hle
  have HZ := Lib.hid hsz
  clear hsz hle
  generalize sumLen ps = S at *
  have hd : decide ((S : Int) ≤ 32767) = decide (S ≤ 32767) := by simp; omega
  generalize hr : decide (S ≤ 32767) = r at *
  clear hr
  go_enter Tryz.func115, Tryz.ntmps115
  go_wp2_with (go_at_call 35; refine HZ.out.mono ?_; rintro e w' ⟨rfl, hb⟩)
  go_ret
  first | exact ⟨rfl, hb⟩ | exact ⟨ret_bool hd, hb⟩

theorem not_v3 (bn : Nat) (x : Bool) (w : World) (h : Calls Tryz.prog 111 #[.pointer (some ⟨bn, 0, none⟩)] w fun e w' => e = .returned (.bool x) ∧ Below w.heap.size w w') :
    Calls Tryz.prog 124 #[.func (.func 111) #[] #[.pointer (some ⟨bn, 0, none⟩)]] w fun e w' => e = .returned (.bool (!x)) ∧ Below w.heap.size w w' := by
  have H := Lib.hid h
  clear h
  go_enter Tryz.func124, Tryz.ntmps124
  go_wp2_with (go_at_call 111; refine H.out.mono ?_; rintro e w' ⟨rfl, hb⟩)
  go_ret
  exact ⟨rfl, hb⟩

theorem not_v4 (bc be : Nat) (x : Bool) (w : World) (h : Calls Tryz.prog 112 #[.pointer (some ⟨bc, 0, none⟩), .pointer (some ⟨be, 0, none⟩)] w fun e w' => e = .returned (.bool x) ∧ Below w.heap.size w w') :
    Calls Tryz.prog 124 #[.func (.func 112) #[] #[.pointer (some ⟨bc, 0, none⟩), .pointer (some ⟨be, 0, none⟩)]] w fun e w' => e = .returned (.bool (!x)) ∧ Below w.heap.size w w' := by
  have H := Lib.hid h
  clear h
  go_enter Tryz.func124, Tryz.ntmps124
  go_wp2_with (go_at_call 112; refine H.out.mono ?_; rintro e w' ⟨rfl, hb⟩)
  go_ret
  exact ⟨rfl, hb⟩

theorem not_v5 (bc bn bl : Nat) (x : Bool) (w : World) (h : Calls Tryz.prog 114 #[.pointer (some ⟨bc, 0, none⟩), .pointer (some ⟨bn, 0, none⟩), .pointer (some ⟨bl, 0, none⟩)] w fun e w' => e = .returned (.bool x) ∧ Below w.heap.size w w') :
    Calls Tryz.prog 124 #[.func (.func 114) #[] #[.pointer (some ⟨bc, 0, none⟩), .pointer (some ⟨bn, 0, none⟩), .pointer (some ⟨bl, 0, none⟩)]] w fun e w' => e = .returned (.bool (!x)) ∧ Below w.heap.size w w' := by
  have H := Lib.hid h
  clear h
  go_enter Tryz.func124, Tryz.ntmps124
  go_wp2_with (go_at_call 114; refine H.out.mono ?_; rintro e w' ⟨rfl, hb⟩)
  go_ret
  exact ⟨rfl, hb⟩

theorem not_v6 (bc : Nat) (x : Bool) (w : World) (h : Calls Tryz.prog 115 #[.pointer (some ⟨bc, 0, none⟩)] w fun e w' => e = .returned (.bool x) ∧ Below w.heap.size w w') :
    Calls Tryz.prog 124 #[.func (.func 115) #[] #[.pointer (some ⟨bc, 0, none⟩)]] w fun e w' => e = .returned (.bool (!x)) ∧ Below w.heap.size w w' := by
  have H := Lib.hid h
  clear h
  go_enter Tryz.func124, Tryz.ntmps124
  go_wp2_with (go_at_call 115; refine H.out.mono ?_; rintro e w' ⟨rfl, hb⟩)
  go_ret
  exact ⟨rfl, hb⟩

/-- The four conditions, called one after the other. -/
theorem valid_all (bc bn be bl b : Nat) (s e : Bool) (A : Option Addr) (n c : Nat) (vs : List Value) (ps : List (List UInt8)) (w : World) (h : Sls w w.heap.size A n c vs ps) (hn : n ≤ 1048576) (hle : ∀ p ∈ ps, p.length ≤ 1099511627776)
    (hbc : Blk w bc 59 #[.bool s, .bool e, .slice A n c]) (hbn : Blk w bn 3 #[.int .i64 n]) (hbe : Blk w be 161 #[.func (.func 108) #[] #[]]) (hbl : Blk w bl 161 #[.func (.func 109) #[] #[]])
    (hb : Blk w b 24 #[.func (.func 111) #[] #[.pointer (some ⟨bn, 0, none⟩)], .func (.func 112) #[] #[.pointer (some ⟨bc, 0, none⟩), .pointer (some ⟨be, 0, none⟩)],
      .func (.func 114) #[] #[.pointer (some ⟨bc, 0, none⟩), .pointer (some ⟨bn, 0, none⟩), .pointer (some ⟨bl, 0, none⟩)], .func (.func 115) #[] #[.pointer (some ⟨bc, 0, none⟩)]]) :
    Calls Tryz.prog 110 #[.slice (some ⟨b, 0, none⟩) 4 4] w fun e w' => e = .returned (.bool (validB ps)) ∧ Below w.heap.size w w' := by
  refine all_any b [.func (.func 111) #[] #[.pointer (some ⟨bn, 0, none⟩)], .func (.func 112) #[] #[.pointer (some ⟨bc, 0, none⟩), .pointer (some ⟨be, 0, none⟩)],
      .func (.func 114) #[] #[.pointer (some ⟨bc, 0, none⟩), .pointer (some ⟨bn, 0, none⟩), .pointer (some ⟨bl, 0, none⟩)], .func (.func 115) #[] #[.pointer (some ⟨bc, 0, none⟩)]] (vConds ps) (fun W => Below w.heap.size w W) w ?_
  refine containsAll_any b _ (vConds ps) (fun W => Below w.heap.size w W) w ?_
  refine indexAll_any b _ (vConds ps) (fun W => Below w.heap.size w W) w rfl (by simp) (fun W hW => hb.below hW hb.lt) ?_ (Below.refl _ _)
  have hl := h.len
  intro i fv x W hfv hx hpre hW
  have hS := (h.below hW).more hW.size
  have key : Calls Tryz.prog 124 #[fv] W fun e W' => e = .returned (.bool (!x)) ∧ Below W.heap.size W W' := by
    match i, hfv, hx, hpre with
    | 0, hfv, hx, _ =>
      simp only [vConds, List.getElem?_cons_zero, Option.some.injEq] at hfv hx
      subst hfv hx
      refine not_v3 bn _ W ((v3_any bn n W (hbn.below hW hbn.lt)).mono fun e W' hh => ⟨?_, by rw [← hh.2]; exact Below.refl _ _⟩)
      rw [hh.1, hl]
    | 1, hfv, hx, _ =>
      simp only [vConds, List.getElem?_cons_zero, List.getElem?_cons_succ, Option.some.injEq] at hfv hx
      subst hfv hx
      exact not_v4 bc be _ W ((v4_any bc be s e A n c vs ps W hS (hbc.below hW hbc.lt) (hbe.below hW hbe.lt)).mono fun e W' hh => ⟨hh.1, by rw [← hh.2]; exact Below.refl _ _⟩)
    | 2, hfv, hx, hpre =>
      have h1 : 1 ≤ n := by
        have := hpre (decide (1 ≤ ps.length ∧ ps.length ≤ 64)) (by simp [vConds])
        simp at this
        omega
      simp only [vConds, List.getElem?_cons_zero, List.getElem?_cons_succ, Option.some.injEq] at hfv hx
      subst hfv hx
      rw [hl]
      exact not_v5 bc bn bl _ W (v5_any bc bn bl s e A n c vs ps W hS (hbc.below hW hbc.lt) (hbn.below hW hbn.lt) (hbl.below hW hbl.lt) h1)
    | 3, hfv, hx, _ =>
      simp only [vConds, List.getElem?_cons_zero, List.getElem?_cons_succ, Option.some.injEq] at hfv hx
      subst hfv hx
      exact not_v6 bc _ W (v6_any bc s e A n c vs ps W hS hn hle (hbc.below hW hbc.lt))
    | i + 4, hfv, _, _ => simp at hfv
  exact key.mono fun e W' hh => ⟨hh.1, hW.trans (hh.2.mono hW.size)⟩

set_option maxHeartbeats 800000 in
/-- Valid answers whether the chunk is valid. -/
theorem valid_any (s e : Bool) (A : Option Addr) (n c : Nat) (vs : List Value) (ps : List (List UInt8)) (w : World) (h : Sls w w.heap.size A n c vs ps) (hn : n ≤ 1048576) (hle : ∀ p ∈ ps, p.length ≤ 1099511627776) :
    Calls Tryz.prog 83 #[.agg #[.bool s, .bool e, .slice A n c]] w fun e w' => e = .returned (.bool (validB ps)) ∧ Below w.heap.size w w' := by
  have HLE := Lib.hid hle
  clear hle
  have hK := ((((Kept.refl (fun k _ => w.heap.size ≤ k) w).alloc (.cells #[.bool s, .bool e, .slice A n c] 59)).alloc (.cells #[.int .i64 n] 3)).alloc (.cells #[.func (.func 108) #[] #[]] 161)).alloc (.cells #[.func (.func 109) #[] #[]] 161)
  have hB := (hK.alloc (.cells #[.func (.func 111) #[] #[.pointer (some ⟨w.heap.size + 1, 0, none⟩)], .func (.func 112) #[] #[.pointer (some ⟨w.heap.size, 0, none⟩), .pointer (some ⟨w.heap.size + 1 + 1, 0, none⟩)],
      .func (.func 114) #[] #[.pointer (some ⟨w.heap.size, 0, none⟩), .pointer (some ⟨w.heap.size + 1, 0, none⟩), .pointer (some ⟨w.heap.size + 1 + 1 + 1, 0, none⟩)], .func (.func 115) #[] #[.pointer (some ⟨w.heap.size, 0, none⟩)]] 24)).below (B := w.heap.size) (fun _ _ h => h) (Nat.le_refl _)
  clear hK
  have b0 := Blk.new w 59 #[.bool s, .bool e, .slice A n c]
  have b1 := Blk.new (w.alloc (.cells #[.bool s, .bool e, .slice A n c] 59)) 3 #[.int .i64 n]
  have b2 := Blk.new ((w.alloc (.cells #[.bool s, .bool e, .slice A n c] 59)).alloc (.cells #[.int .i64 n] 3)) 161 #[.func (.func 108) #[] #[]]
  have b3 := Blk.new (((w.alloc (.cells #[.bool s, .bool e, .slice A n c] 59)).alloc (.cells #[.int .i64 n] 3)).alloc (.cells #[.func (.func 108) #[] #[]] 161)) 161 #[.func (.func 109) #[] #[]]
  have b4 := Blk.new ((((w.alloc (.cells #[.bool s, .bool e, .slice A n c] 59)).alloc (.cells #[.int .i64 n] 3)).alloc (.cells #[.func (.func 108) #[] #[]] 161)).alloc (.cells #[.func (.func 109) #[] #[]] 161)) 24 #[.func (.func 111) #[] #[.pointer (some ⟨w.heap.size + 1, 0, none⟩)], .func (.func 112) #[] #[.pointer (some ⟨w.heap.size, 0, none⟩), .pointer (some ⟨w.heap.size + 1 + 1, 0, none⟩)],
      .func (.func 114) #[] #[.pointer (some ⟨w.heap.size, 0, none⟩), .pointer (some ⟨w.heap.size + 1, 0, none⟩), .pointer (some ⟨w.heap.size + 1 + 1 + 1, 0, none⟩)], .func (.func 115) #[] #[.pointer (some ⟨w.heap.size, 0, none⟩)]]
  simp only [World.size_alloc] at b1 b2 b3 b4
  have hall := valid_all w.heap.size (w.heap.size + 1) (w.heap.size + 1 + 1) (w.heap.size + 1 + 1 + 1) (w.heap.size + 1 + 1 + 1 + 1) s e A n c vs ps _ ((h.below hB).more hB.size) hn HLE.out ((((b0.alloc _).alloc _).alloc _).alloc _) (((b1.alloc _).alloc _).alloc _) ((b2.alloc _).alloc _) (b3.alloc _) b4
  have HALL := Lib.hid hall
  have HB := Lib.hid hB
  clear hall b0 b1 b2 b3 b4 hB
  generalize validB ps = r at *
  go_enter Tryz.func83, Tryz.ntmps83
  go_wp2_with (go_at_call 110; refine HALL.out.mono ?_; rintro e w' ⟨rfl, hb⟩)
  go_ret
  exact ⟨rfl, HB.out.trans (hb.mono HB.out.size)⟩
end Go.Proofs.YtmiipkaobloedaaGreat
namespace Go.Proofs.YtmiipkaobloedaaGreat
open Go.RowKit

/-- the fields of the fixed header -/
def umHead (sn : Nat) (s e : Bool) (n : Nat) : List (Nat × Nat) := [(0, 3), ((!s).toNat, 1), ((!e).toNat, 1), ((decide (1 < n)).toNat, 1), (sn, 10)]
/-- the two fields of length i -/
def lenField (ps : List (List UInt8)) (i : Nat) : List (Nat × Nat) := [((decide (i + 2 < ps.length)).toNat, 1), ((ps[i]?.getD []).length, 11)]
/-- the bits of the first k lengths -/
def lenBits (ps : List (List UInt8)) (k : Nat) : List Bool := (List.range k).flatMap fun i => fieldBits (lenField ps i)
theorem lenBits_succ (ps : List (List UInt8)) (k : Nat) : lenBits ps (k + 1) = lenBits ps k ++ fieldBits (lenField ps k) := by simp [lenBits, List.range_succ]
theorem lenBits_length (ps : List (List UInt8)) (k : Nat) : (lenBits ps k).length = 12 * k := by
  unfold lenBits
  rw [List.length_flatMap]
  have : ∀ i, (fieldBits (lenField ps i)).length = 12 := fun i => by simp [fieldBits, lenField]
  simp only [this, List.map_const', List.length_range, List.sum_replicate_nat]
  omega
theorem mem_le_sumLen {ps : List (List UInt8)} {p : List UInt8} (h : p ∈ ps) : p.length ≤ sumLen ps := by
  induction ps with
  | nil => cases h
  | cons q ps ih =>
    unfold sumLen at ih ⊢
    rw [List.map_cons, List.sum_cons]
    rcases List.mem_cons.1 h with rfl | h
    · omega
    · have := ih h; omega
/-- the encoding -/
def encU (sn : Nat) (s e : Bool) (ps : List (List UInt8)) : List UInt8 := pack (fieldBits (umHead sn s e ps.length) ++ lenBits ps (ps.length - 1)) ++ ps.flatten

structure ValidP (ps : List (List UInt8)) : Prop where
  lo : 1 ≤ ps.length
  hi : ps.length ≤ 64
  pos : ∀ p ∈ ps, 1 ≤ p.length
  short : ∀ i, i + 1 < ps.length → (ps[i]?.getD []).length ≤ 2047
  sum : sumLen ps ≤ 32767
theorem validB_iff (ps : List (List UInt8)) : validB ps = true ↔ ValidP ps := by
  unfold validB vConds
  simp only [List.all_cons, List.all_nil, Bool.and_true, id, Bool.and_eq_true, Bool.not_eq_true', decide_eq_true_eq, List.any_eq_false, Bool.not_eq_true]
  constructor
  · rintro ⟨⟨h1, h2⟩, h3, h4, h5⟩
    refine ⟨h1, h2, fun p hp => ?_, fun i hi => ?_, h5⟩
    · have := h3 p hp
      simp [qEmpty] at this
      cases p with
      | nil => exact absurd rfl this
      | cons => simp
    · have := h4 (ps[i]?.getD []) (by
        rw [List.getElem?_eq_getElem (by omega)]
        show ps[i] ∈ _
        rw [List.mem_take_iff_getElem]
        exact ⟨i, by omega, rfl⟩)
      simp [qLong] at this
      omega
  · rintro ⟨h1, h2, h3, h4, h5⟩
    refine ⟨⟨h1, h2⟩, fun p hp => ?_, fun p hp => ?_, h5⟩
    · have := h3 p hp
      simp [qEmpty]
      rintro rfl
      simp at this
    · rw [List.mem_take_iff_getElem] at hp
      obtain ⟨i, hi, rfl⟩ := hp
      have := h4 i (by omega)
      rw [List.getElem?_eq_getElem (by omega)] at this
      simp [qLong]
      simpa using this

/-- a pair of a row and an error number -/
def GivesRowErr (B : Nat) (t : TypeId) (w : World) (n : Nat) (xs : List Value) (er : Int) (e : Ending) (w' : World) : Prop :=
  ∃ v, e = .returned (.tuple #[v, .int .i64 er]) ∧ w'.ownsRow B t 1 v n xs ∧ Below B w w'

end Go.Proofs.YtmiipkaobloedaaGreat
