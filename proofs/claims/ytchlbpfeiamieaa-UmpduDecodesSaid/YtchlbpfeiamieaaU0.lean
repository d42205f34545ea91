/- umpdu: Header, Lengths, Size. -/
import Derived.Test.YtchlbpfeiamieaaW3
namespace Go.Proofs.Ytchlbpfeiamieaa
open Go.RowKit Go.Shelf
attribute [local go_sem] Oper.semAt_some

theorem int_info : (Try.prog.info? 3).map (fun i => (i.zero, i.size, i.bytes)) = some (some (.int .i64 0), 1, 8) := by kernel_rfl
theorem und137 : Try.prog.underlying 137 = some (.slice 3) := by kernel_rfl

theorem ret_int {k : IntKind} {a b : Int} (h : a = b) : Ending.returned (.int k a) = .returned (.int k b) := by rw [h]
theorem ret_bool {a b : Bool} (h : a = b) : Ending.returned (.bool a) = .returned (.bool b) := by rw [h]

/-- the number of header bytes -/
def hdrN (n : Int) : Int := if n < 1 ∨ 64 < n then 0 else 2 + (12 * (n - 1) + 7) / 8

set_option maxHeartbeats 400000 in
theorem header_any (n : Int) (w : World) (h : -9223372036854775808 ≤ n ∧ n ≤ 9223372036854775807) :
    Calls Try.prog 27 #[.int .i64 n] w fun e w' => e = .returned (.int .i64 (hdrN n)) ∧ w = w' := by
  have hfin : hdrN n = if n < 1 ∨ 64 < n then 0 else 2 + (12 * (n - 1) + 7) / 8 := rfl
  have HF := Lib.hid hfin
  clear hfin
  generalize hdrN n = r at *
  by_cases h1 : n < 1
  · go_enter Try.func27, Try.ntmps27
    go_wp2
    go_ret
    exact ⟨ret_int (by rw [HF.out, if_pos (by omega)]), rfl⟩
  · by_cases h2 : 64 < n
    · go_enter Try.func27, Try.ntmps27
      go_wp2
      go_ret
      exact ⟨ret_int (by rw [HF.out, if_pos (by omega)]), rfl⟩
    · go_enter Try.func27, Try.ntmps27
      go_wp2
      go_ret
      exact ⟨ret_int (by rw [HF.out, if_neg (by omega)]), rfl⟩

/-- lengths as values -/
def lens (ps : List (List UInt8)) : List Value := ps.map fun p => .int .i64 (p.length : Nat)
theorem lens_take (ps : List (List UInt8)) (k : Nat) (h : k < ps.length) : lens (ps.take (k + 1)) = lens (ps.take k) ++ [.int .i64 ((ps[k]?.getD []).length : Nat)] := by
  unfold lens
  rw [List.take_add_one, List.getElem?_eq_getElem h, List.map_append]
  rfl
theorem lens_length (ps : List (List UInt8)) : (lens ps).length = ps.length := by simp [lens]

/-- The iterator over lengths: the function value, its box, its row. -/
def GivesLens (w : World) (ps : List (List UInt8)) (e : Ending) (w' : World) : Prop :=
  ∃ g v, e = .returned (.func (.func 150) #[] #[.pointer (some ⟨g, 0, none⟩)]) ∧ w.heap.size ≤ g ∧ Blk w' g 137 #[v] ∧ w'.ownsRow w.heap.size 3 1 v ps.length (lens ps) ∧ Below w.heap.size w w'

set_option maxRecDepth 3000 in
set_option maxHeartbeats 1000000 in
theorem lengths_any (s e : Bool) (A : Option Addr) (n c : Nat) (vs : List Value) (ps : List (List UInt8)) (w : World) (h : Sls w w.heap.size A n c vs ps) (hn : n ≤ 1048576) :
    Calls Try.prog 93 #[.agg #[.bool s, .bool e, .slice A n c]] w (GivesLens w ps) := by
  obtain ⟨i0, hi, hz0, hz1, hz2⟩ := info_parts int_info
  have HL := Lib.hid h.len
  have hA := h.alloc (Nat.le_refl _) (.cells #[.bool s, .bool e, .slice A n c] 24)
  go_enter Try.func93, Try.ntmps93
  go_wp2
  go_loopw [9] (fun i wr => ∃ (k : Nat) (v : Value), k ≤ n ∧ i = .int .i64 k ∧ Blk wr w.heap.size 24 #[.bool s, .bool e, .slice A n c] ∧ Blk wr (w.heap.size + 1) 137 #[v] ∧ wr.ownsRow w.heap.size 3 1 v k (lens (ps.take k)) ∧ Below w.heap.size w wr) (fun i _ => n - (intOf i).toNat)
  case atStart => exact ⟨0, _, Nat.zero_le _, rfl, (Blk.new w _ _).alloc _, by simpa using Blk.new (w.alloc (.cells #[.bool s, .bool e, .slice A n c] 24)) 137 #[.slice none 0 0], World.ownsRow_nil _ _ _ _, ((Below.refl _ w).alloc (Nat.le_refl _) _).alloc (by simp) _⟩
  case round =>
    obtain ⟨k, v, hk, rfl, hb0, hb1, hown, hbw⟩ := hrel
    by_cases hlt : k < n
    · obtain ⟨ad, Ai, ci, rfl, hb, hc, hsl⟩ := (h.below hbw).get hlt
      have hs1 := lens_take ps k (by rw [HL.out]; exact hlt)
      have hl : (ps[k]?.getD []).length ≤ 9223372036854775807 := by have := hsl.cap; have := hsl.mx; omega
      generalize ps[k]?.getD [] = p at *
      generalize lens (List.take k ps) = L at *
      have HS1 := Lib.hid hs1
      clear hs1
      have c1 := hb1.cell 0
      have f1 := hb1.frozen 0
      simp at c1
      go_wp2_with (at_builtin; refine wpList_append_own _ rfl _ _ 137 rfl w.heap.size 3 i0 (.int .i64 0) 1 8 und137 hi hz0 hz1 hz2 rfl (by decide) _ _ _ rfl (hown.alloc _) ⟨wr.heap.size, 0, none⟩ 1 1 [.int .i64 (p.length : Nat)] rfl rfl ?c1 ?c2 ?c3 ?c4 ?c5 ?_)
      case c1 => exact cell_one_new _ _ _
      case c2 => simp [Value.oneCell']
      case c3 => unfold maxLen; omega
      case c4 => omega
      case c5 => have := hbw.size; simp; omega
      intro v' w2 hown' hgrow _
      have hne : v.ownBlock ≠ some (w.heap.size + 1) := own_blk_ne hown hb1 (by decide)
      have hne0 : v.ownBlock ≠ some w.heap.size := own_blk_ne hown hb0 (by decide)
      have hb1' := (hb1.alloc (.cells #[.int .i64 (p.length : Nat)] 3)).grown hgrow (fun e => hne e.symm)
      have hb0' := (hb0.alloc (.cells #[.int .i64 (p.length : Nat)] 3)).grown hgrow (fun e => hne0 e.symm)
      have hbw' := (hbw.alloc hbw.size (.cells #[.int .i64 (p.length : Nat)] 3)).grown hgrow (by have := hbw.size; simp; omega) (fun j hj => (hown.lt j hj).1)
      have c1' := hb1'.cell 0
      have f1' := hb1'.frozen 0
      simp at c1'
      obtain ⟨g', cap', rfl, hgl, hgl2⟩ := hown'.form (by omega)
      go_wp2
      go_roundw
      case rel =>
        refine ⟨k + 1, _, by omega, by go_num, hb0'.far (by simp) _, by simpa using hb1'.set_ 0 (.slice (some ⟨g', 0, none⟩) (k + 1) cap'), ?_, hbw'.setCell (p := ⟨w.heap.size + 1, 0, none⟩) (by simp) _⟩
        rw [HS1.out]
        exact hown'.kept (grownBy_setAt _ _ 0 _) (.inr (own_blk_ne hown' hb1' (by decide)))
      case measure => simp [intOf]; omega
    · have e : ps.take k = ps := List.take_of_length_le (by rw [HL.out]; omega)
      have hkn : k = ps.length := by rw [HL.out]; omega
      rw [e, hkn] at hown
      clear e hkn
      go_wp2
      go_ret
      exact ⟨_, _, rfl, by omega, hb1, hown, hbw⟩

/-- an index and a length that a machine bears -/
abbrev IL := { x : Nat × Nat // x.2 ≤ 1099511627776 }
/-- the first k pairs (index, length) -/
def ilen (ps : List (List UInt8)) (h : ∀ p ∈ ps, p.length ≤ 1099511627776) (k : Nat) : List IL :=
  (List.range k).map fun i => ⟨(i, (ps[i]?.getD []).length), by
    rcases Nat.lt_or_ge i ps.length with hi | hi
    · rw [List.getElem?_eq_getElem hi]; exact h _ (List.getElem_mem hi)
    · rw [List.getElem?_eq_none hi]; simp⟩
theorem ilen_succ (ps : List (List UInt8)) (h : ∀ p ∈ ps, p.length ≤ 1099511627776) (k : Nat) (x : IL) (hx : x.1 = (k, (ps[k]?.getD []).length)) : ilen ps h (k + 1) = ilen ps h k ++ [x] := by
  unfold ilen
  rw [List.range_succ, List.map_append]
  congr 1
  simp only [List.map_cons, List.map_nil, List.cons.injEq, and_true]
  exact Subtype.ext hx.symm
theorem ilen_length (ps : List (List UInt8)) (h : ∀ p ∈ ps, p.length ≤ 1099511627776) (k : Nat) : (ilen ps h k).length = k := by simp [ilen]

set_option maxRecDepth 100000 in
set_option maxHeartbeats 2000000 in
theorem lengths1_stops (n : Nat) (hn : 1 ≤ n) (g B : Nat) (v : Value) (ps : List (List UInt8)) (hle : ∀ p ∈ ps, p.length ≤ 1099511627776) (hlen : ps.length ≤ 1048576) (M : Nat → Obj → Prop) (w : World)
    (hg : Blk w g 137 #[v]) (hv : w.ownsRow B 3 1 v ps.length (lens ps)) (hMg : ¬ M g (.cells #[v] 137 (0, 0))) (hMv : ∀ k o, v.ownBlock = some k → ¬ M k o) :
    SeqStopsK Fence.wide n Try.prog 150 #[.pointer (some ⟨g, 0, none⟩)] (fun x : IL => #[Value.int .i64 (x.1.1 : Nat), .int .i64 (x.1.2 : Nat)]) (Kept M)
      (fun xs => xs = ilen ps hle ps.length) (fun pre => ∃ k, k ≤ ps.length ∧ pre = ilen ps hle k) ps.length w := fun l J Jx W hW _ _ hY h0 => by
  have hg' := hg.below hW hg.lt
  have hv' : W.ownsRow B 3 1 v ps.length (lens ps) := hv.kept (row := none) ⟨hW.os, hW.tape, hW.output, hW.size, fun k hk _ => hW.block k hk⟩ (by
    rcases hb : v.ownBlock with _ | k
    · exact .inl rfl
    · exact .inr (by simp))
  have hvk : ∀ wr, Kept M W wr → wr.ownsRow B 3 1 v ps.length (lens ps) := by
    intro wr hk
    rcases hv'.2 with ⟨rfl, h0⟩ | ⟨g', cap, cur, rfl, h1, h2, h3⟩
    · exact ⟨hv'.1, .inl ⟨rfl, h0⟩⟩
    · exact ⟨hv'.1, .inr ⟨g', cap, cur, rfl, h1, hk.same _ _ h2 (hMv _ _ rfl), h3⟩⟩
  have HVK := Lib.hid hvk
  clear hvk
  obtain ⟨A, c, rfl, hsl, _⟩ := own_sl hv'
  refine callsIn_of_wp Try.func150 rfl trivial ?_ rfl
  simp only [Try.ntmps150, List.size_toArray, List.length_cons, List.length_nil, Nat.reduceAdd, Nat.reduceSub, Array.replicate_succ, Array.replicate_zero, List.push_toArray, List.append_toArray, List.nil_append, List.cons_append]
  have hcw := hg'.cell 0
  simp at hcw
  refine wpInW_scope ?_
  gi_wp2
  refine wpIn_label ?_
  gi_wp2
  gi_loopw [7] (fun i wr => ∃ k : Nat, k ≤ ps.length ∧ i = .int .i64 k ∧ J (ilen ps hle k) wr ∧ Kept M W wr)
    (fun i _ => ps.length - (intOf i).toNat)
  case atStart => exact ⟨0, Nat.zero_le _, by simp, by simpa [ilen] using h0, Kept.refl _ _⟩
  case round =>
    obtain ⟨k, hk, rfl, hJs, hnx⟩ := hrel
    by_cases hlt : k < ps.length
    · obtain ⟨A', c', e', hs', _⟩ := own_sl (HVK.out wr hnx)
      injection e' with e1 e2 e3
      subst e1 e3
      obtain ⟨ad, u, rfl, _, hu, hcell⟩ := hs'.get hlt
      have hp : (ps[k]?.getD []).length ≤ 1099511627776 := by
        rw [List.getElem?_eq_getElem hlt]; exact hle _ (List.getElem_mem _)
      have hu' : u = .int .i64 ((ps[k]?.getD []).length : Nat) := by
        unfold lens at hu
        rw [List.getElem?_map, List.getElem?_eq_getElem hlt] at hu
        rw [List.getElem?_eq_getElem hlt]
        simpa using hu.symm
      have hsucc := ilen_succ ps hle k ⟨(k, (ps[k]?.getD []).length), hp⟩ rfl
      have hYk := hY _ ⟨(k, (ps[k]?.getD []).length), hp⟩ wr hJs (by rw [ilen_length]; exact hlt)
      rw [hu'] at hcell
      clear hu hu'
      have HSucc := Lib.hid hsucc
      clear hsucc
      generalize (ps[k]?.getD []).length = m at *
      obtain ⟨fn, tmps, assign, body, hy, hR⟩ := hYk
      dsimp only at hy
      gi_wp2
      refine hR.mono ?_
      rintro e W3 (⟨rfl, hJ3, hk3⟩ | ⟨rfl, hJx3⟩)
      · gi_wp2
        go_roundw
        case rel => exact ⟨k + 1, by omega, by go_num, by rw [HSucc.out]; exact hJ3, hnx.trans hk3⟩
        case measure => simp [intOf]; omega
      · gi_wp2
        rw [Exit.noGoto_normal]
        go_end0
        exact ⟨⟨_, rfl⟩, .inr ⟨_, ⟨k + 1, by omega, HSucc.out.symm⟩, hJx3⟩⟩
    · have e : k = ps.length := by omega
      have hJs' : J (ilen ps hle ps.length) wr := by rw [e] at hJs; exact hJs
      clear e hJs
      gi_wp2
      rw [Exit.noGoto_normal]
      go_end0
      exact ⟨⟨_, rfl⟩, .inl ⟨_, rfl, hJs'⟩⟩

def sumIL (l : List IL) : Nat := (l.map fun x => x.1.2).sum
theorem sumIL_snoc (l : List IL) (x : IL) : sumIL (l ++ [x]) = sumIL l + x.1.2 := by simp [sumIL]
theorem sumIL_le (l : List IL) : sumIL l ≤ 1099511627776 * l.length := by
  induction l with
  | nil => simp [sumIL]
  | cons x l ih =>
    have := x.2
    unfold sumIL at ih ⊢
    rw [List.map_cons, List.sum_cons, List.length_cons]
    omega
theorem sumIL_ilen (ps : List (List UInt8)) (h : ∀ p ∈ ps, p.length ≤ 1099511627776) (k : Nat) (hk : k ≤ ps.length) : sumIL (ilen ps h k) = sumLen (ps.take k) := by
  induction k with
  | zero => rfl
  | succ k ih =>
    have hp : (ps[k]?.getD []).length ≤ 1099511627776 := by
      rw [List.getElem?_eq_getElem (by omega)]; exact h _ (List.getElem_mem _)
    rw [ilen_succ ps h k ⟨_, hp⟩ rfl, sumIL_snoc, sumLen_take ps k (by omega), ih (by omega)]

theorem blk_own {β : Type} (g : Nat) (t : TypeId) (f : β → Array Value) : Own (fun s W => Blk W g t (f s)) := fun s X Y row hs hg hrow =>
  hs.grown hg (fun e' => by obtain ⟨o, ho, hc⟩ := hrow g e'.symm; rw [show X.heap[g]? = _ from hs] at ho; cases ho; cases hc)

set_option maxRecDepth 100000 in
set_option maxHeartbeats 2000000 in
theorem size_any (s e : Bool) (A : Option Addr) (n c : Nat) (vs : List Value) (ps : List (List UInt8)) (w : World) (h : Sls w w.heap.size A n c vs ps) (hn : n ≤ 1048576) (hle : ∀ p ∈ ps, p.length ≤ 1099511627776) :
    Calls Try.prog 28 #[.agg #[.bool s, .bool e, .slice A n c]] w fun e w' => e = .returned (.int .i64 (sumLen ps)) ∧ Below w.heap.size w w' := by
  refine (callsIn_wide (n := 5)).1 ?_
  have HL := Lib.hid h.len
  refine callsIn_of_wp_marks Try.func28 rfl trivial ?_ rfl
  simp only [Try.ntmps28, List.size_toArray, List.length_cons, List.length_nil, Nat.reduceAdd, Nat.reduceSub, Array.replicate_succ, Array.replicate_zero, List.push_toArray, List.append_toArray, List.nil_append, List.cons_append]
  have hA := (h.alloc (Nat.le_refl _) (.cells #[.bool s, .bool e, .slice A n c] 24)).alloc (by simp) (.cells #[.int .i64 0] 3)
  have hA := hA.more (B' := ((w.alloc (.cells #[.bool s, .bool e, .slice A n c] 24)).alloc (.cells #[.int .i64 0] 3)).heap.size) (by simp; omega)
  have HA := Lib.hid hA
  clear hA
  gi_wp2_with (refine ⟨trivial, ?_⟩; gi_at_call 93; refine ((callsIn_wide (n := 4)).2 (lengths_any s e A n c vs ps _ HA.out hn)).mono ?_; rintro e1 w1 ⟨g, v, rfl, hg, hbg, hv, hbw⟩)
  have hr0 : Blk ((w.alloc (.cells #[.bool s, .bool e, .slice A n c] 24)).alloc (.cells #[.int .i64 0] 3)) (w.heap.size + 1) 3 #[.int .i64 0] := by
    simpa using Blk.new (w.alloc (.cells #[.bool s, .bool e, .slice A n c] 24)) 3 #[.int .i64 0]
  have hr1 := hr0.below hbw hr0.lt
  have hgn : g ≠ w.heap.size + 1 := by simp at hg; omega
  have hvn : ∀ k, v.ownBlock = some k → k ≠ w.heap.size + 1 := fun k hk => by have := (hv.lt k hk).1; simp at this; omega
  have hB1 : Below w.heap.size w w1 := ((Below.refl _ w).alloc (Nat.le_refl _) _).alloc (by simp) _ |>.trans (hbw.mono (by simp; omega))
  have hsz : w.heap.size + 1 < w1.heap.size := hr1.lt
  refine wpIn_rangeFunc_ownG rfl (by omega) (gf := 150) (lb := #[.pointer (some ⟨g, 0, none⟩)]) rfl trivial (enters_of Try.func150 (by kernel_rfl) rfl)
    (lengths1_stops _ (by omega) g _ v ps hle (by rw [HL.out]; exact hn) (MB (fun k _ => k = w.heap.size + 1) w1.heap.size) w1 hbg hv (by rintro (e | ⟨_, e⟩); exact hgn e; cases e) (fun k o hk => by
      rintro (e | ⟨e, _⟩)
      · exact hvn k hk e
      · have := (hv.lt k hk).2; omega))
    Kept.trans (MB.b w1) (Below.refl _ _) (fun _ => rfl)
    (fun pre W => Blk W (w.heap.size + 1) 3 #[.int .i64 (sumIL pre)] ∧ Kept (MB (fun k _ => k = w.heap.size + 1) w1.heap.size) w1 W) (fun _ _ _ => False)
    (OwnFrom.and (Own.from (blk_own _ _ _) _) ownFrom_kept) (fun _ _ _ _ _ hs _ _ => hs)
    ⟨by simpa [sumIL] using hr1, Kept.refl _ _⟩
    (fun x => { tmps := #[.agg #[.bool s, .bool e, .slice A n c], .pointer (some ⟨w.heap.size, 0, none⟩), .pointer (some ⟨w.heap.size + 1, 0, none⟩), undef, .int .i64 (x.1.2 : Nat), .agg #[.bool s, .bool e, .slice A n c], .func (.func 150) #[] #[.pointer (some ⟨g, 0, none⟩)], .int .i64 (x.1.1 : Nat), .int .i64 (x.1.2 : Nat), undef, undef, undef, undef], defers := [] }) ?assign ?body ?done ?stop
  case assign =>
    intro l x W K hK
    gi_wp2
    exact hK
  case body =>
    rintro lp pre x W ⟨hbx, hKe⟩ hlen
    have hc := hbx.cell 0
    have hf := hbx.frozen 0
    simp at hc
    have hx := x.2
    have hsl := sumIL_le pre
    have hsn := sumIL_snoc pre x
    have HSN := Lib.hid hsn
    clear hsn
    generalize sumIL pre = S at *
    have hlen' : pre.length < 1048576 := by have := HL.out; omega
    obtain ⟨⟨xi, xl⟩, hxl⟩ := x
    dsimp only at *
    gi_wp2
    refine ⟨(KeepsOthers.setCell _ _ _).from _, (Kept.refl _ W).setCell (p := ⟨w.heap.size + 1, 0, none⟩) (fun _ _ => .inl rfl) _, ?_, hKe.setCell (p := ⟨w.heap.size + 1, 0, none⟩) (fun _ _ => .inl rfl) _⟩
    rw [HSN.out]
    simpa using hbx.set_ 0 (.int .i64 ((S : Int) + xl))
  case done =>
    rintro D ys W hD rfl ⟨hbx, hKe⟩ hK
    have hc := hbx.cell 0
    have hf := hbx.frozen 0
    simp at hc
    have hS := sumIL_ilen ps hle ps.length (Nat.le_refl _)
    rw [List.take_of_length_le (Nat.le_refl _)] at hS
    rw [hS] at hc hbx
    clear hS
    generalize hSS : sumLen ps = S at *
    have HSS := Lib.hid hSS
    clear hSS
    have hK2 := (KeepsOthers.setCell W ⟨w.heap.size + 1, 0, none⟩ (.int .i64 S)).same D _ hK rfl
    gi_wp2
    refine ⟨by simp, .inl ⟨_, _, rfl, run_takeDeferred hK2, ?_⟩⟩
    have hKe2 := (hKe.setCell (p := ⟨w.heap.size + 1, 0, none⟩) (fun _ _ => .inl rfl) (.int .i64 S)).taken (.deferred none) hD hK2 rfl
    have hbx2 := (hbx.set_ 0 (.int .i64 S)).grown (grownBy_putObj' _ D (.deferred none)) (by simp; omega)
    have hc2 := hbx2.cell 0
    simp at hc2
    refine ⟨.int .i64 S, by simp [results, Try.results28, go_sem, hc2], ret_int (by rw [HSS.out]), hB1.trans (hKe2.drop.below (fun k o e => by omega) (by omega))⟩
  case stop =>
    rintro D c pre W _ _ h _
    exact h.elim
end Go.Proofs.Ytchlbpfeiamieaa
