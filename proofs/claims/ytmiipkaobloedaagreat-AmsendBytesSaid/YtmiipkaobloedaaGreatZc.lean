/- Rows of ranges: append, Clone, Grow, Concat. amsend: chunk: its memory; ampdu.Header. amsend: chunk. amsend: finish. amsend: again. amsend: a new PDU is appended to the outstanding ones. -/
import Derived.Test.YtmiipkaobloedaaGreatYV5
import Derived.Test.YtmiipkaobloedaaGreatYV6
import Derived.Test.YtmiipkaobloedaaGreatYWa
import Derived.Test.YtmiipkaobloedaaGreatZa
import Derived.Test.YtmiipkaobloedaaGreatZb
import Derived.Test.YtmiipkaobloedaaGreatZj
import Derived.Lib.AppendZeros
import Derived.Deep.RegionLaw
import Derived.Deep.DeepCutAuto
import Derived.Deep.CutBlock
namespace Go.Proofs.YtmiipkaobloedaaGreat
open Go.RowKit
attribute [local go_sem] Oper.semAt_some

/-- the cells of ranges -/
def spC (l : List (Nat × Nat)) : List Value := l.flatMap (fun r => [.int .i64 (r.1 : Nat), .int .i64 (r.2 : Nat)])
theorem spC_length (l : List (Nat × Nat)) : (spC l).length = l.length * 2 := by
  induction l with
  | nil => rfl
  | cons r t ih =>
    simp only [spC, List.flatMap_cons, List.length_append, List.length_cons, List.length_nil] at ih ⊢
    omega
theorem spC_cons (r : Nat × Nat) (t : List (Nat × Nat)) : spC (r :: t) = .int .i64 (r.1 : Nat) :: .int .i64 (r.2 : Nat) :: spC t := by simp [spC]
theorem spC_app (a b : List (Nat × Nat)) : spC (a ++ b) = spC a ++ spC b := by simp [spC]
theorem spC_get : ∀ (l : List (Nat × Nat)) (j : Nat) (r : Nat × Nat), l[j]? = some r → (spC l)[j * 2]? = some (.int .i64 (r.1 : Nat)) ∧ (spC l)[j * 2 + 1]? = some (.int .i64 (r.2 : Nat))
  | [], j, r, h => by simp at h
  | x :: t, 0, r, h => by
    simp at h
    subst h
    rw [spC_cons]
    exact ⟨rfl, rfl⟩
  | x :: t, j + 1, r, h => by
    have ih := spC_get t j r (by simpa using h)
    rw [spC_cons]
    rw [show (j + 1) * 2 = j * 2 + 1 + 1 by omega]
    exact ih
theorem spC_one (l : List (Nat × Nat)) : ∀ u ∈ spC l, u.oneCell' = true := by
  intro u hu
  simp only [spC, List.mem_flatMap, List.mem_cons, List.not_mem_nil, or_false] at hu
  obtain ⟨r, _, rfl | rfl⟩ := hu <;> rfl
section
variable {w w' : World} {A : Option Addr} {n c : Nat} {l : List (Nat × Nat)}
theorem SpAt.cells {ad : Addr} (h : SpAt w (some ad) n c l) : ∀ j u, (spC l)[j]? = some u → w.cell? (ad.add j) = some u := by
  intro j u hu
  have hj := (List.getElem?_eq_some_iff.1 hu).1
  rw [spC_length] at hj
  have hn := h.len
  obtain ⟨ad', e, hb, hc⟩ := h.at_ (by omega)
  cases e
  obtain ⟨r, hr⟩ : ∃ r, l[j / 2]? = some r := ⟨_, List.getElem?_eq_getElem (by omega)⟩
  obtain ⟨g1, g2⟩ := spC_get l _ r hr
  obtain ⟨k1, k2⟩ := hc _ r hr
  rcases Nat.mod_two_eq_zero_or_one j with hm | hm
  · have e2 : j / 2 * 2 = j := by omega
    rw [e2] at g1 k1
    rw [g1] at hu
    cases hu
    exact k1
  · have e2 : j / 2 * 2 + 1 = j := by omega
    rw [e2] at g2 k2
    rw [g2] at hu
    cases hu
    exact k2
theorem SpAt.of_own {base : Nat} {v : Value} (h : w.ownsRow base 93 2 v l.length (spC l)) :
    ∃ A c, v = .slice A l.length c ∧ SpAt w A l.length c l ∧ (∀ ad, A = some ad → base ≤ ad.block ∧ ad.block < w.heap.size) := by
  rcases h.2 with ⟨rfl, hn⟩ | ⟨g, cap, cur, rfl, hb, hg, hnc, hcm, hcs, ht⟩
  · have := List.eq_nil_of_length_eq_zero hn
    subst this
    exact ⟨none, 0, rfl, SpAt.nil w, fun ad e => by cases e⟩
  · refine ⟨_, _, rfl, ⟨rfl, hnc, by unfold maxLen at hcm; omega, fun _ => ⟨_, rfl, lt_of_heap hg, fun j r hr => ?_⟩⟩, fun ad e => by cases e; exact ⟨hb, lt_of_heap hg⟩⟩
    have hc := fun j u (hu : (spC l)[j]? = some u) => h.cells (g := g) rfl j u hu
    obtain ⟨g1, g2⟩ := spC_get l j r hr
    exact ⟨hc _ _ g1, hc _ _ g2⟩
theorem SpAt.tail {ad : Addr} {r : Nat × Nat} (h : SpAt w (some ad) (n + 1) c (r :: l)) : SpAt w (some (if c = 1 then ad else ad.add 2)) n (c - 1) l := by
  have hl := h.len
  have hc := h.cap
  have hm := h.mx
  simp at hl
  refine ⟨hl, by omega, by omega, fun hn => ?_⟩
  obtain ⟨ad', e, hb, hcl⟩ := h.at_ (by omega)
  cases e
  rw [if_neg (by omega)]
  refine ⟨_, rfl, by rw [block_add]; exact hb, fun j q hq => ?_⟩
  have := hcl (j + 1) q (by simpa using hq)
  rw [add_add, add_add, show 2 + j * 2 = (j + 1) * 2 by omega, show 2 + (j * 2 + 1) = (j + 1) * 2 + 1 by omega]
  exact this
theorem SpAt.below (h : SpAt w A n c l) (hb : Below w.heap.size w w') : SpAt w' A n c l := by
  rcases Nat.eq_zero_or_pos n with h0 | h0
  · exact ⟨h.len, h.cap, h.mx, fun hn => by omega⟩
  · obtain ⟨ad, e, hlt, hc⟩ := h.at_ h0
    exact h.stay fun ad' e' => hb.block _ (by rw [e] at e'; cases e'; exact hlt)
theorem SpAt.alloc (h : SpAt w A n c l) (o : Obj) : SpAt (w.alloc o) A n c l := h.below ((Below.refl _ w).alloc (Nat.le_refl _) o)
end
theorem sp_info : (Tryz.prog.info? 93).map (fun i => (i.zero, i.size, i.bytes)) = some (some (.agg #[.int .i64 0, .int .i64 0]), 2, 16) := by kernel_rfl
theorem sp_parts : ∃ i, Tryz.prog.info? 93 = some i ∧ i.zero = some (.agg #[.int .i64 0, .int .i64 0]) ∧ i.size = 2 ∧ i.bytes = 16 := by
  have h := sp_info
  cases hi : Tryz.prog.info? 93 with
  | none => rw [hi] at h; cases h
  | some i =>
    rw [hi] at h
    simp only [Option.map_some, Option.some.injEq, Prod.mk.injEq] at h
    exact ⟨i, rfl, h.1, h.2.1, h.2.2⟩
theorem sp_und : Tryz.prog.underlying 80 = some (.slice 93) := by kernel_rfl
section
variable {P : Program} (w : World)
/-- append of ranges -/
theorem run_append_sp (base : Nat) (t ty e : TypeId) (i : TypeInfo) (z : Value) (bytes : Nat) (ht : P.underlying t = some (.slice e)) (hi : P.info? e = some i) (hz : i.zero = some z)
    (hsize : i.size = 2) (hby : i.bytes = bytes) (hzs : z.cells.size = 2)
    (v : Value) (n : Nat) (xs : List Value) (hown : w.ownsRow base e 2 v n xs)
    (A : Option Addr) (m c : Nat) (l : List (Nat × Nat)) (hr : SpAt w A m c l)
    (h63 : n + m ≤ maxLen) (hbytes : (n + m) * bytes ≤ 140737488355328) (hbase : base ≤ w.heap.size) :
    ∃ v' w', (Builtin.append_ #[t, t] ty #[v, .slice A m c]).run P w = .ok v' w' ∧ w'.ownsRow base e 2 v' (n + m) (xs ++ spC l) ∧ w.grownBy w' v.ownBlock ∧
      (v'.ownBlock = v.ownBlock ∨ v'.ownBlock = some w.heap.size) := by
  rcases A with _ | ad
  · have hm : m = 0 := by
      rcases Nat.eq_zero_or_pos m with h0 | h0
      · exact h0
      · obtain ⟨ad, h, _⟩ := hr.at_ h0
        cases h
    subst hm
    have hn : l = [] := List.eq_nil_of_length_eq_zero hr.len
    subst hn
    exact ⟨v, w, run_append_of_nil w base t ty e i 2 ht hi v n xs hown c, by simpa [spC] using hown, World.grownBy.refl w _, .inl rfl⟩
  · obtain ⟨v', w', hrun, h2, h3, _, h5⟩ := run_append_own_at (P := P) w base t ty e i z 2 bytes ht hi hz hsize hby hzs (by omega) v n xs hown ad m c (spC l) (by rw [spC_length, hr.len]) hr.cells (spC_one l) h63 hbytes hbase
    exact ⟨v', w', hrun, h2, h3, h5⟩
theorem wp_append_sp {o : Oper} {a : Act} {K : Act → World → Prop} {Q : Exit → Act → World → Prop} (s x : Operand) (t : TypeId)
    (ho : o.op = .call { callee := .builtin .append, args := #[s, x], argTypes := #[t, t] })
    (base : Nat) (e : TypeId) (i : TypeInfo) (z : Value) (bytes : Nat) (ht : P.underlying t = some (.slice e)) (hi : P.info? e = some i) (hz : i.zero = some z)
    (hsize : i.size = 2) (hby : i.bytes = bytes) (hzs : z.cells.size = 2)
    (v : Value) (n : Nat) (xs : List Value) (hs : a.eval s = v) (hown : w.ownsRow base e 2 v n xs)
    (A : Option Addr) (m c : Nat) (l : List (Nat × Nat)) (hx : a.eval x = .slice A m c) (hr : SpAt w A m c l)
    (h63 : n + m ≤ maxLen) (hbytes : (n + m) * bytes ≤ 140737488355328) (hbase : base ≤ w.heap.size)
    (h : ∀ v' w', w'.ownsRow base e 2 v' (n + m) (xs ++ spC l) → w.grownBy w' v.ownBlock → (v'.ownBlock = v.ownBlock ∨ v'.ownBlock = some w.heap.size) → K (a.put o.dst v') w') : o.wp P a w K Q := by
  obtain ⟨v', w', hrun, h2, h3, h4⟩ := run_append_sp (P := P) w base t o.type e i z bytes ht hi hz hsize hby hzs v n xs hown A m c l hr h63 hbytes hbase
  unfold Oper.wp execOp
  simp only [ho, resolve, invoke, builtin, Sem.run_bind, Sem.run_pure, Result.andThen_ok, List.map_toArray, List.map_cons, List.map_nil, hs, hx, hrun]
  exact h v' w' h2 h3 h4
theorem wpList_append_sp {ops : Array Oper} {rest : List Oper} {o : Oper} {a : Act} {Q : Exit → Act → World → Prop} (hgd : o.guard = none) (s x : Operand) (t : TypeId)
    (ho : o.op = .call { callee := .builtin .append, args := #[s, x], argTypes := #[t, t] })
    (base : Nat) (e : TypeId) (i : TypeInfo) (z : Value) (bytes : Nat) (ht : P.underlying t = some (.slice e)) (hi : P.info? e = some i) (hz : i.zero = some z)
    (hsize : i.size = 2) (hby : i.bytes = bytes) (hzs : z.cells.size = 2)
    (v : Value) (n : Nat) (xs : List Value) (hs : a.eval s = v) (hown : w.ownsRow base e 2 v n xs)
    (A : Option Addr) (m c : Nat) (l : List (Nat × Nat)) (hx : a.eval x = .slice A m c) (hr : SpAt w A m c l)
    (h63 : n + m ≤ maxLen) (hbytes : (n + m) * bytes ≤ 140737488355328) (hbase : base ≤ w.heap.size)
    (h : ∀ v' w', w'.ownsRow base e 2 v' (n + m) (xs ++ spC l) → w.grownBy w' v.ownBlock → (v'.ownBlock = v.ownBlock ∨ v'.ownBlock = some w.heap.size) → wpList P ops Q rest (a.put o.dst v') w') : wpList P ops Q (o :: rest) a w :=
  wpList_plain hgd fun _ hK => wp_append_sp w s x t ho base e i z bytes ht hi hz hsize hby hzs v n xs hs hown A m c l hx hr h63 hbytes hbase fun v' w' h2 h3 h4 => hK _ _ (h v' w' h2 h3 h4)
end
/-- a call hands back ranges in a row of its own -/
def GivesSp (w : World) (l : List (Nat × Nat)) (e : Ending) (w' : World) : Prop :=
  ∃ v, e = .returned v ∧ w'.ownsRow w.heap.size 93 2 v l.length (spC l) ∧ Below w.heap.size w w'
set_option maxRecDepth 3000 in
set_option maxHeartbeats 400000 in
theorem cloneSp_any (A : Option Addr) (n c : Nat) (l : List (Nat × Nat)) (w : World) (h : SpAt w A n c l) (hsm : n ≤ 1000000) :
    Calls Tryz.prog 48 #[.slice A n c] w (GivesSp w l) := by
  have hnil := fun (W : World) => Lib.run_eql_slice_nil (P := Tryz.prog) W 80 93 A n c 0 0 sp_und
  obtain ⟨i0, hi, hz0, hz1, hz2⟩ := sp_parts
  have hl := h.len
  subst hl
  have hs1 := h.alloc (.cells #[] 93)
  rcases A with _ | ad
  · have hl : l = [] := by
      rcases Nat.eq_zero_or_pos l.length with h0 | h0
      · exact List.eq_nil_of_length_eq_zero h0
      · obtain ⟨_, e, _⟩ := h.at_ h0; cases e
    subst hl
    simp only [List.length_nil] at hnil ⊢
    clear hs1 h
    go_enter Tryz.func48, Tryz.ntmps48
    go_wp2
    go_ret
    exact ⟨_, rfl, World.ownsRow_nil _ _ _ _, Below.refl _ _⟩
  · go_enter Tryz.func48, Tryz.ntmps48
    go_wp2_with (at_builtin; refine wpList_append_sp _ rfl _ _ 80 rfl w.heap.size 93 i0 (.agg #[.int .i64 0, .int .i64 0]) 16 sp_und hi hz0 hz1 hz2 rfl (.slice (some ⟨w.heap.size, 0, none⟩) 0 0) 0 [] rfl ?c0 (some ad) l.length c l rfl hs1 ?c3 ?c4 ?c5 ?_)
    case c0 => exact World.ownsRow_lit w #[] 0 (Nat.le_refl _) (by unfold maxLen; omega) rfl
    case c3 => unfold maxLen; omega
    case c4 => omega
    case c5 => simp
    intro v' w1 hown' hgrow _
    go_wp2
    go_ret
    exact ⟨_, rfl, by simpa using hown', ((Below.refl _ w).alloc (Nat.le_refl _) _).grown hgrow (by simp) (by simp [Value.ownBlock])⟩
set_option maxRecDepth 3000 in
set_option maxHeartbeats 400000 in
theorem growSp_nil (n : Nat) (w : World) (hsm : n ≤ 1000000) : Calls Tryz.prog 88 #[.slice none 0 0, .int .i64 n] w (GivesSp w []) := by
  obtain ⟨i0, hi, hz0, hz1, hz2⟩ := sp_parts
  rcases Nat.eq_zero_or_pos n with rfl | hpos
  · go_enter Tryz.func88, Tryz.ntmps88
    go_wp2
    go_ret
    exact ⟨_, rfl, World.ownsRow_nil _ _ _ _, Below.refl _ _⟩
  · have hr := Lib.run_append_nil_zeros (P := Tryz.prog) w 80 3 80 93 i0 (.agg #[.int .i64 0, .int .i64 0]) .i64 .i64 sp_und (by kernel_rfl) hi hz0 n hpos (by omega) (by omega) (by rw [hz2]; omega)
    have hcap := grownCap_ge w n 0 93
    have hmx := grownCap_le_maxLen w n 0 93 (by unfold maxLen; omega)
    unfold maxLen at hmx
    generalize grownCap w n 0 93 = cap at *
    have HR := Lib.hid hr
    clear hr
    go_enter Tryz.func88, Tryz.ntmps88
    go_wp2_with (at_builtin; refine Lib.wpList_append_run _ rfl _ _ 80 3 rfl (.slice none 0 0) (.int .i64 n) rfl rfl _ _ HR.out ?_)
    go_ret
    refine ⟨_, rfl, ⟨rfl, .inr ⟨w.heap.size, cap, _, rfl, Nat.le_refl _, heap_alloc_new w _, Nat.zero_le _, by unfold maxLen; omega, ?_, rfl⟩⟩, ((Below.refl _ w).alloc (Nat.le_refl _) _).drew⟩
    rw [Array.size_append, size_zeroCells, size_zeroCells]
    simp
    omega
/-- two rows of ranges, as a slice of slices -/
structure TwoSp (w : World) (b : Nat) (A1 A2 : Option Addr) (n1 c1 n2 c2 : Nat) (l1 l2 : List (Nat × Nat)) : Prop where
  b : Blk w b 80 #[.slice A1 n1 c1, .slice A2 n2 c2]
  s1 : SpAt w A1 n1 c1 l1
  s2 : SpAt w A2 n2 c2 l2
theorem TwoSp.below {w w' : World} {b : Nat} {A1 A2 : Option Addr} {n1 c1 n2 c2 : Nat} {l1 l2 : List (Nat × Nat)} (h : TwoSp w b A1 A2 n1 c1 n2 c2 l1 l2) (hb : Below w.heap.size w w') : TwoSp w' b A1 A2 n1 c1 n2 c2 l1 l2 :=
  ⟨h.b.below hb h.b.lt, h.s1.below hb, h.s2.below hb⟩
/-- the first k of two rows, joined -/
def twoTo (l1 l2 : List (Nat × Nat)) : Nat → List (Nat × Nat)
  | 0 => []
  | 1 => l1
  | _ => l1 ++ l2
set_option maxRecDepth 3000 in
set_option maxHeartbeats 1000000 in
theorem concatSp_any (b : Nat) (A1 A2 : Option Addr) (n1 c1 n2 c2 : Nat) (l1 l2 : List (Nat × Nat)) (w : World) (h : TwoSp w b A1 A2 n1 c1 n2 c2 l1 l2) (h1 : n1 ≤ 100000) (h2 : n2 ≤ 100000) :
    Calls Tryz.prog 61 #[.slice (some ⟨b, 0, none⟩) 2 2] w (GivesSp w (l1 ++ l2)) := by
  obtain ⟨i0, hi, hz0, hz1, hz2⟩ := sp_parts
  have q1 := h.s1.cap
  have q2 := h.s1.mx
  have q3 := h.s2.cap
  have q4 := h.s2.mx
  have hl1 := Lib.hid h.s1.len
  have hl2 := Lib.hid h.s2.len
  have e1 := h.b.cell 0
  have e2 := h.b.cell 1
  simp at e1 e2
  have HH := Lib.hid h
  clear h
  go_enter Tryz.func61, Tryz.ntmps61
  go_wp2
  go_loop [3, 11] (fun t i => (i = .int .i64 0 ∧ t = .int .i64 0) ∨ (i = .int .i64 1 ∧ t = .int .i64 (n1 : Nat)) ∨ (i = .int .i64 2 ∧ t = .int .i64 (n1 + n2 : Nat))) (fun _ i => 2 - (intOf i).toNat)
  case atStart => exact .inl ⟨rfl, rfl⟩
  case round =>
    rcases hrel with ⟨rfl, rfl⟩ | ⟨rfl, rfl⟩ | ⟨rfl, rfl⟩
    · go_wp2
      go_round
      case rel => exact .inr (.inl ⟨rfl, rfl⟩)
      case measure => simp [intOf]
    · go_wp2
      go_round
      case rel => exact .inr (.inr ⟨rfl, by go_num⟩)
      case measure => simp [intOf]
    · have hgr := growSp_nil (n1 + n2) w (by omega)
      have HGR := Lib.hid hgr
      clear hgr
      go_wp2_with fail
      refine HGR.out.mono ?_
      rintro e w1 ⟨v1, rfl, hv1, hb1⟩
      go_wp2
      go_loopw [6, 27] (fun v i wr => ∃ k : Nat, k ≤ 2 ∧ i = .int .i64 k ∧ wr.ownsRow w.heap.size 93 2 v (twoTo l1 l2 k).length (spC (twoTo l1 l2 k)) ∧ Below w.heap.size w wr) (fun _ i _ => 2 - (intOf i).toNat)
      case atStart => exact ⟨0, by decide, rfl, hv1, hb1⟩
      case round =>
        clear hv1 hb1
        obtain ⟨k, hk, rfl, hown, hbw⟩ := hrel
        have hT := HH.out.below hbw
        have hl1' := hl1.out
        have hl2' := hl2.out
        have f1 := hT.b.cell 0
        have f2 := hT.b.cell 1
        simp at f1 f2
        obtain rfl | rfl | rfl : k = 0 ∨ k = 1 ∨ k = 2 := by omega
        · go_wp2_with (at_builtin; refine wpList_append_sp _ rfl _ _ 80 rfl w.heap.size 93 i0 (.agg #[.int .i64 0, .int .i64 0]) 16 sp_und hi hz0 hz1 hz2 rfl _ 0 [] rfl hown A1 n1 c1 l1 rfl hT.s1 ?c3 ?c4 ?c5 ?_)
          case c3 => unfold maxLen; omega
          case c4 => omega
          case c5 => exact hbw.size
          intro v' w2 hown' hgrow _
          go_wp2
          go_roundw
          case rel => exact ⟨1, by decide, by go_num, by simpa [twoTo, hl1'] using hown', hbw.grown hgrow hbw.size (fun j hj => (hown.lt j hj).1)⟩
          case measure => simp [intOf]
        · rw [show twoTo l1 l2 1 = l1 from rfl, hl1'] at hown
          go_wp2_with (at_builtin; refine wpList_append_sp _ rfl _ _ 80 rfl w.heap.size 93 i0 (.agg #[.int .i64 0, .int .i64 0]) 16 sp_und hi hz0 hz1 hz2 rfl _ n1 (spC l1) rfl hown A2 n2 c2 l2 rfl hT.s2 ?c3 ?c4 ?c5 ?_)
          case c3 => unfold maxLen; omega
          case c4 => omega
          case c5 => exact hbw.size
          intro v' w2 hown' hgrow _
          go_wp2
          go_roundw
          case rel => exact ⟨2, by decide, by go_num, by rw [show twoTo l1 l2 2 = l1 ++ l2 from rfl, List.length_append, hl1', hl2', spC_app]; exact hown', hbw.grown hgrow hbw.size (fun j hj => (hown.lt j hj).1)⟩
          case measure => simp [intOf]
        · rw [show twoTo l1 l2 2 = l1 ++ l2 from rfl] at hown
          clear hl1' hl2'
          go_wp2
          go_ret
          exact ⟨_, rfl, hown, hbw⟩
end Go.Proofs.YtmiipkaobloedaaGreat
namespace Go.Proofs.YtmiipkaobloedaaGreat
open Go.RowKit Go.Shelf
attribute [local go_sem] Oper.semAt_some

theorem hdrG_bd (n : Int) : 0 ≤ hdrN n ∧ hdrN n ≤ 97 := by unfold hdrN; split <;> omega
/-- the number of header bytes -/
def hdrG (n : Int) (sg : Bool) : Int := if 0 < hdrN n ∧ sg = true then hdrN n + 2 else hdrN n
set_option maxHeartbeats 400000 in
theorem headerG_any (n : Int) (sg : Bool) (w : World) (h : -9223372036854775808 ≤ n ∧ n ≤ 9223372036854775807) :
    Calls Tryz.prog 59 #[.int .i64 n, .bool sg] w fun e w' => e = .returned (.int .i64 (hdrG n sg)) ∧ w = w' := by
  have hh := header_any n w h
  have hbd := hdrG_bd n
  have hfin : hdrG n sg = if 0 < hdrN n ∧ sg = true then hdrN n + 2 else hdrN n := rfl
  generalize hdrG n sg = R at *
  generalize hdrN n = r at *
  have HH := Lib.hid hh
  have HF := Lib.hid hfin
  clear hh hfin
  cases sg
  all_goals
    by_cases h0 : 0 < r
    all_goals
      go_enter Tryz.func59, Tryz.ntmps59
      go_wp2_with (go_at_call 86; refine HH.out.mono ?_; rintro e1 w1 ⟨rfl, rfl⟩)
      go_ret
      exact ⟨ret_int (by rw [HF.out]; (try simp [h0]); (try omega)), rfl⟩
theorem hdrG_false (n : Int) : hdrG n false = hdrN n := by simp [hdrG]
theorem hdrG_true (n : Int) (h1 : 1 ≤ n) (h2 : n ≤ 64) : hdrG n true = hdrN n + 2 := by
  have : 0 < hdrN n := by unfold hdrN; split <;> omega
  simp [hdrG, this]
theorem sl_newG (W : World) (x : Value) (t : TypeId) : Sl (W.alloc (.cells #[x] t)) (W.alloc (.cells #[x] t)).heap.size (some ⟨W.heap.size, 0, none⟩) 1 1 [x] := ⟨(sl_new1 W x t).len, (sl_new1 W x t).cap, (sl_new1 W x t).mx, (sl_new1 W x t).at_⟩
/-- chunk's memory -/
structure ChAt (w : World) (sB e : Bool) (Ap : Option Addr) (cp : Nat) (qs : List (List UInt8)) (wr : World) : Prop where
  blk : Blk wr w.heap.size 59 #[.bool sB, .bool e, .slice Ap qs.length cp]
  parts : PartsOwn wr w.heap.size (.slice Ap qs.length cp) qs
  below : Below w.heap.size w wr
section
variable {w wr : World} {sB e : Bool} {Ap : Option Addr} {cp : Nat} {qs : List (List UInt8)}
theorem ChAt.drewN (h : ChAt w sB e Ap cp qs wr) (k : Nat) : ChAt w sB e Ap cp qs (wr.drewN k) :=
  ⟨h.blk.drewN k, h.parts, h.below.drewN k⟩
theorem ChAt.new (w : World) : ChAt w false false none 0 [] (w.alloc (.cells #[.bool false, .bool false, .slice none 0 0] 59)) :=
  ⟨Blk.new _ _ _, ⟨[], World.ownsRow_nil _ _ _ _, fun i p hi => by simp at hi⟩, (Below.refl _ w).alloc (Nat.le_refl _) _⟩
theorem ChAt.set0 (h : ChAt w sB e Ap cp qs wr) (b : Bool) : ChAt w b e Ap cp qs (wr.setCell ⟨w.heap.size, 0, none⟩ (.bool b)) :=
  ⟨by simpa using h.blk.set_ 0 (.bool b), h.parts.store h.blk (by decide) (by decide) _, h.below.setCell (p := ⟨w.heap.size, 0, none⟩) (Nat.le_refl _) _⟩
theorem ChAt.set1 (h : ChAt w sB e Ap cp qs wr) (b : Bool) : ChAt w sB b Ap cp qs (wr.setCell ⟨w.heap.size, 1, none⟩ (.bool b)) :=
  ⟨by simpa using h.blk.set_ 1 (.bool b), h.parts.store h.blk (by decide) (by decide) _, h.below.setCell (p := ⟨w.heap.size, 1, none⟩) (Nat.le_refl _) _⟩
theorem ChAt.set2 (h : ChAt w sB e Ap cp qs wr) : ChAt w sB e Ap cp qs (wr.setCell ⟨w.heap.size, 2, none⟩ (.slice Ap qs.length cp)) :=
  ⟨by simpa using h.blk.set_ 2 (.slice Ap qs.length cp), h.parts.store h.blk (by decide) (by decide) _, h.below.setCell (p := ⟨w.heap.size, 2, none⟩) (Nat.le_refl _) _⟩
/-- a part is appended -/
theorem ChAt.push (h : ChAt w sB e Ap cp qs wr) {w1 w5 : World} {A1 A5 : Option Addr} {c1 c5 L : Nat} {vsx : List Value} {pp : List UInt8} (hpl : pp.length = L)
    (hvo : wr.ownsRow w.heap.size 31 1 (.slice Ap qs.length cp) qs.length vsx)
    (hpx : ∀ (i : Nat) (p : List UInt8), qs[i]? = some p → ∃ A c, vsx[i]? = some (.slice A p.length c) ∧ wr.ownsRow w.heap.size 5 1 (.slice A p.length c) p.length (bvs p))
    (hb1 : Below wr.heap.size wr w1) (hv1 : w1.ownsRow wr.heap.size 5 1 (.slice A1 L c1) L (bvs pp))
    (hown5 : w5.ownsRow w.heap.size 31 1 (.slice A5 (qs.length + 1) c5) (qs.length + 1) (vsx ++ [.slice A1 L c1]))
    (hgrow5 : (w1.alloc (.cells #[.slice A1 L c1] 31)).grownBy w5 (Value.slice Ap qs.length cp).ownBlock) :
    ChAt w sB e A5 c5 (qs ++ [pp]) (w5.setCell ⟨w.heap.size, 2, none⟩ (.slice A5 (qs.length + 1) c5)) := by
  have hz := h.below.size
  have hvo1 := (own_below hvo hb1 (Nat.le_refl _)).alloc (.cells #[.slice A1 L c1] 31)
  have b5 := ((h.blk.below hb1 h.blk.lt).alloc (.cells #[.slice A1 L c1] 31)).grown hgrow5 (fun e => own_blk_ne hvo h.blk (by decide) e.symm)
  have hl : (qs ++ [pp]).length = qs.length + 1 := by simp
  have hB5 : Below w.heap.size w w5 := ((h.below.trans (hb1.mono hz)).alloc (by have := hb1.size; omega) _).grown hgrow5 (by have := hb1.size; simp; omega) (fun j hj => (hvo.lt j hj).1)
  have own5 : ∀ {A : Option Addr} {c : Nat} {p : List UInt8} {base : Nat}, w1.ownsRow base 5 1 (.slice A p.length c) p.length (bvs p) → (w5.setCell ⟨w.heap.size, 2, none⟩ (.slice A5 (qs.length + 1) c5)).ownsRow base 5 1 (.slice A p.length c) p.length (bvs p) := fun {A c p base} h5 => by
    have h6 := (h5.alloc (.cells #[.slice A1 L c1] 31)).kept hgrow5 (by
      rcases hq : (Value.slice A p.length c).ownBlock with _ | j
      · exact .inl rfl
      · refine .inr (fun e => ?_)
        obtain ⟨o1, ho1, ⟨cs1, fr1, rfl⟩, _⟩ := own_isRow h5 hq
        obtain ⟨o2, ho2, ⟨cs2, fr2, rfl⟩, _⟩ := own_isRow (own_below hvo hb1 (Nat.le_refl _)) e.symm
        rw [ho1] at ho2
        cases ho2)
    exact own_store (i := 2) h6 b5 (by decide) _
  refine ⟨by rw [hl]; simpa using b5.set_ 2 (.slice A5 (qs.length + 1) c5), ⟨vsx ++ [.slice A1 L c1], by rw [hl]; exact own_store (i := 2) hown5 b5 (by decide) _, fun i p hi => ?_⟩, hB5.setCell (p := ⟨w.heap.size, 2, none⟩) (Nat.le_refl _) _⟩
  have hvl : vsx.length = qs.length := (own_sl' hvo).len
  by_cases hi2 : i < qs.length
  · rw [List.getElem?_append_left hi2] at hi
    obtain ⟨A, c, e1, h5⟩ := hpx i p hi
    exact ⟨A, c, by rw [List.getElem?_append_left (by omega)]; exact e1, own5 (own_below h5 hb1 (Nat.le_refl _))⟩
  · rw [List.getElem?_append_right (by omega)] at hi
    have hi0 : i = qs.length := by
      have := (List.getElem?_eq_some_iff.1 hi).1
      simp at this
      omega
    subst hi0
    simp at hi
    subst hi
    subst hpl
    refine ⟨A1, c1, ?_, own5 (own_base hv1 hz)⟩
    rw [List.getElem?_append_right (by omega), hvl]
    simp
end
/-- the length of the last part -/
def lastO (qs : List (List UInt8)) : Nat := (qs.getLast?.getD []).length
theorem lastO_snoc (qs : List (List UInt8)) (q : List UInt8) : lastO (qs ++ [q]) = q.length := by simp [lastO]
theorem lastO_at {qs : List (List UInt8)} {q : List UInt8} (h : qs[qs.length - 1]? = some q) : lastO qs = q.length := by
  unfold lastO
  rw [List.getLast?_eq_getElem?, h]
  rfl
theorem skipTo_zero : ∀ (l : List (List UInt8)), (∀ s ∈ l, 1 ≤ s.length) → skipTo l 0 = (l, 0)
  | [], _ => rfl
  | x :: r, h => by
    have := h x (by simp)
    unfold skipTo
    rw [if_neg (by omega)]
/-- what chunk gives -/
def ChkOutS (w : World) (ST : Bool) (FIN : List (List UInt8) × Bool) (en : Ending) (w' : World) : Prop :=
  ∃ Ap cp sB, en = .returned (.agg #[.bool sB, .bool FIN.2, .slice Ap FIN.1.length cp]) ∧ PartsOwn w' w.heap.size (.slice Ap FIN.1.length cp) FIN.1 ∧ Below w.heap.size w w' ∧ (FIN.1 ≠ [] → sB = ST)
end Go.Proofs.YtmiipkaobloedaaGreat
namespace Go.Proofs.YtmiipkaobloedaaGreat
open Go.RowKit Go.Shelf
attribute [local go_sem] Oper.semAt_some

section
variable {D F : Nat → Prop} {g : Nat} {c : Cf} {st : Sd} {vq vo : Value} {vs os : List Value} {w : World}
/-- what chunk has yet to give, from k SDUs on -/
def chRest (n : Int) (l : List (List UInt8)) (skip : Nat) (qs : List (List UInt8)) (size : Nat) (e : Bool) : List (List UInt8) × Bool :=
  let q := skipTo l skip
  let R := chk n (q.1.length + 1) q.1 q.2 qs.length (lastO qs) size e
  (qs ++ R.1, R.2.1)
theorem chRest_skip {n : Int} {x : List UInt8} {r : List (List UInt8)} {skip : Nat} {qs : List (List UInt8)} {size : Nat} {e : Bool} (h : x.length ≤ skip) : chRest n (x :: r) skip qs size e = chRest n r (skip - x.length) qs size e := by
  unfold chRest
  have : skipTo (x :: r) skip = skipTo r (skip - x.length) := by rw [skipTo, if_pos h]
  rw [this]
theorem chRest_here {n : Int} {x : List UInt8} {r : List (List UInt8)} {skip : Nat} {qs : List (List UInt8)} {size : Nat} {e : Bool} (h : ¬ x.length ≤ skip) :
    chRest n (x :: r) skip qs size e = (qs ++ (chk n (r.length + 1 + 1) (x :: r) skip qs.length (lastO qs) size e).1, (chk n (r.length + 1 + 1) (x :: r) skip qs.length (lastO qs) size e).2.1) := by
  unfold chRest
  have : skipTo (x :: r) skip = (x :: r, skip) := by rw [skipTo, if_neg h]
  rw [this]
  rfl
theorem chRest_zero {n : Int} {r : List (List UInt8)} {qs : List (List UInt8)} {size : Nat} {e : Bool} (h : ∀ s ∈ r, 1 ≤ s.length) :
    chRest n r 0 qs size e = (qs ++ (chk n (r.length + 1) r 0 qs.length (lastO qs) size e).1, (chk n (r.length + 1) r 0 qs.length (lastO qs) size e).2.1) := by
  unfold chRest
  rw [skipTo_zero r h]
/-- the relation of chunk's loop -/
def ChRel (w : World) (n : Int) (Q : List (List UInt8)) (taken : Nat) (FIN : List (List UInt8) × Bool) (s5 s6 s22 : Value) (wr : World) : Prop :=
  ∃ (k skip size : Nat) (qs : List (List UInt8)) (e sB : Bool) (Ap : Option Addr) (cp : Nat), k ≤ Q.length ∧ s5 = .int .i64 (skip : Nat) ∧ s6 = .int .i64 (size : Nat) ∧ s22 = .int .i64 (k : Nat) ∧ ChAt w sB e Ap cp qs wr ∧
    FIN = chRest n (Q.drop k) skip qs size e ∧ (qs ≠ [] → sB = decide ((skipTo Q taken).2 = 0)) ∧ (qs = [] → skipTo (Q.drop k) skip = skipTo Q taken) ∧ skip ≤ 1048576 ∧ size ≤ 32767 ∧ qs.length ≤ 64
theorem ChAt.cells3 {sB e : Bool} {Ap : Option Addr} {cp : Nat} {qs : List (List UInt8)} {wr : World} (h : ChAt w sB e Ap cp qs wr) : (wr.setCell ⟨w.heap.size, 0, none⟩ (.bool sB)).cell? ⟨w.heap.size, 0, none⟩ = some (.bool sB) ∧
    ((wr.setCell ⟨w.heap.size, 0, none⟩ (.bool sB)).setCell ⟨w.heap.size, 1, none⟩ (.bool e)).cell? ⟨w.heap.size, 1, none⟩ = some (.bool e) ∧ (((wr.setCell ⟨w.heap.size, 0, none⟩ (.bool sB)).setCell ⟨w.heap.size, 1, none⟩ (.bool e)).setCell ⟨w.heap.size, 2, none⟩ (.slice Ap qs.length cp)).cell? ⟨w.heap.size, 2, none⟩ = some (.slice Ap qs.length cp) :=
  ⟨(h.set0 sB).blk.cell 0, ((h.set0 sB).set1 e).blk.cell 1, (((h.set0 sB).set1 e).set2).blk.cell 2⟩
set_option maxRecDepth 100000 in
theorem ch_end {sB e : Bool} {Ap : Option Addr} {cp : Nat} {qs : List (List UInt8)} {wr : World} {ST : Bool} {FIN : List (List UInt8) × Bool} (h : ChAt w sB e Ap cp qs wr) (hF : FIN = (qs, e)) (hs : qs ≠ [] → sB = ST) :
    ChkOutS w ST FIN (.returned (.agg #[.bool sB, .bool e, .slice Ap qs.length cp])) (((wr.setCell ⟨w.heap.size, 0, none⟩ (.bool sB)).setCell ⟨w.heap.size, 1, none⟩ (.bool e)).setCell ⟨w.heap.size, 2, none⟩ (.slice Ap qs.length cp)) := by
  subst hF
  have h3 := ((h.set0 sB).set1 e).set2
  exact ⟨Ap, cp, sB, rfl, h3.parts, h3.below, hs⟩
set_option maxRecDepth 100000 in
set_option maxHeartbeats 4000000 in
theorem schunk_am (h : AmS w D F g c st vq vs vo os) (n : Int) (hn : 0 ≤ n) (hn2 : n ≤ 9223372036854775807) (hsd : ∀ s ∈ st.queue, 1 ≤ s.length ∧ s.length ≤ 9000) (htk : st.taken ≤ 1048576) :
    Calls Tryz.prog 33 #[.pointer (some ⟨g, 0, none⟩), .int .i64 n] w (ChkOutS w (chunkS n st).s ((chunkS n st).ps, (chunkS n st).e)) := by
  obtain ⟨j0, hj0, hm0, hm1', hm2'⟩ := info_parts sl_info
  obtain ⟨FIN, hF⟩ : ∃ FIN, FIN = chRest n st.queue st.taken [] 0 false := ⟨_, rfl⟩
  have hF2 : ((chunkS n st).ps, (chunkS n st).e) = FIN := by rw [hF]; rfl
  have hST : (chunkS n st).s = decide ((skipTo st.queue st.taken).2 = 0) := rfl
  rw [hF2, hST]
  have HF := Lib.hid hF
  have HSD := Lib.hid hsd
  have y7 := h.blk.cell 7
  have y10 := h.blk.cell 10
  simp [sndC] at y7 y10
  obtain ⟨A, cc, rfl, hs⟩ := h.sls
  have hcap := hs.sl.cap
  have hmx := hs.sl.mx
  have HS := Lib.hid hs
  have HC0 := Lib.hid (ChAt.new w)
  have hgl := h.blk.lt
  generalize st.queue = Q at *
  generalize st.taken = taken at *
  clear h hF hF2 hST hs hsd
  go_enter Tryz.func33, Tryz.ntmps33
  go_wp2
  go_loopw [5, 6, 22] (fun s5 s6 s22 wr => ChRel w n Q taken FIN s5 s6 s22 wr) (fun _ _ i _ => Q.length - (intOf i).toNat)
  case atStart => exact ⟨0, taken, 0, [], false, false, none, 0, Nat.zero_le _, rfl, rfl, rfl, HC0.out, by rw [HF.out]; rfl, fun h => absurd rfl h, fun _ => rfl, htk, by omega, by simp⟩
  case round =>
    obtain ⟨k, skip, size, qs, e, sB, Ap, cp, hk, rfl, rfl, rfl, hC, hfin, hsB, hq0, hskip, hsz, hq64⟩ := hrel
    have HC := Lib.hid hC
    have HSB := Lib.hid hsB
    have HQ0 := Lib.hid hq0
    have HFIN := Lib.hid hfin
    have hbl := hC.below
    obtain ⟨z0, z1, z2⟩ := (show wr.cell? ⟨w.heap.size, 0, none⟩ = some (.bool sB) ∧ wr.cell? ⟨w.heap.size, 1, none⟩ = some (.bool e) ∧ wr.cell? ⟨w.heap.size, 2, none⟩ = some (.slice Ap qs.length cp) from ⟨hC.blk.cell 0, hC.blk.cell 1, hC.blk.cell 2⟩)
    have r0 := hC.blk.frozen 0
    have r1 := hC.blk.frozen 1
    have r2 := hC.blk.frozen 2
    have hsW := (HS.out.below hbl).more hbl.size
    clear hsB hq0 hfin hC
    by_cases hlt : k < Q.length
    · obtain ⟨x, hx⟩ : ∃ x, Q[k]? = some x := ⟨_, List.getElem?_eq_getElem hlt⟩
      have hdr : Q.drop k = x :: Q.drop (k + 1) := by
        rw [List.drop_eq_getElem_cons hlt]
        congr 1
        rw [List.getElem?_eq_getElem hlt] at hx
        exact Option.some.inj hx
      have hxl := HSD.out x (List.mem_of_getElem? hx)
      have HXC := Lib.hid (HS.out.get hlt)
      have HXX := Lib.hid hx
      rw [hdr] at HFIN
      have HDR := Lib.hid hdr
      clear hdr hx hsW
      obtain ⟨ad, Ai, ci, rfl, hadb, hadc0, hslx0⟩ := HXC.out
      have hgx : Q[k]?.getD [] = x := by rw [HXX.out]; rfl
      rw [hgx] at hadc0 hslx0
      have hslx := hslx0.below hbl
      have hadc := (hbl.cell (p := ad.add k) (by rw [block_add]; exact hadb)).trans hadc0
      have HSX0 := Lib.hid hslx0
      clear hslx0 hadc0
      clear hgx HXC
      have hcx := hslx.cap
      have hcmx := hslx.mx
      by_cases hsk : x.length ≤ skip
      · have hf := HFIN.out
        rw [chRest_skip hsk] at hf
        have hfs := HDR.out
        have HF2 := Lib.hid hf
        have dsk : decide (x.length ≤ skip) = true := decide_eq_true hsk
        clear hf hfs hslx
        go_wp2
        go_roundw
        case rel =>
          refine ⟨k + 1, skip - x.length, size, qs, e, sB, Ap, cp, by omega, by go_num, rfl, by go_num, HC.out, HF2.out, HSB.out, fun hq => ?_, by omega, hsz, hq64⟩
          rw [← HQ0.out hq, HDR.out]
          rw [skipTo, if_pos hsk]
        case measure => simp [intOf]; omega
      · have dsk : decide (x.length ≤ skip) = false := decide_eq_false hsk
        have hf := HFIN.out
        rw [chRest_here hsk] at hf
        have HF2 := Lib.hid hf
        clear hf
        go_upto_region 8 with (fail)
        obtain ⟨b1, hb1⟩ : ∃ b1, b1 = decide (qs.length = 64 ∨ (0 < qs.length ∧ 2047 < lastO qs)) := ⟨_, rfl⟩
        have HB1 := Lib.hid hb1
        clear hb1
        go_cut [52] (fun s52 wx => s52 = .bool b1 ∧ wx = wr)
        case first =>
          have hb := HB1.out
          by_cases h0 : qs.length = 0
          · have e1 : b1 = false := by rw [hb]; exact decide_eq_false (by omega)
            subst e1
            have d0 : decide (0 < qs.length) = false := decide_eq_false (by omega)
            rw [h0] at z2
            clear hb
            go_wp2
            go_meet
            exact ⟨rfl, rfl⟩
          · have d0 : decide (0 < qs.length) = true := decide_eq_true (by omega)
            by_cases h64 : qs.length = 64
            · have e1 : b1 = true := by rw [hb]; exact decide_eq_true (by omega)
              subst e1
              have d64 : ((qs.length : Int) == 64) = true := by simp; omega
              have H64 := Lib.hid h64
              clear hb h64
              go_wp2
              go_meet
              exact ⟨rfl, rfl⟩
            · have d64 : ((qs.length : Int) == 64) = false := by simp; omega
              obtain ⟨vsx, hrow, hpe⟩ := HC.out.parts
              obtain ⟨q, hq⟩ : ∃ q, qs[qs.length - 1]? = some q := ⟨_, List.getElem?_eq_getElem (by omega)⟩
              have hlast := lastO_at hq
              obtain ⟨Aq, cq, hv, hrq⟩ := hpe _ q hq
              have hsq := own_sl' hrq
              obtain ⟨adp, _, rfl, hadl, hg1, hg2⟩ := (own_sl' hrow).get (k := qs.length - 1) (by omega)
              rw [hv] at hg1
              cases hg1
              rw [hlast] at hb
              have hcap1 := (own_sl' hrow).cap
              have hmx1 := (own_sl' hrow).mx
              have hcapq := hsq.cap
              have hmxq := hsq.mx
              have hd2 : decide (2047 < q.length) = b1 := by rw [hb]; exact decide_eq_decide.2 (by omega)
              have HD2 := Lib.hid hd2
              clear hb hd2 hq hlast hv hrq hsq hrow hpe
              cases b1 with
              | true =>
                have hd3 : decide ((2047 : Int) < q.length) = true := by have := HD2.out; simp at this ⊢; omega
                have hd4 : decide (2047 < q.length) = true := HD2.out
                go_wp2
                go_meet
                exact ⟨rfl, rfl⟩
              | false =>
                have hd3 : decide ((2047 : Int) < q.length) = false := by have := HD2.out; simp at this ⊢; omega
                have hd4 : decide (2047 < q.length) = false := HD2.out
                go_wp2
                go_meet
                exact ⟨rfl, rfl⟩
        case rest =>
        obtain ⟨rfl, rfl⟩ := hcut
        by_cases hst : qs.length = 64 ∨ (0 < qs.length ∧ 2047 < lastO qs)
        · have e1 : b1 = true := by rw [HB1.out]; exact decide_eq_true hst
          subst e1
          have hR : FIN = (qs, e) := by rw [HF2.out, chk, if_pos hst]; simp
          have HR := Lib.hid hR
          clear hR hslx hst
          go_wp2
          obtain ⟨p0, p1, p2⟩ := HC.out.cells3
          refine bodyPost_ret (v := .agg #[.bool sB, .bool e, .slice Ap qs.length cp]) (by simp [results, Tryz.results33, go_sem, p0, p1, p2]) rfl ?_
          exact ch_end HC.out HR.out HSB.out
        have e1 : b1 = false := by rw [HB1.out]; exact decide_eq_false hst
        subst e1
        rw [chk, if_neg hst] at HF2
        obtain ⟨room, hroom⟩ : ∃ room : Int, room = min (n - hdrN ((qs.length : Int) + 1)) 32767 - (size : Int) := ⟨_, rfl⟩
        rw [← hroom] at HF2
        have hq63 : qs.length ≤ 63 := by omega
        have hh := hdrG_bd ((qs.length : Int) + 1)
        have hhd := headerG_any ((qs.length : Int) + 1) false
        rw [hdrG_false] at hhd
        have HHD := Lib.hid hhd
        have HRM := Lib.hid hroom
        have HST := Lib.hid hst
        clear hhd hroom hst HB1
        generalize hdrN ((qs.length : Int) + 1) = hd at *
        go_upto_region 9 with (fail)
        go_cut [10] (fun s10 wx => s10 = .int .i64 room ∧ wx = wc)
        case first =>
          clear hslx
          go_wp2_with fail
          refine (HHD.out _ ⟨by omega, by omega⟩).mono ?_
          rintro e1 w1 ⟨rfl, rfl⟩
          go_wp2_with fail
          all_goals
            go_meet
            exact ⟨by rw [HRM.out]; congr 1; omega, rfl⟩
        case rest =>
        obtain ⟨rfl, rfl⟩ := hcut
        have hrb : room ≤ 32767 - size ∧ -1000000 ≤ room := by have := HRM.out; omega
        by_cases hr1 : room < 1
        · have hR : FIN = (qs, e) := by rw [HF2.out, if_pos hr1]; simp
          have HR := Lib.hid hR
          clear hR hslx
          go_wp2
          obtain ⟨p0, p1, p2⟩ := HC.out.cells3
          refine bodyPost_ret (v := .agg #[.bool sB, .bool e, .slice Ap qs.length cp]) (by simp [results, Tryz.results33, go_sem, p0, p1, p2]) rfl ?_
          exact ch_end HC.out HR.out HSB.out
        rw [if_neg hr1] at HF2
        obtain ⟨m, hm⟩ : ∃ m : Nat, room = m := ⟨room.toNat, by omega⟩
        subst hm
        rw [Int.toNat_natCast] at HF2
        have hm1 : 1 ≤ m := by omega
        have hm2 : size + m ≤ 32767 := by omega
        clear hrb hr1 HRM HHD hh
        go_upto_if 64 with (fail)
        obtain ⟨ST, hST⟩ : ∃ ST, ST = decide ((skipTo Q taken).2 = 0) := ⟨_, rfl⟩
        have hss : qs = [] → decide (skip = 0) = ST := fun hq => by
          have := HQ0.out hq
          rw [HDR.out, skipTo, if_neg hsk] at this
          rw [hST, ← this]
        rw [← hST] at HSB
        have HSS := Lib.hid hss
        have HSTT := Lib.hid hST
        clear hss hST
        go_cut [] (fun wx => ChAt w ST e Ap cp qs wx)
        case first =>
          by_cases hq : qs = []
          · have hs0 := HSS.out hq
            have d0 : ((qs.length : Int) == 0) = true := by rw [hq]; rfl
            have d1 : ((skip : Int) == 0) = ST := by rw [← hs0]; exact decide_eq_decide.2 (by omega)
            have HQ := Lib.hid hq
            clear hq hs0 hslx
            go_wp2
            go_meet
            exact HC.out.set0 ST
          · have hsb := HSB.out hq
            subst hsb
            have d0 : ((qs.length : Int) == 0) = false := by
              have : 0 < qs.length := List.length_pos_iff.2 hq
              simp; omega
            clear hslx
            go_wp2
            go_meet
            exact HC.out
        case rest =>
        have hC2 := hcut
        clear hcut hslx hadc z0 z1 z2 r0 r1 r2 HC
        generalize wc = w2 at *
        have HC := Lib.hid hC2
        have hsx := (HSX0.out.below hC2.below).more hC2.below.size
        have hbl2 := hC2.below
        have h0x : 0 < x.length := by omega
        obtain ⟨ai, rfl, haib, _⟩ := hsx.at_ h0x
        clear hC2
        have hcl1 : ¬ ci = skip := by omega
        have hle2 : (x.length : Int) ≤ ci := by omega
        go_upto_region 15 with (fail)
        obtain ⟨L, hL⟩ : ∃ L, L = min m (x.length - skip) := ⟨_, rfl⟩
        have eL : (if x.length - skip < m then ((x.length - skip : Nat) : Int) else (m : Int)) = (L : Int) := by rw [hL]; split <;> omega
        have hmid := hsx.mid (a := skip) (m := L) (by omega)
        rw [if_neg hcl1] at hmid
        have e1 : ((bvs x).drop skip).take L = bvs ((x.drop skip).take L) := by simp [bvs]
        rw [e1] at hmid
        have hppl : ((x.drop skip).take L).length = L := by rw [List.length_take, List.length_drop]; omega
        have hL1 : 1 ≤ L := by omega
        have hLm : L ≤ m := by omega
        have hLK : L ≤ x.length - skip := by omega
        have hK9 : x.length - skip ≤ 9000 := by omega
        rw [eL]
        simp only [Int.toNat_natCast]
        obtain ⟨pp, hpp⟩ : ∃ pp, pp = (x.drop skip).take L := ⟨_, rfl⟩
        rw [← hpp] at hmid hppl
        obtain ⟨K, hK⟩ : ∃ K, K = x.length - skip := ⟨_, rfl⟩
        rw [← hK] at hLK hK9 ⊢
        have HPP := Lib.hid hpp
        have HK := Lib.hid hK
        have HL := Lib.hid hL
        have HPPL := Lib.hid hppl
        have hmid2 : Sl w2 w2.heap.size (some (ai.add skip)) L K (bvs pp) := by
          obtain ⟨q1, q2, q3, q4⟩ := hmid
          exact ⟨q1, by omega, by omega, q4⟩
        have hcl := clone_any (some (ai.add skip)) L K pp w2.drew hmid2.drew (by omega)
        have HCL := Lib.hid hcl
        obtain ⟨vsx, hvo, hpx⟩ := HC.out.parts
        have z0 := HC.out.blk.cell 0
        have z1 := HC.out.blk.cell 1
        have z2 := HC.out.blk.cell 2
        have r0 := HC.out.blk.frozen 0
        have r1 := HC.out.blk.frozen 1
        have r2 := HC.out.blk.frozen 2
        simp at z0 z1 z2
        have hl2 := HC.out.blk.lt
        have hvl : vsx.length = qs.length := (own_sl' hvo).len
        have HVO := Lib.hid hvo
        have HPX := Lib.hid hpx
        clear eL hmid e1 hpp hK hL hppl hmid2 hcl hsx hcl1 hle2 hvo hpx hbl2 hvl
        go_region_law (first
          | ((refine step_append_sl _ (by rfl) _ _ 49 (by rfl) w.heap.size 31 j0 (.slice none 0 0) 24 und22 hj0 hm0 hm1' hm2' rfl (.slice Ap qs.length cp) qs.length vsx (by rfl) ((own_below (World.ownsRow.drew' HVO.out) hb1 (Nat.le_refl _)).alloc (.cells #[.slice A1 L c1] 31)) (w1.alloc (.cells #[.slice A1 L c1] 31)).heap.size (some ⟨w1.heap.size, 0, none⟩) 1 1 [.slice A1 L c1] (by rfl) (sl_newG w1 (.slice A1 L c1) 31) (by simp [Value.oneCell']) (by unfold maxLen; omega) (by omega) (by have := hb1.size; simp at this ⊢; omega) ?_; intro v5 w5 hown5 hgrow5 _; obtain ⟨A5, c5, rfl, hs5, _⟩ := own_sl hown5; have hG5 := ((HC.out.blk.drew.below hb1 hl2).alloc (.cells #[.slice A1 L c1] 31)).grown hgrow5 (fun e => own_blk_ne HVO.out HC.out.blk (by decide) e.symm); have q2 := hG5.cell 2; have q3 := hG5.frozen 2; simp at q2))
          | ((go_simp; (with_reducible refine HCL.out.mono ?_); rintro e1 w1 ⟨v1, rfl, hv1, hb1⟩; obtain ⟨A1, c1, rfl, hs1, _⟩ := own_sl hv1; have z2' := (hb1.cell (p := ⟨w.heap.size, 2, none⟩) hl2).trans z2; have hgl1 : w.heap.size < w1.heap.size := Nat.lt_of_lt_of_le hl2 hb1.size; have z2'' := (World.cell?_alloc_lt w1 (.cells #[.slice A1 L c1] 31) ⟨w.heap.size, 2, none⟩ hgl1).trans z2'; have f0' := (hb1.frozen (p := ⟨w.heap.size, 2, none⟩) hl2).trans r2)))
        all_goals
          have hC3 := (HC.out.drewN 1).push HPPL.out (World.ownsRow.drew' HVO.out) (fun i p hi => let ⟨A, c, e1, h1⟩ := HPX.out i p hi; ⟨A, c, e1, World.ownsRow.drew' h1⟩) hb1 hv1 hown5 hgrow5
          have c0 := hC3.blk.cell 0
          have c1' := hC3.blk.cell 1
          have c2 := hC3.blk.cell 2
          have g0 := hC3.blk.frozen 0
          have g1 := hC3.blk.frozen 1
          have g2 := hC3.blk.frozen 2
          simp at c0 c1' c2
          have HC3 := Lib.hid hC3
          clear hC3 hown5 hgrow5 hv1 hs1 hs5 q2 q3 hG5 z0 z1 z2 r0 r1 r2 f0' z2' z2''
          generalize w5.setCell ⟨w.heap.size, 2, none⟩ (.slice A5 (qs.length + 1) c5) = w6 at *
          by_cases hLK2 : L = K
          · have dLK : ((L : Int) == (K : Int)) = true := by simp; omega
            have hend : ¬ skip + m < x.length := by have := HK.out; have := HL.out; omega
            have hf := HF2.out
            rw [if_neg hend] at hf
            have hpe : pp = x.drop skip := by rw [HPP.out, List.take_of_length_le (by rw [List.length_drop]; have := HK.out; omega)]
            have hFN : FIN = chRest n (Q.drop (k + 1)) 0 (qs ++ [pp]) (size + L) true := by
              rw [chRest_zero (fun s hs => (HSD.out s (List.mem_of_mem_drop hs)).1), lastO_snoc, HPPL.out, hf, hpe]
              have e1 : x.length - skip = L := by rw [hLK2, HK.out]
              simp only [e1, List.length_append, List.length_singleton, List.append_assoc, List.singleton_append]
            have HFN := Lib.hid hFN
            have HLK2 := Lib.hid hLK2
            have HX1 := HC3.out.set1 true
            have HC4 := Lib.hid HX1
            clear hf hpe hFN hLK2 HX1
            go_wp2
            go_roundw
            case rel =>
              exact ⟨k + 1, 0, size + L, qs ++ [pp], true, ST, A5, c5, by omega, by go_num, by go_num, by go_num, HC4.out, HFN.out, fun _ => HSTT.out, fun h => by simp at h, by omega, by omega, by simp; omega⟩
            case measure => simp [intOf]; omega
          · have dLK : ((L : Int) == (K : Int)) = false := by simp; omega
            have hend : skip + m < x.length := by have := HK.out; have := HL.out; omega
            have hLm2 : L = m := by have := HK.out; have := HL.out; omega
            have hf := HF2.out
            rw [if_pos hend, ← hLm2, ← HPP.out] at hf
            have HR := Lib.hid hf
            have HX1 := HC3.out.set1 false
            have d0 := HX1.blk.cell 0
            have d1 := HX1.blk.cell 1
            have d2 := HX1.blk.cell 2
            simp at d0 d1 d2
            have HC4 := Lib.hid HX1
            have HLM := Lib.hid hLm2
            clear hf HX1 hLm2
            go_wp2
            obtain ⟨p0, p1, p2⟩ := HC4.out.cells3
            simp only [List.length_append, List.length_singleton] at p2
            refine bodyPost_ret (v := .agg #[.bool ST, .bool false, .slice A5 (qs.length + 1) c5]) (by simp [results, Tryz.results33, go_sem, p0, p1, p2]) rfl ?_
            have hO := ch_end HC4.out HR.out (fun _ => HSTT.out)
            simp only [List.length_append, List.length_singleton] at hO
            exact hO
    · have hR : FIN = (qs, e) := by
        rw [HFIN.out, List.drop_of_length_le (by omega)]
        simp [chRest, skipTo, chk]
      have HR := Lib.hid hR
      clear hR hsW hbl
      go_wp2
      obtain ⟨p0, p1, p2⟩ := HC.out.cells3
      refine bodyPost_ret (v := .agg #[.bool sB, .bool e, .slice Ap qs.length cp]) (by simp [results, Tryz.results33, go_sem, p0, p1, p2]) rfl ?_
      exact ch_end HC.out HR.out HSB.out
end
end Go.Proofs.YtmiipkaobloedaaGreat
namespace Go.Proofs.YtmiipkaobloedaaGreat
open Go.RowKit Go.Shelf
attribute [local go_sem] Oper.semAt_some

section
variable {D F : Nat → Prop} {g : Nat} {c : Cf} {st : Sd} {vq vo : Value} {vs os : List Value} {w : World}
theorem cell_other {i j : Nat} {x : Value} (h : w.cell? ⟨g, i, none⟩ = some x) (hne : j ≠ i) (u : Value) : (w.setCell ⟨g, j, none⟩ u).cell? ⟨g, i, none⟩ = some x := by
  rw [← h]
  simp [World.cell?, World.setCell, Array.getElem?_modify]
  cases w.heap[g]? with
  | none => rfl
  | some o => cases o <;> simp [hne]
/-- the bytes that a call gives, and the transmitter behind it -/
def FinOut (w : World) (D F : Nat → Prop) (g : Nat) (c : Cf) (st : Sd) (bs : List UInt8) (e : Ending) (w' : World) : Prop :=
  ∃ v, e = .returned v ∧ w'.ownsRow w.heap.size 5 1 v bs.length (bvs bs) ∧ AmO w D F g c st w'
set_option maxRecDepth 100000 in
set_option maxHeartbeats 2000000 in
theorem sfinish_any (h : AmS w D F g c st vq vs vo os) (hsum : heldP st ≤ 1048576) (hw : st.out.length ≤ 512) (hf : st.first < 1024)
    (sn : Nat) (po sg la : Bool) (off : Nat) (s e : Bool) (A : Option Addr) (n cc : Nat) (vl : List Value) (ps : List (List UInt8)) (hps : ∀ w', Kept (fun k _ => D k) w w' → Sls w' w'.heap.size A n cc vl ps)
    (hv : validA sn sg la off ps = true) (hoff : off ≤ 32767) (polls : Bool) :
    Calls Tryz.prog 36 #[.pointer (some ⟨g, 0, none⟩), .agg (apdu sn po sg la off s e A n cc), .bool polls] w (FinOut w D F g c (finishP c st polls).1 (encA sn (finishP c st polls).2 sg la off s e ps)) := by
  obtain ⟨PO, hP⟩ : ∃ PO, PO = (polls || st.owed || idleP st) := ⟨_, rfl⟩
  have hfin : finishP c st polls = if PO = true then (pollP st c, true) else (st, false) := by unfold finishP; rw [hP]
  rw [hfin]
  have hid := fun (o : Obj) => sidle_any (h.alloc o) hsum (by omega)
  have HID := Lib.hid hid
  have y18 := h.blk.cell 18
  simp [sndC] at y18
  have HH := Lib.hid h
  have HP := Lib.hid hP
  have HPS := Lib.hid hps
  have HV := Lib.hid hv
  have hgl := h.blk.lt
  clear h hid hP hfin hps hv
  unfold apdu
  go_enter Tryz.func36, Tryz.ntmps36
  go_upto_region 1 with (fail)
  go_cut [] (fun wx => Blk wx w.heap.size 61 (apdu sn PO sg la off s e A n cc) ∧ AmS wx D F g c st vq vs vo os ∧ Kept (fun k _ => D k) w wx)
  case first =>
    have hp := HP.out
    cases polls with
    | true =>
      have hp1 : PO = true := by rw [hp]; rfl
      clear hp
      subst hp1
      go_wp2
      go_meet
      exact ⟨Blk.new _ _ _, HH.out.alloc _, (Kept.refl _ w).alloc _⟩
    | false =>
      cases ho : st.owed with
      | true =>
        rw [ho] at y18 hp
        have hp1 : PO = true := by rw [hp]; rfl
        clear hp ho
        subst hp1
        go_wp2
        go_meet
        exact ⟨Blk.new _ _ _, HH.out.alloc _, (Kept.refl _ w).alloc _⟩
      | false =>
        rw [ho] at y18 hp
        have hp1 : idleP st = PO := by rw [hp]; rfl
        clear hp ho
        rw [hp1] at HID
        have HI := Lib.hid (HID.out)
        have HP1 := Lib.hid hp1
        clear hp1
        go_wp2_with (go_at_call 63; refine (HI.out _).mono ?_; rintro e1 w1 ⟨rfl, q, rfl⟩)
        go_meet
        have bb := ((Blk.new w 61 (apdu sn po sg la off s e A n cc)).drewN q).set_ 1 (.bool PO)
        have hgs := HH.out.lt
        exact ⟨bb, ((HH.out.alloc _).drewN q).stay fun k hk => heap_far (fun e => by
          have := hgs k hk
          have e2 : k = w.heap.size := e
          omega), (((Kept.refl _ w).alloc _).drewN' q).setCell (fun o ho => by
          have := lt_of_heap ho
          have e2 : w.heap.size < w.heap.size := this
          omega) _⟩
  case rest =>
  obtain ⟨bb, hA1, hk1⟩ := hcut
  generalize wc = w1 at *
  have hbl := bb.lt
  have hbg : w.heap.size ≠ g := by omega
  obtain ⟨b0, b1, b2, b3, b4, b5, b6, b7⟩ := bb.eight
  cases PO with
  | false =>
    have hsl := HPS.out _ hk1
    have henc := encodeA_ok sn false sg la off s e A n cc vl ps w1 hsl HV.out hoff
    unfold apdu at henc
    have HE := Lib.hid henc
    have HA1 := Lib.hid hA1
    have HK1 := Lib.hid hk1
    clear hA1 hk1 hsl henc bb HP HID HPS
    go_wp2_with fail
    refine HE.out.mono ?_
    rintro e3 w3 ⟨vb, rfl, hvb, hb3⟩
    go_wp2
    go_ret
    have hz := HK1.out.size
    exact ⟨vb, rfl, own_base hvb hz, AmO.step HK1.out (Grows.refl _ _) (Grows.refl _ _) ((HA1.out.below hb3).o ((Kept.of_below hb3).mono_at fun k o ho hm => by have := lt_of_heap ho; omega))⟩
  | true =>
    have y13 := hA1.blk.cell 13
    have y14 := hA1.blk.cell 14
    have y18' := hA1.blk.cell 18
    have e13 := hA1.blk.frozen 13
    have e14 := hA1.blk.frozen 14
    have e18 := hA1.blk.frozen 18
    simp [sndC] at y13 y14 y18'
    have hA2 := ((hA1.setG 13 (.int .i64 0) (st' := { st with pdus := 0 }) rfl rfl rfl).setG 14 (.int .i64 0) (st' := { st with pdus := 0, bytes := 0 }) rfl rfl rfl).setG 18 (.bool false) (st' := { st with pdus := 0, bytes := 0, owed := false }) rfl rfl rfl
    have hk2 := ((hk1.setCell (p := ⟨g, 13, none⟩) (fun _ _ => HH.out.gd) (.int .i64 0)).setCell (p := ⟨g, 14, none⟩) (fun _ _ => HH.out.gd) (.int .i64 0)).setCell (p := ⟨g, 18, none⟩) (fun _ _ => HH.out.gd) (.bool false)
    have bb2 := ((bb.far (p := ⟨g, 13, none⟩) hbg (.int .i64 0)).far (p := ⟨g, 14, none⟩) hbg (.int .i64 0)).far (p := ⟨g, 18, none⟩) hbg (.bool false)
    have HA2 := Lib.hid hA2
    have HK2 := Lib.hid hk2
    have HB2 := Lib.hid bb2
    clear hA1 hk1 HP HID hA2 hk2 bb2 bb y18
    go_wp2_with fail
    generalize (((w1.setCell ⟨g, 13, none⟩ (.int .i64 0)).setCell ⟨g, 14, none⟩ (.int .i64 0)).setCell ⟨g, 18, none⟩ (.bool false)) = w2 at *
    have z2 := HA2.out.blk.cell 2
    have z15 := HA2.out.blk.cell 15
    have z16 := HA2.out.blk.cell 16
    have z17 := HA2.out.blk.cell 17
    have z20 := HA2.out.blk.cell 20
    have g15 := HA2.out.blk.frozen 15
    have g16 := HA2.out.blk.frozen 16
    have g17 := HA2.out.blk.frozen 17
    simp [sndC] at z2 z15 z16 z17 z20
    have hnx := fun k => snext_any (HA2.out.drewN k) hf (by show st.out.length ≤ _; omega)
    have hnn : nextP { st with pdus := 0, bytes := 0, owed := false } = nextP st := rfl
    rw [hnn] at hnx
    have hnb : nextP st ≤ 1023 := by unfold nextP; omega
    have HNX := Lib.hid hnx
    clear hnx hnn b0 b1 b2 b3 b4 b5 b6 b7 y13 y14 y18' e13 e14 e18
    go_region_held3 (fun w' => w'.cell? ⟨g, 2, none⟩ = some (.int .i64 c.timer) ∧ w'.cell? ⟨g, 20, none⟩ = some (.int .i64 st.now)) (first | go_keep | (constructor <;> (repeat (first | exact z2 | exact z20 | refine cell_other ?_ (by decide) _))))
      ((go_at_call 34; refine (HNX.out _).mono ?_; rintro e1 w1 ⟨rfl, q, rfl⟩))
    have hpol : bits BinOp.and IntKind.i64 (IntKind.i64.wrap ((nextP st : Nat) + 1023 : Int)) 1023 = (((nextP st + 1023) % 1024 : Nat) : Int) := by
      rw [IntWalk.i64_in _ (by omega), and1023]
      omega
    simp only [hpol]
    generalize hpp : (nextP st + 1023) % 1024 = pp at *
    have HPP := Lib.hid hpp
    generalize hxx : IntKind.i64.wrap (st.now + c.timer) = xx at *
    have HXX := Lib.hid hxx
    have hA3 := (((HA2.out.drewN (1 + q)).setG 15 (.int .i64 (pp : Nat)) (st' := { st with pdus := 0, bytes := 0, owed := false, polled := pp }) rfl rfl rfl).setG 16 (.bool true) (st' := { st with pdus := 0, bytes := 0, owed := false, polled := pp, wait := true }) rfl rfl rfl).setG 17 (.int .i64 xx) (st' := { st with pdus := 0, bytes := 0, owed := false, polled := pp, wait := true, expiry := xx }) rfl rfl rfl
    have hk3 := (((HK2.out.drewN' (1 + q)).setCell (p := ⟨g, 15, none⟩) (fun _ _ => HH.out.gd) (.int .i64 (pp : Nat))).setCell (p := ⟨g, 16, none⟩) (fun _ _ => HH.out.gd) (.bool true)).setCell (p := ⟨g, 17, none⟩) (fun _ _ => HH.out.gd) (.int .i64 xx)
    have bb3 := (((HB2.out.drewN (1 + q)).far (p := ⟨g, 15, none⟩) hbg (.int .i64 (pp : Nat))).far (p := ⟨g, 16, none⟩) hbg (.bool true)).far (p := ⟨g, 17, none⟩) hbg (.int .i64 xx)
    clear hpol hpp hxx z2 z15 z16 z17 z20 g15 g16 g17
    generalize ((((w2.drewN (1 + q)).setCell ⟨g, 15, none⟩ (.int .i64 (pp : Nat))).setCell ⟨g, 16, none⟩ (.bool true)).setCell ⟨g, 17, none⟩ (.int .i64 xx)) = w3 at *
    obtain ⟨b0, b1, b2, b3, b4, b5, b6, b7⟩ := bb3.eight
    have hsl := HPS.out _ hk3
    have henc := encodeA_ok sn true sg la off s e A n cc vl ps w3 hsl HV.out hoff
    unfold apdu at henc
    have HE := Lib.hid henc
    have HA3 := Lib.hid hA3
    have HK3 := Lib.hid hk3
    clear hA3 hk3 hsl henc bb3 HPS
    go_wp2_with fail
    refine HE.out.mono ?_
    rintro e3 w4 ⟨vb, rfl, hvb, hb3⟩
    go_wp2
    go_ret
    have hz := HK3.out.size
    have hfn : pollP st c = { st with pdus := 0, bytes := 0, owed := false, polled := pp, wait := true, expiry := xx } := by unfold pollP; rw [HPP.out, HXX.out]
    rw [hfn]
    exact ⟨vb, rfl, own_base hvb hz, AmO.step HK3.out (Grows.refl _ _) (Grows.refl _ _) ((HA3.out.below hb3).o ((Kept.of_below hb3).mono_at fun k o ho hm => by have := lt_of_heap ho; omega))⟩
end
end Go.Proofs.YtmiipkaobloedaaGreat
namespace Go.Proofs.YtmiipkaobloedaaGreat
open Go.RowKit Go.Shelf
attribute [local go_sem] Oper.semAt_some

/-- the bytes of a PDU that is sent, or none -/
def puB : Option Pu → List UInt8
  | none => []
  | some p => encA p.sn p.poll p.seg p.last p.off p.s p.e p.ps
theorem validA_whole {x : Ou} (h : OuOk x) : validA (x.sn : Nat) false false 0 x.ps = true := by
  have h1 := h.sn
  have h2 := (validB_iff x.ps).2 h.ps
  simp [validA, aConds, h2]
  omega
section
variable {D F : Nat → Prop} {g : Nat} {c : Cf} {st : Sd} {vq vo : Value} {vs os : List Value} {w : World}
theorem SpAt.two {ar : Addr} {n cr : Nat} {r : Nat × Nat} {t : List (Nat × Nat)} (h : SpAt w (some ar) n cr (r :: t)) : w.cell? ar = some (.int .i64 (r.1 : Nat)) ∧ w.cell? ⟨ar.block, ar.off + 1, none⟩ = some (.int .i64 (r.2 : Nat)) := by
  have hl := h.len
  simp at hl
  obtain ⟨ad', e, hb, hc⟩ := h.at_ (by omega)
  cases e
  have := hc 0 r rfl
  simpa [Addr.add] using this
/-- parts stay when only what the transmitter's calls write turns -/
theorem OuAt.slsK {p : Nat} {x : Ou} {Ap Ar : Option Addr} {cp cr : Nat} {vp : List Value} {w' : World} (h : OuAt w D F p x Ap cp vp Ar cr) (hF : ∀ k, F k → k < w.heap.size) (hk : Kept (fun k _ => D k) w w') : Sls w' w'.heap.size Ap x.ps.length cp vp x.ps := by
  have nd : ∀ {A : Option Addr}, inF F D A → ∀ ad, A = some ad → w'.heap[ad.block]? = w.heap[ad.block]? := fun hi ad e => by
    have hlt := hF _ (hi ad e).1
    have h1 : w.heap[ad.block]? = some w.heap[ad.block] := Array.getElem?_eq_getElem hlt
    rw [h1]
    exact hk.same _ _ h1 (hi ad e).2
  exact h.ps.stay (nd h.pf) (fun i v ad hv e => nd (h.pe i v hv) ad e)
theorem PartsOwn.slsK {base : Nat} {A : Option Addr} {cc : Nat} {ps : List (List UInt8)} (h : PartsOwn w base (.slice A ps.length cc) ps) (hD : ∀ k, D k → k < base) : ∃ vl, ∀ w', Kept (fun k _ => D k) w w' → Sls w' w'.heap.size A ps.length cc vl ps := by
  obtain ⟨vl, h1, h2⟩ := h
  refine ⟨vl, fun w' hk => ⟨own_sl' (own_kept h1 hk fun k o hr hb hd => ?_), rfl, fun i q hi => ?_⟩⟩
  · have := (h1.lt k hb).1
    have := hD k hd
    omega
  · obtain ⟨A', c', e, ho⟩ := h2 i q hi
    exact ⟨A', c', e, own_sl' (own_kept ho hk fun k o hr hb hd => by
      have := (ho.lt k hb).1
      have := hD k hd
      omega)⟩
/-- the best segment so far -/
def BestAt (w0 : World) (x : Ou) (fr j : Nat) (wr : World) : Prop :=
  Below w0.heap.size w0 wr ∧ ((j = fr ∧ Blk wr w0.heap.size 61 (apdu 0 false false false 0 false false none 0 0)) ∨
    (fr < j ∧ ∃ A cc, Blk wr w0.heap.size 61 (apdu (x.sn : Nat) false true (decide (j = sizeO x)) (fr : Nat) (cutStarts x.ps x.s 0 fr x.ps.length) (cutEnds x.ps x.e 0 j x.ps.length) A (cutParts x.ps 0 fr j x.ps.length).length cc) ∧
      PartsOwn wr w0.heap.size (.slice A (cutParts x.ps 0 fr j x.ps.length).length cc) (cutParts x.ps 0 fr j x.ps.length)))
theorem PartsOwn.belowG {base : Nat} {v : Value} {ps : List (List UInt8)} {w' : World} (h : PartsOwn w base v ps) (hb : Below w.heap.size w w') : PartsOwn w' base v ps := by
  obtain ⟨vl, h1, h2⟩ := h
  exact ⟨vl, own_below h1 hb (Nat.le_refl _), fun i q hi => let ⟨A, c, e, ho⟩ := h2 i q hi; ⟨A, c, e, own_below ho hb (Nat.le_refl _)⟩⟩
theorem BestAt.below {w0 wr w' : World} {x : Ou} {fr j : Nat} (h : BestAt w0 x fr j wr) (hb : Below wr.heap.size wr w') : BestAt w0 x fr j w' := by
  obtain ⟨h1, h2⟩ := h
  refine ⟨h1.trans (hb.mono h1.size), ?_⟩
  rcases h2 with ⟨e, k⟩ | ⟨e, A, cc, k1, k2⟩
  · exact .inl ⟨e, k.below hb k.lt⟩
  · exact .inr ⟨e, A, cc, k1.below hb k1.lt, k2.belowG hb⟩
/-- a better segment is laid -/
theorem BestAt.put {w0 wr w3 : World} {x : Ou} {fr j m : Nat} {A : Option Addr} {cc : Nat} (h : BestAt w0 x fr j wr) (hb : Below wr.heap.size wr w3) (hm : fr < m)
    (hp : PartsOwn w3 w0.heap.size (.slice A (cutParts x.ps 0 fr m x.ps.length).length cc) (cutParts x.ps 0 fr m x.ps.length)) :
    BestAt w0 x fr m ((((((((w3.setCell ⟨w0.heap.size, 0, none⟩ (.int .i64 (x.sn : Nat))).setCell ⟨w0.heap.size, 1, none⟩ (.bool false)).setCell ⟨w0.heap.size, 2, none⟩ (.bool true)).setCell ⟨w0.heap.size, 3, none⟩ (.bool (decide (m = sizeO x)))).setCell ⟨w0.heap.size, 4, none⟩ (.int .i64 (fr : Nat))).setCell ⟨w0.heap.size, 5, none⟩ (.bool (cutStarts x.ps x.s 0 fr x.ps.length))).setCell ⟨w0.heap.size, 6, none⟩ (.bool (cutEnds x.ps x.e 0 m x.ps.length))).setCell ⟨w0.heap.size, 7, none⟩ (.slice A (cutParts x.ps 0 fr m x.ps.length).length cc)) := by
  have h3 := h.below hb
  obtain ⟨u0, u1, u2, u3, u4, u5, u6, u7, hbk⟩ : ∃ u0 u1 u2 u3 u4 u5 u6 u7, Blk w3 w0.heap.size 61 #[u0, u1, u2, u3, u4, u5, u6, u7] := by
    rcases h3.2 with ⟨e, k⟩ | ⟨e, A, cc, k1, k2⟩
    · exact ⟨_, _, _, _, _, _, _, _, k⟩
    · exact ⟨_, _, _, _, _, _, _, _, k1⟩
  have k0 := hp.store (i := 0) hbk (by decide) (by decide) (.int .i64 (x.sn : Nat))
  have k1 := k0.store (i := 1) (hbk.set_ 0 _) (by decide) (by decide) (.bool false)
  have k2 := k1.store (i := 2) ((hbk.set_ 0 _).set_ 1 _) (by decide) (by decide) (.bool true)
  have k3 := k2.store (i := 3) (((hbk.set_ 0 _).set_ 1 _).set_ 2 _) (by decide) (by decide) (.bool (decide (m = sizeO x)))
  have k4 := k3.store (i := 4) ((((hbk.set_ 0 _).set_ 1 _).set_ 2 _).set_ 3 _) (by decide) (by decide) (.int .i64 (fr : Nat))
  have k5 := k4.store (i := 5) (((((hbk.set_ 0 _).set_ 1 _).set_ 2 _).set_ 3 _).set_ 4 _) (by decide) (by decide) (.bool (cutStarts x.ps x.s 0 fr x.ps.length))
  have k6 := k5.store (i := 6) ((((((hbk.set_ 0 _).set_ 1 _).set_ 2 _).set_ 3 _).set_ 4 _).set_ 5 _) (by decide) (by decide) (.bool (cutEnds x.ps x.e 0 m x.ps.length))
  have k7 := k6.store (i := 7) (((((((hbk.set_ 0 _).set_ 1 _).set_ 2 _).set_ 3 _).set_ 4 _).set_ 5 _).set_ 6 _) (by decide) (by decide) (.slice A (cutParts x.ps 0 fr m x.ps.length).length cc)
  exact ⟨below_put8 h3.1 (Nat.le_refl _) _ _ _ _ _ _ _ _, .inr ⟨hm, A, cc, hbk.put8 _ _ _ _ _ _ _ _, k7⟩⟩
/-- the pending ranges are laid anew -/
theorem again_store {w0 wc w5 : World} {i p bb base : Nat} {x : Ou} {Ap Ar Ac : Option Addr} {cp cr cc : Nat} {vp : List Value} {l : List (Nat × Nat)} {v5 : Value} {sn fr : Nat} {la s e : Bool} {CP : List (List UInt8)}
    (hA : AmS wc D F g c st vq vs vo os) (hk : Kept (fun k _ => D k) w0 wc) (hx : st.out[i]? = some x) (hp : os[i]? = some (.pointer (some ⟨p, 0, none⟩))) (hO : OuAt wc D F p x Ap cp vp Ar cr)
    (hbb : Blk wc bb 61 (apdu (sn : Nat) false true la (fr : Nat) s e Ac CP.length cc)) (hpo : PartsOwn wc bb (.slice Ac CP.length cc) CP)
    (hb5 : Below wc.heap.size wc w5) (hv5 : w5.ownsRow base 93 2 v5 l.length (spC l)) (hbase : wc.heap.size ≤ base) :
    ∃ F' A5 c5, v5 = .slice A5 l.length c5 ∧ AmS (w5.setCell ⟨p, 10, none⟩ (.slice A5 l.length c5)) D F' g c (putPend st i x l) vq vs vo os ∧ Grows w0 F F' ∧ Kept (fun k _ => D k) w0 (w5.setCell ⟨p, 10, none⟩ (.slice A5 l.length c5)) ∧
      Blk (w5.setCell ⟨p, 10, none⟩ (.slice A5 l.length c5)) bb 61 (apdu (sn : Nat) false true la (fr : Nat) s e Ac CP.length cc) ∧ PartsOwn (w5.setCell ⟨p, 10, none⟩ (.slice A5 l.length c5)) bb (.slice Ac CP.length cc) CP := by
  obtain ⟨A5, c5, rfl, hsp, hA5⟩ := SpAt.of_own hv5
  have hz := hk.size
  have h5 := (hA.below hb5).moreF (F' := fun k => F k ∨ ∃ ad, A5 = some ad ∧ k = ad.block) (fun _ => .inl) (fun k hk => by
    rcases hk with hk | ⟨ad, e, rfl⟩
    · exact (hA.below hb5).lt k hk
    · exact (hA5 ad e).2)
  have hO5 := (hO.stay (w' := w5) fun k hk => hb5.block k (hA.lt k hk)).moreF (F' := fun k => F k ∨ ∃ ad, A5 = some ad ∧ k = ad.block) (fun _ => .inl)
  obtain ⟨h6, hO6⟩ := h5.setP hx hp hO5 10 (.slice A5 l.length c5) (z := { x with pend := l }) (Ar' := A5) (cr' := c5) rfl rfl hsp (fun ad e => ⟨.inr ⟨ad, e, rfl⟩, fun hd => by
    have h1 := (hA5 ad e).1
    have h2 := hA.lt _ (hA.sub _ hd)
    omega⟩)
  have hk5 : Kept (fun k _ => D k) w0 w5 := hk.trans ((Kept.of_below hb5).mono_at fun k o ho hm => by have := lt_of_heap ho; omega)
  refine ⟨_, A5, c5, rfl, h6, fun k hk' => ?_, hk5.setCell (p := ⟨p, 10, none⟩) (fun _ _ => hO.d) _, (hbb.below hb5 hbb.lt).far (p := ⟨p, 10, none⟩) (hbb.off hO.blk (by decide)) _, (hpo.belowG hb5).store hO5.blk (by decide) (by decide) _⟩
  rcases hk' with hk' | ⟨ad, e, rfl⟩
  · exact .inl hk'
  · have := (hA5 ad e).1
    exact .inr (by omega)
theorem SpAt.tail' {ar : Addr} {n cr : Nat} {r : Nat × Nat} {l : List (Nat × Nat)} (h : SpAt w (some ar) (n + 1) cr (r :: l)) (hc : ¬ cr = 1) : SpAt w (some ⟨ar.block, ar.off + 2, none⟩) n (cr - 1) l := by
  have := h.tail
  rw [if_neg hc] at this
  simpa [Addr.add] using this
set_option maxRecDepth 100000 in
set_option maxHeartbeats 4000000 in
theorem sagain_any (h : AmS w D F g c st vq vs vo os) {K : Nat} (hB : Bnd st K) (hw : st.out.length ≤ 512) (hf : st.first < 1024) {i p : Nat} {x : Ou} {Ap Ar : Option Addr} {cp cr : Nat} {vp : List Value} (hx : st.out[i]? = some x) (hp : os[i]? = some (.pointer (some ⟨p, 0, none⟩))) (hO : OuAt w D F p x Ap cp vp Ar cr) (hpe : x.pend ≠ [])
    (n : Int) (hn : 0 ≤ n) (hn2 : n ≤ 9223372036854775807) :
    Calls Tryz.prog 32 #[.pointer (some ⟨g, 0, none⟩), .pointer (some ⟨p, 0, none⟩), .int .i64 n] w (FinOut w D F g c (againP c n st i x).1 (puB (againP c n st i x).2)) := by
  obtain ⟨⟨fr, e0⟩, rest, hpd⟩ := List.exists_cons_of_ne_nil hpe
  have hok := hB.ou x (List.mem_of_getElem? hx)
  have hsz := ouOk_size hok
  have hr := hok.pr (fr, e0) (by rw [hpd]; simp)
  have hpl := hok.pl
  dsimp only at hr
  obtain ⟨R, hR⟩ : ∃ R, againP c n st i x = R := ⟨_, rfl⟩
  rw [hR]
  have HR := Lib.hid hR
  obtain ⟨x0, x7, x8, x9, x10, x11⟩ := hO.cells
  have hrs := hO.rs
  have hlen : x.pend.length = rest.length + 1 := by rw [hpd]; rfl
  rw [hlen] at x10 hrs
  rw [hpd] at hrs
  obtain ⟨ar, har, _, _⟩ := hrs.at_ (by omega)
  subst har
  obtain ⟨s0, s1⟩ := hrs.two
  dsimp only at s0 s1
  have hcr := hrs.cap
  have hcrm := hrs.mx
  have hpc := hO.ps.sl.cap
  have hpm := hO.ps.sl.mx
  have HH := Lib.hid h
  have HX := Lib.hid hx
  have HP := Lib.hid hp
  have HO := Lib.hid hO
  have HPD := Lib.hid hpd
  have HRS := Lib.hid hrs
  have HB := Lib.hid hB
  clear h hx hp hO hpd hrs hB hR hlen hpe
  go_enter Tryz.func32, Tryz.ntmps32
  go_wp2
  go_quiet (fail)
  go_wp2_with fail
  have hA1 := HH.out.drewN nq
  have hO1 := HO.out.drewN nq
  have hRS1 := HRS.out.drewN nq
  have hk1 : Kept (fun k _ => D k) w (w.drewN nq) := (Kept.refl _ w).drewN' nq
  clear s0 s1 x0 x7 x8 x9 x10 x11
  generalize w.drewN nq = w1 at *
  obtain ⟨x0, x7, x8, x9, x10, x11⟩ := hO1.cells
  obtain ⟨x1, x2, x3, x4, x5, x6⟩ := (show w1.cell? ⟨p, 1, none⟩ = some (.bool false) ∧ w1.cell? ⟨p, 2, none⟩ = some (.bool false) ∧ w1.cell? ⟨p, 3, none⟩ = some (.bool false) ∧ w1.cell? ⟨p, 4, none⟩ = some (.int .i64 0) ∧ w1.cell? ⟨p, 5, none⟩ = some (.bool x.s) ∧ w1.cell? ⟨p, 6, none⟩ = some (.bool x.e) from
    ⟨hO1.blk.cell 1, hO1.blk.cell 2, hO1.blk.cell 3, hO1.blk.cell 4, hO1.blk.cell 5, hO1.blk.cell 6⟩)
  have f10 := hO1.blk.frozen 10
  have hlen : x.pend.length = rest.length + 1 := by rw [HPD.out]; rfl
  rw [hlen] at x10
  have HA1 := Lib.hid hA1
  have HO1 := Lib.hid hO1
  have HRS1 := Lib.hid hRS1
  have HK1 := Lib.hid hk1
  have HLEN := Lib.hid hlen
  clear hA1 hO1 hRS1 hk1 hlen HH HO HRS hcr hcrm
  have hps64 : x.ps.length ≤ 64 := hok.ps.hi
  have hhd := fun (W : World) => headerG_any (x.ps.length : Int) false W ⟨by omega, by omega⟩
  have hhb := hdrG_bd (x.ps.length : Int)
  simp only [hdrG_false] at hhd
  generalize hhh : hdrN (x.ps.length : Int) = hd at *
  have HHD := Lib.hid hhd
  have HHH := Lib.hid hhh
  have hsum : IntKind.i64.wrap (hd + (sizeO x : Nat)) = hd + (sizeO x : Nat) := IntWalk.i64_in _ (by omega)
  clear hhd hhh
  obtain ⟨b1, hb1⟩ : ∃ b1, b1 = decide (fr = 0 ∧ e0 + 1 = sizeO x ∧ hd + (sizeO x : Int) ≤ n) := ⟨_, rfl⟩
  have HB1 := Lib.hid hb1
  clear hb1
  go_cut [55] (fun s55 wx => s55 = .bool b1 ∧ ∃ q, wx = w1.drewN q)
  case first =>
    have hb := HB1.out
    by_cases h1 : fr = 0
    · have d1 : ((fr : Int) == 0) = true := by simp; omega
      by_cases h2 : e0 + 1 = sizeO x
      · have d2 : ((e0 : Int) + 1 == (sizeO x : Int)) = true := by simp; omega
        by_cases h3 : hd + (sizeO x : Int) ≤ n
        · have d3 : decide (hd + (sizeO x : Int) ≤ n) = true := decide_eq_true h3
          have e1 : b1 = true := by rw [hb]; exact decide_eq_true ⟨h1, h2, h3⟩
          subst e1
          have H1 := Lib.hid h1
          have H2 := Lib.hid h2
          clear h1 h2 hb
          go_wp2
          go_quiet ((go_at_call 59; exact Calls.quiet_of_same ((HHD.out _).mono fun _ _ hh => ⟨hh.1, hh.2.symm⟩)))
          go_wp2
          go_meet
          exact ⟨rfl, _, rfl⟩
        · have d3 : decide (hd + (sizeO x : Int) ≤ n) = false := decide_eq_false h3
          have e1 : b1 = false := by rw [hb]; exact decide_eq_false (by omega)
          subst e1
          have H1 := Lib.hid h1
          have H2 := Lib.hid h2
          clear h1 h2 hb
          go_wp2
          go_quiet ((go_at_call 59; exact Calls.quiet_of_same ((HHD.out _).mono fun _ _ hh => ⟨hh.1, hh.2.symm⟩)))
          go_wp2
          go_meet
          exact ⟨rfl, _, rfl⟩
      · have d2 : ((e0 : Int) + 1 == (sizeO x : Int)) = false := by simp; omega
        have e1 : b1 = false := by rw [hb]; exact decide_eq_false (by omega)
        subst e1
        have H1 := Lib.hid h1
        clear h1 hb
        go_wp2
        go_quiet (fail)
        go_wp2
        go_meet
        exact ⟨rfl, _, rfl⟩
    · have d1 : ((fr : Int) == 0) = false := by simp; omega
      have e1 : b1 = false := by rw [hb]; exact decide_eq_false (by omega)
      subst e1
      clear hb
      go_wp2
      go_quiet (fail)
      go_wp2
      go_meet
      exact ⟨rfl, _, rfl⟩
  case rest =>
  obtain ⟨rfl, q, rfl⟩ := hcut
  have hA2 := HA1.out.drewN q
  have hO2 := HO1.out.drewN q
  have hRS2 := HRS1.out.drewN q
  have hk2 := HK1.out.drewN' q
  clear x0 x1 x2 x3 x4 x5 x6 x7 x8 x9 x10 x11 f10
  generalize w1.drewN q = w2 at *
  have HA2 := Lib.hid hA2
  have HO2 := Lib.hid hO2
  have HRS2 := Lib.hid hRS2
  have HK2 := Lib.hid hk2
  have hgl : w.heap.size ≤ w2.heap.size := hk2.size
  have hdl : ∀ k, D k → k < w2.heap.size := fun k hd => hA2.lt k (hA2.sub k hd)
  have HDL := Lib.hid hdl
  by_cases hcond : fr = 0 ∧ e0 + 1 = sizeO x ∧ hd + (sizeO x : Int) ≤ n
  · have e1 : b1 = true := by rw [HB1.out]; exact decide_eq_true hcond
    subst e1
    have hRe : R = ((finishP c (putPend st i x []) false).1, some ⟨x.sn, (finishP c (putPend st i x []) false).2, false, false, 0, x.s, x.e, x.ps⟩) := by
      rw [← HR.out]
      unfold againP
      rw [HPD.out]
      dsimp only
      rw [if_pos (by rw [HHH.out]; exact hcond)]
    have HRE := Lib.hid hRe
    clear hRe HR hcond hdl
    obtain ⟨hA3, hO3⟩ := hA2.setP HX.out HP.out hO2 10 (.slice none 0 0) (z := { x with pend := [] }) (Ar' := none) (cr' := 0) rfl rfl (SpAt.nil _) (fun ad e => by cases e)
    have hk3 := hk2.setCell (p := ⟨p, 10, none⟩) (fun _ _ => hO2.d) (.slice none 0 0)
    have f10 := hO2.blk.frozen 10
    have x10 := hO2.blk.cell 10
    simp [ouC] at x10
    clear hA2 hO2 hRS2 hk2
    have hps := fun w' hk => hO3.slsK (w' := w') hA3.lt hk
    have hB2 := HB.out
    have hfi : Calls Tryz.prog 36 #[.pointer (some ⟨g, 0, none⟩), .agg #[.int .i64 (x.sn : Nat), .bool false, .bool false, .bool false, .int .i64 0, .bool x.s, .bool x.e, .slice Ap x.ps.length cp], .bool false] (w2.setCell ⟨p, 10, none⟩ (.slice none 0 0)) (FinOut (w2.setCell ⟨p, 10, none⟩ (.slice none 0 0)) D F g c (finishP c (putPend st i x []) false).1 (encA x.sn (finishP c (putPend st i x []) false).2 false false 0 x.s x.e x.ps)) :=
      sfinish_any hA3 hB2.held (by show (st.out.set i _).length ≤ 512; rw [List.length_set]; exact hw) hf x.sn false false false 0 x.s x.e Ap x.ps.length cp vp x.ps hps (validA_whole hok) (by omega) false
    have HFI := Lib.hid hfi
    obtain ⟨z0, z7, z8, z9, z10, z11⟩ := hO3.cells
    obtain ⟨z1, z2, z3, z4, z5, z6⟩ := (show (w2.setCell ⟨p, 10, none⟩ (.slice none 0 0)).cell? ⟨p, 1, none⟩ = some (.bool false) ∧ (w2.setCell ⟨p, 10, none⟩ (.slice none 0 0)).cell? ⟨p, 2, none⟩ = some (.bool false) ∧ (w2.setCell ⟨p, 10, none⟩ (.slice none 0 0)).cell? ⟨p, 3, none⟩ = some (.bool false) ∧ (w2.setCell ⟨p, 10, none⟩ (.slice none 0 0)).cell? ⟨p, 4, none⟩ = some (.int .i64 0) ∧ (w2.setCell ⟨p, 10, none⟩ (.slice none 0 0)).cell? ⟨p, 5, none⟩ = some (.bool x.s) ∧ (w2.setCell ⟨p, 10, none⟩ (.slice none 0 0)).cell? ⟨p, 6, none⟩ = some (.bool x.e) from
      ⟨hO3.blk.cell 1, hO3.blk.cell 2, hO3.blk.cell 3, hO3.blk.cell 4, hO3.blk.cell 5, hO3.blk.cell 6⟩)
    have HK3 := Lib.hid hk3
    clear hA3 hO3 hps hfi hk3 z8 z9 z10 z11 hB2
    go_upto_region 4 with (fail)
    generalize w2.setCell ⟨p, 10, none⟩ (.slice none 0 0) = w3 at *
    go_wp2_with fail
    refine HFI.out.mono ?_
    rintro e4 w4 ⟨v, rfl, hv, hO4⟩
    go_wp2
    go_ret
    rw [HRE.out]
    have hz3 := HK3.out.size
    exact ⟨v, rfl, own_base hv hz3, AmO.step HK3.out (Grows.refl _ _) (Grows.refl _ _) hO4⟩
  · have e1 : b1 = false := by rw [HB1.out]; exact decide_eq_false hcond
    subst e1
    clear hA2 hO2 hRS2 hk2
    go_upto_block 0 with (fail)
    obtain ⟨J, hJ⟩ : ∃ J, J = goTo (segFits x fr n) (e0 + 1 - fr) fr := ⟨_, rfl⟩
    have HJ := Lib.hid hJ
    have hJb := goTo_bd (segFits x fr n) (e0 + 1 - fr) fr
    rw [← hJ] at hJb
    clear hJ
    have hbe : BestAt w2 x fr fr (w2.alloc (.cells (apdu 0 false false false 0 false false none 0 0) 61)) := ⟨(Below.refl _ _).alloc (Nat.le_refl _) _, .inl ⟨rfl, Blk.new _ _ _⟩⟩
    have HBE := Lib.hid hbe
    unfold apdu at HBE
    clear hbe
    go_cut [10] (fun s10 wx => s10 = .int .i64 (J : Nat) ∧ BestAt w2 x fr J wx)
    case first =>
      go_wp2_with fail
      go_loopw [10, 11] (fun s10 s11 wr => ∃ j : Nat, fr ≤ j ∧ j ≤ e0 + 1 ∧ s10 = .int .i64 (j : Nat) ∧ s11 = .int .i64 ((j : Int) + 1) ∧ BestAt w2 x fr j wr ∧ J = goTo (segFits x fr n) (e0 + 1 - j) j) (fun _ i _ => e0 + 2 - (intOf i).toNat)
      case atStart => exact ⟨fr, Nat.le_refl _, by omega, rfl, rfl, HBE.out, HJ.out⟩
      case round =>
        obtain ⟨j, hj1, hj2, rfl, rfl, hbest, hgo⟩ := hrel
        have HGO := Lib.hid hgo
        clear hgo
        by_cases hlt : j < e0 + 1
        · have hb2 := hbest.1
          have hOr := HO2.out.stay (w' := wr) (fun k hk => hb2.block k (HA2.out.lt k hk))
          have hm : j + 1 ≤ sizeO x := by omega
          have hdec : (decide (j + 1 = 0 + sumLen x.ps) && (false || !false)) = decide (j + 1 = sizeO x) := by simp only [Nat.zero_add, Bool.false_or, Bool.not_false, Bool.and_true]; rfl
          have hsl : Sls wr wr.heap.size Ap x.ps.length cp vp x.ps := hOr.ps
          have hct : Calls Tryz.prog 60 #[.agg #[.int .i64 (x.sn : Nat), .bool false, .bool false, .bool false, .int .i64 0, .bool x.s, .bool x.e, .slice Ap x.ps.length cp], .int .i64 (fr : Nat), .int .i64 ((j : Int) + 1)] wr (CutGives wr (x.sn : Nat) (decide (j + 1 = sizeO x)) (fr : Nat) (cutStarts x.ps x.s 0 fr x.ps.length) (cutEnds x.ps x.e 0 (j + 1) x.ps.length) (cutParts x.ps 0 fr (j + 1) x.ps.length)) := by
            have := cutA_ok (x.sn : Nat) false false false 0 x.s x.e Ap x.ps.length cp vp x.ps fr (j + 1) wr hsl (validA_whole hok) (by omega) (Nat.zero_le _) (by omega) (by unfold sizeO at hm; omega)
            rw [hdec] at this
            exact this
          have HCT := Lib.hid hct
          have hvp := cut_valid x.ps 0 fr (j + 1) hok.ps (Nat.zero_le _) (by omega) (by unfold sizeO at hm; omega)
          have hvl := hvp.lo
          have hvh := hvp.hi
          have hsf : segFits x fr n (j + 1) = decide (hdrN ((cutParts x.ps 0 fr (j + 1) x.ps.length).length : Int) + 2 + (((j + 1 : Nat) : Int) - (fr : Int)) ≤ n) := rfl
          have hput := fun w3 A cc => hbest.put (w3 := w3) (m := j + 1) (A := A) (cc := cc)
          have HPUT := Lib.hid hput
          have HBT := Lib.hid hbest
          have HSF := Lib.hid hsf
          obtain ⟨x0, x7, x8, x9, x10, x11⟩ := hOr.cells
          obtain ⟨x1, x2, x3, x4, x5, x6⟩ := (show wr.cell? ⟨p, 1, none⟩ = some (.bool false) ∧ wr.cell? ⟨p, 2, none⟩ = some (.bool false) ∧ wr.cell? ⟨p, 3, none⟩ = some (.bool false) ∧ wr.cell? ⟨p, 4, none⟩ = some (.int .i64 0) ∧ wr.cell? ⟨p, 5, none⟩ = some (.bool x.s) ∧ wr.cell? ⟨p, 6, none⟩ = some (.bool x.e) from
            ⟨hOr.blk.cell 1, hOr.blk.cell 2, hOr.blk.cell 3, hOr.blk.cell 4, hOr.blk.cell 5, hOr.blk.cell 6⟩)
          clear hct hvp hsf hput hbest hOr hsl hdec x8 x9 x10 x11
          generalize cutParts x.ps 0 fr (j + 1) x.ps.length = CP at *
          generalize cutStarts x.ps x.s 0 fr x.ps.length = CS at *
          generalize cutEnds x.ps x.e 0 (j + 1) x.ps.length = CE at *
          generalize decide (j + 1 = sizeO x) = CL at *
          go_wp2_with fail
          refine HCT.out.mono ?_
          rintro e3 w3 ⟨hb3, Ac, cc, rfl, hpo⟩
          unfold apdu
          have hcc : CP.length ≤ cc ∧ cc ≤ 9223372036854775807 := by
            obtain ⟨vl, h1, _⟩ := hpo
            exact ⟨(own_sl' h1).cap, (own_sl' h1).mx⟩
          obtain ⟨hcc1, hcc2⟩ := hcc
          have hhd2 := fun (W : World) => headerG_any (CP.length : Int) true W ⟨by omega, by omega⟩
          have hhb2 := hdrG_bd (CP.length : Int)
          rw [hdrG_true _ (by omega) (by omega)] at hhd2
          generalize hh2 : hdrN (CP.length : Int) = hd2 at *
          have HHD2 := Lib.hid hhd2
          have HH2 := Lib.hid hh2
          have HB3 := Lib.hid hb3
          have HPO := Lib.hid hpo
          clear hhd2 hh2 hb3 hpo x0 x1 x2 x3 x4 x5 x6 x7
          go_wp2_with fail
          refine (HHD2.out _).mono ?_
          rintro e4 w4 ⟨rfl, rfl⟩
          by_cases hfit : hd2 + 2 + (((j + 1 : Nat) : Int) - (fr : Int)) ≤ n
          · have d1 : decide (n < hd2 + 2 + ((j : Int) + 1) - fr) = false := decide_eq_false (by omega)
            have hbw := Nat.le_trans HBT.out.1.size HB3.out.size
            have hnx := HPUT.out (w3.alloc (.cells #[.int .i64 (x.sn : Nat), .bool false, .bool true, .bool CL, .int .i64 (fr : Nat), .bool CS, .bool CE, .slice Ac CP.length cc] 61)) Ac cc (HB3.out.alloc HB3.out.size _) (by omega) ((HPO.out.base_ HBT.out.1.size).belowG ((Below.refl _ _).alloc (Nat.le_refl _) _))
            have HNX := Lib.hid hnx
            obtain ⟨u0, u1, u2, u3, u4, u5, u6, u7, hbk⟩ : ∃ u0 u1 u2 u3 u4 u5 u6 u7, Blk w3 w2.heap.size 61 #[u0, u1, u2, u3, u4, u5, u6, u7] := by
              have := (HBT.out.below HB3.out).2
              rcases this with ⟨e, k⟩ | ⟨e, A, cc, k1, k2⟩
              · exact ⟨_, _, _, _, _, _, _, _, k⟩
              · exact ⟨_, _, _, _, _, _, _, _, k1⟩
            have hbka := hbk.alloc (.cells #[.int .i64 (x.sn : Nat), .bool false, .bool true, .bool CL, .int .i64 (fr : Nat), .bool CS, .bool CE, .slice Ac CP.length cc] 61)
            obtain ⟨y0, y1, y2, y3, y4, y5, y6, y7⟩ := hbka.eight
            have g0 := hbka.frozen 0
            have g1 := hbka.frozen 1
            have g2 := hbka.frozen 2
            have g3 := hbka.frozen 3
            have g4 := hbka.frozen 4
            have g5 := hbka.frozen 5
            have g6 := hbka.frozen 6
            have g7 := hbka.frozen 7
            have hgo2 : J = goTo (segFits x fr n) (e0 + 1 - (j + 1)) (j + 1) := by
              rw [HGO.out, show e0 + 1 - j = (e0 + 1 - (j + 1)) + 1 by omega, goTo, HSF.out, if_pos (decide_eq_true hfit)]
            have HGO2 := Lib.hid hgo2
            have hnb := Blk.new w3 61 #[.int .i64 (x.sn : Nat), .bool false, .bool true, .bool CL, .int .i64 (fr : Nat), .bool CS, .bool CE, .slice Ac CP.length cc]
            obtain ⟨t0, t1, t2, t3, t4, t5, t6, t7⟩ := hnb.eight
            clear hnx hbk hbka hgo2 hnb hbw
            go_upto_region 12 with (fail)
            generalize w3.alloc (.cells #[.int .i64 (x.sn : Nat), .bool false, .bool true, .bool CL, .int .i64 (fr : Nat), .bool CS, .bool CE, .slice Ac CP.length cc] 61) = w5 at *
            go_wp2
            go_roundw
            case rel => exact ⟨j + 1, by omega, by omega, by go_num, by go_num, HNX.out, HGO2.out⟩
            case measure => simp [intOf]; omega
          · have d1 : decide (n < hd2 + 2 + ((j : Int) + 1) - fr) = true := decide_eq_true (by omega)
            have hend : J = j := by
              rw [HGO.out, show e0 + 1 - j = (e0 + 1 - (j + 1)) + 1 by omega, goTo, HSF.out, if_neg (by simpa using hfit)]
            subst hend
            go_wp2
            go_meet
            exact ⟨rfl, HBT.out.below (HB3.out.alloc HB3.out.size _)⟩
        · have hend : J = j := by
            have := HGO.out
            rw [show e0 + 1 - j = 0 by omega] at this
            exact this
          subst hend
          have HBT := Lib.hid hbest
          clear hbest
          go_wp2
          go_meet
          exact ⟨rfl, HBT.out⟩
    case rest =>
    obtain ⟨rfl, hbest⟩ := hcut
    have hb2 := hbest.1
    have hA4 := HA2.out.below hb2
    have hk4 : Kept (fun k _ => D k) w wc := HK2.out.trans ((Kept.of_below hb2).mono_at fun k o ho hm => by have := lt_of_heap ho; omega)
    have hRe := HR.out
    unfold againP at hRe
    rw [HPD.out] at hRe
    dsimp only at hRe
    rw [if_neg (by rw [HHH.out]; exact hcond), ← HJ.out] at hRe
    by_cases hJ1 : J = fr
    · rw [if_pos hJ1] at hRe
      have HRE := Lib.hid hRe
      have dJ : ((J : Int) == (fr : Int)) = true := by simp; omega
      have HJ1 := Lib.hid hJ1
      have HA4 := Lib.hid hA4
      have HK4 := Lib.hid hk4
      clear hRe hJ1 hA4 hk4 hbest hb2
      go_wp2
      go_ret
      rw [← HRE.out]
      exact ⟨_, rfl, World.ownsRow_nil _ _ _ _, HA4.out.o HK4.out⟩
    rw [if_neg hJ1] at hRe
    have dJ : ((J : Int) == (fr : Int)) = false := by simp; omega
    have hfJ : fr < J := by omega
    obtain ⟨-, ⟨hc1, _⟩ | ⟨_, Ac, cc, hbb, hpo⟩⟩ := hbest
    · exact absurd hc1 hJ1
    have hO4 := HO2.out.stay (w' := wc) (fun k hk => hb2.block k (HA2.out.lt k hk))
    have hRS4 := HRS2.out.below hb2
    have x10 := hO4.blk.cell 10
    have f10 := hO4.blk.frozen 10
    simp [ouC] at x10
    rw [HLEN.out] at x10
    have hcr := hRS4.cap
    have hcrm := hRS4.mx
    have hJs : J ≤ 0 + sumLen x.ps := by
      have h1 : J ≤ sizeO x := by omega
      unfold sizeO at h1
      omega
    have hvp := cut_valid x.ps 0 fr J hok.ps (Nat.zero_le _) hfJ hJs
    have hcs := cut_sum x.ps 0 fr J (Nat.zero_le _) hJs
    have hvA : validA (x.sn : Nat) true (decide (J = sizeO x)) (fr : Nat) (cutParts x.ps 0 fr J x.ps.length) = true :=
      (validA_iff _ _ _ _ _).2 ⟨by omega, by have := hok.sn; omega, (validB_iff _).2 hvp, fun _ => by rw [hcs]; omega, fun e => by cases e⟩
    have hA5 := hA4
    have hlr : rest.length ≤ 1000 := by have := HLEN.out; omega
    have hpl4 := hO4.blk.lt
    have HO4 := Lib.hid hO4
    have HA4 := Lib.hid hA4
    have HK4 := Lib.hid hk4
    have HBB := Lib.hid hbb
    have HPO := Lib.hid hpo
    have HRS4 := Lib.hid hRS4
    have HVA := Lib.hid hvA
    clear hO4 hA4 hk4 hbb hpo hRS4 hvA hcs hvp hb2 hA5
    by_cases hJ2 : J = e0 + 1
    · have dJ2 : ((J : Int) == (e0 : Int) + 1) = true := by simp; omega
      rw [if_pos hJ2] at hRe
      have HRE := Lib.hid hRe
      have HJ2 := Lib.hid hJ2
      have HJS := Lib.hid hJs
      clear hRe hJ2 hJs
      by_cases hc1 : cr = 1
      · have hr0 : rest = [] := List.eq_nil_of_length_eq_zero (by omega)
        have HR0 := Lib.hid hr0
        clear hr0
        have hcln := cloneSp_any (some ar) rest.length 0 rest wc (by have := HRS4.out.tail; rw [if_pos hc1, hc1] at this; exact this) (by omega)
        have HCLN := Lib.hid hcln
        clear hcln
        go_wp2_with fail
        refine HCLN.out.mono ?_
        rintro e5 w5 ⟨v5, rfl, hv5, hb5⟩
        obtain ⟨F', A5, c5, rfl, hA6, hF6, hk6, hbb6, hpo6⟩ := again_store HA4.out HK4.out HX.out HP.out HO4.out HBB.out HPO.out hb5 hv5 (Nat.le_refl _)
        have q10 := (hb5.cell (p := ⟨p, 10, none⟩) HO4.out.blk.lt).trans x10
        have r10 := (hb5.frozen (p := ⟨p, 10, none⟩) HO4.out.blk.lt).trans f10
        obtain ⟨vl, hps⟩ := hpo6.slsK HDL.out
        have hfi := sfinish_any hA6 HB.out.held (by show (st.out.set i _).length ≤ 512; rw [List.length_set]; exact hw) hf x.sn false true (decide (J = sizeO x)) fr (cutStarts x.ps x.s 0 fr x.ps.length) (cutEnds x.ps x.e 0 J x.ps.length) Ac (cutParts x.ps 0 fr J x.ps.length).length cc vl _ hps HVA.out (by omega) false
        unfold apdu at hfi
        have HFI := Lib.hid hfi
        obtain ⟨t0, t1, t2, t3, t4, t5, t6, t7⟩ := hbb6.eight
        have HK6 := Lib.hid hk6
        have HF6 := Lib.hid hF6
        clear hA6 hF6 hk6 hbb6 hpo6 hps hfi hv5
        go_upto_region 18 with (fail)
        generalize w5.setCell ⟨p, 10, none⟩ (.slice A5 rest.length c5) = w6 at *
        clear q10 r10
        go_wp2_with fail
        refine HFI.out.mono ?_
        rintro e7 w7 ⟨v7, rfl, hv7, hO7⟩
        go_wp2
        go_ret
        rw [← HRE.out]
        exact ⟨v7, rfl, own_base hv7 HK6.out.size, AmO.step HK6.out (Grows.refl _ _) HF6.out hO7⟩
      · have hcln := cloneSp_any _ _ _ rest wc (HRS4.out.tail' hc1) (by omega)
        have HCLN := Lib.hid hcln
        clear hcln
        go_wp2_with fail
        refine HCLN.out.mono ?_
        rintro e5 w5 ⟨v5, rfl, hv5, hb5⟩
        obtain ⟨F', A5, c5, rfl, hA6, hF6, hk6, hbb6, hpo6⟩ := again_store HA4.out HK4.out HX.out HP.out HO4.out HBB.out HPO.out hb5 hv5 (Nat.le_refl _)
        have q10 := (hb5.cell (p := ⟨p, 10, none⟩) HO4.out.blk.lt).trans x10
        have r10 := (hb5.frozen (p := ⟨p, 10, none⟩) HO4.out.blk.lt).trans f10
        obtain ⟨vl, hps⟩ := hpo6.slsK HDL.out
        have hfi := sfinish_any hA6 HB.out.held (by show (st.out.set i _).length ≤ 512; rw [List.length_set]; exact hw) hf x.sn false true (decide (J = sizeO x)) fr (cutStarts x.ps x.s 0 fr x.ps.length) (cutEnds x.ps x.e 0 J x.ps.length) Ac (cutParts x.ps 0 fr J x.ps.length).length cc vl _ hps HVA.out (by omega) false
        unfold apdu at hfi
        have HFI := Lib.hid hfi
        obtain ⟨t0, t1, t2, t3, t4, t5, t6, t7⟩ := hbb6.eight
        have HK6 := Lib.hid hk6
        have HF6 := Lib.hid hF6
        clear hA6 hF6 hk6 hbb6 hpo6 hps hfi hv5
        go_upto_region 18 with (fail)
        generalize w5.setCell ⟨p, 10, none⟩ (.slice A5 rest.length c5) = w6 at *
        clear q10 r10
        go_wp2_with fail
        refine HFI.out.mono ?_
        rintro e7 w7 ⟨v7, rfl, hv7, hO7⟩
        go_wp2
        go_ret
        rw [← HRE.out]
        exact ⟨v7, rfl, own_base hv7 HK6.out.size, AmO.step HK6.out (Grows.refl _ _) HF6.out hO7⟩
    · have dJ2 : ((J : Int) == (e0 : Int) + 1) = false := by simp; omega
      rw [if_neg hJ2] at hRe
      have HRE := Lib.hid hRe
      have HJ2 := Lib.hid hJ2
      have HJS := Lib.hid hJs
      clear hRe hJ2 hJs
      by_cases hc1 : cr = 1
      · have hr0 : rest = [] := List.eq_nil_of_length_eq_zero (by omega)
        have HR0 := Lib.hid hr0
        have HT1 : SpAt wc (some ar) rest.length 0 rest := by have := HRS4.out.tail; rw [if_pos hc1, hc1] at this; exact this
        clear hr0
        have hW := (Blk.new (wc.alloc (.cells #[.int .i64 (J : Nat), .int .i64 (e0 : Nat)] 93)) 80 #[.slice (some ⟨wc.heap.size, 0, none⟩) 1 1, .slice (some ar) rest.length 0])
        rw [World.size_alloc] at hW
        have hTW : TwoSp ((wc.alloc (.cells #[.int .i64 (J : Nat), .int .i64 (e0 : Nat)] 93)).alloc (.cells #[.slice (some ⟨wc.heap.size, 0, none⟩) 1 1, .slice (some ar) rest.length 0] 80)) (wc.heap.size + 1) (some ⟨wc.heap.size, 0, none⟩) (some ar) 1 1 rest.length (0) [(J, e0)] rest :=
          ⟨hW, (SpAt.new wc 93 J e0).alloc _, ((HT1).alloc _).alloc _⟩
        have hcon := concatSp_any (wc.heap.size + 1) _ _ 1 1 rest.length (0) [(J, e0)] rest _ hTW (by omega) (by omega)
        have HCON := Lib.hid hcon
        clear hW hTW hcon
        go_wp2_with fail
        refine HCON.out.mono ?_
        rintro e5 w5 ⟨v5, rfl, hv5, hb5'⟩
        have hb5 : Below wc.heap.size wc w5 := (((Below.refl _ wc).alloc (Nat.le_refl _) _).alloc (by simp) _).trans (hb5'.mono (by simp; omega))
        have hv5 : w5.ownsRow ((wc.alloc (.cells #[.int .i64 (J : Nat), .int .i64 (e0 : Nat)] 93)).alloc (.cells #[.slice (some ⟨wc.heap.size, 0, none⟩) 1 1, .slice (some ar) rest.length 0] 80)).heap.size 93 2 v5 ((J, e0) :: rest).length (spC ((J, e0) :: rest)) := hv5
        clear hb5'
        obtain ⟨F', A5, c5, rfl, hA6, hF6, hk6, hbb6, hpo6⟩ := again_store HA4.out HK4.out HX.out HP.out HO4.out HBB.out HPO.out hb5 hv5 (by simp; omega)
        have q10 := (hb5.cell (p := ⟨p, 10, none⟩) HO4.out.blk.lt).trans x10
        have r10 := (hb5.frozen (p := ⟨p, 10, none⟩) HO4.out.blk.lt).trans f10
        obtain ⟨vl, hps⟩ := hpo6.slsK HDL.out
        have hfi := sfinish_any hA6 HB.out.held (by show (st.out.set i _).length ≤ 512; rw [List.length_set]; exact hw) hf x.sn false true (decide (J = sizeO x)) fr (cutStarts x.ps x.s 0 fr x.ps.length) (cutEnds x.ps x.e 0 J x.ps.length) Ac (cutParts x.ps 0 fr J x.ps.length).length cc vl _ hps HVA.out (by omega) false
        unfold apdu at hfi
        have HFI := Lib.hid hfi
        obtain ⟨t0, t1, t2, t3, t4, t5, t6, t7⟩ := hbb6.eight
        have HK6 := Lib.hid hk6
        have HF6 := Lib.hid hF6
        clear hA6 hF6 hk6 hbb6 hpo6 hps hfi hv5
        go_upto_region 18 with (fail)
        generalize w5.setCell ⟨p, 10, none⟩ (.slice A5 ((J, e0) :: rest).length c5) = w6 at *
        clear q10 r10
        go_wp2_with fail
        refine HFI.out.mono ?_
        rintro e7 w7 ⟨v7, rfl, hv7, hO7⟩
        go_wp2
        go_ret
        rw [← HRE.out]
        exact ⟨v7, rfl, own_base hv7 HK6.out.size, AmO.step HK6.out (Grows.refl _ _) HF6.out hO7⟩
      · have hW := (Blk.new (wc.alloc (.cells #[.int .i64 (J : Nat), .int .i64 (e0 : Nat)] 93)) 80 #[.slice (some ⟨wc.heap.size, 0, none⟩) 1 1, .slice (some ⟨ar.block, ar.off + 2, none⟩) rest.length (cr - 1)])
        rw [World.size_alloc] at hW
        have hTW : TwoSp ((wc.alloc (.cells #[.int .i64 (J : Nat), .int .i64 (e0 : Nat)] 93)).alloc (.cells #[.slice (some ⟨wc.heap.size, 0, none⟩) 1 1, .slice (some ⟨ar.block, ar.off + 2, none⟩) rest.length (cr - 1)] 80)) (wc.heap.size + 1) (some ⟨wc.heap.size, 0, none⟩) (some ⟨ar.block, ar.off + 2, none⟩) 1 1 rest.length (cr - 1) [(J, e0)] rest :=
          ⟨hW, (SpAt.new wc 93 J e0).alloc _, ((HRS4.out.tail' hc1).alloc _).alloc _⟩
        have hcon := concatSp_any (wc.heap.size + 1) _ _ 1 1 rest.length (cr - 1) [(J, e0)] rest _ hTW (by omega) (by omega)
        have HCON := Lib.hid hcon
        clear hW hTW hcon
        go_wp2_with fail
        refine HCON.out.mono ?_
        rintro e5 w5 ⟨v5, rfl, hv5, hb5'⟩
        have hb5 : Below wc.heap.size wc w5 := (((Below.refl _ wc).alloc (Nat.le_refl _) _).alloc (by simp) _).trans (hb5'.mono (by simp; omega))
        have hv5 : w5.ownsRow ((wc.alloc (.cells #[.int .i64 (J : Nat), .int .i64 (e0 : Nat)] 93)).alloc (.cells #[.slice (some ⟨wc.heap.size, 0, none⟩) 1 1, .slice (some ⟨ar.block, ar.off + 2, none⟩) rest.length (cr - 1)] 80)).heap.size 93 2 v5 ((J, e0) :: rest).length (spC ((J, e0) :: rest)) := hv5
        clear hb5'
        obtain ⟨F', A5, c5, rfl, hA6, hF6, hk6, hbb6, hpo6⟩ := again_store HA4.out HK4.out HX.out HP.out HO4.out HBB.out HPO.out hb5 hv5 (by simp; omega)
        have q10 := (hb5.cell (p := ⟨p, 10, none⟩) HO4.out.blk.lt).trans x10
        have r10 := (hb5.frozen (p := ⟨p, 10, none⟩) HO4.out.blk.lt).trans f10
        obtain ⟨vl, hps⟩ := hpo6.slsK HDL.out
        have hfi := sfinish_any hA6 HB.out.held (by show (st.out.set i _).length ≤ 512; rw [List.length_set]; exact hw) hf x.sn false true (decide (J = sizeO x)) fr (cutStarts x.ps x.s 0 fr x.ps.length) (cutEnds x.ps x.e 0 J x.ps.length) Ac (cutParts x.ps 0 fr J x.ps.length).length cc vl _ hps HVA.out (by omega) false
        unfold apdu at hfi
        have HFI := Lib.hid hfi
        obtain ⟨t0, t1, t2, t3, t4, t5, t6, t7⟩ := hbb6.eight
        have HK6 := Lib.hid hk6
        have HF6 := Lib.hid hF6
        clear hA6 hF6 hk6 hbb6 hpo6 hps hfi hv5
        go_upto_region 18 with (fail)
        generalize w5.setCell ⟨p, 10, none⟩ (.slice A5 ((J, e0) :: rest).length c5) = w6 at *
        clear q10 r10
        go_wp2_with fail
        refine HFI.out.mono ?_
        rintro e7 w7 ⟨v7, rfl, hv7, hO7⟩
        go_wp2
        go_ret
        rw [← HRE.out]
        exact ⟨v7, rfl, own_base hv7 HK6.out.size, AmO.step HK6.out (Grows.refl _ _) HF6.out hO7⟩
end
end Go.Proofs.YtmiipkaobloedaaGreat
namespace Go.Proofs.YtmiipkaobloedaaGreat
open Go.RowKit

section
variable {D F : Nat → Prop} {g : Nat} {c : Cf} {st : Sd} {vq vo : Value} {vs os : List Value} {w : World}
theorem AmS.grow (h : AmS w D F g c st vq vs vo os) {W2 w5 : World} {x : Ou} {Ap A5 : Option Addr} {cp c5 p base : Nat} (hb2 : Below w.heap.size w W2) (hp : Blk W2 p 82 (ouC x (.slice Ap x.ps.length cp) (.slice none 0 0))) (hpw : w.heap.size ≤ p)
    (hpo : PartsOwn W2 base (.slice Ap x.ps.length cp) x.ps) (hbase : w.heap.size ≤ base) (hpe : x.pend = []) (_hxp : ∀ q ∈ x.ps, 1 ≤ q.length)
    (hq : OwnQ w5 0 75 (.slice A5 (st.out.length + 1) c5) (st.out.length + 1) (os ++ [.pointer (some ⟨p, 0, none⟩)])) (hg : (W2.alloc (.cells #[.pointer (some ⟨p, 0, none⟩)] 75)).grownBy w5 (qBlock vo))
    (hq5 : ∀ k, qBlock (.slice A5 (st.out.length + 1) c5) = some k → qBlock vo = some k ∨ (W2.alloc (.cells #[.pointer (some ⟨p, 0, none⟩)] 75)).heap.size ≤ k) :
    ∃ D' F' vl, AmS (w5.setCell ⟨g, 12, none⟩ (.slice A5 (st.out.length + 1) c5)) D' F' g c { st with out := st.out ++ [x] } vq vs (.slice A5 (st.out.length + 1) c5) (os ++ [.pointer (some ⟨p, 0, none⟩)]) ∧ Grows w D D' ∧ Grows w F F' ∧
      Kept (fun k _ => D k) w (w5.setCell ⟨g, 12, none⟩ (.slice A5 (st.out.length + 1) c5)) ∧ OuAt (w5.setCell ⟨g, 12, none⟩ (.slice A5 (st.out.length + 1) c5)) D' F' p x Ap cp vl none 0 := by
  have hz2 := hb2.size
  have hzA : (W2.alloc (.cells #[.pointer (some ⟨p, 0, none⟩)] 75)).heap.size = W2.heap.size + 1 := World.size_alloc _ _
  have hgl := h.blk.lt
  have hgA := (h.blk.below hb2 hgl).alloc (.cells #[.pointer (some ⟨p, 0, none⟩)] 75)
  have hg5 := hgA.grown hg (fun e => h.gne.2 e.symm)
  have hz5 := hg.size
  have hz6 : (w5.setCell ⟨g, 12, none⟩ (.slice A5 (st.out.length + 1) c5)).heap.size = w5.heap.size := by simp [World.setCell]
  have hh2 : ∀ k, k < W2.heap.size → k ≠ g → qBlock vo ≠ some k → (w5.setCell ⟨g, 12, none⟩ (.slice A5 (st.out.length + 1) c5)).heap[k]? = W2.heap[k]? := fun k hk hkg hkq => by
    rw [heap_far (show k ≠ (⟨g, 12, none⟩ : Addr).block from hkg), hg.block k (by omega) (fun e => hkq e.symm), Below.heap_alloc _ _ k hk]
  have hh : ∀ k, k < w.heap.size → k ≠ g → qBlock vo ≠ some k → (w5.setCell ⟨g, 12, none⟩ (.slice A5 (st.out.length + 1) c5)).heap[k]? = w.heap[k]? := fun k hk hkg hkq => (hh2 k (by omega) hkg hkq).trans (hb2.block k hk)
  have hkF : ∀ k, F k → k ≠ g → qBlock vq ≠ some k → qBlock vo ≠ some k → (w5.setCell ⟨g, 12, none⟩ (.slice A5 (st.out.length + 1) c5)).heap[k]? = w.heap[k]? := fun k hf h1 _ h2 => hh k (h.lt k hf) h1 h2
  have hfr : ∀ k, w.heap.size ≤ k → k ≠ g ∧ qBlock vo ≠ some k := fun k hk => ⟨by omega, fun e => by have := (h.or_.lt e).2; omega⟩
  have hq6 := hq.store hg5 (by decide) (i := 12) (.slice A5 (st.out.length + 1) c5)
  have hfar : ∀ k, qBlock (.slice A5 (st.out.length + 1) c5) = some k → D k ∨ W2.heap.size + 1 ≤ k := fun k hk => by
    rcases hq5 k hk with e | e
    · exact .inl (h.od k e)
    · exact .inr (by omega)
  have hpl := hp.lt
  have hnn : ∀ k, F k → ¬ D k → ¬ (D k ∨ k = p ∨ qBlock (.slice A5 (st.out.length + 1) c5) = some k) := fun k hf hd e => by
    have := h.lt k hf
    rcases e with e | e | e
    · exact hd e
    · omega
    · rcases hfar k e with e | e
      · exact hd e
      · omega
  obtain ⟨vl, h1, h2⟩ := hpo
  have hfp : (w5.setCell ⟨g, 12, none⟩ (.slice A5 (st.out.length + 1) c5)).heap[p]? = W2.heap[p]? := hh2 p hpl (hfr p hpw).1 (hfr p hpw).2
  have hin : ∀ (k : Nat), base ≤ k → k < W2.heap.size → k ≠ p → (F k ∨ (w.heap.size ≤ k ∧ k < w5.heap.size)) ∧ ¬ (D k ∨ k = p ∨ qBlock (.slice A5 (st.out.length + 1) c5) = some k) := fun k hk1 hk2 hk3 => by
    refine ⟨.inr ⟨by omega, by omega⟩, ?_⟩
    rintro (e | e | e)
    · have := h.lt k (h.sub k e)
      omega
    · exact hk3 e
    · rcases hfar k e with e | e
      · have := h.lt k (h.sub k e)
        omega
      · omega
  have hOx : OuAt (w5.setCell ⟨g, 12, none⟩ (.slice A5 (st.out.length + 1) c5)) (fun k => D k ∨ k = p ∨ qBlock (.slice A5 (st.out.length + 1) c5) = some k) (fun k => F k ∨ (w.heap.size ≤ k ∧ k < w5.heap.size)) p x Ap cp vl none 0 := by
    refine ⟨?_, .inr (.inl rfl), .inr ⟨hpw, by omega⟩, ⟨(own_sl' h1).stay (fun ad e => ?_), rfl, fun i q hi => ?_⟩, fun ad e => ?_, fun i v hv ad e => ?_, by rw [hpe]; exact SpAt.nil _, fun ad e => by cases e⟩
    · have : Blk W2 p 82 (ouC x (.slice Ap x.ps.length cp) (.slice none x.pend.length 0)) := by rw [hpe]; exact hp
      exact hfp.trans this
    · subst e
      have hl := h1.lt ad.block rfl
      exact hh2 _ hl.2 (hfr _ (by omega)).1 (hfr _ (by omega)).2
    · obtain ⟨A, cq, e, ho⟩ := h2 i q hi
      refine ⟨A, cq, e, (own_sl' ho).stay fun ad ea => ?_⟩
      subst ea
      have hl := ho.lt ad.block rfl
      exact hh2 _ hl.2 (hfr _ (by omega)).1 (hfr _ (by omega)).2
    · subst e
      have hl := h1.lt ad.block rfl
      exact hin _ hl.1 hl.2 (fun e2 => own_blk_ne h1 hp (by decide) (by rw [← e2]; rfl))
    · have hil : i < x.ps.length := by
        have := (List.getElem?_eq_some_iff.1 hv).1
        rw [(own_sl' h1).len] at this
        exact this
      obtain ⟨q, hqi⟩ : ∃ q, x.ps[i]? = some q := ⟨_, List.getElem?_eq_getElem hil⟩
      obtain ⟨A, cq, e2, ho⟩ := h2 i q hqi
      rw [e2] at hv
      cases hv
      have e3 : A = some ad := e
      subst e3
      have hl := ho.lt ad.block rfl
      exact hin _ hl.1 hl.2 (fun e2 => own_blk_ne ho hp (by decide) (by rw [← e2]; rfl))
  refine ⟨fun k => D k ∨ k = p ∨ qBlock (.slice A5 (st.out.length + 1) c5) = some k, fun k => F k ∨ (w.heap.size ≤ k ∧ k < w5.heap.size), vl, ⟨hg5.set_ 12 (.slice A5 (st.out.length + 1) c5), .inl h.gd, ?_, ?_, ?_, fun k hk => .inl (h.qd k hk), ?_, ?_, fun k hk => .inr (.inr hk), ?_, ?_⟩, ?_, ?_, ?_, hOx⟩
  · rintro k (hk | rfl | hk)
    · exact .inl (h.sub k hk)
    · exact .inr ⟨hpw, by omega⟩
    · rcases hfar k hk with e | e
      · exact .inl (h.sub k e)
      · exact .inr ⟨by omega, by have := (hq6.lt hk).2; omega⟩
  · rintro k (hk | ⟨hk1, hk2⟩)
    · have := h.lt k hk
      omega
    · omega
  · exact h.qr.keep fun k hk => hh k (h.qr.lt hk).2 (fun e => h.gne.1 (by rw [← e]; exact hk)) (h.qne k hk)
  · intro i q hi
    obtain ⟨A, cc, k1, k2, k3⟩ := h.qes hkF i q hi
    exact ⟨A, cc, k1, k2, k3.sets (fun k hk => .inl hk) hnn⟩
  · have hl : (st.out ++ [x]).length = st.out.length + 1 := by simp
    show OwnQ _ 0 _ _ (st.out ++ [x]).length _
    rw [hl]
    exact hq6
  · intro i y hi
    have hi' : (st.out ++ [x])[i]? = some y := hi
    rcases Nat.lt_or_ge i st.out.length with hlt | hge
    · rw [List.getElem?_append_left hlt] at hi'
      obtain ⟨p', Ap', cp', vp', Ar', cr', k1, k2⟩ := h.oes hkF i y hi'
      exact ⟨p', Ap', cp', vp', Ar', cr', by rw [List.getElem?_append_left (by rw [h.or_.1]; exact hlt)]; exact k1, k2.sets (fun k hk => .inl hk) (fun k hk => .inl hk) hnn⟩
    · have hi0 : i = st.out.length := by
        have := (List.getElem?_eq_some_iff.1 hi').1
        simp at this
        omega
      subst hi0
      simp at hi'
      subst hi'
      exact ⟨p, Ap, cp, vl, none, 0, by rw [← h.or_.1]; simp, hOx⟩
  · intro i j v hi hj
    have hol := h.or_.1
    have hold : ∀ (a : Nat) (u : Value), a < st.out.length → os[a]? = some u → u ≠ .pointer (some ⟨p, 0, none⟩) := fun a u ha hu e => by
      obtain ⟨x', hx'⟩ : ∃ x', st.out[a]? = some x' := ⟨_, List.getElem?_eq_getElem ha⟩
      obtain ⟨p', _, _, _, _, _, k1, k2⟩ := h.oe a x' hx'
      rw [hu] at k1
      cases k1
      cases e
      have := h.lt p k2.f
      omega
    have key : ∀ a u, (os ++ [Value.pointer (some ⟨p, 0, none⟩)])[a]? = some u → (a < st.out.length ∧ os[a]? = some u) ∨ (a = st.out.length ∧ u = .pointer (some ⟨p, 0, none⟩)) := fun a u hu => by
      rcases Nat.lt_or_ge a st.out.length with hlt | hge
      · rw [List.getElem?_append_left (by omega)] at hu
        exact .inl ⟨hlt, hu⟩
      · have ha : a = st.out.length := by
          have := (List.getElem?_eq_some_iff.1 hu).1
          simp at this
          omega
        subst ha
        rw [List.getElem?_append_right (by omega), hol] at hu
        simp at hu
        exact .inr ⟨rfl, hu.symm⟩
    rcases key i v hi with ⟨a1, a2⟩ | ⟨a1, a2⟩ <;> rcases key j v hj with ⟨b1, b2⟩ | ⟨b1, b2⟩
    · exact h.inj i j v a2 b2
    · exact absurd b2 (hold i v a1 a2)
    · exact absurd a2 (hold j v b1 b2)
    · omega
  · rintro k (hk | rfl | hk)
    · exact .inl hk
    · exact .inr hpw
    · rcases hfar k hk with e | e
      · exact .inl e
      · exact .inr (by omega)
  · rintro k (hk | ⟨hk1, hk2⟩)
    · exact .inl hk
    · exact .inr hk1
  · have hk1 : Kept (fun k _ => D k) w W2 := (Kept.of_below hb2).mono_at fun k o ho hm => by have := lt_of_heap ho; omega
    exact ((hk1.alloc _).grown hg (fun k hk o ho => h.od k hk)).setCell (p := ⟨g, 12, none⟩) (fun _ _ => h.gd) _
end
end Go.Proofs.YtmiipkaobloedaaGreat
