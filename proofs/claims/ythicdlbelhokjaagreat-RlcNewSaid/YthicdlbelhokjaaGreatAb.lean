/- Words for memory, continued: rows of bytes, frames, copies. -/
import Derived.Test.YthicdlbelhokjaaGreatAa
import Derived.Deep.RegionLaw
import Derived.Laws.IdiomStrings
import Derived.Laws.BytesArg
import Derived.Lib.SlBytesConst
import Derived.Lib.BufferRead
import Derived.Lib.SmallJoins
import Derived.BigRegion
import Derived.Deep.RegionHeld3
import Derived.Deep.DeepCutAuto
namespace Go.Proofs.YthicdlbelhokjaaGreat
open Go.RowKit
attribute [local go_sem] Oper.semAt_some

theorem u8_info : (Tryz.prog.info? 5).map (fun i => (i.zero, i.size, i.bytes)) = some (some (.int .u8 0), 1, 1) := by kernel_rfl
theorem und51 : Tryz.prog.underlying 51 = some (.slice 5) := by kernel_rfl
theorem und5 : Tryz.prog.underlying 5 = some (.int .u8) := by kernel_rfl
theorem und9 : Tryz.prog.underlying 9 = some .string := by kernel_rfl
theorem sl_info : (Tryz.prog.info? 51).map (fun i => (i.zero, i.size, i.bytes)) = some (some (.slice none 0 0), 1, 24) := by kernel_rfl
theorem und43 : Tryz.prog.underlying 43 = some (.slice 51) := by kernel_rfl
theorem int_info : (Tryz.prog.info? 3).map (fun i => (i.zero, i.size, i.bytes)) = some (some (.int .i64 0), 1, 8) := by kernel_rfl
theorem ret_int {k : IntKind} {a b : Int} (h : a = b) : Ending.returned (.int k a) = .returned (.int k b) := by rw [h]
theorem ret_bool {a b : Bool} (h : a = b) : Ending.returned (.bool a) = .returned (.bool b) := by rw [h]
theorem conv_sl {w : World} {B n c : Nat} {A : Option Addr} {l : List UInt8} (h : Sl w B A n c (bvs l)) : (convert 51 9 (.slice A n c)).run Tryz.prog w = .ok (.string ⟨l.toArray⟩) w := by
  have hl : l.length = n := by simpa using h.len
  subst hl
  rcases A with _ | a
  · have h0 : l.length = 0 := by
      rcases Nat.eq_zero_or_pos l.length with h0 | h0
      · exact h0
      · obtain ⟨_, e, _⟩ := h.at_ h0; cases e
    have : l = [] := List.eq_nil_of_length_eq_zero h0
    subst this
    exact Lib.run_convert_nil_bytes w 51 9 5 c und51 und5 und9
  · refine run_convert_bytes_back w 51 9 5 a c l und51 und5 und9 (fun j hj => ?_)
    obtain ⟨ad, e, _, hc⟩ := h.at_ (by omega)
    injection e with e
    subst e
    refine hc j _ ?_
    unfold bvs
    rw [List.getElem?_map, List.getElem?_eq_getElem hj]
    rfl
/-- a block that is known whole reads as a slice -/
theorem sl_lit {w : World} {b : Nat} {cs : Array Value} {t : TypeId} {fr : Nat × Nat} {xs : List Value} (h : w.heap[b]? = some (.cells cs t fr)) (e : cs.toList = xs) (hn : xs.length ≤ 9223372036854775807) : Sl w w.heap.size (some ⟨b, 0, none⟩) xs.length xs.length xs :=
  ⟨rfl, Nat.le_refl _, hn, fun _ => ⟨_, rfl, lt_of_heap h, fun j u hu => by rw [← e] at hu; exact World.news_of_block h j u hu⟩⟩
theorem heap_new (w : World) (o : Obj) : (w.alloc o).heap[w.heap.size]? = some o := heap_alloc_new w o
/-- A call hands back a row of its own, from block B on, and keeps what lay below. -/
def GivesRow (B : Nat) (t : TypeId) (w : World) (n : Nat) (xs : List Value) (e : Ending) (w' : World) : Prop :=
  ∃ v, e = .returned v ∧ w'.ownsRow B t 1 v n xs ∧ Below B w w'
set_option maxHeartbeats 400000 in
theorem clone_any (A : Option Addr) (n c : Nat) (l : List UInt8) (w : World) (h : Sl w w.heap.size A n c (bvs l)) (hsm : n ≤ 1000000000) :
    Calls Tryz.prog 56 #[.slice A n c] w (GivesRow w.heap.size 5 w n (bvs l)) := by
  have hnil := fun (W : World) => Lib.run_eql_slice_nil (P := Tryz.prog) W 51 5 A n c 0 0 und51
  obtain ⟨i0, hi, hz0, hz1, hz2⟩ := info_parts u8_info
  have hs1 := h.alloc (Nat.le_refl _) (.cells #[] 5)
  rcases A with _ | ad
  · obtain rfl : n = 0 := by
      rcases Nat.eq_zero_or_pos n with h0 | h0
      · exact h0
      · obtain ⟨_, e, _⟩ := h.at_ h0; cases e
    have hl : bvs l = [] := List.eq_nil_of_length_eq_zero h.len
    go_enter Tryz.func56, Tryz.ntmps56
    go_wp2
    go_ret
    exact ⟨_, rfl, by rw [hl]; exact World.ownsRow_nil _ _ _ _, Below.refl _ _⟩
  · go_enter Tryz.func56, Tryz.ntmps56
    go_wp2_with (at_builtin; refine wpList_append_sl _ rfl _ _ 51 rfl w.heap.size 5 i0 (.int .u8 0) 1 und51 hi hz0 hz1 hz2 rfl (.slice (some ⟨w.heap.size, 0, none⟩) 0 0) 0 [] rfl ?c0 w.heap.size (some ad) n c (bvs l) rfl hs1 (one_bvs l) ?c3 ?c4 ?c5 ?_)
    case c0 => exact World.ownsRow_lit w #[] 0 (Nat.le_refl _) (by unfold maxLen; omega) rfl
    case c3 => unfold maxLen; omega
    case c4 => omega
    case c5 => simp
    intro v' w1 hown' hgrow _
    go_wp2
    go_ret
    exact ⟨_, rfl, by simpa using hown', ((Below.refl _ w).alloc (Nat.le_refl _) _).grown hgrow (by simp) (by simp [Value.ownBlock])⟩
def sumLen (ps : List (List UInt8)) : Nat := (ps.map List.length).sum
theorem sumLen_nil : sumLen [] = 0 := rfl
theorem sumLen_take (ps : List (List UInt8)) (k : Nat) (h : k < ps.length) : sumLen (ps.take (k + 1)) = sumLen (ps.take k) + (ps[k]?.getD []).length := by
  unfold sumLen
  rw [List.take_add_one, List.getElem?_eq_getElem h, List.map_append, List.sum_append]
  rfl
theorem sumLen_take_le (ps : List (List UInt8)) (k : Nat) : sumLen (ps.take k) ≤ sumLen ps := by
  conv => rhs; rw [← List.take_append_drop k ps]
  unfold sumLen
  rw [List.map_append, List.sum_append]
  omega
theorem mem_le_sumLen {ps : List (List UInt8)} {p : List UInt8} (h : p ∈ ps) : p.length ≤ sumLen ps := by
  induction ps with
  | nil => cases h
  | cons q ps ih =>
    unfold sumLen at ih ⊢
    rw [List.map_cons, List.sum_cons]
    rcases List.mem_cons.1 h with rfl | h
    · omega
    · have := ih h; omega
theorem own_sl' {w : World} {base : Nat} {e : TypeId} {A : Option Addr} {c n : Nat} {xs : List Value} (h : w.ownsRow base e 1 (.slice A n c) n xs) : Sl w w.heap.size A n c xs := by
  obtain ⟨A', c', he, hs, _⟩ := own_sl h
  cases he
  exact hs
/-- an owned row behind a store into a block of another type -/
theorem own_store {w : World} {base : Nat} {e t : TypeId} {v : Value} {n g i : Nat} {xs : List Value} {cs : Array Value} (h : w.ownsRow base e 1 v n xs) (hg : Blk w g t cs) (hne : e ≠ t) (u : Value) : (w.setCell ⟨g, i, none⟩ u).ownsRow base e 1 v n xs :=
  h.kept (grownBy_setAt w g i u) (.inr (own_blk_ne h hg hne))
/-- a new block of one cell reads as a slice, behind a draw too -/
theorem sl_new1 (W : World) (x : Value) (t : TypeId) : Sl (W.alloc (.cells #[x] t)).drew (W.alloc (.cells #[x] t)).heap.size (some ⟨W.heap.size, 0, none⟩) 1 1 [x] :=
  (sl_lit (xs := [x]) (heap_new W (.cells #[x] t)) rfl (by simp)).drew
/-- a part of a slice -/
theorem Sl.cut {w : World} {B n c k : Nat} {A : Option Addr} {xs : List Value} (h : Sl w B A n c xs) (hk : k ≤ n) : Sl w B (if c = k then A else A.map (·.add k)) (n - k) (c - k) (xs.drop k) := by
  refine ⟨by rw [List.length_drop, h.len], by have := h.cap; omega, by have := h.mx; omega, fun hn => ?_⟩
  obtain ⟨ad, rfl, hb, hc⟩ := h.at_ (by omega)
  have := h.cap
  rw [if_neg (by omega)]
  refine ⟨ad.add k, rfl, by rw [block_add]; exact hb, fun j u hu => ?_⟩
  rw [add_add]
  exact hc _ u (by rw [← hu, List.getElem?_drop])
theorem Sl.upto' {w : World} {B : Nat} {A : Option Addr} {n c k : Nat} {xs : List Value} (h : Sl w B A n c xs) (hk : k ≤ n) : Sl w B A k c (xs.take k) := by
  have hl := h.len
  refine ⟨by simp; omega, by have := h.cap; omega, h.mx, fun hp => ?_⟩
  obtain ⟨ad, e, hb, hc⟩ := h.at_ (by omega)
  refine ⟨ad, e, hb, fun j u hu => hc j u ?_⟩
  rw [List.getElem?_take] at hu
  split at hu
  · exact hu
  · cases hu
theorem Sl.mid {w : World} {B n c a m : Nat} {A : Option Addr} {xs : List Value} (h : Sl w B A n c xs) (hm : a + m ≤ n) : Sl w B (if c = a then A else A.map (·.add a)) m (c - a) ((xs.drop a).take m) := by
  have h1 := h.cut (k := a) (by omega)
  exact h1.upto' (k := m) (by omega)
theorem sl_new0 (W : World) (x : Value) (t : TypeId) : Sl (W.alloc (.cells #[x] t)) (W.alloc (.cells #[x] t)).heap.size (some ⟨W.heap.size, 0, none⟩) 1 1 [x] := ⟨(sl_new1 W x t).len, (sl_new1 W x t).cap, (sl_new1 W x t).mx, (sl_new1 W x t).at_⟩
theorem own_kept {w w' : World} {M : Nat → Obj → Prop} {base : Nat} {e : TypeId} {size n : Nat} {v : Value} {xs : List Value} (h : w.ownsRow base e size v n xs) (hk : Kept M w w') (hM : ∀ k o, IsRow o e → v.ownBlock = some k → ¬ M k o) : w'.ownsRow base e size v n xs := by
  rcases h.2 with ⟨rfl, h0⟩ | ⟨g', cap, cur, rfl, h1, h2, h3⟩
  · exact ⟨h.1, .inl ⟨rfl, h0⟩⟩
  · exact ⟨h.1, .inr ⟨g', cap, cur, rfl, h1, hk.same _ _ h2 (hM _ _ ⟨_, _, rfl⟩ rfl), h3⟩⟩
theorem own_keptB {M : Nat → Obj → Prop} {w w' : World} {base : Nat} {e : TypeId} {n : Nat} {v : Value} {xs : List Value} (h : w.ownsRow base e 1 v n xs) (hk : Kept M w w') (hn : ∀ g o, v.ownBlock = some g → w.heap[g]? = some o → IsRow o e → ¬ M g o) : w'.ownsRow base e 1 v n xs := by
  rcases h.2 with ⟨rfl, h0⟩ | ⟨g, cap, cur, rfl, hb, hh, hr⟩
  · exact ⟨h.1, .inl ⟨rfl, h0⟩⟩
  · exact ⟨h.1, .inr ⟨g, cap, cur, rfl, hb, hk.same g _ hh (hn g _ (by simp [Value.ownBlock]) hh ⟨_, _, rfl⟩), hr⟩⟩
theorem isRow_ne {o : Obj} {a b : TypeId} (h : IsRow o a) (h' : IsRow o b) (hne : a ≠ b) : False := by
  obtain ⟨cs, fr, rfl⟩ := h
  obtain ⟨cs', fr', e⟩ := h'
  cases e
  exact hne rfl
theorem Blk.isRow {w : World} {g : Nat} {t : TypeId} {cs : Array Value} (h : Blk w g t cs) {o : Obj} (ho : w.heap[g]? = some o) : IsRow o t := by
  unfold Blk at h
  rw [h] at ho
  cases ho
  exact ⟨_, _, rfl⟩
theorem own_isRow' {w : World} {base : Nat} {e : TypeId} {n k : Nat} {v : Value} {xs : List Value} {o : Obj} (h : w.ownsRow base e 1 v n xs) (hk : v.ownBlock = some k) (ho : w.heap[k]? = some o) : IsRow o e := by
  obtain ⟨o', ho', hr, _⟩ := own_isRow h hk
  rw [ho] at ho'
  cases ho'
  exact hr
theorem OwnQ.isRow {w : World} {base : Nat} {e : TypeId} {n k : Nat} {v : Value} {xs : List Value} {o : Obj} (h : OwnQ w base e v n xs) (hk : qBlock v = some k) (ho : w.heap[k]? = some o) : IsRow o e := by
  obtain ⟨cur, hh, _⟩ := h.row hk
  rw [ho] at hh
  cases hh
  exact ⟨_, _, rfl⟩
theorem OwnQ.keptM {M : Nat → Obj → Prop} {w w' : World} {base : Nat} {e : TypeId} {v : Value} {n : Nat} {xs : List Value} (h : OwnQ w base e v n xs) (hk : Kept M w w') (hq : ∀ k o, qBlock v = some k → w.heap[k]? = some o → ¬ M k o) : OwnQ w' base e v n xs :=
  h.keep fun g hg => by
    obtain ⟨cur, hh, _⟩ := h.row hg
    exact (hk.same g _ hh (hq g _ hg hh)).trans hh.symm
/-- wr is w with draws behind it -/
def Drew (w wr : World) : Prop := ∃ q, w.drewN q = wr
theorem Drew.refl (w : World) : Drew w w := ⟨0, rfl⟩
theorem Drew.more {w wr : World} (h : Drew w wr) (k : Nat) : Drew w (wr.drewN k) := by
  obtain ⟨q, rfl⟩ := h
  exact ⟨q + k, (World.drewN_drewN w q k).symm⟩
theorem Drew.trans {w w1 w2 : World} (h : Drew w w1) (h' : Drew w1 w2) : Drew w w2 := by
  obtain ⟨q, rfl⟩ := h'
  exact h.more q
theorem Sl.drewn {w wr : World} {B n c : Nat} {A : Option Addr} {xs : List Value} (h : Sl w B A n c xs) (hd : Drew w wr) : Sl wr B A n c xs := by
  obtain ⟨q, rfl⟩ := hd
  exact h.drewN q
theorem Sls.drewn {w wr : World} {B n c : Nat} {A : Option Addr} {vs : List Value} {ps : List (List UInt8)} (h : Sls w B A n c vs ps) (hd : Drew w wr) : Sls wr B A n c vs ps := by
  obtain ⟨q, rfl⟩ := hd
  exact ⟨h.sl.drewN q, h.len, fun i p hi => let ⟨Ai, ci, e, hs⟩ := h.each i p hi; ⟨Ai, ci, e, hs.drewN q⟩⟩
theorem Drew.size {w wr : World} (h : Drew w wr) : wr.heap.size = w.heap.size := by
  obtain ⟨q, rfl⟩ := h
  rfl
theorem Drew.below {w wr : World} (h : Drew w wr) (B : Nat) : Below B w wr := by
  obtain ⟨q, rfl⟩ := h
  exact (Below.refl B w).drewN q
/-- a call answers true and keeps what lay -/
def IsTrue (w : World) (e : Ending) (w' : World) : Prop := e = .returned (.bool true) ∧ Below w.heap.size w w'
theorem blk_quiet' {w w' : World} {g : Nat} {t : TypeId} {cs : Array Value} {row : Option Nat} (h : Blk w g t cs) (hg : w.grownBy w' row) (hr : ∀ r, row = some r → ∃ o : Obj, w.heap[r]? = some o ∧ o.isCells = false) : Blk w' g t cs := by
  refine h.grown hg (fun e => ?_)
  obtain ⟨o, ho, hc⟩ := hr g e.symm
  unfold Blk at h
  rw [h] at ho
  cases ho
  cases hc
theorem Below.drew' {w w' : World} (h : Below w.drew.heap.size w.drew w') : Below w.heap.size w w' := ((Below.refl w.heap.size w).drew).trans h
theorem Sls.onecell {w : World} {B : Nat} {A : Option Addr} {n c : Nat} {vs : List Value} {ps : List (List UInt8)} (h : Sls w B A n c vs ps) : ∀ u ∈ vs, u.oneCell' = true := by
  intro u hu
  obtain ⟨i, hi, rfl⟩ := List.getElem_of_mem hu
  have hl : i < ps.length := by have := h.len; have := h.sl.len; omega
  obtain ⟨Ai, ci, e, _⟩ := h.each i _ (List.getElem?_eq_getElem hl)
  rw [List.getElem?_eq_getElem hi] at e
  rw [Option.some.inj e]
  rfl
end Go.Proofs.YthicdlbelhokjaaGreat
