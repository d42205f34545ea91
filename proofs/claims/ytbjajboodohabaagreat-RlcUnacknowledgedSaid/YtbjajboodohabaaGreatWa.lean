/- The bit writer: add appends one bit. The bit writer: the iterator over a field's bits, put. The bit writer: Clone, Bytes, Align, check, PutAll, Grow, Concat. slices.Grow of nil, slices.Concat. -/
import Derived.Test.YtbjajboodohabaaGreatBa
import Derived.Test.YtbjajboodohabaaGreatMa
import Derived.BigRegion
import Derived.Laws.BitsAllLaws
import Derived.RangeFuncNested
import Derived.RangeFuncBound
import Derived.RangeFuncCalls
import Derived.RangeFuncLeaves
import Derived.Shelf.Abstract
import Derived.Shelf.RegionOpen
import Derived.OwnWalkIn
import Derived.TacticsInMore
import Derived.LoopNIn
import Derived.LoopIn
import Derived.Lib.AppendZeros
namespace Go.Proofs.YtbjajboodohabaaGreat
open Go.RowKit
theorem u8_info : (Tryz.prog.info? 5).map (fun i => (i.zero, i.size, i.bytes)) = some (some (.int .u8 0), 1, 1) := by kernel_rfl
theorem und29 : Tryz.prog.underlying 40 = some (.slice 5) := by kernel_rfl

/-- The writer at block g has written the bits l; what it owns lies from block B on. -/
def Wtr (w : World) (B g : Nat) (l : List Bool) : Prop :=
  B ≤ g ∧ ∃ v, Blk w g 115 #[v, .int .i64 (l.length : Nat)] ∧ w.ownsRow B 5 1 v (pack l).length (bvs (pack l))
/-- What a writer at block g may turn. -/
def Mw (B g : Nat) (k : Nat) (o : Obj) : Prop := B ≤ k ∧ (k = g ∨ IsRow o 5)

/-- a row of bytes that the writer reaches is the writer's to turn -/
theorem Mw.of_row {B g k : Nat} {a w : World} {o o' : Obj} (h : Kept (Mw B g) a w) (ho : a.heap[k]? = some o) (hw : w.heap[k]? = some o') (hr : IsRow o' 5) (hB : B ≤ k) : Mw B g k o := by
  by_cases hm : Mw B g k o
  · exact hm
  · have := h.same k o ho hm
    rw [hw] at this
    cases this
    exact ⟨hB, .inr hr⟩
theorem bvs_snoc (l : List UInt8) (b : UInt8) : bvs l ++ [bv b] = bvs (l ++ [b]) := by simp [bvs]
theorem bvs_set (l : List UInt8) (i : Nat) (b : UInt8) : (bvs l).set i (bv b) = bvs (l.set i b) := by simp [bvs, List.map_set]

theorem or_new (b : Bool) (n : Nat) (h : n % 8 = 0) : Value.int .u8 (bits .or .u8 0 ((b.toNat : Int) * 2 ^ (7 - n % 8) % 256)) = bv (UInt8.ofNat (b.toNat * 2 ^ 7)) := by
  rw [h]
  cases b <;> simp [bv] <;> rfl
theorem or_in (l : List Bool) (b : Bool) (_h : l.length % 8 ≠ 0) :
    Value.int .u8 (bits .or .u8 ((UInt8.ofNat (packN l (l.length / 8))).toNat : Int) ((b.toNat : Int) * 2 ^ (7 - l.length % 8) % 256)) = bv (UInt8.ofNat (packN l (l.length / 8) ||| b.toNat * 2 ^ (7 - l.length % 8))) := by
  have hlt := packN_lt l (l.length / 8)
  have hb : b.toNat * 2 ^ (7 - l.length % 8) < 256 := by
    have h1 : b.toNat * 2 ^ (7 - l.length % 8) ≤ 1 * 2 ^ 7 := Nat.mul_le_mul (by cases b <;> simp) (Nat.pow_le_pow_right (by omega) (by omega))
    omega
  have e : (b.toNat : Int) * 2 ^ (7 - l.length % 8) % 256 = ((b.toNat * 2 ^ (7 - l.length % 8) : Nat) : Int) := by
    rw [Int.emod_eq_of_lt]
    · push_cast; rfl
    · exact Int.mul_nonneg (by omega) (Int.le_of_lt (Int.pow_pos (by omega)))
    · have : ((b.toNat * 2 ^ (7 - l.length % 8) : Nat) : Int) < 256 := by omega
      push_cast at this
      exact this
  have e2 : (UInt8.ofNat (packN l (l.length / 8))).toNat = packN l (l.length / 8) := by simp; omega
  rw [e, e2, u8_or_nat _ _ hlt hb, bv]
  congr 2
  have : packN l (l.length / 8) ||| b.toNat * 2 ^ (7 - l.length % 8) < 2 ^ 8 := Nat.or_lt_two_pow hlt hb
  rw [UInt8.toNat_ofNat', Nat.mod_eq_of_lt this]

set_option maxHeartbeats 800000 in
theorem add_new (B g : Nat) (l : List Bool) (b : Bool) (w : World) (h : Wtr w B g l) (h0 : l.length % 8 = 0) (hsm : l.length < 1000000000) :
    Calls Tryz.prog 109 #[.pointer (some ⟨g, 0, none⟩), .int .u8 b.toNat] w fun e w' => e = .returned (.tuple #[]) ∧ Wtr w' B g (l ++ [b]) ∧ Kept (Mw B g) w w' := by
  obtain ⟨hBg, v, hg, hv⟩ := h
  have hc0 := hg.cell 0
  have hc1 := hg.cell 1
  have hf0 := hg.frozen 0
  have hf1 := hg.frozen 1
  simp at hc0 hc1
  obtain ⟨i0, hi, hz0, hz1, hz2⟩ := info_parts u8_info
  have h8 : ((l.length : Int) % 8 == 0) = true := by simp; omega
  have hP : pack (l ++ [b]) = pack l ++ [UInt8.ofNat (b.toNat * 2 ^ 7)] := pack_snoc_new l b h0
  have hL : (pack l).length = l.length / 8 := by simp [nbytes]; omega
  have HP := Lib.hid hP
  have HL := Lib.hid hL
  have H0 := Lib.hid h0
  clear hP hL h0
  generalize hps : pack l = ps at *
  generalize hn : l.length = n at *
  have HPS := Lib.hid hps
  have HN := Lib.hid hn
  clear hps hn
  have hlen : ps.length < 1000000000 := by have := HL.out; omega
  have e1 : ((n : Int) / 8).toNat = ps.length := by have := HL.out; omega
  have hlt := hg.lt
  go_enter Tryz.func109, Tryz.ntmps109
  go_wp2_with (at_builtin; refine wpList_append_own _ rfl _ _ 40 rfl B 5 i0 (.int .u8 0) 1 1 und29 hi hz0 hz1 hz2 rfl (by decide) _ _ _ rfl (hv.alloc _) ⟨w.heap.size, 0, none⟩ 1 1 [.int .u8 0] rfl rfl ?c1 ?c2 ?c3 ?c4 ?c5 ?_)
  case c1 => exact cell_one_new _ _ _
  case c2 => simp [Value.oneCell']
  case c3 => unfold maxLen; omega
  case c4 => omega
  case c5 => simp; omega
  intro v' w1 hown' hgrow _
  have hg1 : Blk w1 g 115 #[v, .int .i64 n] := (hg.alloc _).grown hgrow (fun e => own_blk_ne hv hg (by decide) e.symm)
  have hk1 : Kept (Mw B g) w w1 := ((Kept.refl _ w).alloc _).grown hgrow (by
    intro k hk o ho
    obtain ⟨o', ho', hr, hb⟩ := own_isRow hv hk
    rw [ho] at ho'
    cases ho'
    exact ⟨hb, .inr hr⟩)
  have hc0 := hg1.cell 0
  have hc1 := hg1.cell 1
  have hf0 := hg1.frozen 0
  have hf1 := hg1.frozen 1
  simp at hc0 hc1
  obtain ⟨g', cap', rfl, hgl, hgl2⟩ := hown'.form (by omega)
  have hne : g ≠ g' := by
    intro e; subst e
    exact own_blk_ne hown' hg1 (by decide) rfl
  have hg2 := hg1.set_ 0 (.slice (some ⟨g', 0, none⟩) (ps.length + 1) cap')
  have hk2 := hk1.setCell (p := ⟨g, 0, none⟩) (fun _ _ => ⟨hBg, .inl rfl⟩) (.slice (some ⟨g', 0, none⟩) (ps.length + 1) cap')
  have hown2 : (w1.setCell ⟨g, 0, none⟩ (.slice (some ⟨g', 0, none⟩) (ps.length + 1) cap')).ownsRow B 5 1 (.slice (some ⟨g', 0, none⟩) (ps.length + 1) cap') (ps.length + 1) (bvs ps ++ [Value.int IntKind.u8 0]) :=
    hown'.kept (grownBy_setCell' w1 g _) (.inr (by simp [Value.ownBlock]; omega))
  simp at hg2
  have hsz2 : w1.heap.size = (w1.setCell ⟨g, 0, none⟩ (.slice (some ⟨g', 0, none⟩) (ps.length + 1) cap')).heap.size := by simp [World.setCell]
  go_wp2
  generalize w1.setCell ⟨g, 0, none⟩ (.slice (some ⟨g', 0, none⟩) (ps.length + 1) cap') = w2 at *
  clear hf0 hf1 hc0 hc1 hg1 hown' hk1 hgrow hsz2
  have hc0 := hg2.cell 0
  have hc1 := hg2.cell 1
  have hf0 := hg2.frozen 0
  have hf1 := hg2.frozen 1
  simp at hc0 hc1
  have hcb := hown2.cellAt ps.length (by omega)
  have hfb := hown2.frozenAt ps.length
  simp at hcb
  go_region
  have ho := or_new b n H0.out
  have HO := Lib.hid ho
  clear ho
  generalize hval : Value.int .u8 (bits .or .u8 0 ((b.toNat : Int) * 2 ^ (7 - n % 8) % 256)) = val at *
  go_wp2
  go_end0
  refine ⟨rfl, ⟨hBg, .slice (some ⟨g', 0, none⟩) (ps.length + 1) cap', ?_, ?_⟩, ?_⟩
  · have h3 := (hg2.far (p := ⟨g', ps.length, none⟩) hne val).set_ 1 (.int .i64 ((n : Int) + 1))
    simpa [HN.out] using h3.drew
  · have h3 := (hown2.stored ps.length val).1
    have e : (bvs ps ++ [Value.int .u8 0]).set ps.length val = bvs ps ++ [val] := by simp
    rw [HP.out, ← bvs_snoc, ← HO.out]
    rw [e] at h3
    have h4 := h3.kept (grownBy_setAt _ g 1 (.int .i64 ((n : Int) + 1))) (.inr (by simp [Value.ownBlock]; omega))
    simpa using h4.drew'
  · exact ((hk2.setCell (p := ⟨g', ps.length, none⟩) (fun o ho => by
      obtain ⟨o', ho', hr, _⟩ := own_isRow hown2 (k := g') rfl
      exact Mw.of_row hk2 ho ho' hr hgl) val).setCell (p := ⟨g, 1, none⟩) (fun _ _ => ⟨hBg, .inl rfl⟩) _).drew

set_option maxHeartbeats 800000 in
theorem add_in (B g : Nat) (l : List Bool) (b : Bool) (w : World) (h : Wtr w B g l) (h0 : l.length % 8 ≠ 0) (hsm : l.length < 1000000000) :
    Calls Tryz.prog 109 #[.pointer (some ⟨g, 0, none⟩), .int .u8 b.toNat] w fun e w' => e = .returned (.tuple #[]) ∧ Wtr w' B g (l ++ [b]) ∧ Kept (Mw B g) w w' := by
  obtain ⟨hBg, v, hg, hv⟩ := h
  have hc0 := hg.cell 0
  have hc1 := hg.cell 1
  have hf0 := hg.frozen 0
  have hf1 := hg.frozen 1
  simp at hc0 hc1
  have h8 : ((l.length : Int) % 8 == 0) = false := by simp; omega
  have hP : pack (l ++ [b]) = (pack l).set (l.length / 8) (UInt8.ofNat (packN l (l.length / 8) ||| b.toNat * 2 ^ (7 - l.length % 8))) := pack_snoc_in l b h0
  have hL : (pack l).length = l.length / 8 + 1 := by simp [nbytes]; omega
  have hO := or_in l b h0
  have hold : (pack l)[l.length / 8]? = some (UInt8.ofNat (packN l (l.length / 8))) := pack_get l _ (by simp [nbytes]; omega)
  have hL' : (pack (l ++ [b])).length = (pack l).length := by rw [hP]; simp
  have HP := Lib.hid hP
  have HL := Lib.hid hL
  have HO := Lib.hid hO
  have HL' := Lib.hid hL'
  clear hP hL h0 hO hL'
  obtain ⟨g', cap', rfl, hgl, hgl2⟩ := hv.form (by rw [HL.out]; omega)
  have hne : g ≠ g' := by
    intro e; subst e
    exact own_blk_ne hv hg (by decide) rfl
  have hcb := hv.cellAt (l.length / 8) (by rw [HL.out]; omega)
  have hfb := hv.frozenAt (l.length / 8)
  have hcb' : w.cell? ⟨g', l.length / 8, none⟩ = some (.int .u8 ((UInt8.ofNat (packN l (l.length / 8))).toNat : Int)) := by
    rw [hcb]; simp only [bvs, List.getElem?_map, hold]; rfl
  generalize hps : pack l = ps at *
  generalize hq : (UInt8.ofNat (packN l (l.length / 8))).toNat = q at *
  clear hcb hq hold
  generalize hn : l.length = n at *
  have HPS := Lib.hid hps
  have HN := Lib.hid hn
  clear hps hn
  have hlen : ps.length < 1000000000 := by have := HL.out; omega
  have e1 : ((n : Int) / 8).toNat = n / 8 := by omega
  have e2 : (n : Int) / 8 < ps.length := by have := HL.out; omega
  have hlt := hg.lt
  go_enter Tryz.func109, Tryz.ntmps109
  go_wp2
  go_region
  generalize hval : Value.int .u8 (bits .or .u8 (q : Int) ((b.toNat : Int) * 2 ^ (7 - n % 8) % 256)) = val at *
  clear hval
  go_wp2
  go_end0
  refine ⟨rfl, ⟨hBg, .slice (some ⟨g', 0, none⟩) ps.length cap', ?_, ?_⟩, ?_⟩
  · have h3 := (hg.far (p := ⟨g', n / 8, none⟩) hne val).set_ 1 (.int .i64 ((n : Int) + 1))
    simpa [HN.out] using h3.drew
  · have h3 := (hv.stored (n / 8) val).1
    rw [HL'.out, HP.out, ← bvs_set, ← HO.out]
    have h4 := h3.kept (grownBy_setAt _ g 1 (.int .i64 ((n : Int) + 1))) (.inr (by simp [Value.ownBlock]; omega))
    simpa using h4.drew'
  · exact (((Kept.refl _ w).setCell (p := ⟨g', n / 8, none⟩) (fun o ho => by
      obtain ⟨o', ho', hr, _⟩ := own_isRow hv (k := g') rfl
      exact Mw.of_row (Kept.refl _ w) ho ho' hr hgl) val).setCell (p := ⟨g, 1, none⟩) (fun _ _ => ⟨hBg, .inl rfl⟩) _).drew

/-- add appends one bit. -/
theorem add_any (B g : Nat) (l : List Bool) (b : Bool) (w : World) (h : Wtr w B g l) (hsm : l.length < 1000000000) :
    Calls Tryz.prog 109 #[.pointer (some ⟨g, 0, none⟩), .int .u8 b.toNat] w fun e w' => e = .returned (.tuple #[]) ∧ Wtr w' B g (l ++ [b]) ∧ Kept (Mw B g) w w' := by
  by_cases h0 : l.length % 8 = 0
  · exact add_new B g l b w h h0 hsm
  · exact add_in B g l b w h h0 hsm
end Go.Proofs.YtbjajboodohabaaGreat
namespace Go.Proofs.YtbjajboodohabaaGreat
open Go.RowKit Go.Shelf
attribute [local go_sem] Oper.semAt_some

theorem bitsOf_take (v n k : Nat) (h : k < n) : (bitsOf v n).take k ++ [decide (v / 2 ^ (n - 1 - k) % 2 = 1)] = (bitsOf v n).take (k + 1) := by
  rw [List.take_add_one]
  congr 1
  simp [bitsOf, h]
theorem low_bit (v k : Nat) (h : v < 18446744073709551616) : bits BinOp.and IntKind.u64 ((v : Int) / 2 ^ k) 1 % 256 = ((decide (v / 2 ^ k % 2 = 1)).toNat : Int) := by
  have e : (v : Int) / 2 ^ k = ((v / 2 ^ k : Nat) : Int) := by push_cast; rfl
  have hle : v / 2 ^ k ≤ v := Nat.div_le_self _ _
  rw [e]
  have h1 := u64_and_nat (v / 2 ^ k) 1 (by omega) (by omega)
  have h1' : bits BinOp.and IntKind.u64 ((v / 2 ^ k : Nat) : Int) 1 = ((v / 2 ^ k &&& 1 : Nat) : Int) := h1
  rw [h1', Nat.and_one_is_mod]
  rcases Nat.mod_two_eq_zero_or_one (v / 2 ^ k) with h2 | h2 <;> simp [h2]
/-- a scope through which the run goes without a goto, at the wide fence -/
theorem wpInW_scope {n : Nat} {P : Program} {c : Code} {Q : Exit → Act → World → Prop} {a : Act} {w : World} (h : c.wpIn Fence.wide n P (Exit.noGoto Q) a w) : (Code.scope c).wpIn Fence.wide n P Q a w :=
  wpIn_wide.2 (wp_scope_straight (wpIn_wide.1 h))

set_option maxRecDepth 100000 in
set_option maxHeartbeats 2000000 in
theorem bits1_stops (n : Nat) (hn : 1 ≤ n) (Bw Bv v width : Nat) (hv64 : v < 18446744073709551616) (hwd : width ≤ 64) (M : Nat → Obj → Prop) (w : World)
    (hw : Blk w Bw 3 #[.int .i64 width]) (hv : Blk w Bv 117 #[.int .u64 v]) (hMw : ¬ M Bw (.cells #[.int .i64 width] 3 (0, 0))) (hMv : ¬ M Bv (.cells #[.int .u64 v] 117 (0, 0))) :
    SeqStopsK Fence.wide n Tryz.prog 118 #[.pointer (some ⟨Bw, 0, none⟩), .pointer (some ⟨Bv, 0, none⟩)] (fun b : Bool => #[Value.int .u8 b.toNat]) (Kept M)
      (fun xs => xs = bitsOf v width) (fun _ => True) width w := fun l J Jx W hW _ _ hY h0 => by
  have hw' := hw.below hW hw.lt
  have hv' := hv.below hW hv.lt
  refine callsIn_of_wp Tryz.func118 rfl trivial ?_ rfl
  simp only [Tryz.ntmps118, List.size_toArray, List.length_cons, List.length_nil, Nat.reduceAdd, Nat.reduceSub, Array.replicate_succ, Array.replicate_zero, List.push_toArray, List.append_toArray, List.nil_append, List.cons_append]
  have hcw := hw'.cell 0
  simp at hcw
  refine wpInW_scope ?_
  gi_wp2
  refine wpIn_label ?_
  gi_wp2
  gi_loopw [4] (fun i wr => ∃ k : Nat, k ≤ width ∧ i = .int .i64 ((width : Int) - 1 - k) ∧ J ((bitsOf v width).take k) wr ∧ Kept M W wr)
    (fun i _ => (intOf i + 1).toNat)
  case atStart => exact ⟨0, Nat.zero_le _, by simp, by simpa using h0, Kept.refl _ _⟩
  case round =>
    obtain ⟨k, hk, rfl, hJs, hnx⟩ := hrel
    have hvr := hv'.kept hnx hMv
    have hcv := hvr.cell 0
    simp at hcv
    by_cases hlt : k < width
    · obtain ⟨x, hx⟩ : ∃ x : Bool, x = decide (v / 2 ^ (width - 1 - k) % 2 = 1) := ⟨_, rfl⟩
      have hbit : bits BinOp.and IntKind.u64 ((v : Int) / 2 ^ (width - 1 - k)) 1 % 256 = (x.toNat : Int) := by rw [hx]; exact low_bit v _ hv64
      obtain ⟨fn, tmps, assign, body, hy, hR⟩ := hY _ x wr hJs (by simp; omega)
      have HX := Lib.hid hx
      clear hx
      gi_wp2
      refine hR.mono ?_
      have hts : (bitsOf v width).take k ++ [x] = (bitsOf v width).take (k + 1) := by
        rw [HX.out]; exact bitsOf_take v width k hlt
      rintro e W3 (⟨rfl, hJ3, hk3⟩ | ⟨rfl, hJx3⟩)
      · gi_wp2
        go_roundw
        case rel => exact ⟨k + 1, by omega, by go_num, by rw [← hts]; exact hJ3, hnx.trans hk3⟩
        case measure => simp [intOf]; omega
      · gi_wp2
        rw [Exit.noGoto_normal]
        go_end0
        exact ⟨⟨_, rfl⟩, .inr ⟨_, trivial, hJx3⟩⟩
    · obtain rfl : k = width := by omega
      gi_wp2
      rw [Exit.noGoto_normal]
      go_end0
      exact ⟨⟨_, rfl⟩, .inl ⟨_, rfl, by rw [List.take_of_length_le (by simp)] at hJs; exact hJs⟩⟩

/-- bits hands back the iterator over two boxes. -/
theorem bits_in (n v width : Nat) (w : World) :
    CallsIn Fence.wide n Tryz.prog 108 #[.int .u64 v, .int .i64 width] w fun e w' => e = .returned (.func (.func 118) #[] #[.pointer (some ⟨w.heap.size + 1, 0, none⟩), .pointer (some ⟨w.heap.size, 0, none⟩)]) ∧
      (w.alloc (.cells #[.int .u64 v] 117)).alloc (.cells #[.int .i64 width] 3) = w' := by
  refine callsIn_of_wp Tryz.func108 rfl trivial ?_ rfl
  simp only [Tryz.ntmps108, List.size_toArray, List.length_cons, List.length_nil, Nat.reduceAdd, Nat.reduceSub, Array.replicate_succ, Array.replicate_zero, List.push_toArray, List.append_toArray, List.nil_append, List.cons_append]
  gi_wp2
  go_ret
  exact ⟨rfl, rfl⟩

theorem Wtr.own {w w' : World} {B g : Nat} {l : List Bool} (h : Wtr w B g l) {row : Option Nat} (hg : w.grownBy w' row) (hr : ∀ r, row = some r → ∃ o : Obj, w.heap[r]? = some o ∧ o.isCells = false) : Wtr w' B g l := by
  obtain ⟨hB, v, hb, hv⟩ := h
  refine ⟨hB, v, hb.grown hg (fun e => ?_), hv.kept hg ?_⟩
  · obtain ⟨o, ho, hc⟩ := hr g e.symm
    rw [show w.heap[g]? = _ from hb] at ho
    cases ho; cases hc
  · rcases hk : v.ownBlock with _ | k
    · exact .inl rfl
    · refine .inr (fun e => ?_)
      obtain ⟨o, ho, hc⟩ := hr k (by rw [← e])
      obtain ⟨o', ho', ⟨cs, fr, rfl⟩, _⟩ := own_isRow hv hk
      rw [ho] at ho'; cases ho'; cases hc

theorem Wtr.cellsOnly {w : World} {B g : Nat} {l : List Bool} (h : Wtr w B g l) {N : Nat} : ∀ k o, w.heap[k]? = some o → o.isCells = false → N ≤ k → ¬ Mw B g k o := by
  obtain ⟨hB, v, hb, hv⟩ := h
  rintro k o ho hc _ ⟨_, rfl | ⟨cs, fr, rfl⟩⟩
  · rw [show w.heap[k]? = _ from hb] at ho; cases ho; cases hc
  · cases hc

set_option maxRecDepth 100000 in
set_option maxHeartbeats 2000000 in
/-- put appends the bits of a field. -/
theorem put_any (B g v width : Nat) (l : List Bool) (w : World) (hv64 : v < 18446744073709551616) (hwd : width ≤ 64) (h : Wtr w B g l) (hsm : l.length < 100000000) :
    Calls Tryz.prog 91 #[.pointer (some ⟨g, 0, none⟩), .int .u64 v, .int .i64 width] w fun e w' => e = .returned (.tuple #[]) ∧ Wtr w' B g (l ++ bitsOf v width) ∧ Kept (Mw B g) w w' := by
  refine (callsIn_wide (n := 5)).1 ?_
  have hBg := h.1
  have hglt : g < w.heap.size := by obtain ⟨_, v, hb, _⟩ := h; exact hb.lt
  refine callsIn_of_wp_marks Tryz.func91 rfl trivial ?_ rfl
  simp only [Tryz.ntmps91, List.size_toArray, List.length_cons, List.length_nil, Nat.reduceAdd, Nat.reduceSub, Array.replicate_succ, Array.replicate_zero, List.push_toArray, List.append_toArray, List.nil_append, List.cons_append]
  gi_wp2_with (refine ⟨trivial, ?_⟩; gi_at_call 108; refine (bits_in _ v width _).mono ?_; rintro e w' ⟨rfl, rfl⟩)
  have hbox : Blk (((w.alloc (.cells #[.pointer (some ⟨g, 0, none⟩)] 165)).alloc (.cells #[.int .u64 v] 117)).alloc (.cells #[.int .i64 width] 3)) w.heap.size 165 #[.pointer (some ⟨g, 0, none⟩)] := ((Blk.new w _ _).alloc _).alloc _
  have hbv : Blk (((w.alloc (.cells #[.pointer (some ⟨g, 0, none⟩)] 165)).alloc (.cells #[.int .u64 v] 117)).alloc (.cells #[.int .i64 width] 3)) (w.heap.size + 1) 117 #[.int .u64 v] := by
    have := (Blk.new (w.alloc (.cells #[.pointer (some ⟨g, 0, none⟩)] 165)) 117 #[.int .u64 v]).alloc (.cells #[.int .i64 width] 3)
    simpa using this
  have hbw : Blk (((w.alloc (.cells #[.pointer (some ⟨g, 0, none⟩)] 165)).alloc (.cells #[.int .u64 v] 117)).alloc (.cells #[.int .i64 width] 3)) (w.heap.size + 1 + 1) 3 #[.int .i64 width] := by
    have := Blk.new ((w.alloc (.cells #[.pointer (some ⟨g, 0, none⟩)] 165)).alloc (.cells #[.int .u64 v] 117)) 3 #[.int .i64 width]
    simpa using this
  have hW0 : Wtr (((w.alloc (.cells #[.pointer (some ⟨g, 0, none⟩)] 165)).alloc (.cells #[.int .u64 v] 117)).alloc (.cells #[.int .i64 width] 3)) B g l := by
    obtain ⟨_, u, hb, hv⟩ := h
    exact ⟨hBg, u, ((hb.alloc _).alloc _).alloc _, ((hv.alloc _).alloc _).alloc _⟩
  have hK0 : Kept (Mw B g) w (((w.alloc (.cells #[.pointer (some ⟨g, 0, none⟩)] 165)).alloc (.cells #[.int .u64 v] 117)).alloc (.cells #[.int .i64 width] 3)) := (((Kept.refl _ w).alloc _).alloc _).alloc _
  have hsz : w.heap.size ≤ (((w.alloc (.cells #[.pointer (some ⟨g, 0, none⟩)] 165)).alloc (.cells #[.int .u64 v] 117)).alloc (.cells #[.int .i64 width] 3)).heap.size := by simp; omega
  generalize ((w.alloc (.cells #[.pointer (some ⟨g, 0, none⟩)] 165)).alloc (.cells #[.int .u64 v] 117)).alloc (.cells #[.int .i64 width] 3) = w1 at *
  have nM : ∀ (k : Nat) (cs : Array Value) (t : TypeId), w.heap.size ≤ k → t ≠ 5 → ¬ Mw B g k (.cells cs t (0, 0)) := by
    rintro k cs t hk ht ⟨_, e | ⟨cs', fr, e⟩⟩
    · omega
    · cases e; exact ht rfl
  have nB : ∀ (k : Nat) (cs : Array Value) (t : TypeId), w.heap.size ≤ k → t ≠ 5 → ¬ MB (Mw B g) w1.heap.size k (.cells cs t (0, 0)) := by
    rintro k cs t hk ht (e | ⟨_, e⟩)
    · exact nM k cs t hk ht e
    · cases e
  refine wpIn_rangeFunc_ownG rfl (by omega) (gf := 118) (lb := #[.pointer (some ⟨w.heap.size + 1 + 1, 0, none⟩), .pointer (some ⟨w.heap.size + 1, 0, none⟩)]) rfl trivial (enters_of Tryz.func118 (by kernel_rfl) rfl)
    (bits1_stops _ (by omega) (w.heap.size + 1 + 1) (w.heap.size + 1) v width hv64 hwd (MB (Mw B g) w1.heap.size) w1 hbw hbv (nB _ _ _ (by omega) (by decide)) (nB _ _ _ (by omega) (by decide)))
    Kept.trans (MB.b w1) (Below.refl _ _) (fun _ => rfl)
    (fun pre W => Wtr W B g (l ++ pre) ∧ Kept (MB (Mw B g) w1.heap.size) w1 W) (fun _ _ _ => False)
    (OwnFrom.and (Own.from (fun s A C row hs hg hr => hs.own hg hr) _) ownFrom_kept) (fun _ _ _ _ _ hs _ _ => hs)
    ⟨by simpa using hW0, Kept.refl _ _⟩
    (fun x => { tmps := #[.pointer (some ⟨g, 0, none⟩), .int .u64 v, .int .i64 width, .pointer (some ⟨w.heap.size, 0, none⟩), undef, undef, .int .u8 x.toNat, .int .u64 v, .int .i64 width, .func (.func 118) #[] #[.pointer (some ⟨w.heap.size + 1 + 1, 0, none⟩), .pointer (some ⟨w.heap.size + 1, 0, none⟩)], .int .u8 x.toNat, undef, undef, undef, undef, undef], defers := [] }) ?assign ?body ?done ?stop
  case assign =>
    intro l x W K hK
    gi_wp2
    exact hK
  case body =>
    rintro lp pre x W ⟨hWt, hKe⟩ hlen
    have hbx := (hbox.kept hKe (nB _ _ _ (by omega) (by decide))).cell 0
    simp at hbx
    gi_wp2_with (refine ⟨trivial, ?_⟩; gi_at_call 109; refine (CallsIn.inRound lp ((callsIn_wide (n := 2)).2 (add_any B g (l ++ pre) x W hWt (by simp; omega)))).mono ?_; rintro e w' ⟨rfl, hw', hk'⟩)
    exact ⟨hk'.from (hWt.cellsOnly), hk'.mb, by simpa using hw', hKe.trans hk'.mb⟩
  case done =>
    rintro D ys W hD rfl ⟨hc, hB⟩ hK
    gi_wp2
    refine ⟨by simp, .inl ⟨_, _, rfl, run_takeDeferred hK, ?_⟩⟩
    exact ⟨_, results_none rfl _ _ _, rfl, hc.own (grownBy_putObj' W D _) (fun r e => by cases e; exact ⟨_, hK, rfl⟩), hK0.trans (hB.taken _ hD hK rfl).drop⟩
  case stop =>
    rintro D c pre W _ _ h _
    exact h.elim
end Go.Proofs.YtbjajboodohabaaGreat
namespace Go.Proofs.YtbjajboodohabaaGreat
open Go.RowKit

/-- A call hands back a row of its own, from block B on, and keeps what lay below. -/
def GivesRow (B : Nat) (t : TypeId) (w : World) (n : Nat) (xs : List Value) (e : Ending) (w' : World) : Prop :=
  ∃ v, e = .returned v ∧ w'.ownsRow B t 1 v n xs ∧ Below B w w'

set_option maxHeartbeats 400000 in
theorem clone_any (A : Option Addr) (n c : Nat) (l : List UInt8) (w : World) (h : Sl w w.heap.size A n c (bvs l)) (hsm : n ≤ 1000000000) :
    Calls Tryz.prog 50 #[.slice A n c] w (GivesRow w.heap.size 5 w n (bvs l)) := by
  have hnil := fun (W : World) => Lib.run_eql_slice_nil (P := Tryz.prog) W 40 5 A n c 0 0 und29
  obtain ⟨i0, hi, hz0, hz1, hz2⟩ := info_parts u8_info
  have hs1 := h.alloc (Nat.le_refl _) (.cells #[] 5)
  rcases A with _ | ad
  · obtain rfl : n = 0 := by
      rcases Nat.eq_zero_or_pos n with h0 | h0
      · exact h0
      · obtain ⟨_, e, _⟩ := h.at_ h0; cases e
    have hl : bvs l = [] := List.eq_nil_of_length_eq_zero h.len
    go_enter Tryz.func50, Tryz.ntmps50
    go_wp2
    go_ret
    exact ⟨_, rfl, by rw [hl]; exact World.ownsRow_nil _ _ _ _, Below.refl _ _⟩
  · go_enter Tryz.func50, Tryz.ntmps50
    go_wp2_with (at_builtin; refine wpList_append_sl _ rfl _ _ 40 rfl w.heap.size 5 i0 (.int .u8 0) 1 und29 hi hz0 hz1 hz2 rfl (.slice (some ⟨w.heap.size, 0, none⟩) 0 0) 0 [] rfl ?c0 w.heap.size (some ad) n c (bvs l) rfl hs1 (one_bvs l) ?c3 ?c4 ?c5 ?_)
    case c0 => exact World.ownsRow_lit w #[] 0 (Nat.le_refl _) (by unfold maxLen; omega) rfl
    case c3 => unfold maxLen; omega
    case c4 => omega
    case c5 => simp
    intro v' w1 hown' hgrow _
    go_wp2
    go_ret
    exact ⟨_, rfl, by simpa using hown', ((Below.refl _ w).alloc (Nat.le_refl _) _).grown hgrow (by simp) (by simp [Value.ownBlock])⟩

/-- Bytes hands back a copy. -/
theorem bytes_any (B g : Nat) (l : List Bool) (w : World) (h : Wtr w B g l) (hsm : l.length < 1000000000) :
    Calls Tryz.prog 57 #[.pointer (some ⟨g, 0, none⟩)] w (GivesRow w.heap.size 5 w (pack l).length (bvs (pack l))) := by
  obtain ⟨hB, v, hg, hv⟩ := h
  obtain ⟨A, c, rfl, hs, _⟩ := own_sl hv
  have hl : (pack l).length ≤ 1000000000 := by have e := pack_length l; unfold nbytes at e; omega
  generalize pack l = ps at *
  have hc0 := hg.cell 0
  simp at hc0
  go_enter Tryz.func57, Tryz.ntmps57
  have hcl := clone_any A ps.length c ps w hs hl
  have HC := Lib.hid hcl
  clear hcl hl hsm
  go_wp2_with (go_at_call 50; refine HC.out.mono ?_; rintro e w' ⟨v, rfl, hv', hb'⟩)
  go_ret
  exact ⟨_, rfl, hv', hb'⟩

theorem one_any (b : Bool) (w : World) : Calls Tryz.prog 55 #[.bool b] w fun e w' => e = .returned (.int .u64 b.toNat) ∧ w = w' := by
  cases b
  · go_enter Tryz.func55, Tryz.ntmps55
    go_wp2
    go_ret
    exact ⟨rfl, rfl⟩
  · go_enter Tryz.func55, Tryz.ntmps55
    go_wp2
    go_ret
    exact ⟨rfl, rfl⟩

theorem pack_pad (l : List Bool) (k : Nat) (h : l.length + k = 8 * nbytes l.length) : pack (l ++ List.replicate k false) = pack l := by
  have e : ∀ j, bitv (l ++ List.replicate k false) j = bitv l j := by
    intro j
    unfold bitv
    congr 1
    rcases Nat.lt_or_ge j l.length with hj | hj
    · simp [List.getD_eq_getElem?_getD, List.getElem?_append_left hj]
    · simp only [List.getD_eq_getElem?_getD, List.getElem?_append_right hj, List.getElem?_eq_none hj]
      rcases Nat.lt_or_ge (j - l.length) k with hk | hk
      · simp [hk]
      · simp [List.getElem?_eq_none (show (List.replicate k false).length ≤ j - l.length by simpa using hk)]
  have hn : nbytes (l ++ List.replicate k false).length = nbytes l.length := by simp [nbytes] at h ⊢; omega
  unfold pack packN
  rw [hn]
  simp only [e]

/-- Align pads with zeros. -/
theorem alignW_any (B g : Nat) (l : List Bool) (w : World) (h : Wtr w B g l) (hsm : l.length < 1000000000) :
    Calls Tryz.prog 56 #[.pointer (some ⟨g, 0, none⟩)] w fun e w' => e = .returned (.int .i64 0) ∧ Wtr w' B g (l ++ List.replicate (8 * nbytes l.length - l.length) false) ∧ Kept (Mw B g) w w' := by
  obtain ⟨hB, v, hg, hv⟩ := h
  have hc0 := hg.cell 1
  have hf0 := hg.frozen 1
  simp at hc0
  have hp := pack_pad l (8 * nbytes l.length - l.length) (by simp [nbytes]; omega)
  have hL : (l ++ List.replicate (8 * nbytes l.length - l.length) false).length = (l.length + 7) / 8 * 8 := by simp [nbytes]; omega
  have HP := Lib.hid hp
  have HL := Lib.hid hL
  clear hp hL
  generalize hn : l.length = n at *
  have HN := Lib.hid hn
  clear hn
  go_enter Tryz.func56, Tryz.ntmps56
  go_wp2
  go_ret
  refine ⟨rfl, ⟨hB, v, ?_, ?_⟩, (Kept.refl _ w).setCell (p := ⟨g, 1, none⟩) (fun _ _ => ⟨hB, .inl rfl⟩) _⟩
  · have := hg.set_ 1 (.int .i64 (((n : Int) + 7) / 8 * 8))
    rw [HL.out]
    simpa using this
  · rw [HP.out]
    exact hv.kept (grownBy_setAt w g 1 _) (.inr (own_blk_ne hv hg (by decide)))

set_option maxHeartbeats 400000 in
/-- check of a field that fits. -/
theorem check_ok (v wd : Nat) (w : World) (h64 : wd ≤ 64) (hv : v < 2 ^ wd) (_hv64 : v < 18446744073709551616) :
    Calls Tryz.prog 90 #[.agg #[.int .u64 v, .int .i64 wd]] w fun e w' => e = .returned (.int .i64 0) ∧ w.alloc (.cells #[.int .u64 v, .int .i64 wd] 119) = w' := by
  have h0 : (v : Int) / 2 ^ wd = 0 := by
    have : ((v / 2 ^ wd : Nat) : Int) = 0 := by rw [Nat.div_eq_of_lt hv]; rfl
    push_cast at this
    exact this
  by_cases hw : wd < 64
  · go_enter Tryz.func90, Tryz.ntmps90
    go_wp2
    go_ret
    exact ⟨rfl, rfl⟩
  · go_enter Tryz.func90, Tryz.ntmps90
    go_wp2
    go_ret
    exact ⟨rfl, rfl⟩

/-- fields as cells -/
def fieldCells : List (Nat × Nat) → List Value
  | [] => []
  | (v, n) :: l => .int .u64 v :: .int .i64 n :: fieldCells l
theorem fieldCells_get (l : List (Nat × Nat)) (i v n : Nat) (h : l[i]? = some (v, n)) : (fieldCells l)[i * 2]? = some (.int .u64 v) ∧ (fieldCells l)[i * 2 + 1]? = some (.int .i64 n) := by
  induction l generalizing i with
  | nil => simp at h
  | cons x l ih =>
    obtain ⟨v', n'⟩ := x
    cases i with
    | zero => simp at h; simp [fieldCells, h]
    | succ i =>
      have := ih i (by simpa using h)
      rw [show (i + 1) * 2 = i * 2 + 1 + 1 by omega]
      simpa [fieldCells] using this
/-- the bits of fields -/
def fieldBits (l : List (Nat × Nat)) : List Bool := l.flatMap fun x => bitsOf x.1 x.2
theorem fieldBits_snoc (l : List (Nat × Nat)) (x : Nat × Nat) : fieldBits (l ++ [x]) = fieldBits l ++ bitsOf x.1 x.2 := by simp [fieldBits]
theorem fieldBits_length (l : List (Nat × Nat)) (h : ∀ x ∈ l, x.2 ≤ 64) : (fieldBits l).length ≤ 64 * l.length := by
  induction l with
  | nil => simp [fieldBits]
  | cons x l ih =>
    have h1 := h x (by simp)
    have h2 := ih (fun y hy => h y (by simp [hy]))
    unfold fieldBits at h2 ⊢
    rw [List.flatMap_cons, List.length_append, List.length_cons, bitsOf_length]
    omega

theorem Wtr.alloc {w : World} {B g : Nat} {l : List Bool} (h : Wtr w B g l) (o : Obj) : Wtr (w.alloc o) B g l := by
  obtain ⟨hB, v, hg, hv⟩ := h
  exact ⟨hB, v, hg.alloc _, hv.alloc _⟩
theorem Wtr.kept0 {w w' : World} {B g : Nat} {l : List Bool} (h : Wtr w B g l) (hk : Kept (fun _ _ => False) w w') : Wtr w' B g l := by
  obtain ⟨hB, v, hg, hv⟩ := h
  refine ⟨hB, v, hg.kept hk (fun h => h), hv.kept (row := none) ⟨hk.os, hk.tape, hk.output, hk.size, fun k hlt _ => ?_⟩ ?_⟩
  · rw [Array.getElem?_eq_getElem hlt]; exact hk.same k _ (Array.getElem?_eq_getElem hlt) (fun h => h)
  · rcases hb : v.ownBlock with _ | k
    · exact .inl rfl
    · exact .inr (by simp)

set_option maxHeartbeats 1000000 in
/-- PutAll appends all fields. -/
theorem putAll_any (B g b : Nat) (l : List Bool) (fs : List (Nat × Nat)) (w : World) (h : Wtr w B g l) (hsm : l.length < 1000000) (hk : fs.length < 1000)
    (hb : Blk w b 119 (fieldCells fs).toArray) (hok : ∀ x ∈ fs, x.2 ≤ 64 ∧ x.1 < 2 ^ x.2 ∧ x.1 < 18446744073709551616) :
    Calls Tryz.prog 54 #[.pointer (some ⟨g, 0, none⟩), .slice (some ⟨b, 0, none⟩) fs.length fs.length] w fun e w' => e = .returned (.int .i64 0) ∧ Wtr w' B g (l ++ fieldBits fs) ∧ Kept (Mw B g) w w' := by
  have hbg : b ≠ g := by
    rintro rfl
    obtain ⟨_, v, hg, _⟩ := h
    unfold Blk at hg hb
    rw [hg] at hb
    injection hb with hb
    injection hb with _ h2
    exact absurd h2 (by decide)
  have nb : ¬ Mw B g b (.cells (fieldCells fs).toArray 119 (0, 0)) := by
    rintro ⟨_, e | ⟨cs, fr, e⟩⟩
    · exact hbg e
    · cases e
  have HOK := Lib.hid hok
  clear hok
  obtain ⟨N, hN⟩ : ∃ N, N = fs.length := ⟨_, rfl⟩
  rw [← hN] at hk ⊢
  have HN := Lib.hid hN
  clear hN
  go_enter Tryz.func54, Tryz.ntmps54
  go_wp2
  go_loopw [14] (fun i wr => ∃ k : Nat, k ≤ N ∧ i = .int .i64 k ∧ Kept (fun _ _ => False) w wr) (fun i _ => N - (intOf i).toNat)
  case atStart => exact ⟨0, Nat.zero_le _, rfl, Kept.refl _ _⟩
  case round =>
    obtain ⟨k, hkN, rfl, hKe⟩ := hrel
    have hb1 := hb.kept hKe (fun h => h)
    by_cases hlt : k < N
    · obtain ⟨⟨fv, fw⟩, hf⟩ : ∃ f, fs[k]? = some f := ⟨_, List.getElem?_eq_getElem (by rw [← HN.out]; exact hlt)⟩
      obtain ⟨f1, f2⟩ := fieldCells_get fs k fv fw hf
      obtain ⟨g1, g2, g3⟩ := HOK.out _ (List.mem_of_getElem? hf)
      have c1 := hb1.cell (k * 2)
      have c2 := hb1.cell (k * 2 + 1)
      simp only [List.getElem?_toArray, f1, f2] at c1 c2
      dsimp only at c1 c2 g1 g2 g3
      have HF := Lib.hid hf
      clear f1 f2 hf
      go_wp2_with (go_at_call 90; refine (check_ok fv fw _ g1 g2 g3).mono ?_; rintro e w' ⟨rfl, rfl⟩)
      go_roundw
      case rel => exact ⟨k + 1, by omega, by go_num, (hKe.alloc _).alloc _⟩
      case measure => simp [intOf]; omega
    · go_wp2
      go_loopw [26] (fun i wr => ∃ k : Nat, k ≤ N ∧ i = .int .i64 k ∧ Wtr wr B g (l ++ fieldBits (fs.take k)) ∧ Kept (Mw B g) w wr) (fun i _ => N - (intOf i).toNat)
      case atStart => exact ⟨0, Nat.zero_le _, rfl, by simpa [fieldBits] using h.kept0 hKe, hKe.mono (fun _ _ h => h.elim)⟩
      case round =>
        clear hb1 hKe hlt hkN
        obtain ⟨k, hkN, rfl, hWt, hKe⟩ := hrel
        have hb1 := hb.kept hKe nb
        by_cases hlt : k < N
        · obtain ⟨⟨fv, fw⟩, hf⟩ : ∃ f, fs[k]? = some f := ⟨_, List.getElem?_eq_getElem (by rw [← HN.out]; exact hlt)⟩
          obtain ⟨f1, f2⟩ := fieldCells_get fs k fv fw hf
          obtain ⟨g1, g2, g3⟩ := HOK.out _ (List.mem_of_getElem? hf)
          have c1 := hb1.cell (k * 2)
          have c2 := hb1.cell (k * 2 + 1)
          simp only [List.getElem?_toArray, f1, f2] at c1 c2
          dsimp only at c1 c2 g1 g2 g3
          have hl2 : (l ++ fieldBits (fs.take k)).length < 100000000 := by
            have := fieldBits_length (fs.take k) (fun x hx => (HOK.out x (List.mem_of_mem_take hx)).1)
            have h3 : (fs.take k).length ≤ k := List.length_take_le _ _
            rw [List.length_append]
            omega
          have hts : fieldBits (fs.take (k + 1)) = fieldBits (fs.take k) ++ bitsOf fv fw := by
            rw [List.take_add_one, hf]
            exact fieldBits_snoc _ _
          have HF := Lib.hid hf
          have HT := Lib.hid hts
          have HL2 := Lib.hid hl2
          clear f1 f2 hf hts hl2
          have hput := fun W hW => put_any B g fv fw (l ++ fieldBits (fs.take k)) W g3 g1 hW HL2.out
          have HPut := Lib.hid hput
          clear hput
          go_wp2_with (go_at_call 91; refine (HPut.out _ (hWt.alloc _)).mono ?_; rintro e w' ⟨rfl, hw', hk'⟩)
          go_roundw
          case rel => exact ⟨k + 1, by omega, by go_num, by rw [HT.out, ← List.append_assoc]; exact hw', (hKe.alloc _).trans hk'⟩
          case measure => simp [intOf]; omega
        · have e : fs.take k = fs := List.take_of_length_le (by rw [← HN.out]; omega)
          rw [e] at hWt
          go_wp2
          go_ret
          exact ⟨rfl, hWt, hKe⟩
end Go.Proofs.YtbjajboodohabaaGreat
namespace Go.Proofs.YtbjajboodohabaaGreat
open Go.RowKit

def sumLen (ps : List (List UInt8)) : Nat := (ps.map List.length).sum

set_option maxRecDepth 3000 in
set_option maxHeartbeats 400000 in
theorem grow_nil (n : Nat) (w : World) (hsm : n ≤ 1000000000) : Calls Tryz.prog 92 #[.slice none 0 0, .int .i64 n] w (GivesRow w.heap.size 5 w 0 []) := by
  obtain ⟨i0, hi, hz0, hz1, hz2⟩ := info_parts u8_info
  rcases Nat.eq_zero_or_pos n with rfl | hpos
  · go_enter Tryz.func92, Tryz.ntmps92
    go_wp2
    go_ret
    exact ⟨_, rfl, World.ownsRow_nil _ _ _ _, Below.refl _ _⟩
  · have hr := Lib.run_append_nil_zeros (P := Tryz.prog) w 40 3 40 5 i0 (.int .u8 0) .i64 .i64 und29 (by kernel_rfl) hi hz0 n hpos (by omega) (by omega) (by rw [hz2]; omega)
    have hcap := grownCap_ge w n 0 5
    have hmx := grownCap_le_maxLen w n 0 5 (by unfold maxLen; omega)
    unfold maxLen at hmx
    generalize grownCap w n 0 5 = cap at *
    have HR := Lib.hid hr
    clear hr
    go_enter Tryz.func92, Tryz.ntmps92
    go_wp2_with (at_builtin; refine Lib.wpList_append_run _ rfl _ _ 40 3 rfl (.slice none 0 0) (.int .i64 n) rfl rfl _ _ HR.out ?_)
    go_ret
    refine ⟨_, rfl, ⟨rfl, .inr ⟨w.heap.size, cap, _, rfl, Nat.le_refl _, heap_alloc_new w _, Nat.zero_le _, by unfold maxLen; omega, ?_, rfl⟩⟩, ((Below.refl _ w).alloc (Nat.le_refl _) _).drew⟩
    rw [Array.size_append, size_zeroCells, size_zeroCells]
    simp; omega

theorem sumLen_nil : sumLen [] = 0 := rfl
theorem sumLen_take (ps : List (List UInt8)) (k : Nat) (h : k < ps.length) : sumLen (ps.take (k + 1)) = sumLen (ps.take k) + (ps[k]?.getD []).length := by
  unfold sumLen
  rw [List.take_add_one, List.getElem?_eq_getElem h, List.map_append, List.sum_append]
  rfl
theorem flatten_take (ps : List (List UInt8)) (k : Nat) (h : k < ps.length) : (ps.take (k + 1)).flatten = (ps.take k).flatten ++ ps[k]?.getD [] := by
  rw [List.take_add_one, List.getElem?_eq_getElem h, List.flatten_append]
  simp
theorem flatten_length (ps : List (List UInt8)) : ps.flatten.length = sumLen ps := by simp [sumLen, List.length_flatten]
theorem sumLen_take_le (ps : List (List UInt8)) (k : Nat) : sumLen (ps.take k) ≤ sumLen ps := by
  conv => rhs; rw [← List.take_append_drop k ps]
  unfold sumLen
  rw [List.map_append, List.sum_append]
  omega

set_option maxRecDepth 3000 in
set_option maxHeartbeats 1000000 in
theorem concat_any (A : Option Addr) (n c : Nat) (vs : List Value) (ps : List (List UInt8)) (w : World) (h : Sls w w.heap.size A n c vs ps) (hsm : sumLen ps ≤ 100000000) :
    Calls Tryz.prog 58 #[.slice A n c] w (GivesRow w.heap.size 5 w (sumLen ps) (bvs ps.flatten)) := by
  obtain ⟨i0, hi, hz0, hz1, hz2⟩ := info_parts u8_info
  have hn63 : n ≤ 9223372036854775807 := by have := h.sl.cap; have := h.sl.mx; omega
  have HL := Lib.hid h.len
  have HSM := Lib.hid hsm
  clear hsm
  go_enter Tryz.func58, Tryz.ntmps58
  go_wp2
  go_loop [3, 11] (fun t i => ∃ k : Nat, k ≤ n ∧ i = .int .i64 k ∧ t = .int .i64 (sumLen (ps.take k))) (fun _ i => n - (intOf i).toNat)
  case atStart => exact ⟨0, Nat.zero_le _, rfl, rfl⟩
  case round =>
    obtain ⟨k, hk, rfl, rfl⟩ := hrel
    by_cases hlt : k < n
    · obtain ⟨ad, Ai, ci, rfl, hb, hc, hsl⟩ := h.get hlt
      have hs1 := sumLen_take ps k (by rw [HL.out]; exact hlt)
      have hle1 := Nat.le_trans (sumLen_take_le ps (k + 1)) HSM.out
      have hle0 := Nat.le_trans (sumLen_take_le ps k) HSM.out
      generalize ps[k]?.getD [] = p at *
      generalize sumLen (List.take k ps) = S at *
      have hle2 : S + p.length ≤ 100000000 := by omega
      have HS := Lib.hid hs1
      clear hs1 hle1
      go_wp2
      go_round
      case rel => exact ⟨k + 1, by omega, by go_num, by rw [HS.out]; go_num⟩
      case measure => simp [intOf]; omega
    · have e : ps.take k = ps := List.take_of_length_le (by rw [HL.out]; omega)
      rw [e]
      have hle := HSM.out
      generalize hS : sumLen ps = S at *
      have HS := Lib.hid hS
      clear hS
      go_wp2_with (go_at_call 92; refine (grow_nil S w (by omega)).mono ?_; rintro e w1 ⟨v1, rfl, hv1, hb1⟩)
      clear hk hlt e
      go_loopw [6, 27] (fun v i wr => ∃ k : Nat, k ≤ n ∧ i = .int .i64 k ∧ wr.ownsRow w.heap.size 5 1 v (sumLen (ps.take k)) (bvs (ps.take k).flatten) ∧ Below w.heap.size w wr) (fun _ i _ => n - (intOf i).toNat)
      case atStart => exact ⟨0, Nat.zero_le _, rfl, by simpa [sumLen, bvs] using hv1, hb1⟩
      case round =>
        clear hv1 hb1
        obtain ⟨k, hk, rfl, hown, hbw⟩ := hrel
        by_cases hlt : k < n
        · obtain ⟨ad, Ai, ci, rfl, hb, hc, hsl⟩ := (h.below hbw).get hlt
          have hs1 := sumLen_take ps k (by rw [HL.out]; exact hlt)
          have hf1 := flatten_take ps k (by rw [HL.out]; exact hlt)
          have hle1 := sumLen_take_le ps (k + 1)
          rw [HS.out] at hle1
          generalize ps[k]?.getD [] = p at *
          generalize sumLen (List.take k ps) = S1 at *
          generalize (List.take k ps).flatten = F1 at *
          have hle2 : S1 + p.length ≤ 100000000 := by omega
          have HS1 := Lib.hid hs1
          have HF1 := Lib.hid hf1
          clear hs1 hle1 hf1
          go_wp2_with (at_builtin; refine wpList_append_sl _ rfl _ _ 40 rfl w.heap.size 5 i0 (.int .u8 0) 1 und29 hi hz0 hz1 hz2 rfl _ S1 (bvs F1) rfl hown w.heap.size Ai p.length ci (bvs p) rfl hsl (one_bvs p) ?c3 ?c4 ?c5 ?_)
          case c3 => unfold maxLen; omega
          case c4 => omega
          case c5 => exact hbw.size
          intro v' w2 hown' hgrow _
          go_wp2
          go_roundw
          case rel => exact ⟨k + 1, by omega, by go_num, by rw [HS1.out, HF1.out]; simpa [bvs] using hown', hbw.grown hgrow hbw.size (fun j hj => (hown.lt j hj).1)⟩
          case measure => simp [intOf]; omega
        · have e : ps.take k = ps := List.take_of_length_le (by rw [HL.out]; omega)
          rw [e, HS.out] at hown
          go_wp2
          go_ret
          exact ⟨_, rfl, hown, hbw⟩
end Go.Proofs.YtbjajboodohabaaGreat
