/- ampdu.Bounds: the iterator over the bounds of the parts. ampdu.Bounds: what the iterator gives. -/
import Derived.Test.YtmiipkaobloedaaGreatYRa
import Derived.Test.YtmiipkaobloedaaGreatYVa
import Derived.Test.YtmiipkaobloedaaGreatZk
import Derived.Test.YtmiipkaobloedaaGreatZl
import Derived.Deep.DeepCutAuto
import Derived.Deep.CutBlock
namespace Go.Proofs.YtmiipkaobloedaaGreat
open Go.RowKit Go.Shelf
attribute [local go_sem] Oper.semAt_some

/-- the bounds: the offset, and the ends of the first k parts -/
def bnds (off : Nat) (ps : List (List UInt8)) (k : Nat) : List Nat := (List.range (k + 1)).map fun i => off + sumLen (ps.take i)
theorem bnds_length (off : Nat) (ps : List (List UInt8)) (k : Nat) : (bnds off ps k).length = k + 1 := by simp [bnds]
theorem bnds_succ (off : Nat) (ps : List (List UInt8)) (k : Nat) : bnds off ps (k + 1) = bnds off ps k ++ [off + sumLen (ps.take (k + 1))] := by simp [bnds, List.range_succ]
theorem bnds_get (off : Nat) (ps : List (List UInt8)) (k i : Nat) (h : i ≤ k) : (bnds off ps k)[i]? = some (off + sumLen (ps.take i)) := by
  simp [bnds, show i < k + 1 by omega]

/-- what Bounds gives -/
def GivesBounds (w : World) (off : Nat) (ps : List (List UInt8)) (e : Ending) (w' : World) : Prop :=
  ∃ g v, e = .returned (.func (.func 117) #[] #[.pointer (some ⟨g, 0, none⟩)]) ∧ w.heap.size ≤ g ∧ Blk w' g 57 #[v] ∧ w'.ownsRow w.heap.size 3 1 v (ps.length + 1) (i64s (bnds off ps ps.length)) ∧ Below w.heap.size w w'

set_option maxRecDepth 100000 in
set_option maxHeartbeats 2000000 in
theorem bounds_any (sn : Int) (po sg la : Bool) (off : Nat) (s e : Bool) (A : Option Addr) (n c : Nat) (vs : List Value) (ps : List (List UInt8)) (w : World) (h : Sls w w.heap.size A n c vs ps) (hn : n ≤ 1000) (hoff : off ≤ 1000000) (hsum : sumLen ps ≤ 1000000) :
    Calls Tryz.prog 87 #[.agg (apdu sn po sg la off s e A n c)] w (GivesBounds w off ps) := by
  obtain ⟨i0, hi, hz0, hz1, hz2⟩ := info_parts int_info
  have HL := Lib.hid h.len
  have HSM := Lib.hid hsum
  clear hsum
  unfold apdu
  go_enter Tryz.func87, Tryz.ntmps87
  go_wp2
  have hB0 := (((Below.refl w.heap.size w).alloc (Nat.le_refl _) (.cells (apdu sn po sg la off s e A n c) 61)).alloc (by simp) (.cells #[.int .i64 off] 3)).alloc (by simp; omega) (.cells #[.slice (some ⟨w.heap.size + 1, 0, none⟩) 1 1] 57)
  have hG0 := Blk.new ((w.alloc (.cells (apdu sn po sg la off s e A n c) 61)).alloc (.cells #[.int .i64 off] 3)) 57 #[.slice (some ⟨w.heap.size + 1, 0, none⟩) 1 1]
  simp only [World.size_alloc] at hG0
  have hO0 : (((w.alloc (.cells (apdu sn po sg la off s e A n c) 61)).alloc (.cells #[.int .i64 off] 3)).alloc (.cells #[.slice (some ⟨w.heap.size + 1, 0, none⟩) 1 1] 57)).ownsRow w.heap.size 3 1 (.slice (some ⟨w.heap.size + 1, 0, none⟩) 1 1) 1 [.int .i64 off] := by
    have := (World.ownsRow_lit (base := w.heap.size) (e := 3) (size := 1) (w.alloc (.cells (apdu sn po sg la off s e A n c) 61)) #[.int .i64 off] 1 (by simp) (by unfold maxLen; omega) rfl).alloc (.cells #[.slice (some ⟨w.heap.size + 1, 0, none⟩) 1 1] 57)
    rw [World.size_alloc] at this
    exact this
  unfold apdu at hB0 hG0 hO0
  generalize ((w.alloc (.cells #[.int .i64 sn, .bool po, .bool sg, .bool la, .int .i64 off, .bool s, .bool e, .slice A n c] 61)).alloc (.cells #[.int .i64 off] 3)).alloc (.cells #[.slice (some ⟨w.heap.size + 1, 0, none⟩) 1 1] 57) = w1 at *
  go_loopw [13] (fun i wr => ∃ (k : Nat) (v : Value), k ≤ n ∧ i = .int .i64 k ∧ Blk wr (w.heap.size + 1 + 1) 57 #[v] ∧ wr.ownsRow w.heap.size 3 1 v (k + 1) (i64s (bnds off ps k)) ∧ Below w.heap.size w wr) (fun i _ => n - (intOf i).toNat)
  case atStart => exact ⟨0, _, Nat.zero_le _, rfl, hG0, by simpa [bnds, i64s, sumLen] using hO0, hB0⟩
  case round =>
    clear hB0 hG0 hO0
    obtain ⟨k, v, hk, rfl, bG, hown, hB⟩ := hrel
    by_cases hlt : k < n
    · obtain ⟨ad, Ai, ci, rfl, hbk, hc, hsl⟩ := (h.below hB).get hlt
      have hs1 := sumLen_take ps k (by rw [HL.out]; exact hlt)
      have hle1 := Nat.le_trans (sumLen_take_le ps (k + 1)) HSM.out
      have hbs := bnds_succ off ps k
      have hlast := bnds_get off ps k k (Nat.le_refl _)
      generalize ps[k]?.getD [] = p at *
      rw [hs1] at hbs
      generalize sumLen (List.take k ps) = S at *
      have hle2 : S + p.length ≤ 1000000 := by omega
      have HBS := Lib.hid hbs
      clear hs1 hbs hle1
      obtain ⟨gv, cap, rfl, hgl, hgl2⟩ := hown.form (by omega)
      have hcl := hown.cellAt k (by omega)
      have hcl2 : (i64s (bnds off ps k))[k]? = some (.int .i64 ((off : Int) + S)) := by simp [i64s, hlast]
      rw [hcl2] at hcl
      clear hcl2 hlast
      have g0 := bG.cell 0
      have gf := bG.frozen 0
      simp at g0
      have hGl := bG.lt
      have hw1 : IntKind.i64.wrap ((k : Int) + 1) = (k : Int) + 1 := IntWalk.i64_in _ (by omega)
      have hk1 : (k : Int) + 1 - 1 = k := by omega
      have hk2 : IntKind.i64.wrap (k : Int) = k := IntWalk.i64_in _ (by omega)
      have hk3 : IntKind.i64.wrap ((off : Int) + S + p.length) = (off : Int) + S + p.length := IntWalk.i64_in _ (by omega)
      have hk4 : (k : Int) < (k : Int) + 1 := by omega
      go_upto_block 1 with (fail)
      go_cut [] (fun wx => ∃ (A5 : Option Addr) (c5 : Nat), Blk wx (w.heap.size + 1 + 1) 57 #[.slice A5 (k + 1 + 1) c5] ∧ wx.ownsRow w.heap.size 3 1 (.slice A5 (k + 1 + 1) c5) (k + 1 + 1) (i64s (bnds off ps (k + 1))) ∧ Below w.heap.size w wx)
      case first =>
        go_wp2
        go_region_law ((refine step_append_sl _ (by rfl) _ _ 57 (by rfl) w.heap.size 3 i0 (.int .i64 0) 8 und137 hi hz0 hz1 hz2 rfl (.slice (some ⟨gv, 0, none⟩) (k + 1) cap) (k + 1) (i64s (bnds off ps k)) (by rfl) (World.ownsRow.drew' (hown.alloc (.cells #[.int .i64 ((off : Int) + S + p.length)] 3))) (wr.alloc (.cells #[.int .i64 ((off : Int) + S + p.length)] 3)).heap.size (some ⟨wr.heap.size, 0, none⟩) 1 1 [.int .i64 ((off : Int) + S + p.length)] (by rfl) (sl_new1 wr (.int .i64 ((off : Int) + S + p.length)) 3) (by simp [Value.oneCell']) (by unfold maxLen; omega) (by omega) (by have := hB.size; simp; omega) ?_; intro v5 w5 hown5 hgrow5 _; obtain ⟨A5, c5, rfl, hs5, _⟩ := own_sl hown5; have hG5 := (bG.alloc (.cells #[.int .i64 ((off : Int) + S + p.length)] 3)).drew.grown hgrow5 (fun e => own_blk_ne hown bG (by decide) e.symm); have q2 := hG5.cell 0; have q3 := hG5.frozen 0; simp at q2))
        all_goals
          have hG6 := hG5.set_ 0 (.slice A5 (k + 1 + 1) c5)
          simp at hG6
          have hown6 := own_store (i := 0) hown5 hG5 (by decide) (.slice A5 (k + 1 + 1) c5)
          have hB5 := (((hB.alloc hB.size (.cells #[.int .i64 ((off : Int) + S + p.length)] 3)).drew).grown hgrow5 (by have := hB.size; simp; omega) (fun g hg => by have := (hown.lt g hg).1; omega)).setCell (p := ⟨w.heap.size + 1 + 1, 0, none⟩) (by simp; omega) (.slice A5 (k + 1 + 1) c5)
          go_wp2_with fail
          go_meet
          refine ⟨A5, c5, hG6, ?_, hB5⟩
          rw [HBS.out]
          have e1 : i64s (bnds off ps k ++ [off + (S + p.length)]) = i64s (bnds off ps k) ++ [.int .i64 ((off : Int) + S + p.length)] := by simp [i64s]; omega
          rw [e1]
          exact hown6
      case rest =>
        obtain ⟨A5, c5, hG6, hown6, hB5⟩ := hcut
        clear hw1 hk1 hk2 hk3 hk4
        go_wp2
        go_roundw
        case rel => exact ⟨k + 1, _, by omega, by go_num, hG6, hown6, hB5⟩
        case measure => simp [intOf]; omega
    · have hkn : k = ps.length := by rw [HL.out]; omega
      rw [hkn] at hown
      clear hkn
      go_wp2
      go_ret
      exact ⟨_, _, rfl, by omega, bG, hown, hB⟩
end Go.Proofs.YtmiipkaobloedaaGreat
namespace Go.Proofs.YtmiipkaobloedaaGreat
open Go.RowKit Go.Shelf
attribute [local go_sem] Oper.semAt_some

/-- the bounds of part k as values -/
def bndVals (off : Nat) (ps : List (List UInt8)) (k : Nat) : Array Value := #[.int .i64 ((off + sumLen (ps.take k) : Nat) : Int), .int .i64 ((off + sumLen (ps.take (k + 1)) : Nat) : Int)]

set_option maxRecDepth 100000 in
set_option maxHeartbeats 2000000 in
theorem bounds1_idx (n : Nat) (hn : 1 ≤ n) (g B : Nat) (v : Value) (off : Nat) (ps : List (List UInt8)) (_hoff : off ≤ 1000000) (hsum : sumLen ps ≤ 1000000) (hlen : ps.length ≤ 1000) (M : Nat → Obj → Prop) (w : World)
    (hg : Blk w g 57 #[v]) (hv : w.ownsRow B 3 1 v (ps.length + 1) (i64s (bnds off ps ps.length))) (hMg : ¬ M g (.cells #[v] 57 (0, 0))) (hMv : ∀ k o, v.ownBlock = some k → ¬ M k o) :
    SeqIdx Fence.wide n Tryz.prog 117 #[.pointer (some ⟨g, 0, none⟩)] (bndVals off ps) ps.length (Kept M) w := fun l J W hW _ hY h0 => by
  have hg' := hg.below hW hg.lt
  have hv' : W.ownsRow B 3 1 v (ps.length + 1) (i64s (bnds off ps ps.length)) := hv.kept (row := none) ⟨hW.os, hW.tape, hW.output, hW.size, fun k hk _ => hW.block k hk⟩ (by
    rcases hb : v.ownBlock with _ | k
    · exact .inl rfl
    · exact .inr (by simp))
  have hvk : ∀ wr, Kept M W wr → wr.ownsRow B 3 1 v (ps.length + 1) (i64s (bnds off ps ps.length)) := fun wr hk => own_kept hv' hk (fun k o _ hk2 => hMv k o hk2)
  have HVK := Lib.hid hvk
  clear hvk
  obtain ⟨gv, cap, rfl, hgl, hgl2⟩ := hv'.form (by omega)
  have HY := Lib.hid hY
  clear hY
  have hcap : ps.length + 1 ≤ cap ∧ cap ≤ 9223372036854775807 := by
    have hs := own_sl' hv'
    exact ⟨hs.cap, hs.mx⟩
  refine callsIn_of_wp Tryz.func117 rfl trivial ?_ rfl
  simp only [Tryz.ntmps117, List.size_toArray, List.length_cons, List.length_nil, Nat.reduceAdd, Nat.reduceSub, Array.replicate_succ, Array.replicate_zero, List.push_toArray, List.append_toArray, List.nil_append, List.cons_append]
  have hcw := hg'.cell 0
  simp at hcw
  refine wpInW_scope ?_
  gi_wp2
  refine wpIn_label ?_
  gi_wp2
  gi_loopw [11] (fun i wr => ∃ k : Nat, k ≤ ps.length ∧ i = .int .i64 k ∧ J k wr ∧ Kept M W wr) (fun i _ => ps.length - (intOf i).toNat)
  case atStart => exact ⟨0, Nat.zero_le _, by simp, h0, Kept.refl _ _⟩
  case round =>
    obtain ⟨k, hk, rfl, hJs, hnx⟩ := hrel
    by_cases hlt : k < ps.length
    · have hvr := HVK.out wr hnx
      have hgr := hg'.kept hnx hMg
      have hc0 := hgr.cell 0
      simp at hc0
      have hck := hvr.cellAt k (by omega)
      have hck1 := hvr.cellAt (k + 1) (by omega)
      have e0 := bnds_get off ps ps.length k (by omega)
      have e1 := bnds_get off ps ps.length (k + 1) (by omega)
      have hYk := HY.out k wr hlt hJs
      unfold bndVals at hYk
      have b0 : sumLen (ps.take k) ≤ 1000000 := Nat.le_trans (sumLen_take_le ps k) hsum
      have b1 : sumLen (ps.take (k + 1)) ≤ 1000000 := Nat.le_trans (sumLen_take_le ps (k + 1)) hsum
      simp only [i64s, List.getElem?_map, e0, e1, Option.map_some] at hck hck1
      generalize off + sumLen (ps.take k) = a at *
      generalize off + sumLen (ps.take (k + 1)) = b at *
      obtain ⟨fn, tmps, assign, body, hy, hR⟩ := hYk
      clear e0 e1 b0 b1 hvr
      gi_wp2
      refine hR.mono ?_
      rintro e W3 ⟨rfl, hJ3, hk3⟩
      gi_wp2
      go_roundw
      case rel => exact ⟨k + 1, by omega, by go_num, hJ3, hnx.trans hk3⟩
      case measure => simp [intOf]; omega
    · have e : k = ps.length := by omega
      have hJs' : J ps.length wr := by rw [e] at hJs; exact hJs
      clear e hJs
      gi_wp2
      rw [Exit.noGoto_normal]
      go_end0
      exact ⟨⟨_, rfl⟩, hJs'⟩
end Go.Proofs.YtmiipkaobloedaaGreat
