/- The bit writer: add appends one bit. -/
import Derived.Test.YtchlbpfeiamieaaB1
import Derived.Test.YtchlbpfeiamieaaM0
import Derived.BigRegion
import Derived.Laws.BitsAllLaws
namespace Go.Proofs.Ytchlbpfeiamieaa
open Go.RowKit
theorem u8_info : (Try.prog.info? 5).map (fun i => (i.zero, i.size, i.bytes)) = some (some (.int .u8 0), 1, 1) := by kernel_rfl
theorem und29 : Try.prog.underlying 29 = some (.slice 5) := by kernel_rfl

/-- The writer at block g has written the bits l; what it owns lies from block B on. -/
def Wtr (w : World) (B g : Nat) (l : List Bool) : Prop :=
  B ≤ g ∧ ∃ v, Blk w g 113 #[v, .int .i64 (l.length : Nat)] ∧ w.ownsRow B 5 1 v (pack l).length (bvs (pack l))
/-- What a writer at block g may turn. -/
def Mw (B g : Nat) (k : Nat) (o : Obj) : Prop := B ≤ k ∧ (k = g ∨ IsRow o 5)

/-- a row of bytes that the writer reaches is the writer's to turn -/
theorem Mw.of_row {B g k : Nat} {a w : World} {o o' : Obj} (h : Kept (Mw B g) a w) (ho : a.heap[k]? = some o) (hw : w.heap[k]? = some o') (hr : IsRow o' 5) (hB : B ≤ k) : Mw B g k o := by
  by_cases hm : Mw B g k o
  · exact hm
  · have := h.same k o ho hm
    rw [hw] at this
    cases this
    exact ⟨hB, .inr hr⟩
theorem bvs_snoc (l : List UInt8) (b : UInt8) : bvs l ++ [bv b] = bvs (l ++ [b]) := by simp [bvs]
theorem bvs_set (l : List UInt8) (i : Nat) (b : UInt8) : (bvs l).set i (bv b) = bvs (l.set i b) := by simp [bvs, List.map_set]

theorem or_new (b : Bool) (n : Nat) (h : n % 8 = 0) : Value.int .u8 (bits .or .u8 0 ((b.toNat : Int) * 2 ^ (7 - n % 8) % 256)) = bv (UInt8.ofNat (b.toNat * 2 ^ 7)) := by
  rw [h]
  cases b <;> simp [bv] <;> rfl
theorem or_in (l : List Bool) (b : Bool) (h : l.length % 8 ≠ 0) :
    Value.int .u8 (bits .or .u8 ((UInt8.ofNat (packN l (l.length / 8))).toNat : Int) ((b.toNat : Int) * 2 ^ (7 - l.length % 8) % 256)) = bv (UInt8.ofNat (packN l (l.length / 8) ||| b.toNat * 2 ^ (7 - l.length % 8))) := by
  have hlt := packN_lt l (l.length / 8)
  have hb : b.toNat * 2 ^ (7 - l.length % 8) < 256 := by
    have h1 : b.toNat * 2 ^ (7 - l.length % 8) ≤ 1 * 2 ^ 7 := Nat.mul_le_mul (by cases b <;> simp) (Nat.pow_le_pow_right (by omega) (by omega))
    omega
  have e : (b.toNat : Int) * 2 ^ (7 - l.length % 8) % 256 = ((b.toNat * 2 ^ (7 - l.length % 8) : Nat) : Int) := by
    rw [Int.emod_eq_of_lt]
    · push_cast; rfl
    · exact Int.mul_nonneg (by omega) (Int.le_of_lt (Int.pow_pos (by omega)))
    · have : ((b.toNat * 2 ^ (7 - l.length % 8) : Nat) : Int) < 256 := by omega
      push_cast at this
      exact this
  have e2 : (UInt8.ofNat (packN l (l.length / 8))).toNat = packN l (l.length / 8) := by simp; omega
  rw [e, e2, u8_or_nat _ _ hlt hb, bv]
  congr 2
  have : packN l (l.length / 8) ||| b.toNat * 2 ^ (7 - l.length % 8) < 2 ^ 8 := Nat.or_lt_two_pow hlt hb
  rw [UInt8.toNat_ofNat', Nat.mod_eq_of_lt this]

set_option maxHeartbeats 800000 in
theorem add_new (B g : Nat) (l : List Bool) (b : Bool) (w : World) (h : Wtr w B g l) (h0 : l.length % 8 = 0) (hsm : l.length < 1000000000) :
    Calls Try.prog 167 #[.pointer (some ⟨g, 0, none⟩), .int .u8 b.toNat] w fun e w' => e = .returned (.tuple #[]) ∧ Wtr w' B g (l ++ [b]) ∧ Kept (Mw B g) w w' := by
  obtain ⟨hBg, v, hg, hv⟩ := h
  have hc0 := hg.cell 0
  have hc1 := hg.cell 1
  have hf0 := hg.frozen 0
  have hf1 := hg.frozen 1
  simp at hc0 hc1
  obtain ⟨i0, hi, hz0, hz1, hz2⟩ := info_parts u8_info
  have h8 : ((l.length : Int) % 8 == 0) = true := by simp; omega
  have hP : pack (l ++ [b]) = pack l ++ [UInt8.ofNat (b.toNat * 2 ^ 7)] := pack_snoc_new l b h0
  have hL : (pack l).length = l.length / 8 := by simp [nbytes]; omega
  have HP := Lib.hid hP
  have HL := Lib.hid hL
  have H0 := Lib.hid h0
  clear hP hL h0
  generalize hps : pack l = ps at *
  generalize hn : l.length = n at *
  have HPS := Lib.hid hps
  have HN := Lib.hid hn
  clear hps hn
  have hlen : ps.length < 1000000000 := by have := HL.out; omega
  have e1 : ((n : Int) / 8).toNat = ps.length := by have := HL.out; omega
  have hlt := hg.lt
  go_enter Try.func167, Try.ntmps167
  go_wp2_with (at_builtin; refine wpList_append_own _ rfl _ _ 29 rfl B 5 i0 (.int .u8 0) 1 1 und29 hi hz0 hz1 hz2 rfl (by decide) _ _ _ rfl (hv.alloc _) ⟨w.heap.size, 0, none⟩ 1 1 [.int .u8 0] rfl rfl ?c1 ?c2 ?c3 ?c4 ?c5 ?_)
  case c1 => exact cell_one_new _ _ _
  case c2 => simp [Value.oneCell']
  case c3 => unfold maxLen; omega
  case c4 => omega
  case c5 => simp; omega
  intro v' w1 hown' hgrow _
  have hg1 : Blk w1 g 113 #[v, .int .i64 n] := (hg.alloc _).grown hgrow (fun e => own_blk_ne hv hg (by decide) e.symm)
  have hk1 : Kept (Mw B g) w w1 := ((Kept.refl _ w).alloc _).grown hgrow (by
    intro k hk o ho
    obtain ⟨o', ho', hr, hb⟩ := own_isRow hv hk
    rw [ho] at ho'
    cases ho'
    exact ⟨hb, .inr hr⟩)
  have hc0 := hg1.cell 0
  have hc1 := hg1.cell 1
  have hf0 := hg1.frozen 0
  have hf1 := hg1.frozen 1
  simp at hc0 hc1
  obtain ⟨g', cap', rfl, hgl, hgl2⟩ := hown'.form (by omega)
  have hne : g ≠ g' := by
    intro e; subst e
    exact own_blk_ne hown' hg1 (by decide) rfl
  have hg2 := hg1.set_ 0 (.slice (some ⟨g', 0, none⟩) (ps.length + 1) cap')
  have hk2 := hk1.setCell (p := ⟨g, 0, none⟩) (fun _ _ => ⟨hBg, .inl rfl⟩) (.slice (some ⟨g', 0, none⟩) (ps.length + 1) cap')
  have hown2 : (w1.setCell ⟨g, 0, none⟩ (.slice (some ⟨g', 0, none⟩) (ps.length + 1) cap')).ownsRow B 5 1 (.slice (some ⟨g', 0, none⟩) (ps.length + 1) cap') (ps.length + 1) (bvs ps ++ [Value.int IntKind.u8 0]) :=
    hown'.kept (grownBy_setCell' w1 g _) (.inr (by simp [Value.ownBlock]; omega))
  simp at hg2
  have hsz2 : w1.heap.size = (w1.setCell ⟨g, 0, none⟩ (.slice (some ⟨g', 0, none⟩) (ps.length + 1) cap')).heap.size := by simp [World.setCell]
  go_wp2
  generalize w1.setCell ⟨g, 0, none⟩ (.slice (some ⟨g', 0, none⟩) (ps.length + 1) cap') = w2 at *
  clear hf0 hf1 hc0 hc1 hg1 hown' hk1 hgrow hsz2
  have hc0 := hg2.cell 0
  have hc1 := hg2.cell 1
  have hf0 := hg2.frozen 0
  have hf1 := hg2.frozen 1
  simp at hc0 hc1
  have hcb := hown2.cellAt ps.length (by omega)
  have hfb := hown2.frozenAt ps.length
  simp at hcb
  go_region
  have ho := or_new b n H0.out
  have HO := Lib.hid ho
  clear ho
  generalize hval : Value.int .u8 (bits .or .u8 0 ((b.toNat : Int) * 2 ^ (7 - n % 8) % 256)) = val at *
  go_wp2
  go_end0
  refine ⟨rfl, ⟨hBg, .slice (some ⟨g', 0, none⟩) (ps.length + 1) cap', ?_, ?_⟩, ?_⟩
  · have h3 := (hg2.far (p := ⟨g', ps.length, none⟩) hne val).set_ 1 (.int .i64 ((n : Int) + 1))
    simpa [HN.out] using h3.drew
  · have h3 := (hown2.stored ps.length val).1
    have e : (bvs ps ++ [Value.int .u8 0]).set ps.length val = bvs ps ++ [val] := by simp
    rw [HP.out, ← bvs_snoc, ← HO.out]
    rw [e] at h3
    have h4 := h3.kept (grownBy_setAt _ g 1 (.int .i64 ((n : Int) + 1))) (.inr (by simp [Value.ownBlock]; omega))
    simpa using h4.drew'
  · exact ((hk2.setCell (p := ⟨g', ps.length, none⟩) (fun o ho => by
      obtain ⟨o', ho', hr, _⟩ := own_isRow hown2 (k := g') rfl
      exact Mw.of_row hk2 ho ho' hr hgl) val).setCell (p := ⟨g, 1, none⟩) (fun _ _ => ⟨hBg, .inl rfl⟩) _).drew

set_option maxHeartbeats 800000 in
theorem add_in (B g : Nat) (l : List Bool) (b : Bool) (w : World) (h : Wtr w B g l) (h0 : l.length % 8 ≠ 0) (hsm : l.length < 1000000000) :
    Calls Try.prog 167 #[.pointer (some ⟨g, 0, none⟩), .int .u8 b.toNat] w fun e w' => e = .returned (.tuple #[]) ∧ Wtr w' B g (l ++ [b]) ∧ Kept (Mw B g) w w' := by
  obtain ⟨hBg, v, hg, hv⟩ := h
  have hc0 := hg.cell 0
  have hc1 := hg.cell 1
  have hf0 := hg.frozen 0
  have hf1 := hg.frozen 1
  simp at hc0 hc1
  have h8 : ((l.length : Int) % 8 == 0) = false := by simp; omega
  have hP : pack (l ++ [b]) = (pack l).set (l.length / 8) (UInt8.ofNat (packN l (l.length / 8) ||| b.toNat * 2 ^ (7 - l.length % 8))) := pack_snoc_in l b h0
  have hL : (pack l).length = l.length / 8 + 1 := by simp [nbytes]; omega
  have hO := or_in l b h0
  have hold : (pack l)[l.length / 8]? = some (UInt8.ofNat (packN l (l.length / 8))) := pack_get l _ (by simp [nbytes]; omega)
  have hL' : (pack (l ++ [b])).length = (pack l).length := by rw [hP]; simp
  have HP := Lib.hid hP
  have HL := Lib.hid hL
  have HO := Lib.hid hO
  have HL' := Lib.hid hL'
  clear hP hL h0 hO hL'
  obtain ⟨g', cap', rfl, hgl, hgl2⟩ := hv.form (by rw [HL.out]; omega)
  have hne : g ≠ g' := by
    intro e; subst e
    exact own_blk_ne hv hg (by decide) rfl
  have hcb := hv.cellAt (l.length / 8) (by rw [HL.out]; omega)
  have hfb := hv.frozenAt (l.length / 8)
  have hcb' : w.cell? ⟨g', l.length / 8, none⟩ = some (.int .u8 ((UInt8.ofNat (packN l (l.length / 8))).toNat : Int)) := by
    rw [hcb]; simp only [bvs, List.getElem?_map, hold]; rfl
  generalize hps : pack l = ps at *
  generalize hq : (UInt8.ofNat (packN l (l.length / 8))).toNat = q at *
  clear hcb hq hold
  generalize hn : l.length = n at *
  have HPS := Lib.hid hps
  have HN := Lib.hid hn
  clear hps hn
  have hlen : ps.length < 1000000000 := by have := HL.out; omega
  have e1 : ((n : Int) / 8).toNat = n / 8 := by omega
  have e2 : (n : Int) / 8 < ps.length := by have := HL.out; omega
  have hlt := hg.lt
  go_enter Try.func167, Try.ntmps167
  go_wp2
  go_region
  generalize hval : Value.int .u8 (bits .or .u8 (q : Int) ((b.toNat : Int) * 2 ^ (7 - n % 8) % 256)) = val at *
  clear hval
  go_wp2
  go_end0
  refine ⟨rfl, ⟨hBg, .slice (some ⟨g', 0, none⟩) ps.length cap', ?_, ?_⟩, ?_⟩
  · have h3 := (hg.far (p := ⟨g', n / 8, none⟩) hne val).set_ 1 (.int .i64 ((n : Int) + 1))
    simpa [HN.out] using h3.drew
  · have h3 := (hv.stored (n / 8) val).1
    rw [HL'.out, HP.out, ← bvs_set, ← HO.out]
    have h4 := h3.kept (grownBy_setAt _ g 1 (.int .i64 ((n : Int) + 1))) (.inr (by simp [Value.ownBlock]; omega))
    simpa using h4.drew'
  · exact (((Kept.refl _ w).setCell (p := ⟨g', n / 8, none⟩) (fun o ho => by
      obtain ⟨o', ho', hr, _⟩ := own_isRow hv (k := g') rfl
      exact Mw.of_row (Kept.refl _ w) ho ho' hr hgl) val).setCell (p := ⟨g, 1, none⟩) (fun _ _ => ⟨hBg, .inl rfl⟩) _).drew

/-- add appends one bit. -/
theorem add_any (B g : Nat) (l : List Bool) (b : Bool) (w : World) (h : Wtr w B g l) (hsm : l.length < 1000000000) :
    Calls Try.prog 167 #[.pointer (some ⟨g, 0, none⟩), .int .u8 b.toNat] w fun e w' => e = .returned (.tuple #[]) ∧ Wtr w' B g (l ++ [b]) ∧ Kept (Mw B g) w w' := by
  by_cases h0 : l.length % 8 = 0
  · exact add_new B g l b w h h0 hsm
  · exact add_in B g l b w h h0 hsm
end Go.Proofs.Ytchlbpfeiamieaa
