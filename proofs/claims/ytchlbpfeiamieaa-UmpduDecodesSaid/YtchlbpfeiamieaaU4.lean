/- umpdu.Encode. -/
import Derived.Test.YtchlbpfeiamieaaU3
import Derived.StillTailTactics
import Derived.Deep.RegionHeld3
namespace Go.Proofs.Ytchlbpfeiamieaa
open Go.RowKit

/-- the fields of the fixed header -/
def umHead (sn : Nat) (s e : Bool) (n : Nat) : List (Nat × Nat) := [(0, 3), ((!s).toNat, 1), ((!e).toNat, 1), ((decide (1 < n)).toNat, 1), (sn, 10)]
/-- the two fields of length i -/
def lenField (ps : List (List UInt8)) (i : Nat) : List (Nat × Nat) := [((decide (i + 2 < ps.length)).toNat, 1), ((ps[i]?.getD []).length, 11)]
/-- the bits of the first k lengths -/
def lenBits (ps : List (List UInt8)) (k : Nat) : List Bool := (List.range k).flatMap fun i => fieldBits (lenField ps i)
theorem lenBits_succ (ps : List (List UInt8)) (k : Nat) : lenBits ps (k + 1) = lenBits ps k ++ fieldBits (lenField ps k) := by simp [lenBits, List.range_succ]
theorem lenBits_length (ps : List (List UInt8)) (k : Nat) : (lenBits ps k).length = 12 * k := by
  unfold lenBits
  rw [List.length_flatMap]
  have : ∀ i, (fieldBits (lenField ps i)).length = 12 := fun i => by simp [fieldBits, lenField]
  simp only [this, List.map_const', List.length_range, List.sum_replicate_nat]
  omega
theorem mem_le_sumLen {ps : List (List UInt8)} {p : List UInt8} (h : p ∈ ps) : p.length ≤ sumLen ps := by
  induction ps with
  | nil => cases h
  | cons q ps ih =>
    unfold sumLen at ih ⊢
    rw [List.map_cons, List.sum_cons]
    rcases List.mem_cons.1 h with rfl | h
    · omega
    · have := ih h; omega
/-- the encoding -/
def encU (sn : Nat) (s e : Bool) (ps : List (List UInt8)) : List UInt8 := pack (fieldBits (umHead sn s e ps.length) ++ lenBits ps (ps.length - 1)) ++ ps.flatten

structure ValidP (ps : List (List UInt8)) : Prop where
  lo : 1 ≤ ps.length
  hi : ps.length ≤ 64
  pos : ∀ p ∈ ps, 1 ≤ p.length
  short : ∀ i, i + 1 < ps.length → (ps[i]?.getD []).length ≤ 2047
  sum : sumLen ps ≤ 32767
theorem validB_iff (ps : List (List UInt8)) : validB ps = true ↔ ValidP ps := by
  unfold validB vConds
  simp only [List.all_cons, List.all_nil, Bool.and_true, id, Bool.and_eq_true, Bool.not_eq_true', decide_eq_true_eq, List.any_eq_false, Bool.not_eq_true]
  constructor
  · rintro ⟨⟨h1, h2⟩, h3, h4, h5⟩
    refine ⟨h1, h2, fun p hp => ?_, fun i hi => ?_, h5⟩
    · have := h3 p hp
      simp [qEmpty] at this
      cases p with
      | nil => exact absurd rfl this
      | cons => simp
    · have := h4 (ps[i]?.getD []) (by
        rw [List.getElem?_eq_getElem (by omega)]
        show ps[i] ∈ _
        rw [List.mem_take_iff_getElem]
        exact ⟨i, by omega, rfl⟩)
      simp [qLong] at this
      omega
  · rintro ⟨h1, h2, h3, h4, h5⟩
    refine ⟨⟨h1, h2⟩, fun p hp => ?_, fun p hp => ?_, h5⟩
    · have := h3 p hp
      simp [qEmpty]
      rintro rfl
      simp at this
    · rw [List.mem_take_iff_getElem] at hp
      obtain ⟨i, hi, rfl⟩ := hp
      have := h4 i (by omega)
      rw [List.getElem?_eq_getElem (by omega)] at this
      simp [qLong]
      simpa using this

theorem one_still (b : Bool) (w : World) : Calls Try.prog 73 #[.bool b] w fun e w' => e = .returned (.int .u64 b.toNat) ∧ w' = w := (one_any b w).mono fun _ _ h => ⟨h.1, h.2.symm⟩

/-- a pair of a row and an error number -/
def GivesRowErr (B : Nat) (t : TypeId) (w : World) (n : Nat) (xs : List Value) (er : Int) (e : Ending) (w' : World) : Prop :=
  ∃ v, e = .returned (.tuple #[v, .int .i64 er]) ∧ w'.ownsRow B t 1 v n xs ∧ Below B w w'

set_option maxHeartbeats 800000 in
theorem encode_bad (sn : Int) (s e : Bool) (A : Option Addr) (n c : Nat) (vs : List Value) (ps : List (List UInt8)) (w : World) (h : Sls w w.heap.size A n c vs ps) (hn : n ≤ 1048576) (hle : ∀ p ∈ ps, p.length ≤ 1099511627776)
    (hbad : sn < 0 ∨ 1023 < sn ∨ validB ps = false) :
    Calls Try.prog 19 #[.agg #[.int .i64 sn, .bool s, .bool e, .slice A n c]] w (GivesRowErr w.heap.size 5 w 0 [] 2) := by
  have hB := ((Below.refl w.heap.size w).alloc (Nat.le_refl _) (.cells #[.int .i64 sn, .bool s, .bool e, .slice A n c] 26)).alloc (by simp) (.cells #[.bool s, .bool e, .slice A n c] 24)
  have hv := valid_any s e A n c vs ps _ ((h.below hB).more hB.size) hn hle
  have HB := Lib.hid hB
  have HV := Lib.hid hv
  clear hB hv hle
  by_cases h1 : sn < 0
  · clear hbad
    go_enter Try.func19, Try.ntmps19
    go_wp2
    go_ret2
    exact ⟨_, rfl, World.ownsRow_nil _ _ _ _, HB.out⟩
  · by_cases h2 : 1023 < sn
    · clear hbad
      go_enter Try.func19, Try.ntmps19
      go_wp2
      go_ret2
      exact ⟨_, rfl, World.ownsRow_nil _ _ _ _, HB.out⟩
    · have h3 : validB ps = false := by rcases hbad with h | h | h; omega; omega; exact h
      rw [h3] at HV
      clear hbad h3
      go_enter Try.func19, Try.ntmps19
      go_wp2_with (go_at_call 29; refine HV.out.mono ?_; rintro e w' ⟨rfl, hb⟩)
      go_ret2
      exact ⟨_, rfl, World.ownsRow_nil _ _ _ _, HB.out.trans (hb.mono HB.out.size)⟩

set_option maxRecDepth 100000 in
set_option maxHeartbeats 2000000 in
theorem encode_ok (sn : Nat) (s e : Bool) (A : Option Addr) (n c : Nat) (vs : List Value) (ps : List (List UInt8)) (w : World) (h : Sls w w.heap.size A n c vs ps) (hsn : sn ≤ 1023) (hv : validB ps = true) :
    Calls Try.prog 19 #[.agg #[.int .i64 sn, .bool s, .bool e, .slice A n c]] w (GivesRowErr w.heap.size 5 w (encU sn s e ps).length (bvs (encU sn s e ps)) 0) := by
  obtain ⟨hlo, hhi, hpos, hshort, hsum⟩ := (validB_iff ps).1 hv
  have hlen := h.len
  have hple : ∀ p ∈ ps, p.length ≤ 1099511627776 := fun p hp => by have := mem_le_sumLen hp; omega
  have hB := ((Below.refl w.heap.size w).alloc (Nat.le_refl _) (.cells #[.int .i64 sn, .bool s, .bool e, .slice A n c] 26)).alloc (by simp) (.cells #[.bool s, .bool e, .slice A n c] 24)
  have hva := valid_any s e A n c vs ps _ ((h.below hB).more hB.size) (by omega) hple
  rw [hv] at hva
  have HB := Lib.hid hB
  have HV := Lib.hid hva
  have HL := Lib.hid hlen
  have HP := Lib.hid hpos
  have HS := Lib.hid hshort
  have b0 := (Blk.new w 26 #[.int .i64 sn, .bool s, .bool e, .slice A n c]).alloc (.cells #[.bool s, .bool e, .slice A n c] 24)
  have b1 := Blk.new (w.alloc (.cells #[.int .i64 sn, .bool s, .bool e, .slice A n c] 26)) 24 #[.bool s, .bool e, .slice A n c]
  rw [World.size_alloc] at b1
  clear hB hva hv hlen hpos hshort hple
  go_enter Try.func19, Try.ntmps19
  go_wp2_with fail
  refine HV.out.mono ?_
  rintro e1 w1 ⟨rfl, hb1⟩
  have hbw : Below w.heap.size w w1 := HB.out.trans (hb1.mono HB.out.size)
  replace b0 := b0.below hb1 b0.lt
  replace b1 := b1.below hb1 b1.lt
  have c12 := b1.cell 2
  simp at c12
  have hlt1 := b1.lt
  clear HV hb1 HB
  go_wp2_with fail
  have hW2 : Wtr (w1.alloc (.cells #[.slice none 0 0, .int .i64 0] 113)) w1.heap.size w1.heap.size [] := ⟨Nat.le_refl _, _, Blk.new w1 _ _, World.ownsRow_nil _ _ _ _⟩
  have hbw2 := hbw.alloc hbw.size (.cells #[.slice none 0 0, .int .i64 0] 113)
  replace b0 := b0.alloc (.cells #[.slice none 0 0, .int .i64 0] 113)
  replace b1 := b1.alloc (.cells #[.slice none 0 0, .int .i64 0] 113)
  obtain ⟨g, hg⟩ : ∃ g, g = w1.heap.size := ⟨_, rfl⟩
  have hgl : w.heap.size + 1 < g := by omega
  rw [← hg] at hW2 ⊢
  generalize w1.alloc (.cells #[.slice none 0 0, .int .i64 0] 113) = w2 at *
  clear hbw c12 hlt1 hg
  have c00 := b0.cell 0
  have c10 := b1.cell 0
  have c11 := b1.cell 1
  have c12 := b1.cell 2
  simp at c00 c10 c11 c12
  have hwr : IntKind.u64.wrap (sn : Int) = sn := by rw [IntKind.wrap_u64]; omega
  have hdn : decide ((1 : Int) < n) = decide (1 < n) := by rw [Bool.eq_iff_iff]; simp; omega
  refine wp_region_still_tail 19 (by kernel_rfl) (by kernel_rfl) ?_
  simp only [List.take_succ_cons, List.take_zero, List.drop_succ_cons, List.drop_zero]
  still_step
  still_step
  still_step
  still_step
  still_call (one_still _ _)
  still_step
  still_step
  still_step
  still_step
  still_call (one_still _ _)
  still_step
  still_step
  still_step
  still_call (one_still _ _)
  still_step
  still_step
  still_step
  still_step
  still_step
  refine wpStill_nil ?_
  change wpList _ _ _ _ _ w2.drew
  replace hW2 : Wtr w2.drew g g [] := hW2
  replace hbw2 := hbw2.drew
  replace b0 := b0.drew
  replace b1 := b1.drew
  generalize w2.drew = w3 at *
  clear c00 c10 c11 c12 hwr hdn
  have hput := putAll_any g g w3.heap.size [] (umHead sn s e n) (w3.alloc (.cells (fieldCells (umHead sn s e n)).toArray 117)) (hW2.alloc _) (by simp) (by simp [umHead]) (Blk.new _ _ _) (by
    intro x hx
    simp only [umHead, List.mem_cons, List.not_mem_nil, or_false] at hx
    have hb : ∀ b : Bool, b.toNat ≤ 1 := fun b => by cases b <;> simp
    rcases hx with rfl | rfl | rfl | rfl | rfl
    · exact ⟨by omega, by decide, by omega⟩
    · exact ⟨by omega, by have := hb (!s); simp; omega, by have := hb (!s); omega⟩
    · exact ⟨by omega, by have := hb (!e); simp; omega, by have := hb (!e); omega⟩
    · exact ⟨by omega, by have := hb (decide (1 < n)); simp; omega, by have := hb (decide (1 < n)); omega⟩
    · exact ⟨by omega, by simp; omega, by omega⟩)
  simp only [umHead, fieldCells, List.length_cons, List.length_nil, Nat.zero_add, Nat.reduceAdd, List.nil_append] at hput
  have HPut := Lib.hid hput
  clear hput
  go_wp2_with fail
  refine HPut.out.mono ?_
  rintro e4 w4 ⟨rfl, hW4, hk4⟩
  have hg3 : g < w3.heap.size := by obtain ⟨_, v, hb, _⟩ := hW2; exact hb.lt
  clear HPut hW2
  have hB4 := hk4.below (B := g) (fun _ _ h => h.1) (by simp; omega)
  have hbw4 := (hbw2.alloc hbw2.size _).trans (hB4.mono (by omega))
  replace b1 := (b1.alloc _).below hB4 (by omega)
  clear hB4 hbw2 hk4 b0
  have c12 := b1.cell 2
  simp at c12
  have hh : fieldBits [(0, 3), ((!s).toNat, 1), ((!e).toNat, 1), ((decide (1 < n)).toNat, 1), (sn, 10)] = fieldBits (umHead sn s e ps.length) := by rw [HL.out]; rfl
  rw [hh] at hW4
  clear hh
  have hlH : (fieldBits (umHead sn s e ps.length)).length = 16 := by simp [fieldBits, umHead]
  have HLH := Lib.hid hlH
  clear hlH
  have henc : encU sn s e ps = pack (fieldBits (umHead sn s e ps.length) ++ lenBits ps (n - 1)) ++ ps.flatten := by rw [← HL.out]; rfl
  have HE := Lib.hid henc
  clear henc
  generalize hH : fieldBits (umHead sn s e ps.length) = H at *
  generalize hEE : encU sn s e ps = EE at *
  clear hH hEE
  have hcap := h.sl.cap
  have hmx := h.sl.mx
  obtain ⟨m, hm⟩ : ∃ m, n = m + 1 := ⟨n - 1, by have := HL.out; omega⟩
  subst hm
  have em : m + 1 - 1 = m := by omega
  rw [em] at HE
  clear em
  go_wp2
  go_loopw [54] (fun i wr => ∃ k : Nat, k ≤ m ∧ i = .int .i64 k ∧ Wtr wr g g (H ++ lenBits ps k) ∧ Kept (Mw g g) w4 wr) (fun i _ => m - (intOf i).toNat)
  case atStart => exact ⟨0, Nat.zero_le _, rfl, by simpa [lenBits] using hW4, Kept.refl _ _⟩
  case round =>
    obtain ⟨k, hk, rfl, hWk, hKk⟩ := hrel
    have hB4k := hKk.below (B := g) (fun _ _ h => h.1) (by have : g < w4.heap.size := (by obtain ⟨_, v, hb, _⟩ := hW4; exact hb.lt); omega)
    have hbwk := hbw4.trans (hB4k.mono (by omega))
    by_cases hlt : k < m
    · obtain ⟨ad, Ai, ci, rfl, hb, hc, hsl⟩ := (h.below hbwk).get (k := k) (by omega)
      have hp := HS.out k (by rw [HL.out]; omega)
      have hls := lenBits_succ ps k
      have hlf : lenField ps k = [((decide (k + 2 < m + 1)).toNat, 1), ((ps[k]?.getD []).length, 11)] := by unfold lenField; rw [HL.out]
      rw [hlf] at hls
      generalize ps[k]?.getD [] = p at *
      have HLS := Lib.hid hls
      clear hls hlf
      obtain ⟨d, hd⟩ : ∃ d : Bool, decide (k + 2 < m + 1) = d := ⟨_, rfl⟩
      have hd' : decide ((k : Int) + 2 < (m : Int) + 1) = d := by rw [← hd, Bool.eq_iff_iff]; simp; omega
      rw [hd] at HLS
      clear hd
      have hwp : IntKind.u64.wrap (p.length : Int) = p.length := by rw [IntKind.wrap_u64]; omega
      have hlk : (H ++ lenBits ps k).length < 1000000 := by
        rw [List.length_append, HLH.out]
        have := lenBits_length ps k
        have := HL.out
        omega
      have hput := putAll_any g g wr.heap.size (H ++ lenBits ps k) [(d.toNat, 1), (p.length, 11)] (wr.alloc (.cells (fieldCells [(d.toNat, 1), (p.length, 11)]).toArray 117)) (hWk.alloc _) hlk (by simp) (Blk.new _ _ _) (by
        intro x hx
        simp only [List.mem_cons, List.not_mem_nil, or_false] at hx
        have hb : ∀ b : Bool, b.toNat ≤ 1 := fun b => by cases b <;> simp
        rcases hx with rfl | rfl
        · exact ⟨by omega, by have := hb d; simp; omega, by have := hb d; omega⟩
        · exact ⟨by omega, by simp; omega, by omega⟩)
      simp only [fieldCells, List.length_cons, List.length_nil, Nat.zero_add, Nat.reduceAdd] at hput
      have HPut := Lib.hid hput
      clear hput hlk
      go_wp2_with fail
      refine (one_any _ _).mono ?_
      rintro e5 w5 ⟨rfl, rfl⟩
      go_wp2_with fail
      refine HPut.out.mono ?_
      rintro e6 w6 ⟨rfl, hW6, hk6⟩
      clear HPut
      go_wp2
      go_roundw
      case rel => exact ⟨k + 1, by omega, by go_num, by rw [HLS.out, ← List.append_assoc]; exact hW6, (hKk.alloc _).trans hk6⟩
      case measure => simp [intOf]; omega
    · obtain rfl : k = m := by omega
      clear hlt hk
      have hL12 : (H ++ lenBits ps k).length = 16 + 12 * k := by rw [List.length_append, HLH.out, lenBits_length]
      have hk64 : k + 1 ≤ 64 := by have := HL.out; omega
      have hgr : g < wr.heap.size := by obtain ⟨_, v, hb, _⟩ := hWk; exact hb.lt
      have hal := alignW_any g g _ wr hWk (by omega)
      have HAL := Lib.hid hal
      have HL12 := Lib.hid hL12
      clear hal hL12
      go_wp2_with (go_at_call 74; refine HAL.out.mono ?_; rintro e7 w7 ⟨rfl, hW7, hk7⟩)
      obtain ⟨i0, hi, hz0, hz1, hz2⟩ := info_parts u8_info
      have hpk : pack (H ++ lenBits ps k ++ List.replicate (8 * nbytes (H ++ lenBits ps k).length - (H ++ lenBits ps k).length) false) = pack (H ++ lenBits ps k) := pack_pad _ _ (by unfold nbytes; omega)
      have hpl : (pack (H ++ lenBits ps k)).length ≤ 1000 := by have e := pack_length (H ++ lenBits ps k); rw [HL12.out] at e; unfold nbytes at e; omega
      have hLl : (H ++ lenBits ps k ++ List.replicate (8 * nbytes (H ++ lenBits ps k).length - (H ++ lenBits ps k).length) false).length < 1000000000 := by
        have e := HL12.out
        rw [List.length_append, List.length_replicate, e]; unfold nbytes; omega
      rw [← hpk] at HE hpl
      clear hpk
      generalize H ++ lenBits ps k ++ List.replicate (8 * nbytes (H ++ lenBits ps k).length - (H ++ lenBits ps k).length) false = L at *
      have hB7 := hk7.below (B := g) (fun _ _ h => h.1) (by omega)
      have hbw7 := hbwk.trans (hB7.mono (by omega))
      have b17 := (b1.below hB4k (by omega)).below hB7 (by omega)
      have c7 := b17.cell 2
      simp at c7
      have hS7 := h.below hbw7
      have HPL := Lib.hid hpl
      have HSUM := Lib.hid hsum
      clear hk7 hbwk hB4k hKk hWk HAL b1 c12 hW4 hbw4 hpl hsum
      have HLl := Lib.hid hLl
      clear hLl
      have hwl := b17.lt
      have hws := hbw7.size
      go_region_held3 (fun w' => w'.cell? ⟨w.heap.size + 1, 2, none⟩ = some (.slice A (k + 1) c))
        (first | (rw [hgrow10.cell_far _ (by simp; omega) (fun e => by have := (hv8.lt _ e.symm).1; simp at this; omega)]; assumption) | (rw [hb9.cell (p := ⟨w.heap.size + 1, 2, none⟩) (by simp; omega)]; assumption) | (rw [hb8.cell (p := ⟨w.heap.size + 1, 2, none⟩) (by simp; omega)]; assumption) | go_keep)
        (first
          | (go_at_call 75
             refine (bytes_any g g L w7.drew hW7 HLl.out).mono ?_
             rintro e8 w8 ⟨v8, rfl, hv8, hb8⟩
             have hz8 : w7.heap.size ≤ w8.heap.size := hb8.size)
          | (go_at_call 76
             refine (concat_any A (k + 1) c vs ps w8 (((hS7.drew').below (hb8.mono (by simp; omega))).more (by have := hb8.size; simp at this; omega)) (by have := HSUM.out; omega)).mono ?_
             rintro e9 w9 ⟨v9, rfl, hv9, hb9⟩
             obtain ⟨A9, c9, rfl, hs9, _⟩ := own_sl hv9
             have hz9 : w8.heap.size ≤ w9.heap.size := hb9.size)
          | (refine step_append_sl _ (by rfl) _ _ 29 (by rfl) w7.heap.size 5 i0 (.int .u8 0) 1 und29 hi hz0 hz1 hz2 rfl v8 (pack L).length (bvs (pack L)) (by rfl) (own_below hv8 hb9 (Nat.le_refl _)) w9.heap.size A9 (sumLen ps) c9 (bvs ps.flatten) (by rfl) hs9 (one_bvs _) (by have := HSUM.out; have := HPL.out; unfold maxLen; omega) (by have := HSUM.out; have := HPL.out; omega) (by have := hb8.size; have := hb9.size; simp at *; omega) ?_
             intro v10 w10 hown10 hgrow10 hat10))
      go_wp2
      go_ret2
      refine ⟨v10, rfl, ?_, ((hbw7.drew.trans (hb8.mono hbw7.size)).trans (hb9.mono (by omega))).grown hgrow10 (by omega) (fun j hj => by have := (hv8.lt j hj).1; simp at this; omega)⟩
      have hfl : EE.length = (pack L).length + sumLen ps := by rw [HE.out, List.length_append, flatten_length]
      rw [hfl, HE.out]
      have := own_base hown10 (base' := w.heap.size) (by omega)
      simpa [bvs] using this
end Go.Proofs.Ytchlbpfeiamieaa
