/- The bit writer: Clone, Bytes, Align, check, PutAll, Grow, Concat. -/
import Derived.Test.YtchlbpfeiamieaaW1
import Derived.Test.YtchlbpfeiamieaaB2
namespace Go.Proofs.Ytchlbpfeiamieaa
open Go.RowKit

/-- A call hands back a row of its own, from block B on, and keeps what lay below. -/
def GivesRow (B : Nat) (t : TypeId) (w : World) (n : Nat) (xs : List Value) (e : Ending) (w' : World) : Prop :=
  ∃ v, e = .returned v ∧ w'.ownsRow B t 1 v n xs ∧ Below B w w'

set_option maxHeartbeats 400000 in
theorem clone_any (A : Option Addr) (n c : Nat) (l : List UInt8) (w : World) (h : Sl w w.heap.size A n c (bvs l)) (hsm : n ≤ 1000000000) :
    Calls Try.prog 112 #[.slice A n c] w (GivesRow w.heap.size 5 w n (bvs l)) := by
  have hnil := fun (W : World) => Lib.run_eql_slice_nil (P := Try.prog) W 29 5 A n c 0 0 und29
  obtain ⟨i0, hi, hz0, hz1, hz2⟩ := info_parts u8_info
  have hs1 := h.alloc (Nat.le_refl _) (.cells #[] 5)
  rcases A with _ | ad
  · obtain rfl : n = 0 := by
      rcases Nat.eq_zero_or_pos n with h0 | h0
      · exact h0
      · obtain ⟨_, e, _⟩ := h.at_ h0; cases e
    have hl : bvs l = [] := List.eq_nil_of_length_eq_zero h.len
    go_enter Try.func112, Try.ntmps112
    go_wp2
    go_ret
    exact ⟨_, rfl, by rw [hl]; exact World.ownsRow_nil _ _ _ _, Below.refl _ _⟩
  · go_enter Try.func112, Try.ntmps112
    go_wp2_with (at_builtin; refine wpList_append_sl _ rfl _ _ 29 rfl w.heap.size 5 i0 (.int .u8 0) 1 und29 hi hz0 hz1 hz2 rfl (.slice (some ⟨w.heap.size, 0, none⟩) 0 0) 0 [] rfl ?c0 w.heap.size (some ad) n c (bvs l) rfl hs1 (one_bvs l) ?c3 ?c4 ?c5 ?_)
    case c0 => exact World.ownsRow_lit w #[] 0 (Nat.le_refl _) (by unfold maxLen; omega) rfl
    case c3 => unfold maxLen; omega
    case c4 => omega
    case c5 => simp
    intro v' w1 hown' hgrow _
    go_wp2
    go_ret
    exact ⟨_, rfl, by simpa using hown', ((Below.refl _ w).alloc (Nat.le_refl _) _).grown hgrow (by simp) (by simp [Value.ownBlock])⟩

/-- Bytes hands back a copy. -/
theorem bytes_any (B g : Nat) (l : List Bool) (w : World) (h : Wtr w B g l) (hsm : l.length < 1000000000) :
    Calls Try.prog 75 #[.pointer (some ⟨g, 0, none⟩)] w (GivesRow w.heap.size 5 w (pack l).length (bvs (pack l))) := by
  obtain ⟨hB, v, hg, hv⟩ := h
  obtain ⟨A, c, rfl, hs, _⟩ := own_sl hv
  have hl : (pack l).length ≤ 1000000000 := by have e := pack_length l; unfold nbytes at e; omega
  generalize pack l = ps at *
  have hc0 := hg.cell 0
  simp at hc0
  go_enter Try.func75, Try.ntmps75
  have hcl := clone_any A ps.length c ps w hs hl
  have HC := Lib.hid hcl
  clear hcl hl hsm
  go_wp2_with (go_at_call 112; refine HC.out.mono ?_; rintro e w' ⟨v, rfl, hv', hb'⟩)
  go_ret
  exact ⟨_, rfl, hv', hb'⟩

theorem one_any (b : Bool) (w : World) : Calls Try.prog 73 #[.bool b] w fun e w' => e = .returned (.int .u64 b.toNat) ∧ w = w' := by
  cases b
  · go_enter Try.func73, Try.ntmps73
    go_wp2
    go_ret
    exact ⟨rfl, rfl⟩
  · go_enter Try.func73, Try.ntmps73
    go_wp2
    go_ret
    exact ⟨rfl, rfl⟩

theorem pack_pad (l : List Bool) (k : Nat) (h : l.length + k = 8 * nbytes l.length) : pack (l ++ List.replicate k false) = pack l := by
  have e : ∀ j, bitv (l ++ List.replicate k false) j = bitv l j := by
    intro j
    unfold bitv
    congr 1
    rcases Nat.lt_or_ge j l.length with hj | hj
    · simp [List.getD_eq_getElem?_getD, List.getElem?_append_left hj]
    · simp only [List.getD_eq_getElem?_getD, List.getElem?_append_right hj, List.getElem?_eq_none hj]
      rcases Nat.lt_or_ge (j - l.length) k with hk | hk
      · simp [hk]
      · simp [List.getElem?_eq_none (show (List.replicate k false).length ≤ j - l.length by simpa using hk)]
  have hn : nbytes (l ++ List.replicate k false).length = nbytes l.length := by simp [nbytes] at h ⊢; omega
  unfold pack packN
  rw [hn]
  simp only [e]

/-- Align pads with zeros. -/
theorem alignW_any (B g : Nat) (l : List Bool) (w : World) (h : Wtr w B g l) (hsm : l.length < 1000000000) :
    Calls Try.prog 74 #[.pointer (some ⟨g, 0, none⟩)] w fun e w' => e = .returned (.int .i64 0) ∧ Wtr w' B g (l ++ List.replicate (8 * nbytes l.length - l.length) false) ∧ Kept (Mw B g) w w' := by
  obtain ⟨hB, v, hg, hv⟩ := h
  have hc0 := hg.cell 1
  have hf0 := hg.frozen 1
  simp at hc0
  have hp := pack_pad l (8 * nbytes l.length - l.length) (by simp [nbytes]; omega)
  have hL : (l ++ List.replicate (8 * nbytes l.length - l.length) false).length = (l.length + 7) / 8 * 8 := by simp [nbytes]; omega
  have HP := Lib.hid hp
  have HL := Lib.hid hL
  clear hp hL
  generalize hn : l.length = n at *
  have HN := Lib.hid hn
  clear hn
  go_enter Try.func74, Try.ntmps74
  go_wp2
  go_ret
  refine ⟨rfl, ⟨hB, v, ?_, ?_⟩, (Kept.refl _ w).setCell (p := ⟨g, 1, none⟩) (fun _ _ => ⟨hB, .inl rfl⟩) _⟩
  · have := hg.set_ 1 (.int .i64 (((n : Int) + 7) / 8 * 8))
    rw [HL.out]
    simpa using this
  · rw [HP.out]
    exact hv.kept (grownBy_setAt w g 1 _) (.inr (own_blk_ne hv hg (by decide)))

set_option maxHeartbeats 400000 in
/-- check of a field that fits. -/
theorem check_ok (v wd : Nat) (w : World) (h64 : wd ≤ 64) (hv : v < 2 ^ wd) (hv64 : v < 18446744073709551616) :
    Calls Try.prog 136 #[.agg #[.int .u64 v, .int .i64 wd]] w fun e w' => e = .returned (.int .i64 0) ∧ w.alloc (.cells #[.int .u64 v, .int .i64 wd] 117) = w' := by
  have h0 : (v : Int) / 2 ^ wd = 0 := by
    have : ((v / 2 ^ wd : Nat) : Int) = 0 := by rw [Nat.div_eq_of_lt hv]; rfl
    push_cast at this
    exact this
  by_cases hw : wd < 64
  · go_enter Try.func136, Try.ntmps136
    go_wp2
    go_ret
    exact ⟨rfl, rfl⟩
  · go_enter Try.func136, Try.ntmps136
    go_wp2
    go_ret
    exact ⟨rfl, rfl⟩

/-- fields as cells -/
def fieldCells : List (Nat × Nat) → List Value
  | [] => []
  | (v, n) :: l => .int .u64 v :: .int .i64 n :: fieldCells l
theorem fieldCells_get (l : List (Nat × Nat)) (i v n : Nat) (h : l[i]? = some (v, n)) : (fieldCells l)[i * 2]? = some (.int .u64 v) ∧ (fieldCells l)[i * 2 + 1]? = some (.int .i64 n) := by
  induction l generalizing i with
  | nil => simp at h
  | cons x l ih =>
    obtain ⟨v', n'⟩ := x
    cases i with
    | zero => simp at h; simp [fieldCells, h]
    | succ i =>
      have := ih i (by simpa using h)
      rw [show (i + 1) * 2 = i * 2 + 1 + 1 by omega]
      simpa [fieldCells] using this
/-- the bits of fields -/
def fieldBits (l : List (Nat × Nat)) : List Bool := l.flatMap fun x => bitsOf x.1 x.2
theorem fieldBits_snoc (l : List (Nat × Nat)) (x : Nat × Nat) : fieldBits (l ++ [x]) = fieldBits l ++ bitsOf x.1 x.2 := by simp [fieldBits]
theorem fieldBits_length (l : List (Nat × Nat)) (h : ∀ x ∈ l, x.2 ≤ 64) : (fieldBits l).length ≤ 64 * l.length := by
  induction l with
  | nil => simp [fieldBits]
  | cons x l ih =>
    have h1 := h x (by simp)
    have h2 := ih (fun y hy => h y (by simp [hy]))
    unfold fieldBits at h2 ⊢
    rw [List.flatMap_cons, List.length_append, List.length_cons, bitsOf_length]
    omega

theorem Wtr.alloc {w : World} {B g : Nat} {l : List Bool} (h : Wtr w B g l) (o : Obj) : Wtr (w.alloc o) B g l := by
  obtain ⟨hB, v, hg, hv⟩ := h
  exact ⟨hB, v, hg.alloc _, hv.alloc _⟩
theorem Wtr.kept0 {w w' : World} {B g : Nat} {l : List Bool} (h : Wtr w B g l) (hk : Kept (fun _ _ => False) w w') : Wtr w' B g l := by
  obtain ⟨hB, v, hg, hv⟩ := h
  refine ⟨hB, v, hg.kept hk (fun h => h), hv.kept (row := none) ⟨hk.os, hk.tape, hk.output, hk.size, fun k hlt _ => ?_⟩ ?_⟩
  · rw [Array.getElem?_eq_getElem hlt]; exact hk.same k _ (Array.getElem?_eq_getElem hlt) (fun h => h)
  · rcases hb : v.ownBlock with _ | k
    · exact .inl rfl
    · exact .inr (by simp)

set_option maxHeartbeats 1000000 in
/-- PutAll appends all fields. -/
theorem putAll_any (B g b : Nat) (l : List Bool) (fs : List (Nat × Nat)) (w : World) (h : Wtr w B g l) (hsm : l.length < 1000000) (hk : fs.length < 1000)
    (hb : Blk w b 117 (fieldCells fs).toArray) (hok : ∀ x ∈ fs, x.2 ≤ 64 ∧ x.1 < 2 ^ x.2 ∧ x.1 < 18446744073709551616) :
    Calls Try.prog 72 #[.pointer (some ⟨g, 0, none⟩), .slice (some ⟨b, 0, none⟩) fs.length fs.length] w fun e w' => e = .returned (.int .i64 0) ∧ Wtr w' B g (l ++ fieldBits fs) ∧ Kept (Mw B g) w w' := by
  have hbg : b ≠ g := by
    rintro rfl
    obtain ⟨_, v, hg, _⟩ := h
    unfold Blk at hg hb
    rw [hg] at hb
    injection hb with hb
    injection hb with _ h2
    exact absurd h2 (by decide)
  have nb : ¬ Mw B g b (.cells (fieldCells fs).toArray 117 (0, 0)) := by
    rintro ⟨_, e | ⟨cs, fr, e⟩⟩
    · exact hbg e
    · cases e
  have HOK := Lib.hid hok
  clear hok
  obtain ⟨N, hN⟩ : ∃ N, N = fs.length := ⟨_, rfl⟩
  rw [← hN] at hk ⊢
  have HN := Lib.hid hN
  clear hN
  go_enter Try.func72, Try.ntmps72
  go_wp2
  go_loopw [14] (fun i wr => ∃ k : Nat, k ≤ N ∧ i = .int .i64 k ∧ Kept (fun _ _ => False) w wr) (fun i _ => N - (intOf i).toNat)
  case atStart => exact ⟨0, Nat.zero_le _, rfl, Kept.refl _ _⟩
  case round =>
    obtain ⟨k, hkN, rfl, hKe⟩ := hrel
    have hb1 := hb.kept hKe (fun h => h)
    by_cases hlt : k < N
    · obtain ⟨⟨fv, fw⟩, hf⟩ : ∃ f, fs[k]? = some f := ⟨_, List.getElem?_eq_getElem (by rw [← HN.out]; exact hlt)⟩
      obtain ⟨f1, f2⟩ := fieldCells_get fs k fv fw hf
      obtain ⟨g1, g2, g3⟩ := HOK.out _ (List.mem_of_getElem? hf)
      have c1 := hb1.cell (k * 2)
      have c2 := hb1.cell (k * 2 + 1)
      simp only [List.getElem?_toArray, f1, f2] at c1 c2
      dsimp only at c1 c2 g1 g2 g3
      have HF := Lib.hid hf
      clear f1 f2 hf
      go_wp2_with (go_at_call 136; refine (check_ok fv fw _ g1 g2 g3).mono ?_; rintro e w' ⟨rfl, rfl⟩)
      go_roundw
      case rel => exact ⟨k + 1, by omega, by go_num, (hKe.alloc _).alloc _⟩
      case measure => simp [intOf]; omega
    · go_wp2
      go_loopw [26] (fun i wr => ∃ k : Nat, k ≤ N ∧ i = .int .i64 k ∧ Wtr wr B g (l ++ fieldBits (fs.take k)) ∧ Kept (Mw B g) w wr) (fun i _ => N - (intOf i).toNat)
      case atStart => exact ⟨0, Nat.zero_le _, rfl, by simpa [fieldBits] using h.kept0 hKe, hKe.mono (fun _ _ h => h.elim)⟩
      case round =>
        clear hb1 hKe hlt hkN
        obtain ⟨k, hkN, rfl, hWt, hKe⟩ := hrel
        have hb1 := hb.kept hKe nb
        by_cases hlt : k < N
        · obtain ⟨⟨fv, fw⟩, hf⟩ : ∃ f, fs[k]? = some f := ⟨_, List.getElem?_eq_getElem (by rw [← HN.out]; exact hlt)⟩
          obtain ⟨f1, f2⟩ := fieldCells_get fs k fv fw hf
          obtain ⟨g1, g2, g3⟩ := HOK.out _ (List.mem_of_getElem? hf)
          have c1 := hb1.cell (k * 2)
          have c2 := hb1.cell (k * 2 + 1)
          simp only [List.getElem?_toArray, f1, f2] at c1 c2
          dsimp only at c1 c2 g1 g2 g3
          have hl2 : (l ++ fieldBits (fs.take k)).length < 100000000 := by
            have := fieldBits_length (fs.take k) (fun x hx => (HOK.out x (List.mem_of_mem_take hx)).1)
            have h3 : (fs.take k).length ≤ k := List.length_take_le _ _
            rw [List.length_append]
            omega
          have hts : fieldBits (fs.take (k + 1)) = fieldBits (fs.take k) ++ bitsOf fv fw := by
            rw [List.take_add_one, hf]
            exact fieldBits_snoc _ _
          have HF := Lib.hid hf
          have HT := Lib.hid hts
          have HL2 := Lib.hid hl2
          clear f1 f2 hf hts hl2
          have hput := fun W hW => put_any B g fv fw (l ++ fieldBits (fs.take k)) W g3 g1 hW HL2.out
          have HPut := Lib.hid hput
          clear hput
          go_wp2_with (go_at_call 137; refine (HPut.out _ (hWt.alloc _)).mono ?_; rintro e w' ⟨rfl, hw', hk'⟩)
          go_roundw
          case rel => exact ⟨k + 1, by omega, by go_num, by rw [HT.out, ← List.append_assoc]; exact hw', (hKe.alloc _).trans hk'⟩
          case measure => simp [intOf]; omega
        · have e : fs.take k = fs := List.take_of_length_le (by rw [← HN.out]; omega)
          rw [e] at hWt
          go_wp2
          go_ret
          exact ⟨rfl, hWt, hKe⟩
end Go.Proofs.Ytchlbpfeiamieaa
