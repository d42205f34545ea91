/- The reference of layer 02: PutAll. The reference of layer 33: Encode. -/
import Derived.Test.YtchlbpfeiamieaaH0
import Derived.Test.YtchlbpfeiamieaaXa
import Derived.Test.YtchlbpfeiamieaaPa
import Derived.Deep.DrawnRows
namespace Go.Proofs.Ytchlbpfeiamieaa
open Go.RowKit Go.Shelf
attribute [local go_sem] Oper.semAt_some
attribute [local go_sem ↓] Go.wp_at_zero Go.wp_at_succ

/-- bits behind bits -/
def PutGives (w : World) (l : List Bool) (e : Ending) (w' : World) : Prop :=
  ∃ A c, e = .returned (.tuple #[.slice A l.length c, .int .i64 0]) ∧ Sl w' w'.heap.size A l.length c (bvs (bbs l)) ∧ Below w.heap.size w w'

set_option maxHeartbeats 1000000 in
theorem rputAll_any (A0 : Option Addr) (m c0 b : Nat) (l : List Bool) (fs : List (Nat × Nat)) (w : World) (h : Sl w w.heap.size A0 m c0 (bvs (bbs l))) (hm : m ≤ 1000) (hk : fs.length ≤ 100)
    (hb : Blk w b 117 (fieldCells fs).toArray) (hok : ∀ x ∈ fs, x.2 ≤ 64 ∧ x.1 < 2 ^ x.2 ∧ x.1 < 18446744073709551616) :
    Calls Try.prog 119 #[.slice A0 m c0, .slice (some ⟨b, 0, none⟩) fs.length fs.length] w (PutGives w (l ++ fieldBits fs)) := by
  have hlm : l.length = m := by simpa using h.len
  subst hlm
  have HOK := Lib.hid hok
  clear hok
  obtain ⟨N, hN⟩ : ∃ N, N = fs.length := ⟨_, rfl⟩
  rw [← hN] at hk ⊢
  have HN := Lib.hid hN
  clear hN
  go_enter Try.func119, Try.ntmps119
  go_wp2
  go_loopw [6, 7] (fun o i wr => ∃ (k : Nat) (A : Option Addr) (c : Nat), k ≤ N ∧ i = .int .i64 k ∧ o = .slice A (l ++ fieldBits (fs.take k)).length c ∧ Sl wr wr.heap.size A (l ++ fieldBits (fs.take k)).length c (bvs (bbs (l ++ fieldBits (fs.take k)))) ∧ Below w.heap.size w wr) (fun _ i _ => N - (intOf i).toNat)
  case atStart => exact ⟨0, A0, c0, Nat.zero_le _, rfl, by simp [fieldBits], by simpa [fieldBits] using h, Below.refl _ _⟩
  case round =>
    obtain ⟨k, A, c, hkN, rfl, rfl, hs, hB⟩ := hrel
    have hb1 := hb.below hB hb.lt
    by_cases hlt : k < N
    · obtain ⟨⟨fv, fw⟩, hf⟩ : ∃ f, fs[k]? = some f := ⟨_, List.getElem?_eq_getElem (by rw [← HN.out]; exact hlt)⟩
      obtain ⟨f1, f2⟩ := fieldCells_get fs k fv fw hf
      obtain ⟨g1, g2, g3⟩ := HOK.out _ (List.mem_of_getElem? hf)
      have c1 := hb1.cell (k * 2)
      have c2 := hb1.cell (k * 2 + 1)
      simp only [List.getElem?_toArray, f1, f2] at c1 c2
      dsimp only at c1 c2 g1 g2 g3
      have hl2 : (l ++ fieldBits (fs.take k)).length ≤ 1000000 := by
        have := fieldBits_length (fs.take k) (fun x hx => (HOK.out x (List.mem_of_mem_take hx)).1)
        have h3 : (fs.take k).length ≤ k := List.length_take_le _ _
        rw [List.length_append]
        omega
      have hts : l ++ fieldBits (fs.take (k + 1)) = (l ++ fieldBits (fs.take k)) ++ bitsOf fv fw := by
        rw [List.take_add_one, hf, List.append_assoc]
        congr 1
        exact fieldBits_snoc _ _
      have hp := put_ok A _ c _ fv fw wr.drew hs.drew (by omega) g1 g2 g3
      rw [← bbs_append, ← hts] at hp
      have hln : (l ++ fieldBits (fs.take k)).length + fw = (l ++ fieldBits (fs.take (k + 1))).length := by rw [hts]; simp only [List.length_append, bitsOf_length]
      rw [hln] at hp
      have HP := Lib.hid hp
      have HL2 := Lib.hid hl2
      generalize (l ++ fieldBits (fs.take k)).length = M at *
      clear f1 f2 hf hts hl2 hp hln hs
      have hk0 : (0 : Int) ≤ (k : Int) := by omega
      have hk1 : (k : Int) < (N : Int) := by omega
      have hbl : b < wr.heap.size := hb1.lt
      go_wp2_with fail
      go_region_held3 (fun w' => w'.cell? ⟨b, k * 2, none⟩ = some (.int .u64 fv) ∧ w'.cell? ⟨b, k * 2 + 1, none⟩ = some (.int .i64 fw))
        (first | (exact ⟨(hb2.cell (p := ⟨b, k * 2, none⟩) hbl).trans c1, (hb2.cell (p := ⟨b, k * 2 + 1, none⟩) hbl).trans c2⟩) | go_keep)
        ((go_at_call 78; refine HP.out.mono ?_; rintro e2 w2 ⟨v2, rfl, hv2, hb2⟩; obtain ⟨A2, c2', rfl, hs2, _⟩ := own_sl hv2))
      go_wp2
      go_roundw
      case rel => exact ⟨k + 1, A2, c2', by omega, by go_num, by simp only [List.length_append], hs2, hB.drew.trans (hb2.mono hB.size)⟩
      case measure => simp [intOf]; omega
    · have e : fs.take k = fs := List.take_of_length_le (by rw [← HN.out]; omega)
      rw [e] at hs ⊢
      clear e
      generalize l ++ fieldBits fs = L at *
      go_wp2
      go_ret2
      exact ⟨A, c, rfl, hs, hB⟩

theorem rputAll_lit (W : World) (A0 : Option Addr) (m c0 : Nat) (l : List Bool) (fs : List (Nat × Nat)) (cs : Array Value) (hcs : cs = (fieldCells fs).toArray) (N : Nat) (hN : N = fs.length) (h : Sl W W.heap.size A0 m c0 (bvs (bbs l))) (hm : m ≤ 1000) (hk : fs.length ≤ 100)
    (hok : ∀ x ∈ fs, x.2 ≤ 64 ∧ x.1 < 2 ^ x.2 ∧ x.1 < 18446744073709551616) :
    Calls Try.prog 119 #[.slice A0 m c0, .slice (some ⟨W.heap.size, 0, none⟩) N N] (W.alloc (.cells cs 117)) (PutGives W (l ++ fieldBits fs)) := by
  subst hcs hN
  have hB := (Below.refl W.heap.size W).alloc (Nat.le_refl _) (.cells (fieldCells fs).toArray 117)
  refine (rputAll_any A0 m c0 W.heap.size l fs _ ((h.below hB).more hB.size) hm hk (Blk.new _ _ _) hok).mono ?_
  rintro e w' ⟨A, c, rfl, hs, hb⟩
  exact ⟨A, c, rfl, hs, hB.trans (hb.mono hB.size)⟩

theorem framing_below (s e : Bool) (A : Option Addr) (n c : Nat) (w : World) :
    Calls Try.prog 79 #[.agg #[.bool s, .bool e, .slice A n c]] w fun e' w' => e' = .returned (.int .u64 (framN s e n)) ∧ Below w.heap.size w w' :=
  (framing_any s e A n c w).mono fun _ _ ⟨h1, h2⟩ => ⟨h1, by rw [← h2]; exact (Below.refl _ _).alloc (Nat.le_refl _) _⟩

/-- the fields of the header, as the reference has them -/
def amRef (sn : Nat) (po sg : Bool) (F : Nat) : List (Nat × Nat) := [(1, 1), (sg.toNat, 1), (po.toNat, 1), (F, 3), (sn, 10)]
theorem amBits_ref (sn : Nat) (po sg la : Bool) (off : Nat) (s e : Bool) (n : Nat) : amBits sn po sg la off s e n = fieldBits (amRef sn po sg (framN s e n)) ++ (if sg then fieldBits (amHead3 la off) else []) := by
  have h3 : fieldBits [((!s).toNat, 1), ((!e).toNat, 1), ((decide (1 < n)).toNat, 1)] = bitsOf (framN s e n) 3 := by
    unfold framN
    generalize decide (1 < n) = d
    cases s <;> cases e <;> cases d <;> decide
  unfold amBits amRef
  congr 1
  simp only [fieldBits, amHead1, amHead2, List.flatMap_cons, List.flatMap_nil, List.append_nil, List.append_assoc] at h3 ⊢
  rw [← h3]
  simp

theorem cells8 {w w' : World} {B a : Nat} {x0 x1 x2 x3 x4 x5 x6 x7 : Value} (hb : Below B w w') (ha : a < B)
    (h : w.cell? ⟨a, 0, none⟩ = some x0 ∧ w.cell? ⟨a, 1, none⟩ = some x1 ∧ w.cell? ⟨a, 2, none⟩ = some x2 ∧ w.cell? ⟨a, 3, none⟩ = some x3 ∧ w.cell? ⟨a, 4, none⟩ = some x4 ∧ w.cell? ⟨a, 5, none⟩ = some x5 ∧ w.cell? ⟨a, 6, none⟩ = some x6 ∧ w.cell? ⟨a, 7, none⟩ = some x7) :
    w'.cell? ⟨a, 0, none⟩ = some x0 ∧ w'.cell? ⟨a, 1, none⟩ = some x1 ∧ w'.cell? ⟨a, 2, none⟩ = some x2 ∧ w'.cell? ⟨a, 3, none⟩ = some x3 ∧ w'.cell? ⟨a, 4, none⟩ = some x4 ∧ w'.cell? ⟨a, 5, none⟩ = some x5 ∧ w'.cell? ⟨a, 6, none⟩ = some x6 ∧ w'.cell? ⟨a, 7, none⟩ = some x7 := by
  rw [hb.cell (p := ⟨a, 0, none⟩) ha, hb.cell (p := ⟨a, 1, none⟩) ha, hb.cell (p := ⟨a, 2, none⟩) ha, hb.cell (p := ⟨a, 3, none⟩) ha, hb.cell (p := ⟨a, 4, none⟩) ha, hb.cell (p := ⟨a, 5, none⟩) ha, hb.cell (p := ⟨a, 6, none⟩) ha, hb.cell (p := ⟨a, 7, none⟩) ha]
  exact h
theorem cells8_alloc {w : World} {a : Nat} {x0 x1 x2 x3 x4 x5 x6 x7 : Value} (o : Obj) (ha : a < w.heap.size)
    (h : w.cell? ⟨a, 0, none⟩ = some x0 ∧ w.cell? ⟨a, 1, none⟩ = some x1 ∧ w.cell? ⟨a, 2, none⟩ = some x2 ∧ w.cell? ⟨a, 3, none⟩ = some x3 ∧ w.cell? ⟨a, 4, none⟩ = some x4 ∧ w.cell? ⟨a, 5, none⟩ = some x5 ∧ w.cell? ⟨a, 6, none⟩ = some x6 ∧ w.cell? ⟨a, 7, none⟩ = some x7) :
    (w.alloc o).cell? ⟨a, 0, none⟩ = some x0 ∧ (w.alloc o).cell? ⟨a, 1, none⟩ = some x1 ∧ (w.alloc o).cell? ⟨a, 2, none⟩ = some x2 ∧ (w.alloc o).cell? ⟨a, 3, none⟩ = some x3 ∧ (w.alloc o).cell? ⟨a, 4, none⟩ = some x4 ∧ (w.alloc o).cell? ⟨a, 5, none⟩ = some x5 ∧ (w.alloc o).cell? ⟨a, 6, none⟩ = some x6 ∧ (w.alloc o).cell? ⟨a, 7, none⟩ = some x7 :=
  cells8 ((Below.refl w.heap.size w).alloc (Nat.le_refl _) o) ha h

set_option maxHeartbeats 800000 in
theorem rencodeA_bad (sn : Int) (po sg la : Bool) (off : Int) (s e : Bool) (A : Option Addr) (n c : Nat) (vs : List Value) (ps : List (List UInt8)) (w : World) (h : Sls w w.heap.size A n c vs ps) (hn : n ≤ 1048576) (hle : ∀ p ∈ ps, p.length ≤ 1099511627776)
    (hbad : validA sn sg la off ps = false) :
    Calls Try.prog 46 #[.agg (apdu sn po sg la off s e A n c)] w (GivesRowErr w.heap.size 5 w 0 (bvs []) 2) := by
  have hB := (Below.refl w.heap.size w).alloc (Nat.le_refl _) (.cells (apdu sn po sg la off s e A n c) 68)
  have hvc := rvalidA_any sn po sg la off s e A n c vs ps _ ((h.below hB).more hB.size) hn hle
  rw [hbad] at hvc
  have HB := Lib.hid hB
  have HV := Lib.hid hvc
  clear hB hvc hbad hle
  unfold apdu at *
  go_enter Try.func46, Try.ntmps46
  go_wp2_with (go_at_call 50; refine HV.out.mono ?_; rintro e1 w1 ⟨rfl, hb1⟩)
  go_ret2
  exact ⟨_, rfl, World.ownsRow_nil _ _ _ _, HB.out.trans (hb1.mono HB.out.size)⟩

set_option maxRecDepth 100000 in
set_option maxHeartbeats 2000000 in
theorem rencodeA_ok (sn : Nat) (po sg la : Bool) (off : Nat) (s e : Bool) (A : Option Addr) (n c : Nat) (vs : List Value) (ps : List (List UInt8)) (w : World) (h : Sls w w.heap.size A n c vs ps) (hv : validA sn sg la off ps = true) (hoff : off ≤ 32767) :
    Calls Try.prog 46 #[.agg (apdu sn po sg la off s e A n c)] w (GivesRowErr w.heap.size 5 w (encA sn po sg la off s e ps).length (bvs (encA sn po sg la off s e ps)) 0) := by
  have hva := (validA_iff sn sg la off ps).1 hv
  obtain ⟨hlo, hhi, hpos, hshort, hsum⟩ := (validB_iff ps).1 hva.vp
  have hsn : sn ≤ 1023 := by have := hva.sn1; omega
  have hlen := h.len
  have hple : ∀ p ∈ ps, p.length ≤ 1099511627776 := fun p hp => by have := mem_le_sumLen hp; omega
  have hB := (Below.refl w.heap.size w).alloc (Nat.le_refl _) (.cells (apdu sn po sg la off s e A n c) 68)
  have hA := (h.below hB).more hB.size
  have hvc := rvalidA_any sn po sg la off s e A n c vs ps _ hA (by omega) hple
  rw [hv] at hvc
  have HB := Lib.hid hB
  have HV := Lib.hid hvc
  have HL := Lib.hid hlen
  have HVB := Lib.hid hva.vp
  have henc : encA sn po sg la off s e ps = pack (amBits sn po sg la off s e n ++ lenBits ps (n - 1)) ++ ps.flatten := by rw [← hlen]; rfl
  have hab := amBits_ref sn po sg la off s e n
  have hal := amBits_length sn po sg la off s e n
  have hal2 : (amBits sn po sg la off s e n).length ≤ 1000 := by rw [hal]; split <;> omega
  have HE := Lib.hid henc
  have HAB := Lib.hid hab
  have HAL := Lib.hid hal2
  have bx := Blk.new w 68 (apdu sn po sg la off s e A n c)
  have hF := framN_le s e n
  have hfr := framing_below s e A n c
  have HFR := Lib.hid hfr
  clear hB hvc hv hlen hpos hshort hple hva hsum henc hab hal hal2 hlo hhi hfr
  generalize amBits sn po sg la off s e n = AB at *
  generalize encA sn po sg la off s e ps = EE at *
  generalize framN s e n = F at *
  unfold apdu at *
  go_enter Try.func46, Try.ntmps46
  go_wp2_with fail
  refine HV.out.mono ?_
  rintro e1 w1 ⟨rfl, hb1⟩
  have hbw : Below w.heap.size w w1 := HB.out.trans (hb1.mono HB.out.size)
  have hA1 := (hA.below hb1).more hb1.size
  replace bx := bx.below hb1 bx.lt
  have hlt1 := bx.lt
  clear HV hb1 HB hA
  obtain ⟨x0, x1, x2, x3, x4, x5, x6, x7⟩ := bx.eight
  have hwr : IntKind.u64.wrap (sn : Int) = sn := by rw [IntKind.wrap_u64]; omega
  have hlit := fun W => rputAll_lit W none 0 0 [] (amRef sn po sg F) #[.int .u64 1, .int .i64 1, .int .u64 sg.toNat, .int .i64 1, .int .u64 po.toNat, .int .i64 1, .int .u64 F, .int .i64 3, .int .u64 sn, .int .i64 10] rfl 5 rfl (Sl.nil_.2 (by omega)) (by omega) (by simp [amRef]) (by
    intro x hx
    simp only [amRef, List.mem_cons, List.not_mem_nil, or_false] at hx
    rcases hx with rfl | rfl | rfl | rfl | rfl
    · exact ⟨by omega, by decide, by omega⟩
    · exact fld1 sg
    · exact fld1 po
    · exact ⟨by omega, by simp; omega, by omega⟩
    · exact ⟨by omega, by simp; omega, by omega⟩)
  simp only [List.nil_append] at hlit
  have HLIT := Lib.hid hlit
  clear hlit
  have hA1' := hA1.drew'
  have hbw1 := hbw.drew
  have bx1 := bx.drew
  go_wp2_with fail
  go_upto_region 3 with (fail)
  go_cut [4] (fun s4 wx => ∃ A4 c4, s4 = .slice A4 (fieldBits (amRef sn po sg F)).length c4 ∧ Sl wx wx.heap.size A4 (fieldBits (amRef sn po sg F)).length c4 (bvs (bbs (fieldBits (amRef sn po sg F)))) ∧ Below w1.heap.size w1 wx)
  case first =>
    go_region_held3 (fun w' => w'.cell? ⟨w.heap.size, 0, none⟩ = some (.int .i64 sn) ∧ w'.cell? ⟨w.heap.size, 1, none⟩ = some (.bool po) ∧ w'.cell? ⟨w.heap.size, 2, none⟩ = some (.bool sg) ∧ w'.cell? ⟨w.heap.size, 3, none⟩ = some (.bool la) ∧ w'.cell? ⟨w.heap.size, 4, none⟩ = some (.int .i64 off) ∧ w'.cell? ⟨w.heap.size, 5, none⟩ = some (.bool s) ∧ w'.cell? ⟨w.heap.size, 6, none⟩ = some (.bool e) ∧ w'.cell? ⟨w.heap.size, 7, none⟩ = some (.slice A n c))
      (first | (exact cells8 ((Below.drew' hb3).trans (hb4.mono hz3)) hlt1 ⟨x0, x1, x2, x3, x4, x5, x6, x7⟩) | (exact cells8_alloc _ (by show w.heap.size < w3.heap.size; omega) (by assumption)) | (exact cells8 hb3 (by show w.heap.size < w1.heap.size; omega) (by assumption)) | go_keep)
      (first
        | (go_at_call 120; refine (rbit_any _ _).mono ?_; rintro e2 w2 ⟨rfl, rfl⟩)
        | (go_at_call 79; refine (HFR.out _).mono ?_; rintro e3 w3 ⟨rfl, hb3⟩; have hz3 : w1.heap.size ≤ w3.heap.size := hb3.size)
        | (go_at_call 119; refine (HLIT.out _).mono ?_; rintro e4 w4 ⟨A4, c4, rfl, hs4, hb4⟩))
    all_goals
      go_wp2_with fail
      go_meet
      case rel => exact ⟨A4, c4, rfl, hs4, (Below.drew' hb3).trans (hb4.mono hz3)⟩
  case rest =>
    obtain ⟨A4, c4, rfl, hs4, hb4⟩ := hcut
    have hA4 := (hA1.below hb4).more hb4.size
    have hbw4 := hbw.trans (hb4.mono hbw.size)
    have bx4 := bx.below hb4 hlt1
    have hlen4 : (fieldBits (amRef sn po sg F)).length = 16 := by simp [fieldBits, amRef]
    clear HLIT hA1 hA1' hbw hbw1 bx bx1 x0 x1 x2 x3 x4 x5 x6 x7 hwr hlt1 hb4
    rw [hlen4] at hs4
    simp only [hlen4]
    clear hlen4
    generalize hFB : fieldBits (amRef sn po sg F) = FB at *
    clear hFB
    generalize wc = w5 at *
    obtain ⟨x0, x1, x2, x3, x4, x5, x6, x7⟩ := bx4.eight
    have hlt5 := bx4.lt
    go_upto_if 32 with (fail)
    go_cut [4] (fun s4 wx => ∃ A6 c6, s4 = .slice A6 AB.length c6 ∧ Sl wx wx.heap.size A6 AB.length c6 (bvs (bbs AB)) ∧ Below w5.heap.size w5 wx)
    case first =>
      cases sg with
      | false =>
        have hab : AB = FB := by rw [HAB.out]; simp
        subst hab
        go_wp2_with fail
        go_meet
        exact ⟨A4, c4, by have := hs4.len; simp at this; rw [this], by have := hs4.len; simp at this; rw [this]; exact hs4, Below.refl _ _⟩
      | true =>
        have hab : AB = FB ++ fieldBits (amHead3 la off) := by rw [HAB.out]; simp
        have hwr : IntKind.u64.wrap (off : Int) = off := by rw [IntKind.wrap_u64]; omega
        have hlit := rputAll_lit w5.drew A4 16 c4 FB (amHead3 la off) #[.int .u64 la.toNat, .int .i64 1, .int .u64 off, .int .i64 15] rfl 2 rfl hs4.drew (by omega) (by simp [amHead3]) (by
          intro x hx
          simp only [amHead3, List.mem_cons, List.not_mem_nil, or_false] at hx
          rcases hx with rfl | rfl
          · exact fld1 la
          · exact ⟨by omega, by simp; omega, by omega⟩)
        rw [← hab] at hlit
        have HLIT := Lib.hid hlit
        clear hlit hab HAB
        go_wp2_with fail
        go_region_held3 (fun w' => w'.cell? ⟨w.heap.size, 0, none⟩ = some (.int .i64 sn) ∧ w'.cell? ⟨w.heap.size, 1, none⟩ = some (.bool po) ∧ w'.cell? ⟨w.heap.size, 2, none⟩ = some (.bool true) ∧ w'.cell? ⟨w.heap.size, 3, none⟩ = some (.bool la) ∧ w'.cell? ⟨w.heap.size, 4, none⟩ = some (.int .i64 off) ∧ w'.cell? ⟨w.heap.size, 5, none⟩ = some (.bool s) ∧ w'.cell? ⟨w.heap.size, 6, none⟩ = some (.bool e) ∧ w'.cell? ⟨w.heap.size, 7, none⟩ = some (.slice A n c))
          (first | (exact cells8 (Below.drew' hb6) hlt5 ⟨x0, x1, x2, x3, x4, x5, x6, x7⟩) | (exact cells8_alloc _ (by show w.heap.size < w5.heap.size; omega) (by assumption)) | go_keep)
          (first
            | (go_at_call 120; refine (rbit_any _ _).mono ?_; rintro e2 w2 ⟨rfl, rfl⟩)
            | (go_at_call 119; refine HLIT.out.mono ?_; rintro e6 w6 ⟨A6, c6, rfl, hs6, hb6⟩))
        all_goals
          go_wp2_with fail
          go_meet
          case rel => exact ⟨A6, c6, rfl, hs6, Below.drew' hb6⟩
    case rest =>
      obtain ⟨A6, c6, rfl, hs6, hb6⟩ := hcut
      have hA6 := (hA4.below hb6).more hb6.size
      have hbw6 := hbw4.trans (hb6.mono hbw4.size)
      have bx6 := bx4.below hb6 hlt5
      clear hA4 hbw4 bx4 x0 x1 x2 x3 x4 x5 x6 x7 hlt5 hb6 hs4
      obtain ⟨x0, x1, x2, x3, x4, x5, x6, x7⟩ := bx6.eight
      have htl := tail_ok A6 AB.length c6 AB s e A n c vs ps wc hs6 HAL.out hA6 HVB.out
      rw [← HE.out] at htl
      have HT := Lib.hid htl
      clear htl hs6 hA6
      go_wp2_with fail
      refine HT.out.mono ?_
      rintro e7 w7 ⟨v7, rfl, hv7, hb7⟩
      go_wp2
      go_ret2
      exact ⟨_, rfl, own_base hv7 hbw6.size, hbw6.trans (hb7.mono hbw6.size)⟩
end Go.Proofs.Ytchlbpfeiamieaa
