/- The reference's Decode. -/
import Derived.Test.YtchlbpfeiamieaaYa
import Derived.Test.YtchlbpfeiamieaaNa
namespace Go.Proofs.Ytchlbpfeiamieaa
open Go.RowKit

theorem bitsAt_append (bs : List UInt8) (p a b : Nat) : bitsAt bs p (a + b) = bitsAt bs p a ++ bitsAt bs (p + a) b := by
  unfold bitsAt
  rw [List.range_add, List.map_append, List.map_map]
  congr 1
  apply List.map_congr_left
  intro i _
  simp [Nat.add_assoc]
theorem bits1_le (bs : List UInt8) (p : Nat) : val (bitsAt bs p 1) ≤ 1 := by
  have := val_lt (bitsAt bs p 1)
  rw [bitsAt_length] at this
  omega
/-- the first two bytes in their parts -/
theorem head16 (bs : List UInt8) : val (bitsAt bs 0 16) = val (bitsAt bs 0 3) * 8192 + val (bitsAt bs 3 1) * 4096 + val (bitsAt bs 4 1) * 2048 + val (bitsAt bs 5 1) * 1024 + val (bitsAt bs 6 10) ∧ val (bitsAt bs 6 10) < 1024 ∧ val (bitsAt bs 0 3) < 8 := by
  have e : bitsAt bs 0 16 = (((bitsAt bs 0 3 ++ bitsAt bs 3 1) ++ bitsAt bs 4 1) ++ bitsAt bs 5 1) ++ bitsAt bs 6 10 := by
    rw [show (16 : Nat) = 6 + 10 from rfl, bitsAt_append, show (6 : Nat) = 5 + 1 from rfl, bitsAt_append, show (5 : Nat) = 4 + 1 from rfl, bitsAt_append, show (4 : Nat) = 3 + 1 from rfl, bitsAt_append]
  have h1 := val_lt (bitsAt bs 6 10)
  have h2 := val_lt (bitsAt bs 0 3)
  rw [bitsAt_length] at h1 h2
  refine ⟨?_, h1, h2⟩
  rw [e]
  simp only [val_append, bitsAt_length]
  omega
theorem head3 (bs : List UInt8) (b : UInt8) (h : bs[0]? = some b) : val (bitsAt bs 0 3) = b.toNat / 32 := by
  have hb := b.toNat_lt
  have key : ∀ j, j < 8 → bitB bs j = decide (b.toNat / 2 ^ (7 - j) % 2 = 1) := by
    intro j hj
    unfold bitB
    rw [Nat.div_eq_of_lt hj, Nat.mod_eq_of_lt hj, List.getD_eq_getElem?_getD, h]
    rfl
  have e : bitsAt bs 0 3 = [bitB bs 0, bitB bs 1, bitB bs 2] := rfl
  rw [e, key 0 (by omega), key 1 (by omega), key 2 (by omega)]
  have dn : ∀ x : Nat, (decide (x % 2 = 1)).toNat = x % 2 := by
    intro x
    rcases Nat.mod_two_eq_zero_or_one x with h | h <;> simp [h]
  unfold val
  simp only [List.foldl_cons, List.foldl_nil, dn]
  omega

theorem restRes_err {bs : List UInt8} {m : Bool} {p er : Nat} (h : restRes bs m p = .inl er) : er ≠ 0 := by
  unfold restRes lenRes at h
  cases hr : readLens bs 64 m p [] with
  | inl e =>
    rw [hr] at h
    simp only [afterAlign, afterLens] at h
    cases h
    exact readLens_err _ _ _ _ _ _ hr
  | inr x =>
    obtain ⟨ls, q⟩ := x
    rw [hr] at h
    simp only [afterAlign] at h
    split at h
    · simp only [afterLens, partsRes] at h
      split at h
      · cases h; omega
      · split at h
        · cases h; omega
        · cases h
    · simp only [afterLens] at h
      cases h; omega
theorem Blk.put4 {w : World} {g : Nat} {t : TypeId} {x0 x1 x2 x3 : Value} (b : Blk w g t #[x0, x1, x2, x3]) (u0 u1 u2 u3 : Value) : Blk ((((w.setCell ⟨g, 0, none⟩ u0).setCell ⟨g, 1, none⟩ u1).setCell ⟨g, 2, none⟩ u2).setCell ⟨g, 3, none⟩ u3) g t #[u0, u1, u2, u3] := by
  have := (((b.set_ 0 u0).set_ 1 u1).set_ 2 u2).set_ 3 u3
  simpa using this
theorem below_put4 {B : Nat} {a w : World} (hb : Below B a w) {g : Nat} (hg : B ≤ g) (u0 u1 u2 u3 : Value) : Below B a ((((w.setCell ⟨g, 0, none⟩ u0).setCell ⟨g, 1, none⟩ u1).setCell ⟨g, 2, none⟩ u2).setCell ⟨g, 3, none⟩ u3) :=
  (((hb.setCell (p := ⟨g, 0, none⟩) hg u0).setCell (p := ⟨g, 1, none⟩) hg u1).setCell (p := ⟨g, 2, none⟩) hg u2).setCell (p := ⟨g, 3, none⟩) hg u3
/-- what the reference's Decode gives -/
def RDecIs (w : World) (Bb : Nat) (R : Sum Nat (Nat × Bool × Bool × List (List UInt8))) (en : Ending) (w' : World) : Prop :=
  Below w.heap.size w w' ∧ ((∃ er : Nat, R = .inl er ∧ en = .returned (.tuple #[.agg #[.int .i64 0, .bool false, .bool false, .slice none 0 0], .int .i64 er])) ∨
    (∃ sn s e ps A c vs, R = .inr (sn, s, e, ps) ∧ en = .returned (.tuple #[.agg #[.int .i64 (sn : Nat), .bool s, .bool e, .slice A ps.length c], .int .i64 0]) ∧ Stays w.heap.size Bb w' A c vs ps))

set_option maxRecDepth 100000 in
set_option maxHeartbeats 2000000 in
theorem rdecode_any (A : Option Addr) (n c : Nat) (bs : List UInt8) (w : World) (Bb : Nat) (hbb : Sl w Bb A n c (bvs bs)) (hBb : Bb ≤ w.heap.size) (hn : n ≤ 1000000) :
    Calls Try.prog 24 #[.slice A n c] w (RDecIs w Bb (decU bs)) := by
  have h := hbb.more hBb
  have hl : bs.length = n := by simpa using h.len
  obtain ⟨R, hR⟩ : ∃ R, decU bs = R := ⟨_, rfl⟩
  rw [hR]
  have hR1 := hR
  unfold decU at hR1
  have hB0 := (Below.refl w.heap.size w).alloc (Nat.le_refl _) (.cells #[.int .i64 0, .bool false, .bool false, .slice none 0 0] 26)
  by_cases h2 : bs.length < 2
  · rw [if_pos h2] at hR1
    have HR := Lib.hid hR1.symm
    have h2' : n < 2 := by omega
    clear hR hR1 h2 hl
    go_enter Try.func24, Try.ntmps24
    go_wp2
    exact bodyPost_ret (v := .tuple #[.agg #[.int .i64 0, .bool false, .bool false, .slice none 0 0], .int .i64 5]) (by simp [results, Try.results24, go_sem]) rfl ⟨hB0, .inl ⟨5, HR.out, rfl⟩⟩
  rw [if_neg h2] at hR1
  obtain ⟨b0, hb0⟩ : ∃ b, bs[0]? = some b := ⟨_, List.getElem?_eq_getElem (by omega)⟩
  have h3 := head3 bs b0 hb0
  obtain ⟨ad, u, rfl, hadb, hu, hcu⟩ := h.get (k := 0) (by omega)
  have hu' : u = .int .u8 (b0.toNat : Int) := by
    unfold bvs at hu
    rw [List.getElem?_map, hb0] at hu
    simpa [bv] using hu.symm
  subst hu'
  have e0 : ad.add 0 = ad := by simp [Addr.add]
  rw [e0] at hcu
  have hb0l := b0.toNat_lt
  have h2' : ¬ n < 2 := by omega
  by_cases h0 : val (bitsAt bs 0 3) = 0
  · simp only [h0, ne_eq, not_true, if_false] at hR1
    have hz : ((b0.toNat : Int) / 32 != 0) = false := by simp; omega
    obtain ⟨hV, hx4, hx0⟩ := head16 bs
    rw [h0] at hV
    have hy1 := bits1_le bs 3
    have hy2 := bits1_le bs 4
    have hy3 := bits1_le bs 5
    obtain ⟨V, hVV⟩ : ∃ V, val (bitsAt bs 0 16) = V := ⟨_, rfl⟩
    rw [hVV] at hV
    obtain ⟨F, hF⟩ : ∃ F, V / 1024 % 8 = F := ⟨_, rfl⟩
    have k1 : decide (F < 4) = decide (val (bitsAt bs 3 1) = 0) := by rw [Bool.eq_iff_iff]; simp; omega
    have k2 : decide (F / 2 % 2 = 0) = decide (val (bitsAt bs 4 1) = 0) := by rw [Bool.eq_iff_iff]; simp; omega
    have k3 : decide (F % 2 = 1) = decide (val (bitsAt bs 5 1) = 1) := by rw [Bool.eq_iff_iff]; simp; omega
    have k4 : V % 1024 = val (bitsAt bs 6 10) := by omega
    rw [← k1, ← k2, ← k3, ← k4] at hR1
    have hV16 : V < 65536 := by omega
    have hFi : (V : Int) / 1024 % 8 = F := by omega
    have hF7 : F ≤ 7 := by omega
    have hSi : IntKind.i64.wrap ((V : Int) % 1024) = ((V % 1024 : Nat) : Int) := by rw [IntWalk.i64_in _ (by omega)]; omega
    obtain ⟨sn, hsn⟩ : ∃ sn, V % 1024 = sn := ⟨_, rfl⟩
    rw [hsn] at hR1 hSi
    have hR2 : R = match restRes bs (decide (F % 2 = 1)) 16 with
        | .inl er => .inl er
        | .inr ps => .inr (sn, decide (F < 4), decide (F / 2 % 2 = 0), ps) := by
      rw [← hR1]
      unfold restRes afterLens
      cases lenRes bs (decide (F % 2 = 1)) 16 with
      | inl er => rfl
      | inr x => obtain ⟨ls, p⟩ := x; rfl
    have HR2 := Lib.hid hR2
    have HL := Lib.hid hl
    have HVV := Lib.hid hVV
    have hcu' := (World.cell?_alloc_lt w (.cells #[.int .i64 0, .bool false, .bool false, .slice none 0 0] 26) ad hadb).trans hcu
    have bR := Blk.new w 26 #[.int .i64 0, .bool false, .bool false, .slice none 0 0]
    have hs0 := (h.below hB0).more hB0.size
    have hnr := rnewReader_any (some ad) n c bs _ hs0 hn
    have HNR := Lib.hid hnr
    have HB0 := Lib.hid hB0
    clear hR hR1 hR2 h2 hl h3 h0 hV hx4 hx0 hy1 hy2 hy3 k1 k2 k3 k4 hF hVV hsn hnr hB0
    have h2n : 2 ≤ n := by omega
    go_enter Try.func24, Try.ntmps24
    go_wp2_with fail
    generalize w.alloc (.cells #[.int .i64 0, .bool false, .bool false, .slice none 0 0] 26) = w1 at *
    refine HNR.out.mono ?_
    rintro e1 w2 ⟨A2, c2, rfl, hs2, hb2⟩
    have hs2a := hs2.alloc (Nat.le_refl _) (.cells #[.slice A2 (8 * n) c2, .int .i64 0] 141)
    have hs2b := hs2a.more (show w2.heap.size ≤ (w2.alloc (.cells #[.slice A2 (8 * n) c2, .int .i64 0] 141)).heap.size by simp)
    have hget := rget_ok A2 (8 * n) c2 0 16 (unpack bs) _ hs2b (by omega) (by omega) (by omega)
    rw [unpack_cut bs 0 16 (by have := HL.out; omega), HVV.out] at hget
    have HG := Lib.hid hget
    have bR2 := bR.below hb2 bR.lt
    have br := Blk.new w2 141 #[.slice A2 (8 * n) c2, .int .i64 0]
    have hs1 := (hs0.below hb2).more hb2.size
    have hB2 : Below w.heap.size w w2 := HB0.out.trans (hb2.mono HB0.out.size)
    have hwlt : w.heap.size < w2.heap.size := bR2.lt
    clear HNR hs0 hb2 hget hs2a hcu'
    go_wp2_with fail
    refine HG.out.mono ?_
    rintro e3 w3 ⟨rfl, hb3⟩
    have br3 := br.below hb3 br.lt
    have bR3 := (bR2.alloc (.cells #[.slice A2 (8 * n) c2, .int .i64 0] 141)).below hb3 (by simp; omega)
    have hbw3 : Below w2.heap.size w2 w3 := ((Below.refl _ w2).alloc (Nat.le_refl _) _).trans (hb3.mono (by simp))
    have hsz3 : w2.heap.size < w3.heap.size := br3.lt
    have hA3 := (hs2.below hbw3).setCell (p := ⟨w2.heap.size, 0, none⟩) (Nat.le_refl _) (.slice A2 (8 * n) c2)
    have hA4 := hA3.setCell (p := ⟨w2.heap.size, 1, none⟩) (Nat.le_refl _) (.int .i64 16)
    have hB4 := below_put2 (hB2.trans (hbw3.mono (by omega))) (show w.heap.size ≤ w2.heap.size by omega) (.slice A2 (8 * n) c2) (.int .i64 16)
    have bR4 := (bR3.far (p := ⟨w2.heap.size, 0, none⟩) (by simp; omega) (.slice A2 (8 * n) c2)).far (p := ⟨w2.heap.size, 1, none⟩) (by simp; omega) (.int .i64 16)
    have hsz4 : ((w3.setCell ⟨w2.heap.size, 0, none⟩ (.slice A2 (8 * n) c2)).setCell ⟨w2.heap.size, 1, none⟩ (.int .i64 16)).heap.size = w3.heap.size := by simp [World.setCell]
    have hD4 := hbb.keep fun p hp => hB4.cell (p := p) (by omega)
    have hrest := rest_any A2 (8 * n) c2 16 (some ad) n c bs F _ Bb (hA4.more (by rw [hsz4]; omega)) hD4 (by rw [hsz4]; omega) hn (by omega) hF7
    have HRS := Lib.hid hrest
    have HB4 := Lib.hid hB4
    have HR4 := Lib.hid bR4
    have HSZ4 := Lib.hid hsz4
    have x0 := br3.cell 0
    have x1 := br3.cell 1
    have y0 := br3.frozen 0
    have y1 := br3.frozen 1
    simp at x0 x1
    clear hrest hsz4 bR4 hB4 hD4 hA4 hA3 hbw3 HG hb3 hs2b br bR2
    go_wp2_with fail
    generalize (w3.setCell ⟨w2.heap.size, 0, none⟩ (.slice A2 (8 * n) c2)).setCell ⟨w2.heap.size, 1, none⟩ (.int .i64 16) = w4 at *
    refine HRS.out.mono ?_
    rintro e5 w5 ⟨hb5, h5⟩
    have bR5 := HR4.out.below hb5 HR4.out.lt
    have hB5 := HB4.out.trans (hb5.mono HB4.out.size)
    have hwl5 : w.heap.size < w5.heap.size := bR5.lt
    have z0 := bR5.cell 0
    have z1 := bR5.cell 1
    have z2 := bR5.cell 2
    have z3 := bR5.cell 3
    have f0 := bR5.frozen 0
    have f1 := bR5.frozen 1
    have f2 := bR5.frozen 2
    have f3 := bR5.frozen 3
    simp at z0 z1 z2 z3
    clear HRS x0 x1 y0 y1
    rcases h5 with ⟨er, hr, rfl⟩ | ⟨ps, A5, c5, vs5, hr, rfl, hS5⟩
    · have hRe : R = .inl er := by rw [HR2.out, hr]
      have HRe := Lib.hid hRe
      have hne : ((er : Int) != 0) = true := by have := restRes_err hr; simp; omega
      clear hr hRe
      go_wp2
      obtain ⟨q0, q1, q2, q3⟩ := ((bR5.put4 (.int .i64 0) (.bool false) (.bool false) (.slice none 0 0)).alloc (.cells #[.bool false, .bool false, .slice none 0 0] 24)).four
      exact bodyPost_ret (v := .tuple #[.agg #[.int .i64 0, .bool false, .bool false, .slice none 0 0], .int .i64 er]) (by simp [results, Try.results24, go_sem, q0, q1, q2, q3]) rfl ⟨(below_put4 hB5 (Nat.le_refl _) _ _ _ _).alloc (by simp [World.setCell]; omega) _, .inl ⟨er, HRe.out, rfl⟩⟩
    · have hRe : R = .inr (sn, decide (F < 4), decide (F / 2 % 2 = 0), ps) := by rw [HR2.out, hr]
      have HRe := Lib.hid hRe
      clear hr hRe
      generalize decide (F < 4) = s at *
      generalize decide (F / 2 % 2 = 0) = en at *
      go_wp2
      obtain ⟨q0, q1, q2, q3⟩ := ((bR5.put4 (.int .i64 sn) (.bool s) (.bool en) (.slice A5 ps.length c5)).alloc (.cells #[.bool s, .bool en, .slice A5 ps.length c5] 24)).four
      have hB6 := below_put4 (hB5) (Nat.le_refl _) (.int .i64 sn) (.bool s) (.bool en) (.slice A5 ps.length c5)
      have hB7 := hB6.alloc (by simp [World.setCell]; omega) (.cells #[.bool s, .bool en, .slice A5 ps.length c5] 24)
      refine bodyPost_ret (v := .tuple #[.agg #[.int .i64 sn, .bool s, .bool en, .slice A5 ps.length c5], .int .i64 0]) (by simp [results, Try.results24, go_sem, q0, q1, q2, q3]) rfl ⟨hB7, .inr ⟨sn, s, en, ps, A5, c5, vs5, HRe.out, rfl, fun W hW hsz => ?_⟩⟩
      have h45 := HR4.out.lt
      have hsz5 := hb5.size
      refine hS5 W (fun p hp => ?_) (by simp [World.setCell] at hsz; omega)
      have hne : p.block ≠ w.heap.size := by rcases hp with h | h <;> omega
      have hlt : p.block < w5.heap.size := by rcases hp with h | h <;> omega
      rw [hW p (by rcases hp with h | h; exact .inl h; exact .inr (by simp [World.setCell]; omega))]
      rw [World.cell?_alloc_lt _ _ _ (by simp [World.setCell]; exact hlt)]
      rw [World.cell?_setCell_other _ _ _ _ (fun e => hne (by rw [← e])), World.cell?_setCell_other _ _ _ _ (fun e => hne (by rw [← e])), World.cell?_setCell_other _ _ _ _ (fun e => hne (by rw [← e])), World.cell?_setCell_other _ _ _ _ (fun e => hne (by rw [← e]))]
  · rw [if_pos h0] at hR1
    have HR := Lib.hid hR1.symm
    have hz : ((b0.toNat : Int) / 32 != 0) = true := by simp; omega
    have hcu' := (World.cell?_alloc_lt w (.cells #[.int .i64 0, .bool false, .bool false, .slice none 0 0] 26) ad hadb).trans hcu
    clear hR hR1 h2 hl h3 h0
    go_enter Try.func24, Try.ntmps24
    go_wp2
    exact bodyPost_ret (v := .tuple #[.agg #[.int .i64 0, .bool false, .bool false, .slice none 0 0], .int .i64 9]) (by simp [results, Try.results24, go_sem]) rfl ⟨hB0, .inl ⟨9, HR.out, rfl⟩⟩
end Go.Proofs.Ytchlbpfeiamieaa
