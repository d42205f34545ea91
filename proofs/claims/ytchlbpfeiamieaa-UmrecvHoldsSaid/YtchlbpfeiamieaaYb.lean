/- The reference's Decode. law30.UmpduDecodes: the walk. -/
import Derived.Test.YtchlbpfeiamieaaYa
import Derived.Test.YtchlbpfeiamieaaNa
import Derived.Test.YtchlbpfeiamieaaLa
namespace Go.Proofs.Ytchlbpfeiamieaa
open Go.RowKit

theorem bitsAt_append (bs : List UInt8) (p a b : Nat) : bitsAt bs p (a + b) = bitsAt bs p a ++ bitsAt bs (p + a) b := by
  unfold bitsAt
  rw [List.range_add, List.map_append, List.map_map]
  congr 1
  apply List.map_congr_left
  intro i _
  simp [Nat.add_assoc]
theorem bits1_le (bs : List UInt8) (p : Nat) : val (bitsAt bs p 1) ≤ 1 := by
  have := val_lt (bitsAt bs p 1)
  rw [bitsAt_length] at this
  omega
/-- the first two bytes in their parts -/
theorem head16 (bs : List UInt8) : val (bitsAt bs 0 16) = val (bitsAt bs 0 3) * 8192 + val (bitsAt bs 3 1) * 4096 + val (bitsAt bs 4 1) * 2048 + val (bitsAt bs 5 1) * 1024 + val (bitsAt bs 6 10) ∧ val (bitsAt bs 6 10) < 1024 ∧ val (bitsAt bs 0 3) < 8 := by
  have e : bitsAt bs 0 16 = (((bitsAt bs 0 3 ++ bitsAt bs 3 1) ++ bitsAt bs 4 1) ++ bitsAt bs 5 1) ++ bitsAt bs 6 10 := by
    rw [show (16 : Nat) = 6 + 10 from rfl, bitsAt_append, show (6 : Nat) = 5 + 1 from rfl, bitsAt_append, show (5 : Nat) = 4 + 1 from rfl, bitsAt_append, show (4 : Nat) = 3 + 1 from rfl, bitsAt_append]
  have h1 := val_lt (bitsAt bs 6 10)
  have h2 := val_lt (bitsAt bs 0 3)
  rw [bitsAt_length] at h1 h2
  refine ⟨?_, h1, h2⟩
  rw [e]
  simp only [val_append, bitsAt_length]
  omega
theorem head3 (bs : List UInt8) (b : UInt8) (h : bs[0]? = some b) : val (bitsAt bs 0 3) = b.toNat / 32 := by
  have hb := b.toNat_lt
  have key : ∀ j, j < 8 → bitB bs j = decide (b.toNat / 2 ^ (7 - j) % 2 = 1) := by
    intro j hj
    unfold bitB
    rw [Nat.div_eq_of_lt hj, Nat.mod_eq_of_lt hj, List.getD_eq_getElem?_getD, h]
    rfl
  have e : bitsAt bs 0 3 = [bitB bs 0, bitB bs 1, bitB bs 2] := rfl
  rw [e, key 0 (by omega), key 1 (by omega), key 2 (by omega)]
  have dn : ∀ x : Nat, (decide (x % 2 = 1)).toNat = x % 2 := by
    intro x
    rcases Nat.mod_two_eq_zero_or_one x with h | h <;> simp [h]
  unfold val
  simp only [List.foldl_cons, List.foldl_nil, dn]
  omega

theorem restRes_err {bs : List UInt8} {m : Bool} {p er : Nat} (h : restRes bs m p = .inl er) : er ≠ 0 := by
  unfold restRes lenRes at h
  cases hr : readLens bs 64 m p [] with
  | inl e =>
    rw [hr] at h
    simp only [afterAlign, afterLens] at h
    cases h
    exact readLens_err _ _ _ _ _ _ hr
  | inr x =>
    obtain ⟨ls, q⟩ := x
    rw [hr] at h
    simp only [afterAlign] at h
    split at h
    · simp only [afterLens, partsRes] at h
      split at h
      · cases h; omega
      · split at h
        · cases h; omega
        · cases h
    · simp only [afterLens] at h
      cases h; omega
theorem Blk.put4 {w : World} {g : Nat} {t : TypeId} {x0 x1 x2 x3 : Value} (b : Blk w g t #[x0, x1, x2, x3]) (u0 u1 u2 u3 : Value) : Blk ((((w.setCell ⟨g, 0, none⟩ u0).setCell ⟨g, 1, none⟩ u1).setCell ⟨g, 2, none⟩ u2).setCell ⟨g, 3, none⟩ u3) g t #[u0, u1, u2, u3] := by
  have := (((b.set_ 0 u0).set_ 1 u1).set_ 2 u2).set_ 3 u3
  simpa using this
theorem below_put4 {B : Nat} {a w : World} (hb : Below B a w) {g : Nat} (hg : B ≤ g) (u0 u1 u2 u3 : Value) : Below B a ((((w.setCell ⟨g, 0, none⟩ u0).setCell ⟨g, 1, none⟩ u1).setCell ⟨g, 2, none⟩ u2).setCell ⟨g, 3, none⟩ u3) :=
  (((hb.setCell (p := ⟨g, 0, none⟩) hg u0).setCell (p := ⟨g, 1, none⟩) hg u1).setCell (p := ⟨g, 2, none⟩) hg u2).setCell (p := ⟨g, 3, none⟩) hg u3
/-- what the reference's Decode gives -/
def RDecIs (w : World) (Bb : Nat) (R : Sum Nat (Nat × Bool × Bool × List (List UInt8))) (en : Ending) (w' : World) : Prop :=
  Below w.heap.size w w' ∧ ((∃ er : Nat, R = .inl er ∧ en = .returned (.tuple #[.agg #[.int .i64 0, .bool false, .bool false, .slice none 0 0], .int .i64 er])) ∨
    (∃ sn s e ps A c vs, R = .inr (sn, s, e, ps) ∧ en = .returned (.tuple #[.agg #[.int .i64 (sn : Nat), .bool s, .bool e, .slice A ps.length c], .int .i64 0]) ∧ Stays w.heap.size Bb w' A c vs ps))

set_option maxRecDepth 100000 in
set_option maxHeartbeats 2000000 in
theorem rdecode_any (A : Option Addr) (n c : Nat) (bs : List UInt8) (w : World) (Bb : Nat) (hbb : Sl w Bb A n c (bvs bs)) (hBb : Bb ≤ w.heap.size) (hn : n ≤ 1000000) :
    Calls Try.prog 24 #[.slice A n c] w (RDecIs w Bb (decU bs)) := by
  have h := hbb.more hBb
  have hl : bs.length = n := by simpa using h.len
  obtain ⟨R, hR⟩ : ∃ R, decU bs = R := ⟨_, rfl⟩
  rw [hR]
  have hR1 := hR
  unfold decU at hR1
  have hB0 := (Below.refl w.heap.size w).alloc (Nat.le_refl _) (.cells #[.int .i64 0, .bool false, .bool false, .slice none 0 0] 26)
  by_cases h2 : bs.length < 2
  · rw [if_pos h2] at hR1
    have HR := Lib.hid hR1.symm
    have h2' : n < 2 := by omega
    clear hR hR1 h2 hl
    go_enter Try.func24, Try.ntmps24
    go_wp2
    exact bodyPost_ret (v := .tuple #[.agg #[.int .i64 0, .bool false, .bool false, .slice none 0 0], .int .i64 5]) (by simp [results, Try.results24, go_sem]) rfl ⟨hB0, .inl ⟨5, HR.out, rfl⟩⟩
  rw [if_neg h2] at hR1
  obtain ⟨b0, hb0⟩ : ∃ b, bs[0]? = some b := ⟨_, List.getElem?_eq_getElem (by omega)⟩
  have h3 := head3 bs b0 hb0
  obtain ⟨ad, u, rfl, hadb, hu, hcu⟩ := h.get (k := 0) (by omega)
  have hu' : u = .int .u8 (b0.toNat : Int) := by
    unfold bvs at hu
    rw [List.getElem?_map, hb0] at hu
    simpa [bv] using hu.symm
  subst hu'
  have e0 : ad.add 0 = ad := by simp [Addr.add]
  rw [e0] at hcu
  have hb0l := b0.toNat_lt
  have h2' : ¬ n < 2 := by omega
  by_cases h0 : val (bitsAt bs 0 3) = 0
  · simp only [h0, ne_eq, not_true, if_false] at hR1
    have hz : ((b0.toNat : Int) / 32 != 0) = false := by simp; omega
    obtain ⟨hV, hx4, hx0⟩ := head16 bs
    rw [h0] at hV
    have hy1 := bits1_le bs 3
    have hy2 := bits1_le bs 4
    have hy3 := bits1_le bs 5
    obtain ⟨V, hVV⟩ : ∃ V, val (bitsAt bs 0 16) = V := ⟨_, rfl⟩
    rw [hVV] at hV
    obtain ⟨F, hF⟩ : ∃ F, V / 1024 % 8 = F := ⟨_, rfl⟩
    have k1 : decide (F < 4) = decide (val (bitsAt bs 3 1) = 0) := by rw [Bool.eq_iff_iff]; simp; omega
    have k2 : decide (F / 2 % 2 = 0) = decide (val (bitsAt bs 4 1) = 0) := by rw [Bool.eq_iff_iff]; simp; omega
    have k3 : decide (F % 2 = 1) = decide (val (bitsAt bs 5 1) = 1) := by rw [Bool.eq_iff_iff]; simp; omega
    have k4 : V % 1024 = val (bitsAt bs 6 10) := by omega
    rw [← k1, ← k2, ← k3, ← k4] at hR1
    have hV16 : V < 65536 := by omega
    have hFi : (V : Int) / 1024 % 8 = F := by omega
    have hF7 : F ≤ 7 := by omega
    have hSi : IntKind.i64.wrap ((V : Int) % 1024) = ((V % 1024 : Nat) : Int) := by rw [IntWalk.i64_in _ (by omega)]; omega
    obtain ⟨sn, hsn⟩ : ∃ sn, V % 1024 = sn := ⟨_, rfl⟩
    rw [hsn] at hR1 hSi
    have hR2 : R = match restRes bs (decide (F % 2 = 1)) 16 with
        | .inl er => .inl er
        | .inr ps => .inr (sn, decide (F < 4), decide (F / 2 % 2 = 0), ps) := by
      rw [← hR1]
      unfold restRes afterLens
      cases lenRes bs (decide (F % 2 = 1)) 16 with
      | inl er => rfl
      | inr x => obtain ⟨ls, p⟩ := x; rfl
    have HR2 := Lib.hid hR2
    have HL := Lib.hid hl
    have HVV := Lib.hid hVV
    have hcu' := (World.cell?_alloc_lt w (.cells #[.int .i64 0, .bool false, .bool false, .slice none 0 0] 26) ad hadb).trans hcu
    have bR := Blk.new w 26 #[.int .i64 0, .bool false, .bool false, .slice none 0 0]
    have hs0 := (h.below hB0).more hB0.size
    have hnr := rnewReader_any (some ad) n c bs _ hs0 hn
    have HNR := Lib.hid hnr
    have HB0 := Lib.hid hB0
    clear hR hR1 hR2 h2 hl h3 h0 hV hx4 hx0 hy1 hy2 hy3 k1 k2 k3 k4 hF hVV hsn hnr hB0
    have h2n : 2 ≤ n := by omega
    go_enter Try.func24, Try.ntmps24
    go_wp2_with fail
    generalize w.alloc (.cells #[.int .i64 0, .bool false, .bool false, .slice none 0 0] 26) = w1 at *
    refine HNR.out.mono ?_
    rintro e1 w2 ⟨A2, c2, rfl, hs2, hb2⟩
    have hs2a := hs2.alloc (Nat.le_refl _) (.cells #[.slice A2 (8 * n) c2, .int .i64 0] 141)
    have hs2b := hs2a.more (show w2.heap.size ≤ (w2.alloc (.cells #[.slice A2 (8 * n) c2, .int .i64 0] 141)).heap.size by simp)
    have hget := rget_ok A2 (8 * n) c2 0 16 (unpack bs) _ hs2b (by omega) (by omega) (by omega)
    rw [unpack_cut bs 0 16 (by have := HL.out; omega), HVV.out] at hget
    have HG := Lib.hid hget
    have bR2 := bR.below hb2 bR.lt
    have br := Blk.new w2 141 #[.slice A2 (8 * n) c2, .int .i64 0]
    have hs1 := (hs0.below hb2).more hb2.size
    have hB2 : Below w.heap.size w w2 := HB0.out.trans (hb2.mono HB0.out.size)
    have hwlt : w.heap.size < w2.heap.size := bR2.lt
    clear HNR hs0 hb2 hget hs2a hcu'
    go_wp2_with fail
    refine HG.out.mono ?_
    rintro e3 w3 ⟨rfl, hb3⟩
    have br3 := br.below hb3 br.lt
    have bR3 := (bR2.alloc (.cells #[.slice A2 (8 * n) c2, .int .i64 0] 141)).below hb3 (by simp; omega)
    have hbw3 : Below w2.heap.size w2 w3 := ((Below.refl _ w2).alloc (Nat.le_refl _) _).trans (hb3.mono (by simp))
    have hsz3 : w2.heap.size < w3.heap.size := br3.lt
    have hA3 := (hs2.below hbw3).setCell (p := ⟨w2.heap.size, 0, none⟩) (Nat.le_refl _) (.slice A2 (8 * n) c2)
    have hA4 := hA3.setCell (p := ⟨w2.heap.size, 1, none⟩) (Nat.le_refl _) (.int .i64 16)
    have hB4 := below_put2 (hB2.trans (hbw3.mono (by omega))) (show w.heap.size ≤ w2.heap.size by omega) (.slice A2 (8 * n) c2) (.int .i64 16)
    have bR4 := (bR3.far (p := ⟨w2.heap.size, 0, none⟩) (by simp; omega) (.slice A2 (8 * n) c2)).far (p := ⟨w2.heap.size, 1, none⟩) (by simp; omega) (.int .i64 16)
    have hsz4 : ((w3.setCell ⟨w2.heap.size, 0, none⟩ (.slice A2 (8 * n) c2)).setCell ⟨w2.heap.size, 1, none⟩ (.int .i64 16)).heap.size = w3.heap.size := by simp [World.setCell]
    have hD4 := hbb.keep fun p hp => hB4.cell (p := p) (by omega)
    have hrest := rest_any A2 (8 * n) c2 16 (some ad) n c bs F _ Bb (hA4.more (by rw [hsz4]; omega)) hD4 (by rw [hsz4]; omega) hn (by omega) hF7
    have HRS := Lib.hid hrest
    have HB4 := Lib.hid hB4
    have HR4 := Lib.hid bR4
    have HSZ4 := Lib.hid hsz4
    have x0 := br3.cell 0
    have x1 := br3.cell 1
    have y0 := br3.frozen 0
    have y1 := br3.frozen 1
    simp at x0 x1
    clear hrest hsz4 bR4 hB4 hD4 hA4 hA3 hbw3 HG hb3 hs2b br bR2
    go_wp2_with fail
    generalize (w3.setCell ⟨w2.heap.size, 0, none⟩ (.slice A2 (8 * n) c2)).setCell ⟨w2.heap.size, 1, none⟩ (.int .i64 16) = w4 at *
    refine HRS.out.mono ?_
    rintro e5 w5 ⟨hb5, h5⟩
    have bR5 := HR4.out.below hb5 HR4.out.lt
    have hB5 := HB4.out.trans (hb5.mono HB4.out.size)
    have hwl5 : w.heap.size < w5.heap.size := bR5.lt
    have z0 := bR5.cell 0
    have z1 := bR5.cell 1
    have z2 := bR5.cell 2
    have z3 := bR5.cell 3
    have f0 := bR5.frozen 0
    have f1 := bR5.frozen 1
    have f2 := bR5.frozen 2
    have f3 := bR5.frozen 3
    simp at z0 z1 z2 z3
    clear HRS x0 x1 y0 y1
    rcases h5 with ⟨er, hr, rfl⟩ | ⟨ps, A5, c5, vs5, hr, rfl, hS5⟩
    · have hRe : R = .inl er := by rw [HR2.out, hr]
      have HRe := Lib.hid hRe
      have hne : ((er : Int) != 0) = true := by have := restRes_err hr; simp; omega
      clear hr hRe
      go_wp2
      obtain ⟨q0, q1, q2, q3⟩ := ((bR5.put4 (.int .i64 0) (.bool false) (.bool false) (.slice none 0 0)).alloc (.cells #[.bool false, .bool false, .slice none 0 0] 24)).four
      exact bodyPost_ret (v := .tuple #[.agg #[.int .i64 0, .bool false, .bool false, .slice none 0 0], .int .i64 er]) (by simp [results, Try.results24, go_sem, q0, q1, q2, q3]) rfl ⟨(below_put4 hB5 (Nat.le_refl _) _ _ _ _).alloc (by simp [World.setCell]; omega) _, .inl ⟨er, HRe.out, rfl⟩⟩
    · have hRe : R = .inr (sn, decide (F < 4), decide (F / 2 % 2 = 0), ps) := by rw [HR2.out, hr]
      have HRe := Lib.hid hRe
      clear hr hRe
      generalize decide (F < 4) = s at *
      generalize decide (F / 2 % 2 = 0) = en at *
      go_wp2
      obtain ⟨q0, q1, q2, q3⟩ := ((bR5.put4 (.int .i64 sn) (.bool s) (.bool en) (.slice A5 ps.length c5)).alloc (.cells #[.bool s, .bool en, .slice A5 ps.length c5] 24)).four
      have hB6 := below_put4 (hB5) (Nat.le_refl _) (.int .i64 sn) (.bool s) (.bool en) (.slice A5 ps.length c5)
      have hB7 := hB6.alloc (by simp [World.setCell]; omega) (.cells #[.bool s, .bool en, .slice A5 ps.length c5] 24)
      refine bodyPost_ret (v := .tuple #[.agg #[.int .i64 sn, .bool s, .bool en, .slice A5 ps.length c5], .int .i64 0]) (by simp [results, Try.results24, go_sem, q0, q1, q2, q3]) rfl ⟨hB7, .inr ⟨sn, s, en, ps, A5, c5, vs5, HRe.out, rfl, fun W hW hsz => ?_⟩⟩
      have h45 := HR4.out.lt
      have hsz5 := hb5.size
      refine hS5 W (fun p hp => ?_) (by simp [World.setCell] at hsz; omega)
      have hne : p.block ≠ w.heap.size := by rcases hp with h | h <;> omega
      have hlt : p.block < w5.heap.size := by rcases hp with h | h <;> omega
      rw [hW p (by rcases hp with h | h; exact .inl h; exact .inr (by simp [World.setCell]; omega))]
      rw [World.cell?_alloc_lt _ _ _ (by simp [World.setCell]; exact hlt)]
      rw [World.cell?_setCell_other _ _ _ _ (fun e => hne (by rw [← e])), World.cell?_setCell_other _ _ _ _ (fun e => hne (by rw [← e])), World.cell?_setCell_other _ _ _ _ (fun e => hne (by rw [← e])), World.cell?_setCell_other _ _ _ _ (fun e => hne (by rw [← e]))]
  · rw [if_pos h0] at hR1
    have HR := Lib.hid hR1.symm
    have hz : ((b0.toNat : Int) / 32 != 0) = true := by simp; omega
    have hcu' := (World.cell?_alloc_lt w (.cells #[.int .i64 0, .bool false, .bool false, .slice none 0 0] 26) ad hadb).trans hcu
    clear hR hR1 h2 hl h3 h0
    go_enter Try.func24, Try.ntmps24
    go_wp2
    exact bodyPost_ret (v := .tuple #[.agg #[.int .i64 0, .bool false, .bool false, .slice none 0 0], .int .i64 9]) (by simp [results, Try.results24, go_sem]) rfl ⟨hB0, .inl ⟨9, HR.out, rfl⟩⟩
end Go.Proofs.Ytchlbpfeiamieaa
namespace Go.Proofs.Ytchlbpfeiamieaa
open Go.RowKit

theorem PartsOut.stays {w : World} {base : Nat} {vo : Value} {ps : List (List UInt8)} (h : PartsOut w base vo ps) : ∃ A c vs, vo = .slice A ps.length c ∧ Stays base 0 w A c vs ps := by
  obtain ⟨vs, g, cap, data, h1, h2, h3⟩ := h
  obtain ⟨A, c, rfl, hs, hbase⟩ := own_sl h1
  refine ⟨A, c, vs, rfl, fun w2 hk hsz => ⟨⟨hs.len, hs.cap, hs.mx, fun hn => ?_⟩, rfl, fun i p hi => ?_⟩⟩
  · obtain ⟨a1, e1, hb1, hc1⟩ := hs.at_ hn
    obtain ⟨a2, e2, hb2⟩ := hbase hn
    rw [e1] at e2
    cases e2
    exact ⟨a1, e1, by omega, fun j u hu => (hk _ (.inr (by rw [block_add]; exact ⟨hb2, hb1⟩))).trans (hc1 j u hu)⟩
  · obtain ⟨off, ci, e, hc1, hc2, hp⟩ := h3 i p hi
    have hgl := h2.lt g rfl
    refine ⟨_, ci, e, ⟨by simp, hc1, hc2, fun hpos => ⟨_, rfl, by show g < _; omega, fun j u hu => ?_⟩⟩⟩
    have hj : j < p.length := by
      have := (List.getElem?_eq_some_iff.1 hu).1
      simpa using this
    have hcell := h2.cells (g := g) rfl (off + j) u (by
      unfold bvs at hu ⊢
      rw [List.getElem?_map] at hu ⊢
      rw [hp, List.getElem?_take, if_pos hj, List.getElem?_drop] at hu
      exact hu)
    have e2 : (⟨g, off, none⟩ : Addr).add j = (⟨g, 0, none⟩ : Addr).add (off + j) := by
      unfold Addr.add
      by_cases hj0 : j = 0
      · subst hj0
        by_cases ho : off = 0
        · simp [ho]
        · simp [ho]
      · simp [hj0]
    rw [e2]
    exact (hk _ (.inr (by rw [block_add]; exact hgl))).trans hcell
theorem stays_nil (base Bb : Nat) (w : World) : Stays base Bb w none 0 [] [] := fun _ _ _ => ⟨Sl.nil_.2 (by omega), rfl, by simp⟩
theorem Stays.more {base Bb : Nat} {w w2 : World} {A : Option Addr} {c : Nat} {vs : List Value} {ps : List (List UInt8)} (h : Stays base Bb w A c vs ps) (hk : ∀ p : Addr, p.block < Bb ∨ (base ≤ p.block ∧ p.block < w.heap.size) → w2.cell? p = w.cell? p) (hsz : w.heap.size ≤ w2.heap.size) : Stays base Bb w2 A c vs ps :=
  fun W hW hs => h W (fun p hp => (hW p (by rcases hp with h | h; exact .inl h; exact .inr (by omega))).trans (hk p hp)) (by omega)
theorem Stays.below {base Bb B : Nat} {w w2 : World} {A : Option Addr} {c : Nat} {vs : List Value} {ps : List (List UInt8)} (h : Stays base Bb w A c vs ps) (hb : Below B w w2) (hB : w.heap.size ≤ B) (hBb : Bb ≤ B) : Stays base Bb w2 A c vs ps :=
  h.more (fun p hp => hb.cell (by rcases hp with h | h <;> omega)) hb.size

/-- a decoded PDU in memory -/
def PduIs (base Bb : Nat) (w : World) (sn : Int) (s en : Bool) (ps : List (List UInt8)) (er : Int) (e : Ending) (w' : World) : Prop :=
  Below base w w' ∧ ∃ A c vs, e = .returned (.tuple #[.agg #[.int .i64 sn, .bool s, .bool en, .slice A ps.length c], .int .i64 er]) ∧ Stays base Bb w' A c vs ps
theorem decodes_alike (bs : List UInt8) : ∃ (sn : Int) (s en : Bool) (ps : List (List UInt8)) (er : Int),
    (∀ A n c w, Sl w w.heap.size A n c (bvs bs) → n ≤ 1000000 → Calls Try.prog 23 #[.slice A n c] w (PduIs w.heap.size 0 w sn s en ps er)) ∧
    (∀ A n c w Bb, Sl w Bb A n c (bvs bs) → Bb ≤ w.heap.size → n ≤ 1000000 → Calls Try.prog 24 #[.slice A n c] w (PduIs w.heap.size Bb w sn s en ps er)) := by
  cases hR : decU bs with
  | inl er =>
    refine ⟨0, false, false, [], er, fun A n c w h hn => ?_, fun A n c w Bb h hB hn => ?_⟩
    · have := decode_any A n c bs w h hn
      rw [hR] at this
      refine this.mono ?_
      rintro e w' ⟨hb, ⟨er', h1, rfl⟩ | ⟨_, _, _, _, _, h1, _⟩⟩
      · cases h1
        exact ⟨hb, none, 0, [], rfl, stays_nil _ _ _⟩
      · cases h1
    · have := rdecode_any A n c bs w Bb h hB hn
      rw [hR] at this
      refine this.mono ?_
      rintro e w' ⟨hb, ⟨er', h1, rfl⟩ | ⟨_, _, _, _, _, _, _, h1, _⟩⟩
      · cases h1
        exact ⟨hb, none, 0, [], rfl, stays_nil _ _ _⟩
      · cases h1
  | inr x =>
    obtain ⟨sn, s, en, ps⟩ := x
    refine ⟨sn, s, en, ps, 0, fun A n c w h hn => ?_, fun A n c w Bb h hB hn => ?_⟩
    · have := decode_any A n c bs w h hn
      rw [hR] at this
      refine this.mono ?_
      rintro e w' ⟨hb, ⟨er', h1, rfl⟩ | ⟨_, _, _, _, _, h1, rfl, hpo⟩⟩
      · cases h1
      · cases h1
        obtain ⟨A', c', vs', rfl, hst⟩ := hpo.stays
        exact ⟨hb, A', c', vs', rfl, hst⟩
    · have := rdecode_any A n c bs w Bb h hB hn
      rw [hR] at this
      refine this.mono ?_
      rintro e w' ⟨hb, ⟨er', h1, rfl⟩ | ⟨_, _, _, _, A', c', vs', h1, rfl, hst⟩⟩
      · cases h1
      · cases h1
        exact ⟨hb, A', c', vs', rfl, hst⟩

theorem Kept.cell' {M : Nat → Obj → Prop} {a b : World} (h : Kept M a b) {p : Addr} (hp : p.block < a.heap.size) (hn : ∀ o, ¬ M p.block o) : b.cell? p = a.cell? p :=
  h.cell (Array.getElem?_eq_getElem hp) (hn _)
theorem bv_inc (x : Nat) : Value.int .u8 (((x : Int) + 1) % 256) = bv (UInt8.ofNat ((x + 1) % 256)) := by
  unfold bv
  rw [UInt8.toNat_ofNat', Nat.mod_eq_of_lt (by omega)]
  congr 1

set_option maxRecDepth 100000 in
set_option maxHeartbeats 2000000 in
theorem umpduDecodes_walk (A : Option Addr) (n c : Nat) (bs : List UInt8) (w : World) (h : Sl w w.heap.size A n c (bvs bs)) :
    Calls Try.prog 4 #[.slice A n c] w (IsTrue w) := by
  obtain ⟨i0, hi, hz0, hz1, hz2⟩ := info_parts u8_info
  by_cases h1000 : 1000 < n
  · go_enter Try.func4, Try.ntmps4
    go_wp2_with (go_at_call 18; refine (works_any _).mono ?_; rintro e2 w3 ⟨rfl, hb2⟩)
    go_ret
    exact ⟨rfl, hb2⟩
  obtain ⟨sn, s, en, ps, er, hD, hR⟩ := decodes_alike bs
  have HD := Lib.hid hD
  have HR := Lib.hid hR
  have hlit : (w.alloc (.cells #[] 5)).ownsRow w.heap.size 5 1 (.slice (some ⟨w.heap.size, 0, none⟩) 0 0) 0 [] := World.ownsRow_lit w #[] 0 (Nat.le_refl _) (by unfold maxLen; omega) rfl
  have hs := h.alloc (Nat.le_refl _) (.cells #[] 5)
  have hb2 := (Below.refl w.heap.size w).alloc (Nat.le_refl _) (.cells #[] 5)
  have hd1 : decide ((1000 : Int) < n) = false := by simp; omega
  clear hD hR
  go_enter Try.func4, Try.ntmps4
  go_wp2_with (at_builtin; refine wpList_append_sl _ rfl (.tmp 13) (.tmp 14) 29 rfl w.heap.size 5 i0 (.int .u8 0) 1 und29 hi hz0 hz1 hz2 rfl _ 0 [] rfl hlit w.heap.size A n c (bvs bs) rfl hs (one_bvs _) ?c3 ?c4 ?c5 ?_)
  case c3 => unfold maxLen; omega
  case c4 => omega
  case c5 => simp
  intro v1 w1 hown1 hgrow1 _
  have hB1 := hb2.grown hgrow1 hb2.size (fun g e => by simp [Value.ownBlock] at e; omega)
  obtain ⟨A1, c1, rfl, hs1, _⟩ := own_sl hown1
  have HGB := Lib.hid (fun j (hj : (Value.slice A1 n c1).ownBlock = some j) => hown1.lt j hj)
  clear hs hb2 hgrow1 hlit
  go_wp2_with fail
  refine (HD.out A1 n c1 w1 hs1 (by omega)).mono ?_
  rintro e2 w2 ⟨hb2, Ap, cp, vsp, rfl, hst2⟩
  have hown2 := own_below hown1 hb2 (Nat.le_refl _)
  have hB2 := hB1.trans (hb2.mono hB1.size)
  have hz2' := hb2.size
  have hz1' := hB1.size
  clear HD hs1 hown1 hb2
  go_wp2_with fail
  have hb3 := (Below.refl w2.heap.size w2).alloc (Nat.le_refl _) (.cells #[.int .i64 sn, .bool s, .bool en, .slice Ap ps.length cp] 26)
  have bp3 := Blk.new w2 26 #[.int .i64 sn, .bool s, .bool en, .slice Ap ps.length cp]
  have hst3 := hst2.below hb3 (Nat.le_refl _) (Nat.zero_le _)
  have hown3 := hown2.alloc (.cells #[.int .i64 sn, .bool s, .bool en, .slice Ap ps.length cp] 26)
  have hB3 := hB2.trans (hb3.mono hB2.size)
  have hz3 : w2.heap.size + 1 = (w2.alloc (.cells #[.int .i64 sn, .bool s, .bool en, .slice Ap ps.length cp] 26)).heap.size := by simp
  generalize w2.alloc (.cells #[.int .i64 sn, .bool s, .bool en, .slice Ap ps.length cp] 26) = w3 at *
  generalize w2.heap.size = gp at *
  have HZ3 := Lib.hid hz3
  clear hst2 hown2 hB2 hb3 hz3
  refine (HR.out A n c w3 w.heap.size (h.below hB3) hB3.size (by omega)).mono ?_
  rintro e4 w4 ⟨hb4, Aq, cq, vsq, rfl, hst4⟩
  have hz4 := hb4.size
  have bp4 := bp3.below hb4 bp3.lt
  have hstp4 := hst3.below hb4 (Nat.le_refl _) (Nat.zero_le _)
  have hown4 := own_below hown3 hb4 (Nat.le_refl _)
  have hB4 := hB3.trans (hb4.mono hB3.size)
  clear HR bp3 hst3 hown3 hB3 hb4
  go_wp2
  have hb5 := (Below.refl w4.heap.size w4).alloc (Nat.le_refl _) (.cells #[.int .i64 sn, .bool s, .bool en, .slice Aq ps.length cq] 26)
  have bq5 := Blk.new w4 26 #[.int .i64 sn, .bool s, .bool en, .slice Aq ps.length cq]
  have bp5 := bp4.alloc (.cells #[.int .i64 sn, .bool s, .bool en, .slice Aq ps.length cq] 26)
  have hstq5 := hst4.below hb5 (Nat.le_refl _) (by have := hB4.size; omega)
  have hstp5 := hstp4.below hb5 (Nat.le_refl _) (Nat.zero_le _)
  have hown5 := hown4.alloc (.cells #[.int .i64 sn, .bool s, .bool en, .slice Aq ps.length cq] 26)
  have hB5 := hB4.alloc hB4.size (.cells #[.int .i64 sn, .bool s, .bool en, .slice Aq ps.length cq] 26)
  generalize w4.alloc (.cells #[.int .i64 sn, .bool s, .bool en, .slice Aq ps.length cq] 26) = w5 at *
  generalize w4.heap.size = gq at *
  clear hst4 hstp4 hown4 hB4 hb5 bp4 hd1
  go_loopw [8] (fun i wr => ∃ k : Nat, k ≤ n ∧ i = .int .i64 k ∧ (∃ ys : List UInt8, wr.ownsRow w.heap.size 5 1 (.slice A1 n c1) n (bvs ys)) ∧ Kept (fun j _ => (Value.slice A1 n c1).ownBlock = some j) w5 wr) (fun i _ => n - (intOf i).toNat)
  case atStart => exact ⟨0, Nat.zero_le _, rfl, ⟨bs, hown5⟩, Kept.refl _ _⟩
  case round =>
    obtain ⟨k, hk, rfl, ⟨ys, hown⟩, hkp⟩ := hrel
    by_cases hlt : k < n
    · obtain ⟨g, cap, he, hgl, hgl2⟩ := hown.form (by omega)
      cases he
      have hyl : ys.length = n := by have := (own_sl' hown).len; simpa using this
      obtain ⟨y, hy⟩ : ∃ y, ys[k]? = some y := ⟨_, List.getElem?_eq_getElem (by omega)⟩
      have hc := hown.cellAt k (by omega)
      have hyv : (bvs ys)[k]? = some (.int .u8 (y.toNat : Int)) := by simp [bvs, bv, hy]
      rw [hyv] at hc
      have hf := hown.frozenAt k
      have hst := fun u => (hown.stored k u).1
      have HST := Lib.hid hst
      have hyb := y.toNat_lt
      have hinc := bv_inc y.toNat
      generalize y.toNat = x at *
      have HINC := Lib.hid hinc
      clear hst hinc hyv hy hyl
      go_wp2
      go_roundw
      case rel =>
        refine ⟨k + 1, by omega, by go_num, ⟨ys.set k (UInt8.ofNat ((x + 1) % 256)), ?_⟩, hkp.setCell (p := ⟨g, k, none⟩) (fun _ _ => rfl) _⟩
        rw [← bvs_set, ← HINC.out]
        exact HST.out _
      case measure => simp [intOf]; omega
    · have hgb := HGB.out
      have hw5 := hB5.size
      have bp6 := bp5.kept hkp (fun e => own_blk_ne hown5 bp5 (by decide) e)
      have bq6 := bq5.kept hkp (fun e => own_blk_ne hown5 bq5 (by decide) e)
      have hgq : w3.heap.size ≤ w5.heap.size := by have := bq5.lt; omega
      have hz3' := HZ3.out
      have hsp := (hstp5.more (w2 := wr) (fun p hp => hkp.cell' (by omega) (fun _ e => by have := (hgb _ e).2; omega)) hkp.size).sls
      have hsq := (hstq5.more (w2 := wr) (fun p hp => hkp.cell' (by omega) (fun _ e => by have := hgb _ e; omega)) hkp.size).sls
      have hB6 : Below w.heap.size w wr := hB5.trans (hkp.below (B := w.heap.size) (fun k _ e => (hgb _ e).1) hw5)
      obtain ⟨x0, x1, x2, x3⟩ := bp6.four
      obtain ⟨y0, y1, y2, y3⟩ := bq6.four
      have hsm := sameR_any s en Ap ps.length cp vsp ps s en Aq ps.length cq vsq ps wr hsp hsq
      rw [sameC_refl] at hsm
      have HSM := Lib.hid hsm
      have hss : (sn == sn) = true := by simp
      have hee : (er == er) = true := by simp
      clear hsm hgb HGB hstp5 hstq5 hsp hsq hkp hown bp5 bq5 hown5 hz3' HZ3
      go_wp2_with fail
      refine HSM.out.mono ?_
      rintro e7 w7 ⟨rfl, hb7⟩
      have hB7 := hB6.trans (hb7.mono hB6.size)
      go_wp2_with (first | (go_at_call 22; refine (num_any _ _).mono ?_; rintro e8 w8 ⟨rfl, rfl⟩) | (go_at_call 18; refine (works_any _).mono ?_; rintro e9 w9 ⟨rfl, hb9⟩))
      go_ret
      exact ⟨rfl, hB7.trans (hb9.mono hB7.size)⟩
end Go.Proofs.Ytchlbpfeiamieaa
