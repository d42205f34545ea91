/- The reference of layer 33: Decode. -/
import Derived.Test.YtchlbpfeiamieaaH1
import Derived.Test.YtchlbpfeiamieaaY4
import Derived.Test.YtchlbpfeiamieaaV5
import Derived.Test.YtchlbpfeiamieaaFa
namespace Go.Proofs.Ytchlbpfeiamieaa
open Go.RowKit Go.Shelf
attribute [local go_sem] Oper.semAt_some

theorem headA16 (bs : List UInt8) : val (bitsAt bs 0 16) = val (bitsAt bs 0 1) * 32768 + val (bitsAt bs 1 1) * 16384 + val (bitsAt bs 2 1) * 8192 + val (bitsAt bs 3 1) * 4096 + val (bitsAt bs 4 1) * 2048 + val (bitsAt bs 5 1) * 1024 + val (bitsAt bs 6 10) ∧ val (bitsAt bs 6 10) < 1024 := by
  have e : bitsAt bs 0 16 = (((((bitsAt bs 0 1 ++ bitsAt bs 1 1) ++ bitsAt bs 2 1) ++ bitsAt bs 3 1) ++ bitsAt bs 4 1) ++ bitsAt bs 5 1) ++ bitsAt bs 6 10 := by
    rw [show (16 : Nat) = 6 + 10 from rfl, bitsAt_append, show (6 : Nat) = 5 + 1 from rfl, bitsAt_append, show (5 : Nat) = 4 + 1 from rfl, bitsAt_append, show (4 : Nat) = 3 + 1 from rfl, bitsAt_append, show (3 : Nat) = 2 + 1 from rfl, bitsAt_append, show (2 : Nat) = 1 + 1 from rfl, bitsAt_append]
  have h1 := val_lt (bitsAt bs 6 10)
  rw [bitsAt_length] at h1
  refine ⟨?_, h1⟩
  rw [e]
  simp only [val_append, bitsAt_length]
  omega
theorem headA_off (bs : List UInt8) : val (bitsAt bs 16 16) = val (bitsAt bs 16 1) * 32768 + val (bitsAt bs 17 15) ∧ val (bitsAt bs 17 15) < 32768 := by
  have e : bitsAt bs 16 16 = bitsAt bs 16 1 ++ bitsAt bs 17 15 := by rw [show (16 : Nat) = 1 + 15 from rfl, bitsAt_append]
  have h1 := val_lt (bitsAt bs 17 15)
  rw [bitsAt_length] at h1
  refine ⟨?_, h1⟩
  rw [e]
  simp only [val_append, bitsAt_length]
theorem head1 (bs : List UInt8) (b : UInt8) (h : bs[0]? = some b) : val (bitsAt bs 0 1) = b.toNat / 128 := by
  have hb := b.toNat_lt
  have e : bitsAt bs 0 1 = [bitB bs 0] := rfl
  have k : bitB bs 0 = decide (b.toNat / 128 % 2 = 1) := by
    unfold bitB
    rw [List.getD_eq_getElem?_getD, h]
    rfl
  rw [e, k]
  have hb2 : b.toNat / 128 < 2 := by omega
  generalize b.toNat / 128 = y at *
  match y, hb2 with
  | 0, _ => rfl
  | 1, _ => rfl
/-- behind the fixed header -/
def tailRes (bs : List UInt8) (V : Nat) (sg la : Bool) (off pos : Nat) : Sum Nat APdu :=
  match restRes bs (decide (V / 1024 % 8 % 2 = 1)) pos with
  | .inl er => .inl er
  | .inr ps => if validA ((V % 1024 : Nat) : Int) sg la (off : Int) ps = true then .inr ⟨V % 1024, decide (V / 8192 % 2 = 1), sg, la, off, decide (V / 1024 % 8 < 4), decide (V / 1024 % 8 / 2 % 2 = 0), ps⟩ else .inl 9
theorem chunk_rest (bs : List UInt8) (m : Bool) (q : Nat) : chunkRes bs m q = restRes bs m q := by
  unfold chunkRes restRes afterLens
  cases lenRes bs m q with
  | inl er => rfl
  | inr x => obtain ⟨ls, p⟩ := x; rfl
theorem decA_ref (bs : List UInt8) (V W : Nat) (h2 : ¬ bs.length < 2) (hV : val (bitsAt bs 0 16) = V) (hW : val (bitsAt bs 16 16) = W) :
    decA bs = if V < 32768 then .inl 9 else if V / 16384 % 2 = 1 then (if bs.length < 4 then .inl 5 else tailRes bs V true (decide (32768 ≤ W)) (W % 32768) 32) else tailRes bs V false false 0 16 := by
  obtain ⟨h16, hsn⟩ := headA16 bs
  obtain ⟨ho, ho2⟩ := headA_off bs
  have y0 := bits1_le bs 0
  have y1 := bits1_le bs 1
  have y2 := bits1_le bs 2
  have y3 := bits1_le bs 3
  have y4 := bits1_le bs 4
  have y5 := bits1_le bs 5
  have y6 := bits1_le bs 16
  rw [hV] at h16
  rw [hW] at ho
  have k1 : decide (V / 1024 % 8 < 4) = decide (val (bitsAt bs 3 1) = 0) := by rw [Bool.eq_iff_iff]; simp; omega
  have k2 : decide (V / 1024 % 8 / 2 % 2 = 0) = decide (val (bitsAt bs 4 1) = 0) := by rw [Bool.eq_iff_iff]; simp; omega
  have k3 : decide (V / 1024 % 8 % 2 = 1) = decide (val (bitsAt bs 5 1) = 1) := by rw [Bool.eq_iff_iff]; simp; omega
  have k4 : V % 1024 = val (bitsAt bs 6 10) := by omega
  have k5 : decide (V / 8192 % 2 = 1) = decide (val (bitsAt bs 2 1) = 1) := by rw [Bool.eq_iff_iff]; simp; omega
  have k6 : decide (32768 ≤ W) = decide (val (bitsAt bs 16 1) = 1) := by rw [Bool.eq_iff_iff]; simp; omega
  have k7 : W % 32768 = val (bitsAt bs 17 15) := by omega
  unfold decA tailRes
  rw [if_neg h2, k1, k2, k3, k4, k5, k6, k7, chunk_rest, chunk_rest]
  by_cases c0 : V < 32768
  · rw [if_pos c0, if_pos (by omega)]
  rw [if_neg c0, if_neg (by omega)]
  by_cases c1 : V / 16384 % 2 = 1
  · rw [if_pos c1, if_pos (by omega)]
    by_cases c2 : bs.length < 4
    · rw [if_pos c2, if_pos c2]
    · rw [if_neg c2, if_neg c2]
      cases restRes bs (decide (val (bitsAt bs 5 1) = 1)) 32 <;> rfl
  · rw [if_neg c1, if_neg (by omega)]
    cases restRes bs (decide (val (bitsAt bs 5 1) = 1)) 16 <;> rfl

theorem Stays.base_ {b b' Bb : Nat} {w : World} {A : Option Addr} {c : Nat} {vs : List Value} {ps : List (List UInt8)} (h : Stays b Bb w A c vs ps) (hb : b' ≤ b) : Stays b' Bb w A c vs ps :=
  fun W hW hs => h W (fun p hp => hW p (by rcases hp with h | h; exact .inl h; exact .inr (by omega))) hs
theorem kept_put8 {M : Nat → Obj → Prop} {a w : World} (h : Kept M a w) {g : Nat} (hg : ∀ o, M g o) (u0 u1 u2 u3 u4 u5 u6 u7 : Value) :
    Kept M a ((((((((w.setCell ⟨g, 0, none⟩ u0).setCell ⟨g, 1, none⟩ u1).setCell ⟨g, 2, none⟩ u2).setCell ⟨g, 3, none⟩ u3).setCell ⟨g, 4, none⟩ u4).setCell ⟨g, 5, none⟩ u5).setCell ⟨g, 6, none⟩ u6).setCell ⟨g, 7, none⟩ u7) :=
  (((((((h.setCell (p := ⟨g, 0, none⟩) (fun o _ => hg o) u0).setCell (p := ⟨g, 1, none⟩) (fun o _ => hg o) u1).setCell (p := ⟨g, 2, none⟩) (fun o _ => hg o) u2).setCell (p := ⟨g, 3, none⟩) (fun o _ => hg o) u3).setCell (p := ⟨g, 4, none⟩) (fun o _ => hg o) u4).setCell (p := ⟨g, 5, none⟩) (fun o _ => hg o) u5).setCell (p := ⟨g, 6, none⟩) (fun o _ => hg o) u6).setCell (p := ⟨g, 7, none⟩) (fun o _ => hg o) u7
/-- what the reference's Decode gives -/
def RDecAIs (w : World) (Bb : Nat) (R : Sum Nat APdu) (en : Ending) (w' : World) : Prop :=
  Below w.heap.size w w' ∧ ((∃ er : Nat, R = .inl er ∧ en = .returned (.tuple #[.agg (apdu 0 false false false 0 false false none 0 0), .int .i64 er])) ∨
    (∃ (p : APdu) (A : Option Addr) (c : Nat) (vs : List Value), R = .inr p ∧ en = .returned (.tuple #[.agg (apdu p.sn p.po p.sg p.la p.off p.s p.e A p.ps.length c), .int .i64 0]) ∧ Stays w.heap.size Bb w' A c vs p.ps))

set_option maxRecDepth 100000 in
set_option maxHeartbeats 2000000 in
theorem rdecodeA_any (A : Option Addr) (n c : Nat) (bs : List UInt8) (w : World) (Bb : Nat) (hbb : Sl w Bb A n c (bvs bs)) (hBb : Bb ≤ w.heap.size) (hn : n ≤ 1000000) :
    Calls Try.prog 40 #[.slice A n c] w (RDecAIs w Bb (decA bs)) := by
  have h := hbb.more hBb
  have hl : bs.length = n := by simpa using h.len
  have hB0 := (Below.refl w.heap.size w).alloc (Nat.le_refl _) (.cells #[.int .i64 0, .bool false, .bool false, .bool false, .int .i64 0, .bool false, .bool false, .slice none 0 0] 68)
  by_cases h2 : bs.length < 2
  · have hR1 : decA bs = .inl 5 := by unfold decA; rw [if_pos h2]
    generalize decA bs = R at *
    have HR := Lib.hid hR1
    have h2' : n < 2 := by omega
    clear hR1 h2 hl
    go_enter Try.func40, Try.ntmps40
    go_wp2
    exact bodyPost_ret (v := .tuple #[.agg (apdu 0 false false false 0 false false none 0 0), .int .i64 5]) (by simp [results, Try.results40, go_sem, apdu]) rfl ⟨hB0, .inl ⟨5, HR.out, rfl⟩⟩
  obtain ⟨V, hV⟩ : ∃ V, val (bitsAt bs 0 16) = V := ⟨_, rfl⟩
  obtain ⟨W, hW⟩ : ∃ W, val (bitsAt bs 16 16) = W := ⟨_, rfl⟩
  have hR1 := decA_ref bs V W h2 hV hW
  obtain ⟨R, hR⟩ : ∃ R, decA bs = R := ⟨_, rfl⟩
  rw [hR] at hR1 ⊢
  clear hR
  obtain ⟨b0, hb0⟩ : ∃ b, bs[0]? = some b := ⟨_, List.getElem?_eq_getElem (by omega)⟩
  have h3 := head1 bs b0 hb0
  obtain ⟨ad, u, rfl, hadb, hu, hcu⟩ := h.get (k := 0) (by omega)
  have hu' : u = .int .u8 (b0.toNat : Int) := by
    unfold bvs at hu
    rw [List.getElem?_map, hb0] at hu
    simpa [bv] using hu.symm
  subst hu'
  have e0 : ad.add 0 = ad := by simp [Addr.add]
  rw [e0] at hcu
  have hb0l := b0.toNat_lt
  have h2' : ¬ n < 2 := by omega
  have hVlt := val_lt (bitsAt bs 0 16)
  have hWlt := val_lt (bitsAt bs 16 16)
  rw [bitsAt_length, hV] at hVlt
  rw [bitsAt_length, hW] at hWlt
  have hV0 : V / 32768 = b0.toNat / 128 := by
    have := (headA16 bs).1
    have y1 := bits1_le bs 1
    have y2 := bits1_le bs 2
    have y3 := bits1_le bs 3
    have y4 := bits1_le bs 4
    have y5 := bits1_le bs 5
    have y6 := (headA16 bs).2
    omega
  have hcu' := (World.cell?_alloc_lt w (.cells #[.int .i64 0, .bool false, .bool false, .bool false, .int .i64 0, .bool false, .bool false, .slice none 0 0] 68) ad hadb).trans hcu
  by_cases h0 : b0.toNat < 128
  · rw [if_pos (by omega)] at hR1
    have HR := Lib.hid hR1
    have hz : decide ((b0.toNat : Int) < 128) = true := by simp; omega
    generalize b0.toNat = y at *
    clear hR1 h2 hl h3 hV0 hV hW
    go_enter Try.func40, Try.ntmps40
    go_wp2
    exact bodyPost_ret (v := .tuple #[.agg (apdu 0 false false false 0 false false none 0 0), .int .i64 9]) (by simp [results, Try.results40, go_sem, apdu]) rfl ⟨hB0, .inl ⟨9, HR.out, rfl⟩⟩
  rw [if_neg (by omega)] at hR1
  have hz : decide ((b0.toNat : Int) < 128) = false := by simp; omega
  obtain ⟨F, hF⟩ : ∃ F, V / 1024 % 8 = F := ⟨_, rfl⟩
  obtain ⟨sn, hsn⟩ : ∃ sn, V % 1024 = sn := ⟨_, rfl⟩
  obtain ⟨po, hpo⟩ : ∃ po, decide (V / 8192 % 2 = 1) = po := ⟨_, rfl⟩
  obtain ⟨sg, hsg⟩ : ∃ sg, decide (V / 16384 % 2 = 1) = sg := ⟨_, rfl⟩
  obtain ⟨la, hla⟩ : ∃ la, decide (32768 ≤ W) = la := ⟨_, rfl⟩
  obtain ⟨off, hoff⟩ : ∃ off, W % 32768 = off := ⟨_, rfl⟩
  have hFi : (V : Int) / 1024 % 8 = F := by omega
  have hF7 : F ≤ 7 := by omega
  have hSi : IntKind.i64.wrap ((V : Int) % 1024) = (sn : Int) := by rw [IntWalk.i64_in _ (by omega)]; omega
  have hPo : ((V : Int) / 8192 % 2 == 1) = po := by rw [← hpo, Bool.eq_iff_iff]; simp; omega
  have hSg : ((V : Int) / 16384 % 2 == 1) = sg := by rw [← hsg, Bool.eq_iff_iff]; simp; omega
  have hLa : decide ((32768 : Int) ≤ W) = la := by rw [← hla, Bool.eq_iff_iff]; simp; omega
  have hOf : IntKind.i64.wrap ((W : Int) % 32768) = (off : Int) := by rw [IntWalk.i64_in _ (by omega)]; omega
  have hsn2 : sn ≤ 1023 := by omega
  have hoff2 : off ≤ 32767 := by omega
  have hV16 : V < 65536 := by omega
  have hW16 : W < 65536 := by omega
  rw [hla, hoff] at hR1
  replace hR1 : R = if sg = true then (if bs.length < 4 then .inl 5 else tailRes bs V true la off 32) else tailRes bs V false false 0 16 := by
    rw [hR1]
    simp only [← hsg, decide_eq_true_eq]
  have HT := Lib.hid (fun sg la off pos => show tailRes bs V sg la off pos = match restRes bs (decide (F % 2 = 1)) pos with
      | .inl er => .inl er
      | .inr ps => if validA (sn : Int) sg la (off : Int) ps = true then .inr ⟨sn, po, sg, la, off, decide (F < 4), decide (F / 2 % 2 = 0), ps⟩ else .inl 9 by unfold tailRes; rw [hF, hsn, hpo])
  have HR := Lib.hid hR1
  have HL := Lib.hid hl
  have HVV := Lib.hid hV
  have HWW := Lib.hid hW
  have bR := Blk.new w 68 #[.int .i64 0, .bool false, .bool false, .bool false, .int .i64 0, .bool false, .bool false, .slice none 0 0]
  have hs0 := (h.below hB0).more hB0.size
  have hnr := rnewReader_any (some ad) n c bs _ hs0 hn
  have HNR := Lib.hid hnr
  have HB0 := Lib.hid hB0
  have h2n : 2 ≤ n := by omega
  generalize b0.toNat = y at *
  clear hR1 h2 hl h3 hV0 hV hW hF hsn hpo hsg hla hoff hnr hB0
  go_enter Try.func40, Try.ntmps40
  go_wp2_with fail
  generalize w.alloc (.cells #[.int .i64 0, .bool false, .bool false, .bool false, .int .i64 0, .bool false, .bool false, .slice none 0 0] 68) = w1 at *
  refine HNR.out.mono ?_
  rintro e1 w2 ⟨A2, c2, rfl, hs2, hb2⟩
  have hs2a := hs2.alloc (Nat.le_refl _) (.cells #[.slice A2 (8 * n) c2, .int .i64 0] 141)
  have hs2b := hs2a.more (show w2.heap.size ≤ (w2.alloc (.cells #[.slice A2 (8 * n) c2, .int .i64 0] 141)).heap.size by simp)
  have hget := rget_ok A2 (8 * n) c2 0 16 (unpack bs) _ hs2b (by omega) (by omega) (by omega)
  rw [unpack_cut bs 0 16 (by have := HL.out; omega), HVV.out] at hget
  have HG := Lib.hid hget
  have bR2 := bR.below hb2 bR.lt
  have br := Blk.new w2 141 #[.slice A2 (8 * n) c2, .int .i64 0]
  have hB2 : Below w.heap.size w w2 := HB0.out.trans (hb2.mono HB0.out.size)
  have hwlt : w.heap.size < w2.heap.size := bR2.lt
  clear HNR hs0 hb2 hget hs2a hcu' bR hcu hs2b
  go_wp2_with fail
  refine HG.out.mono ?_
  rintro e3 w3 ⟨rfl, hb3⟩
  have br3 := br.below hb3 br.lt
  have hbw3 : Below w2.heap.size w2 w3 := ((Below.refl _ w2).alloc (Nat.le_refl _) _).trans (hb3.mono (by simp))
  have hsz3 : w2.heap.size < w3.heap.size := br3.lt
  have hB4 := below_put2 hbw3 (Nat.le_refl _) (.slice A2 (8 * n) c2) (.int .i64 16)
  have br4 := br3.put2 (.slice A2 (8 * n) c2) (.int .i64 16)
  have hsz4 : ((w3.setCell ⟨w2.heap.size, 0, none⟩ (.slice A2 (8 * n) c2)).setCell ⟨w2.heap.size, 1, none⟩ (.int .i64 16)).heap.size = w3.heap.size := by simp [World.setCell]
  have HSZ4 := Lib.hid hsz4
  have x0 := br3.cell 0
  have x1 := br3.cell 1
  have y0 := br3.frozen 0
  have y1 := br3.frozen 1
  simp at x0 x1
  clear hsz4 hbw3 HG hb3 br
  go_upto_region 7 with (fail)
  generalize (w3.setCell ⟨w2.heap.size, 0, none⟩ (.slice A2 (8 * n) c2)).setCell ⟨w2.heap.size, 1, none⟩ (.int .i64 16) = w4 at *
  have hsz4 : w2.heap.size < w4.heap.size := by rw [HSZ4.out]; exact hsz3
  clear x0 x1 y0 y1 br3 HSZ4 hsz3
  have bp := Blk.new w4 68 #[.int .i64 sn, .bool po, .bool sg, .bool false, .int .i64 0, .bool false, .bool false, .slice none 0 0]
  have br5 := br4.alloc (.cells #[.int .i64 sn, .bool po, .bool sg, .bool false, .int .i64 0, .bool false, .bool false, .slice none 0 0] 68)
  have hB5 := hB4.alloc (by omega) (.cells #[.int .i64 sn, .bool po, .bool sg, .bool false, .int .i64 0, .bool false, .bool false, .slice none 0 0] 68)
  go_upto_if 43 with (fail)
  generalize w4.alloc (.cells #[.int .i64 sn, .bool po, .bool sg, .bool false, .int .i64 0, .bool false, .bool false, .slice none 0 0] 68) = w5 at *
  generalize w4.heap.size = g7 at *
  have bR5 := bR2.below hB5 hwlt
  clear br4 hB4
  go_cut [] (fun wx => ∃ (la' : Bool) (off' pos : Nat), pos ≤ 8 * n ∧ off' ≤ 32767 ∧ Hid (R = tailRes bs V sg la' off' pos) ∧ Below w2.heap.size w2 wx ∧ Blk wx w2.heap.size 141 #[.slice A2 (8 * n) c2, .int .i64 (pos : Nat)] ∧ Blk wx g7 68 #[.int .i64 sn, .bool po, .bool sg, .bool la', .int .i64 (off' : Nat), .bool false, .bool false, .slice none 0 0])
  case first =>
    cases sg with
    | false =>
      have hRR : R = tailRes bs V false false 0 16 := by rw [HR.out]; rfl
      have HRR := Lib.hid hRR
      clear hRR
      go_wp2_with fail
      go_meet
      exact ⟨false, 0, 16, by omega, by omega, HRR, hB5, br5, bp⟩
    | true =>
      have hs5 := (hs2.below hB5).more hB5.size
      obtain ⟨r0, r1⟩ : w5.cell? ⟨w2.heap.size, 0, none⟩ = some (.slice A2 (8 * n) c2) ∧ w5.cell? ⟨w2.heap.size, 1, none⟩ = some (.int .i64 16) := ⟨br5.cell 0, br5.cell 1⟩
      by_cases h4 : n < 4
      · have hRR : R = .inl 5 := by rw [HR.out]; simp only [if_true]; rw [if_pos (by rw [HL.out]; exact h4)]
        have HRR := Lib.hid hRR
        have hg2 := rget_short A2 (8 * n) c2 16 16 w5 (by omega) (by omega) (by omega) (by omega)
        have HG2 := Lib.hid hg2
        clear hg2 hRR hs5
        go_wp2_with fail
        refine HG2.out.mono ?_
        rintro e6 w6 ⟨rfl, hb6⟩
        have bR6 := bR5.below hb6 bR5.lt
        have hB6 := hB2.trans ((hB5.trans (hb6.mono hB5.size)).mono hB2.size)
        obtain ⟨z0, z1, z2, z3, z4, z5, z6, z7⟩ := bR6.eight
        have hwl6 : w.heap.size < w6.heap.size := bR6.lt
        have f0 := bR6.frozen 0
        have f1 := bR6.frozen 1
        have f2 := bR6.frozen 2
        have f3 := bR6.frozen 3
        have f4 := bR6.frozen 4
        have f5 := bR6.frozen 5
        have f6 := bR6.frozen 6
        have f7 := bR6.frozen 7
        clear HG2 hb6
        go_wp2
        obtain ⟨q0, q1, q2, q3, q4, q5, q6, q7⟩ := ((bR6.put8 (.int .i64 0) (.bool false) (.bool false) (.bool false) (.int .i64 0) (.bool false) (.bool false) (.slice none 0 0)).alloc (.cells #[.slice A2 (8 * n) c2, .int .i64 16] 141)).eight
        exact bodyPost_ret (v := .tuple #[.agg (apdu 0 false false false 0 false false none 0 0), .int .i64 5]) (by simp [results, Try.results40, go_sem, apdu, q0, q1, q2, q3, q4, q5, q6, q7]) rfl ⟨(below_put8 hB6 (Nat.le_refl _) _ _ _ _ _ _ _ _).alloc (by simp [World.setCell]; omega) _, .inl ⟨5, HRR.out, rfl⟩⟩
      · have hRR : R = tailRes bs V true la off 32 := by rw [HR.out]; simp only [if_true]; rw [if_neg (by rw [HL.out]; exact h4)]
        have HRR := Lib.hid hRR
        have hg2 := rget_ok A2 (8 * n) c2 16 16 (unpack bs) w5 hs5 (by omega) (by omega) (by omega)
        rw [unpack_cut bs 16 16 (by have := HL.out; omega), HWW.out] at hg2
        have HG2 := Lib.hid hg2
        clear hg2 hRR hs5
        go_wp2_with fail
        refine HG2.out.mono ?_
        rintro e6 w6 ⟨rfl, hb6⟩
        have hB6 := hB5.trans (hb6.mono hB5.size)
        have br6 := br5.below hb6 br5.lt
        have bp6 := bp.below hb6 bp.lt
        obtain ⟨z0, z1, z2, z3, z4, z5, z6, z7⟩ := bp6.eight
        have f3 := bp6.frozen 3
        have f4 := bp6.frozen 4
        have s0 := br6.frozen 0
        have s1 := br6.frozen 1
        have t0 := br6.cell 0
        have t1 := br6.cell 1
        simp at t0 t1
        have hl6 := bp6.lt
        have hl7 := br6.lt
        clear HG2 hb6 HR HWW HVV
        go_wp2_with fail
        go_meet
        have hne : w2.heap.size ≠ g7 := by omega
        have br7 := ((((br6.put2 (.slice A2 (8 * n) c2) (.int .i64 32)).far (p := ⟨g7, 3, none⟩) hne (.bool la)).far (p := ⟨g7, 4, none⟩) hne (.int .i64 off)).alloc (.cells #[.slice A2 (8 * n) c2, .int .i64 32] 141))
        have bp7 := ((((bp6.far (p := ⟨w2.heap.size, 0, none⟩) hne.symm (.slice A2 (8 * n) c2)).far (p := ⟨w2.heap.size, 1, none⟩) hne.symm (.int .i64 32)).set_ 3 (.bool la)).set_ 4 (.int .i64 off)).alloc (.cells #[.slice A2 (8 * n) c2, .int .i64 32] 141)
        have hB7 := (((below_put2 hB6 (Nat.le_refl _) (.slice A2 (8 * n) c2) (.int .i64 32)).setCell (p := ⟨g7, 3, none⟩) (by simp; omega) (.bool la)).setCell (p := ⟨g7, 4, none⟩) (by simp; omega) (.int .i64 off)).alloc (by simp [World.setCell]; omega) (.cells #[.slice A2 (8 * n) c2, .int .i64 32] 141)
        exact ⟨la, off, 32, by omega, hoff2, HRR, hB7, br7, by simpa using bp7⟩
  case rest =>
    obtain ⟨la', off', pos, hpos, hoff', HRR, hBx, brx, bpx⟩ := hcut
    have hAx := (hs2.below hBx).more hBx.size
    have hDx := hbb.keep fun p hp => (hB2.trans (hBx.mono hB2.size)).cell (p := p) (by omega)
    have hrest := rest_any A2 (8 * n) c2 pos (some ad) n c bs F wc Bb hAx hDx (by have := hB2.size; have := hBx.size; omega) hn hpos hF7
    have hRt : R = match restRes bs (decide (F % 2 = 1)) pos with
      | .inl er => .inl er
      | .inr ps => if validA (sn : Int) sg la' (off' : Int) ps = true then .inr ⟨sn, po, sg, la', off', decide (F < 4), decide (F / 2 % 2 = 0), ps⟩ else .inl 9 := by rw [HRR.out, HT.out]
    have HRt := Lib.hid hRt
    have HRS := Lib.hid hrest
    have hbRx := bR2.below hBx hwlt
    have t0 := brx.cell 0
    have t1 := brx.cell 1
    simp at t0 t1
    generalize wc = wx at *
    have hlx := bpx.lt
    have hly := hbRx.lt
    have hgz := hBx.size
    clear hrest hRt HRR HR HT HVV HWW br5 bp hB5 bR5 bR2
    go_wp2_with fail
    refine HRS.out.mono ?_
    rintro e5 w5 ⟨hb5, h5⟩
    have hBB := hB2.trans (hBx.mono hB2.size)
    have hB5 := hBB.trans (hb5.mono hBB.size)
    have bR5 := hbRx.below hb5 hbRx.lt
    have bp5 := bpx.below hb5 bpx.lt
    obtain ⟨z0, z1, z2, z3, z4, z5, z6, z7⟩ := bR5.eight
    have f0 := bR5.frozen 0
    have f1 := bR5.frozen 1
    have f2 := bR5.frozen 2
    have f3 := bR5.frozen 3
    have f4 := bR5.frozen 4
    have f5 := bR5.frozen 5
    have f6 := bR5.frozen 6
    have f7 := bR5.frozen 7
    have hwl5 : w.heap.size < w5.heap.size := bR5.lt
    clear HRS t0 t1
    rcases h5 with ⟨er, hr, rfl⟩ | ⟨ps, A5, c5, vs5, hr, rfl, hS5⟩
    · have hRe : R = .inl er := by rw [HRt.out, hr]
      have HRe := Lib.hid hRe
      have hne : ((er : Int) != 0) = true := by have := restRes_err hr; simp; omega
      clear hr hRe HRt
      go_wp2
      obtain ⟨q0, q1, q2, q3, q4, q5, q6, q7⟩ := ((bR5.put8 (.int .i64 0) (.bool false) (.bool false) (.bool false) (.int .i64 0) (.bool false) (.bool false) (.slice none 0 0)).alloc (.cells #[.bool false, .bool false, .slice none 0 0] 24)).eight
      exact bodyPost_ret (v := .tuple #[.agg (apdu 0 false false false 0 false false none 0 0), .int .i64 er]) (by simp [results, Try.results40, go_sem, apdu, q0, q1, q2, q3, q4, q5, q6, q7]) rfl ⟨(below_put8 hB5 (Nat.le_refl _) _ _ _ _ _ _ _ _).alloc (by simp [World.setCell]; omega) _, .inl ⟨er, HRe.out, rfl⟩⟩
    · have hps := chunkRes_props ((chunk_rest bs (decide (F % 2 = 1)) pos).trans hr)
      have hRe : R = if validA (sn : Int) sg la' (off' : Int) ps = true then .inr ⟨sn, po, sg, la', off', decide (F < 4), decide (F / 2 % 2 = 0), ps⟩ else .inl 9 := by rw [HRt.out, hr]
      have HRe := Lib.hid hRe
      clear hr hRe HRt
      generalize decide (F < 4) = s at *
      generalize decide (F / 2 % 2 = 0) = en at *
      have p0 := bp5.cell 0
      have p1 := bp5.cell 1
      have p2 := bp5.cell 2
      have p3 := bp5.cell 3
      have p4 := bp5.cell 4
      have p5 := bp5.cell 5
      have p6 := bp5.cell 6
      have p7 := bp5.cell 7
      simp at p0 p1 p2 p3 p4 p5 p6 p7
      have j5 := bp5.frozen 5
      have j6 := bp5.frozen 6
      have j7 := bp5.frozen 7
      have hlp := bp5.lt
      have hng : w.heap.size ≠ g7 := by omega
      have hK6 : Kept (fun k _ => k = g7) w5 ((((w5.setCell ⟨g7, 5, none⟩ (.bool s)).setCell ⟨g7, 6, none⟩ (.bool en)).setCell ⟨g7, 7, none⟩ (.slice A5 ps.length c5)).alloc (.cells #[.bool s, .bool en, .slice A5 ps.length c5] 24)) :=
        ((((Kept.refl _ w5).setCell (p := ⟨g7, 5, none⟩) (fun _ _ => rfl) _).setCell (p := ⟨g7, 6, none⟩) (fun _ _ => rfl) _).setCell (p := ⟨g7, 7, none⟩) (fun _ _ => rfl) _).alloc _
      have hb5s := hb5.size
      have hst6 := hS5.more (fun p hp => hK6.cell' (by omega) (fun _ e => by omega)) hK6.size
      have hB6 := (((hB5.setCell (p := ⟨g7, 5, none⟩) (by simp; omega) (.bool s)).setCell (p := ⟨g7, 6, none⟩) (by simp; omega) (.bool en)).setCell (p := ⟨g7, 7, none⟩) (by simp; omega) (.slice A5 ps.length c5)).alloc (by simp [World.setCell]; omega) (.cells #[.bool s, .bool en, .slice A5 ps.length c5] 24)
      have bR6 := (((bR5.far (p := ⟨g7, 5, none⟩) hng (.bool s)).far (p := ⟨g7, 6, none⟩) hng (.bool en)).far (p := ⟨g7, 7, none⟩) hng (.slice A5 ps.length c5)).alloc (.cells #[.bool s, .bool en, .slice A5 ps.length c5] 24)
      have bp6 := (((bp5.set_ 5 (.bool s)).set_ 6 (.bool en)).set_ 7 (.slice A5 ps.length c5)).alloc (.cells #[.bool s, .bool en, .slice A5 ps.length c5] 24)
      simp at bp6
      have hva := rvalidA_any (sn : Int) po sg la' (off' : Int) s en A5 ps.length c5 vs5 ps _ hst6.sls (by omega) (fun p hp => by have := hps.2 p hp; omega)
      unfold apdu at hva
      have HVA := Lib.hid hva
      have HK6 := Lib.hid hK6.size
      clear hva hK6 hps
      go_wp2_with fail
      refine HVA.out.mono ?_
      generalize (((w5.setCell ⟨g7, 5, none⟩ (.bool s)).setCell ⟨g7, 6, none⟩ (.bool en)).setCell ⟨g7, 7, none⟩ (.slice A5 ps.length c5)).alloc (.cells #[.bool s, .bool en, .slice A5 ps.length c5] 24) = w6 at *
      rintro e7 w7 ⟨rfl, hb7⟩
      have hk6 := HK6.out
      have hst7 := hst6.below hb7 (Nat.le_refl _) (by omega)
      have hB7 := hB6.trans (hb7.mono hB6.size)
      have bR7 := bR6.below hb7 bR6.lt
      have bp7 := bp6.below hb7 bp6.lt
      clear HVA HK6 hst6 hB6 bR6 bp6 hB5 bR5 bp5 z0 z1 z2 z3 z4 z5 z6 z7 f0 f1 f2 f3 f4 f5 f6 f7 p0 p1 p2 p3 p4 p5 p6 p7 j5 j6 j7
      obtain ⟨z0, z1, z2, z3, z4, z5, z6, z7⟩ := bR7.eight
      have f0 := bR7.frozen 0
      have f1 := bR7.frozen 1
      have f2 := bR7.frozen 2
      have f3 := bR7.frozen 3
      have f4 := bR7.frozen 4
      have f5 := bR7.frozen 5
      have f6 := bR7.frozen 6
      have f7 := bR7.frozen 7
      have hlR := bR7.lt
      cases hvl : validA (sn : Int) sg la' (off' : Int) ps with
      | false =>
        have hRf : R = .inl 9 := by rw [HRe.out, hvl]; rfl
        have HRf := Lib.hid hRf
        clear hRf HRe hvl
        go_wp2
        obtain ⟨q0, q1, q2, q3, q4, q5, q6, q7⟩ := (bR7.put8 (.int .i64 0) (.bool false) (.bool false) (.bool false) (.int .i64 0) (.bool false) (.bool false) (.slice none 0 0)).eight
        exact bodyPost_ret (v := .tuple #[.agg (apdu 0 false false false 0 false false none 0 0), .int .i64 9]) (by simp [results, Try.results40, go_sem, apdu, q0, q1, q2, q3, q4, q5, q6, q7]) rfl ⟨below_put8 hB7 (Nat.le_refl _) _ _ _ _ _ _ _ _, .inl ⟨9, HRf.out, rfl⟩⟩
      | true =>
        have hRf : R = .inr ⟨sn, po, sg, la', off', s, en, ps⟩ := by rw [HRe.out, hvl]; rfl
        have HRf := Lib.hid hRf
        clear hRf HRe hvl
        obtain ⟨p0, p1, p2, p3, p4, p5, p6, p7⟩ := bp7.eight
        go_wp2
        obtain ⟨q0, q1, q2, q3, q4, q5, q6, q7⟩ := (bR7.put8 (.int .i64 sn) (.bool po) (.bool sg) (.bool la') (.int .i64 off') (.bool s) (.bool en) (.slice A5 ps.length c5)).eight
        refine bodyPost_ret (v := .tuple #[.agg (apdu sn po sg la' off' s en A5 ps.length c5), .int .i64 0]) (by simp [results, Try.results40, go_sem, apdu, q0, q1, q2, q3, q4, q5, q6, q7]) rfl ⟨below_put8 hB7 (Nat.le_refl _) _ _ _ _ _ _ _ _, .inr ⟨⟨sn, po, sg, la', off', s, en, ps⟩, A5, c5, vs5, HRf.out, rfl, ?_⟩⟩
        have hK8 := kept_put8 (M := fun k _ => k = w.heap.size) (Kept.refl _ w7) (fun _ => rfl) (.int .i64 sn) (.bool po) (.bool sg) (.bool la') (.int .i64 off') (.bool s) (.bool en) (.slice A5 ps.length c5)
        exact (hst7.more (fun p hp => hK8.cell' (by omega) (fun _ e => by omega)) hK8.size).base_ (by omega)
end Go.Proofs.Ytchlbpfeiamieaa
