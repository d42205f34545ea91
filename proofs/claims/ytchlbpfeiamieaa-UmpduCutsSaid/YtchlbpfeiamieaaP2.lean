/- law30.UmpduCuts: the walk. -/
import Derived.Test.YtchlbpfeiamieaaC0
namespace Go.Proofs.Ytchlbpfeiamieaa
open Go.RowKit

theorem Sl.upto {w : World} {B : Nat} {A : Option Addr} {n c k : Nat} {l : List UInt8} (h : Sl w B A n c (bvs l)) (hk : k ≤ n) : Sl w B A k c (bvs (l.take k)) := by
  have hl : l.length = n := by simpa using h.len
  refine ⟨by simp; omega, by have := h.cap; omega, h.mx, fun hp => ?_⟩
  obtain ⟨ad, e, hb, hc⟩ := h.at_ (by omega)
  refine ⟨ad, e, hb, fun j u hu => hc j u ?_⟩
  unfold bvs at hu ⊢
  rw [List.map_take, List.getElem?_take] at hu
  split at hu
  · exact hu
  · cases hu

theorem Below.alloc2 {v w : World} (h : Below v.heap.size v w) (o : Obj) : Below v.heap.size v (w.alloc o) := h.alloc h.size o
theorem Below.grown2 {v w w' : World} {row : Option Nat} (h : Below v.heap.size v w) (hg : w.grownBy w' row) (hr : ∀ g, row = some g → v.heap.size ≤ g) : Below v.heap.size v w' := h.grown hg h.size hr
theorem keep_cells {w w' : World} {B a g q : Nat} {ad : Addr} {v0 v1 v2 : Value} (hb : Below B w w') (h0 : a < B) (h1 : ad.block < B) (h2 : g < B)
    (hS : w.cell? ⟨a, 3, none⟩ = some v0 ∧ w.cell? (ad.add q) = some v1 ∧ w.cell? ⟨g, 2, none⟩ = some v2 ∧ w.frozen? ⟨g, 2, none⟩ = false) :
    w'.cell? ⟨a, 3, none⟩ = some v0 ∧ w'.cell? (ad.add q) = some v1 ∧ w'.cell? ⟨g, 2, none⟩ = some v2 ∧ w'.frozen? ⟨g, 2, none⟩ = false := by
  have hf : w'.frozen? ⟨g, 2, none⟩ = w.frozen? ⟨g, 2, none⟩ := by
    have := hb.block g h2
    unfold World.frozen?
    simp only [this]
  rw [hb.cell (p := ⟨a, 3, none⟩) h0, hb.cell (p := ad.add q) (by rw [block_add]; exact h1), hb.cell (p := ⟨g, 2, none⟩) h2, hf]
  exact hS
theorem keep_cells2 {w w' : World} {B a q : Nat} {ad : Addr} {v0 v1 : Value} (hb : Below B w w') (h0 : a < B) (h1 : ad.block < B)
    (hS : w.cell? ⟨a, 3, none⟩ = some v0 ∧ w.cell? (ad.add q) = some v1) : w'.cell? ⟨a, 3, none⟩ = some v0 ∧ w'.cell? (ad.add q) = some v1 := by
  rw [hb.cell (p := ⟨a, 3, none⟩) h0, hb.cell (p := ad.add q) (by rw [block_add]; exact h1)]
  exact hS
theorem wrap64_nat (q : Nat) (h : q ≤ 1048576) : wrap64 (q : Int) = (q : Int) := by unfold wrap64; omega
set_option maxRecDepth 100000 in
set_option maxHeartbeats 1600000 in
theorem umpduCuts_walk (sn : Int) (s e : Bool) (A : Option Addr) (n c : Nat) (vs : List Value) (ps : List (List UInt8)) (cut : Int) (w : World) (hsn : -9223372036854775808 ≤ sn ∧ sn ≤ 9223372036854775807) (hcut0 : -9223372036854775808 ≤ cut ∧ cut ≤ 9223372036854775807) (h : Sls w w.heap.size A n c vs ps) :
    Calls Try.prog 6 #[.agg #[.int .i64 sn, .bool s, .bool e, .slice A n c], .int .i64 cut] w (IsTrue w) := by
  have hB := (Below.refl w.heap.size w).alloc (Nat.le_refl _) (.cells #[.int .i64 sn, .bool s, .bool e, .slice A n c] 26)
  have b0 := Blk.new w 26 #[.int .i64 sn, .bool s, .bool e, .slice A n c]
  have hA := (h.below hB).more hB.size
  have HNL := Lib.hid h.len
  go_enter Try.func6, Try.ntmps6
  go_wp2_with fail
  generalize w.alloc (.cells #[.int .i64 sn, .bool s, .bool e, .slice A n c] 26) = w1 at *
  refine (few_any s e A n c vs ps w1 hA).mono ?_
  rintro e1 w2 ⟨⟨r1, rfl, hfew⟩, hb1⟩
  have hB1 : Below w.heap.size w w2 := hB.trans (hb1.mono hB.size)
  have hsz1 := hb1.size
  have hA1 := (hA.below hb1).more hsz1
  have d0 := b0.below hb1 b0.lt
  clear hb1 hA b0 hB hsz1
  have b0 := d0
  clear d0
  cases r1 with
  | false =>
    clear hfew
    go_wp2_with (go_at_call 18; refine (works_any _).mono ?_; rintro e2 w3 ⟨rfl, hb2⟩)
    go_ret
    exact ⟨rfl, hB1.trans (hb2.mono hB1.size)⟩
  | true =>
    have hsmall := few_small (hfew rfl)
    have HS := Lib.hid hsmall.2
    have HN := Lib.hid hsmall.1
    clear hfew hsmall
    obtain ⟨x0, x1, x2, x3⟩ := b0.four
    by_cases hok : 0 ≤ sn ∧ sn ≤ 1023 ∧ validB ps = true
    · obtain ⟨h1, h2, h3⟩ := hok
      obtain ⟨m, rfl⟩ := Int.eq_ofNat_of_zero_le h1
      have hm : m ≤ 1023 := by omega
      go_wp2_with fail
      have henc := encode_ok m s e A n c vs ps w2 hA1 hm h3
      refine henc.mono ?_
      clear henc
      rintro e3 w3 ⟨v3, rfl, hv3, hb3⟩
      have hB3 : Below w.heap.size w w3 := hB1.trans (hb3.mono hB1.size)
      obtain ⟨A3, c3, rfl, hs3, _⟩ := own_sl hv3
      have hA3 := (hA1.below hb3).more hb3.size
      have d0 := b0.below hb3 b0.lt
      have hvp := (validB_iff ps).1 h3
      have hel := encU_length m s e ps
      have hes : (encU m s e ps).length ≤ 1000000 := by
        have h4 := hvp.sum
        have h5 := hvp.hi
        rw [hel]; unfold nbytes; omega
      clear hel x0 x1 x2 x3 hb3 hA1 hB1 b0 hv3
      have b0 := d0
      clear d0
      generalize hbs : encU m s e ps = bs at *
      by_cases hc0 : cut < 0
      · go_wp2_with (first | (go_at_call 22; refine (num_any _ _).mono ?_; rintro e4 w4 ⟨rfl, rfl⟩) | (go_at_call 18; refine (works_any _).mono ?_; rintro e4 w10 ⟨rfl, hb10⟩))
        go_ret
        exact ⟨rfl, hB3.trans (hb10.mono hB3.size)⟩
      · obtain ⟨k, rfl⟩ := Int.eq_ofNat_of_zero_le (show 0 ≤ cut by omega)
        by_cases hkl : bs.length ≤ k
        · have hg : decide ((bs.length : Int) ≤ (k : Int)) = true := by simpa using hkl
          go_wp2_with (first | (go_at_call 22; refine (num_any _ _).mono ?_; rintro e4 w4 ⟨rfl, rfl⟩) | (go_at_call 18; refine (works_any _).mono ?_; rintro e4 w10 ⟨rfl, hb10⟩))
          go_ret
          exact ⟨rfl, hB3.trans (hb10.mono hB3.size)⟩
        · have hg : decide ((bs.length : Int) ≤ (k : Int)) = false := by simpa using hkl
          obtain ⟨ad3, _, rfl, hlt3, _, _⟩ := hs3.get (k := 0) (by omega)
          obtain ⟨l, x, hlx⟩ := split_last hvp.lo
          obtain ⟨q, rfl⟩ : ∃ q, n = q + 1 := ⟨n - 1, by have := hvp.lo; have := HNL.out; omega⟩
          have hlq : l.length = q := by have := HNL.out; rw [hlx] at this; simpa using this
          have hxq : ps[q]?.getD [] = x := by rw [hlx, ← hlq]; simp
          have hx1 : 1 ≤ x.length := hvp.pos x (by rw [hlx]; simp)
          have hx2 : x.length ≤ 32767 := by have h4 := hvp.sum; rw [hlx] at h4; simp [sumLen] at h4; omega
          have hcap := hs3.cap
          have hmx := hs3.mx
          have hsl : (0 : Int) ≤ (k : Int) := by omega
          have hsl2 : (k : Int) ≤ (c3 : Int) := by omega
          have hdc := decode_any (some ad3) k c3 (bs.take k) w3 (hs3.upto (by omega)) (by omega)
          have hbl := cut_bad m s e l x (by rw [← hlx]; exact hvp) k
          have hbk := cut_ok m s e l x (by rw [← hlx]; exact hvp) k
          have hde := fun y hy => dec_enc m s e (l ++ [y]) (by omega) hy
          rw [← hlx, hbs] at hbl hbk
          have HBL := Lib.hid hbl
          have HBK := Lib.hid hbk
          have HDE := Lib.hid hde
          have HLX := Lib.hid hlx
          have HXQ := Lib.hid hxq
          have HLQ := Lib.hid hlq
          have HBS := Lib.hid hbs
          have HVP := Lib.hid hvp
          clear hbl hbk hde hlx hxq hlq hbs hvp h3
          go_wp2_with (first | (go_at_call 22; refine (num_any _ _).mono ?_; rintro e4 w4 ⟨rfl, rfl⟩))
          refine hdc.mono ?_
          clear hdc
          rintro e5 w5 ⟨hb5, hres⟩
          obtain ⟨sn5, s5, en5, vo5, er5, rfl, hvo5, hres2⟩ : ∃ (sn5 : Nat) (s5 en5 : Bool) (vo5 : Value) (er5 : Nat), e5 = .returned (.tuple #[.agg #[.int .i64 sn5, .bool s5, .bool en5, vo5], .int .i64 er5]) ∧ (∃ A5 n5 c5, vo5 = .slice A5 n5 c5) ∧
              ((er5 ≠ 0 ∧ vo5 = .slice none 0 0 ∧ ∃ er, decU (bs.take k) = .inl er) ∨ (er5 = 0 ∧ ∃ ps5, decU (bs.take k) = .inr (sn5, s5, en5, ps5) ∧ PartsOut w5 w3.heap.size vo5 ps5)) := by
            rcases hres with ⟨er, hd, rfl⟩ | ⟨sn5, s5, en5, ps5, vo5, hd, rfl, hpo⟩
            · exact ⟨0, false, false, _, er, rfl, ⟨_, _, _, rfl⟩, .inl ⟨decU_err _ _ hd, rfl, er, hd⟩⟩
            · obtain ⟨A5, c5, _, e5, _⟩ := hpo.sls
              exact ⟨sn5, s5, en5, vo5, 0, rfl, ⟨_, _, _, e5⟩, .inr ⟨rfl, ps5, hd, hpo⟩⟩
          obtain ⟨A5, n5, c5, rfl⟩ := hvo5
          have HR := Lib.hid hres2
          clear hres hres2
          have hB5 : Below w.heap.size w w5 := hB3.trans (hb5.mono hB3.size)
          have hA5 := (hA3.below hb5).more hb5.size
          have d0 := b0.below hb5 b0.lt
          have hb6 := (Below.refl w5.heap.size w5).alloc (Nat.le_refl _) (.cells #[.int .i64 (sn5 : Int), .bool s5, .bool en5, .slice A5 n5 c5] 26)
          have hB6 : Below w.heap.size w (w5.alloc (.cells #[.int .i64 (sn5 : Int), .bool s5, .bool en5, .slice A5 n5 c5] 26)) := hB5.trans (hb6.mono hB5.size)
          have b5 := Blk.new w5 26 #[.int .i64 (sn5 : Int), .bool s5, .bool en5, .slice A5 n5 c5]
          have d6 := d0.alloc (.cells #[.int .i64 (sn5 : Int), .bool s5, .bool en5, .slice A5 n5 c5] 26)
          have hA6 := (hA5.below hb6).more hb6.size
          clear b0 hA3 hB3 hb5 d0 hA5
          have b0 := d6
          clear d6
          obtain ⟨x0, x1, x2, x3⟩ := b0.four
          obtain ⟨y0, y1, y2, y3⟩ := b5.four
          obtain ⟨ad, Ai, ci, rfl, hadb, hcell, hsx⟩ := hA6.get (k := q) (by omega)
          rw [HXQ.out] at hcell hsx
          have hi1 : (0 : Int) ≤ (q : Int) := Int.natCast_nonneg q
          have hi2 : (q : Int) < (q : Int) + 1 := Int.lt_succ _
          have hw1 : IntKind.i64.wrap ((q : Int) + 1 - 1) = q := by rw [show (q : Int) + 1 - 1 = q by omega]; exact IntWalk.i64_in _ (by have := HN.out; have := HNL.out; omega)
          have hqb : q ≤ 1048576 := by have := HN.out; have := HNL.out; omega
          have hw4 : wrap64 (q : Int) = (q : Int) := wrap64_nat q (by omega)
          obtain ⟨L, hL⟩ : ∃ L : Int, (x.length : Int) - ((bs.length : Int) - (k : Int)) = L := ⟨_, rfl⟩
          have hw2 : IntKind.i64.wrap ((bs.length : Int) - (k : Int)) = (bs.length : Int) - (k : Int) := IntWalk.i64_in _ (by omega)
          have hw3 : IntKind.i64.wrap ((x.length : Int) - ((bs.length : Int) - (k : Int))) = L := by rw [hL]; exact IntWalk.i64_in _ (by omega)
          have HL := Lib.hid hL
          clear hL
          by_cases hleft : L < 1
          · have hdd := HBL.out (by have := HL.out; omega)
            obtain ⟨hne5, hvo, _⟩ : er5 ≠ 0 ∧ Value.slice A5 n5 c5 = .slice none 0 0 ∧ ∃ er, decU (bs.take k) = .inl er := by
              rcases HR.out with hx | ⟨_, ps5, hx, _⟩
              · exact hx
              · obtain ⟨er, hy⟩ := hdd
                rw [hx] at hy
                cases hy
            cases hvo
            have hne : ((er5 : Int) != 0) = true := by simp; omega
            clear hdd HR
            go_wp2_with (first | (go_at_call 22; refine (num_any _ _).mono ?_; rintro e4 w4 ⟨rfl, rfl⟩) | (go_at_call 18; refine (works_any _).mono ?_; rintro e4 w10 ⟨rfl, hb10⟩))
            go_ret
            exact ⟨rfl, hB6.trans (hb10.mono hB6.size)⟩
          · have hL0 := HL.out
            have hdd := HBK.out L.toNat (by omega) (by omega) (by omega)
            have hdd2 := HDE.out _ hdd.2
            rw [← hdd.1] at hdd2
            obtain ⟨he5, hp5⟩ : (er5 = 0 ∧ sn5 = m ∧ s5 = s ∧ en5 = e) ∧ PartsOut w5 w3.heap.size (.slice A5 n5 c5) (l ++ [x.take L.toNat]) := by
              rcases HR.out with ⟨_, _, er, hx⟩ | ⟨h0, ps5, hx, hpo⟩
              · rw [hdd2] at hx; cases hx
              · rw [hdd2] at hx
                cases hx
                exact ⟨⟨h0, rfl, rfl, rfl⟩, hpo⟩
            obtain ⟨rfl, rfl, rfl, rfl⟩ := he5
            obtain ⟨Ap, cp, vsp, hvp5, hsp⟩ := hp5.sls
            injection hvp5 with hv1 hv2 hv3
            subst hv1 hv3
            rw [← hv2] at hsp
            have hn5 : n5 = q + 1 := by rw [hv2]; simp [HLQ.out]
            subst hn5
            clear hv2 hp5
            obtain ⟨r, rfl⟩ := Int.eq_ofNat_of_zero_le (show 0 ≤ L by omega)
            simp only [Int.toNat_natCast] at hsp hdd
            have hr1 : 1 ≤ r := by omega
            have hr2 : r ≤ x.length := by omega
            clear hdd hdd2 HR hL0
            go_upto_region 12 with (first | (go_at_call 22; refine (num_any _ _).mono ?_; rintro e4 w4 ⟨rfl, rfl⟩))
            have hB7 := hB6.alloc hB6.size (.cells #[.bool s5, .bool en5, .slice (some ad) (q + 1) c] 24)
            have hb7 := (Below.refl _ _ : Below (w5.alloc (.cells #[.int .i64 (sn5 : Int), .bool s5, .bool en5, .slice A5 (q + 1) c5] 26)).heap.size _ (w5.alloc (.cells #[.int .i64 (sn5 : Int), .bool s5, .bool en5, .slice A5 (q + 1) c5] 26))).alloc (Nat.le_refl _) (.cells #[.bool s5, .bool en5, .slice (some ad) (q + 1) c] 24)
            have bw := Blk.new (w5.alloc (.cells #[.int .i64 (sn5 : Int), .bool s5, .bool en5, .slice A5 (q + 1) c5] 26)) 24 #[.bool s5, .bool en5, .slice (some ad) (q + 1) c]
            have d0 := b0.alloc (.cells #[.bool s5, .bool en5, .slice (some ad) (q + 1) c] 24)
            have d5 := b5.alloc (.cells #[.bool s5, .bool en5, .slice (some ad) (q + 1) c] 24)
            have hA7 := hA6.below hb7
            have hsx7 := hsx.below hb7
            have hcell7 := (hb7.cell (p := ad.add q) (by rw [block_add]; exact hadb)).trans hcell
            have hsp7 := ((hsp.below hb6).more hb6.size).below hb7
            rw [World.size_alloc] at bw hA7 hsx7 hsp7 hadb
            have hsz7 : ((w5.alloc (.cells #[.int .i64 (sn5 : Int), .bool s5, .bool en5, .slice A5 (q + 1) c5] 26)).alloc (.cells #[.bool s5, .bool en5, .slice (some ad) (q + 1) c] 24)).heap.size = w5.heap.size + 1 + 1 := by simp
            generalize (w5.alloc (.cells #[.int .i64 (sn5 : Int), .bool s5, .bool en5, .slice A5 (q + 1) c5] 26)).alloc (.cells #[.bool s5, .bool en5, .slice (some ad) (q + 1) c] 24) = w7 at *
            have HB5 := Lib.hid hB5.size
            clear hA6 hsx hcell hsp hb7 hB6 b0 b5 hb6 hB5 x0 x1 x2 x3 y0 y1 y2 y3
            have hg0 := d0.lt
            have hg5 : w.heap.size < w5.heap.size + 1 := by have := HB5.out; omega
            generalize w5.heap.size = g5 at *
            obtain ⟨ai, _, rfl, hai, _, _⟩ := hsx7.get (k := 0) (by omega)
            have hcx := hsx7.cap
            have hmxx := hsx7.mx
            have hcc := hA7.sl.cap
            have hcm := hA7.sl.mx
            obtain ⟨x0, x1, x2, x3⟩ := d0.four
            obtain ⟨z0, z1, z2⟩ := bw.three
            have hfz := bw.frozen 2
            have hj1 : (q : Int) ≤ (c : Int) := by omega
            have hj2 : (0 : Int) ≤ (r : Int) := by omega
            have hj3 : (r : Int) ≤ (ci : Int) := by omega
            obtain ⟨i0, hi, hz0, hz1, hz2⟩ := info_parts sl_info
            have hS7 : w7.cell? ⟨w.heap.size, 3, none⟩ = some (.slice (some ad) (q + 1) c) ∧ w7.cell? (ad.add q) = some (.slice (some ai) x.length ci) ∧ w7.cell? ⟨g5 + 1, 2, none⟩ = some (.slice (some ad) (q + 1) c) ∧ w7.frozen? ⟨g5 + 1, 2, none⟩ = false := ⟨x3, hcell7, z2, hfz⟩
            have HS7 := Lib.hid hS7
            have HSZ := Lib.hid hsz7
            have hPre : Sl w7 w7.heap.size (some ad) q c (vs.take q) := (hA7.sl.upto' (by omega)).more (by omega)
            have HPre := Lib.hid hPre
            clear hPre
            have hw5 : wrap64 ((q : Int) + 1 - 1) = (q : Int) := by rw [show (q : Int) + 1 - 1 = q by omega]; exact hw4
            have hj0 : (q : Int) ≤ (q : Int) + 1 := by omega
            have hw6 : IntKind.i64.wrap (q : Int) = (q : Int) := IntWalk.i64_in _ (by omega)
            have hcn : ¬ c = 0 := by omega
            have hcin : ¬ ci = 0 := by omega
            have hj5 : ¬ (c : Int) < (q : Int) := by omega
            have hj6 : ¬ (q : Int) < 0 := by omega
            have hq1 : ∀ u ∈ vs.take q, u.oneCell' = true := fun u hu => hA7.one u (List.mem_of_mem_take hu)
            have HQ1 := Lib.hid hq1
            have hb0 : w.heap.size < w7.heap.size := by omega
            have hb1 : ad.block < w7.heap.size := by omega
            have hb2 : g5 + 1 < w7.heap.size := by omega
            have hbm : g5 + 1 ≤ w7.heap.size := by omega
            clear hS7 hsz7 hq1
            go_cut [] (fun wx => ∃ (Aw : Option Addr) (cw : Nat) (vw : List Value), Blk wx (g5 + 1) 24 #[.bool s5, .bool en5, .slice Aw (q + 1) cw] ∧ Sls wx wx.heap.size Aw (q + 1) cw vw (l ++ [x.take r]) ∧ Below (g5 + 1) w7 wx)
            case first =>
              go_region_held3 (fun w' => w'.cell? ⟨w.heap.size, 3, none⟩ = some (.slice (some ad) (q + 1) c) ∧ w'.cell? (ad.add q) = some (.slice (some ai) x.length ci))
                (first | (refine keep_cells2 (Below.setCell (hb9.mono hbm) (by simp) _) hg5 hadb ⟨HS7.out.1, HS7.out.2.1⟩) | (refine keep_cells2 (B := w7.heap.size) ?_ hb0 hb1 ⟨HS7.out.1, HS7.out.2.1⟩; repeat (first | assumption | exact Below.refl _ _ | apply Below.drew | apply Below.alloc2)) | go_keep)
                (first
                  | (refine step_append_sl _ (by rfl) _ _ 22 (by rfl) w7.heap.size 29 i0 (.slice none 0 0) 24 und22 hi hz0 hz1 hz2 rfl (.slice (some ⟨w7.heap.size, 0, none⟩) 0 0) 0 [] (by rfl) (World.ownsRow.drew' (World.ownsRow_lit w7 #[] 0 (Nat.le_refl _) (by unfold maxLen; omega) rfl)) w7.heap.size (some ad) q c (vs.take q) (by rfl) ((HPre.out.alloc (Nat.le_refl _) _).drew) HQ1.out (by unfold maxLen; omega) (by omega) (by simp; try omega) ?_
                     intro v8 w8 hown8 hgrow8 hat8
                     simp only [Nat.zero_add, List.nil_append] at hown8
                     have hb8 : Below w7.heap.size w7 w8 := cuts_b8 ((Below.alloc2 (Below.refl _ _) _).drew) hgrow8 (Nat.le_refl _)
                     clear hat8)
                  | (refine step_append_sl _ (by rfl) _ _ 22 (by rfl) w7.heap.size 29 i0 (.slice none 0 0) 24 und22 hi hz0 hz1 hz2 rfl (.slice (some ⟨w7.heap.size, 0, none⟩) 0 0) 0 [] (by rfl) (cuts_own_b _ _) w7.heap.size (some ad) q c (vs.take q) (by rfl) (((HPre.out.alloc (Nat.le_refl _) _).alloc (by simp) _).drew) HQ1.out (by unfold maxLen; omega) (by omega) (by simp; try omega) ?_
                     intro v8 w8 hown8 hgrow8 hat8
                     simp only [Nat.zero_add, List.nil_append] at hown8
                     have hb8 : Below w7.heap.size w7 w8 := cuts_b8 ((Below.alloc2 (Below.alloc2 (Below.refl _ _) _) _).drew) hgrow8 (Nat.le_refl _)
                     clear hat8)
                  | (refine step_append_sl _ (by rfl) _ _ 22 (by rfl) w7.heap.size 29 i0 (.slice none 0 0) 24 und22 hi hz0 hz1 hz2 rfl (.slice (some ⟨w7.heap.size + 1, 0, none⟩) 0 0) 0 [] (by rfl) (cuts_own_c _ _) w7.heap.size (some ad) q c (vs.take q) (by rfl) (((HPre.out.alloc (Nat.le_refl _) _).alloc (by simp) _).drew) HQ1.out (by unfold maxLen; omega) (by omega) (by simp; try omega) ?_
                     intro v8 w8 hown8 hgrow8 hat8
                     simp only [Nat.zero_add, List.nil_append] at hown8
                     have hb8 : Below w7.heap.size w7 w8 := cuts_b8 ((Below.alloc2 (Below.alloc2 (Below.refl _ _) _) _).drew) hgrow8 (Nat.le_succ _)
                     clear hat8)
                  | (refine step_append_sl _ (by rfl) _ _ 22 (by rfl) w7.heap.size 29 i0 (.slice none 0 0) 24 und22 hi hz0 hz1 hz2 rfl v8 q (vs.take q) (by rfl) (by first | exact hown8.alloc _ | exact World.ownsRow.drew' (hown8.alloc _)) ((w8.alloc (.cells #[.slice (some ai) r ci] 29)).heap.size) (some ⟨w8.heap.size, 0, none⟩) 1 1 [.slice (some ai) r ci] (by rfl) (sl_lit (heap_new w8 _) rfl (by simp)) (by simp [Value.oneCell']) (by unfold maxLen; omega) (by omega) (by have := hb8.size; first | exact this | (simp; omega)) ?_
                     intro v9 w9 hown9 hgrow9 hat9
                     have hb9 : Below w7.heap.size w7 w9 := cuts_b9 (by first | exact Below.alloc2 hb8 _ | exact (Below.alloc2 hb8 _).drew) hown8 hgrow9
                     obtain ⟨_, _, hc91, hc92⟩ := keep_cells hb9 hb0 hb1 hb2 HS7.out
                     obtain ⟨A9, c9, rfl, hs9, hbs9⟩ := own_sl hown9
                     clear hat9)
                  | (refine step_append_sl _ (by rfl) _ _ 22 (by rfl) w7.heap.size 29 i0 (.slice none 0 0) 24 und22 hi hz0 hz1 hz2 rfl v8 q (vs.take q) (by rfl) (by exact hown8) (w8.heap.size) (some ⟨w7.heap.size + 1, 0, none⟩) 1 1 [.slice (some ai) r ci] (by rfl) (by exact cuts_lit_b hgrow8) (by simp [Value.oneCell']) (by unfold maxLen; omega) (by omega) (by have := hb8.size; first | exact this | (simp; omega)) ?_
                     intro v9 w9 hown9 hgrow9 hat9
                     have hb9 : Below w7.heap.size w7 w9 := cuts_b9 (by first | exact hb8 | exact hb8.drew) hown8 hgrow9
                     obtain ⟨_, _, hc91, hc92⟩ := keep_cells hb9 hb0 hb1 hb2 HS7.out
                     obtain ⟨A9, c9, rfl, hs9, hbs9⟩ := own_sl hown9
                     clear hat9)
                  | (refine step_append_sl _ (by rfl) _ _ 22 (by rfl) w7.heap.size 29 i0 (.slice none 0 0) 24 und22 hi hz0 hz1 hz2 rfl v8 q (vs.take q) (by rfl) (by exact hown8) (w8.heap.size) (some ⟨w7.heap.size, 0, none⟩) 1 1 [.slice (some ai) r ci] (by rfl) (by exact cuts_lit_c hgrow8) (by simp [Value.oneCell']) (by unfold maxLen; omega) (by omega) (by have := hb8.size; first | exact this | (simp; omega)) ?_
                     intro v9 w9 hown9 hgrow9 hat9
                     have hb9 : Below w7.heap.size w7 w9 := cuts_b9 (by first | exact hb8 | exact hb8.drew) hown8 hgrow9
                     obtain ⟨_, _, hc91, hc92⟩ := keep_cells hb9 hb0 hb1 hb2 HS7.out
                     obtain ⟨A9, c9, rfl, hs9, hbs9⟩ := own_sl hown9
                     clear hat9))
              all_goals (go_wp2_with fail; go_meet; exact cuts_meet hb9 (by have := HSZ.out; omega) bw hA7 HLX.out HLQ.out hsx7 (by omega) hs9 hbs9)
            case rest =>
              obtain ⟨Aw, cw, vw, bc, hsw, hbc⟩ := hcut
              have hBc : Below w.heap.size w wc := hB7.trans (hbc.mono (by omega))
              have e0 := d0.below hbc hg5
              have e5 := d5.below hbc (by omega)
              have hsq := (hsp7.below hbc).more (show g5 + 1 ≤ wc.heap.size by have := hbc.size; omega)
              have hlc : g5 + 1 < wc.heap.size := bc.lt
              clear hA7 hsx7 hcell7 hsp7 d0 d5 bw hbc HS7 HPre HQ1 x0 x1 x2 x3 z0 z1 z2 hfz
              obtain ⟨x0, x1, x2, x3⟩ := e0.four
              obtain ⟨y0, y1, y2, y3⟩ := e5.four
              obtain ⟨z0, z1, z2⟩ := bc.three
              have hSU := sameU_any s5 en5 A5 (q + 1) c5 vsp _ s5 en5 Aw (q + 1) cw vw _ wc hsq hsw
              rw [sameC_refl] at hSU
              have hee : (((0 : Nat) : Int) == 0) = true := rfl
              have hmm : ((sn5 : Int) == (sn5 : Int)) = true := by simp
              go_wp2_with (first
                | (go_at_call 22; refine (num_any _ _).mono ?_; rintro e7 w7' ⟨rfl, rfl⟩)
                | (go_at_call 26
                   refine hSU.mono ?_
                   rintro e8 w8 ⟨rfl, hb8⟩)
                | (go_at_call 18
                   refine (works_any _).mono ?_
                   rintro e9 w9 ⟨rfl, hb9⟩))
              go_ret
              exact ⟨rfl, (hBc.trans (hb8.mono hBc.size)).trans (hb9.mono (by have := hBc.size; have := hb8.size; omega))⟩
    · go_wp2_with fail
      have hbad : sn < 0 ∨ 1023 < sn ∨ validB ps = false := by
        by_cases hx : sn < 0
        · exact .inl hx
        · by_cases hy : 1023 < sn
          · exact .inr (.inl hy)
          · refine .inr (.inr ?_)
            cases hz : validB ps
            · rfl
            · exact absurd ⟨by omega, by omega, hz⟩ hok
      have henc := encode_bad sn s e A n c vs ps w2 hA1 (by have := HN.out; rw [HNL.out] at this; exact this) HS.out hbad
      refine henc.mono ?_
      clear henc hok
      rintro e3 w3 ⟨v3, rfl, hv3, hb3⟩
      have hB3 : Below w.heap.size w w3 := hB1.trans (hb3.mono hB1.size)
      go_wp2_with (first | (go_at_call 22; refine (num_any _ _).mono ?_; rintro e4 w4 ⟨rfl, rfl⟩) | (go_at_call 18; refine (works_any _).mono ?_; rintro e4 w10 ⟨rfl, hb10⟩))
      go_ret
      exact ⟨rfl, hB3.trans (hb10.mono hB3.size)⟩
end Go.Proofs.Ytchlbpfeiamieaa
