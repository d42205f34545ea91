/- The reference of layer 33: Cut of a valid PDU. -/
import Derived.Test.YtchlbpfeiamieaaI0
namespace Go.Proofs.Ytchlbpfeiamieaa
open Go.RowKit Go.Shelf
attribute [local go_sem] Oper.semAt_some

theorem cut_part_val {w : World} {ps : List (List UInt8)} {off fr till k : Nat} {A : Option Addr} {c : Nat} (hk : k < ps.length) (hs : Sl w w.heap.size A (ps[k]?.getD []).length c (bvs (ps[k]?.getD []))) (P Q : Nat) (hP : max fr (off + sumLen (ps.take k)) = P) (hQ : min till (off + sumLen (ps.take k) + (ps[k]?.getD []).length) = Q) (hPQ : P < Q) :
    Sl w w.heap.size (if c = P - (off + sumLen (ps.take k)) then A else A.map (·.add (P - (off + sumLen (ps.take k))))) (cutPart ps off fr till k).length (c - (P - (off + sumLen (ps.take k)))) (bvs (cutPart ps off fr till k)) ∧ (cutPart ps off fr till k).length = Q - P := by
  have hst := sumLen_take ps k hk
  have hm := hs.mid (a := P - (off + sumLen (ps.take k))) (m := Q - P) (by omega)
  have e : cutPart ps off fr till k = ((ps[k]?.getD []).drop (P - (off + sumLen (ps.take k)))).take (Q - P) := by
    unfold cutPart
    rw [hst, show max (off + sumLen (ps.take k)) fr = P by omega, show min (off + (sumLen (ps.take k) + (ps[k]?.getD []).length)) till = Q by omega]
  have hl : (cutPart ps off fr till k).length = Q - P := by
    rw [e, List.length_take, List.length_drop]
    omega
  refine ⟨?_, hl⟩
  rw [hl, e]
  have e2 : bvs (((ps[k]?.getD []).drop (P - (off + sumLen (ps.take k)))).take (Q - P)) = ((bvs (ps[k]?.getD [])).drop (P - (off + sumLen (ps.take k)))).take (Q - P) := by simp [bvs]
  rw [e2]
  exact hm
theorem CutVals.snoc {w : World} {vl : List Value} {qs : List (List UInt8)} {q : List UInt8} {A : Option Addr} {c : Nat} (h : CutVals w vl qs) (hl : vl.length = qs.length) (hs : Sl w w.heap.size A q.length c (bvs q)) : CutVals w (vl ++ [.slice A q.length c]) (qs ++ [q]) := by
  intro j r hj
  rcases Nat.lt_or_ge j qs.length with hlt | hge
  · rw [List.getElem?_append_left hlt] at hj
    obtain ⟨A', c', h1, h2⟩ := h j r hj
    exact ⟨A', c', by rw [List.getElem?_append_left (by omega)]; exact h1, h2⟩
  · have hj0 : j = qs.length := by
      have := (List.getElem?_eq_some_iff.1 hj).1
      simp at this
      omega
    subst hj0
    simp at hj
    subst hj
    exact ⟨A, c, by rw [← hl]; simp, hs⟩

set_option maxRecDepth 100000 in
set_option maxHeartbeats 4000000 in
theorem rcutA_ok (sn : Int) (po sg la : Bool) (off : Nat) (s e : Bool) (A : Option Addr) (n c : Nat) (vs : List Value) (ps : List (List UInt8)) (fr till : Nat) (w : World) (h : Sls w w.heap.size A n c vs ps)
    (hv : validA sn sg la off ps = true) (hoff : off ≤ 32767) (h1 : off ≤ fr) (h2 : fr < till) (h3 : till ≤ off + sumLen ps) :
    Calls Try.prog 45 #[.agg (apdu sn po sg la off s e A n c), .int .i64 fr, .int .i64 till] w (RCutGives w sn (decide (till = off + sumLen ps) && (la || !sg)) fr (cutStarts ps s off fr n) (cutEnds ps e off till n) (cutParts ps off fr till n)) := by
  have hva := (validA_iff sn sg la off ps).1 hv
  obtain ⟨hlo, hhi, hpos, hshort, hsum⟩ := (validB_iff ps).1 hva.vp
  have hlen := h.len
  have hple : ∀ p ∈ ps, p.length ≤ 1099511627776 := fun p hp => by have := mem_le_sumLen hp; omega
  have hB := ((Below.refl w.heap.size w).alloc (Nat.le_refl _) (.cells (apdu sn po sg la off s e A n c) 68)).alloc (by simp) (.cells (apdu 0 false false false 0 false false none 0 0) 68)
  have hA := (h.below hB).more hB.size
  have hvc := rvalidA_any sn po sg la off s e A n c vs ps _ hA (by omega) hple
  rw [hv] at hvc
  have bx := (Blk.new w 68 (apdu sn po sg la off s e A n c)).alloc (.cells (apdu 0 false false false 0 false false none 0 0) 68)
  have br := Blk.new (w.alloc (.cells (apdu sn po sg la off s e A n c) 68)) 68 (apdu 0 false false false 0 false false none 0 0)
  simp only [World.size_alloc] at br
  have HB := Lib.hid hB
  have HV := Lib.hid hvc
  have HLE := Lib.hid hple
  have HLEN := Lib.hid hlen
  have hn64 : n ≤ 64 := by omega
  have HSUM := Lib.hid hsum
  clear hB hvc hple hv hva hpos hshort hlen hlo hhi
  unfold apdu at *
  go_enter Try.func45, Try.ntmps45
  go_wp2_with fail
  refine HV.out.mono ?_
  rintro e1 w1 ⟨rfl, hb1⟩
  replace bx := bx.below hb1 bx.lt
  replace br := br.below hb1 br.lt
  have hA1 := (hA.below hb1).more hb1.size
  have hB1 := HB.out.trans (hb1.mono HB.out.size)
  obtain ⟨x0, x1, x2, x3, x4, x5, x6, x7⟩ := bx.eight
  have hsz := rsize_any s e A n c vs ps w1.drew hA1.drew' (by omega) HLE.out
  obtain ⟨lst, hlst⟩ : ∃ lst, (decide (till = off + sumLen ps) && (la || !sg)) = lst := ⟨_, rfl⟩
  have HLS := Lib.hid hlst
  obtain ⟨S, hS⟩ : ∃ S, sumLen ps = S := ⟨_, rfl⟩
  rw [hS] at hsz hlst h3 hsum
  have HS := Lib.hid hS
  have HLST := Lib.hid hlst
  have HZ := Lib.hid hsz
  clear hA hb1 HV HB hsz hS hlst hA1
  have hbl : w.heap.size < w1.drew.heap.size := bx.lt
  have hwrap : IntKind.i64.wrap ((off : Int) + S) = (off : Int) + S := IntWalk.i64_in _ (by omega)
  go_wp2_with fail
  go_region_held3 (fun w' => w'.cell? ⟨w.heap.size, 4, none⟩ = some (.int .i64 off) ∧ w'.cell? ⟨w.heap.size, 5, none⟩ = some (.bool s) ∧ w'.cell? ⟨w.heap.size, 6, none⟩ = some (.bool e) ∧ w'.cell? ⟨w.heap.size, 7, none⟩ = some (.slice A n c))
    (first | (refine ⟨(hb2.cell (p := ⟨w.heap.size, 4, none⟩) hbl).trans x4, (hb2.cell (p := ⟨w.heap.size, 5, none⟩) hbl).trans x5, (hb2.cell (p := ⟨w.heap.size, 6, none⟩) hbl).trans x6, (hb2.cell (p := ⟨w.heap.size, 7, none⟩) hbl).trans x7⟩) | go_keep)
    ((go_at_call 55; refine HZ.out.mono ?_; rintro e2 w2 ⟨rfl, hb2⟩))
  clear hwrap
  replace bx := bx.drew.below hb2 bx.lt
  replace br := br.drew.below hb2 br.lt
  have hB2 := hB1.drew.trans (hb2.mono hB1.size)
  clear x0 x1 x2 x3 x4 x5 x6 x7 hb2 HZ hB1 hbl
  obtain ⟨x0, x1, x2, x3, x4, x5, x6, x7⟩ := bx.eight
  have d1 : decide ((fr : Int) < off) = false := by simp; omega
  have d2 : decide ((till : Int) ≤ fr) = false := by simp; omega
  have d3 : decide ((off : Int) + S < till) = false := by simp; omega
  go_upto_region 6 with (fail)
  go_cut [9] (fun s9 wx => s9 = .pointer (some ⟨w2.heap.size, 0, none⟩) ∧ Blk wx w2.heap.size 68 #[.int .i64 sn, .bool false, .bool true, .bool lst, .int .i64 fr, .bool false, .bool false, .slice none 0 0] ∧ Below w2.heap.size w2 wx)
  case first =>
    by_cases hte : till = off + S
    · have d4 : ((till : Int) == (off : Int) + S) = true := by simp; omega
      cases sg with
      | false =>
        have hl : lst = true := by rw [← HLST.out]; simp [hte]
        subst hl
        go_wp2_with fail
        go_meet
        exact ⟨rfl, Blk.new _ _ _, (Below.refl _ _).alloc (Nat.le_refl _) _⟩
      | true =>
        have hl : lst = la := by rw [← HLST.out]; simp [hte]
        subst hl
        go_wp2_with fail
        go_meet
        exact ⟨rfl, Blk.new _ _ _, (Below.refl _ _).alloc (Nat.le_refl _) _⟩
    · have d4 : ((till : Int) == (off : Int) + S) = false := by simp; omega
      have hl : lst = false := by rw [← HLST.out]; simp [hte]
      subst hl
      go_wp2_with fail
      go_meet
      exact ⟨rfl, Blk.new _ _ _, (Below.refl _ _).alloc (Nat.le_refl _) _⟩
  case rest =>
    obtain ⟨rfl, b9, hb3⟩ := hcut
    have hl2 := bx.lt
    have hl3 := br.lt
    replace bx := bx.below hb3 hl2
    replace br := br.below hb3 hl3
    have hB3 := hB2.trans (hb3.mono hB2.size)
    generalize wc = w3 at *
    generalize w2.heap.size = g9 at *
    clear x0 x1 x2 x3 x4 x5 x6 x7 d1 d2 d3 hb3 hB2 HLST
    obtain ⟨x0, x1, x2, x3, x4, x5, x6, x7⟩ := bx.eight
    obtain ⟨j0, hj0, hm0, hm1, hm2⟩ := info_parts sl_info
    have hg9 := b9.lt
    go_wp2
    go_loopw [10, 11] (fun a i wr => ∃ (k : Nat) (Ao : Option Addr) (co : Nat) (vl : List Value), k ≤ n ∧ i = .int .i64 k ∧ a = .int .i64 (off + sumLen (ps.take k) : Nat) ∧
      Blk wr g9 68 #[.int .i64 sn, .bool false, .bool true, .bool lst, .int .i64 fr, .bool (cutStarts ps s off fr k), .bool (cutEnds ps e off till k), .slice Ao (cutParts ps off fr till k).length co] ∧
      wr.ownsRow (g9 + 1) 29 1 (.slice Ao (cutParts ps off fr till k).length co) (cutParts ps off fr till k).length vl ∧ CutVals w vl (cutParts ps off fr till k) ∧ Below g9 w3 wr) (fun _ i _ => n - (intOf i).toNat)
    case atStart => exact ⟨0, none, 0, [], Nat.zero_le _, rfl, by simp [sumLen], b9, World.ownsRow_nil _ _ _ _, fun j q hj => by simp [cutParts] at hj, Below.refl _ _⟩
    case round =>
      obtain ⟨k, Ao, co, vl, hk, rfl, rfl, bo, hvo, hcv, hBr⟩ := hrel
      have hbxr := bx.below hBr hl2
      obtain ⟨y0, y1, y2, y3, y4, y5, y6, y7⟩ := hbxr.eight
      have hBw := hB3.trans (hBr.mono (by omega))
      by_cases hlt : k < n
      · obtain ⟨ad, Ai, ci, rfl, hbk, hck, hsl⟩ := h.get hlt
        have hckr := (hBw.cell (p := ad.add k) (by rw [block_add]; exact hbk)).trans hck
        have hst := sumLen_take ps k (by rw [HLEN.out]; exact hlt)
        have hle1 := Nat.le_trans (sumLen_take_le ps (k + 1)) HSUM.out
        have hpv := fun P Q => cut_part_val (off := off) (fr := fr) (till := till) (c := ci) (by rw [HLEN.out]; exact hlt) hsl P Q
        have hparts : cutParts ps off fr till (k + 1) = if cutHits ps off fr till k then cutParts ps off fr till k ++ [cutPart ps off fr till k] else cutParts ps off fr till k := rfl
        have hhit : cutHits ps off fr till k = decide (max (off + sumLen (ps.take k)) fr < min (off + sumLen (ps.take (k + 1))) till) := rfl
        have hstarts : cutStarts ps s off fr (k + 1) = (cutStarts ps s off fr k || (decide (off + sumLen (ps.take k) = fr) && (decide (0 < k) || s))) := rfl
        have hends : cutEnds ps e off till (k + 1) = (cutEnds ps e off till k || (decide (off + sumLen (ps.take (k + 1)) = till) && (decide (k + 1 < ps.length) || e))) := rfl
        rw [HLEN.out] at hends
        have hqn := cutParts_length ps off fr till k
        rw [hst] at hhit hends
        generalize hpk : ps[k]?.getD [] = p at *
        clear hpk
        have hkS : off + sumLen (ps.take k) + p.length ≤ 70000 := by omega
        generalize sumLen (ps.take k) = Sk at *
        generalize hG4 : sumLen (ps.take (k + 1)) = Sk1 at *
        generalize cutParts ps off fr till k = qs at *
        generalize hG1 : cutParts ps off fr till (k + 1) = qs' at *
        generalize cutPart ps off fr till k = q at *
        generalize cutHits ps off fr till k = hit at *
        generalize cutStarts ps s off fr k = st at *
        generalize hG2 : cutStarts ps s off fr (k + 1) = st' at *
        generalize cutEnds ps e off till k = ee at *
        generalize hG3 : cutEnds ps e off till (k + 1) = ee' at *
        have G1 := Lib.hid hG1
        have G2 := Lib.hid hG2
        have G3 := Lib.hid hG3
        have G4 := Lib.hid hG4
        clear hG1 hG2 hG3 hG4
        obtain ⟨T, hT⟩ : ∃ T, off + Sk = T := ⟨_, rfl⟩
        rw [hT] at hstarts hkS ⊢
        simp only [hT] at hpv
        rw [← Nat.add_assoc, hT] at hhit hends
        have hSk1 : off + Sk1 = T + p.length := by omega
        obtain ⟨P, hP⟩ : ∃ P, max fr T = P := ⟨_, rfl⟩
        obtain ⟨Q, hQ⟩ : ∃ Q, min till (T + p.length) = Q := ⟨_, rfl⟩
        have hpv' := hpv P Q hP hQ
        replace hhit : hit = decide (P < Q) := by rw [hhit, Nat.max_comm, Nat.min_comm, hP, hQ]
        have hPi : (if (fr : Int) < (T : Int) then (T : Int) else (fr : Int)) = (P : Int) := by rw [← hP]; split <;> omega
        have hQi : (if (T : Int) + (p.length : Int) < (till : Int) then (T : Int) + (p.length : Int) else (till : Int)) = (Q : Int) := by rw [← hQ]; split <;> omega
        have hPi2 : (if fr < T then (T : Int) else (fr : Int)) = (P : Int) := by rw [← hP]; split <;> omega
        have hPT : T ≤ P := by omega
        have hQT : Q ≤ T + p.length := by omega
        have hP7 : P ≤ 70000 := by omega
        have hQ7 : Q ≤ 70000 := by omega
        have HSK := Lib.hid hSk1
        have HPV := Lib.hid hpv'
        have HPT := Lib.hid hparts
        have HHIT := Lib.hid hhit
        have HSTS := Lib.hid hstarts
        have HENS := Lib.hid hends
        clear hst hpv hpv' hparts hhit hstarts hends hck hSk1 hT hP hQ
        obtain ⟨z0, z1, z2, z3, z4, z5, z6, z7⟩ := bo.eight
        have f5 := bo.frozen 5
        have f6 := bo.frozen 6
        have f7 := bo.frozen 7
        have hg9r := bo.lt
        go_upto_if 83 with (fail)
        go_cut [] (fun wx => ∃ A5 c5 vl5, Blk wx g9 68 #[.int .i64 sn, .bool false, .bool true, .bool lst, .int .i64 fr, .bool st, .bool ee, .slice A5 qs'.length c5] ∧ wx.ownsRow (g9 + 1) 29 1 (.slice A5 qs'.length c5) qs'.length vl5 ∧ CutVals w vl5 qs' ∧ Below g9 w3 wx)
        case first =>
          by_cases hPQ : P < Q
          · obtain ⟨hq1, hq2⟩ := HPV.out hPQ
            have hqs : qs' = qs ++ [q] := by rw [HPT.out, HHIT.out]; simp [hPQ]
            have hvl : vl.length = qs.length := by have := (own_sl' hvo).len; exact this
            have hcp := hsl.cap
            have hmx := hsl.mx
            obtain ⟨adi, _, rfl, _⟩ := hsl.get (k := 0) (by omega)
            obtain ⟨U, hU⟩ : ∃ U, P - T = U := ⟨_, rfl⟩
            obtain ⟨V, hV⟩ : ∃ V, Q - T = V := ⟨_, rfl⟩
            rw [hU] at hq1
            have hUi : IntKind.i64.wrap ((P : Int) - (T : Int)) = (U : Int) := by rw [IntWalk.i64_in _ (by omega)]; omega
            have hVi : IntKind.i64.wrap ((Q : Int) - (T : Int)) = (V : Int) := by rw [IntWalk.i64_in _ (by omega)]; omega
            have hUV : U < V := by omega
            have hVc : V ≤ ci := by omega
            have hcU : ¬ ci = U := by omega
            have hqL : q.length = V - U := by omega
            rw [if_neg hcU, Option.map_some] at hq1
            have hcv' := hcv.snoc hvl hq1
            rw [hqL] at hcv'
            have HQS := Lib.hid hqs
            have HCV := Lib.hid hcv'
            have hU0 : (0 : Int) ≤ U := by omega
            have hUV0 : (U : Int) ≤ V := by omega
            have hVC0 : (V : Int) ≤ ci := by omega
            clear hq1 hq2 hqs hcv' hU hV hqL HPV HPT HHIT
            generalize hj : qs.length = j at *
            have HJ := Lib.hid hj
            clear hj
            go_wp2_with fail
            go_region_law ((refine step_append_sl _ (by rfl) _ _ 22 (by rfl) (g9 + 1) 29 j0 (.slice none 0 0) 24 und22 hj0 hm0 hm1 hm2 rfl (.slice Ao j co) j vl (by rfl) (World.ownsRow.drew' (hvo.alloc (.cells #[.slice (some (adi.add U)) (V - U) (ci - U)] 29))) (wr.alloc (.cells #[.slice (some (adi.add U)) (V - U) (ci - U)] 29)).heap.size (some ⟨wr.heap.size, 0, none⟩) 1 1 [.slice (some (adi.add U)) (V - U) (ci - U)] (by rfl) (sl_new1 wr (.slice (some (adi.add U)) (V - U) (ci - U)) 29) (by simp [Value.oneCell']) (by unfold maxLen; omega) (by omega) (by simp; omega) ?_; intro v5 w5 hown5 hgrow5 _; obtain ⟨A5, c5, rfl, hs5, _⟩ := own_sl hown5; have hG5 := (bo.alloc (.cells #[.slice (some (adi.add U)) (V - U) (ci - U)] 29)).drew.grown hgrow5 (fun e => own_blk_ne hvo bo (by decide) e.symm); have q2 := hG5.cell 7; have q3 := hG5.frozen 7; simp at q2))
            all_goals
              have hG6 := hG5.set_ 7 (.slice A5 (j + 1) c5)
              simp at hG6
              have hown6 := own_store (i := 7) hown5 hG5 (by decide) (.slice A5 (j + 1) c5)
              have hB5 := (((hBr.alloc (by omega) (.cells #[.slice (some (adi.add U)) (V - U) (ci - U)] 29)).drew).grown hgrow5 (by simp; omega) (fun g hg => by have := (hvo.lt g hg).1; omega)).setCell (p := ⟨g9, 7, none⟩) (Nat.le_refl _) (.slice A5 (j + 1) c5)
              have hql : qs'.length = j + 1 := by rw [HQS.out, List.length_append, HJ.out]; rfl
              go_wp2_with fail
              go_meet
              refine ⟨A5, c5, vl ++ [.slice (some (adi.add U)) (V - U) (ci - U)], ?_, ?_, ?_, hB5⟩
              · rw [hql]; exact hG6
              · rw [hql]; exact hown6
              · rw [HQS.out]; exact HCV.out
          · have hqs : qs' = qs := by rw [HPT.out, HHIT.out]; simp [hPQ]
            subst hqs
            go_wp2_with fail
            go_meet
            exact ⟨Ao, co, vl, bo, hvo, hcv, hBr⟩
        case rest =>
          clear bo hvo hcv hBr z0 z1 z2 z3 z4 z5 z6 z7 f5 f6 f7 y0 y1 y2 y3 y4 y5 y6 y7 hbxr hg9r hckr HPV HPT HHIT hBw hPi hPi2 hQi
          obtain ⟨A5, c5, vl5, b5, hv5, hcv5, hB5⟩ := hcut
          generalize wc = w5 at *
          have hbxr := bx.below hB5 hl2
          obtain ⟨y0, y1, y2, y3, y4, y5, y6, y7⟩ := hbxr.eight
          obtain ⟨sb, hsb⟩ : ∃ sb, (decide (T = fr) && (decide (0 < k) || s)) = sb := ⟨_, rfl⟩
          rw [hsb] at HSTS
          have HSB := Lib.hid hsb
          clear hsb
          go_upto_region 15 with (fail)
          go_cut [110] (fun s110 wx => s110 = .bool sb ∧ w5 = wx)
          case first =>
            by_cases hft : fr = T
            · have k1 : ((fr : Int) == (T : Int)) = true := by simp; omega
              by_cases hk0 : 0 < k
              · have k2 : decide ((0 : Int) < k) = true := by simp; omega
                have e : sb = true := by rw [← HSB.out]; simp [hft, hk0]
                subst e
                go_wp2_with fail
                go_meet
                exact ⟨rfl, rfl⟩
              · have k2 : decide ((0 : Int) < k) = false := by simp; omega
                have e : sb = s := by rw [← HSB.out]; simp [hft, hk0]
                subst e
                go_wp2_with fail
                go_meet
                exact ⟨rfl, rfl⟩
            · have k1 : ((fr : Int) == (T : Int)) = false := by simp; omega
              have e : sb = false := by rw [← HSB.out]; simp [Ne.symm hft]
              subst e
              go_wp2_with fail
              go_meet
              exact ⟨rfl, rfl⟩
          case rest =>
            obtain ⟨rfl, rfl⟩ := hcut
            have f5 := b5.frozen 5
            obtain ⟨z0, z1, z2, z3, z4, z5, z6, z7⟩ := b5.eight
            go_upto_if 110 with (fail)
            go_cut [] (fun wx => Blk wx g9 68 #[.int .i64 sn, .bool false, .bool true, .bool lst, .int .i64 fr, .bool st', .bool ee, .slice A5 qs'.length c5] ∧ wx.ownsRow (g9 + 1) 29 1 (.slice A5 qs'.length c5) qs'.length vl5 ∧ Below g9 w3 wx)
            case first =>
              cases sb with
              | false =>
                have e : st' = st := by rw [HSTS.out]; simp
                subst e
                go_wp2_with fail
                go_meet
                exact ⟨b5, hv5, hB5⟩
              | true =>
                have e : st' = true := by rw [HSTS.out]; simp
                subst e
                go_wp2_with fail
                go_meet
                have b6 := b5.set_ 5 (.bool true)
                simp at b6
                exact ⟨b6, own_store (i := 5) hv5 b5 (by decide) _, hB5.setCell (p := ⟨g9, 5, none⟩) (Nat.le_refl _) _⟩
            case rest =>
              obtain ⟨b6, hv6, hB6⟩ := hcut
              clear b5 hv5 hB5 hbxr y0 y1 y2 y3 y4 y5 y6 y7 z0 z1 z2 z3 z4 z5 z6 z7 f5
              generalize wc = w6 at *
              have hbxr := bx.below hB6 hl2
              obtain ⟨y0, y1, y2, y3, y4, y5, y6, y7⟩ := hbxr.eight
              obtain ⟨eb, heb⟩ : ∃ eb, (decide (T + p.length = till) && (decide (k + 1 < n) || e)) = eb := ⟨_, rfl⟩
              rw [heb] at HENS
              have HEB := Lib.hid heb
              clear heb
              obtain ⟨T1, hT1⟩ : ∃ T1, T + p.length = T1 := ⟨_, rfl⟩
              have hT1i : (T : Int) + (p.length : Int) = (T1 : Int) := by omega
              rw [hT1] at HEB HSK
              have hT17 : T1 ≤ 70000 := by omega
              clear hT1
              go_upto_region 18 with (fail)
              go_cut [133] (fun s133 wx => s133 = .bool eb ∧ w6 = wx)
              case first =>
                by_cases hft : till = T1
                · have k1 : ((till : Int) == (T1 : Int)) = true := by simp; omega
                  by_cases hk0 : k + 1 < n
                  · have k2 : decide ((k : Int) + 1 < n) = true := by simp; omega
                    have e2 : eb = true := by rw [← HEB.out]; simp [hft, hk0]
                    subst e2
                    go_wp2_with fail
                    go_meet
                    exact ⟨rfl, rfl⟩
                  · have k2 : decide ((k : Int) + 1 < n) = false := by simp; omega
                    have e2 : eb = e := by rw [← HEB.out]; simp [hft, hk0]
                    subst e2
                    go_wp2_with fail
                    go_meet
                    exact ⟨rfl, rfl⟩
                · have k1 : ((till : Int) == (T1 : Int)) = false := by simp; omega
                  have e2 : eb = false := by rw [← HEB.out]; simp [Ne.symm hft]
                  subst e2
                  go_wp2_with fail
                  go_meet
                  exact ⟨rfl, rfl⟩
              case rest =>
                obtain ⟨rfl, rfl⟩ := hcut
                have f6 := b6.frozen 6
                obtain ⟨z0, z1, z2, z3, z4, z5, z6, z7⟩ := b6.eight
                cases eb with
                | false =>
                  have e2 : ee' = ee := by rw [HENS.out]; simp
                  subst e2
                  go_wp2_with fail
                  go_roundw
                  case rel => exact ⟨k + 1, A5, c5, vl5, by omega, by go_num, by rw [G4.out, HSK.out], by rw [G1.out, G2.out, G3.out]; exact b6, by rw [G1.out]; exact hv6, by rw [G1.out]; exact hcv5, hB6⟩
                  case measure => simp [intOf]; omega
                | true =>
                  have e2 : ee' = true := by rw [HENS.out]; simp
                  subst e2
                  have b7 := b6.set_ 6 (.bool true)
                  simp at b7
                  go_wp2_with fail
                  go_roundw
                  case rel => exact ⟨k + 1, A5, c5, vl5, by omega, by go_num, by rw [G4.out, HSK.out], by rw [G1.out, G2.out, G3.out]; exact b7, by rw [G1.out]; exact own_store (i := 6) hv6 b6 (by decide) _, by rw [G1.out]; exact hcv5, hB6.setCell (p := ⟨g9, 6, none⟩) (Nat.le_refl _) _⟩
                  case measure => simp [intOf]; omega
      · obtain rfl : k = n := by omega
        have brr := br.below hBr hl3
        obtain ⟨q0, q1, q2, q3, q4, q5, q6, q7⟩ := brr.eight
        obtain ⟨z0, z1, z2, z3, z4, z5, z6, z7⟩ := bo.eight
        have f0 := brr.frozen 0
        have f1 := brr.frozen 1
        have f2 := brr.frozen 2
        have f3 := brr.frozen 3
        have f4 := brr.frozen 4
        have f5 := brr.frozen 5
        have f6 := brr.frozen 6
        have f7 := brr.frozen 7
        have hlr := brr.lt
        have hgr := bo.lt
        have hlen2 := (own_sl' hvo).len
        generalize cutParts ps off fr till k = qs at *
        generalize cutStarts ps s off fr k = st at *
        generalize cutEnds ps e off till k = ee at *
        have hw8 := own_put8 hvo brr (by decide) (.int .i64 sn) (.bool false) (.bool true) (.bool lst) (.int .i64 fr) (.bool st) (.bool ee) (.slice Ao qs.length co)
        have hB8 := below_put8 hBw (show w.heap.size ≤ w.heap.size + 1 by omega) (.int .i64 sn) (.bool false) (.bool true) (.bool lst) (.int .i64 fr) (.bool st) (.bool ee) (.slice Ao qs.length co)
        have hb8 := brr.put8 (.int .i64 sn) (.bool false) (.bool true) (.bool lst) (.int .i64 fr) (.bool st) (.bool ee) (.slice Ao qs.length co)
        have HW8 := Lib.hid hw8
        have HB8 := Lib.hid hB8
        have HK8 := Lib.hid hb8
        clear hw8 hB8 hb8 hlen2
        go_wp2
        obtain ⟨r0, r1, r2, r3, r4, r5, r6, r7⟩ := HK8.out.eight
        refine bodyPost_ret (v := .tuple #[.agg (apdu sn false true lst fr st ee Ao qs.length co), .int .i64 0]) (by simp [results, Try.results45, go_sem, apdu, r0, r1, r2, r3, r4, r5, r6, r7]) rfl ⟨HB8.out, Ao, co, vl, by rw [HLS.out], ⟨own_sl' HW8.out, rfl, fun i q hi => ?_⟩⟩
        obtain ⟨A', c', h1', h2'⟩ := hcv i q hi
        exact ⟨A', c', h1', (h2'.below HB8.out).more HB8.out.size⟩
end Go.Proofs.Ytchlbpfeiamieaa
