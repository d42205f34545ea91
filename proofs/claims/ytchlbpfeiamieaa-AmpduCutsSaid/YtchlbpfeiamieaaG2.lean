/- law33: part. -/
import Derived.Test.YtchlbpfeiamieaaGa
import Derived.Test.YtchlbpfeiamieaaYa
import Derived.Test.YtchlbpfeiamieaaFa
import Derived.Lib.ConvBytes
import Derived.Deep.DeepCutAuto
import Derived.Deep.CutBlock
namespace Go.Proofs.Ytchlbpfeiamieaa
open Go.RowKit Go.Shelf
attribute [local go_sem] Oper.semAt_some

/-- strings as values -/
def strs (ps : List (List UInt8)) : List Value := ps.map fun p => .string ⟨p.toArray⟩
/-- a chunk of new parts -/
def PartIs (w : World) (s e : Bool) (ps : List (List UInt8)) (en : Ending) (w' : World) : Prop :=
  Below w.heap.size w w' ∧ ∃ A c vs, en = .returned (.agg #[.bool s, .bool e, .slice A ps.length c]) ∧ Sls w' w'.heap.size A ps.length c vs ps

theorem bytes_below (w : World) (s : ByteArray) : Below w.heap.size w (Lib.bytesWorld w 5 s) :=
  ⟨rfl, rfl, rfl, by rw [Lib.bytesWorld_size]; omega, fun k hk => Lib.bytesWorld_at_old w 5 s k hk⟩
/-- a row of bytes that begins with p -/
def BytesAt (w : World) (A : Option Addr) (c : Nat) (p : List UInt8) : Prop :=
  ∃ (g : Nat) (cs : Array Value) (fr : Nat × Nat), A = some ⟨g, 0, none⟩ ∧ w.heap[g]? = some (.cells cs 5 fr) ∧ (∀ (j : Nat) (u : Value), (bvs p)[j]? = some u → cs.toList[j]? = some u) ∧ p.length ≤ c ∧ c ≤ 9223372036854775807
theorem BytesAt.sl {w : World} {A : Option Addr} {c : Nat} {p : List UInt8} (h : BytesAt w A c p) : Sl w w.heap.size A p.length c (bvs p) := by
  obtain ⟨g, cs, fr, rfl, hh, hc, h1, h2⟩ := h
  exact ⟨by simp, h1, h2, fun _ => ⟨_, rfl, lt_of_heap hh, fun j u hu => World.news_of_block hh j u (hc j u hu)⟩⟩
theorem BytesAt.block {w w' : World} {A : Option Addr} {c : Nat} {p : List UInt8} (h : BytesAt w A c p) (hk : ∀ (k : Nat) (cs : Array Value) (fr : Nat × Nat), w.heap[k]? = some (.cells cs 5 fr) → w'.heap[k]? = w.heap[k]?) : BytesAt w' A c p := by
  obtain ⟨g, cs, fr, rfl, hh, hc⟩ := h
  exact ⟨g, cs, fr, rfl, (hk g cs fr hh).trans hh, hc⟩
theorem BytesAt.below {w w' : World} {A : Option Addr} {c : Nat} {p : List UInt8} (h : BytesAt w A c p) (hb : Below w.heap.size w w') : BytesAt w' A c p :=
  h.block (fun k _ _ hh => hb.block k (lt_of_heap hh))
theorem BytesAt.alloc {w : World} {A : Option Addr} {c : Nat} {p : List UInt8} (h : BytesAt w A c p) (o : Obj) : BytesAt (w.alloc o) A c p := h.below ((Below.refl _ w).alloc (Nat.le_refl _) o)
theorem BytesAt.grown {w w' : World} {A : Option Addr} {c n base : Nat} {p : List UInt8} {v : Value} {xs : List Value} (h : BytesAt w A c p) (hg : w.grownBy w' v.ownBlock) (ho : w.ownsRow base 29 1 v n xs) : BytesAt w' A c p :=
  h.block (fun k cs fr hh => hg.block k (lt_of_heap hh) (fun e => by
    obtain ⟨o2, ho2, ⟨cs2, fr2, rfl⟩, _⟩ := own_isRow ho e.symm
    rw [hh] at ho2
    cases ho2))
theorem BytesAt.set {w : World} {A : Option Addr} {c g i t : Nat} {cs : Array Value} {p : List UInt8} (h : BytesAt w A c p) (hb : Blk w g t cs) (ht : t ≠ 5) (u : Value) : BytesAt (w.setCell ⟨g, i, none⟩ u) A c p :=
  h.block (fun k cs' fr hh => Below.heap_setCell w _ _ k (fun e => by
    have e' : k = g := e
    subst e'
    rw [show w.heap[k]? = _ from hb] at hh
    cases hh
    exact ht rfl))
theorem BytesAt.new (w : World) (p : List UInt8) (hp : p.length ≤ 1000000) : BytesAt (Lib.bytesWorld w 5 ⟨p.toArray⟩) (some ⟨w.heap.size, 0, none⟩) (grownCap w p.length 0 5) p := by
  refine ⟨w.heap.size, _, _, rfl, Lib.bytesWorld_at_new w 5 _, fun j u hu => ?_, grownCap_ge _ _ _ _, Nat.le_trans (grownCap_le_maxLen _ _ _ _ (by unfold maxLen; omega)) (by unfold maxLen; omega)⟩
  unfold bvs at hu
  rw [List.getElem?_map] at hu
  unfold Lib.bytesCells
  simp only [Array.toList_append, Array.toList_map]
  rw [List.getElem?_append_left, List.getElem?_map]
  · exact hu
  · have := (List.getElem?_eq_some_iff.1 (Option.map_eq_some_iff.1 hu).choose_spec.1).1
    simpa using this

set_option maxRecDepth 100000 in
set_option maxHeartbeats 4000000 in
theorem part_any (s e : Bool) (A : Option Addr) (n c : Nat) (ps : List (List UInt8)) (w : World) (h : Sl w w.heap.size A n c (strs ps)) (hn : n ≤ 1000) (hle : ∀ p ∈ ps, p.length ≤ 1000) :
    Calls Try.prog 113 #[.bool s, .bool e, .slice A n c] w (PartIs w s e ps) := by
  obtain ⟨j0, hj0, hm0, hm1, hm2⟩ := info_parts sl_info
  have hlen : ps.length = n := by simpa [strs] using h.len
  have HLEN := Lib.hid hlen
  have HLE := Lib.hid hle
  clear hlen hle
  go_enter Try.func113, Try.ntmps113
  go_wp2
  have br0 := (Blk.new w 24 #[.bool false, .bool false, .slice none 0 0]).alloc (.cells #[.bool s, .bool e, .slice none 0 0] 24)
  have bc0 := Blk.new (w.alloc (.cells #[.bool false, .bool false, .slice none 0 0] 24)) 24 #[.bool s, .bool e, .slice none 0 0]
  have hB0 := ((Below.refl w.heap.size w).alloc (Nat.le_refl _) (.cells #[.bool false, .bool false, .slice none 0 0] 24)).alloc (by simp) (.cells #[.bool s, .bool e, .slice none 0 0] 24)
  have hsz0 : w.heap.size + 2 ≤ ((w.alloc (.cells #[.bool false, .bool false, .slice none 0 0] 24)).alloc (.cells #[.bool s, .bool e, .slice none 0 0] 24)).heap.size := by simp
  rw [World.size_alloc] at bc0
  generalize (w.alloc (.cells #[.bool false, .bool false, .slice none 0 0] 24)).alloc (.cells #[.bool s, .bool e, .slice none 0 0] 24) = w0 at *
  go_loopw [8] (fun i wr => ∃ (k : Nat) (vo : Value) (vals : List Value), k ≤ n ∧ i = .int .i64 k ∧ Blk wr (w.heap.size + 1) 24 #[.bool s, .bool e, vo] ∧ Blk wr w.heap.size 24 #[.bool false, .bool false, .slice none 0 0] ∧ wr.ownsRow w.heap.size 29 1 vo k vals ∧
      (∀ (i : Nat) (p : List UInt8), (ps.take k)[i]? = some p → ∃ A c, vals[i]? = some (.slice A p.length c) ∧ BytesAt wr A c p) ∧ Below w.heap.size w wr ∧ w.heap.size + 2 ≤ wr.heap.size) (fun i _ => n - (intOf i).toNat)
  case atStart => exact ⟨0, _, [], Nat.zero_le _, rfl, bc0, br0, World.ownsRow_nil _ _ _ _, fun i p hi => by simp at hi, hB0, hsz0⟩
  case round =>
    clear br0 bc0 hB0 hsz0
    obtain ⟨k, vo, vals, hk, rfl, bc, br, hvo, hvals, hB, hsz⟩ := hrel
    by_cases hlt : k < n
    · obtain ⟨ad, u, rfl, _, hu, hcu⟩ := (h.below hB).get hlt
      obtain ⟨p, hp⟩ : ∃ p, ps[k]? = some p := ⟨_, List.getElem?_eq_getElem (by rw [HLEN.out]; exact hlt)⟩
      have hu' : u = .string ⟨p.toArray⟩ := by
        unfold strs at hu
        rw [List.getElem?_map, hp] at hu
        simpa using hu.symm
      subst hu'
      have hpl := HLE.out p (List.mem_of_getElem? hp)
      have HP := Lib.hid hp
      clear hp hu
      obtain ⟨Ao, co, rfl, hso, _⟩ := own_sl hvo
      have c2 := bc.cell 2
      have f2 := bc.frozen 2
      simp at c2
      have c2' : wr.drew.cell? ⟨w.heap.size + 1, 2, none⟩ = some (.slice Ao k co) := c2
      have hnew := BytesAt.new wr.drew p (by omega)
      have hbb := bytes_below wr.drew ⟨p.toArray⟩
      have hb1 : Below w.heap.size w (Lib.bytesWorld wr.drew 5 ⟨p.toArray⟩) := hB.drew.trans (hbb.mono hB.size)
      have c2b := (hbb.cell (p := ⟨w.heap.size + 1, 2, none⟩) bc.lt).trans c2
      have hs1 : (⟨p.toArray⟩ : ByteArray).size = p.length := by simp [ByteArray.size]
      have kc := fun (W : World) => Lib.run_convert_string_bytes (P := Try.prog) W 9 29 5 ⟨p.toArray⟩ (u := .string) (by kernel_rfl) und29 und5
      rw [hs1] at kc
      generalize hba : (⟨p.toArray⟩ : ByteArray) = ba at *
      clear hs1 hba
      have hov := (own_below hvo.drew' hbb (Nat.le_refl _)).alloc (.cells #[.slice (some ⟨wr.heap.size, 0, none⟩) p.length (grownCap wr.drew p.length 0 5)] 29)
      have bcb := (bc.drew.below hbb bc.lt).alloc (.cells #[.slice (some ⟨wr.heap.size, 0, none⟩) p.length (grownCap wr.drew p.length 0 5)] 29)
      have brb := (br.drew.below hbb br.lt).alloc (.cells #[.slice (some ⟨wr.heap.size, 0, none⟩) p.length (grownCap wr.drew p.length 0 5)] 29)
      have hb2 := hb1.alloc hb1.size (.cells #[.slice (some ⟨wr.heap.size, 0, none⟩) p.length (grownCap wr.drew p.length 0 5)] 29)
      have hszb : w.heap.size ≤ ((Lib.bytesWorld wr.drew 5 ba).alloc (.cells #[.slice (some ⟨wr.heap.size, 0, none⟩) p.length (grownCap wr.drew p.length 0 5)] 29)).heap.size := hb2.size
      have hszc : wr.heap.size ≤ (Lib.bytesWorld wr.drew 5 ba).heap.size := hbb.size
      have c2c := bcb.cell 2
      simp at c2c
      go_upto_block 1 with (fail)
      go_cut [] (fun wx => ∃ (A5 : Option Addr) (c5 : Nat) (vals5 : List Value), Blk wx (w.heap.size + 1) 24 #[.bool s, .bool e, .slice A5 (k + 1) c5] ∧ Blk wx w.heap.size 24 #[.bool false, .bool false, .slice none 0 0] ∧ wx.ownsRow w.heap.size 29 1 (.slice A5 (k + 1) c5) (k + 1) vals5 ∧
        (∀ (i : Nat) (p : List UInt8), (ps.take (k + 1))[i]? = some p → ∃ A c, vals5[i]? = some (.slice A p.length c) ∧ BytesAt wx A c p) ∧ Below w.heap.size w wx ∧ w.heap.size + 2 ≤ wx.heap.size)
      case first =>
        go_wp2
        go_region_law ((refine step_append_sl _ (by rfl) _ _ 22 (by rfl) w.heap.size 29 j0 (.slice none 0 0) 24 und22 hj0 hm0 hm1 hm2 rfl (.slice Ao k co) k vals (by rfl) hov ((Lib.bytesWorld wr.drew 5 ba).alloc (.cells #[.slice (some ⟨wr.heap.size, 0, none⟩) p.length (grownCap wr.drew p.length 0 5)] 29)).heap.size (some ⟨(Lib.bytesWorld wr.drew 5 ba).heap.size, 0, none⟩) 1 1 [.slice (some ⟨wr.heap.size, 0, none⟩) p.length (grownCap wr.drew p.length 0 5)] (by rfl) (sl_lit (xs := [.slice (some ⟨wr.heap.size, 0, none⟩) p.length (grownCap wr.drew p.length 0 5)]) (heap_new (Lib.bytesWorld wr.drew 5 ba) _) rfl (by simp)) (by simp [Value.oneCell']) (by unfold maxLen; omega) (by omega) hszb ?_; intro v5 w5 hown5 hgrow5 _; obtain ⟨A5, c5, rfl, hs5, _⟩ := own_sl hown5; have hG5 := bcb.grown hgrow5 (fun e => own_blk_ne hov bcb (by decide) e.symm); have q2 := hG5.cell 2; have q3 := hG5.frozen 2; simp at q2))
        all_goals
          go_wp2_with fail
          go_meet
          have hR5 := brb.grown hgrow5 (fun e => own_blk_ne hov brb (by decide) e.symm)
          refine ⟨A5, c5, vals ++ [.slice (some ⟨wr.heap.size, 0, none⟩) p.length (grownCap wr.drew p.length 0 5)], by simpa using hG5.set_ 2 (.slice A5 (k + 1) c5), hR5.far (by simp) _, own_store (i := 2) hown5 hG5 (by decide) _, fun i q hi => ?_,
            (hb2.grown hgrow5 (by omega) (fun j hj => (hov.lt j hj).1)).setCell (p := ⟨w.heap.size + 1, 2, none⟩) (by simp) _, ?_⟩
          · have hvl : vals.length = k := (own_sl' hov).len
            have hpt : ps.take (k + 1) = ps.take k ++ [p] := by rw [List.take_add_one, HP.out]; rfl
            have hpk : (ps.take k).length = k := by rw [List.length_take, HLEN.out]; omega
            rw [hpt] at hi
            by_cases hik : i < k
            · rw [List.getElem?_append_left (by omega)] at hi
              obtain ⟨A1, c1, e1, hb⟩ := hvals i q hi
              refine ⟨A1, c1, by rw [List.getElem?_append_left (by omega)]; exact e1, ?_⟩
              exact ((((hb.block (w' := wr.drew) (fun _ _ _ _ => rfl)).below hbb).alloc _).grown hgrow5 hov).set hG5 (by decide) _
            · have hik2 : i = k := by
                have := (List.getElem?_eq_some_iff.1 hi).1
                simp [hpk] at this
                omega
              subst hik2
              rw [List.getElem?_append_right (by omega), hpk] at hi
              simp at hi
              subst hi
              refine ⟨some ⟨wr.heap.size, 0, none⟩, grownCap wr.drew p.length 0 5, by rw [List.getElem?_append_right (by omega), hvl]; simp, ?_⟩
              exact ((hnew.alloc _).grown hgrow5 hov).set hG5 (by decide) _
          · have := hgrow5.size
            simp at this ⊢
            omega
      case rest =>
        obtain ⟨A5, c5, vals5, bc5, br5, hvo5, hvals5, hB5, hsz5⟩ := hcut
        clear kc
        go_wp2
        go_roundw
        case rel => exact ⟨k + 1, _, vals5, by omega, by go_num, bc5, br5, hvo5, hvals5, hB5, hsz5⟩
        case measure => simp [intOf]; omega
    · obtain rfl : k = n := by omega
      obtain ⟨Ao, co, rfl, hso, _⟩ := own_sl hvo
      have c0 := bc.cell 0
      have c1 := bc.cell 1
      have c2 := bc.cell 2
      have g0 := br.cell 0
      have g1 := br.cell 1
      have g2 := br.cell 2
      have f0 := br.frozen 0
      have f1 := br.frozen 1
      have f2 := br.frozen 2
      simp at c0 c1 c2 g0 g1 g2
      go_wp2
      have br6 := br.put3 (.bool s) (.bool e) (.slice Ao k co)
      have q0 := br6.cell 0
      have q1 := br6.cell 1
      have q2 := br6.cell 2
      simp at q0 q1 q2
      have hps : ps.take k = ps := List.take_of_length_le (by rw [HLEN.out]; exact Nat.le_refl _)
      rw [hps] at hvals
      have hvo6 := own_store (i := 2) (own_store (i := 1) (own_store (i := 0) hvo br (by decide) (.bool s)) (br.set_ 0 (.bool s)) (by decide) (.bool e)) ((br.set_ 0 (.bool s)).set_ 1 (.bool e)) (by decide) (.slice Ao k co)
      have hB6 := ((hB.setCell (p := ⟨w.heap.size, 0, none⟩) (by simp) (.bool s)).setCell (p := ⟨w.heap.size, 1, none⟩) (by simp) (.bool e)).setCell (p := ⟨w.heap.size, 2, none⟩) (by simp) (.slice Ao k co)
      have hpl := HLEN.out
      refine ⟨rfl, .agg #[.bool s, .bool e, .slice Ao k co], by simp [results, Try.results113, go_sem, q0, q1, q2], hB6, Ao, co, vals, by rw [hpl], ?_⟩
      have hs6 := own_sl' hvo6
      refine ⟨by rw [hpl]; exact hs6, rfl, fun i q hi => ?_⟩
      obtain ⟨A1, c1, e1, hb⟩ := hvals i q hi
      exact ⟨A1, c1, e1, (((hb.set (i := 0) br (by decide) (.bool s)).set (i := 1) (br.set_ 0 (.bool s)) (by decide) (.bool e)).set (i := 2) ((br.set_ 0 (.bool s)).set_ 1 (.bool e)) (by decide) (.slice Ao k co)).sl⟩
end Go.Proofs.Ytchlbpfeiamieaa
