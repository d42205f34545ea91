/- amsend: the transmitter's memory. amsend: check, held, next, place, pending, idle. amsend: writes to the transmitter's memory. amsend: what a call leaves of the transmitter's memory. amsend: goes, must, idle, pends, repeats, expires. amsend: pends, repeats, expires. amsend: repeats, expires. amsend: an error is raised and recovered; Tick. amsend: Tick. amsend: rows that grow: what stays. -/
import Derived.Test.YtmiipkaobloedaaGreatZa
import Derived.Test.YtmiipkaobloedaaGreatZl
import Derived.Test.YtmiipkaobloedaaGreatZn
import Derived.Deep.RegionHeld3
import Derived.BigRegion
namespace Go.Proofs.YtmiipkaobloedaaGreat
open Go.RowKit

/-- a slice's block -/
def inF (F D : Nat → Prop) (A : Option Addr) : Prop := ∀ ad, A = some ad → F ad.block ∧ ¬ D ad.block
/-- the block of a value that is a slice -/
def sOf : Value → Option Addr
  | .slice A _ _ => A
  | _ => none
section
variable {w w' : World} {B n c : Nat} {A : Option Addr} {xs vs : List Value} {ps : List (List UInt8)}
theorem cell_same {p : Addr} (h : w'.heap[p.block]? = w.heap[p.block]?) : w'.cell? p = w.cell? p := World.cell?_of_block h
/-- a slice whose block stays -/
theorem Sl.stay (h : Sl w w.heap.size A n c xs) (hk : ∀ ad, A = some ad → w'.heap[ad.block]? = w.heap[ad.block]?) : Sl w' w'.heap.size A n c xs :=
  ⟨h.len, h.cap, h.mx, fun hn => by
    obtain ⟨ad, e, hb, hc⟩ := h.at_ hn
    have hs := hk ad e
    refine ⟨ad, e, ?_, fun j u hu => (World.cell?_of_block (by rw [block_add]; exact hs)).trans (hc j u hu)⟩
    have : w.heap[ad.block]? = some w.heap[ad.block] := Array.getElem?_eq_getElem hb
    rw [this] at hs
    exact lt_of_heap hs⟩
theorem Sls.stay (h : Sls w w.heap.size A n c vs ps) (hk : ∀ ad, A = some ad → w'.heap[ad.block]? = w.heap[ad.block]?) (hv : ∀ (i : Nat) v ad, vs[i]? = some v → sOf v = some ad → w'.heap[ad.block]? = w.heap[ad.block]?) : Sls w' w'.heap.size A n c vs ps := by
  refine ⟨h.sl.stay hk, h.len, fun i p hi => ?_⟩
  obtain ⟨A', c', e, hs⟩ := h.each i p hi
  exact ⟨A', c', e, hs.stay fun ad ea => hv i _ ad e (by rw [ea]; rfl)⟩
end
/-- cells of a transmitter -/
def sndC (c : Cf) (vq vo : Value) (st : Sd) : Array Value :=
  #[.int .i64 c.pdu, .int .i64 c.byte, .int .i64 c.timer, .int .i64 c.reorder, .int .i64 c.prohibit, .int .i64 c.retx, .int .i64 c.cap, vq, .int .i64 (st.done : Nat), .int .i64 (st.front : Nat), .int .i64 (st.taken : Nat), .int .i64 (st.first : Nat), vo, .int .i64 (st.pdus : Nat), .int .i64 (st.bytes : Nat), .int .i64 (st.polled : Nat), .bool st.wait, .int .i64 st.expiry, .bool st.owed, .bool st.failed, .int .i64 st.now]
/-- cells of an outstanding PDU -/
def ouC (x : Ou) (vp vr : Value) : Array Value :=
  #[.int .i64 (x.sn : Nat), .bool false, .bool false, .bool false, .int .i64 0, .bool x.s, .bool x.e, vp, .int .i64 (sizeO x : Nat), .bool x.acked, vr, .int .i64 (x.retx : Nat)]
/-- a row of ranges -/
structure SpAt (w : World) (A : Option Addr) (n c : Nat) (l : List (Nat × Nat)) : Prop where
  len : l.length = n
  cap : n ≤ c
  mx : c ≤ 9223372036854775807
  at_ : 0 < n → ∃ ad, A = some ad ∧ ad.block < w.heap.size ∧ ∀ j r, l[j]? = some r → w.cell? (ad.add (j * 2)) = some (.int .i64 (r.1 : Nat)) ∧ w.cell? (ad.add (j * 2 + 1)) = some (.int .i64 (r.2 : Nat))
theorem SpAt.stay {w w' : World} {A : Option Addr} {n c : Nat} {l : List (Nat × Nat)} (h : SpAt w A n c l) (hk : ∀ ad, A = some ad → w'.heap[ad.block]? = w.heap[ad.block]?) : SpAt w' A n c l :=
  ⟨h.len, h.cap, h.mx, fun hn => by
    obtain ⟨ad, e, hb, hc⟩ := h.at_ hn
    have hs := hk ad e
    refine ⟨ad, e, ?_, fun j r hr => ⟨(World.cell?_of_block (by rw [block_add]; exact hs)).trans (hc j r hr).1, (World.cell?_of_block (by rw [block_add]; exact hs)).trans (hc j r hr).2⟩⟩
    have : w.heap[ad.block]? = some w.heap[ad.block] := Array.getElem?_eq_getElem hb
    rw [this] at hs
    exact lt_of_heap hs⟩
theorem SpAt.nil (w : World) : SpAt w none 0 0 [] := ⟨rfl, Nat.le_refl _, by omega, fun h => absurd h (by omega)⟩
/-- an outstanding PDU in memory: its cells are at block p -/
structure OuAt (w : World) (D F : Nat → Prop) (p : Nat) (x : Ou) (Ap : Option Addr) (cp : Nat) (vp : List Value) (Ar : Option Addr) (cr : Nat) : Prop where
  blk : Blk w p 82 (ouC x (.slice Ap x.ps.length cp) (.slice Ar x.pend.length cr))
  d : D p
  f : F p
  ps : Sls w w.heap.size Ap x.ps.length cp vp x.ps
  pf : inF F D Ap
  pe : ∀ (i : Nat) v, vp[i]? = some v → inF F D (sOf v)
  rs : SpAt w Ar x.pend.length cr x.pend
  rf : inF F D Ar
/-- a transmitter in memory: D: the blocks that its calls write; F: those that it reads -/
structure AmS (w : World) (D F : Nat → Prop) (g : Nat) (c : Cf) (st : Sd) (vq : Value) (vs : List Value) (vo : Value) (os : List Value) : Prop where
  blk : Blk w g 54 (sndC c vq vo st)
  gd : D g
  sub : ∀ k, D k → F k
  lt : ∀ k, F k → k < w.heap.size
  qr : OwnQ w 0 31 vq st.queue.length vs
  qd : ∀ k, qBlock vq = some k → D k
  qe : ∀ (i : Nat) (p : List UInt8), st.queue[i]? = some p → ∃ A cc, vs[i]? = some (.slice A p.length cc) ∧ Sl w w.heap.size A p.length cc (bvs p) ∧ inF F D A
  or_ : OwnQ w 0 75 vo st.out.length os
  od : ∀ k, qBlock vo = some k → D k
  oe : ∀ (i : Nat) (x : Ou), st.out[i]? = some x → ∃ p Ap cp vp Ar cr, os[i]? = some (.pointer (some ⟨p, 0, none⟩)) ∧ OuAt w D F p x Ap cp vp Ar cr
  inj : ∀ (i j : Nat) v, os[i]? = some v → os[j]? = some v → i = j
/-- the sets grow by fresh blocks alone -/
def Grows (w : World) (D D' : Nat → Prop) : Prop := ∀ k, D' k → D k ∨ w.heap.size ≤ k
theorem Grows.refl (w : World) (D : Nat → Prop) : Grows w D D := fun _ h => .inl h
theorem Grows.trans {w w' : World} {D D' D'' : Nat → Prop} (h : Grows w D D') (h' : Grows w' D' D'') (hs : w.heap.size ≤ w'.heap.size) : Grows w D D'' := fun k hk => by
  rcases h' k hk with e | e
  · exact h k e
  · exact .inr (by omega)
section
variable {w w' : World} {D F : Nat → Prop} {g : Nat} {c : Cf} {st : Sd} {vq vo : Value} {vs os : List Value}
theorem OuAt.stay {p : Nat} {x : Ou} {Ap Ar : Option Addr} {cp cr : Nat} {vp : List Value} (h : OuAt w D F p x Ap cp vp Ar cr) (hk : ∀ k, F k → w'.heap[k]? = w.heap[k]?) : OuAt w' D F p x Ap cp vp Ar cr :=
  ⟨(hk p h.f).trans h.blk, h.d, h.f, h.ps.stay (fun ad e => hk _ (h.pf ad e).1) (fun i v ad hv e => hk _ (h.pe i v hv ad e).1), h.pf, h.pe, h.rs.stay (fun ad e => hk _ (h.rf ad e).1), h.rf⟩
/-- nothing that the transmitter reads turns -/
theorem AmS.stay (h : AmS w D F g c st vq vs vo os) (hk : ∀ k, F k → w'.heap[k]? = w.heap[k]?) : AmS w' D F g c st vq vs vo os := by
  have hlt : ∀ k, F k → k < w'.heap.size := fun k hf => by
    have h1 := h.lt k hf
    have h2 := hk k hf
    rw [Array.getElem?_eq_getElem h1] at h2
    exact lt_of_heap h2
  exact ⟨(hk g (h.sub g h.gd)).trans h.blk, h.gd, h.sub, hlt, h.qr.keep fun k e => hk k (h.sub k (h.qd k e)), h.qd,
    fun i p hi => let ⟨A, cc, e, hs, hf⟩ := h.qe i p hi; ⟨A, cc, e, hs.stay fun ad ea => hk _ (hf ad ea).1, hf⟩,
    h.or_.keep fun k e => hk k (h.sub k (h.od k e)), h.od,
    fun i x hi => let ⟨p, Ap, cp, vp, Ar, cr, e, ho⟩ := h.oe i x hi; ⟨p, Ap, cp, vp, Ar, cr, e, ho.stay hk⟩, h.inj⟩
theorem AmS.below (h : AmS w D F g c st vq vs vo os) (hb : Below w.heap.size w w') : AmS w' D F g c st vq vs vo os := h.stay fun k hf => hb.block k (h.lt k hf)
theorem AmS.drewN (h : AmS w D F g c st vq vs vo os) (k : Nat) : AmS (w.drewN k) D F g c st vq vs vo os := h.below ((Below.refl _ w).drewN k)
theorem AmS.drew (h : AmS w D F g c st vq vs vo os) : AmS w.drew D F g c st vq vs vo os := h.below ((Below.refl _ w).drew)
theorem AmS.alloc (h : AmS w D F g c st vq vs vo os) (o : Obj) : AmS (w.alloc o) D F g c st vq vs vo os := h.below ((Below.refl _ w).alloc (Nat.le_refl _) o)
/-- what another writes -/
theorem AmS.far {M : Nat → Obj → Prop} (h : AmS w D F g c st vq vs vo os) (hk : Kept M w w') (hm : ∀ k o, M k o → ¬ F k) : AmS w' D F g c st vq vs vo os :=
  h.stay fun k hf => by
    have h1 := h.lt k hf
    have h2 : w.heap[k]? = some w.heap[k] := Array.getElem?_eq_getElem h1
    rw [h2]
    exact hk.same k _ h2 fun hM => hm k _ hM hf
/-- the cells -/
theorem AmS.cell (h : AmS w D F g c st vq vs vo os) (i : Nat) : w.cell? ⟨g, i, none⟩ = (sndC c vq vo st)[i]? := h.blk.cell i
end
end Go.Proofs.YtmiipkaobloedaaGreat
namespace Go.Proofs.YtmiipkaobloedaaGreat
open Go.RowKit Go.Shelf
attribute [local go_sem] Oper.semAt_some

theorem and1023 (n : Int) : bits .and .i64 n 1023 = n % 1024 := by
  have h127 : (BitVec.ofInt 64 1023).toNat = 2 ^ 10 - 1 := by decide
  have key : (BitVec.ofInt 64 n &&& BitVec.ofInt 64 1023).toNat = (n % ((2 ^ 64 : Nat) : Int)).toNat % 2 ^ 10 := by
    rw [BitVec.toNat_and, BitVec.toNat_ofInt, h127, Nat.and_two_pow_sub_one_eq_mod]
  show IntKind.i64.wrap ((BitVec.ofInt 64 n &&& BitVec.ofInt 64 1023).toNat : Nat) = n % 1024
  rw [key, IntKind.wrap_i64]
  omega
section
variable {D F : Nat → Prop} {g : Nat} {c : Cf} {st : Sd} {vq vo : Value} {vs os : List Value} {w : World}
theorem scheck_any (h : AmS w D F g c st vq vs vo os) (ht : 1 ≤ c.timer) :
    Calls Tryz.prog 25 #[.pointer (some ⟨g, 0, none⟩)] w fun e w' => e = .returned (.int .i64 (if st.failed = true then 8 else 0)) ∧ w = w' := by
  have x2 := h.blk.cell 2
  have x19 := h.blk.cell 19
  simp [sndC] at x2 x19
  have d0 : (c.timer == 0) = false := by simp; omega
  clear h
  cases hf : st.failed with
  | true =>
    rw [hf] at x19
    go_enter Tryz.func25, Tryz.ntmps25
    go_wp2
    go_ret
    exact ⟨rfl, rfl⟩
  | false =>
    rw [hf] at x19
    go_enter Tryz.func25, Tryz.ntmps25
    go_wp2
    go_ret
    exact ⟨rfl, rfl⟩
theorem AmS.sls (h : AmS w D F g c st vq vs vo os) : ∃ A cc, vq = .slice A st.queue.length cc ∧ Sls w w.heap.size A st.queue.length cc vs st.queue := by
  obtain ⟨A, cc, e, hs⟩ := h.qr.sl
  exact ⟨A, cc, e, hs, rfl, fun i p hi => let ⟨A', c', e', hs', _⟩ := h.qe i p hi; ⟨A', c', e', hs'⟩⟩
theorem AmS.osl (h : AmS w D F g c st vq vs vo os) : ∃ A cc, vo = .slice A st.out.length cc ∧ Sl w w.heap.size A st.out.length cc os := h.or_.sl
set_option maxHeartbeats 400000 in
theorem sheld_any (h : AmS w D F g c st vq vs vo os) (hsum : heldP st ≤ 1048576) :
    Calls Tryz.prog 26 #[.pointer (some ⟨g, 0, none⟩)] w fun e w' => e = .returned (.int .i64 (heldP st : Nat)) ∧ w = w' := by
  have x7 := h.blk.cell 7
  simp [sndC] at x7
  obtain ⟨A, cc, rfl, hs⟩ := h.sls
  have hcap := hs.sl.cap
  have hmx := hs.sl.mx
  have HS := Lib.hid hs
  unfold heldP at hsum ⊢
  have HSM := Lib.hid hsum
  clear h hs hsum
  go_enter Tryz.func26, Tryz.ntmps26
  go_wp2
  go_loop [2, 10] (fun s i => ∃ k : Nat, k ≤ st.queue.length ∧ i = .int .i64 k ∧ s = .int .i64 (sumLen (st.queue.take k) : Nat)) (fun _ i => st.queue.length - (intOf i).toNat)
  case atStart => exact ⟨0, Nat.zero_le _, rfl, rfl⟩
  case round =>
    obtain ⟨k, hk, rfl, rfl⟩ := hrel
    by_cases hlt : k < st.queue.length
    · obtain ⟨ad, Ai, ci, rfl, hb, hc, hsl⟩ := HS.out.get hlt
      have hs1 := sumLen_take st.queue k hlt
      have hle1 := Nat.le_trans (sumLen_take_le st.queue (k + 1)) HSM.out
      have hcap1 := hsl.cap
      have hmx1 := hsl.mx
      generalize st.queue[k]?.getD [] = p at *
      generalize sumLen (List.take k st.queue) = S at *
      have hle2 : S + p.length ≤ 1048576 := by omega
      have HS1 := Lib.hid hs1
      clear hs1 hle1 hsl
      go_wp2
      go_round
      case rel => exact ⟨k + 1, by omega, by go_num, by rw [HS1.out]; go_num⟩
      case measure => simp [intOf]; omega
    · have e : st.queue.take k = st.queue := List.take_of_length_le (by omega)
      rw [e]
      clear e
      go_wp2
      go_ret
      exact ⟨rfl, rfl⟩
theorem snext_any (h : AmS w D F g c st vq vs vo os) (h1 : st.first < 1024) (h2 : st.out.length ≤ 1000000) :
    Calls Tryz.prog 34 #[.pointer (some ⟨g, 0, none⟩)] w fun e w' => e = .returned (.int .i64 (nextP st : Nat)) ∧ Drew w w' := by
  have x11 := h.blk.cell 11
  have x12 := h.blk.cell 12
  simp [sndC] at x11 x12
  obtain ⟨A, cc, rfl, hs⟩ := h.osl
  have hcap := hs.cap
  have hmx := hs.mx
  have hand : bits BinOp.and IntKind.i64 ((st.first : Int) + (st.out.length : Int)) 1023 = ((nextP st : Nat) : Int) := by rw [and1023]; unfold nextP; omega
  have hsum : IntKind.i64.wrap ((st.first : Int) + (st.out.length : Int)) = (st.first : Int) + (st.out.length : Int) := IntWalk.i64_in _ (by omega)
  have HS := Lib.hid hsum
  have HA := Lib.hid hand
  clear h hs hsum hand
  go_enter Tryz.func34, Tryz.ntmps34
  go_wp2
  go_quiet (fail)
  go_wp2
  go_ret
  refine ⟨ret_int (by first | rw [HS.out, HA.out] | rw [HA.out]), ?_⟩
  exact ⟨_, rfl⟩
theorem splace_any (h : AmS w D F g c st vq vs vo os) (h1 : st.first < 1024) (sn : Int) (hs : 0 ≤ sn ∧ sn ≤ 1023) :
    Calls Tryz.prog 39 #[.pointer (some ⟨g, 0, none⟩), .int .i64 sn] w fun e w' => e = .returned (.int .i64 (placeI st sn)) ∧ w = w' := by
  have x11 := h.blk.cell 11
  simp [sndC] at x11
  have hand : bits BinOp.and IntKind.i64 (sn - (st.first : Int)) 1023 = placeI st sn := by rw [and1023]; rfl
  clear h
  go_enter Tryz.func39, Tryz.ntmps39
  go_wp2
  go_ret
  exact ⟨rfl, rfl⟩
/-- an outstanding PDU's pointer, and its cells -/
theorem AmS.ou (h : AmS w D F g c st vq vs vo os) {i : Nat} {x : Ou} (hx : st.out[i]? = some x) : ∃ p Ap cp vp Ar cr, os[i]? = some (.pointer (some ⟨p, 0, none⟩)) ∧ OuAt w D F p x Ap cp vp Ar cr := h.oe i x hx
theorem OuAt.cells {p : Nat} {x : Ou} {Ap Ar : Option Addr} {cp cr : Nat} {vp : List Value} (h : OuAt w D F p x Ap cp vp Ar cr) :
    w.cell? ⟨p, 0, none⟩ = some (.int .i64 (x.sn : Nat)) ∧ w.cell? ⟨p, 7, none⟩ = some (.slice Ap x.ps.length cp) ∧ w.cell? ⟨p, 8, none⟩ = some (.int .i64 (sizeO x : Nat)) ∧ w.cell? ⟨p, 9, none⟩ = some (.bool x.acked) ∧ w.cell? ⟨p, 10, none⟩ = some (.slice Ar x.pend.length cr) ∧ w.cell? ⟨p, 11, none⟩ = some (.int .i64 (x.retx : Nat)) :=
  ⟨h.blk.cell 0, h.blk.cell 7, h.blk.cell 8, h.blk.cell 9, h.blk.cell 10, h.blk.cell 11⟩
/-- an index as Go gives it -/
def ixI : Option Nat → Int
  | some i => (i : Int)
  | none => -1
theorem find_step {l : List Ou} {q : Ou → Bool} {k : Nat} {x : Ou} (hx : l[k]? = some x) (hall : ∀ (j : Nat) (y : Ou), j < k → l[j]? = some y → q y = false) (hq : q x = true) : l.findIdx? q = some k := by
  obtain ⟨hk, rfl⟩ := List.getElem?_eq_some_iff.1 hx
  exact List.findIdx?_eq_some_iff_getElem.2 ⟨hk, hq, fun j hj => by
    have := hall j l[j] hj (List.getElem?_eq_getElem (by omega))
    simp [this]⟩
theorem find_none {l : List Ou} {q : Ou → Bool} (hall : ∀ (j : Nat) (y : Ou), l[j]? = some y → q y = false) : l.findIdx? q = none := by
  rw [List.findIdx?_eq_none_iff]
  intro x hx
  obtain ⟨j, hj⟩ := List.mem_iff_getElem?.1 hx
  exact hall j x hj
set_option maxRecDepth 10000 in
set_option maxHeartbeats 1000000 in
theorem sindex_any (fid : Nat) (hfid : fid = 58 ∨ fid = 72) (q : Ou → Bool) (h : AmS w D F g c st vq vs vo os) (_hn : st.out.length ≤ 1000000)
    (hq : ∀ p x Ap cp vp Ar cr, OuAt w D F p x Ap cp vp Ar cr → Calls Tryz.prog fid #[.pointer (some ⟨p, 0, none⟩)] w fun e w' => e = .returned (.bool (q x)) ∧ w = w') :
    Calls Tryz.prog 57 #[vo, .func (.func fid) #[] #[]] w fun e w' => e = .returned (.int .i64 (ixI (st.out.findIdx? q))) ∧ w = w' := by
  obtain ⟨A, cc, rfl, hs⟩ := h.osl
  have hcap := hs.cap
  have hmx := hs.mx
  have HS := Lib.hid hs
  have HOE := Lib.hid h.oe
  have HQ := Lib.hid hq
  clear h hs hq
  rcases hfid with rfl | rfl
  all_goals
    go_enter Tryz.func57, Tryz.ntmps57
    go_wp2
    go_loop [8] (fun i => ∃ k : Nat, k ≤ st.out.length ∧ i = .int .i64 k ∧ ∀ j y, j < k → st.out[j]? = some y → q y = false) (fun i => st.out.length - (intOf i).toNat)
    case atStart => exact ⟨0, Nat.zero_le _, rfl, fun j y hj => by omega⟩
    case round =>
      obtain ⟨k, hk, rfl, hall⟩ := hrel
      have HA := Lib.hid hall
      clear hall
      by_cases hlt : k < st.out.length
      · have hx : st.out[k]? = some st.out[k] := List.getElem?_eq_getElem hlt
        generalize st.out[k] = x at *
        obtain ⟨p, Ap, cp, vp, Ar, cr, he, ho⟩ := HOE.out k x hx
        obtain ⟨ad, u, rfl, hb, hu, hc⟩ := HS.out.get hlt
        rw [he] at hu
        cases hu
        have hcl := HQ.out p x Ap cp vp Ar cr ho
        have HX := Lib.hid hx
        clear ho he hx
        cases hqx : q x with
        | false =>
          rw [hqx] at hcl
          have HQX := Lib.hid hqx
          have HCL := Lib.hid hcl
          clear hqx hcl
          go_wp2_with fail
          refine HCL.out.mono ?_
          rintro e1 w1 ⟨rfl, rfl⟩
          go_wp2
          go_round
          case rel =>
            refine ⟨k + 1, by omega, by go_num, fun j y hj hy => ?_⟩
            rcases Nat.lt_or_ge j k with h1 | h1
            · exact HA.out j y h1 hy
            · rw [show j = k by omega, HX.out] at hy
              cases hy
              exact HQX.out
          case measure => simp [intOf]; omega
        | true =>
          rw [hqx] at hcl
          have hf := find_step HX.out HA.out hqx
          have HF := Lib.hid hf
          have HCL := Lib.hid hcl
          clear hqx hcl hf
          go_wp2_with fail
          refine HCL.out.mono ?_
          rintro e1 w1 ⟨rfl, rfl⟩
          go_wp2
          go_ret
          exact ⟨by rw [HF.out]; rfl, rfl⟩
      · have hf : st.out.findIdx? q = none := find_none fun j y hy => HA.out j y (by have := (List.getElem?_eq_some_iff.1 hy).1; omega) hy
        have HF := Lib.hid hf
        clear hf
        go_wp2
        go_ret
        exact ⟨by rw [HF.out]; rfl, rfl⟩
theorem spend1_any {p : Nat} {x : Ou} {Ap Ar : Option Addr} {cp cr : Nat} {vp : List Value} (h : OuAt w D F p x Ap cp vp Ar cr) :
    Calls Tryz.prog 58 #[.pointer (some ⟨p, 0, none⟩)] w fun e w' => e = .returned (.bool (isPend x)) ∧ w = w' := by
  obtain ⟨x0, x7, x8, x9, x10, x11⟩ := h.cells
  have hcap := h.rs.cap
  have hmx := h.rs.mx
  have hfin : decide (0 < x.pend.length) = isPend x := by
    unfold isPend
    cases x.pend <;> simp
  have HF := Lib.hid hfin
  clear h hfin x0 x7 x8 x9 x11
  go_enter Tryz.func58, Tryz.ntmps58
  go_wp2
  go_ret
  exact ⟨ret_bool HF.out, rfl⟩
/-- the pointer that pending gives -/
def pendV (st : Sd) (os : List Value) : Value := match pendAt st.out with
  | some i => os[i]?.getD (.pointer none)
  | none => .pointer none
theorem spending_any (h : AmS w D F g c st vq vs vo os) (hn : st.out.length ≤ 1000000) :
    Calls Tryz.prog 31 #[.pointer (some ⟨g, 0, none⟩)] w fun e w' => e = .returned (pendV st os) ∧ w = w' := by
  have hix := sindex_any 58 (.inl rfl) isPend h hn fun p x Ap cp vp Ar cr ho => spend1_any ho
  have x12 := h.blk.cell 12
  simp [sndC] at x12
  have HIX := Lib.hid hix
  have HH := Lib.hid h
  clear hix
  obtain ⟨A, cc, rfl, hs⟩ := h.osl
  have hcap := hs.cap
  have hmx := hs.mx
  unfold pendV
  have hp : st.out.findIdx? isPend = pendAt st.out := rfl
  rw [hp] at HIX
  cases hpa : pendAt st.out with
  | none =>
    rw [hpa] at HIX
    clear h hs hp hpa
    go_enter Tryz.func31, Tryz.ntmps31
    go_wp2_with fail
    refine HIX.out.mono ?_
    rintro e1 w1 ⟨rfl, rfl⟩
    simp only [ixI]
    go_wp2
    go_ret
    exact ⟨rfl, rfl⟩
  | some i =>
    rw [hpa] at HIX
    obtain ⟨x, hx, _⟩ := pendAt_some hpa
    have hil := (List.getElem?_eq_some_iff.1 hx).1
    obtain ⟨ad, u, rfl, hb, hu, hc⟩ := hs.get hil
    have hg : os[i]?.getD (.pointer none) = u := by rw [hu]; rfl
    obtain ⟨p, Ap, cp, vp, Ar, cr, he, ho⟩ := h.oe i x hx
    rw [hu] at he
    cases he
    have HG := Lib.hid hg
    clear h hs hp hpa hx ho hu hg
    go_enter Tryz.func31, Tryz.ntmps31
    go_wp2_with fail
    refine HIX.out.mono ?_
    rintro e1 w1 ⟨rfl, rfl⟩
    simp only [ixI]
    go_wp2
    go_ret
    exact ⟨by simp only; rw [HG.out]; rfl, rfl⟩
end
end Go.Proofs.YtmiipkaobloedaaGreat
namespace Go.Proofs.YtmiipkaobloedaaGreat
open Go.RowKit

section
variable {D F F' : Nat → Prop} {g : Nat} {c : Cf} {st st' : Sd} {vq vo : Value} {vs os : List Value} {w w' : World}
theorem inF.mono {A : Option Addr} (h : inF F D A) (hf : ∀ k, F k → F' k) : inF F' D A := fun ad e => ⟨hf _ (h ad e).1, (h ad e).2⟩
theorem OuAt.moreF {p : Nat} {x : Ou} {Ap Ar : Option Addr} {cp cr : Nat} {vp : List Value} (h : OuAt w D F p x Ap cp vp Ar cr) (hf : ∀ k, F k → F' k) : OuAt w D F' p x Ap cp vp Ar cr :=
  ⟨h.blk, h.d, hf p h.f, h.ps, h.pf.mono hf, fun i v hv => (h.pe i v hv).mono hf, h.rs, h.rf.mono hf⟩
/-- more blocks are read -/
theorem AmS.moreF (h : AmS w D F g c st vq vs vo os) (hf : ∀ k, F k → F' k) (hl : ∀ k, F' k → k < w.heap.size) : AmS w D F' g c st vq vs vo os :=
  ⟨h.blk, h.gd, fun k hk => hf k (h.sub k hk), hl, h.qr, h.qd, fun i p hi => let ⟨A, cc, e, hs, hi'⟩ := h.qe i p hi; ⟨A, cc, e, hs, hi'.mono hf⟩, h.or_, h.od,
    fun i x hi => let ⟨p, Ap, cp, vp, Ar, cr, e, ho⟩ := h.oe i x hi; ⟨p, Ap, cp, vp, Ar, cr, e, ho.moreF hf⟩, h.inj⟩
theorem heap_far {p : Addr} {u : Value} {k : Nat} (hk : k ≠ p.block) : (w.setCell p u).heap[k]? = w.heap[k]? := Below.heap_setCell w p u k hk
/-- what is no block of D stays when a block of D is written -/
theorem OuAt.far {p b : Nat} {x : Ou} {Ap Ar : Option Addr} {cp cr : Nat} {vp : List Value} (h : OuAt w D F p x Ap cp vp Ar cr) (hD : D b) (hne : b ≠ p) (j : Nat) (u : Value) : OuAt (w.setCell ⟨b, j, none⟩ u) D F p x Ap cp vp Ar cr := by
  have nd : ∀ {A : Option Addr}, inF F D A → ∀ ad, A = some ad → (w.setCell ⟨b, j, none⟩ u).heap[ad.block]? = w.heap[ad.block]? := fun hi ad e => heap_far (fun e2 => (hi ad e).2 (by
    have e3 : ad.block = b := e2
    rw [e3]; exact hD))
  exact ⟨(heap_far (fun e => hne (by have e3 : p = b := e; exact e3.symm))).trans h.blk, h.d, h.f, h.ps.stay (nd h.pf) (fun i v ad hv e => nd (h.pe i v hv) ad e), h.pf, h.pe, h.rs.stay (nd h.rf), h.rf⟩
/-- a cell of the transmitter is written -/
theorem AmS.setG (h : AmS w D F g c st vq vs vo os) (j : Nat) (u : Value) (he : (sndC c vq vo st).setIfInBounds j u = sndC c vq vo st') (hq : st'.queue = st.queue) (ho : st'.out = st.out) : AmS (w.setCell ⟨g, j, none⟩ u) D F g c st' vq vs vo os := by
  have hb := h.blk.set_ j u
  rw [he] at hb
  have hDg := h.gd
  have nd : ∀ {A : Option Addr}, inF F D A → ∀ ad, A = some ad → (w.setCell ⟨g, j, none⟩ u).heap[ad.block]? = w.heap[ad.block]? := fun hi ad e => heap_far (fun e2 => (hi ad e).2 (by
    have e3 : ad.block = g := e2
    rw [e3]; exact hDg))
  refine ⟨hb, h.gd, h.sub, fun k hk => by simpa [World.setCell] using h.lt k hk, by rw [hq]; exact h.qr.store h.blk (by decide) u, h.qd, fun i p hi => ?_, by rw [ho]; exact h.or_.store h.blk (by decide) u, h.od, fun i x hi => ?_, h.inj⟩
  · rw [hq] at hi
    obtain ⟨A, cc, e, hs, hf⟩ := h.qe i p hi
    exact ⟨A, cc, e, hs.stay (nd hf), hf⟩
  · rw [ho] at hi
    obtain ⟨p, Ap, cp, vp, Ar, cr, e, hx⟩ := h.oe i x hi
    refine ⟨p, Ap, cp, vp, Ar, cr, e, hx.far hDg (fun e2 => ?_) j u⟩
    subst e2
    have h1 := h.blk
    have h2 := hx.blk
    unfold Blk at h1 h2
    rw [h1] at h2
    injection h2 with h3
    injection h3 with _ h4
    exact absurd h4 (by decide)
/-- a cell of an outstanding PDU is written -/
theorem AmS.setP (h : AmS w D F g c st vq vs vo os) {i p : Nat} {x z : Ou} {Ap Ar Ar' : Option Addr} {cp cr cr' : Nat} {vp : List Value} (hx : st.out[i]? = some x) (hp : os[i]? = some (.pointer (some ⟨p, 0, none⟩))) (hO : OuAt w D F p x Ap cp vp Ar cr)
    (j : Nat) (u : Value) (he : (ouC x (.slice Ap x.ps.length cp) (.slice Ar x.pend.length cr)).setIfInBounds j u = ouC z (.slice Ap z.ps.length cp) (.slice Ar' z.pend.length cr')) (hz : z.ps = x.ps) (hr : SpAt w Ar' z.pend.length cr' z.pend) (hf : inF F D Ar') :
    AmS (w.setCell ⟨p, j, none⟩ u) D F g c { st with out := st.out.set i z } vq vs vo os ∧ OuAt (w.setCell ⟨p, j, none⟩ u) D F p z Ap cp vp Ar' cr' := by
  have hb := hO.blk.set_ j u
  rw [he] at hb
  have hDp := hO.d
  have hgp : g ≠ p := fun e2 => by
    subst e2
    have h1 := h.blk
    have h2 := hO.blk
    unfold Blk at h1 h2
    rw [h1] at h2
    injection h2 with h3
    injection h3 with _ h4
    exact absurd h4 (by decide)
  have nd : ∀ {A : Option Addr}, inF F D A → ∀ ad, A = some ad → (w.setCell ⟨p, j, none⟩ u).heap[ad.block]? = w.heap[ad.block]? := fun hi ad e => heap_far (fun e2 => (hi ad e).2 (by
    have e3 : ad.block = p := e2
    rw [e3]; exact hDp))
  have hZ : OuAt (w.setCell ⟨p, j, none⟩ u) D F p z Ap cp vp Ar' cr' := by
    have hps := hO.ps.stay (w' := w.setCell ⟨p, j, none⟩ u) (nd hO.pf) (fun i v ad hv e => nd (hO.pe i v hv) ad e)
    exact ⟨hb, hO.d, hO.f, by rw [hz]; exact hps, hO.pf, hO.pe, hr.stay (nd hf), hf⟩
  refine ⟨⟨(heap_far (fun e => hgp e)).trans h.blk, h.gd, h.sub, fun k hk => by simpa [World.setCell] using h.lt k hk, h.qr.store hO.blk (by decide) u, h.qd, fun i q hi => ?_, ?_, h.od, fun k y hk => ?_, h.inj⟩, hZ⟩
  · obtain ⟨A, cc, e, hs, hf⟩ := h.qe i q hi
    exact ⟨A, cc, e, hs.stay (nd hf), hf⟩
  · have := h.or_.store hO.blk (i := j) (by decide) u
    have hl : (st.out.set i z).length = st.out.length := List.length_set
    show OwnQ _ 0 _ vo (st.out.set i z).length os
    rw [hl]
    exact this
  · have hk' : (st.out.set i z)[k]? = some y := hk
    by_cases hki : i = k
    · subst hki
      rw [List.getElem?_set_self (List.getElem?_eq_some_iff.1 hx).1] at hk'
      cases hk'
      exact ⟨p, Ap, cp, vp, Ar', cr', hp, hZ⟩
    · rw [List.getElem?_set_ne hki] at hk'
      obtain ⟨q, A1, c1, v1, A2, c2, e, hy⟩ := h.oe k y hk'
      refine ⟨q, A1, c1, v1, A2, c2, e, hy.far hDp (fun e2 => hki ?_) j u⟩
      subst e2
      exact h.inj i k _ hp e
end
end Go.Proofs.YtmiipkaobloedaaGreat
namespace Go.Proofs.YtmiipkaobloedaaGreat
open Go.RowKit

/-- the transmitter behind a call: its sets grew by fresh blocks alone, what was written lay in D -/
def AmO (w : World) (D F : Nat → Prop) (g : Nat) (c : Cf) (st : Sd) (w' : World) : Prop :=
  ∃ D' F' vq vs vo os, AmS w' D' F' g c st vq vs vo os ∧ Grows w D D' ∧ Grows w F F' ∧ Kept (fun k _ => D k) w w'
section
variable {D F D' F' : Nat → Prop} {g : Nat} {c : Cf} {st st' : Sd} {vq vo : Value} {vs os : List Value} {w w' w'' : World}
theorem Kept.step (h : Kept (fun k _ => D k) w w') (h' : Kept (fun k _ => D' k) w' w'') (hg : Grows w D D') : Kept (fun k _ => D k) w w'' :=
  ⟨h'.os.trans h.os, h'.tape.trans h.tape, h'.output.trans h.output, Nat.le_trans h.size h'.size, fun i x hi hn => h'.same i x (h.same i x hi hn) fun hd => by
    rcases hg i hd with e | e
    · exact hn e
    · have := lt_of_heap hi
      omega⟩
theorem AmS.o (h : AmS w' D F g c st vq vs vo os) (hk : Kept (fun k _ => D k) w w') : AmO w D F g c st w' :=
  ⟨D, F, vq, vs, vo, os, h, Grows.refl _ _, Grows.refl _ _, hk⟩
theorem AmO.step (hk : Kept (fun k _ => D k) w w') (hD : Grows w D D') (hF : Grows w F F') (h : AmO w' D' F' g c st w'') : AmO w D F g c st w'' := by
  obtain ⟨D2, F2, vq, vs, vo, os, h1, h2, h3, h4⟩ := h
  exact ⟨D2, F2, vq, vs, vo, os, h1, hD.trans h2 hk.size, hF.trans h3 hk.size, hk.step h4 hD⟩
theorem Kept.drewN' {M : Nat → Obj → Prop} (h : Kept M w w') (k : Nat) : Kept M w (w'.drewN k) := ⟨h.os, h.tape, h.output, h.size, h.same⟩
theorem Drew.kept {M : Nat → Obj → Prop} (h : Drew w w') : Kept M w w' := by
  obtain ⟨q, rfl⟩ := h
  exact (Kept.refl _ w).drewN' q
theorem AmS.drewn (h : AmS w D F g c st vq vs vo os) (hd : Drew w w') : AmS w' D F g c st vq vs vo os := by
  obtain ⟨q, rfl⟩ := hd
  exact h.drewN q
theorem AmO.drewN (h : AmO w D F g c st w') (k : Nat) : AmO w D F g c st (w'.drewN k) := by
  obtain ⟨D2, F2, vq, vs, vo, os, h1, h2, h3, h4⟩ := h
  exact ⟨D2, F2, vq, vs, vo, os, h1.drewN k, h2, h3, h4.drewN' k⟩
theorem AmO.alloc (h : AmO w D F g c st w') (o : Obj) : AmO w D F g c st (w'.alloc o) := by
  obtain ⟨D2, F2, vq, vs, vo, os, h1, h2, h3, h4⟩ := h
  exact ⟨D2, F2, vq, vs, vo, os, h1.alloc o, h2, h3, h4.alloc o⟩
/-- a cell of the caller's own is written -/
theorem AmO.put {w0 : World} (h : AmO w0 D F g c st w') (hk : Kept (fun k _ => D k) w w0) {b : Nat} (hb : w.heap.size ≤ b) (hb0 : b < w0.heap.size) (hF : ∀ k, F k → k < w.heap.size) (_hD : ∀ k, D k → F k) (j : Nat) (u : Value) : AmO w D F g c st (w'.setCell ⟨b, j, none⟩ u) := by
  obtain ⟨D2, F2, vq, vs, vo, os, h1, h2, h3, h4⟩ := h
  have hnf : ¬ F2 b := fun hf => by
    rcases h3 b hf with e | e
    · have := hF b e
      omega
    · omega
  refine ⟨D2, F2, vq, vs, vo, os, h1.stay fun k hk => heap_far (fun e => hnf ?_), fun k hk' => ?_, fun k hk' => ?_, (hk.trans h4).setCell (fun o ho => ?_) u⟩
  · have e2 : k = b := e
    rw [← e2]
    exact hk
  · rcases h2 k hk' with e | e
    · exact .inl e
    · have := hk.size
      exact .inr (by omega)
  · rcases h3 k hk' with e | e
    · exact .inl e
    · have := hk.size
      exact .inr (by omega)
  · have : b < w.heap.size := lt_of_heap ho
    omega
theorem AmO.kept (h : AmO w D F g c st w') : Kept (fun k _ => D k) w w' := h.choose_spec.choose_spec.choose_spec.choose_spec.choose_spec.choose_spec.2.2.2
/-- one fresh block more is read -/
theorem AmS.withF (h : AmS w D F g c st vq vs vo os) {b : Nat} (hb : b < w.heap.size) : AmS w D (fun k => F k ∨ k = b) g c st vq vs vo os :=
  h.moreF (fun _ => .inl) fun k hk => by
    rcases hk with hk | rfl
    · exact h.lt k hk
    · exact hb
theorem Grows.one (hb : w.heap.size ≤ g) : Grows w F (fun k => F k ∨ k = g) := fun k hk => by
  rcases hk with hk | rfl
  · exact .inl hk
  · exact .inr hb
/-- a fresh block is none that is written -/
theorem AmS.fresh (h : AmS w D F g c st vq vs vo os) {b : Nat} (hb : w.heap.size ≤ b) : ¬ D b := fun hd => by
  have := h.lt b (h.sub b hd)
  omega
end
end Go.Proofs.YtmiipkaobloedaaGreat
namespace Go.Proofs.YtmiipkaobloedaaGreat
open Go.RowKit Go.Shelf
attribute [local go_sem] Oper.semAt_some

section
variable {D F : Nat → Prop} {g : Nat} {c : Cf} {st : Sd} {vq vo : Value} {vs os : List Value} {w : World}
theorem sgoes_any (h : AmS w D F g c st vq vs vo os) (now : Int) :
    Calls Tryz.prog 29 #[.pointer (some ⟨g, 0, none⟩), .int .i64 now] w fun e w' => e = .returned (.tuple #[]) ∧ AmS w' D F g c (clockS st now) vq vs vo os ∧ Kept (fun k _ => D k) w w' := by
  have x20 := h.blk.cell 20
  have f20 := h.blk.frozen 20
  simp [sndC] at x20
  have hs := fun u he => h.setG 20 (.int .i64 u) (st' := { st with now := u }) he rfl rfl
  have HS := Lib.hid hs
  have HD := Lib.hid h.gd
  by_cases hlt : st.now < now
  · have hc : clockS st now = { st with now := now } := by unfold clockS; rw [if_pos hlt]
    rw [hc]
    have hle : st.now ≤ now := by omega
    clear h hs hc
    go_enter Tryz.func29, Tryz.ntmps29
    go_wp2
    go_end0
    exact ⟨rfl, HS.out now rfl, (Kept.refl _ w).setCell (p := ⟨g, 20, none⟩) (fun _ _ => HD.out) _⟩
  · have hc : clockS st now = { st with now := st.now } := by unfold clockS; rw [if_neg hlt]
    rw [hc]
    clear h hs hc
    go_enter Tryz.func29, Tryz.ntmps29
    go_wp2
    go_end0
    exact ⟨rfl, HS.out st.now rfl, (Kept.refl _ w).setCell (p := ⟨g, 20, none⟩) (fun _ _ => HD.out) _⟩
theorem smust_ok (h : AmS w D F g c st vq vs vo os) (hf : st.failed = false) :
    Calls Tryz.prog 46 #[.pointer (some ⟨g, 0, none⟩)] w fun e w' => e = .returned (.tuple #[]) ∧ w = w' := by
  have x19 := h.blk.cell 19
  simp [sndC] at x19
  rw [hf] at x19
  clear h hf
  go_enter Tryz.func46, Tryz.ntmps46
  go_wp2
  go_end0
  exact ⟨rfl, rfl⟩
/-- the panic of a transmitter that fails -/
abbrev raiseF : Ending := .panicked [{ v := .iface 112 (.agg #[]), recovered := false }]
theorem smust_bad (h : AmS w D F g c st vq vs vo os) (hf : st.failed = true) :
    Calls Tryz.prog 46 #[.pointer (some ⟨g, 0, none⟩)] w fun e w' => e = raiseF ∧ w = w' := by
  have x19 := h.blk.cell 19
  simp [sndC] at x19
  rw [hf] at x19
  clear h hf
  unfold raiseF
  go_enter Tryz.func46, Tryz.ntmps46
  go_wp2
  exact ⟨rfl, rfl, rfl⟩
theorem sidle_any (h : AmS w D F g c st vq vs vo os) (hsum : heldP st ≤ 1048576) (hn : st.out.length ≤ 1000000) :
    Calls Tryz.prog 63 #[.pointer (some ⟨g, 0, none⟩)] w fun e w' => e = .returned (.bool (idleP st)) ∧ Drew w w' := by
  have hpe := fun k => spending_any (h.drewN k) hn
  have hhe := fun k => sheld_any (h.drewN k) hsum
  have HP := Lib.hid hpe
  have HE := Lib.hid hhe
  have x10 := h.blk.cell 10
  have x12 := h.blk.cell 12
  simp [sndC] at x10 x12
  clear hpe hhe
  unfold pendV at HP
  cases hpa : pendAt st.out with
  | some i =>
    rw [hpa] at HP
    obtain ⟨x, hx, _⟩ := pendAt_some hpa
    obtain ⟨p, Ap, cp, vp, Ar, cr, he, ho⟩ := h.oe i x hx
    have hg : os[i]?.getD (.pointer none) = .pointer (some ⟨p, 0, none⟩) := by rw [he]; rfl
    simp only [hg] at HP
    have hfin : idleP st = false := by unfold idleP; rw [hpa]; rfl
    rw [hfin]
    clear h hpa hx he ho hg hfin
    go_enter Tryz.func63, Tryz.ntmps63
    go_wp2
    go_quiet ((go_at_call 31; exact Calls.quiet_of_same ((HP.out _).mono fun _ _ hh => ⟨hh.1, hh.2.symm⟩)))
    go_wp2
    go_ret
    refine ⟨rfl, ?_⟩
    exact ⟨_, rfl⟩
  | none =>
    rw [hpa] at HP
    simp only at HP
    obtain ⟨A, cc, rfl, hs⟩ := h.osl
    have hcap := hs.cap
    have hmx := hs.mx
    have hfin : idleP st = (decide (st.taken = heldP st) || decide (512 ≤ st.out.length)) := by unfold idleP; rw [hpa]; rfl
    rw [hfin]
    clear h hs hpa hfin
    generalize heldP st = H at *
    by_cases ht : st.taken = H
    · rw [decide_eq_true ht]
      have d1 : ((st.taken : Int) == (H : Int)) = true := by simp; omega
      have d2 : decide (st.taken = H) = true := decide_eq_true ht
      have HT := Lib.hid ht
      clear ht
      go_enter Tryz.func63, Tryz.ntmps63
      go_wp2
      go_quiet ((first | (go_at_call 31; exact Calls.quiet_of_same ((HP.out _).mono fun _ _ hh => ⟨hh.1, hh.2.symm⟩)) | (go_at_call 26; exact Calls.quiet_of_same ((HE.out _).mono fun _ _ hh => ⟨hh.1, hh.2.symm⟩))))
      go_wp2
      go_ret
      refine ⟨rfl, ?_⟩
      exact ⟨_, rfl⟩
    · rw [decide_eq_false ht]
      have d1 : ((st.taken : Int) == (H : Int)) = false := by simp; omega
      have d2 : decide (st.taken = H) = false := decide_eq_false ht
      have HT := Lib.hid ht
      clear ht
      go_enter Tryz.func63, Tryz.ntmps63
      go_wp2
      go_quiet ((first | (go_at_call 31; exact Calls.quiet_of_same ((HP.out _).mono fun _ _ hh => ⟨hh.1, hh.2.symm⟩)) | (go_at_call 26; exact Calls.quiet_of_same ((HE.out _).mono fun _ _ hh => ⟨hh.1, hh.2.symm⟩))))
      go_wp2
      go_ret
      refine ⟨by simp; omega, ?_⟩
      exact ⟨_, rfl⟩
theorem srep1_any {p : Nat} {x : Ou} {Ap Ar : Option Addr} {cp cr : Nat} {vp : List Value} (h : OuAt w D F p x Ap cp vp Ar cr) :
    Calls Tryz.prog 72 #[.pointer (some ⟨p, 0, none⟩)] w fun e w' => e = .returned (.bool (!x.acked)) ∧ w = w' := by
  obtain ⟨x0, x7, x8, x9, x10, x11⟩ := h.cells
  clear h x0 x7 x8 x10 x11
  go_enter Tryz.func72, Tryz.ntmps72
  go_wp2
  go_ret
  exact ⟨rfl, rfl⟩
end
end Go.Proofs.YtmiipkaobloedaaGreat
namespace Go.Proofs.YtmiipkaobloedaaGreat
open Go.RowKit Go.Shelf
attribute [local go_sem] Oper.semAt_some

section
variable {D F : Nat → Prop} {g : Nat} {c : Cf} {st : Sd} {vq vo : Value} {vs os : List Value} {w : World}
theorem SpAt.far {A : Option Addr} {n cc b : Nat} {l : List (Nat × Nat)} (h : SpAt w A n cc l) (hf : inF F D A) (hD : D b) (j : Nat) (u : Value) : SpAt (w.setCell ⟨b, j, none⟩ u) A n cc l :=
  h.stay fun ad e => heap_far (fun e2 => (hf ad e).2 (by
    have e3 : ad.block = b := e2
    rw [e3]; exact hD))
theorem SpAt.drewN {A : Option Addr} {n cc : Nat} {l : List (Nat × Nat)} (h : SpAt w A n cc l) (k : Nat) : SpAt (w.drewN k) A n cc l := h.stay fun _ _ => rfl
theorem OuAt.drewN {p : Nat} {x : Ou} {Ap Ar : Option Addr} {cp cr : Nat} {vp : List Value} (h : OuAt w D F p x Ap cp vp Ar cr) (k : Nat) : OuAt (w.drewN k) D F p x Ap cp vp Ar cr := h.stay fun _ _ => rfl
theorem list_set_set {l : List Ou} {i : Nat} (a b : Ou) : (l.set i a).set i b = l.set i b := by simp
set_option maxRecDepth 100000 in
set_option maxHeartbeats 1000000 in
theorem spends_any (h : AmS w D F g c st vq vs vo os) {i p : Nat} {x : Ou} {Ap Ar : Option Addr} {cp cr : Nat} {vp : List Value} (hx : st.out[i]? = some x) (hp : os[i]? = some (.pointer (some ⟨p, 0, none⟩))) (hO : OuAt w D F p x Ap cp vp Ar cr)
    {Al : Option Addr} {cl : Nat} {l : List (Nat × Nat)} (hl : SpAt w Al l.length cl l) (hf : inF F D Al) (hr : x.retx ≤ 1000000) :
    Calls Tryz.prog 43 #[.pointer (some ⟨g, 0, none⟩), .pointer (some ⟨p, 0, none⟩), .slice Al l.length cl] w fun e w' => e = .returned (.tuple #[]) ∧ AmS w' D F g c (setOut st i (pendP c x l)) vq vs vo os ∧ Kept (fun k _ => D k) w w' := by
  obtain ⟨x0, x7, x8, x9, x10, x11⟩ := hO.cells
  have f10 := hO.blk.frozen 10
  have f11 := hO.blk.frozen 11
  have y5 := h.blk.cell 5
  have y19 := h.blk.cell 19
  have f19 := h.blk.frozen 19
  simp [sndC] at y5 y19
  have hcap := hO.rs.cap
  have hmx := hO.rs.mx
  have hgp : g ≠ p := fun e2 => by
    subst e2
    have h1 := h.blk
    have h2 := hO.blk
    unfold Blk at h1 h2
    rw [h1] at h2
    injection h2 with h3
    injection h3 with _ h4
    exact absurd h4 (by decide)
  by_cases hpe : x.pend = []
  · rw [hpe] at x10
    obtain ⟨hs1, ho1⟩ := h.setP hx hp hO 11 (.int .i64 ((x.retx : Int) + 1)) (z := { x with retx := x.retx + 1 }) (Ar' := Ar) (cr' := cr) (by simp [ouC, sizeO]) rfl hO.rs hO.rf
    have hl1 := hl.far hf hO.d 11 (.int .i64 ((x.retx : Int) + 1))
    have hk1 : Kept (fun k _ => D k) w (w.setCell ⟨p, 11, none⟩ (.int .i64 ((x.retx : Int) + 1))) := (Kept.refl _ w).setCell (p := ⟨p, 11, none⟩) (fun _ _ => hO.d) _
    have hx1 : (st.out.set i { x with retx := x.retx + 1 })[i]? = some { x with retx := x.retx + 1 } := List.getElem?_set_self (List.getElem?_eq_some_iff.1 hx).1
    obtain ⟨z0, z7, z8, z9, z10, z11⟩ := ho1.cells
    have e10 := ho1.blk.frozen 10
    have v5 := hs1.blk.cell 5
    have v19 := hs1.blk.cell 19
    have e19 := hs1.blk.frozen 19
    simp [sndC] at v5 v19
    have hpp : pendP c x l = ({ x with pend := l, retx := x.retx + 1 }, decide (c.retx < ((x.retx + 1 : Nat) : Int))) := by unfold pendP; rw [if_pos hpe]
    rw [hpp]
    have hdp := hO.d
    have hdg := h.gd
    have HFN : ∀ (b : Bool) (w2 : World), AmS w2 D F g c { st with out := st.out.set i { x with retx := x.retx + 1 }, failed := b } vq vs vo os → OuAt w2 D F p { x with retx := x.retx + 1 } Ap cp vp Ar cr → SpAt w2 Al l.length cl l →
        AmS (w2.setCell ⟨p, 10, none⟩ (.slice Al l.length cl)) D F g c { st with out := st.out.set i { x with pend := l, retx := x.retx + 1 }, failed := b } vq vs vo os := fun b w2 k1 k2 k3 => by
      have := (k1.setP hx1 hp k2 10 (.slice Al l.length cl) (z := { x with pend := l, retx := x.retx + 1 }) (Ar' := Al) (cr' := cl) rfl rfl k3 hf).1
      simpa using this
    have HF := Lib.hid HFN
    have HS := Lib.hid hs1
    have HO := Lib.hid ho1
    have HL := Lib.hid hl1
    have HK := Lib.hid hk1
    have HDP := Lib.hid hdp
    have HDG := Lib.hid hdg
    clear h hcap hmx hO hs1 ho1 hl1 hk1 hx1 hpp x0 x7 x8 x9 z0 z7 z8 z9 hdp hdg HFN
    have HEND : ∀ (b : Bool) (q : Nat), b = (st.failed || decide (c.retx < ((x.retx + 1 : Nat) : Int))) →
        AmS ((((w.setCell ⟨p, 11, none⟩ (.int .i64 ((x.retx : Int) + 1))).drewN q).setCell ⟨g, 19, none⟩ (.bool b)).setCell ⟨p, 10, none⟩ (.slice Al l.length cl)) D F g c (setOut st i ({ x with pend := l, retx := x.retx + 1 }, decide (c.retx < ((x.retx + 1 : Nat) : Int)))) vq vs vo os ∧
        Kept (fun k _ => D k) w ((((w.setCell ⟨p, 11, none⟩ (.int .i64 ((x.retx : Int) + 1))).drewN q).setCell ⟨g, 19, none⟩ (.bool b)).setCell ⟨p, 10, none⟩ (.slice Al l.length cl)) := fun b q hb => by
      have k1 := (HS.out.drewN q).setG 19 (.bool b) (st' := { st with out := st.out.set i { x with retx := x.retx + 1 }, failed := b }) rfl rfl rfl
      have k2 := (HO.out.drewN q).far (b := g) HDG.out hgp 19 (.bool b)
      have k3 := (HL.out.drewN q).far hf HDG.out 19 (.bool b)
      have k4 := HF.out b _ k1 k2 k3
      subst hb
      exact ⟨k4, ((HK.out.drewN' q).setCell (p := ⟨g, 19, none⟩) (fun _ _ => HDG.out) _).setCell (p := ⟨p, 10, none⟩) (fun _ _ => HDP.out) _⟩
    have HE := Lib.hid HEND
    clear HEND
    cases hfl : st.failed with
    | true =>
      rw [hfl] at y19 v19 HE
      have HFL := Lib.hid hfl
      clear hfl
      go_enter Tryz.func43, Tryz.ntmps43
      go_wp2
      generalize w.setCell ⟨p, 11, none⟩ (.int .i64 ((x.retx : Int) + 1)) = w1 at *
      go_region
      go_wp2
      go_end0
      exact ⟨rfl, HE.out true 1 rfl⟩
    | false =>
      rw [hfl] at y19 v19 HE
      have HFL := Lib.hid hfl
      clear hfl
      by_cases hov : c.retx < (x.retx : Int) + 1
      · have hd : decide (c.retx < (x.retx : Int) + 1) = true := decide_eq_true hov
        have hb : true = (false || decide (c.retx < ((x.retx + 1 : Nat) : Int))) := by simp; omega
        have HB := Lib.hid hb
        clear hb
        go_enter Tryz.func43, Tryz.ntmps43
        go_wp2
        generalize w.setCell ⟨p, 11, none⟩ (.int .i64 ((x.retx : Int) + 1)) = w1 at *
        go_region
        go_wp2
        go_end0
        exact ⟨rfl, HE.out true 1 HB.out⟩
      · have hd : decide (c.retx < (x.retx : Int) + 1) = false := decide_eq_false hov
        have hb : false = (false || decide (c.retx < ((x.retx + 1 : Nat) : Int))) := by simp; omega
        have HB := Lib.hid hb
        clear hb
        go_enter Tryz.func43, Tryz.ntmps43
        go_wp2
        generalize w.setCell ⟨p, 11, none⟩ (.int .i64 ((x.retx : Int) + 1)) = w1 at *
        go_region
        go_wp2
        go_end0
        exact ⟨rfl, HE.out false 1 HB.out⟩
  · have hpl : 0 < x.pend.length := List.length_pos_iff.2 hpe
    have d0 : ((x.pend.length : Int) == 0) = false := by simp; omega
    have hpp : pendP c x l = ({ x with pend := l }, false) := by unfold pendP; rw [if_neg hpe]
    rw [hpp]
    have hs := h.setP hx hp hO 10 (.slice Al l.length cl) (z := { x with pend := l }) (Ar' := Al) (cr' := cl) rfl rfl hl hf
    have HS := Lib.hid hs.1
    have HD := Lib.hid hO.d
    clear h hO hs hpp
    go_enter Tryz.func43, Tryz.ntmps43
    go_wp2
    go_end0
    refine ⟨rfl, ?_, (Kept.refl _ w).setCell (p := ⟨p, 10, none⟩) (fun _ _ => HD.out) _⟩
    have := HS.out
    simpa [setOut] using this
end
end Go.Proofs.YtmiipkaobloedaaGreat
namespace Go.Proofs.YtmiipkaobloedaaGreat
open Go.RowKit Go.Shelf
attribute [local go_sem] Oper.semAt_some

section
variable {D F : Nat → Prop} {g : Nat} {c : Cf} {st : Sd} {vq vo : Value} {vs os : List Value} {w : World}
/-- a row of one range that was just made -/
theorem SpAt.new (w : World) (t : TypeId) (a b : Nat) : SpAt (w.alloc (.cells #[.int .i64 (a : Nat), .int .i64 (b : Nat)] t)) (some ⟨w.heap.size, 0, none⟩) 1 1 [(a, b)] :=
  ⟨rfl, Nat.le_refl _, by omega, fun _ => ⟨_, rfl, by simp, fun j r hj => by
    have hb := Blk.new w t #[.int .i64 (a : Nat), .int .i64 (b : Nat)]
    cases j with
    | zero =>
      simp at hj
      subst hj
      exact ⟨hb.cell 0, hb.cell 1⟩
    | succ j => simp at hj⟩⟩
set_option maxRecDepth 10000 in
set_option maxHeartbeats 1000000 in
theorem srepeats_any (h : AmS w D F g c st vq vs vo os) {K : Nat} (hB : Bnd st K) (hK : K ≤ 100000) (hw : st.out.length ≤ 512) :
    Calls Tryz.prog 45 #[.pointer (some ⟨g, 0, none⟩)] w fun e w' => e = .returned (.tuple #[]) ∧ AmO w D F g c (repeatsP c st) w' := by
  have hid := sidle_any h hB.held (by omega)
  have HID := Lib.hid hid
  clear hid
  cases hi : idleP st with
  | false =>
    have hfin : repeatsP c st = st := by unfold repeatsP; rw [if_pos hi]
    rw [hfin]
    rw [hi] at HID
    have HH := Lib.hid h
    clear h hi hfin
    go_enter Tryz.func45, Tryz.ntmps45
    go_wp2_with fail
    refine HID.out.mono ?_
    rintro e1 w1 ⟨rfl, q, rfl⟩
    go_wp2
    refine bodyPost_ret (results_none rfl _ _ _) rfl ?_
    exact ⟨rfl, (HH.out.o (Kept.refl _ w)).drewN q⟩
  | true =>
    rw [hi] at HID
    have hix := fun q => sindex_any 72 (.inr rfl) (fun x => !x.acked) (h.drewN q) (by omega) fun p x Ap cp vp Ar cr ho => srep1_any ho
    have HIX := Lib.hid hix
    have y12 := h.blk.cell 12
    simp [sndC] at y12
    obtain ⟨A, cc, rfl, hs⟩ := h.osl
    have hcap := hs.cap
    have hmx := hs.mx
    have HH := Lib.hid h
    clear hix
    cases hf : st.out.findIdx? (fun x => !x.acked) with
    | none =>
      have hfin : repeatsP c st = st := by unfold repeatsP; rw [if_neg (by simp [hi]), hf]
      rw [hfin]
      rw [hf] at HIX
      clear h hi hfin hs hf
      go_enter Tryz.func45, Tryz.ntmps45
      go_wp2_with fail
      refine HID.out.mono ?_
      rintro e1 w1 ⟨rfl, q, rfl⟩
      go_wp2_with fail
      refine (HIX.out q).mono ?_
      rintro e1 w1 ⟨rfl, rfl⟩
      simp only [ixI]
      go_wp2
      go_end0
      exact ⟨rfl, (HH.out.o (Kept.refl _ w)).drewN q⟩
    | some i =>
      rw [hf] at HIX
      have hil : i < st.out.length := (List.findIdx?_eq_some_iff_getElem.1 hf).1
      obtain ⟨x, hx⟩ : ∃ x, st.out[i]? = some x := ⟨_, List.getElem?_eq_getElem hil⟩
      have hfin : repeatsP c st = setOut st i (pendP c x [(0, sizeO x - 1)]) := by unfold repeatsP; rw [if_neg (by simp [hi]), hf]; simp only [hx]
      rw [hfin]
      obtain ⟨p, Ap, cp, vp, Ar, cr, he, ho⟩ := h.oe i x hx
      obtain ⟨ad, u, rfl, hb, hu, hc⟩ := hs.get hil
      rw [he] at hu
      cases hu
      obtain ⟨z0, z7, z8, z9, z10, z11⟩ := ho.cells
      have hsz := ouOk_size (hB.ou x (List.mem_of_getElem? hx))
      have hrx := hB.rx x (List.mem_of_getElem? hx)
      have hsub : ((sizeO x : Nat) : Int) - 1 = ((sizeO x - 1 : Nat) : Int) := by omega
      have HX := Lib.hid hx
      have HE := Lib.hid he
      have HO := Lib.hid ho
      have HSUB := Lib.hid hsub
      clear h hi hfin hs hf hx he ho z0 z7 z9 z10 z11 hsub
      go_enter Tryz.func45, Tryz.ntmps45
      go_wp2_with fail
      refine HID.out.mono ?_
      rintro e1 w1 ⟨rfl, q, rfl⟩
      go_wp2_with fail
      refine (HIX.out q).mono ?_
      rintro e1 w1 ⟨rfl, rfl⟩
      simp only [ixI]
      go_wp2_with fail
      rw [HSUB.out]
      have hW := ((HH.out.drewN q).alloc (.cells #[.int .i64 0, .int .i64 ((sizeO x - 1 : Nat) : Int)] 93)).withF (b := w.heap.size) (by simp)
      have hsp : SpAt ((w.drewN q).alloc (.cells #[.int .i64 0, .int .i64 ((sizeO x - 1 : Nat) : Int)] 93)) (some ⟨w.heap.size, 0, none⟩) [(0, sizeO x - 1)].length 1 [(0, sizeO x - 1)] := SpAt.new (w.drewN q) 93 0 (sizeO x - 1)
      obtain ⟨p2, Ap2, cp2, vp2, Ar2, cr2, he2, ho2⟩ := hW.oe i x HX.out
      rw [HE.out] at he2
      cases he2
      have hpd := spends_any hW HX.out HE.out ho2 hsp (fun ad e => by cases e; exact ⟨.inr rfl, HH.out.fresh (Nat.le_refl _)⟩) (by omega)
      clear hsp ho2 hW
      refine hpd.mono ?_
      rintro e2 w2 ⟨rfl, hA2, hk2⟩
      go_wp2
      go_end0
      exact ⟨rfl, AmO.step (((Kept.refl _ w).drewN' q).alloc _) (Grows.refl _ _) (Grows.one (Nat.le_refl _)) (hA2.o hk2)⟩
/-- the answer of expires: the transmitter failed, or it did not -/
def ExOut (w : World) (D F : Nat → Prop) (g : Nat) (c : Cf) (st : Sd) (e : Ending) (w' : World) : Prop :=
  ((st.failed = false ∧ e = .returned (.tuple #[])) ∨ (st.failed = true ∧ e = raiseF)) ∧ AmO w D F g c st w'
set_option maxRecDepth 10000 in
set_option maxHeartbeats 1000000 in
theorem sexpires_any (h : AmS w D F g c st vq vs vo os) {K : Nat} (hB : Bnd st K) (hK : K ≤ 100000) (hw : st.out.length ≤ 512) (hfl : st.failed = false) :
    Calls Tryz.prog 30 #[.pointer (some ⟨g, 0, none⟩)] w (ExOut w D F g c (expiresP c st)) := by
  have y16 := h.blk.cell 16
  have y17 := h.blk.cell 17
  have y18 := h.blk.cell 18
  have y20 := h.blk.cell 20
  have f16 := h.blk.frozen 16
  have f18 := h.blk.frozen 18
  simp [sndC] at y16 y17 y18 y20
  have HH := Lib.hid h
  cases hwt : st.wait with
  | false =>
    have hfin : expiresP c st = st := by unfold expiresP; rw [if_pos (.inl hwt)]
    rw [hfin]
    rw [hwt] at y16
    have HFL := Lib.hid hfl
    clear h hfin hwt hfl
    go_enter Tryz.func30, Tryz.ntmps30
    go_wp2
    go_quiet (fail)
    go_wp2
    refine bodyPost_ret (results_none rfl _ _ _) rfl ?_
    exact ⟨.inl ⟨HFL.out, rfl⟩, (HH.out.o (Kept.refl _ w)).drewN _⟩
  | true =>
    rw [hwt] at y16
    by_cases hlt : st.now < st.expiry
    · have hfin : expiresP c st = st := by unfold expiresP; rw [if_pos (.inr hlt)]
      rw [hfin]
      have hd : decide (st.now < st.expiry) = true := decide_eq_true hlt
      have HFL := Lib.hid hfl
      clear h hfin hwt hfl
      go_enter Tryz.func30, Tryz.ntmps30
      go_wp2
      go_quiet (fail)
      go_wp2
      refine bodyPost_ret (results_none rfl _ _ _) rfl ?_
      exact ⟨.inl ⟨HFL.out, rfl⟩, (HH.out.o (Kept.refl _ w)).drewN _⟩
    · have hfin : expiresP c st = repeatsP c { st with wait := false, owed := true } := by unfold expiresP; rw [if_neg (by rw [hwt]; simp; omega)]
      rw [hfin]
      have hd : decide (st.now < st.expiry) = false := decide_eq_false hlt
      have h2 := fun q => ((h.drewN q).setG 16 (.bool false) (st' := { st with wait := false }) rfl rfl rfl).setG 18 (.bool true) (st' := { st with wait := false, owed := true }) rfl rfl rfl
      have hk2 := fun q => (((Kept.refl (fun k _ => D k) w).drewN' q).setCell (p := ⟨g, 16, none⟩) (fun _ _ => h.gd) (.bool false)).setCell (p := ⟨g, 18, none⟩) (fun _ _ => h.gd) (.bool true)
      have hB2 : Bnd { st with wait := false, owed := true } K := ⟨hB.done, hB.pdus, hB.bytes, hB.held, hB.sdu, hB.pol, hB.ou, hB.rx, hB.now0, hB.now1⟩
      have hrp := fun q => srepeats_any (h2 q) hB2 hK hw
      have HRP := Lib.hid hrp
      have HK2 := Lib.hid hk2
      have HFL := Lib.hid hfl
      clear h hfin hwt hfl h2 hk2 hrp
      go_enter Tryz.func30, Tryz.ntmps30
      go_wp2
      go_quiet (fail)
      go_wp2_with fail
      refine (HRP.out _).mono ?_
      rintro e1 w1 ⟨rfl, D1, F1, vq1, vs1, vo1, os1, hA1, hD1, hF1, hk1⟩
      have HA1 := Lib.hid hA1
      have hend : AmO w D F g c (repeatsP c { st with wait := false, owed := true }) w1 := AmO.step (HK2.out _) (Grows.refl _ _) (Grows.refl _ _) ⟨D1, F1, vq1, vs1, vo1, os1, hA1, hD1, hF1, hk1⟩
      have HEND := Lib.hid hend
      clear hA1 hD1 hF1 hk1 hend
      cases hf1 : (repeatsP c { st with wait := false, owed := true }).failed with
      | false =>
        have hm := smust_ok HA1.out hf1
        have HM := Lib.hid hm
        have HF1 := Lib.hid hf1
        clear hm hf1
        go_wp2_with fail
        refine HM.out.mono ?_
        rintro e2 w2 ⟨rfl, rfl⟩
        go_wp2
        go_end0
        exact ⟨.inl ⟨HF1.out, rfl⟩, HEND.out⟩
      | true =>
        have hm := smust_bad HA1.out hf1
        have HM := Lib.hid hm
        have HF1 := Lib.hid hf1
        clear hm hf1
        go_wp2_with fail
        refine HM.out.mono ?_
        rintro e2 w2 ⟨rfl, rfl⟩
        exact ⟨rfl, .inr ⟨HF1.out, rfl⟩, HEND.out⟩
end
end Go.Proofs.YtmiipkaobloedaaGreat
namespace Go.Proofs.YtmiipkaobloedaaGreat
open Go.RowKit Go.Shelf
attribute [local go_sem] Oper.semAt_some

/-- the post of a deferred function, its caller's frames fixed -/
def defPostA (P : Program) (fn : Func) (c₀ : Frame) (cs cs' : List Frame) (R : Ending → FrameMode → World → Prop) (e : Exit) (a : Act) (w : World) : Prop := bodyPostS P fn c₀ cs R e a cs' w

theorem caughtS_idle (be : Nat) (w : World) :
    CallsD Tryz.prog 28 #[.pointer (some ⟨be, 0, none⟩)] .returning w fun e u' w' => e = .returned (.tuple #[]) ∧ u' = .returning ∧ w = w' := by
  have hnn := run_eql_nil_nil (P := Tryz.prog) w (t := 20) (by kernel_rfl)
  refine callsD_of_wpS Tryz.func28 rfl fun c₀ cs hu => ?_
  apply wpS_seq
  apply wpS_region
  generalize hQ : Exit.thenS _ _ = Q
  simp [wpOpsS, go_sem, recoverD, hu, Tryz.ntmps28]
  subst hQ
  simp only [Exit.thenS]
  refine wpS_of_wp ?_
  rw [show (#[.pointer (some ⟨be, 0, none⟩)] ++ ((Array.replicate 17 undef).setIfInBounds 4 (.nilIface)).setIfInBounds 1 (.nilIface) : Array Value) = #[.pointer (some ⟨be, 0, none⟩), undef, .nilIface, undef, undef, .nilIface, undef, undef, undef, undef, undef, undef, undef, undef, undef, undef, undef, undef] from by kernel_rfl]
  change Code.wp _ _ (defPostA Tryz.prog Tryz.f28 c₀ cs (c₀ :: cs) _) _ w
  go_wp2
  cases c₀
  simp_all [defPostA, bodyPostS, results, Tryz.results28]

theorem assert_failure (w : World) : (Instr.typeAssert (.iface 112 (.agg #[])) 20 112 true).run Tryz.prog w = .ok (.tuple #[.agg #[], .bool true]) w := by kernel_rfl

set_option maxHeartbeats 400000 in
set_option maxRecDepth 100000 in
theorem caughtS_raised (be : Nat) (v4 : Value) (w : World) (he : Blk w be 26 #[v4]) :
    CallsD Tryz.prog 28 #[.pointer (some ⟨be, 0, none⟩)] (.panicking [{ v := .iface 112 (.agg #[]), recovered := false }]) w fun e u' w' => e = .returned (.tuple #[]) ∧ u' = .panicking [{ v := .iface 112 (.agg #[]), recovered := true }] ∧
      (w.alloc (.cells #[] 112)).setCell ⟨be, 0, none⟩ (.int .i64 8) = w' := by
  have hnn := run_eql_held_nil (P := Tryz.prog) w 20 112 (.agg #[]) (by kernel_rfl)
  have hta := assert_failure w
  refine callsD_of_wpS Tryz.func28 rfl fun c₀ cs hu => ?_
  apply wpS_seq
  apply wpS_region
  generalize hQ : Exit.thenS _ _ = Q
  simp [wpOpsS, go_sem, recoverD, hu, Tryz.ntmps28]
  subst hQ
  simp only [Exit.thenS]
  refine wpS_of_wp ?_
  rw [show (#[.pointer (some ⟨be, 0, none⟩)] ++ ((Array.replicate 17 undef).setIfInBounds 4 (.iface 112 (.agg #[]))).setIfInBounds 1 (.iface 112 (.agg #[])) : Array Value) = #[.pointer (some ⟨be, 0, none⟩), undef, .iface 112 (.agg #[]), undef, undef, .iface 112 (.agg #[]), undef, undef, undef, undef, undef, undef, undef, undef, undef, undef, undef, undef] from by kernel_rfl]
  change Code.wp _ _ (defPostA Tryz.prog Tryz.f28 c₀ cs _ _) _ w
  have c4 := (he.alloc (.cells #[] 112)).cell 0
  have f4 := (he.alloc (.cells #[] 112)).frozen 0
  simp at c4
  go_wp2
  exact ⟨rfl, _, rfl, .tuple #[], by simp [results, Tryz.results28], rfl, rfl, rfl⟩
end Go.Proofs.YtmiipkaobloedaaGreat
namespace Go.Proofs.YtmiipkaobloedaaGreat
open Go.RowKit Go.Shelf
attribute [local go_sem] Oper.semAt_some

section
variable {D F : Nat → Prop} {g : Nat} {c : Cf} {st : Sd} {vq vo : Value} {vs os : List Value} {w : World}
set_option maxRecDepth 100000 in
set_option maxHeartbeats 1000000 in
theorem stick_any (h : AmS w D F g c st vq vs vo os) (ht : 1 ≤ c.timer) {K : Nat} (hB : Bnd st K) (hK : K ≤ 90000) (hw : st.out.length ≤ 512) (now : Int) (hn : now ≤ 9223372036854775807) :
    Calls Tryz.prog 17 #[.pointer (some ⟨g, 0, none⟩), .int .i64 now] w fun e w' => e = .returned (.int .i64 (tickR c st now).2) ∧ AmO w D F g c (tickR c st now).1 w' := by
  have hA := h.alloc (.cells #[.int .i64 0] 26)
  have hch := scheck_any hA ht
  have HCH := Lib.hid hch
  have HH := Lib.hid h
  cases hf : st.failed with
  | true =>
    rw [hf] at HCH
    have hfin : tickR c st now = (st, 8) := by unfold tickR; rw [if_pos hf]
    rw [hfin]
    simp only [if_pos] at HCH
    clear h hA hch hf hfin
    go_enter_defers Tryz.func17, Tryz.ntmps17
    go_wp2_with fail
    refine HCH.out.mono ?_
    rintro e1 w1 ⟨rfl, rfl⟩
    go_wp2
    refine ⟨.int .i64 8, by simp [results, Tryz.results17, go_sem], rfl, ?_⟩
    exact (HH.out.alloc _).o ((Kept.refl _ w).alloc _)
  | false =>
    rw [hf] at HCH
    have hfin : tickR c st now = (tickS c st now, if (tickS c st now).failed = true then 8 else 0) := by unfold tickR; rw [if_neg (by simp [hf])]
    rw [hfin]
    obtain ⟨r, hr⟩ : ∃ r : Int, (if (tickS c st now).failed = true then 8 else 0) = r := ⟨_, rfl⟩
    simp only [hr]
    have HR := Lib.hid hr
    clear hr
    simp only [Bool.false_eq_true, if_false] at HCH
    have hgo := sgoes_any hA now
    have HGO := Lib.hid hgo
    have HF := Lib.hid hf
    have hB1 := hB.clock hn
    have HB1 := Lib.hid hB1
    have be0 := Blk.new w 26 #[.int .i64 0]
    have HBE := Lib.hid be0
    clear h hA hch hfin hgo hf hB1 be0
    go_enter_defers Tryz.func17, Tryz.ntmps17
    go_wp2_with fail
    refine HCH.out.mono ?_
    rintro e1 w1 ⟨rfl, rfl⟩
    go_wp2_with fail
    refine HGO.out.mono ?_
    rintro e2 w2 ⟨rfl, hA2, hk2⟩
    have hex := sexpires_any hA2 HB1.out (by omega) hw HF.out
    have be2 := HBE.out.kept hk2 (HH.out.fresh (Nat.le_refl _))
    have HEX := Lib.hid hex
    have HBE2 := Lib.hid be2
    have hkk : Kept (fun k _ => D k) w w2 := ((Kept.refl _ w).alloc _).trans hk2
    have HKK := Lib.hid hkk
    clear hA2 hex be2 hk2 hkk
    go_wp2_with fail
    refine HEX.out.mono ?_
    rintro e3 w3 ⟨⟨hf3, rfl⟩ | ⟨hf3, rfl⟩, hO3⟩
    · have be3 := HBE2.out.kept hO3.kept (HH.out.fresh (Nat.le_refl _))
      have c3 := be3.cell 0
      have f3 := be3.frozen 0
      have c4 := (be3.set_ 0 (.int .i64 0)).cell 0
      simp at c3 c4
      have HO3 := Lib.hid hO3
      have HC4 := Lib.hid c4
      have HF3 := Lib.hid hf3
      clear be3 hO3 c4 hf3
      go_wp2
      refine leaves_cons (f := 28) (args := #[.pointer (some ⟨w.heap.size, 0, none⟩)]) (by simp) (by simp [go_sem]) ?_
      refine (caughtS_idle _ _).mono ?_
      rintro e9 u9 w9 ⟨rfl, rfl, rfl⟩
      have q := HC4.out
      have hf4 : (tickS c st now).failed = false := HF3.out
      refine ⟨.int .i64 0, by simp [results, Tryz.results17, go_sem, q], by rw [← HR.out, hf4]; rfl, ?_⟩
      exact HO3.out.put HKK.out (Nat.le_refl _) HBE2.out.lt HH.out.lt HH.out.sub 0 _
    · have be3 := HBE2.out.kept hO3.kept (HH.out.fresh (Nat.le_refl _))
      have HO3 := Lib.hid hO3
      have HF3 := Lib.hid hf3
      have HBE3 := Lib.hid be3
      clear be3 hO3 hf3
      go_wp2
      refine leaves_cons (f := 28) (args := #[.pointer (some ⟨w.heap.size, 0, none⟩)]) (by simp) (by simp [go_sem]) ?_
      refine (caughtS_raised _ _ w3 HBE3.out).mono ?_
      rintro e9 u9 w9 ⟨rfl, rfl, rfl⟩
      have q := ((HBE3.out.alloc (.cells #[] 112)).set_ 0 (.int .i64 8)).cell 0
      simp at q
      have hf4 : (tickS c st now).failed = true := HF3.out
      refine ⟨.int .i64 8, by simp [results, Tryz.results17, go_sem, q], by rw [← HR.out, hf4]; rfl, ?_⟩
      exact (HO3.out.alloc _).put HKK.out (Nat.le_refl _) HBE2.out.lt HH.out.lt HH.out.sub 0 _
end
end Go.Proofs.YtmiipkaobloedaaGreat
namespace Go.Proofs.YtmiipkaobloedaaGreat
open Go.RowKit

section
variable {D F D' F' : Nat → Prop} {g : Nat} {c : Cf} {st st' : Sd} {vq vo : Value} {vs os : List Value} {w w' w'' : World}
theorem inF.sets {A : Option Addr} (h : inF F D A) (hf : ∀ k, F k → F' k) (hn : ∀ k, F k → ¬ D k → ¬ D' k) : inF F' D' A := fun ad e => ⟨hf _ (h ad e).1, hn _ (h ad e).1 (h ad e).2⟩
theorem OuAt.sets {p : Nat} {x : Ou} {Ap Ar : Option Addr} {cp cr : Nat} {vp : List Value} (h : OuAt w D F p x Ap cp vp Ar cr) (hd : ∀ k, D k → D' k) (hf : ∀ k, F k → F' k) (hn : ∀ k, F k → ¬ D k → ¬ D' k) : OuAt w D' F' p x Ap cp vp Ar cr :=
  ⟨h.blk, hd p h.d, hf p h.f, h.ps, h.pf.sets hf hn, fun i v hv => (h.pe i v hv).sets hf hn, h.rs, h.rf.sets hf hn⟩
/-- a block of cells of one type is none of another -/
theorem Blk.off {a b : Nat} {t u : TypeId} {cs ds : Array Value} (h : Blk w a t cs) (h' : Blk w b u ds) (hne : t ≠ u) : a ≠ b := fun e => by
  subst e
  unfold Blk at h h'
  rw [h] at h'
  injection h' with h3
  injection h3 with _ h4
  exact hne h4
theorem AmS.gne (h : AmS w D F g c st vq vs vo os) : qBlock vq ≠ some g ∧ qBlock vo ≠ some g := ⟨h.qr.blk_ne h.blk (by decide), h.or_.blk_ne h.blk (by decide)⟩
theorem AmS.qne (h : AmS w D F g c st vq vs vo os) (k : Nat) (hq : qBlock vq = some k) : qBlock vo ≠ some k := fun ho => by
  obtain ⟨c1, h1, _⟩ := h.qr.row hq
  obtain ⟨c2, h2, _⟩ := h.or_.row ho
  rw [h1] at h2
  injection h2 with h3
  injection h3 with _ h4
  exact absurd h4 (by decide)
/-- what stays of the outstanding PDUs when the transmitter's cells and its two rows turn -/
theorem AmS.oes (h : AmS w D F g c st vq vs vo os) (hk : ∀ k, F k → k ≠ g → qBlock vq ≠ some k → qBlock vo ≠ some k → w'.heap[k]? = w.heap[k]?) :
    ∀ (i : Nat) (x : Ou), st.out[i]? = some x → ∃ p Ap cp vp Ar cr, os[i]? = some (.pointer (some ⟨p, 0, none⟩)) ∧ OuAt w' D F p x Ap cp vp Ar cr := fun i x hx => by
  obtain ⟨p, Ap, cp, vp, Ar, cr, e, ho⟩ := h.oe i x hx
  have nd : ∀ {A : Option Addr}, inF F D A → ∀ ad, A = some ad → w'.heap[ad.block]? = w.heap[ad.block]? := fun hi ad ea => hk _ (hi ad ea).1 (fun e2 => (hi ad ea).2 (by rw [e2]; exact h.gd)) (fun e2 => (hi ad ea).2 (h.qd _ e2)) (fun e2 => (hi ad ea).2 (h.od _ e2))
  have hp : w'.heap[p]? = w.heap[p]? := hk p ho.f (fun e2 => ho.blk.off h.blk (by decide) e2) (h.qr.blk_ne ho.blk (by decide)) (h.or_.blk_ne ho.blk (by decide))
  exact ⟨p, Ap, cp, vp, Ar, cr, e, hp.trans ho.blk, ho.d, ho.f, ho.ps.stay (nd ho.pf) (fun i v ad hv ea => nd (ho.pe i v hv) ad ea), ho.pf, ho.pe, ho.rs.stay (nd ho.rf), ho.rf⟩
theorem AmS.qes (h : AmS w D F g c st vq vs vo os) (hk : ∀ k, F k → k ≠ g → qBlock vq ≠ some k → qBlock vo ≠ some k → w'.heap[k]? = w.heap[k]?) :
    ∀ (i : Nat) (p : List UInt8), st.queue[i]? = some p → ∃ A cc, vs[i]? = some (.slice A p.length cc) ∧ Sl w' w'.heap.size A p.length cc (bvs p) ∧ inF F D A := fun i p hp => by
  obtain ⟨A, cc, e, hs, hf⟩ := h.qe i p hp
  exact ⟨A, cc, e, hs.stay (fun ad ea => hk _ (hf ad ea).1 (fun e2 => (hf ad ea).2 (by rw [e2]; exact h.gd)) (fun e2 => (hf ad ea).2 (h.qd _ e2)) (fun e2 => (hf ad ea).2 (h.od _ e2))), hf⟩
/-- a copy of an SDU is appended to the queue -/
theorem AmS.submit (h : AmS w D F g c st vq vs vo os) {w1 w5 : World} {x : List UInt8} {A1 A5 : Option Addr} {c1 c5 : Nat} (hn : 1 ≤ x.length) (hb1 : Below w.heap.size w w1) (hx : w1.ownsRow w.heap.size 5 1 (.slice A1 x.length c1) x.length (bvs x))
    (hq : OwnQ w5 0 31 (.slice A5 (st.queue.length + 1) c5) (st.queue.length + 1) (vs ++ [.slice A1 x.length c1])) (hg : (w1.alloc (.cells #[.slice A1 x.length c1] 31)).grownBy w5 (qBlock vq))
    (hq5 : ∀ k, qBlock (.slice A5 (st.queue.length + 1) c5) = some k → qBlock vq = some k ∨ (w1.alloc (.cells #[.slice A1 x.length c1] 31)).heap.size ≤ k) :
    AmO w D F g c (submitS st x) (w5.setCell ⟨g, 7, none⟩ (.slice A5 (st.queue.length + 1) c5)) := by
  have hz1 := hb1.size
  have hzA : (w1.alloc (.cells #[.slice A1 x.length c1] 31)).heap.size = w1.heap.size + 1 := World.size_alloc _ _
  have hgl := h.blk.lt
  have hgA := (h.blk.below hb1 hgl).alloc (.cells #[.slice A1 x.length c1] 31)
  have hg5 := hgA.grown hg (fun e => h.gne.1 e.symm)
  have hg6 := hg5.set_ 7 (.slice A5 (st.queue.length + 1) c5)
  obtain ⟨A0, c0, ev, hsl, hA1⟩ := own_sl hx
  cases ev
  have hz5 := hg.size
  -- heap of old blocks
  have hh : ∀ k, k < w.heap.size → k ≠ g → qBlock vq ≠ some k → (w5.setCell ⟨g, 7, none⟩ (.slice A5 (st.queue.length + 1) c5)).heap[k]? = w.heap[k]? := fun k hk hkg hkq => by
    rw [heap_far (show k ≠ (⟨g, 7, none⟩ : Addr).block from hkg), hg.block k (by omega) (fun e => hkq e.symm), Below.heap_alloc _ _ k (by omega), hb1.block k hk]
  have hkF : ∀ k, F k → k ≠ g → qBlock vq ≠ some k → qBlock vo ≠ some k → (w5.setCell ⟨g, 7, none⟩ (.slice A5 (st.queue.length + 1) c5)).heap[k]? = w.heap[k]? := fun k hf h1 h2 _ => hh k (h.lt k hf) h1 h2
  obtain ⟨ad, rfl, e2⟩ := hA1 hn
  have e4 : ad.block < w1.heap.size := by
    obtain ⟨ad'', e3, e4, _⟩ := hsl.at_ hn
    cases e3
    exact e4
  have hz6 : (w5.setCell ⟨g, 7, none⟩ (.slice A5 (st.queue.length + 1) c5)).heap.size = w5.heap.size := by simp [World.setCell]
  have hq6 := hq.store hg5 (by decide) (i := 7) (.slice A5 (st.queue.length + 1) c5)
  have hfar : ∀ k, qBlock (.slice A5 (st.queue.length + 1) c5) = some k → D k ∨ w1.heap.size + 1 ≤ k := fun k hk => by
    rcases hq5 k hk with e | e
    · exact .inl (h.qd k e)
    · exact .inr (by omega)
  have hnn : ∀ k, F k → ¬ D k → ¬ (D k ∨ qBlock (.slice A5 (st.queue.length + 1) c5) = some k) := fun k hf hd e => by
    rcases e with e | e
    · exact hd e
    · rcases hfar k e with e | e
      · exact hd e
      · have := h.lt k hf
        omega
  refine ⟨fun k => D k ∨ qBlock (.slice A5 (st.queue.length + 1) c5) = some k, fun k => F k ∨ qBlock (.slice A5 (st.queue.length + 1) c5) = some k ∨ k = ad.block, .slice A5 (st.queue.length + 1) c5, vs ++ [.slice (some ad) x.length c1], vo, os, ⟨?_, .inl h.gd, ?_, ?_, ?_, fun k hk => .inr hk, ?_, ?_, fun k hk => .inl (h.od k hk), ?_, h.inj⟩, ?_, ?_, ?_⟩
  · exact hg6
  · rintro k (hk | hk)
    · exact .inl (h.sub k hk)
    · exact .inr (.inl hk)
  · rintro k (hk | hk | rfl)
    · have := h.lt k hk
      omega
    · exact (hq6.lt hk).2
    · omega
  · have hl : (submitS st x).queue.length = st.queue.length + 1 := by simp [submitS]
    rw [hl]
    exact hq6
  · intro i p hi
    have hi' : (st.queue ++ [x])[i]? = some p := hi
    rcases Nat.lt_or_ge i st.queue.length with hlt | hge
    · rw [List.getElem?_append_left hlt] at hi'
      obtain ⟨A, cc, k1, k2, k3⟩ := h.qes hkF i p hi'
      exact ⟨A, cc, by rw [List.getElem?_append_left (by rw [h.qr.1]; exact hlt)]; exact k1, k2, k3.sets (fun k hk => .inl hk) hnn⟩
    · have hi0 : i = st.queue.length := by
        have := (List.getElem?_eq_some_iff.1 hi').1
        simp at this
        omega
      subst hi0
      simp at hi'
      subst hi'
      refine ⟨some ad, c1, by rw [← h.qr.1]; simp, hsl.stay fun ad' e => ?_, fun ad' e => ?_⟩
      · cases e
        rw [heap_far (show ad.block ≠ (⟨g, 7, none⟩ : Addr).block by show ad.block ≠ g; omega), hg.block _ (by omega) (fun e => by
          have := (h.qr.lt e.symm).2
          omega), Below.heap_alloc _ _ _ (by omega)]
      · cases e
        refine ⟨.inr (.inr rfl), ?_⟩
        rintro (hd | hd)
        · have := h.lt _ (h.sub _ hd)
          omega
        · rcases hq5 _ hd with e | e
          · have := (h.qr.lt e).2
            omega
          · omega
  · exact h.or_.keep fun k hk => hh k (h.or_.lt hk).2 (fun e => h.gne.2 (by rw [← e]; exact hk)) (fun e => h.qne k e hk)
  · intro i y hi
    obtain ⟨p, Ap, cp, vp, Ar, cr, k1, k2⟩ := h.oes hkF i y hi
    exact ⟨p, Ap, cp, vp, Ar, cr, k1, k2.sets (fun k hk => .inl hk) (fun k hk => .inl hk) hnn⟩
  · rintro k (hk | hk)
    · exact .inl hk
    · rcases hfar k hk with e | e
      · exact .inl e
      · exact .inr (by omega)
  · rintro k (hk | hk | rfl)
    · exact .inl hk
    · rcases hfar k hk with e | e
      · exact .inl (h.sub k e)
      · exact .inr (by omega)
    · exact .inr e2
  · have hk1 : Kept (fun k _ => D k) w w1 := (Kept.of_below hb1).mono_at fun k o ho hm => by have := lt_of_heap ho; omega
    exact ((hk1.alloc _).grown hg (fun k hk o ho => h.qd k hk)).setCell (p := ⟨g, 7, none⟩) (fun _ _ => h.gd) _
end
end Go.Proofs.YtmiipkaobloedaaGreat
