/- law32: the reference's Bytes; bytes. law32: UmrecvHolds: what is wanted, the bytes of the PDUs (plain). -/
import Derived.Test.YtchlbpfeiamieaaTo
import Derived.Test.YtchlbpfeiamieaaYb
import Derived.Test.YtchlbpfeiamieaaXa
import Derived.Test.YtchlbpfeiamieaaTx
import Derived.Test.YtchlbpfeiamieaaTm
namespace Go.Proofs.Ytchlbpfeiamieaa
open Go.RowKit Go.Shelf
attribute [local go_sem] Oper.semAt_some

set_option maxRecDepth 100000 in
set_option maxHeartbeats 1000000 in
theorem rbytes32_any (A : Option Addr) (n c : Nat) (bs : List UInt8) (sn : Nat) (s e : Bool) (ps : List (List UInt8)) (w : World) (h : Sl w w.heap.size A n c (bvs bs)) (hn : n ≤ 1000000) (hd : decU bs = .inr (sn, s, e, ps)) (h64 : ps.length ≤ 64) (hle : ∀ p ∈ ps, p.length ≤ 1000000) :
    Calls Try.prog 135 #[.slice A n c] w (Numbers (sumLen ps) w) := by
  have hdec := rdecode_any A n c bs w w.heap.size h (Nat.le_refl _) hn
  rw [hd] at hdec
  have hdec : Calls Try.prog 24 #[.slice A n c] w fun en w1 => ∃ A1 c1 vs, en = .returned (.tuple #[.agg #[.int .i64 sn, .bool s, .bool e, .slice A1 ps.length c1], .int .i64 0]) ∧ Sls w1 w1.heap.size A1 ps.length c1 vs ps ∧ Below w.heap.size w w1 := by
    refine hdec.mono fun en w1 hh => ?_
    obtain ⟨hb, ⟨er, e1, _⟩ | ⟨sn', s', e', ps', A1, c1, vs, e1, e2, hst⟩⟩ := hh
    · cases e1
    · cases e1
      exact ⟨A1, c1, vs, e2, hst.sls, hb⟩
  have HDEC := Lib.hid hdec
  have H64 := Lib.hid h64
  have HLE := Lib.hid hle
  clear hdec hd h hn h64 hle
  go_enter Try.func135, Try.ntmps135
  go_wp2_with fail
  refine HDEC.out.mono ?_
  rintro e1 w1 ⟨A1, c1, vs, rfl, hs, hb⟩
  have bp := Blk.new w1 26 #[.int .i64 (sn : Int), .bool s, .bool e, .slice A1 ps.length c1]
  obtain ⟨b0, b1, b2, b3⟩ := bp.four'
  have hsz := rsize_any s e A1 ps.length c1 vs ps (w1.alloc (.cells #[.int .i64 (sn : Int), .bool s, .bool e, .slice A1 ps.length c1] 26)) (hs.alloc (Nat.le_refl _) _ |>.more (by simp)) (by have := H64.out; omega) (fun p hp => by have := HLE.out p hp; omega)
  have HZ := Lib.hid hsz
  have HB := Lib.hid (hb.alloc hb.size (.cells #[.int .i64 (sn : Int), .bool s, .bool e, .slice A1 ps.length c1] 26))
  clear hsz hs hb bp
  generalize sumLen ps = S at *
  go_wp2_with (go_at_call 55; refine HZ.out.mono ?_; rintro e2 w2 ⟨rfl, hb2⟩)
  go_ret
  exact ⟨rfl, HB.out.trans (hb2.mono HB.out.size)⟩
/-- the bytes of the first k PDUs -/
def bytesTo (f : Nat → Nat) : Nat → Nat
  | 0 => 0
  | k + 1 => bytesTo f k + f k
set_option maxRecDepth 100000 in
set_option maxHeartbeats 1000000 in
theorem bytes32_any (A : Option Addr) (n c : Nat) (vs : List Value) (sizes : List UInt8) (sdus : List (List UInt8)) (N k : Nat) (w : World) (h : Sls w w.heap.size A n c vs (encs sizes sdus N)) (hv : ∀ s ∈ sdus, 1 ≤ s.length ∧ s.length ≤ 60) (hN : SentAll sizes sdus N) (hk : k < N) :
    Calls Try.prog 70 #[.slice A n c, .int .i64 k] w fun e w' => e = .returned (.tuple #[.int .i64 (bytesTo (fun i => sumLen (pdAt sizes sdus i).ps) k : Nat), .int .i64 (bytesTo (fun i => sumLen (pdAt sizes sdus i).ps) (k + 1) : Nat)]) ∧ Below w.heap.size w w' := by
  have hcap := h.sl.cap
  have hmx := h.sl.mx
  have hnN : n = N := by have := h.len; rw [encs_len] at this; omega
  subst hnN
  have hle := hN.le
  have hone : ∀ i, i < n → ∀ W : World, Below w.heap.size w W → ∃ ad Ai ci, A = some ad ∧ (ad.add i).block < W.heap.size ∧ W.cell? (ad.add i) = some (.slice Ai (encAt sizes sdus i).length ci) ∧ Calls Try.prog 135 #[.slice Ai (encAt sizes sdus i).length ci] W (Numbers (sumLen (pdAt sizes sdus i).ps) W) ∧ sumLen (pdAt sizes sdus i).ps ≤ 40000 := by
    intro i hi W hb
    obtain ⟨ad, Ai, ci, rfl, hba, hc, hsl⟩ := ((h.below hb).more hb.size).get hi
    rw [encs_get sizes sdus hi, Option.getD_some] at hc hsl
    have hp := pdAt_valid hv (hN.ne i hi)
    refine ⟨ad, Ai, ci, rfl, by rw [block_add]; exact hba, hc, ?_, by have := hp.sum; omega⟩
    exact rbytes32_any Ai _ ci (encAt sizes sdus i) _ _ _ _ W hsl (encAt_len hv (hN.ne i hi)).2 (encAt_dec hv (hN.ne i hi) (by omega)) hp.hi (fun p hm => by have := mem_le_sumLen hm; have := hp.sum; omega)
  generalize encAt sizes sdus = E at *
  obtain ⟨f, hf⟩ : ∃ f : Nat → Nat, f = fun i => sumLen (pdAt sizes sdus i).ps := ⟨_, rfl⟩
  have hff : ∀ i, sumLen (pdAt sizes sdus i).ps = f i := fun i => by rw [hf]
  simp only [hff] at hone ⊢
  have HO := Lib.hid hone
  clear hone hff hf h hv hN
  go_enter Try.func70, Try.ntmps70
  go_wp2
  go_loopg [6, 7] k (fun gk s6 s7 wr => ∃ i : Nat, gk = k - i ∧ i ≤ k ∧ s7 = .int .i64 i ∧ s6 = .int .i64 (bytesTo f i : Nat) ∧ bytesTo f i ≤ 40000 * i ∧ Below w.heap.size w wr)
  case atStart => exact ⟨0, by omega, Nat.zero_le _, rfl, rfl, by simp [bytesTo], Below.refl _ _⟩
  case round =>
    obtain ⟨i, hgk, hik, rfl, rfl, hbd, hb⟩ := hrel
    have HGK := Lib.hid hgk
    have HB := Lib.hid hb
    clear hgk hb
    have hsu : bytesTo f (i + 1) = bytesTo f i + f i := rfl
    have HSU := Lib.hid hsu
    clear hsu
    obtain ⟨ad, Ai, ci, rfl, hba, hc, hcl, hfi⟩ := HO.out i (by omega) wr HB.out
    have HC := Lib.hid hcl
    clear hcl
    generalize hF : f i = F at *
    generalize hS : bytesTo f i = S at *
    have HF := Lib.hid hF
    have HS := Lib.hid hS
    clear hF hS
    by_cases hlt : i < k
    · go_wp2_with (go_at_call 135; refine HC.out.mono ?_; rintro e1 w1 ⟨rfl, hb1⟩)
      go_roundg (k - (i + 1))
      case measure => rw [HGK.out]; omega
      case rel => exact ⟨i + 1, rfl, by omega, by go_num, by rw [HSU.out]; go_num, by rw [HSU.out]; omega, HB.out.trans (hb1.mono HB.out.size)⟩
    · have hik2 : i = k := by omega
      subst hik2
      go_wp2_with (go_at_call 135; refine HC.out.mono ?_; rintro e1 w1 ⟨rfl, hb1⟩)
      go_ret2
      exact ⟨by rw [HSU.out, show bytesTo (fun i => f i) i = S from HS.out]; rfl, HB.out.trans (hb1.mono HB.out.size)⟩
end Go.Proofs.Ytchlbpfeiamieaa
namespace Go.Proofs.Ytchlbpfeiamieaa
theorem lenAll_sumLen (l : List (List UInt8)) : lenAll l = sumLen l := rfl
theorem joinG_sum : ∀ (ps : List (List UInt8)) (op : List UInt8) (sm e : Bool), ps ≠ [] → op.length + sumLen ps = lenAll (joinG op sm ps e).1 + (joinG op sm ps e).2.1.length
  | [], _, _, _, h => absurd rfl h
  | [p], op, sm, e, _ => by cases e <;> simp [joinG, sumLen, lenAll]
  | p :: q :: r, op, sm, e, _ => by
    have ih := joinG_sum (q :: r) [] false e (by simp)
    simp only [joinG, lenAll_cons, List.length_append]
    rw [sumLen_cons32]
    simp only [List.length_nil] at ih
    omega
section
variable {sdus : List (List UInt8)} {N : Nat} {pd : Nat → Pd} {left : Nat → List (List UInt8)} {sent : Nat → Nat}
theorem head_take (hlt : ∀ i x r, left i = x :: r → sent i < x.length) (hz : ∀ i, left i = [] → sent i = 0) (i : Nat) : (((left i).headD []).take (sent i)).length = sent i := by
  cases hl : left i with
  | nil => rw [hz i hl]; simp
  | cons x r =>
    have := hlt i x r hl
    simp only [List.headD_cons, List.length_take]
    omega
theorem bytesTo_eq (T : Tx sdus N pd left sent) (hlt : ∀ i x r, left i = x :: r → sent i < x.length) (hz : ∀ i, left i = [] → sent i = 0) : ∀ k, k ≤ N → bytesTo (fun i => sumLen (pd i).ps) k = lenAll (doneAt sdus left k) + sent k
  | 0, _ => by
    unfold doneAt
    rw [T.l0, T.s0, Nat.sub_self]
    rfl
  | k + 1, hk => by
    obtain ⟨g, h1, h2, h3⟩ := T.doneStep (i := k) (by omega)
    have hj := joinG_sum (pd k).ps (((left k).headD []).take (sent k)) (decide (0 < sent k)) (pd k).en (T.ne k (by omega))
    rw [h3] at hj
    dsimp only at hj
    rw [head_take hlt hz, head_take hlt hz] at hj
    have ih := bytesTo_eq T hlt hz k (by omega)
    have e : lenAll (doneAt sdus left (k + 1)) = lenAll (doneAt sdus left k) + lenAll g := by rw [h1]; simp [lenAll]
    simp only [bytesTo]
    omega
end
theorem wantF_snoc {ps : List (List UInt8)} {i : Nat} (h : i < ps.length) (fr te : Nat) : wantF fr te 0 (ps.take (i + 1)) = wantF fr te 0 (ps.take i) ++ (if lenAll (ps.take i) + (ps[i]?.getD []).length ≤ fr ∨ te ≤ lenAll (ps.take i) then [ps[i]?.getD []] else []) := by
  rw [take_snoc h, wantF_app, Nat.zero_add]
  congr 1
theorem lenAll_snoc {ps : List (List UInt8)} {i : Nat} (h : i < ps.length) : lenAll (ps.take (i + 1)) = lenAll (ps.take i) + (ps[i]?.getD []).length := by
  rw [take_snoc h]
  simp [lenAll]
theorem wantF_len (fr te : Nat) : ∀ (a : List (List UInt8)) (at_ : Nat), (wantF fr te at_ a).length ≤ a.length
  | [], _ => by simp [wantF]
  | x :: a, at_ => by
    have := wantF_len fr te a (at_ + x.length)
    rw [wantF]
    split <;> simp only [List.length_cons] <;> omega
/-- the plain law of UmrecvHolds: without a loss -/
theorem holds_all (sizes : List UInt8) {sdus : List (List UInt8)} {N : Nat} (hv : ∀ s ∈ sdus, 1 ≤ s.length ∧ s.length ≤ 60) (hN : SentAll sizes sdus N) (lost : Int) (hl : lost < 0 ∨ (N : Int) ≤ lost) : (runH (pdAt sizes sdus) lost N).2 = sdus := by
  have T := txAt_tx sizes hv hN.le hN.ne
  obtain ⟨_, h2⟩ := runH_before T lost N (Nat.le_refl _) hl
  rw [hN.nil, List.append_nil] at h2
  exact h2.symm
/-- with one -/
theorem holds_lost (sizes : List UInt8) {sdus : List (List UInt8)} {N : Nat} (hv : ∀ s ∈ sdus, 1 ≤ s.length ∧ s.length ≤ 60) (hN : SentAll sizes sdus N) {j : Nat} (hj : j < N) :
    (runH (pdAt sizes sdus) j N).2 ++ (goesP (runH (pdAt sizes sdus) j N).1 3).2 = wantF (bytesTo (fun i => sumLen (pdAt sizes sdus i).ps) j) (bytesTo (fun i => sumLen (pdAt sizes sdus i).ps) (j + 1)) 0 sdus := by
  have T := txAt_tx sizes hv hN.le hN.ne
  have hlt : ∀ i x r, (txAt sizes sdus i).1 = x :: r → (txAt sizes sdus i).2 < x.length := fun i => (txAt_ok sizes hv i).lt
  have hz : ∀ i, (txAt sizes sdus i).1 = [] → (txAt sizes sdus i).2 = 0 := fun i => (txAt_ok sizes hv i).z
  rw [bytesTo_eq T hlt hz j (by omega), bytesTo_eq T hlt hz (j + 1) (by omega), wantF_lost T (fun s hs => (hv s hs).1) hlt hz hj]
  exact runH_tick T hN.nil (hz N hN.nil) hj
end Go.Proofs.Ytchlbpfeiamieaa
