/- law32: takes. -/
import Derived.Test.YtchlbpfeiamieaaSt
import Derived.Test.YtchlbpfeiamieaaLa
import Derived.Lib.ConvBytes
namespace Go.Proofs.Ytchlbpfeiamieaa
open Go.RowKit Go.Shelf
attribute [local go_sem] Oper.semAt_some

theorem num32_any (x : Int) (w : World) : Calls Try.prog 34 #[.int .i64 x] w fun e w' => e = .returned (.int .i64 x) ∧ w = w' := by
  go_enter Try.func34, Try.ntmps34
  go_wp2
  go_ret
  exact ⟨rfl, rfl⟩
theorem bytes32_below (w : World) (s : ByteArray) : Below w.heap.size w (Lib.bytesWorld w 5 s) :=
  ⟨rfl, rfl, rfl, by rw [Lib.bytesWorld_size]; omega, fun k hk => Lib.bytesWorld_at_old w 5 s k hk⟩
theorem bytes32_sl (w : World) (p : List UInt8) (hp : p.length ≤ 1000000) : Sl (Lib.bytesWorld w 5 ⟨p.toArray⟩) (Lib.bytesWorld w 5 ⟨p.toArray⟩).heap.size (some ⟨w.heap.size, 0, none⟩) p.length (grownCap w p.length 0 5) (bvs p) := by
  refine ⟨by simp, grownCap_ge _ _ _ _, Nat.le_trans (grownCap_le_maxLen _ _ _ _ (by unfold maxLen; omega)) (by unfold maxLen; omega), fun _ => ⟨_, rfl, lt_of_heap (Lib.bytesWorld_at_new w 5 _), fun j u hu => World.news_of_block (Lib.bytesWorld_at_new w 5 _) j u ?_⟩⟩
  unfold bvs at hu
  rw [List.getElem?_map] at hu
  unfold Lib.bytesCells
  simp only [Array.toList_append, Array.toList_map]
  rw [List.getElem?_append_left, List.getElem?_map]
  · exact hu
  · have := (List.getElem?_eq_some_iff.1 (Option.map_eq_some_iff.1 hu).choose_spec.1).1
    simpa using this
/-- a receiver whose memory lies from base on -/
def RE (W : World) (base g n : Nat) (st : Rs) : Prop := ∃ lo hi M vb, Rcv W lo hi g M n vb st ∧ StOk st ∧ Win st ∧ base ≤ g ∧ base ≤ M
theorem RE.below {W W' : World} {base g n : Nat} {st : Rs} (h : RE W base g n st) (hb : Below W.heap.size W W') : RE W' base g n st := let ⟨lo, hi, M, vb, h1, h2⟩ := h; ⟨lo, hi, M, vb, h1.below hb, h2⟩
theorem RE.win {W : World} {base g n : Nat} {st : Rs} (h : RE W base g n st) : StOk st ∧ Win st := let ⟨_, _, _, _, _, h2, h3, _⟩ := h; ⟨h2, h3⟩
/-- what a call on a receiver gives -/
def REOut (W : World) (base g n : Nat) (R : Rs × List (List UInt8)) (e : Ending) (W' : World) : Prop :=
  ∃ lo vo, e = .returned (.tuple #[vo, .int .i64 0]) ∧ OutIs W' W.heap.size lo vo R.2 ∧ RE W' base g n R.1 ∧ Below base W W'
theorem MR.below {W W' : World} {base g M : Nat} (h : Kept (MR g M) W W') (hg : base ≤ g) (hM : base ≤ M) (hb : base ≤ W.heap.size) : Below base W W' :=
  h.below (fun k o hk => by rcases hk with rfl | rfl <;> assumption) hb
theorem rrecv_re (base g n : Nat) (st : Rs) (now : Int) (A : Option Addr) (nn c : Nat) (bs : List UInt8) (w : World) (p : Pd) (h : RE w base g n st) (hn : now ≤ 1000000000000)
    (hs : Sl w w.heap.size A nn c (bvs bs)) (hnn : nn ≤ 1000000) (hd : decU bs = .inr (p.sn, p.s, p.en, p.ps)) (hp : PdOk p) (hroom : n < 9223372036854775807) (hb : base ≤ w.heap.size) :
    Calls Try.prog 32 #[.pointer (some ⟨g, 0, none⟩), .int .i64 now, .slice A nn c] w (REOut w base g (n + 1) (recvP st now p)) := by
  obtain ⟨lo, hi, M, vb, h1, h2, h3, h4, h5⟩ := h
  refine (rrecv_ok lo hi g M n vb st now A nn c bs w p h1 h2 h3 hn hs hnn hd hp hroom).mono fun e w' ⟨vb', vo', e1, hR, hO, hK⟩ => ?_
  exact ⟨lo, vo', e1, hO, ⟨lo, _, M, vb', hR, (h2.recv hn hp).1, h3.recv h2 hn hp, h4, h5⟩, MR.below hK h4 h5 hb⟩
theorem rtick_re (base g n : Nat) (st : Rs) (now : Int) (w : World) (h : RE w base g n st) (hn : now ≤ 1000000000000) (hb : base ≤ w.heap.size) :
    Calls Try.prog 33 #[.pointer (some ⟨g, 0, none⟩), .int .i64 now] w (REOut w base g n (goesP st now)) := by
  obtain ⟨lo, hi, M, vb, h1, h2, h3, h4, h5⟩ := h
  refine (rtick_any lo hi g M n vb st now w h1 h2 h3 hn).mono fun e w' ⟨vb', vo', e1, hR, hO, hK⟩ => ?_
  exact ⟨lo, vo', e1, hO, ⟨lo, _, M, vb', hR, (h2.goes hn).1, h3.goes h2 hn, h4, h5⟩, MR.below hK h4 h5 hb⟩
/-- what takes gives -/
def TakesOut (W : World) (base g n : Nat) (st : Rs) (e : Ending) (W' : World) : Prop := e = .returned (.bool true) ∧ RE W' base g n st ∧ Below base W W'
set_option maxRecDepth 100000 in
set_option maxHeartbeats 1000000 in
theorem takes_none (base g n : Nat) (st : Rs) (now : Int) (bs : List UInt8) (p : Pd) (w : World) (h : RE w base g n st) (hn : now ≤ 1000000000000) (hsm : bs.length ≤ 1000000) (hd : decU bs = .inr (p.sn, p.s, p.en, p.ps)) (hp : PdOk p) (hroom : n < 9223372036854775807) (hb : base ≤ w.heap.size)
    (hout : (recvP st now p).2 = []) : Calls Try.prog 102 #[.pointer (some ⟨g, 0, none⟩), .int .i64 now, .string ⟨bs.toArray⟩, .string ⟨#[]⟩] w (TakesOut w base g (n + 1) (recvP st now p).1) := by
  have hbb := bytes32_below w ⟨bs.toArray⟩
  have hsl := bytes32_sl w bs hsm
  have hrc := rrecv_re base g n st now _ bs.length _ bs _ p (h.below hbb) hn hsl hsm hd hp hroom (Nat.le_trans hb hbb.size)
  have kc := fun (W : World) => Lib.run_convert_string_bytes (P := Try.prog) W 9 29 5 ⟨bs.toArray⟩ (u := .string) (by kernel_rfl) und29 und5
  have hs1 : (⟨bs.toArray⟩ : ByteArray).size = bs.length := by simp [ByteArray.size]
  rw [hs1] at kc
  have HRC := Lib.hid hrc
  have HBB := Lib.hid hbb
  have HOUT := Lib.hid hout
  have HB := Lib.hid hb
  clear hrc hbb hsl hout h hd hp hs1 hb
  generalize (⟨bs.toArray⟩ : ByteArray) = ba at *
  go_enter Try.func102, Try.ntmps102
  go_wp2_with (first
    | (go_at_call 32; refine HRC.out.mono ?_; rintro e1 w1 ⟨lo, vo, rfl, hO, hE, hB1⟩; rw [HOUT.out] at hO; obtain ⟨A2, c2, vs2, rfl, hc2, hm2, _⟩ := hO.one)
    | (go_at_call 34; refine (num32_any _ _).mono ?_; rintro e1 w2 ⟨rfl, rfl⟩))
  go_ret
  exact ⟨rfl, hE, (HBB.out.mono HB.out).trans hB1⟩
set_option maxRecDepth 100000 in
set_option maxHeartbeats 1000000 in
theorem takes_one (base g n : Nat) (st : Rs) (now : Int) (bs ws : List UInt8) (p : Pd) (w : World) (h : RE w base g n st) (hn : now ≤ 1000000000000) (hsm : bs.length ≤ 1000000) (hd : decU bs = .inr (p.sn, p.s, p.en, p.ps)) (hp : PdOk p) (hroom : n < 9223372036854775807) (hb : base ≤ w.heap.size)
    (hout : (recvP st now p).2 = [ws]) : Calls Try.prog 102 #[.pointer (some ⟨g, 0, none⟩), .int .i64 now, .string ⟨bs.toArray⟩, .string ⟨ws.toArray⟩] w (TakesOut w base g (n + 1) (recvP st now p).1) := by
  have hbb := bytes32_below w ⟨bs.toArray⟩
  have hsl := bytes32_sl w bs hsm
  have hrc := rrecv_re base g n st now _ bs.length _ bs _ p (h.below hbb) hn hsl hsm hd hp hroom (Nat.le_trans hb hbb.size)
  have kc := fun (W : World) => Lib.run_convert_string_bytes (P := Try.prog) W 9 29 5 ⟨bs.toArray⟩ (u := .string) (by kernel_rfl) und29 und5
  have hs1 : (⟨bs.toArray⟩ : ByteArray).size = bs.length := by simp [ByteArray.size]
  rw [hs1] at kc
  have hrc : Calls Try.prog 32 #[.pointer (some ⟨g, 0, none⟩), .int .i64 now, .slice (some ⟨w.heap.size, 0, none⟩) bs.length (grownCap w bs.length 0 5)] (Lib.bytesWorld w 5 ⟨bs.toArray⟩) fun e w1 => ∃ ad c2 A3 c3, e = .returned (.tuple #[.slice (some ad) 1 c2, .int .i64 0]) ∧ 1 ≤ c2 ∧ c2 ≤ 9223372036854775807 ∧ w1.cell? ad = some (.slice A3 ws.length c3) ∧ (convert 29 9 (.slice A3 ws.length c3)).run Try.prog w1 = .ok (.string ⟨ws.toArray⟩) w1 ∧ RE w1 base g (n + 1) (recvP st now p).1 ∧ Below base (Lib.bytesWorld w 5 ⟨bs.toArray⟩) w1 := by
    refine hrc.mono fun e w1 hh => ?_
    obtain ⟨lo, vo, rfl, hO, hE, hB1⟩ := hh
    rw [hout] at hO
    obtain ⟨A2, c2, vs2, rfl, hc2, hm2, _, hsl2, _, heach⟩ := hO.one
    obtain ⟨vi, hv, ho⟩ := heach 0 ws rfl
    obtain ⟨A3, c3, rfl, hs3, _⟩ := own_sl ho
    obtain ⟨ad, rfl, _, hcl⟩ := hsl2.at_ (by simp)
    have hcell := hcl 0 _ hv
    refine ⟨ad, c2, A3, c3, rfl, hc2, hm2, by simpa [Addr.add] using hcell, conv_sl hs3, hE, hB1⟩
  have HRC := Lib.hid hrc
  have HBB := Lib.hid hbb
  have HB := Lib.hid hb
  clear hrc hbb hsl hout h hd hp hs1 hb
  generalize (⟨bs.toArray⟩ : ByteArray) = ba at *
  generalize (⟨ws.toArray⟩ : ByteArray) = wa at *
  go_enter Try.func102, Try.ntmps102
  go_wp2_with (first
    | (go_at_call 32; refine HRC.out.mono ?_; rintro e1 w1 ⟨ad, c2, A3, c3, rfl, hc2, hm2, hcell, hcv, hE, hB1⟩)
    | (go_at_call 34; refine (num32_any _ _).mono ?_; rintro e1 w2 ⟨rfl, rfl⟩))
  all_goals
    go_ret
    exact ⟨rfl, hE, (HBB.out.mono HB.out).trans hB1⟩
end Go.Proofs.Ytchlbpfeiamieaa
