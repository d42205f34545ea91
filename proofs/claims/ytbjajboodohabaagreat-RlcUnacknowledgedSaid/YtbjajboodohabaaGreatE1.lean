/- Unacknowledged mode: a transmitter and a receiver as plain states; each in its own part of memory. -/
import Derived.Test.YtbjajboodohabaaGreatKc
import Derived.Test.YtbjajboodohabaaGreatJ9
import Derived.Test.YtbjajboodohabaaGreatS5
import Derived.Test.YtbjajboodohabaaGreatSe
import Derived.Test.YtbjajboodohabaaGreatNa
namespace Go.Proofs.YtbjajboodohabaaGreat
open Go.RowKit Go.Shelf
attribute [local go_sem] Oper.semAt_some
/-! ### plain -/
structure Us where
  sdus : List (List UInt8)
  sent : Nat
  cap : Nat
  next : Nat
def subU (u : Us) (x : List UInt8) : Us × Int :=
  if x.length = 0 ∨ 9000 < x.length then (u, 2) else if u.cap + u.sent < sumLen u.sdus + x.length then (u, 7) else ({ u with sdus := u.sdus ++ [x] }, 0)
def chkU (u : Us) (n : Int) : List (List UInt8) × Bool × List (List UInt8) × Nat := chk n (u.sdus.length + 1) u.sdus u.sent 0 0 0 false
def grU (u : Us) (n : Int) : Us × List UInt8 × Int :=
  if n < 0 then (u, [], 2)
  else if (chkU u n).1 = [] then (u, [], 0)
  else (⟨(chkU u n).2.2.1, (chkU u n).2.2.2, u.cap, (u.next + 1) % 1024⟩, encU u.next (decide (u.sent = 0)) (chkU u n).2.1 (chkU u n).1, 0)
def bufU (u : Us) : Int := (sumLen u.sdus : Int) - (u.sent : Int)
/-- k: calls so far -/
structure UsOk (u : Us) (k : Nat) : Prop where
  cap1 : 1 ≤ u.cap
  cap2 : u.cap ≤ 1048576
  num : u.sdus.length ≤ k
  len : ∀ s ∈ u.sdus, 1 ≤ s.length ∧ s.length ≤ 9000
  lt : ∀ x r, u.sdus = x :: r → u.sent < x.length
  z : u.sdus = [] → u.sent = 0
  next : u.next ≤ 1023
theorem sumLen_le {l : List (List UInt8)} {m : Nat} (h : ∀ s ∈ l, s.length ≤ m) : sumLen l ≤ m * l.length := by
  induction l with
  | nil => simp [sumLen]
  | cons x r ih =>
    have h1 := h x (by simp)
    have h2 := ih fun s hs => h s (by simp [hs])
    simp only [sumLen, List.map_cons, List.sum_cons, List.length_cons] at h2 ⊢
    rw [Nat.mul_add]
    omega
theorem UsOk.sum {u : Us} {k : Nat} (h : UsOk u k) : sumLen u.sdus ≤ 9000 * k :=
  Nat.le_trans (sumLen_le fun s hs => (h.len s hs).2) (Nat.mul_le_mul_left _ h.num)
theorem UsOk.sent {u : Us} {k : Nat} (h : UsOk u k) : u.sent ≤ sumLen u.sdus := by
  cases hs : u.sdus with
  | nil => rw [h.z hs]; exact Nat.zero_le _
  | cons x r =>
    have := h.lt x r hs
    simp only [sumLen, List.map_cons, List.sum_cons]
    omega
theorem UsOk.mono {u : Us} {k k' : Nat} (h : UsOk u k) (hk : k ≤ k') : UsOk u k' := ⟨h.cap1, h.cap2, Nat.le_trans h.num hk, h.len, h.lt, h.z, h.next⟩
theorem UsOk.sub {u : Us} {k : Nat} (h : UsOk u k) (x : List UInt8) : UsOk (subU u x).1 (k + 1) := by
  unfold subU
  split
  · exact h.mono (by omega)
  · rename_i hx
    split
    · exact h.mono (by omega)
    · refine ⟨h.cap1, h.cap2, by have := h.num; simp; omega, fun s hs => ?_, fun y r hy => ?_, fun e => by simp at e, h.next⟩
      · rcases List.mem_append.1 hs with e | e
        · exact h.len s e
        · simp at e
          subst e
          omega
      · cases hq : u.sdus with
        | nil =>
          rw [hq] at hy
          simp at hy
          have := h.z hq
          obtain ⟨rfl, _⟩ := hy
          dsimp only
          omega
        | cons a b =>
          rw [hq] at hy
          simp at hy
          obtain ⟨rfl, _⟩ := hy
          exact h.lt _ b hq
theorem UsOk.gr {u : Us} {k : Nat} (h : UsOk u k) (n : Int) : UsOk (grU u n).1 k := by
  unfold grU
  split
  · exact h
  split
  · exact h
  · rename_i hne
    have ho := chk_ok n (u.sdus.length + 1) u.sdus u.sent 0 0 0 false (fun s hs => (h.len s hs).1) h.lt h.z
    obtain ⟨g, hg, _⟩ := ho.some_ hne
    refine ⟨h.cap1, h.cap2, ?_, fun s hs => h.len s ?_, ho.lt_, ho.z_, by dsimp only; omega⟩
    · have := h.num
      have e := congrArg List.length hg
      rw [List.length_append] at e
      show (chkU u n).2.2.1.length ≤ k
      unfold chkU
      omega
    · rw [hg]
      exact List.mem_append.2 (.inr hs)
/-- any bytes are received -/
def recvB (st : Rs) (now : Int) (bs : List UInt8) : Rs × List (List UInt8) × Int :=
  match decU bs with
  | .inl er => (st, [], er)
  | .inr (sn, s, en, ps) => ((recvP st now ⟨sn, s, en, ps⟩).1, (recvP st now ⟨sn, s, en, ps⟩).2, 0)
theorem mem_sumLen {q : List UInt8} {ps : List (List UInt8)} (h : q ∈ ps) : q.length ≤ sumLen ps := by
  induction ps with
  | nil => cases h
  | cons x r ih =>
    simp only [sumLen, List.map_cons, List.sum_cons]
    rcases List.mem_cons.1 h with rfl | h
    · omega
    · have := ih h
      unfold sumLen at this
      omega
theorem pdOk_dec {bs : List UInt8} {sn : Nat} {s e : Bool} {ps : List (List UInt8)} (h : decU bs = .inr (sn, s, e, ps)) : PdOk ⟨sn, s, e, ps⟩ := by
  obtain ⟨h1, h2, _⟩ := enc_dec bs sn s e ps h
  refine ⟨by dsimp only; omega, h2.hi, fun q hq => ⟨h2.pos q hq, ?_⟩⟩
  have h3 := h2.sum
  have : q.length ≤ sumLen ps := mem_sumLen hq
  omega
/-! ### in memory -/
/-- what a component's call may write: its own blocks, no bytes -/
def OnF (F : Nat → Prop) (k : Nat) (o : Obj) : Prop := F k ∧ ¬ IsRow o 5
/-- a component is there, whatever others write -/
def FarP (P : (Nat → Prop) → World → Prop) : Prop := ∀ F w w' M, P F w → Kept M w w' → (∀ k o, M k o → ¬ F k ∧ ¬ IsRow o 5) → P F w'
/-- a component's blocks are there -/
def LtP (P : (Nat → Prop) → World → Prop) : Prop := ∀ F w k, P F w → F k → k < w.heap.size
def SndP (base g : Nat) (u : Us) (F : Nat → Prop) (w : World) : Prop := ∃ v vs, Snd w base g v vs u.sdus u.sent u.cap u.next ∧ ∀ k, F k ↔ k = g ∨ qBlock v = some k
def RcvP (base r n : Nat) (st : Rs) (F : Nat → Prop) (w : World) : Prop := ∃ lo hi M vb, Rcv w lo hi r M n vb st ∧ StOk st ∧ Win st ∧ base ≤ lo ∧ ∀ k, F k ↔ k = r ∨ k = M ∨ hi k
theorem sndP_far (base g : Nat) (u : Us) : FarP (SndP base g u) := by
  rintro F w w' M ⟨v, vs, h, hF⟩ hk hm
  refine ⟨v, vs, ⟨h.blk.kept hk fun e => (hm _ _ e).1 ((hF g).2 (.inl rfl)), h.row.keep fun k hq => ?_, fun i p hi => ?_⟩, hF⟩
  · obtain ⟨cur, hh, _⟩ := h.row.row hq
    rw [hk.same _ _ hh fun e => (hm _ _ e).1 ((hF k).2 (.inr hq)), hh]
  · obtain ⟨A, c, e, ho⟩ := h.each i p hi
    exact ⟨A, c, e, own_kept ho hk fun k o hr _ e => (hm _ _ e).2 hr⟩
theorem sndP_lt (base g : Nat) (u : Us) : LtP (SndP base g u) := by
  rintro F w k ⟨v, vs, h, hF⟩ hk
  rcases (hF k).1 hk with rfl | e
  · exact h.blk.lt
  · exact (h.row.lt e).2
theorem rcvP_far (base r n : Nat) (st : Rs) : FarP (RcvP base r n st) := by
  rintro F w w' K ⟨lo, hi, M, vb, h, h1, h2, h3, hF⟩ hk hm
  refine ⟨lo, hi, M, vb, ⟨h.blk.kept hk fun e => (hm _ _ e).1 ((hF r).2 (.inl rfl)), own_kept h.row hk fun k o hr _ e => (hm _ _ e).2 hr, ?_, h.hg, h.hM, h.ne, Nat.le_trans h.hlo hk.size, fun j hj => Nat.lt_of_lt_of_le (h.hhi j hj) hk.size⟩, h1, h2, h3, hF⟩
  obtain ⟨G, g1, g2⟩ := h.mp
  refine ⟨G, g1.same ?_, fun k => ⟨(g2 k).1, fun p hp => ?_⟩⟩
  · obtain ⟨D, ⟨es, clock, hb, _⟩, _⟩ := g1
    rw [hk.same _ _ hb fun e => (hm _ _ e).1 ((hF M).2 (.inr (.inl rfl))), hb]
  · obtain ⟨vo, e, ⟨vs, g, cap, data, k1, k2, k3⟩, hj⟩ := (g2 k).2 p hp
    exact ⟨vo, e, ⟨vs, g, cap, data, own_kept k1 hk fun k o _ hq e => (hm _ _ e).1 ((hF k).2 (.inr (.inr (hj k hq)))), own_kept k2 hk fun k o hr _ e => (hm _ _ e).2 hr, k3⟩, hj⟩
theorem rcvP_lt (base r n : Nat) (st : Rs) : LtP (RcvP base r n st) := by
  rintro F w k ⟨lo, hi, M, vb, h, _, _, _, hF⟩ hk
  rcases (hF k).1 hk with rfl | rfl | e
  · exact h.blk.lt
  · exact Nat.lt_of_lt_of_le h.hM h.hlo
  · exact h.hhi k e
/-- what a call of a component leaves -/
def CallF (P : (Nat → Prop) → World → Prop) (F : Nat → Prop) (w w' : World) : Prop := ∃ F', P F' w' ∧ (∀ k, F' k → F k ∨ w.heap.size ≤ k) ∧ Kept (OnF F) w w'
section
variable {base g k : Nat} {u : Us} {F : Nat → Prop} {w : World}
theorem sndP_submit (h : SndP base g u F w) (ho : UsOk u k) (hk : k ≤ 100) (hb : base ≤ w.heap.size) {A : Option Addr} {n c : Nat} {x : List UInt8} (hx : Sl w w.heap.size A n c (bvs x)) :
    Calls Tryz.prog 10 #[.pointer (some ⟨g, 0, none⟩), .slice A n c] w fun e w' => e = .returned (.int .i64 (subU u x).2) ∧ CallF (SndP base g (subU u x).1) F w w' := by
  obtain ⟨v, vs, h, hF⟩ := h
  have hn : x.length = n := by simpa using hx.len
  subst hn
  have hs := ho.sum
  have hse := ho.sent
  have hc1 := ho.cap1
  have hc2 := ho.cap2
  have hnu := ho.num
  unfold subU
  by_cases h1 : x.length = 0 ∨ 9000 < x.length
  · rw [if_pos h1]
    exact (ssubmit_size g base u.sent u.cap u.next v vs u.sdus A x.length c w h hc1 h1 hx.cap hx.mx).mono fun e w' ⟨he, hw⟩ => ⟨he, F, hw ▸ ⟨v, vs, h, hF⟩, fun k hk => .inl hk, hw ▸ Kept.refl _ _⟩
  · rw [if_neg h1]
    by_cases h2 : u.cap + u.sent < sumLen u.sdus + x.length
    · rw [if_pos h2]
      refine (ssubmit_full g base u.sent u.cap u.next v vs u.sdus A x.length c w h hc1 (by omega) (by omega) hx.cap hx.mx (by omega) hse hc2 h2).mono fun e w' ⟨he, q, hq⟩ => ⟨he, F, ?_, fun k hk => .inl hk, hq ▸ (Kept.refl _ w).drewN q⟩
      exact ⟨v, vs, h.below (Drew.below ⟨q, hq⟩ w.heap.size) (Nat.le_refl _), hF⟩
    · rw [if_neg h2]
      refine (ssubmit_ok g base u.sent u.cap u.next v vs u.sdus A x.length c x w h hx hc1 (by omega) (by omega) (by omega) hse hc2 (by omega) (by omega) hb).mono fun e w' ⟨he, v', vs', h', hk', hq⟩ => ⟨he, fun k => k = g ∨ qBlock v' = some k, ⟨v', vs', h', fun k => Iff.rfl⟩, fun k hk => ?_, ?_⟩
      · rcases hk with rfl | e
        · exact .inl ((hF k).2 (.inl rfl))
        · rcases hq k e with e | e
          · exact .inl ((hF k).2 (.inr e))
          · exact .inr e
      · refine hk'.mono_at fun j o hj hm => ⟨(hF j).2 hm, ?_⟩
        rintro ⟨cs, fr, rfl⟩
        rcases hm with rfl | e
        · have hb2 := h.blk
          unfold Blk at hb2
          rw [hj] at hb2
          cases hb2
        · obtain ⟨cur, hh, _⟩ := h.row.row e
          rw [hj] at hh
          cases hh
/-- what Grant gives -/
def GrP (base g : Nat) (R : Us × List UInt8 × Int) (F : Nat → Prop) (w : World) (e : Ending) (w' : World) : Prop :=
  ∃ vb, e = .returned (.tuple #[vb, .int .i64 R.2.2]) ∧ w'.ownsRow w.heap.size 5 1 vb R.2.1.length (bvs R.2.1) ∧ CallF (SndP base g R.1) F w w'
theorem sndP_grant (h : SndP base g u F w) (ho : UsOk u k) (n : Int) (hn : n ≤ 9223372036854775807) :
    Calls Tryz.prog 12 #[.pointer (some ⟨g, 0, none⟩), .int .i64 n] w (GrP base g (grU u n) F w) := by
  obtain ⟨v, vs, h, hF⟩ := h
  have key : ∀ (bs : List UInt8) (er : Int) (sdus' : List (List UInt8)) (sent' next' : Nat), Calls Tryz.prog 12 #[.pointer (some ⟨g, 0, none⟩), .int .i64 n] w (GrantOut w base g v u.cap bs er sdus' sent' next') →
      Calls Tryz.prog 12 #[.pointer (some ⟨g, 0, none⟩), .int .i64 n] w (GrP base g (⟨sdus', sent', u.cap, next'⟩, bs, er) F w) := by
    intro bs er sdus' sent' next' hc
    refine hc.mono fun e w' ⟨vb, v', vs', he, hvb, hS, hq, hk⟩ => ⟨vb, he, hvb, F, ⟨v', vs', hS, fun k => by rw [hq]; exact hF k⟩, fun k hk => .inl hk, hk.mono_at fun j o hj hm => ⟨(hF j).2 (.inl hm), ?_⟩⟩
    rintro ⟨cs, fr, rfl⟩
    have hb2 := h.blk
    unfold Blk at hb2
    rw [show j = g from hm, ] at hj
    rw [hj] at hb2
    cases hb2
  have hl : ∀ s ∈ u.sdus, 1 ≤ s.length ∧ s.length ≤ 1000000 := fun s hs => ⟨(ho.len s hs).1, by have := (ho.len s hs).2; omega⟩
  unfold grU
  by_cases h0 : n < 0
  · rw [if_pos h0]
    exact key _ _ _ _ _ (sgrant_neg g base u.sent u.cap u.next n v vs u.sdus w h ho.cap1 h0)
  · rw [if_neg h0]
    by_cases h1 : (chkU u n).1 = []
    · rw [if_pos h1]
      exact key _ _ _ _ _ (sgrant_none g base u.sent u.cap u.next n v vs u.sdus w h ho.cap1 (by omega) hn hl ho.lt ho.z h1)
    · rw [if_neg h1]
      exact key _ _ _ _ _ (sgrant_ok g base u.sent u.cap u.next n v vs u.sdus w h ho.cap1 ho.next (by omega) hn hl ho.lt ho.z _ rfl h1)
theorem sndP_buffered (h : SndP base g u F w) (ho : UsOk u k) (hk : k ≤ 100) : Calls Tryz.prog 19 #[.pointer (some ⟨g, 0, none⟩)] w fun e w' => e = .returned (.int .i64 (bufU u)) ∧ Below w.heap.size w w' := by
  obtain ⟨v, vs, h, hF⟩ := h
  have hs := ho.sum
  have hse := ho.sent
  have hnu := ho.num
  exact sbuffered_any g base u.sent u.cap u.next v vs u.sdus w h ho.cap1 (by omega) (by omega) (by omega) ho.z
end
section
variable {base r n : Nat} {st : Rs} {F : Nat → Prop} {w : World}
/-- what a receiver's call gives: SDUs and an error -/
def OutP (base r n : Nat) (R : Rs × List (List UInt8) × Int) (F : Nat → Prop) (w : World) (e : Ending) (w' : World) : Prop :=
  ∃ vo lo, e = .returned (.tuple #[vo, .int .i64 R.2.2]) ∧ OutIs w' w.heap.size lo vo R.2.1 ∧ CallF (RcvP base r n R.1) F w w'
theorem outIs_sls {w : World} {b lo : Nat} {v : Value} {outs : List (List UInt8)} (h : OutIs w b lo v outs) : ∃ A c vs, v = .slice A outs.length c ∧ Sls w w.heap.size A outs.length c vs outs := by
  obtain ⟨vs, h1, h2⟩ := h
  obtain ⟨A, c, rfl, hs, _⟩ := own_sl h1
  refine ⟨A, c, vs, rfl, hs, rfl, fun i p hi => ?_⟩
  obtain ⟨vi, e, ho⟩ := h2 i p hi
  obtain ⟨Ai, ci, rfl, hsi, _⟩ := own_sl ho
  exact ⟨Ai, ci, e, hsi⟩
theorem rcvP_out (h : RcvP base r n st F w) {n' : Nat} {R : Rs × List (List UInt8)} {er : Int} {e : Ending} {w' : World} (ho : StOk R.1) (hw : Win R.1)
    (hh : ∃ lo hi M vb vb' vo', Rcv w lo hi r M n vb st ∧ base ≤ lo ∧ (∀ k, F k ↔ k = r ∨ k = M ∨ hi k) ∧ e = .returned (.tuple #[vo', .int .i64 er]) ∧ Rcv w' lo (fun j => hi j ∨ (w.heap.size ≤ j ∧ j < w'.heap.size)) r M n' vb' R.1 ∧ OutIs w' w.heap.size lo vo' R.2 ∧ Kept (MR r M) w w') : OutP base r n' (R.1, R.2, er) F w e w' := by
  obtain ⟨lo, hi, M, vb, vb', vo', h0, hlo, hF, he, hR, hO, hk⟩ := hh
  refine ⟨vo', lo, he, hO, fun k => k = r ∨ k = M ∨ hi k ∨ (w.heap.size ≤ k ∧ k < w'.heap.size), ⟨lo, _, M, vb', hR, ho, hw, hlo, fun k => Iff.rfl⟩, fun k hk => ?_, hk.mono_at fun j o hj hm => ⟨?_, ?_⟩⟩
  · rcases hk with e | e | e | e
    · exact .inl ((hF k).2 (.inl e))
    · exact .inl ((hF k).2 (.inr (.inl e)))
    · exact .inl ((hF k).2 (.inr (.inr e)))
    · exact .inr e.1
  · rcases hm with e | e
    · exact (hF j).2 (.inl e)
    · exact (hF j).2 (.inr (.inl e))
  · rintro ⟨cs, fr, rfl⟩
    rcases hm with rfl | rfl
    · have hb2 := h0.blk
      unfold Blk at hb2
      rw [hj] at hb2
      cases hb2
    · obtain ⟨G, ⟨D, ⟨es, clock, hb, _⟩, _⟩, _⟩ := h0.mp
      rw [hj] at hb
      cases hb
theorem rcvP_receive (h : RcvP base r n st F w) (now : Int) (hn : now ≤ 9223372036854775807) {A : Option Addr} {nn c : Nat} {bs : List UInt8} (hs : Sl w w.heap.size A nn c (bvs bs)) (hnn : nn ≤ 1000000) (hroom : n < 9223372036854775807) :
    Calls Tryz.prog 14 #[.pointer (some ⟨r, 0, none⟩), .int .i64 now, .slice A nn c] w (OutP base r (n + 1) (recvB st now bs) F w) := by
  have hP := h
  obtain ⟨lo, hi, M, vb, h, h1, h2, h3, hF⟩ := h
  unfold recvB
  cases hd : decU bs with
  | inl er =>
    refine (rrecv_bad lo hi r M n vb st now A nn c bs er w h hs hnn hd (decU_err bs er hd)).mono fun e w' ⟨he, hR, hb⟩ => ⟨.slice none 0 0, 0, he, OutIs.nil _ _ _, F, ?_, fun k hk => .inl hk, (Kept.of_below hb).mono_at fun j o hj hm => by have := lt_of_heap hj; omega⟩
    exact ⟨lo, hi, M, vb, hR.mono (Nat.le_succ n), h1, h2, h3, hF⟩
  | inr p =>
    obtain ⟨sn, s, en, ps⟩ := p
    have hp := pdOk_dec hd
    exact (rrecv_ok lo hi r M n vb st now A nn c bs w ⟨sn, s, en, ps⟩ h h1 h2 hn hs hnn hd hp hroom).mono fun e w' ⟨vb', vo', he, hR, hO, hk⟩ =>
      rcvP_out hP (h1.recv hn hp).1 (h2.recv h1 hn hp) ⟨lo, hi, M, vb, vb', vo', h, h3, hF, he, hR, hO, hk⟩
theorem rcvP_tick (h : RcvP base r n st F w) (now : Int) (hn : now ≤ 9223372036854775807) :
    Calls Tryz.prog 17 #[.pointer (some ⟨r, 0, none⟩), .int .i64 now] w (OutP base r n ((goesP st now).1, (goesP st now).2, 0) F w) := by
  have hP := h
  obtain ⟨lo, hi, M, vb, h, h1, h2, h3, hF⟩ := h
  exact (rtick_any lo hi r M n vb st now w h h1 h2 hn).mono fun e w' ⟨vb', vo', he, hR, hO, hk⟩ =>
    rcvP_out hP (h1.goes hn).1 (h2.goes h1 hn) ⟨lo, hi, M, vb, vb', vo', h, h3, hF, he, hR, hO, hk⟩
end
end Go.Proofs.YtbjajboodohabaaGreat
