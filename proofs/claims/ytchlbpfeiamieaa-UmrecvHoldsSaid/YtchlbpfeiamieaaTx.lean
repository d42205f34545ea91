/- umrecv: PDUs delivered one behind another (plain). umrecv: a transmitter's PDUs received in turn, but for one (plain). umrecv: a transmitter's PDUs received in turn, but for one: behind the lost one (plain). umrecv: the timer expires: what was stored is delivered (plain). umrecv: UmrecvHolds' loop (plain). -/
import Derived.Test.YtchlbpfeiamieaaSj
namespace Go.Proofs.Ytchlbpfeiamieaa

/-- m PDUs are delivered, from number k on -/
def dlvs (pd : Nat → Pd) : Nat → Nat → Rs → Rs × List (List UInt8)
  | 0, _, st => (st, [])
  | m + 1, k, st => ((dlvs pd m (k + 1) (dlv st (pd k)).1).1, (dlv st (pd k)).2 ++ (dlvs pd m (k + 1) (dlv st (pd k)).1).2)
theorem joinG_one (op : List UInt8) (sm : Bool) (p : List UInt8) (e : Bool) : joinG op sm [p] e = if e = true then ([op ++ p], [], false) else ([], op ++ p, true) := by cases e <;> rfl
section
variable {sdus : List (List UInt8)} {N : Nat} {pd : Nat → Pd} {left : Nat → List (List UInt8)} {sent : Nat → Nat}
/-- from PDU k on, to the end: what is left is returned, but for the SDU that is under way and not open -/
theorem dlvs_left (T : Tx sdus N pd left sent) (hl : left N = []) : ∀ (m k : Nat) (st : Rs), k + m = N → -1 ≤ st.last → st.last < k → OpenOk left sent st →
    (dlvs pd m k st).2 = if sent k = 0 ∨ (st.last + 1 = k ∧ st.sm = true) then left k else (left k).tail
  | 0, k, st, hk, _, _, _ => by
    have : k = N := by omega
    subst this
    rw [hl]
    simp [dlvs]
  | m + 1, k, st, hk, h1, h2, h3 => by
    have hkN : k < N := by omega
    obtain ⟨ho, g, hg, _, hgood, hoff⟩ := T.dlv hkN h1 h2 h3
    have hlast : (dlv st (pd k)).1.last = k := by simp only [dlv, T.sn k hkN]
    have ih := dlvs_left T hl m (k + 1) (dlv st (pd k)).1 (by omega) (by rw [hlast]; omega) (by rw [hlast]; omega) ho
    have hcond : ((dlv st (pd k)).1.last + 1 = ((k + 1 : Nat) : Int)) := by rw [hlast]; omega
    obtain ⟨g', hd', hleft, hj⟩ := T.doneStep hkN
    have hgg : g' = g := by
      rw [hd'] at hg
      exact List.append_cancel_left hg
    subst hgg
    simp only [dlvs]
    rw [ih]
    by_cases hc : sent k = 0 ∨ (st.last + 1 = k ∧ st.sm = true)
    · obtain ⟨e1, e2⟩ := hgood hc
      rw [if_pos hc, e1, hleft]
      by_cases hs : sent (k + 1) = 0
      · rw [if_pos (.inl hs)]
      · rw [if_pos (.inr ⟨hcond, by rw [e2]; simp; omega⟩)]
    · obtain ⟨e1, e2, e3⟩ := hoff hc
      rw [if_neg hc, e1]
      have hpos : decide (0 < sent k) = true := by
        have : sent k ≠ 0 := fun e => hc (.inl e)
        simp
        omega
      rw [hpos] at hj
      by_cases hone : (pd k).ps.length = 1
      · have e4 := e2 hone
        match hps : (pd k).ps, hone with
        | [p], _ =>
          rw [hps, joinG_one] at hj
          cases hen : (pd k).en with
          | true =>
            rw [hen, if_pos rfl] at hj
            simp only [Prod.mk.injEq] at hj
            obtain ⟨hj1, _, hj3⟩ := hj
            have hs : sent (k + 1) = 0 := by
              have : ¬ 0 < sent (k + 1) := by simpa using hj3.symm
              omega
            rw [if_pos (.inl hs), hleft, ← hj1]
            rfl
          | false =>
            rw [hen, if_neg (by simp)] at hj
            simp only [Prod.mk.injEq] at hj
            obtain ⟨hj1, _, hj3⟩ := hj
            have hs : 0 < sent (k + 1) := by simpa using hj3.symm
            rw [if_neg (by rintro (h | ⟨_, h⟩); omega; rw [e4] at h; cases h), hleft, ← hj1]
            rfl
      · have e4 := e3 hone
        have hgood2 : sent (k + 1) = 0 ∨ ((dlv st (pd k)).1.last + 1 = ((k + 1 : Nat) : Int) ∧ (dlv st (pd k)).1.sm = true) := by
          by_cases hs : sent (k + 1) = 0
          · exact .inl hs
          · exact .inr ⟨hcond, by rw [e4]; simp; omega⟩
        rw [if_pos hgood2, hleft]
        match hps : (pd k).ps, hone with
        | [], _ => exact absurd hps (T.ne k hkN)
        | [p], h => exact absurd rfl h
        | p :: q :: r, _ =>
          rw [hps] at hj
          simp only [joinG, Prod.mk.injEq] at hj
          obtain ⟨hj1, _⟩ := hj
          rw [← hj1]
          rfl
end
end Go.Proofs.Ytchlbpfeiamieaa
namespace Go.Proofs.Ytchlbpfeiamieaa

theorem advP_stop32 {f : Nat} {st : Rs} (h : st.m st.next = none) : advP f st = (st, []) := by
  cases f with
  | zero => rfl
  | succ f => rw [advP, if_neg (by simp [h])]
theorem clock_same {st : Rs} {now : Int} (h : ¬ st.now < now) : clock st now = st := by
  unfold clock
  rw [if_neg h]
section
variable {sdus : List (List UInt8)} {N : Nat} {pd : Nat → Pd} {left : Nat → List (List UInt8)} {sent : Nat → Nat}
/-- PDUs 0 to i - 1 were received in turn -/
structure HoldA (left : Nat → List (List UInt8)) (sent : Nat → Nat) (st : Rs) (i : Nat) : Prop where
  next : st.next = i
  high : st.high = i
  ro : st.ro = false
  trig : st.trig = 0
  m : ∀ k, st.m k = none
  last : st.last + 1 = i
  sm : st.sm = decide (0 < sent i)
  op : OpenOk left sent st
  now : st.now = 0
  dur : st.dur = 3
theorem HoldA.recv (T : Tx sdus N pd left sent) {st : Rs} {i : Nat} (h : HoldA left sent st i) (hi : i < N) : HoldA left sent (recvP st 0 (pd i)).1 (i + 1) ∧ left i = (recvP st 0 (pd i)).2 ++ left (i + 1) := by
  have h200 := T.n200
  have hsn := T.sn i hi
  have hgo : goesP st 0 = (st, []) := by
    unfold goesP
    rw [clock_same (by rw [h.now]; omega), if_pos (.inl h.ro)]
  have hpl : ∀ k, k ≤ 1023 → placeP k k = 512 := fun k hk => place_self hk
  have hmv : moveP st (pd i) = (highUp (storeP st (pd i)) (pd i), []) := by
    unfold moveP
    rw [hsn, h.high, h.next, hpl i (by omega), if_pos (Nat.le_refl _), if_neg (by omega)]
  have hns : (highUp (storeP st (pd i)) (pd i)).m i = some (pd i) := by simp [highUp, storeP, mPut, hsn]
  have hnx : (highUp (storeP st (pd i)) (pd i)).next = i := h.next
  have htk : takeP (highUp (storeP st (pd i)) (pd i)) i = dlv { highUp (storeP st (pd i)) (pd i) with m := mPut (highUp (storeP st (pd i)) (pd i)).m i none } (pd i) := by unfold takeP; rw [hns]
  obtain ⟨ho, g, hg, _, hgood, _⟩ := T.dlv (st := { highUp (storeP st (pd i)) (pd i) with m := mPut (highUp (storeP st (pd i)) (pd i)).m i none }) hi (by show -1 ≤ st.last; have := h.last; omega) (by show st.last < i; have := h.last; omega) h.op
  have hc : sent i = 0 ∨ (st.last + 1 = i ∧ st.sm = true) := by
    by_cases hs : sent i = 0
    · exact .inl hs
    · exact .inr ⟨h.last, by rw [h.sm]; simp; omega⟩
  obtain ⟨e1, e2⟩ := hgood hc
  have hlast : (dlv { highUp (storeP st (pd i)) (pd i) with m := mPut (highUp (storeP st (pd i)) (pd i)).m i none } (pd i)).1.last = i := by simp only [dlv, hsn]
  have hm0 : ∀ k, (dlv { highUp (storeP st (pd i)) (pd i) with m := mPut (highUp (storeP st (pd i)) (pd i)).m i none } (pd i)).1.m k = none := fun k => by
    show mPut (mPut st.m (pd i).sn (some (pd i))) i none k = none
    unfold mPut
    rw [hsn]
    split
    · rfl
    · exact h.m k
  have hhigh : (dlv { highUp (storeP st (pd i)) (pd i) with m := mPut (highUp (storeP st (pd i)) (pd i)).m i none } (pd i)).1.high = i + 1 := by
    show (((pd i).sn + 1) % 1024) = i + 1
    rw [hsn]
    omega
  have hnext : (dlv { highUp (storeP st (pd i)) (pd i) with m := mPut (highUp (storeP st (pd i)) (pd i)).m i none } (pd i)).1.next = i := h.next
  have hrest : (dlv { highUp (storeP st (pd i)) (pd i) with m := mPut (highUp (storeP st (pd i)) (pd i)).m i none } (pd i)).1.ro = false ∧ (dlv { highUp (storeP st (pd i)) (pd i) with m := mPut (highUp (storeP st (pd i)) (pd i)).m i none } (pd i)).1.trig = 0 ∧ (dlv { highUp (storeP st (pd i)) (pd i) with m := mPut (highUp (storeP st (pd i)) (pd i)).m i none } (pd i)).1.now = 0 ∧ (dlv { highUp (storeP st (pd i)) (pd i) with m := mPut (highUp (storeP st (pd i)) (pd i)).m i none } (pd i)).1.dur = 3 := ⟨h.ro, h.trig, h.now, h.dur⟩
  have hadv : advP 1024 (highUp (storeP st (pd i)) (pd i)) = (nextUp (dlv { highUp (storeP st (pd i)) (pd i) with m := mPut (highUp (storeP st (pd i)) (pd i)).m i none } (pd i)).1, (dlv { highUp (storeP st (pd i)) (pd i) with m := mPut (highUp (storeP st (pd i)) (pd i)).m i none } (pd i)).2) := by
    show advP (1023 + 1) _ = _
    have hst := advP_stop32 (f := 1023) (st := nextUp (dlv { highUp (storeP st (pd i)) (pd i) with m := mPut (highUp (storeP st (pd i)) (pd i)).m i none } (pd i)).1) (hm0 _)
    rw [advP, hnx, if_pos (by rw [hns]; rfl), htk, hst]
    simp
  generalize dlv { highUp (storeP st (pd i)) (pd i) with m := mPut (highUp (storeP st (pd i)) (pd i)).m i none } (pd i) = D at *
  have hnew : newP st (pd i) = (endP (nextUp D.1), D.2) := by
    unfold newP
    rw [hsn, h.m i, h.high, h.next, hpl i (by omega), if_neg (by simp), hmv]
    dsimp only
    rw [hadv]
    simp
  have hN : (nextUp D.1).next = i + 1 := by
    show (D.1.next + 1) % 1024 = i + 1
    rw [hnext]
    omega
  have hend : endP (nextUp D.1) = nextUp D.1 := by
    have hw : ∀ s : Rs, s.ro = false → s.high = s.next → waitsP s = s := fun s h1 h2 => by unfold waitsP; rw [if_neg (by rintro ⟨_, h3⟩; exact h3 h2)]
    have hro : roOff (nextUp D.1) = nextUp D.1 := by
      unfold roOff nextUp
      rw [← hrest.1]
    unfold endP
    split
    · rw [hro]
      exact hw _ hrest.1 (by rw [hN]; exact hhigh)
    · exact hw _ hrest.1 (by rw [hN]; exact hhigh)
  have hrec : recvP st 0 (pd i) = (nextUp D.1, D.2) := by
    unfold recvP
    rw [hgo]
    dsimp only
    rw [hnew, hend]
    simp
  obtain ⟨g', hd', hleft, _⟩ := T.doneStep hi
  have hgg : g' = g := by
    rw [hd'] at hg
    exact List.append_cancel_left hg
  rw [hrec]
  refine ⟨⟨hN, hhigh, hrest.1, hrest.2.1, hm0, by show D.1.last + 1 = _; rw [hlast]; omega, e2, ho, hrest.2.2.1, hrest.2.2.2⟩, ?_⟩
  rw [hleft, hgg, ← e1]
theorem holdA_start (T : Tx sdus N pd left sent) : HoldA left sent (newRs 3) 0 :=
  ⟨rfl, rfl, rfl, rfl, fun _ => rfl, rfl, by rw [T.s0]; rfl, fun h => by simp [newRs] at h, rfl, rfl⟩
end
end Go.Proofs.Ytchlbpfeiamieaa
namespace Go.Proofs.Ytchlbpfeiamieaa
section
variable {sdus : List (List UInt8)} {N : Nat} {pd : Nat → Pd} {left : Nat → List (List UInt8)} {sent : Nat → Nat}
/-- PDU j is lost, the ones behind it up to i - 1 are stored -/
structure HoldB (pd : Nat → Pd) (left : Nat → List (List UInt8)) (sent : Nat → Nat) (st : Rs) (j i : Nat) : Prop where
  next : st.next = j
  high : st.high = i
  ro : st.ro = true
  trig : st.trig = j + 2
  exp : st.exp = 3
  m : ∀ k, st.m k = if j < k ∧ k < i then some (pd k) else none
  last : st.last + 1 = j
  op : OpenOk left sent st
  now : st.now = 0
theorem HoldA.skip (T : Tx sdus N pd left sent) {st : Rs} {j : Nat} (h : HoldA left sent st j) (hj : j + 1 < N) : HoldB pd left sent (recvP st 0 (pd (j + 1))).1 j (j + 2) ∧ (recvP st 0 (pd (j + 1))).2 = [] := by
  have h200 := T.n200
  have hsn := T.sn (j + 1) hj
  have hgo : goesP st 0 = (st, []) := by
    unfold goesP
    rw [clock_same (by rw [h.now]; omega), if_pos (.inl h.ro)]
  have hp1 : placeP j (j + 1) = 513 := by unfold placeP; omega
  have hp2 : placeP j j = 512 := place_self (by omega)
  have hmv : moveP st (pd (j + 1)) = (highUp (storeP st (pd (j + 1))) (pd (j + 1)), []) := by
    unfold moveP
    rw [hsn, h.high, h.next, hp1, hp2, if_pos (by omega), if_neg (by omega)]
  have hns : (highUp (storeP st (pd (j + 1))) (pd (j + 1))).m (highUp (storeP st (pd (j + 1))) (pd (j + 1))).next = none := by
    show mPut st.m (pd (j + 1)).sn (some (pd (j + 1))) st.next = none
    unfold mPut
    rw [hsn, h.next, if_neg (by omega)]
    exact h.m j
  have hh : (highUp (storeP st (pd (j + 1))) (pd (j + 1))).high = j + 2 := by
    show ((pd (j + 1)).sn + 1) % 1024 = j + 2
    rw [hsn]
    omega
  have hend : endP (highUp (storeP st (pd (j + 1))) (pd (j + 1))) = { roOff (highUp (storeP st (pd (j + 1))) (pd (j + 1))) with ro := true, trig := j + 2, exp := 3 } := by
    unfold endP
    have ht : (highUp (storeP st (pd (j + 1))) (pd (j + 1))).trig = 0 := h.trig
    have hn : (highUp (storeP st (pd (j + 1))) (pd (j + 1))).next = j := h.next
    have hp3 : placeP (j + 2) 0 ≤ placeP (j + 2) j := by unfold placeP; omega
    rw [hh, ht, hn, if_pos (.inl hp3)]
    unfold waitsP
    rw [if_pos ⟨rfl, by show (highUp (storeP st (pd (j + 1))) (pd (j + 1))).high ≠ (highUp (storeP st (pd (j + 1))) (pd (j + 1))).next; rw [hh, hn]; omega⟩]
    have e1 : (roOff (highUp (storeP st (pd (j + 1))) (pd (j + 1)))).high = j + 2 := hh
    have e2 : (roOff (highUp (storeP st (pd (j + 1))) (pd (j + 1)))).now + (roOff (highUp (storeP st (pd (j + 1))) (pd (j + 1)))).dur = 3 := by
      show st.now + st.dur = 3
      rw [h.now, h.dur]
      rfl
    simp only [e1, e2]
  have hrec : recvP st 0 (pd (j + 1)) = ({ roOff (highUp (storeP st (pd (j + 1))) (pd (j + 1))) with ro := true, trig := j + 2, exp := 3 }, []) := by
    unfold recvP
    rw [hgo]
    dsimp only
    unfold newP
    rw [hsn, h.m (j + 1), h.high, h.next, hp1, hp2, if_neg (by simp), hmv]
    dsimp only
    rw [advP_stop32 hns]
    dsimp only
    rw [hend]
    rfl
  rw [hrec]
  refine ⟨⟨h.next, hh, rfl, rfl, rfl, fun k => ?_, h.last, h.op, h.now⟩, rfl⟩
  show mPut st.m (pd (j + 1)).sn (some (pd (j + 1))) k = _
  unfold mPut
  rw [hsn]
  by_cases e : k = j + 1
  · rw [if_pos e, if_pos (by omega), e]
  · rw [if_neg e, if_neg (by omega)]
    exact h.m k
theorem HoldB.recv (T : Tx sdus N pd left sent) {st : Rs} {j i : Nat} (h : HoldB pd left sent st j i) (hji : j + 2 ≤ i) (hi : i < N) : HoldB pd left sent (recvP st 0 (pd i)).1 j (i + 1) ∧ (recvP st 0 (pd i)).2 = [] := by
  have h200 := T.n200
  have hsn := T.sn i hi
  have hgo : goesP st 0 = (st, []) := by
    unfold goesP
    rw [clock_same (by rw [h.now]; omega), if_pos (.inr (by rw [h.now, h.exp]; omega))]
  have hp1 : placeP i i = 512 := place_self (by omega)
  have hp2 : placeP i j = j + 512 - i := by unfold placeP; omega
  have hmi : st.m i = none := by rw [h.m i, if_neg (by omega)]
  have hmv : moveP st (pd i) = (highUp (storeP st (pd i)) (pd i), []) := by
    unfold moveP
    rw [hsn, h.high, h.next, hp1, hp2, if_pos (by omega), if_neg (by omega)]
  have hns : (highUp (storeP st (pd i)) (pd i)).m (highUp (storeP st (pd i)) (pd i)).next = none := by
    show mPut st.m (pd i).sn (some (pd i)) st.next = none
    unfold mPut
    rw [hsn, h.next, if_neg (by omega), h.m j, if_neg (by omega)]
  have hh : (highUp (storeP st (pd i)) (pd i)).high = i + 1 := by
    show ((pd i).sn + 1) % 1024 = i + 1
    rw [hsn]
    omega
  have hend : endP (highUp (storeP st (pd i)) (pd i)) = highUp (storeP st (pd i)) (pd i) := by
    unfold endP
    have ht : (highUp (storeP st (pd i)) (pd i)).trig = j + 2 := h.trig
    have hn : (highUp (storeP st (pd i)) (pd i)).next = j := h.next
    have hp3 : placeP (i + 1) (j + 2) = j + 513 - i := by unfold placeP; omega
    have hp4 : placeP (i + 1) j = j + 511 - i := by unfold placeP; omega
    rw [hh, ht, hn, hp3, hp4, if_neg (by omega)]
    unfold waitsP
    rw [if_neg (by rintro ⟨hr, _⟩; have : st.ro = false := hr; rw [h.ro] at this; cases this)]
  have hrec : recvP st 0 (pd i) = (highUp (storeP st (pd i)) (pd i), []) := by
    unfold recvP
    rw [hgo]
    dsimp only
    unfold newP
    rw [hsn, hmi, h.high, h.next, hp1, hp2, if_neg (by simp; omega), hmv]
    dsimp only
    rw [advP_stop32 hns]
    dsimp only
    rw [hend]
    rfl
  rw [hrec]
  refine ⟨⟨h.next, hh, h.ro, h.trig, h.exp, fun k => ?_, h.last, h.op, h.now⟩, rfl⟩
  show mPut st.m (pd i).sn (some (pd i)) k = _
  unfold mPut
  rw [hsn]
  by_cases e : k = i
  · rw [if_pos e, if_pos (by omega), e]
  · rw [if_neg e, h.m k]
    by_cases e2 : j < k ∧ k < i
    · rw [if_pos e2, if_pos (by omega)]
    · rw [if_neg e2, if_neg (by omega)]
end
end Go.Proofs.Ytchlbpfeiamieaa
namespace Go.Proofs.Ytchlbpfeiamieaa
theorem dlvs_like (pd : Nat → Pd) : ∀ (m k : Nat) (s s' : Rs), s'.b = s.b → s'.sm = s.sm → s'.last = s.last → (dlvs pd m k s').2 = (dlvs pd m k s).2
  | 0, _, _, _, _, _, _ => rfl
  | m + 1, k, s, s', h1, h2, h3 => by
    have hB : dlvB s' (pd k) = dlvB s (pd k) := by unfold dlvB; rw [h1, h2, h3]
    have ih := dlvs_like pd m (k + 1) (dlv s (pd k)).1 (dlv s' (pd k)).1 (by simp only [dlv]; rw [hB]) (by simp only [dlv]; rw [hB]) rfl
    simp only [dlvs]
    rw [ih]
    simp only [dlv]
    rw [hB]
/-- advance delivers what is stored from next on -/
theorem adv_run (pd : Nat → Pd) (N : Nat) (hN : N ≤ 200) : ∀ (m f k : Nat) (s : Rs), m + 1 ≤ f → k + m = N → s.next = k → (∀ i, s.m i = if k ≤ i ∧ i < N then some (pd i) else none) → (advP f s).2 = (dlvs pd m k s).2
  | 0, f, k, s, hf, hk, hn, hm => by
    rw [advP_stop32 (by rw [hn, hm k, if_neg (by omega)])]
    rfl
  | m + 1, 0, k, s, hf, _, _, _ => by omega
  | m + 1, f + 1, k, s, hf, hk, hn, hm => by
    have hmk : s.m k = some (pd k) := by rw [hm k, if_pos (by omega)]
    have htk : takeP s k = dlv { s with m := mPut s.m k none } (pd k) := by unfold takeP; rw [hmk]
    rw [advP, hn, if_pos (by rw [hmk]; rfl), htk]
    have ih := adv_run pd N hN m f (k + 1) (nextUp (dlv { s with m := mPut s.m k none } (pd k)).1) (by omega) (by omega) (by
      show (s.next + 1) % 1024 = k + 1
      rw [hn]
      omega) (fun i => by
      show mPut s.m k none i = _
      unfold mPut
      by_cases e : i = k
      · rw [if_pos e, if_neg (by omega)]
      · rw [if_neg e, hm i]
        by_cases e2 : k ≤ i ∧ i < N
        · rw [if_pos e2, if_pos (by omega)]
        · rw [if_neg e2, if_neg (by omega)])
    simp only [dlvs]
    rw [ih, dlvs_like pd m (k + 1) (dlv s (pd k)).1 (nextUp (dlv { s with m := mPut s.m k none } (pd k)).1) rfl rfl rfl]
    rfl
section
variable {sdus : List (List UInt8)} {N : Nat} {pd : Nat → Pd} {left : Nat → List (List UInt8)} {sent : Nat → Nat}
theorem HoldB.ends (T : Tx sdus N pd left sent) (hl : left N = []) {st : Rs} {j : Nat} (h : HoldB pd left sent st j N) (hj : j + 2 ≤ N) : (goesP st 3).2 = if sent (j + 1) = 0 then left (j + 1) else (left (j + 1)).tail := by
  have h200 := T.n200
  have hgo : goesP st 3 = firesP (clock st 3) := by
    unfold goesP
    rw [if_neg]
    rintro (hr | hr)
    · have : st.ro = false := hr
      rw [h.ro] at this
      cases this
    · have e : (clock st 3).now = 3 := by
        simp only [clock]
        rw [h.now]
        rfl
      rw [e] at hr
      have e2 : st.exp = 3 := h.exp
      have e3 : (3 : Int) < st.exp := hr
      omega
  have hb : baseP N = N + 512 := by unfold baseP; omega
  have hp : placeP N (j + 2) = (512 - N) + (j + 1 + 1) := by unfold placeP; omega
  have hm : ∀ k, (clock st 3).m k = if j < k ∧ k < N then some (pd k) else none := h.m
  have hskip1 : spanP (N + 512) (512 - N) (clock st 3) = (clock st 3, []) := span_skip _ _ _ fun i hi => by rw [hm, if_neg (by omega)]
  have hskip2 : spanP 0 (j + 1) (clock st 3) = (clock st 3, []) := span_skip _ _ _ fun i hi => by rw [hm, if_neg (by omega)]
  have hm1 : (clock st 3).m (j + 1) = some (pd (j + 1)) := by rw [hm, if_pos (by omega)]
  have htk : takeP (clock st 3) (j + 1) = dlv { clock st 3 with m := mPut (clock st 3).m (j + 1) none } (pd (j + 1)) := by unfold takeP; rw [hm1]
  have hone : spanP (j + 1) 1 (clock st 3) = dlv { clock st 3 with m := mPut (clock st 3).m (j + 1) none } (pd (j + 1)) := by
    simp only [spanP]
    rw [Nat.mod_eq_of_lt (by omega : j + 1 < 1024), htk]
    simp
  have hspan : spanP (baseP N) (placeP N (j + 2)) (clock st 3) = dlv { clock st 3 with m := mPut (clock st 3).m (j + 1) none } (pd (j + 1)) := by
    rw [hb, hp, span_add, hskip1]
    dsimp only
    rw [show N + 512 + (512 - N) = 0 + 1024 by omega, span_wrap, span_add, hskip2]
    dsimp only
    rw [Nat.zero_add, hone]
    simp
  have hhi : (clock st 3).high = N := h.high
  have htr : (clock st 3).trig = j + 2 := h.trig
  rw [hgo]
  unfold firesP
  rw [hhi, htr, hspan]
  dsimp only
  have hadv := adv_run pd N h200 (N - (j + 2)) 1024 (j + 2) (toTrig (dlv { clock st 3 with m := mPut (clock st 3).m (j + 1) none } (pd (j + 1))).1) (by omega) (by omega) h.trig (fun i => by
    show mPut (clock st 3).m (j + 1) none i = _
    unfold mPut
    by_cases e : i = j + 1
    · rw [if_pos e, if_neg (by omega)]
    · rw [if_neg e, hm i]
      by_cases e2 : j < i ∧ i < N
      · rw [if_pos e2, if_pos (by omega)]
      · rw [if_neg e2, if_neg (by omega)])
  rw [hadv]
  have hall := dlvs_left T hl (N - (j + 1)) (j + 1) st (by omega) (by have := h.last; omega) (by have := h.last; omega) h.op
  have hc : (sent (j + 1) = 0 ∨ (st.last + 1 = ((j + 1 : Nat) : Int) ∧ st.sm = true)) ↔ sent (j + 1) = 0 := by
    constructor
    · rintro (e | ⟨e, _⟩)
      · exact e
      · have := h.last
        omega
    · exact .inl
  have hif : (if sent (j + 1) = 0 ∨ (st.last + 1 = ((j + 1 : Nat) : Int) ∧ st.sm = true) then left (j + 1) else (left (j + 1)).tail) = if sent (j + 1) = 0 then left (j + 1) else (left (j + 1)).tail := by
    by_cases e : sent (j + 1) = 0
    · rw [if_pos (.inl e), if_pos e]
    · rw [if_neg (fun hh => e (hc.1 hh)), if_neg e]
  rw [hif] at hall
  rw [← hall, show N - (j + 1) = (N - (j + 2)) + 1 by omega]
  simp only [dlvs]
  rw [dlvs_like pd (N - (j + 2)) (j + 1 + 1) (dlv st (pd (j + 1))).1 (toTrig (dlv { clock st 3 with m := mPut (clock st 3).m (j + 1) none } (pd (j + 1))).1) rfl rfl rfl]
  rfl
end
end Go.Proofs.Ytchlbpfeiamieaa
namespace Go.Proofs.Ytchlbpfeiamieaa
/-- PDUs 0 to i - 1 were received in turn at time 0, all but PDU lost -/
def runH (pd : Nat → Pd) (lost : Int) : Nat → Rs × List (List UInt8)
  | 0 => (newRs 3, [])
  | i + 1 => if (i : Int) = lost then runH pd lost i else ((recvP (runH pd lost i).1 0 (pd i)).1, (runH pd lost i).2 ++ (recvP (runH pd lost i).1 0 (pd i)).2)
section
variable {sdus : List (List UInt8)} {N : Nat} {pd : Nat → Pd} {left : Nat → List (List UInt8)} {sent : Nat → Nat}
theorem runH_before (T : Tx sdus N pd left sent) (lost : Int) : ∀ i, i ≤ N → (lost < 0 ∨ (i : Int) ≤ lost) → HoldA left sent (runH pd lost i).1 i ∧ sdus = (runH pd lost i).2 ++ left i
  | 0, _, _ => ⟨holdA_start T, by rw [T.l0]; rfl⟩
  | i + 1, hi, hl => by
    obtain ⟨h1, h2⟩ := runH_before T lost i (by omega) (by omega)
    obtain ⟨h3, h4⟩ := h1.recv T (by omega)
    simp only [runH]
    rw [if_neg (by omega)]
    refine ⟨h3, ?_⟩
    rw [List.append_assoc, ← h4]
    exact h2
theorem runH_behind (T : Tx sdus N pd left sent) {j : Nat} (hj : j < N) : ∀ m, j + 2 + m ≤ N → HoldB pd left sent (runH pd j (j + 2 + m)).1 j (j + 2 + m) ∧ (runH pd j (j + 2 + m)).2 = (runH pd j j).2
  | 0, hm => by
    obtain ⟨h1, h2⟩ := runH_before T (j : Int) j (by omega) (by omega)
    obtain ⟨h3, h4⟩ := h1.skip T (by omega)
    have e1 : runH pd (j : Int) (j + 1) = runH pd (j : Int) j := by simp only [runH, if_true]
    show HoldB pd left sent (runH pd (j : Int) (j + 1 + 1)).1 j (j + 2) ∧ (runH pd (j : Int) (j + 1 + 1)).2 = _
    rw [runH, if_neg (by omega), e1]
    exact ⟨h3, by rw [h4, List.append_nil]⟩
  | m + 1, hm => by
    obtain ⟨h1, h2⟩ := runH_behind T hj m (by omega)
    obtain ⟨h3, h4⟩ := h1.recv T (by omega) (by omega)
    show HoldB pd left sent (runH pd (j : Int) (j + 2 + m + 1)).1 j (j + 2 + m + 1) ∧ (runH pd (j : Int) (j + 2 + m + 1)).2 = _
    rw [runH, if_neg (by omega)]
    exact ⟨h3, by rw [h4, List.append_nil, h2]⟩
/-- the timer ticks: what was returned in all -/
theorem runH_tick (T : Tx sdus N pd left sent) (hl : left N = []) (hz : sent N = 0) {j : Nat} (hj : j < N) :
    (runH pd j N).2 ++ (goesP (runH pd j N).1 3).2 = doneAt sdus left j ++ (if sent (j + 1) = 0 then left (j + 1) else (left (j + 1)).tail) := by
  obtain ⟨h1, h2⟩ := runH_before T (j : Int) j (by omega) (by omega)
  have hd : (runH pd (j : Int) j).2 = doneAt sdus left j := List.append_cancel_right (h2.symm.trans (T.done (by omega)))
  rcases Nat.lt_or_ge (j + 1) N with hlt | hge
  · obtain ⟨h3, h4⟩ := runH_behind T hj (N - (j + 2)) (by omega)
    rw [show j + 2 + (N - (j + 2)) = N by omega] at h3 h4
    rw [h4, hd, h3.ends T hl (by omega)]
  · have hN : N = j + 1 := by omega
    have e1 : runH pd (j : Int) N = runH pd (j : Int) j := by rw [hN]; simp only [runH, if_true]
    have hgo : (goesP (runH pd (j : Int) j).1 3).2 = [] := by
      unfold goesP
      rw [if_pos (.inl h1.ro)]
    rw [e1, hgo, hd, ← hN, hz, if_pos rfl, hl]
end
/-- the SDUs that do not meet a range of bytes -/
def wantF (fr to : Nat) : Nat → List (List UInt8) → List (List UInt8)
  | _, [] => []
  | at_, x :: r => if at_ + x.length ≤ fr ∨ to ≤ at_ then x :: wantF fr to (at_ + x.length) r else wantF fr to (at_ + x.length) r
def lenAll (l : List (List UInt8)) : Nat := (l.map List.length).sum
theorem lenAll_cons (x : List UInt8) (r : List (List UInt8)) : lenAll (x :: r) = x.length + lenAll r := by simp [lenAll]
theorem wantF_app (fr to : Nat) : ∀ (a b : List (List UInt8)) (at_ : Nat), wantF fr to at_ (a ++ b) = wantF fr to at_ a ++ wantF fr to (at_ + lenAll a) b
  | [], b, at_ => by simp [wantF, lenAll]
  | x :: a, b, at_ => by
    simp only [List.cons_append, wantF]
    rw [wantF_app fr to a b, lenAll_cons, show at_ + x.length + lenAll a = at_ + (x.length + lenAll a) by omega]
    split <;> simp
theorem wantF_before (fr to : Nat) : ∀ (a : List (List UInt8)) (at_ : Nat), at_ + lenAll a ≤ fr → wantF fr to at_ a = a
  | [], _, _ => rfl
  | x :: a, at_, h => by
    rw [lenAll_cons] at h
    rw [wantF, if_pos (.inl (by omega)), wantF_before fr to a _ (by omega)]
theorem wantF_behind (fr to : Nat) : ∀ (a : List (List UInt8)) (at_ : Nat), to ≤ at_ → wantF fr to at_ a = a
  | [], _, _ => rfl
  | x :: a, at_, h => by rw [wantF, if_pos (.inr h), wantF_behind fr to a _ (by omega)]
theorem wantF_in (fr to : Nat) : ∀ (a : List (List UInt8)) (at_ : Nat), (∀ s ∈ a, 1 ≤ s.length) → fr ≤ at_ → at_ + lenAll a ≤ to → wantF fr to at_ a = []
  | [], _, _, _, _ => rfl
  | x :: a, at_, h1, h2, h3 => by
    rw [lenAll_cons] at h3
    have := h1 x (by simp)
    rw [wantF, if_neg (by omega), wantF_in fr to a _ (fun s hs => h1 s (by simp [hs])) (by omega) (by omega)]
section
variable {sdus : List (List UInt8)} {N : Nat} {pd : Nat → Pd} {left : Nat → List (List UInt8)} {sent : Nat → Nat}
/-- what is wanted with PDU j lost -/
theorem wantF_lost (T : Tx sdus N pd left sent) (hpos : ∀ s ∈ sdus, 1 ≤ s.length) (hlt : ∀ i x r, left i = x :: r → sent i < x.length) (hz : ∀ i, left i = [] → sent i = 0) {j : Nat} (hj : j < N) :
    wantF (lenAll (doneAt sdus left j) + sent j) (lenAll (doneAt sdus left (j + 1)) + sent (j + 1)) 0 sdus = doneAt sdus left j ++ (if sent (j + 1) = 0 then left (j + 1) else (left (j + 1)).tail) := by
  obtain ⟨g, h1, h2, _⟩ := T.doneStep hj
  have hsd := T.done (i := j) (by omega)
  have hposl : ∀ s ∈ left j, 1 ≤ s.length := fun s hs => hpos s (by rw [hsd]; simp [hs])
  have happ : ∀ a b : List (List UInt8), lenAll (a ++ b) = lenAll a + lenAll b := fun a b => by simp [lenAll]
  have hA : wantF (lenAll (doneAt sdus left j) + sent j) (lenAll (doneAt sdus left (j + 1)) + sent (j + 1)) 0 sdus = doneAt sdus left j ++ wantF (lenAll (doneAt sdus left j) + sent j) (lenAll (doneAt sdus left (j + 1)) + sent (j + 1)) (lenAll (doneAt sdus left j)) (left j) := by
    have hfr : lenAll (doneAt sdus left j) ≤ lenAll (doneAt sdus left j) + sent j := by omega
    generalize lenAll (doneAt sdus left j) + sent j = fr at *
    generalize lenAll (doneAt sdus left (j + 1)) + sent (j + 1) = to
    conv => lhs; rw [hsd]
    rw [wantF_app, wantF_before _ _ _ _ (by omega), Nat.zero_add]
  rw [hA, h1, happ]
  congr 1
  generalize lenAll (doneAt sdus left j) = D
  rw [h2, wantF_app]
  have hg : wantF (D + sent j) (D + lenAll g + sent (j + 1)) D g = [] := by
    cases g with
    | nil => rfl
    | cons x r =>
      have hx := hlt j x (r ++ left (j + 1)) h2
      have hp := hposl x (by rw [h2]; simp)
      rw [lenAll_cons, wantF, if_neg (by omega)]
      exact wantF_in _ _ r _ (fun s hs => hposl s (by rw [h2]; simp [hs])) (by omega) (by omega)
  rw [hg, List.nil_append]
  by_cases hs : sent (j + 1) = 0
  · rw [if_pos hs]
    exact wantF_behind _ _ _ _ (by omega)
  · rw [if_neg hs]
    cases hl : left (j + 1) with
    | nil => exact absurd (hz _ hl) hs
    | cons x r =>
      have hx := hlt (j + 1) x r hl
      have hfr : D + sent j < D + lenAll g + x.length := by
        cases g with
        | nil =>
          have := hlt j x r (by rw [h2, hl]; rfl)
          simp [lenAll]
          omega
        | cons y r2 =>
          have := hlt j y (r2 ++ left (j + 1)) h2
          rw [lenAll_cons]
          omega
      rw [wantF, if_neg (by omega)]
      exact wantF_behind _ _ _ _ (by omega)
end
end Go.Proofs.Ytchlbpfeiamieaa
