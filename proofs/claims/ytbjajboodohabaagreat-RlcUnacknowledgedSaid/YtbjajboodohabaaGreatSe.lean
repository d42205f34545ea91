/- umrecv: the window of a receiver. -/
import Derived.Test.YtbjajboodohabaaGreatSa
namespace Go.Proofs.YtbjajboodohabaaGreat

theorem take_m (st : Rs) (sn k : Nat) : (takeP st sn).1.m k = if k = sn then none else st.m k := by
  unfold takeP
  cases hm : st.m sn with
  | none =>
    dsimp only
    split
    · rename_i e
      rw [e, hm]
    · rfl
  | some p => rfl
theorem take_f (st : Rs) (sn : Nat) : (takeP st sn).1.next = st.next ∧ (takeP st sn).1.high = st.high ∧ (takeP st sn).1.trig = st.trig ∧ (takeP st sn).1.ro = st.ro ∧ (takeP st sn).1.now = st.now ∧ (takeP st sn).1.exp = st.exp ∧ (takeP st sn).1.dur = st.dur := by
  unfold takeP
  cases st.m sn with
  | none => exact ⟨rfl, rfl, rfl, rfl, rfl, rfl, rfl⟩
  | some p => exact ⟨rfl, rfl, rfl, rfl, rfl, rfl, rfl⟩
theorem span_f : ∀ (n sn : Nat) (st : Rs), (spanP sn n st).1.next = st.next ∧ (spanP sn n st).1.high = st.high ∧ (spanP sn n st).1.trig = st.trig ∧ (spanP sn n st).1.ro = st.ro ∧ (spanP sn n st).1.now = st.now ∧ (spanP sn n st).1.exp = st.exp ∧ (spanP sn n st).1.dur = st.dur
  | 0, _, _ => ⟨rfl, rfl, rfl, rfl, rfl, rfl, rfl⟩
  | n + 1, sn, st => by
    obtain ⟨a, b, c, d, e, f, g⟩ := span_f n (sn + 1) (takeP st (sn % 1024)).1
    obtain ⟨a', b', c', d', e', f', g'⟩ := take_f st (sn % 1024)
    simp only [spanP]
    exact ⟨a.trans a', b.trans b', c.trans c', d.trans d', e.trans e', f.trans f', g.trans g'⟩
theorem span_none : ∀ (n sn : Nat) (st : Rs) (k : Nat), st.m k = none → (spanP sn n st).1.m k = none
  | 0, _, _, _, h => h
  | n + 1, sn, st, k, h => by
    simp only [spanP]
    refine span_none n (sn + 1) _ k ?_
    rw [take_m]
    split
    · rfl
    · exact h
theorem span_hit : ∀ (n sn : Nat) (st : Rs) (i : Nat), i < n → (spanP sn n st).1.m ((sn + i) % 1024) = none
  | 0, _, _, _, h => by omega
  | n + 1, sn, st, i, h => by
    simp only [spanP]
    cases i with
    | zero =>
      refine span_none n (sn + 1) _ _ ?_
      rw [take_m, if_pos (by rw [Nat.add_zero])]
    | succ i =>
      have := span_hit n (sn + 1) (takeP st (sn % 1024)).1 i (by omega)
      rw [show sn + (i + 1) = sn + 1 + i by omega]
      exact this
theorem span_some {n sn : Nat} {st : Rs} {k : Nat} {p : Pd} : (spanP sn n st).1.m k = some p → st.m k = some p := by
  induction n generalizing sn st with
  | zero => exact id
  | succ n ih =>
    intro h
    simp only [spanP] at h
    have := ih h
    rw [take_m] at this
    split at this
    · cases this
    · exact this
/-- what is stored lies in the window, from next on -/
def WinA (st : Rs) : Prop := placeP st.high st.next ≤ 512 ∧ ∀ k p, st.m k = some p → placeP st.high k < 512 ∧ placeP st.high st.next ≤ placeP st.high k
/-- .. behind next -/
def WinB (st : Rs) : Prop := placeP st.high st.next ≤ 512 ∧ ∀ k p, st.m k = some p → placeP st.high k < 512 ∧ placeP st.high st.next < placeP st.high k
def Win (st : Rs) : Prop := WinB st ∧ (st.ro = true → placeP st.high st.next < placeP st.high st.trig ∧ placeP st.high st.trig ≤ 512)
theorem WinB.a {st : Rs} (h : WinB st) : WinA st := ⟨h.1, fun k p hk => let ⟨a, b⟩ := h.2 k p hk; ⟨a, Nat.le_of_lt b⟩⟩
theorem place_inj {h a b : Nat} (_hh : h ≤ 1023) (ha : a ≤ 1023) (hb : b ≤ 1023) (he : placeP h a = placeP h b) : a = b := by
  unfold placeP at he
  omega
theorem place_self {h : Nat} (_hh : h ≤ 1023) : placeP h h = 512 := by unfold placeP; omega
theorem place_succ {h a : Nat} (hh : h ≤ 1023) (ha : a ≤ 1023) (hl : placeP h a < 1023) : placeP h ((a + 1) % 1024) = placeP h a + 1 := by
  unfold placeP at *
  omega
theorem WinA.adv : ∀ (f : Nat) {st : Rs}, StOk st → WinA st → 513 - placeP st.high st.next ≤ f → WinB (advP f st).1 ∧ (advP f st).1.high = st.high ∧ (advP f st).1.trig = st.trig ∧ (advP f st).1.ro = st.ro
  | 0, st, _, h, hf => by have := h.1; omega
  | f + 1, st, ho, h, hf => by
    unfold advP
    split
    · rename_i hs
      obtain ⟨p, hp⟩ := Option.isSome_iff_exists.1 hs
      obtain ⟨h1, h2⟩ := h.2 _ p hp
      have ht := ho.take st.next
      obtain ⟨f1, f2, f3, f4, _⟩ := take_f st st.next
      have hps := place_succ ho.high ho.next (by omega)
      have hA : WinA (nextUp (takeP st st.next).1) := by
        constructor
        · simp only [nextUp, f1, f2, hps]
          omega
        · intro k q hk
          simp only [nextUp, f1, f2, hps] at hk ⊢
          rw [take_m] at hk
          split at hk
          · cases hk
          · rename_i hne
            obtain ⟨h3, h4⟩ := h.2 k q hk
            have hkk := (ho.pd k q hk).2
            have hk1 := (ho.pd k q hk).1.1
            refine ⟨h3, ?_⟩
            have : placeP st.high k ≠ placeP st.high st.next := fun e => hne (place_inj ho.high (by omega) ho.next e)
            omega
      obtain ⟨r1, r2, r3, r4⟩ := WinA.adv f ht.1.nextUp hA (by simp only [nextUp, f1, f2, hps]; omega)
      exact ⟨r1, r2.trans f2, r3.trans f3, r4.trans f4⟩
    · rename_i hs
      refine ⟨⟨h.1, fun k p hk => ?_⟩, rfl, rfl, rfl⟩
      obtain ⟨h3, h4⟩ := h.2 k p hk
      have hkk := (ho.pd k p hk).2
      have hk1 := (ho.pd k p hk).1.1
      refine ⟨h3, ?_⟩
      have : placeP st.high k ≠ placeP st.high st.next := fun e => by
        have := place_inj ho.high (by omega) ho.next e
        subst this
        rw [hk] at hs
        simp at hs
      show placeP st.high st.next < placeP st.high k
      omega
theorem ends_of {st : Rs} (ho : StOk st) {h : Nat} (hh : h ≤ 1023) (hn : st.m h = none) : Ends st := by
  have := ho.next
  refine ⟨(h + 1024 - st.next) % 1024, by omega, ?_⟩
  rw [show (st.next + (h + 1024 - st.next) % 1024) % 1024 = h by omega]
  exact hn
theorem WinB.high {st : Rs} (h : WinB st) (ho : StOk st) : st.m st.high = none := by
  cases hm : st.m st.high with
  | none => rfl
  | some p =>
    have := (h.2 _ p hm).1
    rw [place_self ho.high] at this
    omega
theorem waits_win {st : Rs} (ho : StOk st) (h : WinB st) (hr : st.ro = true → placeP st.high st.next < placeP st.high st.trig ∧ placeP st.high st.trig ≤ 512) : Win (waitsP st) := by
  unfold waitsP
  split
  · rename_i hc
    refine ⟨h, fun _ => ?_⟩
    dsimp only
    rw [place_self ho.high]
    have h1 := h.1
    have : placeP st.high st.next ≠ 512 := fun e => hc.2 (place_inj ho.high ho.high ho.next (by rw [place_self ho.high, e]))
    omega
  · exact ⟨h, hr⟩
theorem base_span {h k d : Nat} (hh : h ≤ 1023) (hk : k ≤ 1023) (hd : placeP h k < d) : ∃ i, i < d ∧ (baseP h + i) % 1024 = k := by
  refine ⟨placeP h k, hd, ?_⟩
  unfold placeP baseP
  omega
/-- what the span from the window's base on leaves -/
theorem span_left {st : Rs} (ho : StOk st) {d : Nat} {st' : Rs} (hm : ∀ k p, st'.m k = some p → k ≤ 1023) {k : Nat} {p : Pd} (hk : (spanP (baseP st.high) d st').1.m k = some p) : st'.m k = some p ∧ d ≤ placeP st.high k := by
  have h1 := span_some hk
  refine ⟨h1, ?_⟩
  rcases Nat.lt_or_ge (placeP st.high k) d with hlt | hge
  · obtain ⟨i, hi, e⟩ := base_span ho.high (hm k p h1) hlt
    have := span_hit d (baseP st.high) st' i hi
    rw [e, hk] at this
    cases this
  · exact hge
theorem Win.fires {st : Rs} (ho : StOk st) (h : Win st) (hr : st.ro = true) : Ends (toTrig (spanP (baseP st.high) (placeP st.high st.trig) st).1) ∧ Win (firesP st).1 := by
  obtain ⟨f1, f2, f3, f4, _⟩ := span_f (placeP st.high st.trig) (baseP st.high) st
  have hs := StOk.span (placeP st.high st.trig) (baseP st.high) ho
  have hk0 : ∀ k p, st.m k = some p → k ≤ 1023 := fun k p hk => by have := (ho.pd k p hk).2; have := (ho.pd k p hk).1.1; omega
  have hA : WinA (toTrig (spanP (baseP st.high) (placeP st.high st.trig) st).1) := by
    constructor
    · simp only [toTrig, f2, f3]
      exact (h.2 hr).2
    · intro k p hk
      simp only [toTrig, f2, f3] at hk ⊢
      obtain ⟨h1, h2⟩ := span_left ho hk0 hk
      exact ⟨(h.1.2 k p h1).1, h2⟩
  have hn : (toTrig (spanP (baseP st.high) (placeP st.high st.trig) st).1).m st.high = none := span_none _ _ _ _ (h.1.high ho)
  refine ⟨ends_of hs.1.toTrig ho.high hn, ?_⟩
  obtain ⟨r1, r2, r3, r4⟩ := WinA.adv 1024 hs.1.toTrig hA (by omega)
  unfold firesP
  exact waits_win (StOk.adv 1024 hs.1.toTrig).1.roOff r1 (fun e => by simp [roOff] at e)
theorem Win.goes {st : Rs} (ho : StOk st) (h : Win st) {now : Int} (hn : now ≤ 9223372036854775807) : Win (goesP st now).1 := by
  unfold goesP
  split
  · exact h
  · rename_i hc
    have hr : st.ro = true := by
      cases hh : st.ro with
      | false => exact absurd (.inl hh) hc
      | true => rfl
    exact (Win.fires (ho.clock hn) (st := clock st now) h hr).2
theorem Win.new {st : Rs} (ho : StOk st) (h : Win st) {p : Pd} (hp : PdOk p) :
    (¬ ((st.m p.sn).isSome ∨ placeP st.high p.sn < placeP st.high st.next) → Ends (moveP st p).1) ∧ Win (newP st p).1 := by
  have hk0 : ∀ k q, st.m k = some q → k ≤ 1023 := fun k q hk => by have := (ho.pd k q hk).2; have := (ho.pd k q hk).1.1; omega
  by_cases hc : (st.m p.sn).isSome ∨ placeP st.high p.sn < placeP st.high st.next
  · refine ⟨fun hh => absurd hc hh, ?_⟩
    unfold newP
    rw [if_pos hc]
    exact h
  · have hm := ho.move hp
    have hsn := hp.1
    have hh := ho.high
    have hnx := ho.next
    have hst : ∀ k q, (storeP st p).m k = some q → k = p.sn ∨ (k ≠ p.sn ∧ st.m k = some q) := fun k q hk => by
      simp only [storeP, mPut] at hk
      split at hk
      · exact .inl ‹_›
      · exact .inr ⟨‹_›, hk⟩
    have hst0 : ∀ k q, (storeP st p).m k = some q → k ≤ 1023 := fun k q hk => by
      rcases hst k q hk with rfl | ⟨_, hk⟩
      · exact hsn
      · exact hk0 k q hk
    have key : WinA (moveP st p).1 ∧ Ends (moveP st p).1 := by
      unfold moveP
      split
      · rename_i hat
        have hlt := placeP_lt st.high p.sn
        have hup : ∀ k, k ≤ 1023 → placeP st.high p.sn - 511 ≤ placeP st.high k → placeP ((p.sn + 1) % 1024) k = placeP st.high k - (placeP st.high p.sn - 511) := by
          intro k hk hle
          unfold placeP at *
          omega
        split
        · rename_i hold
          obtain ⟨f1, f2, f3, f4, _⟩ := span_f (placeP st.high p.sn - 511) (baseP st.high) (toBase (highUp (storeP st p) p))
          have hleft : ∀ k q, (spanP (baseP st.high) (placeP st.high p.sn - 511) (toBase (highUp (storeP st p) p))).1.m k = some q → k ≤ 1023 ∧ placeP st.high p.sn - 511 ≤ placeP st.high k ∧ (k = p.sn ∨ placeP st.high k < 512) := by
            intro k q hk
            obtain ⟨h1, h2⟩ := span_left (st' := toBase (highUp (storeP st p) p)) ho hst0 hk
            refine ⟨hst0 k q h1, h2, ?_⟩
            rcases hst k q h1 with e | ⟨_, e⟩
            · exact .inl e
            · exact .inr (h.1.2 k q e).1
          constructor
          · constructor
            · rw [f1, f2]
              simp only [toBase, highUp, baseP]
              unfold placeP
              omega
            · intro k q hk
              obtain ⟨a, b, c⟩ := hleft k q hk
              rw [f1, f2]
              simp only [toBase, highUp, baseP]
              rw [hup k a b]
              have e0 : placeP ((p.sn + 1) % 1024) (((p.sn + 1) % 1024 + 512) % 1024) = 0 := by unfold placeP; omega
              rw [e0]
              refine ⟨?_, Nat.zero_le _⟩
              rcases c with rfl | c <;> omega
          · refine ends_of (StOk.span _ _ ((ho.store hp).highUp p).toBase).1 (h := (p.sn + 1) % 1024) (by omega) ?_
            cases hm2 : (spanP (baseP st.high) (placeP st.high p.sn - 511) (toBase (highUp (storeP st p) p))).1.m ((p.sn + 1) % 1024) with
            | none => rfl
            | some q =>
              obtain ⟨a, b, c⟩ := hleft _ q hm2
              exfalso
              rcases c with c | c
              · omega
              · unfold placeP at *
                omega
        · rename_i hold
          have hleft : ∀ k q, (storeP st p).m k = some q → k ≤ 1023 ∧ placeP st.high p.sn - 511 ≤ placeP st.high k ∧ (k = p.sn ∨ (placeP st.high k < 512 ∧ placeP st.high st.next < placeP st.high k)) := by
            intro k q hk
            refine ⟨hst0 k q hk, ?_⟩
            rcases hst k q hk with e | ⟨_, e⟩
            · subst e
              exact ⟨by omega, .inl rfl⟩
            · have := h.1.2 k q e
              exact ⟨by omega, .inr this⟩
          have hnx2 := hup st.next hnx (by omega)
          constructor
          · constructor
            · simp only [highUp, storeP]
              rw [hnx2]
              have := h.1.1
              omega
            · intro k q hk
              obtain ⟨a, b, c⟩ := hleft k q hk
              simp only [highUp, storeP]
              rw [hnx2, hup k a b]
              have := h.1.1
              rcases c with rfl | c <;> omega
          · refine ends_of ((ho.store hp).highUp p) (h := (p.sn + 1) % 1024) (by omega) ?_
            cases hm2 : (highUp (storeP st p) p).m ((p.sn + 1) % 1024) with
            | none => rfl
            | some q =>
              obtain ⟨a, b, c⟩ := hleft _ q hm2
              exfalso
              rcases c with c | c
              · omega
              · unfold placeP at *
                omega
      · rename_i hat
        constructor
        · constructor
          · exact h.1.1
          · intro k q hk
            simp only [storeP]
            rcases hst k q hk with e | ⟨_, e⟩
            · subst e
              omega
            · have := h.1.2 k q e
              omega
        · refine ends_of (ho.store hp) hh ?_
          simp only [storeP, mPut]
          split
          · rename_i e
            exfalso
            rw [← e, place_self hh] at hat
            omega
          · exact h.1.high ho
    refine ⟨fun _ => key.2, ?_⟩
    unfold newP
    rw [if_neg hc]
    obtain ⟨r1, r2, r3, r4⟩ := WinA.adv 1024 hm.1 key.1 (by omega)
    have hadv := (StOk.adv 1024 hm.1).1
    dsimp only
    unfold endP
    split
    · exact waits_win hadv.roOff r1 (fun e => by simp [roOff] at e)
    · rename_i hcc
      exact waits_win hadv r1 (fun _ => by omega)
theorem Win.recv {st : Rs} (ho : StOk st) (h : Win st) {now : Int} (hn : now ≤ 9223372036854775807) {p : Pd} (hp : PdOk p) : Win (recvP st now p).1 :=
  ((h.goes ho hn).new (ho.goes hn).1 hp).2
theorem newRs_win (d : Int) : Win (newRs d) := ⟨⟨by simp [newRs, placeP], fun k p hk => by simp [newRs] at hk⟩, fun h => by simp [newRs] at h⟩
end Go.Proofs.YtbjajboodohabaaGreat
