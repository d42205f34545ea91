/- umrecv: whatever is received of a transmitter's PDUs: what is returned is a part of what was submitted. -/
import Derived.Test.YtchlbpfeiamieaaSi
namespace Go.Proofs.Ytchlbpfeiamieaa
section
variable {sdus : List (List UInt8)} {N : Nat} {pd : Nat → Pd} {left : Nat → List (List UInt8)} {sent : Nat → Nat}
/-- PDUs from c on are stored, the ones before are done with; got was returned -/
structure TxInv (sdus : List (List UInt8)) (N : Nat) (pd : Nat → Pd) (left : Nat → List (List UInt8)) (sent : Nat → Nat) (st : Rs) (got : List (List UInt8)) (c : Nat) : Prop where
  lo : -1 ≤ st.last
  lt : st.last < c
  m : ∀ k p, st.m k = some p → c ≤ k ∧ k < N ∧ p = pd k
  op : OpenOk left sent st
  sub : got.Sublist (doneAt sdus left c)
theorem TxInv.like {st st' : Rs} {got : List (List UInt8)} {c : Nat} (h : TxInv sdus N pd left sent st got c) (h1 : st'.last = st.last) (h2 : st'.m = st.m) (h3 : st'.b = st.b) (h4 : st'.sm = st.sm) : TxInv sdus N pd left sent st' got c :=
  ⟨by rw [h1]; exact h.lo, by rw [h1]; exact h.lt, by rw [h2]; exact h.m, by unfold OpenOk; rw [h1, h3, h4]; exact h.op, h.sub⟩
theorem TxInv.take (T : Tx sdus N pd left sent) {st : Rs} {got : List (List UInt8)} {c : Nat} (h : TxInv sdus N pd left sent st got c) (hc : c < N) :
    TxInv sdus N pd left sent (takeP st c).1 (got ++ (takeP st c).2) (c + 1) := by
  unfold takeP
  obtain ⟨g0, hg0, _⟩ := T.doneStep hc
  cases hm : st.m c with
  | none =>
    dsimp only
    have h1 := h.lt
    refine ⟨h.lo, by omega, fun k p hk => ?_, h.op, ?_⟩
    · obtain ⟨a, b, e⟩ := h.m k p hk
      have : k ≠ c := fun e => by rw [e, hm] at hk; cases hk
      exact ⟨by omega, b, e⟩
    · rw [List.append_nil, hg0]
      exact h.sub.trans (List.sublist_append_left _ _)
  | some p =>
    obtain ⟨_, _, e⟩ := h.m c p hm
    subst e
    dsimp only
    have hd := T.dlv (st := { st with m := mPut st.m c none }) hc h.lo h.lt h.op
    obtain ⟨ho, g, hg, hs, _⟩ := hd
    refine ⟨by simp only [dlv]; omega, by simp only [dlv, T.sn c hc]; omega, fun k q hk => ?_, ho, ?_⟩
    · have : (if k = c then none else st.m k) = some q := hk
      split at this
      · cases this
      · obtain ⟨a, b, e⟩ := h.m k q this
        exact ⟨by omega, b, e⟩
    · rw [hg]
      exact h.sub.append hs
theorem span_skip : ∀ (n sn : Nat) (st : Rs), (∀ i, i < n → st.m ((sn + i) % 1024) = none) → spanP sn n st = (st, [])
  | 0, _, _, _ => rfl
  | n + 1, sn, st, h => by
    have h0 := h 0 (by omega)
    rw [Nat.add_zero] at h0
    have e : takeP st (sn % 1024) = (st, []) := by unfold takeP; rw [h0]
    have ih := span_skip n (sn + 1) st (fun i hi => by have := h (i + 1) (by omega); rwa [show sn + (i + 1) = sn + 1 + i by omega] at this)
    rw [spanP, e, ih]
    rfl
theorem span_add : ∀ (a b sn : Nat) (st : Rs), spanP sn (a + b) st = ((spanP (sn + a) b (spanP sn a st).1).1, (spanP sn a st).2 ++ (spanP (sn + a) b (spanP sn a st).1).2)
  | 0, b, sn, st => by simp [spanP]
  | a + 1, b, sn, st => by
    rw [show a + 1 + b = (a + b) + 1 by omega, spanP, span_add a b (sn + 1)]
    simp only [spanP]
    rw [show sn + 1 + a = sn + (a + 1) by omega]
    simp
theorem span_wrap : ∀ (n sn : Nat) (st : Rs), spanP (sn + 1024) n st = spanP sn n st
  | 0, _, _ => rfl
  | n + 1, sn, st => by
    rw [spanP, spanP, Nat.add_mod_right, show sn + 1024 + 1 = sn + 1 + 1024 by omega, span_wrap n (sn + 1)]
theorem TxInv.span (T : Tx sdus N pd left sent) : ∀ (n sn : Nat) {st : Rs} {got : List (List UInt8)} {c : Nat}, TxInv sdus N pd left sent st got c → sn ≤ c → sn + n ≤ N →
    TxInv sdus N pd left sent (spanP sn n st).1 (got ++ (spanP sn n st).2) (max c (sn + n))
  | 0, sn, st, got, c, h, hsc, hn => by
    rw [spanP, List.append_nil, show max c (sn + 0) = c by omega]
    exact h
  | n + 1, sn, st, got, c, h, hsc, hn => by
    have h200 := T.n200
    have hmod : sn % 1024 = sn := Nat.mod_eq_of_lt (by omega)
    simp only [spanP, hmod]
    rw [← List.append_assoc]
    by_cases he : sn = c
    · subst he
      have h1 := h.take T (by omega)
      have h2 := TxInv.span T n (sn + 1) h1 (Nat.le_refl _) (by omega)
      rw [show max sn (sn + (n + 1)) = max (sn + 1) (sn + 1 + n) by omega]
      exact h2
    · have hno : st.m sn = none := by
        cases hm : st.m sn with
        | none => rfl
        | some p => have := (h.m sn p hm).1; omega
      have e : takeP st sn = (st, []) := by unfold takeP; rw [hno]
      rw [e]
      dsimp only
      rw [List.append_nil]
      have h2 := TxInv.span T n (sn + 1) h (by omega) (by omega)
      rw [show max c (sn + (n + 1)) = max c (sn + 1 + n) by omega]
      exact h2
theorem TxInv.adv (T : Tx sdus N pd left sent) : ∀ (f : Nat) {st : Rs} {got : List (List UInt8)}, TxInv sdus N pd left sent st got st.next → st.next ≤ N →
    TxInv sdus N pd left sent (advP f st).1 (got ++ (advP f st).2) (advP f st).1.next ∧ (advP f st).1.next ≤ N
  | 0, st, got, h, hn => by
    rw [advP, List.append_nil]
    exact ⟨h, hn⟩
  | f + 1, st, got, h, hn => by
    unfold advP
    split
    · rename_i hs
      obtain ⟨p, hp⟩ := Option.isSome_iff_exists.1 hs
      have hlt := (h.m _ p hp).2.1
      have h200 := T.n200
      have h1 := h.take T hlt
      obtain ⟨f1, _⟩ := take_f st st.next
      have e : (nextUp (takeP st st.next).1).next = st.next + 1 := by
        simp only [nextUp, f1]
        omega
      have h2 : TxInv sdus N pd left sent (nextUp (takeP st st.next).1) (got ++ (takeP st st.next).2) (nextUp (takeP st st.next).1).next := by
        rw [e]
        exact h1.like rfl rfl rfl rfl
      obtain ⟨h3, h4⟩ := TxInv.adv T f h2 (by rw [e]; omega)
      rw [List.append_assoc] at h3
      exact ⟨h3, h4⟩
    · rw [List.append_nil]
      exact ⟨h, hn⟩
/-- all that holds between two receptions -/
structure TxAll (sdus : List (List UInt8)) (N : Nat) (pd : Nat → Pd) (left : Nat → List (List UInt8)) (sent : Nat → Nat) (st : Rs) (got : List (List UInt8)) : Prop where
  ok : StOk st
  win : Win st
  tx : TxInv sdus N pd left sent st got st.next
  high : st.high ≤ N
  trig : st.trig ≤ N
theorem place_le {h k : Nat} (hh : h ≤ 200) (hk : k ≤ 200) : placeP h k = k + 512 - h := by unfold placeP; omega
theorem TxInv.waits {st : Rs} {got : List (List UInt8)} {c : Nat} (h : TxInv sdus N pd left sent st got c) : TxInv sdus N pd left sent (waitsP st) got c := by
  unfold waitsP
  split
  · exact h.like rfl rfl rfl rfl
  · exact h
theorem waits_f (st : Rs) : (waitsP st).next = st.next ∧ (waitsP st).high = st.high ∧ ((waitsP st).trig = st.trig ∨ (waitsP st).trig = st.high) := by
  unfold waitsP
  split
  · exact ⟨rfl, rfl, .inr rfl⟩
  · exact ⟨rfl, rfl, .inl rfl⟩
theorem adv_f : ∀ (f : Nat) (st : Rs), (advP f st).1.high = st.high ∧ (advP f st).1.trig = st.trig ∧ (advP f st).1.ro = st.ro
  | 0, _ => ⟨rfl, rfl, rfl⟩
  | f + 1, st => by
    unfold advP
    split
    · obtain ⟨_, f2, f3, f4, _⟩ := take_f st st.next
      obtain ⟨a, b, c⟩ := adv_f f (nextUp (takeP st st.next).1)
      exact ⟨a.trans f2, b.trans f3, c.trans f4⟩
    · exact ⟨rfl, rfl, rfl⟩
theorem TxAll.fires (T : Tx sdus N pd left sent) {st : Rs} {got : List (List UInt8)} (h : TxAll sdus N pd left sent st got) (hr : st.ro = true) (hnN : st.next ≤ N) :
    TxAll sdus N pd left sent (firesP st).1 (got ++ (firesP st).2) ∧ (firesP st).1.next ≤ N := by
  have h200 := T.n200
  have hh := h.high
  have ht := h.trig
  obtain ⟨w1, w2⟩ := h.win.2 hr
  rw [place_le (by omega) (by omega)] at w1 w2
  rw [place_le (by omega) (by omega)] at w1
  have hb : baseP st.high = st.high + 512 := by unfold baseP; omega
  have hp : placeP st.high st.trig = (512 - st.high) + st.trig := by rw [place_le (by omega) (by omega)]; omega
  have hskip : spanP (st.high + 512) (512 - st.high) st = (st, []) := span_skip _ _ _ fun i hi => by
    cases hm : st.m ((st.high + 512 + i) % 1024) with
    | none => rfl
    | some p =>
      have := (h.tx.m _ p hm).2.1
      omega
  have hspan : spanP (baseP st.high) (placeP st.high st.trig) st = spanP 0 st.trig st := by
    rw [hb, hp, span_add, hskip]
    dsimp only
    rw [show st.high + 512 + (512 - st.high) = 0 + 1024 by omega, span_wrap]
    simp
  have hs := h.tx.span T st.trig 0 (by omega) (by omega)
  rw [show max st.next (0 + st.trig) = st.trig by omega] at hs
  have hso := StOk.span st.trig 0 h.ok
  obtain ⟨f1, f2, f3, _⟩ := span_f st.trig 0 st
  have h2 : TxInv sdus N pd left sent (toTrig (spanP 0 st.trig st).1) (got ++ (spanP 0 st.trig st).2) (toTrig (spanP 0 st.trig st).1).next := by
    rw [show (toTrig (spanP 0 st.trig st).1).next = st.trig from f3]
    exact hs.like rfl rfl rfl rfl
  obtain ⟨h3, h4⟩ := h2.adv T 1024 (by rw [show (toTrig (spanP 0 st.trig st).1).next = st.trig from f3]; exact ht)
  obtain ⟨a1, a2, a3⟩ := adv_f 1024 (toTrig (spanP 0 st.trig st).1)
  have hw := (Win.fires h.ok h.win hr).2
  have hok := h.ok.fires.1
  unfold firesP at hw hok ⊢
  rw [hspan] at hw hok ⊢
  dsimp only at hw hok ⊢
  obtain ⟨g1, g2, g3⟩ := waits_f (roOff (advP 1024 (toTrig (spanP 0 st.trig st).1)).1)
  rw [← List.append_assoc]
  refine ⟨⟨hok, hw, ?_, ?_, ?_⟩, ?_⟩
  · rw [g1]
    exact TxInv.waits (h3.like rfl rfl rfl rfl)
  · rw [g2]
    show (advP 1024 (toTrig (spanP 0 st.trig st).1)).1.high ≤ N
    rw [a1]
    show (spanP 0 st.trig st).1.high ≤ N
    rw [f2]
    exact hh
  · rcases g3 with e | e <;> rw [e]
    · show (advP 1024 (toTrig (spanP 0 st.trig st).1)).1.trig ≤ N
      rw [a2]
      show (spanP 0 st.trig st).1.trig ≤ N
      rw [f3]
      exact ht
    · show (advP 1024 (toTrig (spanP 0 st.trig st).1)).1.high ≤ N
      rw [a1]
      show (spanP 0 st.trig st).1.high ≤ N
      rw [f2]
      exact hh
  · rw [g1]
    exact h4
theorem TxAll.goes (T : Tx sdus N pd left sent) {st : Rs} {got : List (List UInt8)} (h : TxAll sdus N pd left sent st got) (hnN : st.next ≤ N) {now : Int} (hn : now ≤ 1000000000000) :
    TxAll sdus N pd left sent (goesP st now).1 (got ++ (goesP st now).2) ∧ (goesP st now).1.next ≤ N := by
  have hc : TxAll sdus N pd left sent (clock st now) got := ⟨h.ok.clock hn, h.win, h.tx.like rfl rfl rfl rfl, h.high, h.trig⟩
  unfold goesP
  split
  · rw [List.append_nil]
    exact ⟨hc, hnN⟩
  · rename_i hcc
    have hr : st.ro = true := by
      cases hh : st.ro with
      | false => exact absurd (.inl hh) hcc
      | true => rfl
    exact hc.fires T hr hnN
theorem TxAll.new (T : Tx sdus N pd left sent) {st : Rs} {got : List (List UInt8)} (h : TxAll sdus N pd left sent st got) (hnN : st.next ≤ N) {k : Nat} (hk : k < N) :
    TxAll sdus N pd left sent (newP st (pd k)).1 (got ++ (newP st (pd k)).2) ∧ (newP st (pd k)).1.next ≤ N := by
  have h200 := T.n200
  have hh := h.high
  have ht := h.trig
  have hok := (h.ok.new (T.ok k hk)).1
  have hw := (h.win.new h.ok (T.ok k hk)).2
  by_cases hc : (st.m (pd k).sn).isSome ∨ placeP st.high (pd k).sn < placeP st.high st.next
  · unfold newP
    rw [if_pos hc, List.append_nil]
    exact ⟨h, hnN⟩
  · unfold newP at hok hw ⊢
    rw [if_neg hc] at hok hw ⊢
    rw [T.sn k hk] at hc
    have hw1 := h.win.1.1
    rw [place_le (by omega) (by omega)] at hw1
    have hge : st.next ≤ k := by
      have : ¬ placeP st.high k < placeP st.high st.next := fun e => hc (.inr e)
      rw [place_le (by omega) (by omega), place_le (by omega) (by omega)] at this
      omega
    have hst : TxInv sdus N pd left sent (storeP st (pd k)) got st.next := ⟨h.tx.lo, h.tx.lt, fun j q hj => by
      simp only [storeP, mPut, T.sn k hk] at hj
      split at hj
      · rename_i e
        cases hj
        exact ⟨by omega, by omega, by rw [e]⟩
      · exact h.tx.m j q hj, h.tx.op, h.tx.sub⟩
    have hmv : TxInv sdus N pd left sent (moveP st (pd k)).1 got (moveP st (pd k)).1.next ∧ (moveP st (pd k)).2 = [] ∧ (moveP st (pd k)).1.next ≤ N ∧ (moveP st (pd k)).1.high ≤ N ∧ (moveP st (pd k)).1.trig ≤ N := by
      unfold moveP
      rw [T.sn k hk, place_le (by omega) (by omega), place_le (by omega) (by omega)]
      split
      · rw [if_neg (by omega)]
        exact ⟨hst.like rfl rfl rfl rfl, rfl, hnN, by simp only [highUp, T.sn k hk]; omega, ht⟩
      · exact ⟨hst, rfl, hnN, hh, ht⟩
    obtain ⟨m1, m2, m3, m4, m5⟩ := hmv
    obtain ⟨h3, h4⟩ := m1.adv T 1024 m3
    obtain ⟨a1, a2, a3⟩ := adv_f 1024 (moveP st (pd k)).1
    rw [m2, List.nil_append]
    dsimp only at hok hw ⊢
    generalize (advP 1024 (moveP st (pd k)).1).1 = s2 at *
    have hend : TxInv sdus N pd left sent (endP s2) (got ++ (advP 1024 (moveP st (pd k)).1).2) (endP s2).next ∧ (endP s2).next ≤ N ∧ (endP s2).high ≤ N ∧ (endP s2).trig ≤ N := by
      unfold endP
      split
      · obtain ⟨g1, g2, g3⟩ := waits_f (roOff s2)
        refine ⟨?_, by rw [g1]; exact h4, by rw [g2]; exact Nat.le_trans (Nat.le_of_eq a1) m4, ?_⟩
        · rw [g1]
          exact TxInv.waits (h3.like rfl rfl rfl rfl)
        · rcases g3 with e | e <;> rw [e]
          · exact Nat.le_trans (Nat.le_of_eq a2) m5
          · exact Nat.le_trans (Nat.le_of_eq a1) m4
      · obtain ⟨g1, g2, g3⟩ := waits_f s2
        refine ⟨?_, by rw [g1]; exact h4, by rw [g2]; exact Nat.le_trans (Nat.le_of_eq a1) m4, ?_⟩
        · rw [g1]
          exact TxInv.waits h3
        · rcases g3 with e | e <;> rw [e]
          · exact Nat.le_trans (Nat.le_of_eq a2) m5
          · exact Nat.le_trans (Nat.le_of_eq a1) m4
    exact ⟨⟨hok, hw, hend.1, hend.2.2.1, hend.2.2.2⟩, hend.2.1⟩
theorem TxAll.recv (T : Tx sdus N pd left sent) {st : Rs} {got : List (List UInt8)} (h : TxAll sdus N pd left sent st got) (hnN : st.next ≤ N) {now : Int} (hn : now ≤ 1000000000000) {k : Nat} (hk : k < N) :
    TxAll sdus N pd left sent (recvP st now (pd k)).1 (got ++ (recvP st now (pd k)).2) ∧ (recvP st now (pd k)).1.next ≤ N := by
  obtain ⟨h1, h2⟩ := h.goes T hnN hn
  have := h1.new T h2 hk
  simp only [recvP]
  rw [← List.append_assoc]
  exact this
theorem TxAll.start (_T : Tx sdus N pd left sent) {d : Int} (h1 : 1 ≤ d) (h2 : d ≤ 1000000000000) : TxAll sdus N pd left sent (newRs d) [] :=
  ⟨newRs_ok h1 h2, newRs_win d, ⟨by simp [newRs], by simp [newRs], fun k p hk => by simp [newRs] at hk, fun hs => by simp [newRs] at hs, by simp⟩, Nat.zero_le _, Nat.zero_le _⟩
end
end Go.Proofs.Ytchlbpfeiamieaa
