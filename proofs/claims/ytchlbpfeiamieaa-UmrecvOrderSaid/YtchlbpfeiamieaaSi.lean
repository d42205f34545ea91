/- umrecv: a transmitter's PDUs, received in any order: what is returned is a part of what was submitted. -/
import Derived.Test.YtchlbpfeiamieaaSh
import Derived.Test.YtchlbpfeiamieaaSe
namespace Go.Proofs.Ytchlbpfeiamieaa

/-- what a transmitter sends: N PDUs; before PDU i the SDUs left i, sent i bytes of the first -/
structure Tx (sdus : List (List UInt8)) (N : Nat) (pd : Nat → Pd) (left : Nat → List (List UInt8)) (sent : Nat → Nat) : Prop where
  n200 : N ≤ 200
  l0 : left 0 = sdus
  s0 : sent 0 = 0
  sn : ∀ i, i < N → (pd i).sn = i
  s : ∀ i, i < N → (pd i).s = decide (sent i = 0)
  ne : ∀ i, i < N → (pd i).ps ≠ []
  ok : ∀ i, i < N → PdOk (pd i)
  each : ∀ i, i < N → ∀ q ∈ (pd i).ps, q.length ≤ 60
  len : ∀ s ∈ sdus, s.length ≤ 60
  step : ∀ i, i < N → ∃ g, left i = g ++ left (i + 1) ∧ joinG (((left i).headD []).take (sent i)) (decide (0 < sent i)) (pd i).ps (pd i).en = (g, ((left (i + 1)).headD []).take (sent (i + 1)), decide (0 < sent (i + 1)))
/-- the SDUs that end before PDU i -/
def doneAt (sdus : List (List UInt8)) (left : Nat → List (List UInt8)) (i : Nat) : List (List UInt8) := sdus.take (sdus.length - (left i).length)
section
variable {sdus : List (List UInt8)} {N : Nat} {pd : Nat → Pd} {left : Nat → List (List UInt8)} {sent : Nat → Nat}
theorem Tx.suffix (h : Tx sdus N pd left sent) : ∀ i, i ≤ N → ∃ d, sdus = d ++ left i
  | 0, _ => ⟨[], by rw [h.l0]; rfl⟩
  | i + 1, hi => by
    obtain ⟨d, hd⟩ := Tx.suffix h i (by omega)
    obtain ⟨g, hg, _⟩ := h.step i (by omega)
    exact ⟨d ++ g, by rw [hd, hg, List.append_assoc]⟩
theorem Tx.done (h : Tx sdus N pd left sent) {i : Nat} (hi : i ≤ N) : sdus = doneAt sdus left i ++ left i := by
  obtain ⟨d, hd⟩ := h.suffix i hi
  unfold doneAt
  rw [hd]
  simp
theorem Tx.doneStep (h : Tx sdus N pd left sent) {i : Nat} (hi : i < N) : ∃ g, doneAt sdus left (i + 1) = doneAt sdus left i ++ g ∧ left i = g ++ left (i + 1) ∧ joinG (((left i).headD []).take (sent i)) (decide (0 < sent i)) (pd i).ps (pd i).en = (g, ((left (i + 1)).headD []).take (sent (i + 1)), decide (0 < sent (i + 1))) := by
  obtain ⟨g, hg, hj⟩ := h.step i hi
  refine ⟨g, ?_, hg, hj⟩
  have h1 := h.done (i := i) (by omega)
  have h2 := h.done (i := i + 1) (by omega)
  have h3 : doneAt sdus left (i + 1) ++ left (i + 1) = doneAt sdus left i ++ g ++ left (i + 1) := by
    rw [← h2, List.append_assoc, ← hg]
    exact h1
  exact List.append_cancel_right h3
theorem Tx.doneMono (h : Tx sdus N pd left sent) {i : Nat} : ∀ j, i + j ≤ N → ∃ r, doneAt sdus left (i + j) = doneAt sdus left i ++ r
  | 0, _ => ⟨[], by simp⟩
  | j + 1, hj => by
    obtain ⟨r, hr⟩ := Tx.doneMono h j (i := i) (by omega)
    obtain ⟨g, hg, _⟩ := h.doneStep (i := i + j) (by omega)
    exact ⟨r ++ g, by rw [← Nat.add_assoc, hg, hr, List.append_assoc]⟩
theorem head_len (h : Tx sdus N pd left sent) {i : Nat} (hi : i ≤ N) (k : Nat) : (((left i).headD []).take k).length ≤ 60 := by
  obtain ⟨d, hd⟩ := h.suffix i hi
  rw [List.length_take]
  cases hl : left i with
  | nil => simp
  | cons x r =>
    have := h.len x (by rw [hd, hl]; simp)
    simp only [List.headD_cons]
    omega
/-- the open SDU is what was sent of it so far -/
def OpenOk (left : Nat → List (List UInt8)) (sent : Nat → Nat) (st : Rs) : Prop :=
  st.sm = true → 0 ≤ st.last ∧ 0 < sent (st.last + 1).toNat ∧ st.b = ((left (st.last + 1).toNat).headD []).take (sent (st.last + 1).toNat)
/-- PDU k is delivered -/
theorem Tx.dlv (h : Tx sdus N pd left sent) {st : Rs} {k : Nat} (hk : k < N) (_hl : -1 ≤ st.last) (hlk : st.last < k) (ho : OpenOk left sent st) :
    OpenOk left sent (dlv st (pd k)).1 ∧ ∃ g, doneAt sdus left (k + 1) = doneAt sdus left k ++ g ∧ (dlv st (pd k)).2.Sublist g ∧
      ((sent k = 0 ∨ (st.last + 1 = k ∧ st.sm = true)) → (dlv st (pd k)).2 = g ∧ (dlv st (pd k)).1.sm = decide (0 < sent (k + 1))) ∧
      (¬ (sent k = 0 ∨ (st.last + 1 = k ∧ st.sm = true)) → (dlv st (pd k)).2 = g.tail ∧ ((pd k).ps.length = 1 → (dlv st (pd k)).1.sm = false) ∧ ((pd k).ps.length ≠ 1 → (dlv st (pd k)).1.sm = decide (0 < sent (k + 1)))) := by
  obtain ⟨g, h1, h2, hj⟩ := h.doneStep hk
  have hsn := h.sn k hk
  have hs := h.s k hk
  have hne := h.ne k hk
  have hq := h.each k hk
  have hn := h.n200
  have hb0 := head_len h (Nat.le_of_lt hk) (sent k)
  have hopen : ∀ (b : List UInt8) (sm : Bool), (b = ((left (k + 1)).headD []).take (sent (k + 1)) ∧ sm = decide (0 < sent (k + 1))) ∨ sm = false → OpenOk left sent { st with b := b, sm := sm, last := (k : Int) } := by
    intro b sm hh hsm
    dsimp only at hsm ⊢
    have e : ((k : Int) + 1).toNat = k + 1 := by omega
    rw [e]
    rcases hh with ⟨rfl, rfl⟩ | rfl
    · exact ⟨by omega, by simpa using hsm, rfl⟩
    · cases hsm
  have on : ∀ (b : List UInt8) (sm : Bool), ((pd k).s = true ∨ ((pd k).s = false ∧ sm = true ∧ b = ((left k).headD []).take (sent k))) → partsFrom (pd k).s (pd k).en (pd k).ps.length 0 (pd k).ps b sm = (((left (k + 1)).headD []).take (sent (k + 1)), decide (0 < sent (k + 1)), g) := by
    intro b sm hc
    rw [partsFrom_on (pd k).s (pd k).en (pd k).ps b sm (((left k).headD []).take (sent k)) hne (by
      rcases hc with hc | ⟨h1, h2, h3⟩
      · refine .inl ⟨hc, ?_⟩
        rw [hs] at hc
        have : sent k = 0 := by simpa using hc
        rw [this]
        rfl
      · exact .inr ⟨h1, h2, h3.symm⟩) (fun q hq' => by have := hq q hq'; omega) (decide (0 < sent k)), hj]
  have off : (pd k).s = false → ∀ (b : List UInt8), partsFrom (pd k).s (pd k).en (pd k).ps.length 0 (pd k).ps b false = (if (pd k).ps.length = 1 then (b, false, []) else (((left (k + 1)).headD []).take (sent (k + 1)), decide (0 < sent (k + 1)), g.tail)) := by
    intro hf b
    have hpos : decide (0 < sent k) = true := by
      rw [hs] at hf
      have : sent k ≠ 0 := by simpa using hf
      simp
      omega
    rw [hf, partsFrom_off (pd k).en (pd k).ps b (((left k).headD []).take (sent k)) hne (fun q hq' => by have := hq q hq'; omega)]
    rw [hpos] at hj
    rw [hj]
  have hcase : (∃ b sm, dlvB st (pd k) = partsFrom (pd k).s (pd k).en (pd k).ps.length 0 (pd k).ps b sm ∧ ((st.last + 1 = k ∧ b = st.b ∧ sm = st.sm) ∨ ((st.last + 1 ≠ k ∨ st.last < 0) ∧ sm = false))) := by
    unfold dlvB
    rw [hsn]
    split
    · rename_i hc
      refine ⟨_, _, rfl, ?_⟩
      exact .inr ⟨by omega, rfl⟩
    · rename_i hc
      refine ⟨_, _, rfl, .inl ⟨?_, rfl, rfl⟩⟩
      omega
  obtain ⟨b, sm, hB, hbs⟩ := hcase
  unfold Go.Proofs.Ytchlbpfeiamieaa.dlv
  rw [hB, hsn]
  by_cases hstart : sent k = 0
  · have hst : (pd k).s = true := by rw [hs]; simpa using hstart
    rw [on b sm (.inl hst)]
    exact ⟨hopen _ _ (.inl ⟨rfl, rfl⟩), g, h1, List.Sublist.refl _, fun _ => ⟨rfl, rfl⟩, fun hh => absurd (.inl hstart) hh⟩
  · have hst : (pd k).s = false := by rw [hs]; simpa using hstart
    cases sm with
    | true =>
      rcases hbs with ⟨e, rfl, e2⟩ | ⟨_, e2⟩
      · obtain ⟨_, _, hob⟩ := ho e2.symm
        have e3 : (st.last + 1).toNat = k := by omega
        rw [e3] at hob
        rw [on st.b true (.inr ⟨hst, rfl, hob⟩)]
        exact ⟨hopen _ _ (.inl ⟨rfl, rfl⟩), g, h1, List.Sublist.refl _, fun _ => ⟨rfl, rfl⟩, fun hh => absurd (.inr ⟨e, e2.symm⟩) hh⟩
      · cases e2
    | false =>
      have hno : ¬ (sent k = 0 ∨ (st.last + 1 = k ∧ st.sm = true)) := by
        rintro (hh | ⟨e, e2⟩)
        · exact hstart hh
        · rcases hbs with ⟨_, _, e3⟩ | ⟨e3, _⟩
          · rw [e2] at e3
            cases e3
          · have := (ho e2).1
            omega
      rw [off hst b]
      by_cases hl1 : (pd k).ps.length = 1
      · rw [if_pos hl1]
        refine ⟨hopen _ _ (.inr rfl), g, h1, by simp, fun hh => absurd hh hno, fun _ => ⟨?_, fun _ => rfl, fun hh => absurd hl1 hh⟩⟩
        -- a PDU of one part ends at most the SDU that was open
        dsimp only
        have hg1 : g.length ≤ 1 := by
          have : (joinG (((left k).headD []).take (sent k)) (decide (0 < sent k)) (pd k).ps (pd k).en).1.length ≤ 1 := by
            cases hps : (pd k).ps with
            | nil => simp [joinG]
            | cons p r =>
              rw [hps] at hl1
              have : r = [] := List.eq_nil_of_length_eq_zero (by simpa using hl1)
              subst this
              cases (pd k).en <;> simp [joinG]
          rw [hj] at this
          exact this
        cases g with
        | nil => rfl
        | cons x r =>
          have : r = [] := List.eq_nil_of_length_eq_zero (by simpa using hg1)
          subst this
          rfl
      · rw [if_neg hl1]
        exact ⟨hopen _ _ (.inl ⟨rfl, rfl⟩), g, h1, List.tail_sublist g, fun hh => absurd hh hno, fun _ => ⟨rfl, fun hh => absurd hh hl1, fun _ => rfl⟩⟩
end
end Go.Proofs.Ytchlbpfeiamieaa
