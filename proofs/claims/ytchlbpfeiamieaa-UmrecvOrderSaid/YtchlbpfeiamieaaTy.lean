/- law32: sent: what a transmitter sends in grants of given sizes (plain). law32: sent: its PDUs are a transmitter's (plain). -/
import Derived.Test.YtchlbpfeiamieaaK0
import Derived.Test.YtchlbpfeiamieaaSi
namespace Go.Proofs.Ytchlbpfeiamieaa

/-- what is left to be sent: the bytes, and two for each SDU -/
def phi (left : List (List UInt8)) (sent : Nat) : Nat := sumLen left - sent + 2 * left.length
theorem sumLen_cons32 (x : List UInt8) (r : List (List UInt8)) : sumLen (x :: r) = x.length + sumLen r := by simp [sumLen]
/-- a chunk takes nothing back -/
theorem chk_phi (n : Int) : ∀ (f : Nat) (left : List (List UInt8)) (sent cnt lst size : Nat) (e : Bool), (∀ x r, left = x :: r → sent < x.length) → (left = [] → sent = 0) → (∀ s ∈ left, 1 ≤ s.length) →
    phi (chk n f left sent cnt lst size e).2.2.1 (chk n f left sent cnt lst size e).2.2.2 ≤ phi left sent
  | 0, left, sent, cnt, lst, size, e, _, _, _ => by rw [chk]; exact Nat.le_refl _
  | f + 1, [], sent, cnt, lst, size, e, _, _, _ => by rw [chk]; exact Nat.le_refl _
  | f + 1, x :: rest, sent, cnt, lst, size, e, h1, h2, h3 => by
    have hs := h1 x rest rfl
    rw [chk]
    split
    · exact Nat.le_refl _
    split
    · exact Nat.le_refl _
    generalize (min (n - hdrN ((cnt : Int) + 1)) 32767 - (size : Int)).toNat = room
    split
    · simp only [phi, sumLen_cons32, List.length_cons]
      omega
    · have ih := chk_phi n f rest 0 (cnt + 1) (x.length - sent) (size + (x.length - sent)) true (fun y r hy => h3 y (by rw [hy]; simp)) (fun _ => rfl) (fun s hm => h3 s (by simp [hm]))
      refine Nat.le_trans ih ?_
      simp only [phi, sumLen_cons32, List.length_cons]
      omega
/-- a grant of at least 5 bytes -/
theorem grant_phi (n : Int) (hn : 5 ≤ n) (x : List UInt8) (rest : List (List UInt8)) (sent f : Nat) (hs : sent < x.length) (h3 : ∀ s ∈ rest, 1 ≤ s.length) :
    (chk n (f + 1) (x :: rest) sent 0 0 0 false).1 ≠ [] ∧ phi (chk n (f + 1) (x :: rest) sent 0 0 0 false).2.2.1 (chk n (f + 1) (x :: rest) sent 0 0 0 false).2.2.2 + 3 ≤ phi (x :: rest) sent := by
  have hh : hdrN ((0 : Nat) + 1 : Int) = 2 := by decide
  rw [chk, if_neg (by omega), hh, if_neg (by omega)]
  have hroom : 3 ≤ (min (n - 2) 32767 - ((0 : Nat) : Int)).toNat := by omega
  generalize (min (n - 2) 32767 - ((0 : Nat) : Int)).toNat = room at *
  split
  · refine ⟨by simp, ?_⟩
    simp only [phi, sumLen_cons32, List.length_cons]
    omega
  · refine ⟨by simp, ?_⟩
    have ih := chk_phi n f rest 0 (0 + 1) (x.length - sent) (0 + (x.length - sent)) true (fun y r hy => h3 y (by rw [hy]; simp)) (fun _ => rfl) h3
    refine Nat.le_trans (Nat.add_le_add_right ih 3) ?_
    simp only [phi, sumLen_cons32, List.length_cons]
    omega
/-- the grants' sizes -/
def sizeAt (sizes : List UInt8) (i : Nat) : Nat := if sizes = [] then 20 else 5 + (sizes[min i (sizes.length - 1)]?.getD 0).toNat % 60
theorem sizeAt_ge (sizes : List UInt8) (i : Nat) : 5 ≤ sizeAt sizes i ∧ sizeAt sizes i ≤ 64 := by
  unfold sizeAt
  split
  · omega
  · have := Nat.mod_lt (sizes[min i (sizes.length - 1)]?.getD 0).toNat (by omega : 60 > 0)
    omega
/-- the transmitter before grant i: the SDUs left, the bytes sent of the first -/
def txAt (sizes : List UInt8) (sdus : List (List UInt8)) : Nat → List (List UInt8) × Nat
  | 0 => (sdus, 0)
  | i + 1 => (chk (sizeAt sizes i) ((txAt sizes sdus i).1.length + 1) (txAt sizes sdus i).1 (txAt sizes sdus i).2 0 0 0 false).2.2
/-- what holds of a transmitter -/
structure TxOk (left : List (List UInt8)) (sent : Nat) : Prop where
  lt : ∀ x r, left = x :: r → sent < x.length
  z : left = [] → sent = 0
  len : ∀ s ∈ left, 1 ≤ s.length ∧ s.length ≤ 60
theorem TxOk.step {left : List (List UInt8)} {sent : Nat} (h : TxOk left sent) (n : Int) (f : Nat) : TxOk (chk n f left sent 0 0 0 false).2.2.1 (chk n f left sent 0 0 0 false).2.2.2 := by
  have hk := chk_ok n f left sent 0 0 0 false (fun s hs => (h.len s hs).1) h.lt h.z
  refine ⟨hk.lt_, hk.z_, fun s hs => ?_⟩
  by_cases hne : (chk n f left sent 0 0 0 false).1 = []
  · have := hk.none_ hne
    rw [this] at hs
    exact h.len s hs
  · obtain ⟨g, hg, _⟩ := hk.some_ hne
    exact h.len s (by rw [hg]; simp [hs])
theorem txAt_ok (sizes : List UInt8) {sdus : List (List UInt8)} (h : ∀ s ∈ sdus, 1 ≤ s.length ∧ s.length ≤ 60) : ∀ i, TxOk (txAt sizes sdus i).1 (txAt sizes sdus i).2
  | 0 => ⟨fun x r e => by have := h x (by simp only [txAt] at e; rw [e]; simp); simp only [txAt]; omega, fun _ => rfl, h⟩
  | i + 1 => (txAt_ok sizes h i).step _ _
theorem txAt_phi (sizes : List UInt8) {sdus : List (List UInt8)} (h : ∀ s ∈ sdus, 1 ≤ s.length ∧ s.length ≤ 60) : ∀ k, (∃ N, N ≤ k ∧ (txAt sizes sdus N).1 = [] ∧ ∀ i, i < N → (txAt sizes sdus i).1 ≠ []) ∨ ((∀ i, i ≤ k → (txAt sizes sdus i).1 ≠ []) ∧ phi (txAt sizes sdus k).1 (txAt sizes sdus k).2 + 3 * k ≤ phi sdus 0)
  | 0 => by
    by_cases h0 : (txAt sizes sdus 0).1 = []
    · exact .inl ⟨0, Nat.le_refl _, h0, fun i hi => by omega⟩
    · exact .inr ⟨fun i hi => by rw [show i = 0 by omega]; exact h0, Nat.le_refl _⟩
  | k + 1 => by
    rcases txAt_phi sizes h k with ⟨N, h1, h2, h3⟩ | ⟨h1, h2⟩
    · exact .inl ⟨N, by omega, h2, h3⟩
    · by_cases h0 : (txAt sizes sdus (k + 1)).1 = []
      · exact .inl ⟨k + 1, Nat.le_refl _, h0, fun i hi => h1 i (by omega)⟩
      · refine .inr ⟨fun i hi => ?_, ?_⟩
        · rcases Nat.lt_or_ge i (k + 1) with hlt | hge
          · exact h1 i (by omega)
          · rw [show i = k + 1 by omega]
            exact h0
        · have ho := txAt_ok sizes h k
          have hne := h1 k (Nat.le_refl _)
          have hsz := (sizeAt_ge sizes k).1
          simp only [txAt]
          generalize txAt sizes sdus k = T at *
          obtain ⟨left, sent⟩ := T
          cases left with
          | nil => exact absurd rfl hne
          | cons x rest =>
            have := (grant_phi (sizeAt sizes k) (by omega) x rest sent (rest.length + 1) (ho.lt x rest rfl) (fun s hs => (ho.len s (by simp [hs])).1)).2
            dsimp only at h2
            simp only [List.length_cons] at this ⊢
            omega
/-- all is sent within 166 grants -/
theorem txAt_end (sizes : List UInt8) {sdus : List (List UInt8)} (h : ∀ s ∈ sdus, 1 ≤ s.length ∧ s.length ≤ 60) (h8 : sdus.length ≤ 8) : ∃ N, N ≤ 166 ∧ (txAt sizes sdus N).1 = [] ∧ ∀ i, i < N → (txAt sizes sdus i).1 ≠ [] := by
  have hsum : ∀ l : List (List UInt8), (∀ s ∈ l, s.length ≤ 60) → sumLen l ≤ 60 * l.length := by
    intro l
    induction l with
    | nil => intro _; simp [sumLen]
    | cons x r ih =>
      intro hl
      have h1 := hl x (by simp)
      have h2 := ih (fun s hs => hl s (by simp [hs]))
      rw [sumLen_cons32]
      simp only [List.length_cons]
      omega
  have hs := hsum sdus (fun s hs => (h s hs).2)
  rcases txAt_phi sizes h 166 with hh | ⟨_, h2⟩
  · exact hh
  · unfold phi at h2
    omega
end Go.Proofs.Ytchlbpfeiamieaa
namespace Go.Proofs.Ytchlbpfeiamieaa

/-- PDU i -/
def pdAt (sizes : List UInt8) (sdus : List (List UInt8)) (i : Nat) : Pd :=
  ⟨i, decide ((txAt sizes sdus i).2 = 0), (chk (sizeAt sizes i) ((txAt sizes sdus i).1.length + 1) (txAt sizes sdus i).1 (txAt sizes sdus i).2 0 0 0 false).2.1, (chk (sizeAt sizes i) ((txAt sizes sdus i).1.length + 1) (txAt sizes sdus i).1 (txAt sizes sdus i).2 0 0 0 false).1⟩
/-- no part is longer than an SDU -/
theorem chk_short (n : Int) : ∀ (f : Nat) (left : List (List UInt8)) (sent cnt lst size : Nat) (e : Bool), (∀ s ∈ left, s.length ≤ 60) → ∀ q ∈ (chk n f left sent cnt lst size e).1, q.length ≤ 60
  | 0, left, sent, cnt, lst, size, e, _ => by rw [chk]; simp
  | f + 1, [], sent, cnt, lst, size, e, _ => by rw [chk]; simp
  | f + 1, x :: rest, sent, cnt, lst, size, e, h => by
    have hx := h x (by simp)
    rw [chk]
    split
    · simp
    split
    · simp
    split
    · intro q hq
      simp only [List.mem_cons, List.not_mem_nil, or_false] at hq
      rw [hq, List.length_take, List.length_drop]
      omega
    · intro q hq
      simp only [List.mem_cons] at hq
      rcases hq with rfl | hq
      · rw [List.length_drop]
        omega
      · exact chk_short n f rest 0 _ _ _ true (fun s hs => h s (by simp [hs])) q hq
theorem pdAt_ne (sizes : List UInt8) {sdus : List (List UInt8)} (h : ∀ s ∈ sdus, 1 ≤ s.length ∧ s.length ≤ 60) {i : Nat} (hi : (txAt sizes sdus i).1 ≠ []) : (pdAt sizes sdus i).ps ≠ [] := by
  have ho := txAt_ok sizes h i
  have hsz := (sizeAt_ge sizes i).1
  unfold pdAt
  dsimp only
  generalize txAt sizes sdus i = T at *
  obtain ⟨left, sent⟩ := T
  cases left with
  | nil => exact absurd rfl hi
  | cons x rest => exact (grant_phi (sizeAt sizes i) (by omega) x rest sent (rest.length + 1) (ho.lt x rest rfl) (fun s hs => (ho.len s (by simp [hs])).1)).1
/-- the PDUs that sent gives are a transmitter's -/
theorem txAt_tx (sizes : List UInt8) {sdus : List (List UInt8)} (h : ∀ s ∈ sdus, 1 ≤ s.length ∧ s.length ≤ 60) {N : Nat} (hN : N ≤ 166) (hne : ∀ i, i < N → (txAt sizes sdus i).1 ≠ []) :
    Tx sdus N (pdAt sizes sdus) (fun i => (txAt sizes sdus i).1) (fun i => (txAt sizes sdus i).2) where
  n200 := by omega
  l0 := rfl
  s0 := rfl
  sn := fun i _ => rfl
  s := fun i _ => rfl
  ne := fun i hi => pdAt_ne sizes h (hne i hi)
  ok := fun i hi => by
    have ho := txAt_ok sizes h i
    have hv := chk_valid (sizeAt sizes i) ((txAt sizes sdus i).1.length + 1) (txAt sizes sdus i).1 (txAt sizes sdus i).2 false (fun s hs => (ho.len s hs).1) ho.lt (pdAt_ne sizes h (hne i hi))
    refine ⟨by simp only [pdAt]; omega, hv.hi, fun q hq => ⟨hv.pos q hq, ?_⟩⟩
    have := chk_short (sizeAt sizes i) _ (txAt sizes sdus i).1 (txAt sizes sdus i).2 0 0 0 false (fun s hs => (ho.len s hs).2) q hq
    omega
  each := fun i hi q hq => chk_short (sizeAt sizes i) _ (txAt sizes sdus i).1 (txAt sizes sdus i).2 0 0 0 false (fun s hs => ((txAt_ok sizes h i).len s hs).2) q hq
  len := fun s hs => (h s hs).2
  step := fun i hi => by
    have ho := txAt_ok sizes h i
    have hk := chk_ok (sizeAt sizes i) ((txAt sizes sdus i).1.length + 1) (txAt sizes sdus i).1 (txAt sizes sdus i).2 0 0 0 false (fun s hs => (ho.len s hs).1) ho.lt ho.z
    obtain ⟨g, h1, h2⟩ := hk.some_ (pdAt_ne sizes h (hne i hi))
    exact ⟨g, h1, h2⟩
end Go.Proofs.Ytchlbpfeiamieaa
