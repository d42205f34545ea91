/- umrecv: what a receiver computes (plain functions and their bounds). -/
import Derived.Test.YtbjajboodohabaaGreatBa
namespace Go.Proofs.YtbjajboodohabaaGreat

/-- a PDU that was decoded -/
structure Pd where
  sn : Nat
  s : Bool
  en : Bool
  ps : List (List UInt8)

/-- one part is added to the open SDU -/
def tailStep (en : Bool) (n i : Nat) (part b : List UInt8) : List UInt8 × Bool × List (List UInt8) :=
  if 9000 < b.length + part.length then ([], false, [])
  else if i + 1 < n ∨ en = true then ([], false, [b ++ part])
  else (b ++ part, true, [])
/-- one part is delivered: the open SDU, whether there is one, what is returned -/
def partStep (s en : Bool) (n i : Nat) (part b : List UInt8) (sm : Bool) : List UInt8 × Bool × List (List UInt8) :=
  if 0 < i ∨ s = true then tailStep en n i part []
  else if sm = false then (b, false, [])
  else tailStep en n i part b
def partsFrom (s en : Bool) (n : Nat) : Nat → List (List UInt8) → List UInt8 → Bool → List UInt8 × Bool × List (List UInt8)
  | _, [], b, sm => (b, sm, [])
  | i, p :: r, b, sm =>
    let y := partStep s en n i p b sm
    let z := partsFrom s en n (i + 1) r y.1 y.2.1
    (z.1, z.2.1, y.2.2 ++ z.2.2)

/-- the state of a receiver -/
structure Rs where
  b : List UInt8
  sm : Bool
  last : Int
  dur : Int
  m : Nat → Option Pd
  next : Nat
  high : Nat
  ro : Bool
  trig : Nat
  exp : Int
  now : Int

def newRs (dur : Int) : Rs := ⟨[], false, -1, dur, fun _ => none, 0, 0, false, 0, 0, 0⟩
def mPut (m : Nat → Option Pd) (k : Nat) (v : Option Pd) : Nat → Option Pd := fun j => if j = k then v else m j
def dlvB (st : Rs) (p : Pd) : List UInt8 × Bool × List (List UInt8) :=
  if st.last < 0 ∨ (p.sn : Int) ≠ (st.last + 1) % 1024 then partsFrom p.s p.en p.ps.length 0 p.ps [] false
  else partsFrom p.s p.en p.ps.length 0 p.ps st.b st.sm
def dlv (st : Rs) (p : Pd) : Rs × List (List UInt8) := ({ st with b := (dlvB st p).1, sm := (dlvB st p).2.1, last := p.sn }, (dlvB st p).2.2)
def takeP (st : Rs) (sn : Nat) : Rs × List (List UInt8) :=
  match st.m sn with
  | none => (st, [])
  | some p => dlv { st with m := mPut st.m sn none } p
def spanP : Nat → Nat → Rs → Rs × List (List UInt8)
  | _, 0, st => (st, [])
  | sn, n + 1, st => ((spanP (sn + 1) n (takeP st (sn % 1024)).1).1, (takeP st (sn % 1024)).2 ++ (spanP (sn + 1) n (takeP st (sn % 1024)).1).2)
def nextUp (st : Rs) : Rs := { st with next := (st.next + 1) % 1024 }
def advP : Nat → Rs → Rs × List (List UInt8)
  | 0, st => (st, [])
  | f + 1, st =>
    if (st.m st.next).isSome then ((advP f (nextUp (takeP st st.next).1)).1, (takeP st st.next).2 ++ (advP f (nextUp (takeP st st.next).1)).2)
    else (st, [])
def placeP (high sn : Nat) : Nat := (sn + 1536 - high) % 1024
def baseP (high : Nat) : Nat := (high + 512) % 1024
def waitsP (st : Rs) : Rs := if st.ro = false ∧ st.high ≠ st.next then { st with ro := true, trig := st.high, exp := IntKind.i64.wrap (st.now + st.dur) } else st
def clock (st : Rs) (now : Int) : Rs := { st with now := if st.now < now then now else st.now }
def toTrig (st : Rs) : Rs := { st with next := st.trig }
def roOff (st : Rs) : Rs := { st with ro := false }
def firesP (st : Rs) : Rs × List (List UInt8) :=
  (waitsP (roOff (advP 1024 (toTrig (spanP (baseP st.high) (placeP st.high st.trig) st).1)).1),
   (spanP (baseP st.high) (placeP st.high st.trig) st).2 ++ (advP 1024 (toTrig (spanP (baseP st.high) (placeP st.high st.trig) st).1)).2)
def goesP (st : Rs) (now : Int) : Rs × List (List UInt8) :=
  if st.ro = false ∨ (clock st now).now < st.exp then (clock st now, []) else firesP (clock st now)
/-- the PDU is stored; where the window moves, what it leaves is delivered -/
def storeP (st : Rs) (p : Pd) : Rs := { st with m := mPut st.m p.sn (some p) }
def highUp (st : Rs) (p : Pd) : Rs := { st with high := (p.sn + 1) % 1024 }
def toBase (st : Rs) : Rs := { st with next := baseP st.high }
def moveP (st : Rs) (p : Pd) : Rs × List (List UInt8) :=
  if 512 ≤ placeP st.high p.sn then
    if placeP st.high st.next < placeP st.high p.sn - 511 then spanP (baseP st.high) (placeP st.high p.sn - 511) (toBase (highUp (storeP st p) p))
    else (highUp (storeP st p) p, [])
  else (storeP st p, [])
def endP (st : Rs) : Rs := waitsP (if placeP st.high st.trig ≤ placeP st.high st.next ∨ 512 < placeP st.high st.trig then roOff st else st)
def newP (st : Rs) (p : Pd) : Rs × List (List UInt8) :=
  if (st.m p.sn).isSome ∨ placeP st.high p.sn < placeP st.high st.next then (st, [])
  else (endP (advP 1024 (moveP st p).1).1, (moveP st p).2 ++ (advP 1024 (moveP st p).1).2)
def recvP (st : Rs) (now : Int) (p : Pd) : Rs × List (List UInt8) := ((newP (goesP st now).1 p).1, (goesP st now).2 ++ (newP (goesP st now).1 p).2)

/-! ### bounds -/
def PdOk (p : Pd) : Prop := p.sn ≤ 1023 ∧ p.ps.length ≤ 64 ∧ ∀ q ∈ p.ps, 1 ≤ q.length ∧ q.length ≤ 1000000
structure StOk (st : Rs) : Prop where
  b : st.b.length ≤ 9000
  last1 : -1 ≤ st.last
  last2 : st.last ≤ 1023
  next : st.next ≤ 1023
  high : st.high ≤ 1023
  trig : st.trig ≤ 1023
  pd : ∀ k p, st.m k = some p → PdOk p ∧ p.sn = k
  now1 : 0 ≤ st.now
  now2 : st.now ≤ 9223372036854775807
  dur1 : 1 ≤ st.dur
  dur2 : st.dur ≤ 9223372036854775807

theorem tailStep_len {en : Bool} {n i : Nat} {part b : List UInt8} : (tailStep en n i part b).1.length ≤ 9000 ∧ (tailStep en n i part b).2.2.length ≤ 1 := by
  unfold tailStep
  split
  · simp
  · split
    · simp
    · simp; omega
theorem partStep_len {s en : Bool} {n i : Nat} {part b : List UInt8} {sm : Bool} (hb : b.length ≤ 9000) : (partStep s en n i part b sm).1.length ≤ 9000 ∧ (partStep s en n i part b sm).2.2.length ≤ 1 := by
  unfold partStep
  split
  · exact tailStep_len
  · split
    · simpa using hb
    · exact tailStep_len
theorem partsFrom_len (s en : Bool) (n : Nat) : ∀ (r : List (List UInt8)) (i : Nat) (b : List UInt8) (sm : Bool), b.length ≤ 9000 → (partsFrom s en n i r b sm).1.length ≤ 9000 ∧ (partsFrom s en n i r b sm).2.2.length ≤ r.length
  | [], _, b, sm, h => by simp [partsFrom, h]
  | p :: r, i, b, sm, h => by
    have h1 := partStep_len (s := s) (en := en) (n := n) (i := i) (part := p) (sm := sm) h
    have h2 := partsFrom_len s en n r (i + 1) _ (partStep s en n i p b sm).2.1 h1.1
    simp only [partsFrom, List.length_append, List.length_cons]
    omega
theorem dlvB_len {st : Rs} {p : Pd} (h : StOk st) : (dlvB st p).1.length ≤ 9000 ∧ (dlvB st p).2.2.length ≤ p.ps.length := by
  unfold dlvB
  split
  · exact partsFrom_len _ _ _ _ _ _ _ (by simp)
  · exact partsFrom_len _ _ _ _ _ _ _ h.b
theorem StOk.mPut {st : Rs} (h : StOk st) (k : Nat) : StOk { st with m := mPut st.m k none } :=
  ⟨h.b, h.last1, h.last2, h.next, h.high, h.trig, fun j p hj => by
    unfold Go.Proofs.YtbjajboodohabaaGreat.mPut at hj
    dsimp only at hj
    split at hj
    · cases hj
    · exact h.pd j p hj, h.now1, h.now2, h.dur1, h.dur2⟩
theorem StOk.dlv {st : Rs} (h : StOk st) {p : Pd} (hp : PdOk p) : StOk (dlv st p).1 ∧ (dlv st p).2.length ≤ 64 :=
  ⟨⟨(dlvB_len h).1, by have := hp.1; simp only [Go.Proofs.YtbjajboodohabaaGreat.dlv]; omega, by have := hp.1; simp only [Go.Proofs.YtbjajboodohabaaGreat.dlv]; omega, h.next, h.high, h.trig, h.pd, h.now1, h.now2, h.dur1, h.dur2⟩, Nat.le_trans (dlvB_len h).2 hp.2.1⟩
theorem StOk.take {st : Rs} (h : StOk st) (sn : Nat) : StOk (takeP st sn).1 ∧ (takeP st sn).2.length ≤ 64 := by
  unfold takeP
  cases hm : st.m sn with
  | none => exact ⟨h, by simp⟩
  | some p => exact (h.mPut sn).dlv (h.pd sn p hm).1
theorem StOk.span : ∀ (n sn : Nat) {st : Rs}, StOk st → StOk (spanP sn n st).1 ∧ (spanP sn n st).2.length ≤ 64 * n
  | 0, _, _, h => ⟨h, by simp [spanP]⟩
  | n + 1, sn, st, h => by
    have h1 := h.take (sn % 1024)
    have h2 := StOk.span n (sn + 1) h1.1
    refine ⟨h2.1, ?_⟩
    simp only [spanP, List.length_append]
    omega
theorem StOk.nextUp {st : Rs} (h : StOk st) : StOk (nextUp st) := ⟨h.b, h.last1, h.last2, by simp only [Go.Proofs.YtbjajboodohabaaGreat.nextUp]; omega, h.high, h.trig, h.pd, h.now1, h.now2, h.dur1, h.dur2⟩
theorem StOk.adv : ∀ (f : Nat) {st : Rs}, StOk st → StOk (advP f st).1 ∧ (advP f st).2.length ≤ 64 * f
  | 0, _, h => ⟨h, by simp [advP]⟩
  | f + 1, st, h => by
    unfold advP
    split
    · have h1 := h.take st.next
      have h2 := StOk.adv f h1.1.nextUp
      refine ⟨h2.1, ?_⟩
      simp only [List.length_append]
      omega
    · exact ⟨h, by simp⟩
theorem StOk.waits {st : Rs} (h : StOk st) : StOk (waitsP st) := by
  unfold waitsP
  split
  · exact ⟨h.b, h.last1, h.last2, h.next, h.high, h.high, h.pd, h.now1, h.now2, h.dur1, h.dur2⟩
  · exact h
theorem StOk.clock {st : Rs} (h : StOk st) {now : Int} (hn : now ≤ 9223372036854775807) : StOk (clock st now) :=
  ⟨h.b, h.last1, h.last2, h.next, h.high, h.trig, h.pd, by have := h.now1; simp only [Go.Proofs.YtbjajboodohabaaGreat.clock]; split <;> omega, by have := h.now2; simp only [Go.Proofs.YtbjajboodohabaaGreat.clock]; split <;> omega, h.dur1, h.dur2⟩
theorem StOk.toTrig {st : Rs} (h : StOk st) : StOk (toTrig st) := ⟨h.b, h.last1, h.last2, h.trig, h.high, h.trig, h.pd, h.now1, h.now2, h.dur1, h.dur2⟩
theorem StOk.roOff {st : Rs} (h : StOk st) : StOk (roOff st) := ⟨h.b, h.last1, h.last2, h.next, h.high, h.trig, h.pd, h.now1, h.now2, h.dur1, h.dur2⟩
theorem placeP_lt (h s : Nat) : placeP h s < 1024 := Nat.mod_lt _ (by omega)
theorem baseP_lt (h : Nat) : baseP h < 1024 := Nat.mod_lt _ (by omega)
theorem StOk.fires {st : Rs} (h : StOk st) : StOk (firesP st).1 ∧ (firesP st).2.length ≤ 131072 := by
  have h1 := StOk.span (placeP st.high st.trig) (baseP st.high) h
  have h2 := StOk.adv 1024 h1.1.toTrig
  have h3 := placeP_lt st.high st.trig
  refine ⟨h2.1.roOff.waits, ?_⟩
  simp only [firesP, List.length_append]
  omega
theorem StOk.goes {st : Rs} (h : StOk st) {now : Int} (hn : now ≤ 9223372036854775807) : StOk (goesP st now).1 ∧ (goesP st now).2.length ≤ 131072 := by
  unfold goesP
  split
  · exact ⟨h.clock hn, by simp⟩
  · exact (h.clock hn).fires
theorem StOk.store {st : Rs} (h : StOk st) {p : Pd} (hp : PdOk p) : StOk (storeP st p) :=
  ⟨h.b, h.last1, h.last2, h.next, h.high, h.trig, fun j q hj => by
    simp only [storeP, Go.Proofs.YtbjajboodohabaaGreat.mPut] at hj
    split at hj
    · rename_i e
      cases hj
      exact ⟨hp, e.symm⟩
    · exact h.pd j q hj, h.now1, h.now2, h.dur1, h.dur2⟩
theorem StOk.highUp {st : Rs} (h : StOk st) (p : Pd) : StOk (highUp st p) := ⟨h.b, h.last1, h.last2, h.next, by simp only [Go.Proofs.YtbjajboodohabaaGreat.highUp]; omega, h.trig, h.pd, h.now1, h.now2, h.dur1, h.dur2⟩
theorem StOk.toBase {st : Rs} (h : StOk st) : StOk (toBase st) := by
  have hb : baseP st.high ≤ 1023 := by have := baseP_lt st.high; omega
  unfold Go.Proofs.YtbjajboodohabaaGreat.toBase
  generalize baseP st.high = q at *
  exact ⟨h.b, h.last1, h.last2, hb, h.high, h.trig, h.pd, h.now1, h.now2, h.dur1, h.dur2⟩
theorem StOk.move {st : Rs} (h : StOk st) {p : Pd} (hp : PdOk p) : StOk (moveP st p).1 ∧ (moveP st p).2.length ≤ 65536 := by
  unfold moveP
  split
  · split
    · have h1 := StOk.span (placeP st.high p.sn - 511) (baseP st.high) ((h.store hp).highUp p).toBase
      have := placeP_lt st.high p.sn
      exact ⟨h1.1, by omega⟩
    · exact ⟨(h.store hp).highUp p, by simp⟩
  · exact ⟨h.store hp, by simp⟩
theorem StOk.ends {st : Rs} (h : StOk st) : StOk (endP st) := by
  unfold endP
  split
  · exact h.roOff.waits
  · exact h.waits
theorem StOk.new {st : Rs} (h : StOk st) {p : Pd} (hp : PdOk p) : StOk (newP st p).1 ∧ (newP st p).2.length ≤ 131072 := by
  unfold newP
  split
  · exact ⟨h, by simp⟩
  · have h1 := h.move hp
    have h2 := StOk.adv 1024 h1.1
    refine ⟨h2.1.ends, ?_⟩
    simp only [List.length_append]
    omega
theorem StOk.recv {st : Rs} (h : StOk st) {now : Int} (hn : now ≤ 9223372036854775807) {p : Pd} (hp : PdOk p) : StOk (recvP st now p).1 ∧ (recvP st now p).2.length ≤ 262144 := by
  have h1 := h.goes hn
  have h2 := h1.1.new hp
  refine ⟨h2.1, ?_⟩
  simp only [recvP, List.length_append]
  omega
/-- the advance ends -/
def Ends (st : Rs) : Prop := ∃ j, j ≤ 1024 ∧ st.m ((st.next + j) % 1024) = none
theorem newRs_ok {d : Int} (h1 : 1 ≤ d) (h2 : d ≤ 9223372036854775807) : StOk (newRs d) := ⟨by simp [newRs], by simp [newRs], by simp [newRs], by simp [newRs], by simp [newRs], by simp [newRs], fun k p h => by simp [newRs] at h, by simp [newRs], by simp [newRs], h1, h2⟩
end Go.Proofs.YtbjajboodohabaaGreat
