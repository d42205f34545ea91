/- amsend: what a transmitter computes (plain functions). amsend: what holds between the calls; AmsendHolds (plain). amsend: new PDUs, reports; AmsendHolds' plain law. amsend: reports; AmsendHolds' plain law. amsend: what a grant gives (plain). amsend: AmsendBytes' plain law. amsend: AmsendWindow's plain law. amsend: status reports (plain). amsend: Buffered, and what AmsendHolds asks after each call (plain). amsend: bounds (plain). amsend: bounds behind a report; bounds of every call (plain). -/
import Derived.Test.YtmiipkaobloedaaGreatZj
import Derived.Test.YtmiipkaobloedaaGreatZl
namespace Go.Proofs.YtmiipkaobloedaaGreat

/-- an outstanding PDU -/
structure Ou where
  sn : Nat
  s : Bool
  e : Bool
  ps : List (List UInt8)
  acked : Bool
  pend : List (Nat × Nat)
  retx : Nat
def sizeO (x : Ou) : Nat := sumLen x.ps
/-- a configuration -/
structure Cf where
  pdu : Int
  byte : Int
  timer : Int
  reorder : Int
  prohibit : Int
  retx : Int
  cap : Int
/-- the state of a transmitter -/
structure Sd where
  queue : List (List UInt8)
  done : Nat
  front : Nat
  taken : Nat
  first : Nat
  out : List Ou
  pdus : Nat
  bytes : Nat
  polled : Nat
  wait : Bool
  expiry : Int
  owed : Bool
  failed : Bool
  now : Int
def newSd : Sd := ⟨[], 0, 0, 0, 0, [], 0, 0, 0, false, 0, false, false, 0⟩
def heldP (st : Sd) : Nat := sumLen st.queue
def nextP (st : Sd) : Nat := (st.first + st.out.length) % 1024
def isPend (x : Ou) : Bool := !x.pend.isEmpty
def pendAt (l : List Ou) : Option Nat := l.findIdx? isPend
def idleP (st : Sd) : Bool := (pendAt st.out).isNone && (decide (st.taken = heldP st) || decide (512 ≤ st.out.length))
/-- ranges of a PDU become pending: the PDU, whether the transmitter fails -/
def pendP (c : Cf) (x : Ou) (l : List (Nat × Nat)) : Ou × Bool :=
  if x.pend = [] then ({ x with pend := l, retx := x.retx + 1 }, decide (c.retx < ((x.retx + 1 : Nat) : Int))) else ({ x with pend := l }, false)
def clockS (st : Sd) (now : Int) : Sd := { st with now := if st.now < now then now else st.now }
def setOut (st : Sd) (i : Nat) (R : Ou × Bool) : Sd := { st with out := st.out.set i R.1, failed := st.failed || R.2 }
/-- the whole first PDU that is not acknowledged becomes pending, if nothing can be sent -/
def repeatsP (c : Cf) (st : Sd) : Sd :=
  if idleP st = false then st
  else match st.out.findIdx? (fun x => !x.acked) with
    | none => st
    | some i => match st.out[i]? with
      | none => st
      | some x => setOut st i (pendP c x [(0, sizeO x - 1)])
def expiresP (c : Cf) (st : Sd) : Sd :=
  if st.wait = false ∨ st.now < st.expiry then st else repeatsP c { st with wait := false, owed := true }
def tickS (c : Cf) (st : Sd) (now : Int) : Sd := expiresP c (clockS st now)
/-- the SDUs that are not sent whole, and the bytes sent of the first one -/
def skipTo : List (List UInt8) → Nat → List (List UInt8) × Nat
  | [], k => ([], k)
  | x :: r, k => if x.length ≤ k then skipTo r (k - x.length) else (x :: r, k)
def pollP (st : Sd) (c : Cf) : Sd := { st with pdus := 0, bytes := 0, owed := false, polled := (nextP st + 1023) % 1024, wait := true, expiry := IntKind.i64.wrap (st.now + c.timer) }
/-- the poll of a PDU -/
def finishP (c : Cf) (st : Sd) (polls : Bool) : Sd × Bool :=
  if (polls || st.owed || idleP st) = true then (pollP st c, true) else (st, false)
/-- a new PDU -/
def addO (st : Sd) (x : Ou) : Sd := { st with out := st.out ++ [x], taken := st.taken + sizeO x, pdus := st.pdus + 1, bytes := st.bytes + sizeO x }
def pollsNow (c : Cf) (st : Sd) : Bool := (decide (0 < c.pdu) && decide (c.pdu ≤ (st.pdus : Int))) || (decide (0 < c.byte) && decide (c.byte ≤ (st.bytes : Int)))
def chunkS (n : Int) (st : Sd) : Ou :=
  let q := skipTo st.queue st.taken
  let R := chk n (q.1.length + 1) q.1 q.2 0 0 0 false
  ⟨nextP st, decide (q.2 = 0), R.2.1, R.1, false, [], 0⟩
def freshP (c : Cf) (n : Int) (st : Sd) : Sd × Option (Ou × Bool) :=
  if 512 ≤ st.out.length then (st, none)
  else if (chunkS n st).ps = [] then (st, none)
  else
    let s1 := addO st (chunkS n st)
    let R := finishP c s1 (pollsNow c s1)
    (R.1, some (chunkS n st, R.2))
/-- the advance: acknowledged PDUs leave, SDUs are confirmed -/
def advOut : List Ou → Nat × Nat × List Ou
  | [] => (0, 0, [])
  | x :: r => if x.acked = true then let R := advOut r; (R.1 + 1, R.2.1 + sizeO x, R.2.2) else (0, 0, x :: r)
def advQ : List (List UInt8) → Nat → Nat × Nat × Nat × List (List UInt8)
  | [], f => (0, 0, f, [])
  | x :: r, f => if x.length ≤ f then let R := advQ r (f - x.length); (R.1 + 1, R.2.1 + x.length, R.2.2.1, R.2.2.2) else (0, 0, f, x :: r)
/-- (number, bytes of the confirmed SDUs) -/
def advS (st : Sd) : Sd :=
  let A := advOut st.out
  let Q := advQ st.queue (st.front + A.2.1)
  { st with out := A.2.2, first := (st.first + A.1) % 1024, front := Q.2.2.1, taken := st.taken - Q.2.1, queue := Q.2.2.2, done := st.done + Q.1 }
/-- a report's answer for one PDU: its missing ranges -/
def statOne (c : Cf) (miss : Ou → List (Nat × Nat)) (x : Ou) : Ou × Bool :=
  if x.acked = true then (x, false)
  else if miss x = [] then ({ x with acked := true, pend := [] }, false)
  else pendP c x (miss x)
def placeS (st : Sd) (sn : Nat) : Nat := (sn + 1024 - st.first) % 1024
def statOut (c : Cf) (miss : Ou → List (Nat × Nat)) (n : Nat) (l : List Ou) : List Ou × Bool :=
  ((l.take n).map (fun x => (statOne c miss x).1) ++ l.drop n, (l.take n).any (fun x => (statOne c miss x).2))
/-- what a report does that is accepted -/
def statS (c : Cf) (miss : Ou → List (Nat × Nat)) (n : Nat) (st : Sd) : Sd :=
  let R := statOut c miss n st.out
  let s1 := { st with out := R.1, failed := st.failed || R.2, wait := st.wait && decide (n ≤ placeS st st.polled) }
  let s2 := advS s1
  if s2.owed = true then repeatsP c s2 else s2
def submitS (st : Sd) (x : List UInt8) : Sd := { st with queue := st.queue ++ [x] }
end Go.Proofs.YtmiipkaobloedaaGreat
namespace Go.Proofs.YtmiipkaobloedaaGreat

def sizes (l : List Ou) : Nat := (l.map sizeO).sum
theorem sizes_cons (x : Ou) (r : List Ou) : sizes (x :: r) = sizeO x + sizes r := by simp [sizes]
theorem sizes_app (a b : List Ou) : sizes (a ++ b) = sizes a + sizes b := by simp [sizes]
theorem sumL_cons (x : List UInt8) (r : List (List UInt8)) : sumLen (x :: r) = x.length + sumLen r := by simp [sumLen]
theorem sumL_app (a b : List (List UInt8)) : sumLen (a ++ b) = sumLen a + sumLen b := by simp [sumLen]
/-- what holds, but for the timer -/
structure InvV (st : Sd) : Prop where
  tk : st.taken = st.front + sizes st.out
  le : st.taken ≤ heldP st
  pos : ∀ x ∈ st.queue, 1 ≤ x.length
  opos : ∀ x ∈ st.out, 1 ≤ sizeO x
  ak : ∀ x ∈ st.out, x.acked = true → x.pend = []
  pr : ∀ x ∈ st.out, ∀ r ∈ x.pend, r.1 ≤ r.2
  w : st.out.length ≤ 512
  f : st.first < 1024
  pl : st.taken = heldP st → st.out ≠ [] → st.polled = (st.first + st.out.length + 1023) % 1024
structure InvW (st : Sd) : Prop extends InvV st where
  fr : ∀ x r, st.queue = x :: r → st.front < x.length
  hd : ∀ x r, st.out = x :: r → x.acked = false
/-- whatever is outstanding and not pending is before what is pending; or a poll is owed, and there is something pending -/
def Timed (st : Sd) : Prop := st.taken = heldP st → st.wait = false →
  (∀ (i : Nat) (x : Ou), st.out[i]? = some x → x.acked = false → x.pend = [] → ∃ (j : Nat) (y : Ou), i < j ∧ st.out[j]? = some y ∧ y.pend ≠ []) ∨ (st.owed = true ∧ ∃ x ∈ st.out, x.pend ≠ [])
structure Inv35 (st : Sd) : Prop extends InvW st where
  ti : Timed st
theorem pendAt_none {l : List Ou} : pendAt l = none ↔ ∀ x ∈ l, x.pend = [] := by
  unfold pendAt
  rw [List.findIdx?_eq_none_iff]
  simp [isPend]
theorem pendAt_some {l : List Ou} {i : Nat} (h : pendAt l = some i) : ∃ x, l[i]? = some x ∧ x.pend ≠ [] ∧ ∀ j y, j < i → l[j]? = some y → y.pend = [] := by
  unfold pendAt at h
  obtain ⟨hi, h1, h2⟩ := List.findIdx?_eq_some_iff_getElem.1 h
  refine ⟨l[i], List.getElem?_eq_getElem hi, by simpa [isPend] using h1, fun j y hj hy => ?_⟩
  have := h2 j hj
  obtain ⟨hl, rfl⟩ := List.getElem?_eq_some_iff.1 hy
  simpa [isPend] using this
theorem idle_iff {st : Sd} : idleP st = true ↔ (∀ x ∈ st.out, x.pend = []) ∧ (st.taken = heldP st ∨ 512 ≤ st.out.length) := by
  unfold idleP
  rw [Bool.and_eq_true, Option.isNone_iff_eq_none, pendAt_none]
  simp
theorem InvW.new : Inv35 newSd where
  tk := rfl
  le := by simp [newSd, heldP, sumLen]
  pos := by simp [newSd]
  opos := by simp [newSd]
  ak := by simp [newSd]
  pr := by simp [newSd]
  w := by simp [newSd]
  f := by simp [newSd]
  pl := fun _ h => absurd rfl h
  fr := by simp [newSd]
  hd := by simp [newSd]
  ti := fun _ _ => .inl (by simp [newSd])
/-- one outstanding PDU's pending ranges turn -/
theorem set_mem {l : List Ou} {i : Nat} {z x : Ou} (h : x ∈ l.set i z) : x = z ∨ x ∈ l := by
  rcases List.mem_or_eq_of_mem_set h with h | h
  · exact .inr h
  · exact .inl h
theorem sizes_set {l : List Ou} {i : Nat} {x z : Ou} (hx : l[i]? = some x) (hz : sizeO z = sizeO x) : sizes (l.set i z) = sizes l := by
  induction l generalizing i with
  | nil => simp at hx
  | cons a r ih =>
    cases i with
    | zero =>
      simp at hx
      subst hx
      simp only [List.set_cons_zero, sizes_cons, hz]
    | succ i => simp only [List.set_cons_succ, sizes_cons, ih (by simpa using hx)]
theorem InvW.setPend {st : Sd} (h : InvW st) {i : Nat} {x z : Ou} (hx : st.out[i]? = some x) (hps : z.ps = x.ps) (ha : z.acked = x.acked) (hn : x.acked = true → z.pend = []) (hp : ∀ r ∈ z.pend, r.1 ≤ r.2) (b : Bool) :
    InvW { st with out := st.out.set i z, failed := b } := by
  have hxm : x ∈ st.out := List.mem_of_getElem? hx
  have hsz : sizeO z = sizeO x := by unfold sizeO; rw [hps]
  refine { tk := ?_, le := h.le, pos := h.pos, opos := fun y hy => ?_, ak := fun y hy hya => ?_, pr := fun y hy => ?_, w := by simpa using h.w, f := h.f, pl := fun h1 h2 => ?_, fr := h.fr, hd := fun y r hy => ?_ }
  · show st.taken = st.front + sizes (st.out.set i z)
    rw [sizes_set hx hsz]
    exact h.tk
  · rcases set_mem hy with rfl | hy
    · rw [hsz]; exact h.opos x hxm
    · exact h.opos y hy
  · rcases set_mem hy with rfl | hy
    · exact hn (ha ▸ hya)
    · exact h.ak y hy hya
  · rcases set_mem hy with rfl | hy
    · exact hp
    · exact h.pr y hy
  · show st.polled = (st.first + (st.out.set i z).length + 1023) % 1024
    rw [List.length_set]
    refine h.pl h1 (fun e => ?_)
    rw [e] at hx
    simp at hx
  · have hy' : st.out.set i z = y :: r := hy
    cases hl : st.out with
    | nil => rw [hl] at hy'; simp at hy'
    | cons a t =>
      have ha0 := h.hd a t hl
      rw [hl] at hy' hx
      cases i with
      | zero =>
        simp at hx hy'
        rw [← hy'.1, ha, ← hx]
        exact ha0
      | succ i =>
        simp at hy'
        rw [← hy'.1]
        exact ha0
theorem InvW.clock {st : Sd} (h : InvW st) (now : Int) : InvW (clockS st now) := { tk := h.tk, le := h.le, pos := h.pos, opos := h.opos, ak := h.ak, pr := h.pr, w := h.w, f := h.f, pl := h.pl, fr := h.fr, hd := h.hd }
theorem Timed.clock {st : Sd} (h : Timed st) (now : Int) : Timed (clockS st now) := h
theorem Inv35.clock {st : Sd} (h : Inv35 st) (now : Int) : Inv35 (clockS st now) := { h.toInvW.clock now with ti := h.ti.clock now }
theorem pend_ps (c : Cf) (x : Ou) (l : List (Nat × Nat)) : (pendP c x l).1.ps = x.ps ∧ (pendP c x l).1.acked = x.acked ∧ (pendP c x l).1.pend = l ∧ (pendP c x l).1.sn = x.sn ∧ (pendP c x l).1.s = x.s ∧ (pendP c x l).1.e = x.e := by
  unfold pendP
  split <;> exact ⟨rfl, rfl, rfl, rfl, rfl, rfl⟩
/-- the first PDU becomes pending -/
theorem InvW.repeats {st : Sd} (c : Cf) (h : InvW st) (ho : st.owed = true) : Inv35 (repeatsP c st) := by
  unfold repeatsP
  by_cases hi : idleP st = false
  · rw [if_pos hi]
    refine { h with ti := fun h1 _ => ?_ }
    have hn : ¬ ((∀ x ∈ st.out, x.pend = []) ∧ (st.taken = heldP st ∨ 512 ≤ st.out.length)) := fun e => by rw [idle_iff.2 e] at hi; cases hi
    refine .inr ⟨ho, ?_⟩
    refine Classical.byContradiction fun hc => hn ⟨fun x hx => ?_, .inl h1⟩
    exact Classical.byContradiction fun hp => hc ⟨x, hx, hp⟩
  · rw [if_neg hi]
    cases hl : st.out with
    | nil =>
      simp only [List.findIdx?_nil]
      exact { h with ti := fun _ _ => .inl (by rw [hl]; simp) }
    | cons x r =>
      have hx := h.hd x r hl
      have hf : (x :: r).findIdx? (fun x => !x.acked) = some 0 := by rw [List.findIdx?_cons]; simp [hx]
      rw [hf]
      simp only [List.getElem?_cons_zero]
      obtain ⟨p1, p2, p3, _⟩ := pend_ps c x [(0, sizeO x - 1)]
      have hw := h.setPend (i := 0) (x := x) (z := (pendP c x [(0, sizeO x - 1)]).1) (by rw [hl]; rfl) p1 p2 (fun e => by rw [hx] at e; cases e) (fun q hq => by rw [p3] at hq; simp at hq; rw [hq]; exact Nat.zero_le _) (st.failed || (pendP c x [(0, sizeO x - 1)]).2)
      refine { hw with ti := fun _ _ => .inr ⟨ho, (pendP c x [(0, sizeO x - 1)]).1, ?_, by rw [p3]; simp⟩ }
      show _ ∈ st.out.set 0 _
      rw [hl]
      simp
theorem Inv35.expires {st : Sd} (c : Cf) (h : Inv35 st) : Inv35 (expiresP c st) := by
  unfold expiresP
  split
  · exact h
  · refine InvW.repeats c ?_ rfl
    exact { tk := h.tk, le := h.le, pos := h.pos, opos := h.opos, ak := h.ak, pr := h.pr, w := h.w, f := h.f, pl := h.pl, fr := h.fr, hd := h.hd }
theorem Inv35.tick {st : Sd} (c : Cf) (h : Inv35 st) (now : Int) : Inv35 (tickS c st now) := (h.clock now).expires c
theorem Inv35.submit {st : Sd} (h : Inv35 st) {x : List UInt8} (hx : 1 ≤ x.length) : Inv35 (submitS st x) := by
  have hh : heldP (submitS st x) = heldP st + x.length := by simp only [heldP, submitS, sumL_app, sumL_cons]; simp [sumLen]
  have hle := h.le
  have hne : (submitS st x).taken = heldP (submitS st x) → False := fun e => by
    rw [hh] at e
    have : (submitS st x).taken = st.taken := rfl
    omega
  refine { tk := h.tk, le := ?_, pos := fun y hy => ?_, opos := h.opos, ak := h.ak, pr := h.pr, w := h.w, f := h.f, pl := fun e => (hne e).elim, fr := fun y r hy => ?_, hd := h.hd, ti := fun e => (hne e).elim }
  · rw [hh]
    show st.taken ≤ _
    omega
  · simp only [submitS, List.mem_append, List.mem_singleton] at hy
    rcases hy with hy | rfl
    · exact h.pos y hy
    · exact hx
  · show st.front < y.length
    cases hq : st.queue with
    | nil =>
      have hz : heldP st = 0 := by simp [heldP, hq, sumLen]
      have := h.tk
      have e : st.queue ++ [x] = y :: r := hy
      rw [hq] at e
      simp at e
      rw [← e.1]
      omega
    | cons a t =>
      have e : st.queue ++ [x] = y :: r := hy
      rw [hq] at e
      simp at e
      rw [← e.1]
      exact h.fr a t hq
/-- the poll -/
theorem InvW.finish {st : Sd} (c : Cf) (h : InvV st) (hfr : ∀ x r, st.queue = x :: r → st.front < x.length) (hhd : ∀ x r, st.out = x :: r → x.acked = false) (b : Bool)
    (hpl : (b || st.owed || idleP st) = false → st.taken = heldP st → st.out ≠ [] → st.polled = (st.first + st.out.length + 1023) % 1024) (hti : (b || st.owed || idleP st) = false → Timed st) : Inv35 (finishP c st b).1 := by
  unfold finishP
  by_cases hc : (b || st.owed || idleP st) = true
  · rw [if_pos hc]
    refine { tk := h.tk, le := h.le, pos := h.pos, opos := h.opos, ak := h.ak, pr := h.pr, w := h.w, f := h.f, pl := fun _ h2 => ?_, fr := hfr, hd := hhd, ti := fun _ e => by cases e }
    show (nextP st + 1023) % 1024 = (st.first + st.out.length + 1023) % 1024
    unfold nextP
    omega
  · rw [if_neg hc]
    exact { h with pl := hpl (by simpa using hc), fr := hfr, hd := hhd, ti := hti (by simpa using hc) }
/-- the first pending PDU is sent again: its pending ranges turn -/
theorem Inv35.again {st : Sd} (c : Cf) (h : Inv35 st) {i : Nat} {x : Ou} (hp : pendAt st.out = some i) (hx : st.out[i]? = some x) {l : List (Nat × Nat)} (hl : ∀ r ∈ l, r.1 ≤ r.2) :
    Inv35 (finishP c { st with out := st.out.set i { x with pend := l } } false).1 := by
  obtain ⟨x', hx', hxp, hbe⟩ := pendAt_some hp
  rw [hx] at hx'
  cases hx'
  have hil : i < st.out.length := (List.getElem?_eq_some_iff.1 hx).1
  have hxa : x.acked = false := by
    cases ha : x.acked with
    | false => rfl
    | true => exact absurd (h.ak x (List.mem_of_getElem? hx) ha) hxp
  have hw := h.toInvW.setPend hx (z := { x with pend := l }) rfl rfl (fun e => by rw [hxa] at e; cases e) hl st.failed
  refine InvW.finish c hw.toInvV hw.fr hw.hd false (fun _ => hw.pl) (fun hno => ?_)
  simp only [Bool.false_or, Bool.or_eq_false_iff] at hno
  obtain ⟨hno1, hno2⟩ := hno
  intro h1 h2
  have hidle : ¬ ((∀ y ∈ st.out.set i { x with pend := l }, y.pend = []) ∧ (st.taken = heldP st ∨ 512 ≤ (st.out.set i { x with pend := l }).length)) := fun e => by rw [idle_iff.2 e] at hno2; cases hno2
  have hex : ∃ y ∈ st.out.set i { x with pend := l }, y.pend ≠ [] := Classical.byContradiction fun hc => hidle ⟨fun y hy => Classical.byContradiction fun hp => hc ⟨y, hy, hp⟩, .inl h1⟩
  obtain ⟨y, hym, hyp⟩ := hex
  obtain ⟨k, hk⟩ := List.mem_iff_getElem?.1 hym
  have hki : i ≤ k := by
    rcases Nat.lt_or_ge k i with hlt | hge
    · rw [List.getElem?_set_ne (by omega)] at hk
      exact absurd (hbe k y hlt hk) hyp
    · exact hge
  rcases h.ti h1 h2 with ht | ⟨ho, _⟩
  · refine .inl fun j z hz hza hzp => ?_
    have hz' : (st.out.set i { x with pend := l })[j]? = some z := hz
    by_cases hji : j = i
    · subst hji
      rw [List.getElem?_set_self hil] at hz'
      cases hz'
      have hkne : k ≠ j := fun e => by
        subst e
        rw [List.getElem?_set_self hil] at hk
        cases hk
        exact hyp hzp
      exact ⟨k, y, by omega, hk, hyp⟩
    · rw [List.getElem?_set_ne (by omega)] at hz'
      obtain ⟨q, v, hq, hv, hvp⟩ := ht j z hz' hza hzp
      by_cases hqi : q = i
      · subst hqi
        exact ⟨k, y, by omega, hk, hyp⟩
      · exact ⟨q, v, hq, by show (st.out.set i _)[q]? = some v; rw [List.getElem?_set_ne (by omega)]; exact hv, hvp⟩
  · have : st.owed = false := hno1
    rw [this] at ho
    cases ho
end Go.Proofs.YtmiipkaobloedaaGreat
namespace Go.Proofs.YtmiipkaobloedaaGreat

theorem joinG_sum35 : ∀ (ps : List (List UInt8)) (op : List UInt8) (sm e : Bool), ps ≠ [] → op.length + sumLen ps = sumLen (joinG op sm ps e).1 + (joinG op sm ps e).2.1.length
  | [], _, _, _, h => absurd rfl h
  | [p], op, sm, e, _ => by cases e <;> simp [joinG, sumLen]
  | p :: q :: r, op, sm, e, _ => by
    have ih := joinG_sum35 (q :: r) [] false e (by simp)
    simp only [joinG, sumL_cons, List.length_append] at ih ⊢
    simp only [List.length_nil] at ih
    omega
theorem skip_spec : ∀ (q : List (List UInt8)) (k : Nat), k ≤ sumLen q → (∃ d, q = d ++ (skipTo q k).1 ∧ sumLen d + (skipTo q k).2 = k) ∧ ((skipTo q k).1 = [] → (skipTo q k).2 = 0) ∧ ∀ x r, (skipTo q k).1 = x :: r → (skipTo q k).2 < x.length
  | [], k, h => by
    have : k = 0 := by simpa [sumLen] using h
    subst this
    exact ⟨⟨[], rfl, rfl⟩, fun _ => rfl, by simp [skipTo]⟩
  | x :: r, k, h => by
    rw [sumL_cons] at h
    unfold skipTo
    split
    · rename_i hx
      obtain ⟨⟨d, h1, h2⟩, h3, h4⟩ := skip_spec r (k - x.length) (by omega)
      refine ⟨⟨x :: d, ?_, ?_⟩, h3, h4⟩
      · rw [List.cons_append, ← h1]
      · rw [sumL_cons]
        omega
    · refine ⟨⟨[], rfl, by simp [sumLen]⟩, by simp, fun y t e => ?_⟩
      simp at e
      rw [← e.1]
      omega
/-- a new PDU's bytes are what was not sent -/
theorem chunk_sum {st : Sd} (h : InvV st) (n : Int) (hne : (chunkS n st).ps ≠ []) : 1 ≤ sizeO (chunkS n st) ∧ st.taken + sizeO (chunkS n st) ≤ heldP st := by
  obtain ⟨⟨d, h1, h2⟩, h3, h4⟩ := skip_spec st.queue st.taken h.le
  have hne' : (chk n ((skipTo st.queue st.taken).1.length + 1) (skipTo st.queue st.taken).1 (skipTo st.queue st.taken).2 0 0 0 false).1 ≠ [] := hne
  have hpos : ∀ s ∈ (skipTo st.queue st.taken).1, 1 ≤ s.length := fun s hs => h.pos s (by rw [h1]; simp [hs])
  have hk := chk_ok n ((skipTo st.queue st.taken).1.length + 1) (skipTo st.queue st.taken).1 (skipTo st.queue st.taken).2 0 0 0 false hpos h4 h3
  have hv := chk_valid n ((skipTo st.queue st.taken).1.length + 1) (skipTo st.queue st.taken).1 (skipTo st.queue st.taken).2 false hpos h4 hne'
  have hs : sizeO (chunkS n st) = sumLen (chk n ((skipTo st.queue st.taken).1.length + 1) (skipTo st.queue st.taken).1 (skipTo st.queue st.taken).2 0 0 0 false).1 := rfl
  rw [hs]
  have hh : heldP st = sumLen d + sumLen (skipTo st.queue st.taken).1 := by
    unfold heldP
    conv => lhs; rw [h1]
    rw [sumL_app]
  generalize skipTo st.queue st.taken = Q at *
  generalize chk n (Q.1.length + 1) Q.1 Q.2 0 0 0 false = R at *
  obtain ⟨g, hg1, hg2⟩ := hk.some_ hne'
  have hj := joinG_sum35 R.1 ((Q.1.headD []).take Q.2) (decide (0 < Q.2)) R.2.1 hne'
  rw [hg2] at hj
  dsimp only at hj
  have e1 : ((Q.1.headD []).take Q.2).length = Q.2 := by
    cases hq : Q.1 with
    | nil => rw [h3 hq]; simp
    | cons x r => have := h4 x r hq; simp; omega
  have e2 : ((R.2.2.1.headD []).take R.2.2.2).length = R.2.2.2 ∧ R.2.2.2 ≤ sumLen R.2.2.1 := by
    cases hq : R.2.2.1 with
    | nil => rw [hk.z_ hq]; simp
    | cons x r => have := hk.lt_ x r hq; rw [sumL_cons]; simp; omega
  rw [e1, e2.1] at hj
  have e3 : sumLen Q.1 = sumLen g + sumLen R.2.2.1 := by rw [hg1, sumL_app]
  have e4 : 1 ≤ sumLen R.1 := by
    obtain ⟨p, hp⟩ := List.exists_mem_of_ne_nil _ hne'
    have := mem_le_sumLen hp
    have := hv.pos p hp
    omega
  exact ⟨e4, by have := e2.2; omega⟩
theorem InvV.add {st : Sd} (h : InvV st) {x : Ou} (h1 : 1 ≤ sizeO x) (h2 : st.taken + sizeO x ≤ heldP st) (hp : x.pend = []) (hl : st.out.length < 512) (hpl : (addO st x).taken ≠ heldP (addO st x)) : InvV (addO st x) where
  tk := by
    show st.taken + sizeO x = st.front + sizes (st.out ++ [x])
    rw [sizes_app, h.tk]
    simp [sizes]
    omega
  le := h2
  pos := h.pos
  opos := fun y hy => by
    simp only [addO, List.mem_append, List.mem_singleton] at hy
    rcases hy with hy | rfl
    · exact h.opos y hy
    · exact h1
  ak := fun y hy hya => by
    simp only [addO, List.mem_append, List.mem_singleton] at hy
    rcases hy with hy | rfl
    · exact h.ak y hy hya
    · exact hp
  pr := fun y hy r hr => by
    simp only [addO, List.mem_append, List.mem_singleton] at hy
    rcases hy with hy | rfl
    · exact h.pr y hy r hr
    · rw [hp] at hr; cases hr
  w := by simp only [addO, List.length_append, List.length_singleton]; omega
  f := h.f
  pl := fun e => absurd e hpl
theorem Inv35.fresh {st : Sd} (c : Cf) (n : Int) (h : Inv35 st) (hp : pendAt st.out = none) : Inv35 (freshP c n st).1 := by
  unfold freshP
  split
  · exact h
  · rename_i hl
    split
    · exact h
    · rename_i hne
      obtain ⟨h1, h2⟩ := chunk_sum h.toInvV n hne
      generalize hx : chunkS n st = x at *
      have hxp : x.pend = [] := by rw [← hx]; rfl
      have hxa : x.acked = false := by rw [← hx]; rfl
      dsimp only
      have hhd : ∀ y r, (addO st x).out = y :: r → y.acked = false := fun y r e => by
        have e' : st.out ++ [x] = y :: r := e
        cases ho : st.out with
        | nil => rw [ho] at e'; simp at e'; rw [← e'.1]; exact hxa
        | cons a t => rw [ho] at e'; simp at e'; rw [← e'.1]; exact h.hd a t ho
      by_cases ht : (addO st x).taken = heldP (addO st x)
      · have hid : idleP (addO st x) = true := idle_iff.2 ⟨fun y hy => by
          simp only [addO, List.mem_append, List.mem_singleton] at hy
          rcases hy with hy | rfl
          · exact pendAt_none.1 hp y hy
          · exact hxp, .inl ht⟩
        have hpoll : (pollsNow c (addO st x) || (addO st x).owed || idleP (addO st x)) = true := by rw [hid]; simp
        unfold finishP
        rw [if_pos hpoll]
        have hb : InvV (pollP (addO st x) c) := {
          tk := by
            show st.taken + sizeO x = st.front + sizes (st.out ++ [x])
            rw [sizes_app, h.tk]
            simp [sizes]
            omega
          le := h2
          pos := h.pos
          opos := fun y hy => by
            simp only [pollP, addO, List.mem_append, List.mem_singleton] at hy
            rcases hy with hy | rfl
            · exact h.opos y hy
            · exact h1
          ak := fun y hy hya => by
            simp only [pollP, addO, List.mem_append, List.mem_singleton] at hy
            rcases hy with hy | rfl
            · exact h.ak y hy hya
            · exact hxp
          pr := fun y hy r hr => by
            simp only [pollP, addO, List.mem_append, List.mem_singleton] at hy
            rcases hy with hy | rfl
            · exact h.pr y hy r hr
            · rw [hxp] at hr; cases hr
          w := by simp only [pollP, addO, List.length_append, List.length_singleton]; omega
          f := h.f
          pl := fun _ _ => by
            show (nextP (addO st x) + 1023) % 1024 = ((addO st x).first + (addO st x).out.length + 1023) % 1024
            unfold nextP
            omega }
        exact { hb with fr := h.fr, hd := hhd, ti := fun _ e => by cases e }
      · exact InvW.finish c (h.toInvV.add h1 h2 hxp (by omega) ht) h.fr hhd _ (fun _ e => absurd e ht) (fun _ e => absurd e ht)
end Go.Proofs.YtmiipkaobloedaaGreat
namespace Go.Proofs.YtmiipkaobloedaaGreat

theorem advOut_spec : ∀ l : List Ou, (∃ d : List Ou, l = d ++ (advOut l).2.2 ∧ d.length = (advOut l).1 ∧ sizes d = (advOut l).2.1 ∧ ∀ x ∈ d, x.acked = true) ∧ ∀ x r, (advOut l).2.2 = x :: r → x.acked = false
  | [] => ⟨⟨[], rfl, rfl, rfl, by simp⟩, by simp [advOut]⟩
  | x :: r => by
    unfold advOut
    split
    · rename_i hx
      obtain ⟨⟨d, h1, h2, h3, h4⟩, h5⟩ := advOut_spec r
      refine ⟨⟨x :: d, ?_, by simp [h2], by rw [sizes_cons, h3, Nat.add_comm], fun y hy => ?_⟩, h5⟩
      · rw [List.cons_append, ← h1]
      · rcases List.mem_cons.1 hy with rfl | hy
        · exact hx
        · exact h4 y hy
    · rename_i hx
      exact ⟨⟨[], rfl, rfl, rfl, by simp⟩, fun y t e => by simp at e; rw [← e.1]; simpa using hx⟩
theorem advQ_spec : ∀ (q : List (List UInt8)) (f : Nat), (∃ d : List (List UInt8), q = d ++ (advQ q f).2.2.2 ∧ d.length = (advQ q f).1 ∧ sumLen d = (advQ q f).2.1 ∧ sumLen d + (advQ q f).2.2.1 = f) ∧ ∀ x r, (advQ q f).2.2.2 = x :: r → (advQ q f).2.2.1 < x.length
  | [], f => ⟨⟨[], rfl, rfl, rfl, by simp [sumLen, advQ]⟩, by simp [advQ]⟩
  | x :: r, f => by
    unfold advQ
    split
    · rename_i hx
      obtain ⟨⟨d, h1, h2, h3, h4⟩, h5⟩ := advQ_spec r (f - x.length)
      refine ⟨⟨x :: d, ?_, by simp [h2], by rw [sumL_cons, h3, Nat.add_comm], by rw [sumL_cons]; dsimp only; omega⟩, h5⟩
      rw [List.cons_append, ← h1]
    · exact ⟨⟨[], rfl, rfl, rfl, by simp [sumLen]⟩, fun y t e => by simp at e; dsimp only; rw [← e.1]; omega⟩
/-- the advance keeps what holds -/
theorem InvV.adv {st : Sd} (h : InvV st) : InvW (advS st) ∧ (∃ d, st.out = d ++ (advS st).out ∧ ∀ x ∈ d, x.acked = true) ∧ ((advS st).taken = heldP (advS st) → st.taken = heldP st) := by
  obtain ⟨⟨d, h1, h2, h3, h4⟩, h5⟩ := advOut_spec st.out
  obtain ⟨⟨q, g1, g2, g3, g4⟩, g5⟩ := advQ_spec st.queue (st.front + (advOut st.out).2.1)
  have e1 : (advS st).out = (advOut st.out).2.2 := rfl
  have e2 : (advS st).queue = (advQ st.queue (st.front + (advOut st.out).2.1)).2.2.2 := rfl
  have e3 : (advS st).taken = st.taken - (advQ st.queue (st.front + (advOut st.out).2.1)).2.1 := rfl
  have e4 : (advS st).front = (advQ st.queue (st.front + (advOut st.out).2.1)).2.2.1 := rfl
  have e5 : (advS st).first = (st.first + (advOut st.out).1) % 1024 := rfl
  have e6 : (advS st).polled = st.polled := rfl
  have hsz : sizes st.out = (advOut st.out).2.1 + sizes (advOut st.out).2.2 := by
    conv => lhs; rw [h1]
    rw [sizes_app, h3]
  have hhe : heldP st = (advQ st.queue (st.front + (advOut st.out).2.1)).2.1 + heldP (advS st) := by
    unfold heldP
    rw [e2]
    conv => lhs; rw [g1]
    rw [sumL_app, g3]
  have hle := h.le
  have htk := h.tk
  have hmem : ∀ x, x ∈ (advS st).out → x ∈ st.out := fun x hx => by rw [h1, ← e1]; simp [hx]
  have hlen : st.out.length = (advOut st.out).1 + (advS st).out.length := by
    conv => lhs; rw [h1]
    rw [List.length_append, h2, e1]
  rw [← e1] at h5 h1 hsz
  rw [← e2] at g5
  rw [← e4] at g5
  generalize advOut st.out = A at *
  generalize advQ st.queue (st.front + A.2.1) = Q at *
  have hinv : InvW (advS st) := {
    tk := by rw [e3, e4]; omega
    le := by rw [e3]; omega
    pos := fun x hx => h.pos x (by rw [g1, ← e2]; simp [hx])
    opos := fun x hx => h.opos x (hmem x hx)
    ak := fun x hx => h.ak x (hmem x hx)
    pr := fun x hx => h.pr x (hmem x hx)
    w := by have := h.w; omega
    f := by rw [e5]; omega
    pl := fun t1 t2 => by
      have hne : st.out ≠ [] := fun e => by
        rw [e] at h1
        exact t2 (List.append_eq_nil_iff.1 h1.symm).2
      have := h.pl (by rw [e3] at t1; omega) hne
      rw [e5, e6, this]
      omega
    fr := g5
    hd := h5 }
  exact ⟨hinv, ⟨d, h1, h4⟩, fun e => by rw [e3] at e; omega⟩
theorem statOne_ps (c : Cf) (m : Ou → List (Nat × Nat)) (x : Ou) : (statOne c m x).1.ps = x.ps := by
  unfold statOne
  split
  · rfl
  · split
    · rfl
    · exact (pend_ps c x _).1
theorem statOne_ak (c : Cf) (m : Ou → List (Nat × Nat)) (x : Ou) (hx : x.acked = true → x.pend = []) : ((statOne c m x).1.acked = true → (statOne c m x).1.pend = []) ∧ ((statOne c m x).1.acked = false → (statOne c m x).1.pend ≠ []) := by
  unfold statOne
  by_cases h1 : x.acked = true
  · rw [if_pos h1]
    exact ⟨hx, fun e => by rw [h1] at e; cases e⟩
  · rw [if_neg h1]
    by_cases h2 : m x = []
    · rw [if_pos h2]
      exact ⟨fun _ => rfl, fun e => by cases e⟩
    · rw [if_neg h2]
      obtain ⟨_, p2, p3, _⟩ := pend_ps c x (m x)
      rw [p2, p3]
      exact ⟨fun e => absurd e h1, fun _ => h2⟩
theorem statOne_pr (c : Cf) (m : Ou → List (Nat × Nat)) (x : Ou) (hx : ∀ r ∈ x.pend, r.1 ≤ r.2) (hm : ∀ r ∈ m x, r.1 ≤ r.2) : ∀ r ∈ (statOne c m x).1.pend, r.1 ≤ r.2 := by
  unfold statOne
  by_cases h1 : x.acked = true
  · rw [if_pos h1]; exact hx
  · rw [if_neg h1]
    by_cases h2 : m x = []
    · rw [if_pos h2]; simp
    · rw [if_neg h2, (pend_ps c x (m x)).2.2.1]; exact hm
section
variable (c : Cf) (m : Ou → List (Nat × Nat)) (n : Nat)
theorem statOut_len (l : List Ou) : (statOut c m n l).1.length = l.length := by simp [statOut]; omega
theorem statOut_get (l : List Ou) (i : Nat) : (statOut c m n l).1[i]? = if i < n then l[i]?.map (fun x => (statOne c m x).1) else l[i]? := by
  unfold statOut
  dsimp only
  by_cases hi : i < n
  · rw [if_pos hi]
    by_cases hl : i < l.length
    · rw [List.getElem?_append_left (by simp; omega), List.getElem?_map, List.getElem?_take, if_pos hi]
    · rw [List.getElem?_eq_none (by simp; omega), List.getElem?_eq_none (by omega)]
      rfl
  · rw [if_neg hi]
    by_cases hl : i < l.length
    · rw [List.getElem?_append_right (by simp; omega), List.getElem?_drop]
      simp only [List.length_map, List.length_take]
      rw [show n + (i - min n l.length) = i by omega]
    · rw [List.getElem?_eq_none (by simp; omega), List.getElem?_eq_none (by omega)]
theorem statOut_mem (l : List Ou) (y : Ou) (h : y ∈ (statOut c m n l).1) : ∃ x ∈ l, y = x ∨ y = (statOne c m x).1 := by
  obtain ⟨i, hi⟩ := List.mem_iff_getElem?.1 h
  rw [statOut_get] at hi
  split at hi
  · obtain ⟨x, hx, rfl⟩ := Option.map_eq_some_iff.1 hi
    exact ⟨x, List.mem_of_getElem? hx, .inr rfl⟩
  · exact ⟨y, List.mem_of_getElem? hi, .inl rfl⟩
theorem statOut_sizes (l : List Ou) : sizes (statOut c m n l).1 = sizes l := by
  have key : ∀ a : List Ou, sizes (a.map (fun x => (statOne c m x).1)) = sizes a := by
    intro a
    induction a with
    | nil => rfl
    | cons x r ih => rw [List.map_cons, sizes_cons, sizes_cons, ih]; unfold sizeO; rw [statOne_ps]
  unfold statOut
  dsimp only
  rw [sizes_app, key, ← sizes_app, List.take_append_drop]
end
theorem Inv35.stat {st : Sd} (c : Cf) (m : Ou → List (Nat × Nat)) (n : Nat) (h : Inv35 st) (_hn : n ≤ st.out.length) (hm : ∀ x, ∀ r ∈ m x, r.1 ≤ r.2) : Inv35 (statS c m n st) := by
  have hv : InvV { st with out := (statOut c m n st.out).1, failed := st.failed || (statOut c m n st.out).2, wait := st.wait && decide (n ≤ placeS st st.polled) } := {
    tk := by
      show st.taken = st.front + sizes (statOut c m n st.out).1
      rw [statOut_sizes]
      exact h.tk
    le := h.le
    pos := h.pos
    opos := fun y hy => by
      obtain ⟨x, hx, rfl | rfl⟩ := statOut_mem c m n _ y hy
      · exact h.opos _ hx
      · unfold sizeO
        rw [statOne_ps]
        exact h.opos x hx
    ak := fun y hy => by
      obtain ⟨x, hx, rfl | rfl⟩ := statOut_mem c m n _ y hy
      · exact h.ak _ hx
      · exact (statOne_ak c m x (h.ak x hx)).1
    pr := fun y hy => by
      obtain ⟨x, hx, rfl | rfl⟩ := statOut_mem c m n _ y hy
      · exact h.pr _ hx
      · exact statOne_pr c m x (h.pr x hx) (hm x)
    w := by
      show (statOut c m n st.out).1.length ≤ 512
      rw [statOut_len]
      exact h.w
    f := h.f
    pl := fun t1 t2 => by
      show st.polled = (st.first + (statOut c m n st.out).1.length + 1023) % 1024
      rw [statOut_len]
      refine h.pl t1 (fun e => t2 ?_)
      show (statOut c m n st.out).1 = []
      rw [e]
      simp [statOut] }
  obtain ⟨hw, ⟨d, hd1, hd2⟩, ht⟩ := hv.adv
  unfold statS
  dsimp only
  by_cases ho : st.owed = true
  · have ho2 : (advS { st with out := (statOut c m n st.out).1, failed := st.failed || (statOut c m n st.out).2, wait := st.wait && decide (n ≤ placeS st st.polled) }).owed = true := ho
    rw [if_pos ho2]
    exact hw.repeats c ho2
  · have ho2 : ¬ (advS { st with out := (statOut c m n st.out).1, failed := st.failed || (statOut c m n st.out).2, wait := st.wait && decide (n ≤ placeS st st.polled) }).owed = true := ho
    rw [if_neg ho2]
    refine { hw with ti := fun t1 t2 => .inl ?_ }
    have htk : st.taken = heldP st := ht t1
    have hwt : (st.wait && decide (n ≤ placeS st st.polled)) = false := t2
    intro i x hx hxa hxp
    have hix : (statOut c m n st.out).1[d.length + i]? = some x := by
      have e : (statOut c m n st.out).1 = _ := hd1
      rw [e, List.getElem?_append_right (by omega), show d.length + i - d.length = i by omega]
      exact hx
    rw [statOut_get] at hix
    have hge : ¬ d.length + i < n := fun hlt => by
      rw [if_pos hlt] at hix
      obtain ⟨y, hy, rfl⟩ := Option.map_eq_some_iff.1 hix
      exact (statOne_ak c m y (h.ak y (List.mem_of_getElem? hy))).2 hxa hxp
    rw [if_neg hge] at hix
    have hil : d.length + i < st.out.length := (List.getElem?_eq_some_iff.1 hix).1
    have hwf : st.wait = false := by
      cases hw' : st.wait with
      | false => rfl
      | true =>
        rw [hw'] at hwt
        simp only [Bool.true_and, decide_eq_false_iff_not] at hwt
        have hpl := h.pl htk (fun e => by rw [e] at hil; simp at hil)
        have hf := h.f
        have hw5 := h.w
        exfalso
        apply hwt
        unfold placeS
        rw [hpl]
        omega
    rcases h.ti htk hwf with hA | ⟨hb, _⟩
    · obtain ⟨j, y, hj, hy, hyp⟩ := hA _ x hix hxa hxp
      refine ⟨j - d.length, y, by omega, ?_, hyp⟩
      have e : (statOut c m n st.out).1[j]? = some y := by rw [statOut_get, if_neg (by omega)]; exact hy
      have e2 : (statOut c m n st.out).1 = _ := hd1
      rw [e2, List.getElem?_append_right (by omega)] at e
      exact e
    · exact absurd hb ho
/-- AmsendHolds' plain law -/
theorem Inv35.holds {st : Sd} (h : Inv35 st) (hq : st.queue ≠ []) (ht : st.taken = heldP st) (hp : ∀ x ∈ st.out, x.pend = []) : st.wait = true := by
  cases hw : st.wait with
  | true => rfl
  | false =>
    exfalso
    rcases h.ti ht hw with hA | ⟨_, x, hx, hxp⟩
    · cases ho : st.out with
      | nil =>
        obtain ⟨a, r, hqa⟩ := List.exists_cons_of_ne_nil hq
        have h1 := h.tk
        have h2 := h.fr a r hqa
        have h3 : heldP st = a.length + sumLen r := by unfold heldP; rw [hqa, sumL_cons]
        rw [ho] at h1
        simp [sizes] at h1
        omega
      | cons x r =>
        obtain ⟨j, y, _, hy, hyp⟩ := hA 0 x (by rw [ho]; rfl) (h.hd x r ho) (hp x (by rw [ho]; simp))
        exact hyp (hp y (List.mem_of_getElem? hy))
    · exact hxp (hp x hx)
end Go.Proofs.YtmiipkaobloedaaGreat
namespace Go.Proofs.YtmiipkaobloedaaGreat

/-- a PDU that is sent -/
structure Pu where
  sn : Nat
  poll : Bool
  seg : Bool
  last : Bool
  off : Nat
  s : Bool
  e : Bool
  ps : List (List UInt8)
/-- how far a condition holds without a break -/
def goTo (f : Nat → Bool) : Nat → Nat → Nat
  | 0, k => k
  | m + 1, k => if f (k + 1) = true then goTo f m (k + 1) else k
theorem goTo_bd (f : Nat → Bool) : ∀ m k, k ≤ goTo f m k ∧ goTo f m k ≤ k + m
  | 0, k => ⟨Nat.le_refl _, Nat.le_refl _⟩
  | m + 1, k => by
    unfold goTo
    split
    · have := goTo_bd f m (k + 1)
      omega
    · omega
theorem goTo_ok (f : Nat → Bool) : ∀ m k, goTo f m k = k ∨ f (goTo f m k) = true
  | 0, k => .inl rfl
  | m + 1, k => by
    unfold goTo
    split
    · rename_i h
      rcases goTo_ok f m (k + 1) with e | e
      · rw [e]; exact .inr h
      · exact .inr e
    · exact .inl rfl
/-- a segment of bytes fr to k fits -/
def segFits (x : Ou) (fr : Nat) (n : Int) (k : Nat) : Bool := decide (hdrN ((cutParts x.ps 0 fr k x.ps.length).length : Int) + 2 + ((k : Int) - (fr : Int)) ≤ n)
def putPend (st : Sd) (i : Nat) (x : Ou) (l : List (Nat × Nat)) : Sd := { st with out := st.out.set i { x with pend := l } }
/-- a pending PDU is sent again -/
def againP (c : Cf) (n : Int) (st : Sd) (i : Nat) (x : Ou) : Sd × Option Pu :=
  match x.pend with
  | [] => (st, none)
  | (fr, e0) :: rest =>
    if fr = 0 ∧ e0 + 1 = sizeO x ∧ hdrN (x.ps.length : Int) + (sizeO x : Int) ≤ n then
      ((finishP c (putPend st i x []) false).1, some ⟨x.sn, (finishP c (putPend st i x []) false).2, false, false, 0, x.s, x.e, x.ps⟩)
    else if goTo (segFits x fr n) (e0 + 1 - fr) fr = fr then (st, none)
    else
      ((finishP c (putPend st i x (if goTo (segFits x fr n) (e0 + 1 - fr) fr = e0 + 1 then rest else (goTo (segFits x fr n) (e0 + 1 - fr) fr, e0) :: rest)) false).1,
       some ⟨x.sn, (finishP c (putPend st i x (if goTo (segFits x fr n) (e0 + 1 - fr) fr = e0 + 1 then rest else (goTo (segFits x fr n) (e0 + 1 - fr) fr, e0) :: rest)) false).2, true, decide (goTo (segFits x fr n) (e0 + 1 - fr) fr = sizeO x), fr,
         cutStarts x.ps x.s 0 fr x.ps.length, cutEnds x.ps x.e 0 (goTo (segFits x fr n) (e0 + 1 - fr) fr) x.ps.length, cutParts x.ps 0 fr (goTo (segFits x fr n) (e0 + 1 - fr) fr) x.ps.length⟩)
/-- a grant of n bytes: the state, the PDU, whether the transmitter failed -/
def grantS (c : Cf) (st : Sd) (now n : Int) : Sd × Option Pu × Bool :=
  if (tickS c st now).failed = true then (tickS c st now, none, true)
  else match pendAt (tickS c st now).out with
    | some i => match (tickS c st now).out[i]? with
      | some x => ((againP c n (tickS c st now) i x).1, (againP c n (tickS c st now) i x).2, false)
      | none => (tickS c st now, none, false)
    | none => match freshP c n (tickS c st now) with
      | (s2, none) => (s2, none, false)
      | (s2, some (x, b)) => (s2, some ⟨x.sn, b, false, false, 0, x.s, x.e, x.ps⟩, false)
theorem Inv35.againP {st : Sd} (c : Cf) (n : Int) (h : Inv35 st) {i : Nat} {x : Ou} (hp : pendAt st.out = some i) (hx : st.out[i]? = some x) : Inv35 (againP c n st i x).1 := by
  unfold Go.Proofs.YtmiipkaobloedaaGreat.againP
  have hpr := h.pr x (List.mem_of_getElem? hx)
  cases hl : x.pend with
  | nil => exact h
  | cons r rest =>
    obtain ⟨fr, e0⟩ := r
    rw [hl] at hpr
    have hr : fr ≤ e0 := hpr (fr, e0) (by simp)
    have hb := goTo_bd (segFits x fr n) (e0 + 1 - fr) fr
    dsimp only
    split
    · exact h.again c hp hx (by simp)
    · split
      · exact h
      · refine h.again c hp hx fun q hq => ?_
        split at hq
        · exact hpr q (by simp [hq])
        · rcases List.mem_cons.1 hq with rfl | hq
          · dsimp only
            omega
          · exact hpr q (by simp [hq])
theorem Inv35.grant {st : Sd} (c : Cf) (h : Inv35 st) (now n : Int) : Inv35 (grantS c st now n).1 := by
  have h1 := h.tick c now
  unfold grantS
  split
  · exact h1
  · cases hp : pendAt (tickS c st now).out with
    | some i =>
      obtain ⟨x, hx, _⟩ := pendAt_some hp
      simp only [hx]
      exact h1.againP c n hp hx
    | none =>
      have h2 := h1.fresh c n hp
      dsimp only
      generalize freshP c n (tickS c st now) = R at *
      obtain ⟨s2, _ | ⟨x, b⟩⟩ := R
      · exact h2
      · exact h2
end Go.Proofs.YtmiipkaobloedaaGreat
namespace Go.Proofs.YtmiipkaobloedaaGreat

/-- a byte's place is an SDU's end -/
def isE (acc : List (List UInt8)) (a : Nat) : Prop := ∃ i, i ≤ acc.length ∧ a = sumLen (acc.take i)
theorem flat_len (l : List (List UInt8)) : l.flatten.length = sumLen l := by simp [sumLen, List.length_flatten]
theorem isE_split (d r : List (List UInt8)) : isE (d ++ r) (sumLen d) := ⟨d.length, by simp, by simp⟩
theorem isE_not (d r : List (List UInt8)) (x : List UInt8) (o : Nat) (h1 : 0 < o) (h2 : o < x.length) : ¬ isE (d ++ x :: r) (sumLen d + o) := by
  rintro ⟨i, _, hs⟩
  rcases Nat.lt_or_ge d.length i with hlt | hge
  · have e : (d ++ x :: r).take i = d ++ x :: r.take (i - d.length - 1) := by
      rw [List.take_append]
      rw [List.take_of_length_le (by omega)]
      congr 1
      rw [show i - d.length = (i - d.length - 1) + 1 by omega, List.take_succ_cons]
      simp
    rw [e, sumL_app, sumL_cons] at hs
    omega
  · have e : (d ++ x :: r).take i = d.take i := by rw [List.take_append_of_le_length hge]
    rw [e] at hs
    have : sumLen (d.take i) ≤ sumLen d := sumLen_take_le d i
    omega
theorem flat_drop (d r : List (List UInt8)) (x : List UInt8) (o : Nat) (h : o ≤ x.length) : (d ++ x :: r).flatten.drop (sumLen d + o) = x.drop o ++ r.flatten := by
  rw [List.flatten_append, List.flatten_cons, ← flat_len, List.drop_append, List.drop_of_length_le (by omega), List.nil_append, show d.flatten.length + o - d.flatten.length = o by omega, List.drop_append_of_le_length h]
/-- the parts of a PDU lie one behind another in the stream, each from an SDU's end on but for the first -/
def PartsAt (acc : List (List UInt8)) : Nat → Bool → List (List UInt8) → Prop
  | _, _, [] => True
  | a, first, p :: r => (first = true ∨ isE acc a) ∧ (acc.flatten.drop a).take p.length = p ∧ a + p.length ≤ sumLen acc ∧ PartsAt acc (a + p.length) false r
theorem chk_stream (n : Int) : ∀ (f : Nat) (sdus : List (List UInt8)) (sent cnt lst size : Nat) (e : Bool) (d : List (List UInt8)) (first : Bool), (∀ s ∈ sdus, 1 ≤ s.length) → (∀ x r, sdus = x :: r → sent < x.length) → (sdus = [] → sent = 0) →
    (first = true ∨ isE (d ++ sdus) (sumLen d + sent)) → PartsAt (d ++ sdus) (sumLen d + sent) first (chk n f sdus sent cnt lst size e).1 ∧
    ((chk n f sdus sent cnt lst size e).1 ≠ [] → ((chk n f sdus sent cnt lst size e).2.1 = true ↔ isE (d ++ sdus) (sumLen d + sent + sumLen (chk n f sdus sent cnt lst size e).1))) ∧ ((chk n f sdus sent cnt lst size e).1 = [] → (chk n f sdus sent cnt lst size e).2.1 = e)
  | 0, sdus, sent, cnt, lst, size, e, d, first, _, _, _, _ => by rw [chk]; exact ⟨trivial, fun h => absurd rfl h, fun _ => rfl⟩
  | f + 1, [], sent, cnt, lst, size, e, d, first, _, _, _, _ => by rw [chk]; exact ⟨trivial, fun h => absurd rfl h, fun _ => rfl⟩
  | f + 1, x :: rest, sent, cnt, lst, size, e, d, first, hp, h1, h2, hf => by
    have hs := h1 x rest rfl
    have hxl : sumLen (d ++ x :: rest) = sumLen d + x.length + sumLen rest := by rw [sumL_app, sumL_cons]; omega
    rw [chk]
    split
    · exact ⟨trivial, fun h => absurd rfl h, fun _ => rfl⟩
    split
    · exact ⟨trivial, fun h => absurd rfl h, fun _ => rfl⟩
    rename_i hr
    generalize hroom : (min (n - hdrN ((cnt : Int) + 1)) 32767 - (size : Int)).toNat = room
    have hroom1 : 1 ≤ room := by omega
    split
    · rename_i hlt
      have hl : ((x.drop sent).take room).length = room := by rw [List.length_take, List.length_drop]; omega
      refine ⟨⟨hf, ?_, by rw [hl]; omega, trivial⟩, fun _ => ?_, fun h => by cases h⟩
      · rw [hl, flat_drop d rest x sent (by omega), List.take_append_of_le_length (by rw [List.length_drop]; omega)]
      · have e1 : sumLen [(x.drop sent).take room] = room := by rw [sumL_cons, hl]; simp [sumLen]
        rw [e1, Nat.add_assoc]
        exact ⟨(fun h => by cases h), fun h => absurd h (isE_not d rest x (sent + room) (by omega) (by omega))⟩
    · rename_i hge
      have hl : (x.drop sent).length = x.length - sent := List.length_drop
      have hb : sumLen d + sent + (x.drop sent).length = sumLen (d ++ [x]) + 0 := by rw [sumL_app, sumL_cons, hl]; simp [sumLen]; omega
      have hE : isE (d ++ x :: rest) (sumLen (d ++ [x]) + 0) := by
        have := isE_split (d ++ [x]) rest
        rw [List.append_assoc] at this
        exact this
      have ih := chk_stream n f rest 0 (cnt + 1) (x.length - sent) (size + (x.length - sent)) true (d ++ [x]) false (fun s hs => hp s (by simp [hs])) (fun y r hy => hp y (by rw [hy]; simp)) (fun _ => rfl)
        (.inr (by rw [List.append_assoc]; exact hE))
      rw [List.append_assoc] at ih
      simp only [List.singleton_append] at ih
      obtain ⟨i1, i2, i3⟩ := ih
      refine ⟨⟨hf, ?_, by rw [hl]; omega, ?_⟩, fun _ => ?_, fun h => by cases h⟩
      · rw [flat_drop d rest x sent (by omega), List.take_append_of_le_length (by omega), List.take_of_length_le (by omega)]
      · rw [hb]
        exact i1
      · rw [sumL_cons, ← Nat.add_assoc, hb]
        by_cases hne : (chk n f rest 0 (cnt + 1) (x.length - sent) (size + (x.length - sent)) true).1 = []
        · rw [i3 hne, hne]
          exact ⟨fun _ => by simpa [sumLen] using hE, fun _ => rfl⟩
        · exact i2 hne
/-- the stream that was submitted, and how much of it is in PDUs -/
structure Byt (st : Sd) (acc : List (List UInt8)) (a next : Nat) : Prop where
  ex : ∃ d, acc = d ++ st.queue ∧ a = sumLen d + st.taken
  nx : next = nextP st
theorem Byt.new : Byt newSd [] 0 0 := ⟨⟨[], rfl, rfl⟩, rfl⟩
theorem Byt.submit {st : Sd} {acc : List (List UInt8)} {a next : Nat} (h : Byt st acc a next) (x : List UInt8) : Byt (submitS st x) (acc ++ [x]) a next := by
  obtain ⟨⟨d, h1, h2⟩, h3⟩ := h
  exact ⟨⟨d, by rw [h1, List.append_assoc]; rfl, h2⟩, h3⟩
/-- what turns neither the queue nor the number of PDUs -/
theorem Byt.same {st st' : Sd} {acc : List (List UInt8)} {a next : Nat} (h : Byt st acc a next) (h1 : st'.queue = st.queue) (h2 : st'.taken = st.taken) (h3 : st'.first = st.first) (h4 : st'.out.length = st.out.length) : Byt st' acc a next := by
  obtain ⟨⟨d, e1, e2⟩, e3⟩ := h
  exact ⟨⟨d, by rw [h1]; exact e1, by rw [h2]; exact e2⟩, by rw [e3]; unfold nextP; rw [h3, h4]⟩
theorem repeats_same (c : Cf) (st : Sd) : (repeatsP c st).queue = st.queue ∧ (repeatsP c st).taken = st.taken ∧ (repeatsP c st).first = st.first ∧ (repeatsP c st).out.length = st.out.length ∧ (repeatsP c st).done = st.done ∧ (repeatsP c st).front = st.front := by
  unfold repeatsP
  split
  · exact ⟨rfl, rfl, rfl, rfl, rfl, rfl⟩
  · split
    · exact ⟨rfl, rfl, rfl, rfl, rfl, rfl⟩
    · split
      · exact ⟨rfl, rfl, rfl, rfl, rfl, rfl⟩
      · exact ⟨rfl, rfl, rfl, by simp [setOut], rfl, rfl⟩
theorem tick_same (c : Cf) (st : Sd) (now : Int) : (tickS c st now).queue = st.queue ∧ (tickS c st now).taken = st.taken ∧ (tickS c st now).first = st.first ∧ (tickS c st now).out.length = st.out.length ∧ (tickS c st now).done = st.done ∧ (tickS c st now).front = st.front := by
  unfold tickS expiresP
  split
  · exact ⟨rfl, rfl, rfl, rfl, rfl, rfl⟩
  · exact repeats_same c _
theorem finish_same (c : Cf) (st : Sd) (b : Bool) : (finishP c st b).1.queue = st.queue ∧ (finishP c st b).1.taken = st.taken ∧ (finishP c st b).1.first = st.first ∧ (finishP c st b).1.out = st.out ∧ (finishP c st b).1.done = st.done ∧ (finishP c st b).1.front = st.front ∧ (finishP c st b).1.failed = st.failed ∧ (finishP c st b).1.now = st.now := by
  unfold finishP
  split <;> exact ⟨rfl, rfl, rfl, rfl, rfl, rfl, rfl, rfl⟩
theorem again_same (c : Cf) (n : Int) (st : Sd) (i : Nat) (x : Ou) : (againP c n st i x).1.queue = st.queue ∧ (againP c n st i x).1.taken = st.taken ∧ (againP c n st i x).1.first = st.first ∧ (againP c n st i x).1.out.length = st.out.length := by
  unfold againP
  split
  · exact ⟨rfl, rfl, rfl, rfl⟩
  · split
    · obtain ⟨a, b, d, e, _⟩ := finish_same c (putPend st i x []) false
      exact ⟨a, b, d, by rw [e]; simp [putPend]⟩
    · split
      · exact ⟨rfl, rfl, rfl, rfl⟩
      · dsimp only
        refine ⟨(finish_same c _ false).1, (finish_same c _ false).2.1, (finish_same c _ false).2.2.1, ?_⟩
        rw [(finish_same c _ false).2.2.2.1]
        simp [putPend]
/-- a report that is accepted -/
theorem Byt.stat {st : Sd} {acc : List (List UInt8)} {a next : Nat} (h : Byt st acc a next) (hi : Inv35 st) (c : Cf) (m : Ou → List (Nat × Nat)) (n : Nat) : Byt (statS c m n st) acc a next := by
  obtain ⟨⟨d, e1, e2⟩, e3⟩ := h
  have key : Byt (advS { st with out := (statOut c m n st.out).1, failed := st.failed || (statOut c m n st.out).2, wait := st.wait && decide (n ≤ placeS st st.polled) }) acc a next := by
    obtain ⟨⟨o, h1, h2, h3, _⟩, _⟩ := advOut_spec (statOut c m n st.out).1
    obtain ⟨⟨q, g1, g2, g3, g4⟩, _⟩ := advQ_spec st.queue (st.front + (advOut (statOut c m n st.out).1).2.1)
    have hsz : sizes st.out = (advOut (statOut c m n st.out).1).2.1 + sizes (advOut (statOut c m n st.out).1).2.2 := by
      rw [← statOut_sizes c m n, ← h3, ← sizes_app, ← h1]
    have htk := hi.tk
    refine ⟨⟨d ++ q, ?_, ?_⟩, ?_⟩
    · show acc = d ++ q ++ (advQ st.queue (st.front + (advOut (statOut c m n st.out).1).2.1)).2.2.2
      rw [e1, List.append_assoc, ← g1]
    · show a = sumLen (d ++ q) + (st.taken - (advQ st.queue (st.front + (advOut (statOut c m n st.out).1).2.1)).2.1)
      rw [sumL_app, e2]
      omega
    · rw [e3]
      show (st.first + st.out.length) % 1024 = ((st.first + (advOut (statOut c m n st.out).1).1) % 1024 + (advOut (statOut c m n st.out).1).2.2.length) % 1024
      have hl := congrArg List.length h1
      rw [List.length_append, h2, statOut_len] at hl
      omega
  unfold statS
  dsimp only
  split
  · obtain ⟨a1, a2, a3, a4, _⟩ := repeats_same c (advS { st with out := (statOut c m n st.out).1, failed := st.failed || (statOut c m n st.out).2, wait := st.wait && decide (n ≤ placeS st st.polled) })
    exact key.same a1 a2 a3 a4
  · exact key
/-- a new PDU: what the law asks of it -/
structure NewOk (acc : List (List UInt8)) (a : Nat) (x : Ou) : Prop where
  s : x.s = true ↔ isE acc a
  at_ : PartsAt acc a true x.ps
  e : x.e = true ↔ isE acc (a + sizeO x)
theorem Byt.chunk {st : Sd} {acc : List (List UInt8)} {a next : Nat} (h : Byt st acc a next) (hi : InvV st) (n : Int) (hne : (chunkS n st).ps ≠ []) : NewOk acc a (chunkS n st) := by
  obtain ⟨⟨d, e1, e2⟩, e3⟩ := h
  obtain ⟨⟨q, h1, h2⟩, h3, h4⟩ := skip_spec st.queue st.taken hi.le
  have hpos : ∀ s ∈ (skipTo st.queue st.taken).1, 1 ≤ s.length := fun s hs => hi.pos s (by rw [h1]; simp [hs])
  have hne' : (chk n ((skipTo st.queue st.taken).1.length + 1) (skipTo st.queue st.taken).1 (skipTo st.queue st.taken).2 0 0 0 false).1 ≠ [] := hne
  have hacc : acc = (d ++ q) ++ (skipTo st.queue st.taken).1 := by rw [e1, List.append_assoc, ← h1]
  have ha : a = sumLen (d ++ q) + (skipTo st.queue st.taken).2 := by rw [sumL_app]; omega
  have hst := chk_stream n ((skipTo st.queue st.taken).1.length + 1) (skipTo st.queue st.taken).1 (skipTo st.queue st.taken).2 0 0 0 false (d ++ q) true hpos h4 h3 (.inl rfl)
  rw [← hacc, ← ha] at hst
  refine ⟨?_, hst.1, hst.2.1 hne'⟩
  show decide ((skipTo st.queue st.taken).2 = 0) = true ↔ _
  rw [decide_eq_true_iff]
  cases hq : (skipTo st.queue st.taken).1 with
  | nil => rw [hq] at hne'; simp [chk] at hne'
  | cons x r =>
    have hlt := h4 x r hq
    constructor
    · intro e0
      rw [hacc, ha, e0]
      exact isE_split _ _
    · intro hE
      refine Classical.byContradiction fun h0 => ?_
      rw [hacc, ha, hq] at hE
      exact isE_not _ _ _ _ (by omega) hlt hE
/-- and what holds behind it -/
theorem Byt.fresh {st : Sd} {acc : List (List UInt8)} {a next : Nat} (h : Byt st acc a next) (c : Cf) (n : Int) (b : Bool) : Byt (finishP c (addO st (chunkS n st)) b).1 acc (a + sizeO (chunkS n st)) ((next + 1) % 1024) := by
  obtain ⟨⟨d, e1, e2⟩, e3⟩ := h
  obtain ⟨a1, a2, a3, a4, _⟩ := finish_same c (addO st (chunkS n st)) b
  refine ⟨⟨d, by rw [a1]; exact e1, by rw [a2, e2]; show _ = sumLen d + (st.taken + sizeO _); omega⟩, ?_⟩
  unfold nextP
  rw [a3, a4, e3]
  show _ = (st.first + (st.out ++ [chunkS n st]).length) % 1024
  unfold nextP
  rw [List.length_append]
  simp
  omega
end Go.Proofs.YtmiipkaobloedaaGreat
namespace Go.Proofs.YtmiipkaobloedaaGreat

/-- PDUs are sent at time 0, none is reported on -/
structure Wd (st : Sd) : Prop where
  inv : Inv35 st
  f : st.first = 0
  fl : st.failed = false
  now : st.now = 0
  ow : st.owed = false
  out : ∀ x ∈ st.out, x.acked = false ∧ x.pend = []
  wt : st.wait = true → st.polled < st.out.length ∧ 0 < st.expiry
theorem Wd.new : Wd newSd := ⟨InvW.new, rfl, rfl, rfl, rfl, by simp [newSd], fun h => by cases h⟩
theorem Wd.submit {st : Sd} (h : Wd st) {x : List UInt8} (hx : 1 ≤ x.length) : Wd (submitS st x) := ⟨h.inv.submit hx, h.f, h.fl, h.now, h.ow, h.out, h.wt⟩
theorem Wd.tick {st : Sd} (h : Wd st) (c : Cf) : tickS c st 0 = st := by
  have e : clockS st 0 = st := by
    unfold clockS
    rw [h.now, if_neg (by omega), ← h.now]
  unfold tickS
  rw [e]
  unfold expiresP
  rw [if_pos]
  rw [h.now]
  cases hw : st.wait with
  | false => exact .inl rfl
  | true => exact .inr (h.wt hw).2
theorem Wd.pend {st : Sd} (h : Wd st) : pendAt st.out = none := pendAt_none.2 fun x hx => (h.out x hx).2
theorem Wd.fresh {st : Sd} (h : Wd st) (c : Cf) (n : Int) (ht : 1 ≤ c.timer ∧ c.timer ≤ 1048576) : Wd (freshP c n st).1 ∧ (freshP c n st).1.out.length = st.out.length + (if (freshP c n st).2.isSome = true then 1 else 0) := by
  have hi := h.inv.fresh c n h.pend
  have hw5 := h.inv.w
  revert hi
  unfold freshP
  split
  · exact fun _ => ⟨h, rfl⟩
  · rename_i hl
    split
    · exact fun _ => ⟨h, rfl⟩
    · intro hi
      dsimp only at hi ⊢
      have hx : (chunkS n st).acked = false ∧ (chunkS n st).pend = [] := ⟨rfl, rfl⟩
      generalize chunkS n st = x at *
      have ho : ∀ y ∈ (addO st x).out, y.acked = false ∧ y.pend = [] := fun y hy => by
        simp only [addO, List.mem_append, List.mem_singleton] at hy
        rcases hy with hy | rfl
        · exact h.out y hy
        · exact hx
      have hlen : (addO st x).out.length = st.out.length + 1 := by simp [addO]
      obtain ⟨_, _, f3, f4, _, _, f7, f8⟩ := finish_same c (addO st x) (pollsNow c (addO st x))
      refine ⟨⟨hi, by rw [f3]; exact h.f, by rw [f7]; exact h.fl, by rw [f8]; exact h.now, ?_, by rw [f4]; exact ho, fun hw => ?_⟩, by rw [f4]; simpa using hlen⟩
      · unfold finishP
        split
        · rfl
        · exact h.ow
      · rw [f4]
        revert hw
        unfold finishP
        split
        · intro _
          refine ⟨?_, ?_⟩
          · show (nextP (addO st x) + 1023) % 1024 < _
            have hf0 : (addO st x).first = 0 := h.f
            unfold nextP
            rw [hf0]
            omega
          · show (0 : Int) < IntKind.i64.wrap ((addO st x).now + c.timer)
            have hn0 : (addO st x).now = 0 := h.now
            rw [hn0, IntKind.wrap_i64]
            omega
        · intro hw
          obtain ⟨w1, w2⟩ := h.wt hw
          exact ⟨by rw [hlen]; show st.polled < _; omega, w2⟩
theorem Wd.grant {st : Sd} (h : Wd st) (c : Cf) (n : Int) (ht : 1 ≤ c.timer ∧ c.timer ≤ 1048576) : Wd (grantS c st 0 n).1 ∧ (grantS c st 0 n).2.2 = false ∧ (grantS c st 0 n).1.out.length = st.out.length + (if (grantS c st 0 n).2.1.isSome = true then 1 else 0) := by
  have hf := h.fresh c n ht
  unfold grantS
  rw [h.tick c, if_neg (by rw [h.fl]; simp), h.pend]
  dsimp only
  generalize freshP c n st = R at *
  obtain ⟨s2, _ | ⟨x, b⟩⟩ := R
  · exact ⟨hf.1, rfl, hf.2⟩
  · exact ⟨hf.1, rfl, hf.2⟩
theorem advOut_all : ∀ l : List Ou, (∀ x ∈ l, x.acked = true) → advOut l = (l.length, sizes l, [])
  | [], _ => rfl
  | x :: r, h => by
    unfold advOut
    rw [if_pos (h x (by simp)), advOut_all r (fun y hy => h y (by simp [hy]))]
    simp [sizes_cons, Nat.add_comm]
/-- everything is acknowledged -/
theorem Wd.stat {st : Sd} (h : Wd st) (c : Cf) : (statS c (fun _ => []) st.out.length (clockS st 1)).out = [] ∧ (statS c (fun _ => []) st.out.length (clockS st 1)).first = st.out.length ∧ (statS c (fun _ => []) st.out.length (clockS st 1)).wait = false ∧
    (statS c (fun _ => []) st.out.length (clockS st 1)).failed = false ∧ (heldP (statS c (fun _ => []) st.out.length (clockS st 1)) : Int) - (statS c (fun _ => []) st.out.length (clockS st 1)).taken = (heldP st : Int) - st.taken ∧ (statS c (fun _ => []) st.out.length (clockS st 1)).taken ≤ heldP (statS c (fun _ => []) st.out.length (clockS st 1)) := by
  have hone : ∀ x ∈ st.out, statOne c (fun _ => []) x = ({ x with acked := true, pend := [] }, false) := fun x hx => by
    unfold statOne
    rw [if_neg (by rw [(h.out x hx).1]; simp), if_pos rfl]
  have hmap : statOut c (fun _ => []) st.out.length st.out = (st.out.map (fun x => { x with acked := true, pend := [] }), false) := by
    unfold statOut
    rw [List.take_length, List.drop_length, List.append_nil]
    congr 1
    · exact List.map_congr_left fun x hx => by rw [hone x hx]
    · rw [List.any_eq_false]
      intro x hx
      rw [hone x hx]
      simp
  have hv := h.inv.toInvV
  have hsz : sizes (st.out.map (fun x => ({ x with acked := true, pend := [] } : Ou))) = sizes st.out := by
    have key : ∀ a : List Ou, sizes (a.map (fun x => ({ x with acked := true, pend := [] } : Ou))) = sizes a := by
      intro a
      induction a with
      | nil => rfl
      | cons x r ih => rw [List.map_cons, sizes_cons, sizes_cons, ih]; rfl
    exact key _
  have hadv := advOut_all (st.out.map (fun x => ({ x with acked := true, pend := [] } : Ou))) (fun y hy => by
    obtain ⟨x, _, rfl⟩ := List.mem_map.1 hy
    rfl)
  rw [hsz, List.length_map] at hadv
  have how : (advS { clockS st 1 with out := (statOut c (fun _ => []) st.out.length st.out).1, failed := st.failed || (statOut c (fun _ => []) st.out.length st.out).2, wait := st.wait && decide (st.out.length ≤ placeS st st.polled) }).owed = false := h.ow
  have hst : statS c (fun _ => []) st.out.length (clockS st 1) = advS { clockS st 1 with out := (statOut c (fun _ => []) st.out.length st.out).1, failed := st.failed || (statOut c (fun _ => []) st.out.length st.out).2, wait := st.wait && decide (st.out.length ≤ placeS st st.polled) } := by
    unfold statS
    dsimp only
    rw [if_neg]
    · rfl
    · intro e
      have e2 : (advS { clockS st 1 with out := (statOut c (fun _ => []) st.out.length st.out).1, failed := st.failed || (statOut c (fun _ => []) st.out.length st.out).2, wait := st.wait && decide (st.out.length ≤ placeS st st.polled) }).owed = true := e
      rw [how] at e2
      cases e2
  rw [hst, hmap]
  have htk := hv.tk
  have hle := hv.le
  have hw5 := hv.w
  have hf := h.f
  obtain ⟨⟨q, g1, g2, g3, g4⟩, g5⟩ := advQ_spec st.queue (st.front + (advOut (st.out.map (fun x => ({ x with acked := true, pend := [] } : Ou)))).2.1)
  have hhe : heldP st = sumLen q + sumLen (advQ st.queue (st.front + (advOut (st.out.map (fun x => ({ x with acked := true, pend := [] } : Ou)))).2.1)).2.2.2 := by
    unfold heldP
    conv => lhs; rw [g1]
    rw [sumL_app]
  have hA : (advOut (st.out.map (fun x => ({ x with acked := true, pend := [] } : Ou)))).2.1 = sizes st.out := by rw [hadv]
  refine ⟨?_, ?_, ?_, ?_, ?_, ?_⟩
  · show (advOut (st.out.map (fun x => ({ x with acked := true, pend := [] } : Ou)))).2.2 = []
    rw [hadv]
  · show (st.first + (advOut (st.out.map (fun x => ({ x with acked := true, pend := [] } : Ou)))).1) % 1024 = _
    rw [hadv, hf]
    dsimp only
    omega
  · show (st.wait && decide (st.out.length ≤ placeS st st.polled)) = false
    cases hw : st.wait with
    | false => rfl
    | true =>
      have := (h.wt hw).1
      simp only [Bool.true_and, decide_eq_false_iff_not]
      unfold placeS
      rw [hf]
      omega
  · show (st.failed || false) = false
    rw [h.fl]
    rfl
  · show (sumLen (advQ st.queue (st.front + (advOut (st.out.map (fun x => ({ x with acked := true, pend := [] } : Ou)))).2.1)).2.2.2 : Int) - ((st.taken - (advQ st.queue (st.front + (advOut (st.out.map (fun x => ({ x with acked := true, pend := [] } : Ou)))).2.1)).2.1 : Nat) : Int) = _
    omega
  · show st.taken - (advQ st.queue (st.front + (advOut (st.out.map (fun x => ({ x with acked := true, pend := [] } : Ou)))).2.1)).2.1 ≤ sumLen (advQ st.queue (st.front + (advOut (st.out.map (fun x => ({ x with acked := true, pend := [] } : Ou)))).2.1)).2.2.2
    omega
end Go.Proofs.YtmiipkaobloedaaGreat
namespace Go.Proofs.YtmiipkaobloedaaGreat

/-- an entry of a report -/
structure Nk where
  sn : Int
  part : Bool
  fr : Int
  lt : Int
def distP (ack sn : Int) : Int := (ack - sn) % 1024
def aloneP (ack : Int) (n : Nk) : Bool :=
  (decide (0 ≤ n.sn) && decide (n.sn < 1024)) && ((decide (1 ≤ distP ack n.sn) && decide (distP ack n.sn ≤ 512)) &&
    (if n.part = true then decide (0 ≤ n.fr) && (decide (n.fr ≤ n.lt) && decide (n.lt ≤ 32767)) else decide (n.fr = 0) && decide (n.lt = 0)))
def followsP (ack : Int) (a b : Nk) : Bool :=
  decide (distP ack b.sn < distP ack a.sn) || (decide (a.sn = b.sn) && (a.part && (b.part && decide (a.lt < b.fr))))
def chainP (ack : Int) : List Nk → Bool
  | [] => true
  | [n] => aloneP ack n
  | a :: b :: r => aloneP ack a && (followsP ack a b && chainP ack (b :: r))
def validSt (ack : Int) (l : List Nk) : Bool := (decide (0 ≤ ack) && decide (ack ≤ 1023)) && (decide (l.length ≤ 512) && chainP ack l)
/-- a range is joined to the last one if it lies right behind it -/
def mergeP (l : List (Nat × Nat)) (x : Nat × Nat) : List (Nat × Nat) :=
  match l.getLast? with
  | none => [x]
  | some y => if y.2 + 1 = x.1 then l.dropLast ++ [(y.1, x.2)] else l ++ [x]
def nkRange (n : Nk) : Nat × Nat := if n.part = true then (n.fr.toNat, n.lt.toNat) else (0, 32767)
def missStep (size : Nat) (l : List (Nat × Nat)) (n : Nk) : List (Nat × Nat) :=
  if min (nkRange n).2 (size - 1) < (nkRange n).1 then l else mergeP l ((nkRange n).1, min (nkRange n).2 (size - 1))
def missP (nks : List Nk) (x : Ou) : List (Nat × Nat) := (nks.filter (fun n => decide (n.sn = (x.sn : Int)))).foldl (missStep (sizeO x)) []
theorem mergeP_le {l : List (Nat × Nat)} {x : Nat × Nat} (h : ∀ r ∈ l, r.1 ≤ r.2) (hx : x.1 ≤ x.2) : ∀ r ∈ mergeP l x, r.1 ≤ r.2 := by
  unfold mergeP
  cases hl : l.getLast? with
  | none => simpa using hx
  | some y =>
    have hy := h y (List.mem_of_getLast? hl)
    dsimp only
    split
    · rename_i e
      intro r hr
      rcases List.mem_append.1 hr with hr | hr
      · exact h r (List.dropLast_subset l hr)
      · simp at hr
        rw [hr]
        dsimp only
        omega
    · intro r hr
      rcases List.mem_append.1 hr with hr | hr
      · exact h r hr
      · simp at hr
        rw [hr]
        exact hx
theorem missP_le (nks : List Nk) (x : Ou) : ∀ r ∈ missP nks x, r.1 ≤ r.2 := by
  unfold missP
  generalize nks.filter (fun n => decide (n.sn = (x.sn : Int))) = l
  have key : ∀ (l : List Nk) (a : List (Nat × Nat)), (∀ r ∈ a, r.1 ≤ r.2) → ∀ r ∈ l.foldl (missStep (sizeO x)) a, r.1 ≤ r.2 := by
    intro l
    induction l with
    | nil => intro a ha; simpa using ha
    | cons n r ih =>
      intro a ha
      rw [List.foldl_cons]
      refine ih _ ?_
      unfold missStep
      split
      · exact ha
      · exact mergeP_le ha (by dsimp only; omega)
  exact key l [] (by simp)
theorem missP_nil (x : Ou) : missP [] x = [] := rfl
def placeI (st : Sd) (sn : Int) : Int := (sn - (st.first : Int)) % 1024
/-- what a report does: the state, the error -/
def statusS (c : Cf) (st : Sd) (now ack : Int) (nks : List Nk) : Sd × Int :=
  if validSt ack nks = false then (st, 2)
  else if (st.out.length : Int) < placeI st ack ∨ nks.any (fun n => decide (placeI st ack ≤ placeI st n.sn)) = true then (clockS st now, 6)
  else
    let s2 := statS c (missP nks) (placeI st ack).toNat (clockS st now)
    (s2, if s2.failed = true then 8 else 0)
theorem Inv35.status {st : Sd} (h : Inv35 st) (c : Cf) (now ack : Int) (nks : List Nk) : Inv35 (statusS c st now ack nks).1 := by
  unfold statusS
  split
  · exact h
  · split
    · exact h.clock now
    · rename_i hr
      have hn : (placeI st ack).toNat ≤ (clockS st now).out.length := by
        have e : (clockS st now).out.length = st.out.length := rfl
        rw [e]
        have := not_or.1 hr
        omega
      exact (h.clock now).stat c (missP nks) _ hn (missP_le nks)
end Go.Proofs.YtmiipkaobloedaaGreat
namespace Go.Proofs.YtmiipkaobloedaaGreat

/-- the bytes of ranges -/
def rangeB (l : List (Nat × Nat)) : Nat := (l.map (fun r => r.2 + 1 - r.1)).sum
def pendB (l : List Ou) : Nat := (l.map (fun x => rangeB x.pend)).sum
/-- what Buffered gives -/
def bufP (st : Sd) : Int := (heldP st : Int) - (st.taken : Int) + (pendB st.out : Int)
theorem rangeB_zero {l : List (Nat × Nat)} (h : ∀ r ∈ l, r.1 ≤ r.2) (hz : rangeB l = 0) : l = [] := by
  cases l with
  | nil => rfl
  | cons r t =>
    have := h r (by simp)
    simp only [rangeB, List.map_cons, List.sum_cons] at hz
    omega
theorem pendB_zero : ∀ {l : List Ou}, (∀ x ∈ l, ∀ r ∈ x.pend, r.1 ≤ r.2) → pendB l = 0 → ∀ x ∈ l, x.pend = []
  | [], _, _, x, hx => by cases hx
  | y :: t, h, hz, x, hx => by
    simp only [pendB, List.map_cons, List.sum_cons] at hz
    rcases List.mem_cons.1 hx with rfl | hx
    · exact rangeB_zero (h x (by simp)) (by omega)
    · exact pendB_zero (fun z hz' => h z (by simp [hz'])) (by unfold pendB; omega) x hx
/-- what the law asks after each call -/
theorem Inv35.asked {st : Sd} (h : Inv35 st) (hq : st.queue ≠ []) (hb : bufP st = 0) : st.wait = true := by
  have hle := h.le
  unfold bufP at hb
  have h1 : st.taken = heldP st := by omega
  have h2 : pendB st.out = 0 := by omega
  exact h.holds hq h1 (pendB_zero h.pr h2)
theorem Inv35.next {st : Sd} (h : Inv35 st) : ((nextP st : Int) - (st.first : Int) + 1024) % 1024 ≤ 512 := by
  have := h.w
  have := h.f
  unfold nextP
  omega
/-- a call of the law -/
structure ActS where
  what : Int
  now : Int
  n : Int
  b : List UInt8
  ack : Int
  nks : List Nk
/-- what the calls do: the state behind them -/
def submitR (c : Cf) (st : Sd) (x : List UInt8) : Sd × Int :=
  if st.failed = true then (st, 8)
  else if x.length = 0 ∨ 9000 < x.length then (st, 2)
  else if c.cap < (heldP st : Int) + (x.length : Int) then (st, 7)
  else (submitS st x, 0)
def grantR (c : Cf) (st : Sd) (now n : Int) : Sd × Option Pu × Int :=
  if st.failed = true then (st, none, 8)
  else if n < 0 then (st, none, 2)
  else ((grantS c st now n).1, (grantS c st now n).2.1, if (grantS c st now n).2.2 = true then 8 else 0)
def statusR (c : Cf) (st : Sd) (now ack : Int) (nks : List Nk) : Sd × Int :=
  if st.failed = true then (st, 8) else statusS c st now ack nks
def tickR (c : Cf) (st : Sd) (now : Int) : Sd × Int :=
  if st.failed = true then (st, 8) else (tickS c st now, if (tickS c st now).failed = true then 8 else 0)
def actR (c : Cf) (st : Sd) (x : ActS) : Sd :=
  if x.what = 0 then (submitR c st x.b).1
  else if x.what = 1 ∨ x.what = 2 then (grantR c st x.now x.n).1
  else if x.what = 3 then (statusR c st x.now x.ack x.nks).1
  else (tickR c st x.now).1
theorem Inv35.submitR {st : Sd} (h : Inv35 st) (c : Cf) (x : List UInt8) : Inv35 (submitR c st x).1 := by
  unfold Go.Proofs.YtmiipkaobloedaaGreat.submitR
  split
  · exact h
  · split
    · exact h
    · split
      · exact h
      · exact h.submit (by omega)
theorem Inv35.grantR {st : Sd} (h : Inv35 st) (c : Cf) (now n : Int) : Inv35 (grantR c st now n).1 := by
  unfold Go.Proofs.YtmiipkaobloedaaGreat.grantR
  split
  · exact h
  · split
    · exact h
    · exact h.grant c now n
theorem Inv35.statusR {st : Sd} (h : Inv35 st) (c : Cf) (now ack : Int) (nks : List Nk) : Inv35 (statusR c st now ack nks).1 := by
  unfold Go.Proofs.YtmiipkaobloedaaGreat.statusR
  split
  · exact h
  · exact h.status c now ack nks
theorem Inv35.tickR {st : Sd} (h : Inv35 st) (c : Cf) (now : Int) : Inv35 (tickR c st now).1 := by
  unfold Go.Proofs.YtmiipkaobloedaaGreat.tickR
  split
  · exact h
  · exact h.tick c now
theorem Inv35.act {st : Sd} (h : Inv35 st) (c : Cf) (x : ActS) : Inv35 (actR c st x) := by
  unfold actR
  split
  · exact h.submitR c x.b
  · split
    · exact h.grantR c x.now x.n
    · split
      · exact h.statusR c x.now x.ack x.nks
      · exact h.tickR c x.now
end Go.Proofs.YtmiipkaobloedaaGreat
namespace Go.Proofs.YtmiipkaobloedaaGreat

/-- a valid configuration -/
structure CfOk (c : Cf) : Prop where
  pdu : 0 ≤ c.pdu ∧ c.pdu ≤ 1024
  byte : 0 ≤ c.byte ∧ c.byte ≤ 1048576
  timer : 1 ≤ c.timer ∧ c.timer ≤ 1048576
  retx : 0 ≤ c.retx ∧ c.retx ≤ 64
  cap : 1 ≤ c.cap ∧ c.cap ≤ 1048576
/-- an outstanding PDU is well made -/
structure OuOk (x : Ou) : Prop where
  sn : x.sn ≤ 1023
  ps : ValidP x.ps
  pr : ∀ r ∈ x.pend, r.1 ≤ r.2 ∧ r.2 < sizeO x
  pl : x.pend.length ≤ 1000
/-- bounds of a transmitter behind K calls -/
structure Bnd (st : Sd) (K : Nat) : Prop where
  done : st.done ≤ 1048576 * K
  pdus : st.pdus ≤ K
  bytes : st.bytes ≤ 32767 * K
  held : heldP st ≤ 1048576
  sdu : ∀ s ∈ st.queue, 1 ≤ s.length ∧ s.length ≤ 9000
  pol : st.polled ≤ 1023
  ou : ∀ x ∈ st.out, OuOk x
  rx : ∀ x ∈ st.out, x.retx ≤ K
  now0 : 0 ≤ st.now
  now1 : st.now ≤ 9223372036854775807
theorem Bnd.mono {st : Sd} {K K' : Nat} (h : Bnd st K) (hk : K ≤ K') : Bnd st K' :=
  ⟨Nat.le_trans h.done (Nat.mul_le_mul_left _ hk), Nat.le_trans h.pdus hk, Nat.le_trans h.bytes (Nat.mul_le_mul_left _ hk), h.held, h.sdu, h.pol, h.ou, fun x hx => Nat.le_trans (h.rx x hx) hk, h.now0, h.now1⟩
theorem Bnd.new : Bnd newSd 0 := ⟨by simp [newSd], by simp [newSd], by simp [newSd], by simp [newSd, heldP, sumLen], by simp [newSd], by simp [newSd], by simp [newSd], by simp [newSd], by simp [newSd], by simp [newSd]⟩
theorem queue_len {q : List (List UInt8)} (h : ∀ s ∈ q, 1 ≤ s.length) : q.length ≤ sumLen q := by
  induction q with
  | nil => simp
  | cons x r ih =>
    have h1 := h x (by simp)
    have h2 := ih (fun s hs => h s (by simp [hs]))
    rw [sumL_cons]
    simp only [List.length_cons]
    omega
theorem Bnd.clock {st : Sd} {K : Nat} (h : Bnd st K) {now : Int} (hn : now ≤ 9223372036854775807) : Bnd (clockS st now) K :=
  ⟨h.done, h.pdus, h.bytes, h.held, h.sdu, h.pol, h.ou, h.rx, by have := h.now0; simp only [clockS]; split <;> omega, by have := h.now1; simp only [clockS]; split <;> omega⟩
theorem Bnd.submit {st : Sd} {K : Nat} (h : Bnd st K) {x : List UInt8} (h1 : 1 ≤ x.length) (h9 : x.length ≤ 9000) (hc : heldP st + x.length ≤ 1048576) : Bnd (submitS st x) K :=
  ⟨h.done, h.pdus, h.bytes, by simp only [heldP, submitS, sumL_app, sumL_cons] at *; simp [sumLen] at *; omega, fun s hs => by
    simp only [submitS, List.mem_append, List.mem_singleton] at hs
    rcases hs with hs | rfl
    · exact h.sdu s hs
    · exact ⟨h1, h9⟩, h.pol, h.ou, h.rx, h.now0, h.now1⟩
theorem pend_ok (c : Cf) {x : Ou} {l : List (Nat × Nat)} {K : Nat} (h : OuOk x) (hr : x.retx ≤ K) (hl : ∀ r ∈ l, r.1 ≤ r.2 ∧ r.2 < sizeO x) (hn : l.length ≤ 1000) : OuOk (pendP c x l).1 ∧ (pendP c x l).1.retx ≤ K + 1 := by
  unfold pendP
  split
  · exact ⟨⟨h.sn, h.ps, hl, hn⟩, by dsimp only; omega⟩
  · exact ⟨⟨h.sn, h.ps, hl, hn⟩, by dsimp only; omega⟩
theorem ouOk_size {x : Ou} (h : OuOk x) : 1 ≤ sizeO x ∧ sizeO x ≤ 32767 := by
  unfold sizeO
  have := h.ps.sum
  have := h.ps.lo
  refine ⟨?_, by omega⟩
  obtain ⟨p, hp⟩ := List.exists_mem_of_length_pos (show 0 < x.ps.length by omega)
  have := mem_le_sumLen hp
  have := h.ps.pos p hp
  omega
/-- one outstanding PDU turns -/
theorem Bnd.set {st : Sd} {K : Nat} (h : Bnd st K) (i : Nat) {z : Ou} (hz : OuOk z) (hr : z.retx ≤ K) (b : Bool) : Bnd { st with out := st.out.set i z, failed := b } K :=
  ⟨h.done, h.pdus, h.bytes, h.held, h.sdu, h.pol, fun x hx => by
    rcases set_mem hx with rfl | hx
    · exact hz
    · exact h.ou x hx, fun x hx => by
    rcases set_mem hx with rfl | hx
    · exact hr
    · exact h.rx x hx, h.now0, h.now1⟩
theorem Bnd.repeats {st : Sd} {K : Nat} (h : Bnd st K) (c : Cf) : Bnd (repeatsP c st) (K + 1) := by
  unfold repeatsP
  split
  · exact h.mono (by omega)
  · split
    · exact h.mono (by omega)
    · split
      · exact h.mono (by omega)
      · rename_i i _ _ x hx
        have hm := List.mem_of_getElem? hx
        have ho := h.ou x hm
        have hs := ouOk_size ho
        obtain ⟨p1, p2⟩ := pend_ok c ho (h.rx x hm) (l := [(0, sizeO x - 1)]) (fun r hr => by simp at hr; rw [hr]; dsimp only; omega) (by simp)
        exact (h.mono (Nat.le_succ K)).set i p1 p2 _
theorem Bnd.tick {st : Sd} {K : Nat} (h : Bnd st K) (c : Cf) {now : Int} (hn : now ≤ 9223372036854775807) : Bnd (tickS c st now) (K + 1) := by
  have h1 := h.clock hn
  unfold tickS expiresP
  split
  · exact h1.mono (by omega)
  · exact Bnd.repeats (st := { clockS st now with wait := false, owed := true }) ⟨h1.done, h1.pdus, h1.bytes, h1.held, h1.sdu, h1.pol, h1.ou, h1.rx, h1.now0, h1.now1⟩ c
theorem Bnd.finish {st : Sd} {K : Nat} (h : Bnd st K) (c : Cf) (b : Bool) : Bnd (finishP c st b).1 K := by
  unfold finishP
  split
  · exact ⟨h.done, Nat.zero_le _, Nat.zero_le _, h.held, h.sdu, by show (nextP st + 1023) % 1024 ≤ 1023; omega, h.ou, h.rx, h.now0, h.now1⟩
  · exact h
theorem Bnd.again {st : Sd} {K : Nat} (h : Bnd st K) (c : Cf) (n : Int) (i : Nat) {x : Ou} (hx : st.out[i]? = some x) : Bnd (againP c n st i x).1 K := by
  have hm := List.mem_of_getElem? hx
  have ho := h.ou x hm
  have hpl := ho.pl
  have key : ∀ l : List (Nat × Nat), (∀ r ∈ l, r.1 ≤ r.2 ∧ r.2 < sizeO x) → l.length ≤ 1000 → Bnd (putPend st i x l) K := fun l hl hn =>
    h.set i (z := { x with pend := l }) ⟨ho.sn, ho.ps, hl, hn⟩ (h.rx x hm) st.failed
  have hpr := ho.pr
  unfold Go.Proofs.YtmiipkaobloedaaGreat.againP
  cases hl : x.pend with
  | nil => exact h
  | cons r rest =>
    obtain ⟨fr, e0⟩ := r
    rw [hl] at hpr hpl
    have hr := hpr (fr, e0) (by simp)
    dsimp only at hr
    have hb := goTo_bd (segFits x fr n) (e0 + 1 - fr) fr
    simp only [List.length_cons] at hpl
    dsimp only
    split
    · exact (key [] (by simp) (by simp)).finish c false
    · split
      · exact h
      · refine (key _ (fun q hq => ?_) ?_).finish c false
        · split at hq
          · exact hpr q (by simp [hq])
          · rcases List.mem_cons.1 hq with rfl | hq
            · dsimp only
              omega
            · exact hpr q (by simp [hq])
        · split
          · omega
          · simp only [List.length_cons]
            omega
theorem chunk_ok {st : Sd} {K : Nat} (_h : Bnd st K) (hi : InvV st) (n : Int) (hne : (chunkS n st).ps ≠ []) : OuOk (chunkS n st) := by
  obtain ⟨⟨d, h1, h2⟩, h3, h4⟩ := skip_spec st.queue st.taken hi.le
  have hne' : (chk n ((skipTo st.queue st.taken).1.length + 1) (skipTo st.queue st.taken).1 (skipTo st.queue st.taken).2 0 0 0 false).1 ≠ [] := hne
  have hpos : ∀ s ∈ (skipTo st.queue st.taken).1, 1 ≤ s.length := fun s hs => hi.pos s (by rw [h1]; simp [hs])
  have hv := chk_valid n ((skipTo st.queue st.taken).1.length + 1) (skipTo st.queue st.taken).1 (skipTo st.queue st.taken).2 false hpos h4 hne'
  exact ⟨by show nextP st ≤ 1023; unfold nextP; omega, hv, (by intro r hr; cases hr), by show (0 : Nat) ≤ 1000; omega⟩
theorem Bnd.fresh {st : Sd} {K : Nat} (h : Bnd st K) (hi : InvV st) (c : Cf) (n : Int) : Bnd (freshP c n st).1 (K + 1) := by
  unfold freshP
  split
  · exact h.mono (by omega)
  · split
    · exact h.mono (by omega)
    · rename_i hne
      have ho := chunk_ok h hi n hne
      have hs := ouOk_size ho
      have hx : (chunkS n st).retx = 0 := rfl
      dsimp only
      generalize chunkS n st = x at *
      refine Bnd.finish (st := addO st x) ⟨?_, ?_, ?_, h.held, h.sdu, h.pol, fun y hy => ?_, fun y hy => ?_, h.now0, h.now1⟩ c _
      · have := h.done
        show st.done ≤ _
        omega
      · have := h.pdus
        show st.pdus + 1 ≤ _
        omega
      · have := h.bytes
        show st.bytes + sizeO x ≤ _
        omega
      · simp only [addO, List.mem_append, List.mem_singleton] at hy
        rcases hy with hy | rfl
        · exact h.ou y hy
        · exact ho
      · simp only [addO, List.mem_append, List.mem_singleton] at hy
        rcases hy with hy | rfl
        · have := h.rx y hy
          omega
        · omega
end Go.Proofs.YtmiipkaobloedaaGreat
namespace Go.Proofs.YtmiipkaobloedaaGreat

theorem mergeP_in {l : List (Nat × Nat)} {x : Nat × Nat} {s : Nat} (h : ∀ r ∈ l, r.1 ≤ r.2 ∧ r.2 < s) (hx : x.1 ≤ x.2 ∧ x.2 < s) : (∀ r ∈ mergeP l x, r.1 ≤ r.2 ∧ r.2 < s) ∧ (mergeP l x).length ≤ l.length + 1 := by
  unfold mergeP
  cases hl : l.getLast? with
  | none => exact ⟨by simpa using hx, by simp⟩
  | some y =>
    have hy := h y (List.mem_of_getLast? hl)
    dsimp only
    split
    · rename_i e
      refine ⟨fun r hr => ?_, by simp⟩
      rcases List.mem_append.1 hr with hr | hr
      · exact h r (List.dropLast_subset l hr)
      · simp at hr
        rw [hr]
        dsimp only
        omega
    · refine ⟨fun r hr => ?_, by simp⟩
      rcases List.mem_append.1 hr with hr | hr
      · exact h r hr
      · simp at hr
        rw [hr]
        exact hx
theorem missP_in (nks : List Nk) {x : Ou} (hs : 1 ≤ sizeO x) : (∀ r ∈ missP nks x, r.1 ≤ r.2 ∧ r.2 < sizeO x) ∧ (missP nks x).length ≤ nks.length := by
  have hf : (nks.filter (fun n => decide (n.sn = (x.sn : Int)))).length ≤ nks.length := List.length_filter_le _ _
  have key : ∀ (l : List Nk) (a : List (Nat × Nat)), (∀ r ∈ a, r.1 ≤ r.2 ∧ r.2 < sizeO x) → (∀ r ∈ l.foldl (missStep (sizeO x)) a, r.1 ≤ r.2 ∧ r.2 < sizeO x) ∧ (l.foldl (missStep (sizeO x)) a).length ≤ a.length + l.length := by
    intro l
    induction l with
    | nil => intro a ha; exact ⟨by simpa using ha, by simp⟩
    | cons n r ih =>
      intro a ha
      have h1 : (∀ q ∈ missStep (sizeO x) a n, q.1 ≤ q.2 ∧ q.2 < sizeO x) ∧ (missStep (sizeO x) a n).length ≤ a.length + 1 := by
        unfold missStep
        split
        · exact ⟨ha, by omega⟩
        · exact mergeP_in ha (by dsimp only; omega)
      obtain ⟨i1, i2⟩ := ih _ h1.1
      rw [List.foldl_cons]
      refine ⟨i1, ?_⟩
      simp only [List.length_cons]
      omega
  obtain ⟨k1, k2⟩ := key (nks.filter (fun n => decide (n.sn = (x.sn : Int)))) [] (by simp)
  refine ⟨k1, ?_⟩
  unfold missP
  simp only [List.length_nil] at k2
  omega
theorem Bnd.adv {st : Sd} {K : Nat} (h : Bnd st K) : Bnd (advS st) (K + 1) := by
  obtain ⟨⟨d, h1, h2, h3, h4⟩, h5⟩ := advOut_spec st.out
  obtain ⟨⟨q, g1, g2, g3, g4⟩, g5⟩ := advQ_spec st.queue (st.front + (advOut st.out).2.1)
  have hql := queue_len (fun s hs => (h.sdu s hs).1)
  have hhe := h.held
  unfold heldP at hhe
  have hsum : sumLen st.queue = sumLen q + sumLen (advQ st.queue (st.front + (advOut st.out).2.1)).2.2.2 := by
    conv => lhs; rw [g1]
    rw [sumL_app]
  have hlen : q.length ≤ st.queue.length := by
    conv => rhs; rw [g1]
    simp
  have hmem : ∀ x, x ∈ (advS st).out → x ∈ st.out := fun x hx => by
    have e : (advS st).out = (advOut st.out).2.2 := rfl
    rw [h1, ← e]
    simp [hx]
  refine ⟨?_, ?_, ?_, ?_, fun s hs => ?_, h.pol, fun x hx => h.ou x (hmem x hx), fun x hx => ?_, h.now0, h.now1⟩
  · have := h.done
    show st.done + (advQ st.queue (st.front + (advOut st.out).2.1)).1 ≤ _
    omega
  · have := h.pdus
    show st.pdus ≤ _
    omega
  · have := h.bytes
    show st.bytes ≤ _
    omega
  · show sumLen (advQ st.queue (st.front + (advOut st.out).2.1)).2.2.2 ≤ _
    omega
  · refine h.sdu s ?_
    rw [g1]
    exact List.mem_append_right _ hs
  · have := h.rx x (hmem x hx)
    omega
theorem Bnd.statOut {st : Sd} {K : Nat} (h : Bnd st K) (c : Cf) (m : Ou → List (Nat × Nat)) (n : Nat) (hm : ∀ x ∈ st.out, (∀ r ∈ m x, r.1 ≤ r.2 ∧ r.2 < sizeO x) ∧ (m x).length ≤ 1000) (b w : Bool) :
    Bnd { st with out := (statOut c m n st.out).1, failed := b, wait := w } (K + 1) := by
  have hone : ∀ x ∈ st.out, OuOk (statOne c m x).1 ∧ (statOne c m x).1.retx ≤ K + 1 := fun x hx => by
    have ho := h.ou x hx
    have hr := h.rx x hx
    unfold statOne
    split
    · exact ⟨ho, by dsimp only; omega⟩
    · split
      · exact ⟨⟨ho.sn, ho.ps, by simp, by simp⟩, by dsimp only; omega⟩
      · exact pend_ok c ho hr (hm x hx).1 (hm x hx).2
  refine ⟨?_, ?_, ?_, h.held, h.sdu, h.pol, fun y hy => ?_, fun y hy => ?_, h.now0, h.now1⟩
  · have := h.done
    show st.done ≤ _
    omega
  · have := h.pdus
    show st.pdus ≤ _
    omega
  · have := h.bytes
    show st.bytes ≤ _
    omega
  · obtain ⟨x, hx, rfl | rfl⟩ := statOut_mem c m n _ y hy
    · exact h.ou _ hx
    · exact (hone x hx).1
  · obtain ⟨x, hx, rfl | rfl⟩ := statOut_mem c m n _ y hy
    · have := h.rx _ hx
      omega
    · exact (hone x hx).2
theorem Bnd.stat {st : Sd} {K : Nat} (h : Bnd st K) (c : Cf) (m : Ou → List (Nat × Nat)) (n : Nat) (hm : ∀ x ∈ st.out, (∀ r ∈ m x, r.1 ≤ r.2 ∧ r.2 < sizeO x) ∧ (m x).length ≤ 1000) : Bnd (statS c m n st) (K + 3) := by
  have h2 := (h.statOut c m n hm (st.failed || (Go.Proofs.YtmiipkaobloedaaGreat.statOut c m n st.out).2) (st.wait && decide (n ≤ placeS st st.polled))).adv
  unfold statS
  dsimp only
  split
  · exact h2.repeats c
  · exact h2.mono (by omega)
theorem validSt_len {ack : Int} {l : List Nk} (h : validSt ack l = true) : l.length ≤ 512 ∧ 0 ≤ ack ∧ ack ≤ 1023 := by
  simp only [validSt, Bool.and_eq_true, decide_eq_true_eq] at h
  omega
theorem Bnd.status {st : Sd} {K : Nat} (h : Bnd st K) (c : Cf) {now : Int} (hn : now ≤ 9223372036854775807) (ack : Int) (nks : List Nk) : Bnd (statusS c st now ack nks).1 (K + 3) := by
  have h1 := h.clock hn
  unfold statusS
  split
  · exact h.mono (by omega)
  · rename_i hv
    split
    · exact h1.mono (by omega)
    · refine h1.stat c (missP nks) _ fun x hx => ?_
      have ho := ouOk_size (h1.ou x hx)
      have hl := validSt_len (by simpa using hv)
      obtain ⟨m1, m2⟩ := missP_in nks ho.1
      exact ⟨m1, by omega⟩
theorem Bnd.grant {st : Sd} {K : Nat} (h : Bnd st K) (hi : Inv35 st) (c : Cf) {now : Int} (hn : now ≤ 9223372036854775807) (n : Int) : Bnd (grantS c st now n).1 (K + 2) := by
  have h1 := h.tick c hn
  have hi1 := hi.tick c now
  unfold grantS
  split
  · exact h1.mono (by omega)
  · cases hp : pendAt (tickS c st now).out with
    | some i =>
      obtain ⟨x, hx, _⟩ := pendAt_some hp
      simp only [hx]
      exact (h1.again c n i hx).mono (by omega)
    | none =>
      have h2 := h1.fresh hi1.toInvV c n
      dsimp only
      generalize freshP c n (tickS c st now) = R at *
      obtain ⟨s2, _ | ⟨x, b⟩⟩ := R
      · exact h2
      · exact h2
/-- any call of the law -/
theorem Bnd.act {st : Sd} {K : Nat} (h : Bnd st K) (hi : Inv35 st) (c : Cf) (hc : c.cap ≤ 1048576) (x : ActS) (hn : x.now ≤ 9223372036854775807) : Bnd (actR c st x) (K + 3) := by
  unfold actR
  split
  · unfold submitR
    split
    · exact h.mono (by omega)
    · split
      · exact h.mono (by omega)
      · split
        · exact h.mono (by omega)
        · exact (h.submit (by omega) (by omega) (by omega)).mono (by omega)
  · split
    · unfold grantR
      split
      · exact h.mono (by omega)
      · split
        · exact h.mono (by omega)
        · exact (h.grant hi c hn x.n).mono (by omega)
    · split
      · unfold statusR
        split
        · exact h.mono (by omega)
        · exact h.status c hn x.ack x.nks
      · unfold tickR
        split
        · exact h.mono (by omega)
        · exact (h.tick c hn).mono (by omega)
end Go.Proofs.YtmiipkaobloedaaGreat
