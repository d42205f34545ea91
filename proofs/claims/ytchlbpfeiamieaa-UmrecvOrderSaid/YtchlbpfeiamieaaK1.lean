/- Plain mathematics: the law of a transmitter: what its loops hold. -/
import Derived.Test.YtchlbpfeiamieaaK0
namespace Go.Proofs.Ytchlbpfeiamieaa

/-- the parts from k on, joined: what is known behind k rounds -/
def JoinAt (op : List UInt8) (sm : Bool) (ps : List (List UInt8)) (e : Bool) (k : Nat) (g : List (List UInt8)) (opk : List UInt8) (smk : Bool) : Prop :=
  joinG op sm ps e = (g ++ (joinG opk smk (ps.drop k) e).1, (joinG opk smk (ps.drop k) e).2)
theorem joinAt_zero (op : List UInt8) (sm : Bool) (ps : List (List UInt8)) (e : Bool) : JoinAt op sm ps e 0 [] op sm := by simp [JoinAt]
theorem joinAt_end {op : List UInt8} {sm : Bool} {ps : List (List UInt8)} {e : Bool} {k : Nat} {g : List (List UInt8)} {opk : List UInt8} {smk : Bool} (h : JoinAt op sm ps e k g opk smk) (hk : ps.length ≤ k) : joinG op sm ps e = (g, opk, smk) := by
  rw [h, List.drop_eq_nil_of_le hk]
  simp [joinG]
theorem joinAt_cut {op : List UInt8} {sm : Bool} {ps : List (List UInt8)} {e : Bool} {k : Nat} {g : List (List UInt8)} {opk : List UInt8} {smk : Bool} (h : JoinAt op sm ps e k g opk smk) {p : List UInt8} (hp : ps[k]? = some p) (hc : k + 1 < ps.length ∨ e = true) :
    JoinAt op sm ps e (k + 1) (g ++ [opk ++ p]) [] false := by
  have hlt : k < ps.length := (List.getElem?_eq_some_iff.1 hp).1
  have hd : ps.drop k = p :: ps.drop (k + 1) := by
    rw [List.drop_eq_getElem_cons hlt]
    rw [List.getElem?_eq_getElem hlt] at hp
    cases hp
    rfl
  unfold JoinAt at h ⊢
  rw [h, hd]
  rcases hd1 : ps.drop (k + 1) with _ | ⟨q, r⟩
  · have : ps.length ≤ k + 1 := List.drop_eq_nil_iff.1 hd1
    rcases hc with hc | rfl
    · omega
    · simp [joinG]
  · simp [joinG]
theorem joinAt_open {op : List UInt8} {sm : Bool} {ps : List (List UInt8)} {k : Nat} {g : List (List UInt8)} {opk : List UInt8} {smk : Bool} (h : JoinAt op sm ps false k g opk smk) {p : List UInt8} (hp : ps[k]? = some p) (hc : ps.length ≤ k + 1) :
    JoinAt op sm ps false (k + 1) g (opk ++ p) true := by
  have hlt : k < ps.length := (List.getElem?_eq_some_iff.1 hp).1
  have hd : ps.drop k = p :: ps.drop (k + 1) := by
    rw [List.drop_eq_getElem_cons hlt]
    rw [List.getElem?_eq_getElem hlt] at hp
    cases hp
    rfl
  unfold JoinAt at h ⊢
  rw [h, hd, List.drop_eq_nil_of_le hc]
  simp [joinG]

/-- what holds between the calls: the submitted SDUs are those that came, and those that are left; the open one is the head of the first of these -/
structure LawAt (sdus got : List (List UInt8)) (op : List UInt8) (sm : Bool) (left : List (List UInt8)) (sent : Nat) : Prop where
  all : sdus = got ++ left
  op : op = (left.headD []).take sent
  sm : sm = decide (0 < sent)
  pos : ∀ s ∈ left, 1 ≤ s.length
  lt : ∀ x r, left = x :: r → sent < x.length
  z : left = [] → sent = 0
theorem lawAt_nil : LawAt [] [] [] false [] 0 := ⟨rfl, rfl, rfl, by simp, by simp, fun _ => rfl⟩
theorem LawAt.put {sdus got left : List (List UInt8)} {op : List UInt8} {sm : Bool} {sent : Nat} (h : LawAt sdus got op sm left sent) {x : List UInt8} (hx : 1 ≤ x.length) : LawAt (sdus ++ [x]) got op sm (left ++ [x]) sent := by
  cases left with
  | nil =>
    have hz := h.z rfl
    refine ⟨by rw [h.all]; simp, ?_, h.sm, by simpa using hx, fun y r hy => ?_, by simp⟩
    · rw [h.op, hz]; simp
    · simp at hy
      obtain ⟨rfl, _⟩ := hy
      omega
  | cons a r =>
    refine ⟨by rw [h.all]; simp, by simpa using h.op, h.sm, fun s hs => ?_, fun y q hy => ?_, by simp⟩
    · rw [List.mem_append] at hs
      rcases hs with hs | hs
      · exact h.pos s hs
      · simp at hs; rw [hs]; exact hx
    · simp at hy
      obtain ⟨rfl, _⟩ := hy
      exact h.lt a r rfl
theorem LawAt.grant {sdus got left : List (List UInt8)} {op : List UInt8} {sm : Bool} {sent : Nat} (h : LawAt sdus got op sm left sent) {R : List (List UInt8) × Bool × List (List UInt8) × Nat} (hR : ChkOk left sent false R) (hne : R.1 ≠ []) :
    ∃ g op' sm', joinG op sm R.1 R.2.1 = (g, op', sm') ∧ LawAt sdus (got ++ g) op' sm' R.2.2.1 R.2.2.2 := by
  obtain ⟨g, hg1, hg2⟩ := hR.some_ hne
  refine ⟨g, _, _, by rw [h.op, h.sm]; exact hg2, ⟨by rw [h.all, hg1]; simp, rfl, rfl, fun s hs => h.pos s (by rw [hg1]; simp [hs]), hR.lt_, hR.z_⟩⟩
theorem LawAt.le {sdus got left : List (List UInt8)} {op : List UInt8} {sm : Bool} {sent : Nat} (h : LawAt sdus got op sm left sent) : got.length + left.length = sdus.length := by rw [h.all]; simp
theorem LawAt.got {sdus got left : List (List UInt8)} {op : List UInt8} {sm : Bool} {sent : Nat} (h : LawAt sdus got op sm left sent) (i : Nat) (hi : i < got.length) : got[i]? = sdus[i]? := by rw [h.all, List.getElem?_append_left hi]
theorem LawAt.open_ {sdus got left : List (List UInt8)} {op : List UInt8} {sm : Bool} {sent : Nat} (h : LawAt sdus got op sm left sent) (hs : sm = true) :
    got.length < sdus.length ∧ ∃ x, sdus[got.length]? = some x ∧ op.length < x.length ∧ x.take op.length = op := by
  have h0 : 0 < sent := by have := h.sm; rw [hs] at this; simpa using this.symm
  cases left with
  | nil => have := h.z rfl; omega
  | cons x r =>
    have hl := h.le
    have hlt := h.lt x r rfl
    have ho : op = x.take sent := by simpa using h.op
    have hol : op.length = sent := by rw [ho, List.length_take]; omega
    refine ⟨by simp at hl; omega, x, by rw [h.all]; simp, by omega, by rw [hol, ho]⟩
end Go.Proofs.Ytchlbpfeiamieaa
