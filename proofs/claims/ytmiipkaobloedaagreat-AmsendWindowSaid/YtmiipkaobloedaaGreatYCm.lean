/- law35: AmsendWindow's plain steps. -/
import Derived.Test.YtmiipkaobloedaaGreatYN4
import Derived.Test.YtmiipkaobloedaaGreatZa
import Derived.Test.YtmiipkaobloedaaGreatZc
import Derived.Test.YtmiipkaobloedaaGreatZg
namespace Go.Proofs.YtmiipkaobloedaaGreat
theorem Wd.submitR {st : Sd} (h : Wd st) (c : Cf) (x : List UInt8) : Wd (submitR c st x).1 ∧ (submitR c st x).1.out = st.out := by
  unfold Go.Proofs.YtmiipkaobloedaaGreat.submitR
  split
  · exact ⟨h, rfl⟩
  · split
    · exact ⟨h, rfl⟩
    · split
      · exact ⟨h, rfl⟩
      · exact ⟨h.submit (by omega), rfl⟩
theorem puB_len (p : Pu) : 0 < (puB (some p)).length := by
  unfold puB
  rw [encA_length]
  unfold nbytes
  split <;> omega
theorem Wd.grantR {st : Sd} (h : Wd st) (c : Cf) (n : Int) (hn : 0 ≤ n) (ht : 1 ≤ c.timer ∧ c.timer ≤ 1048576) :
    Wd (grantR c st 0 n).1 ∧ (grantR c st 0 n).2.2 = 0 ∧ (grantR c st 0 n).1.out.length = st.out.length + (if 0 < (puB (grantR c st 0 n).2.1).length then 1 else 0) := by
  obtain ⟨g1, g2, g3⟩ := h.grant c n ht
  unfold Go.Proofs.YtmiipkaobloedaaGreat.grantR
  rw [if_neg (by rw [h.fl]; simp), if_neg (by omega)]
  dsimp only
  refine ⟨g1, by rw [g2]; rfl, ?_⟩
  rw [g3]
  cases (grantS c st 0 n).2.1 with
  | none => simp [puB]
  | some p =>
    have := puB_len p
    rw [if_pos (show (some p).isSome = true from rfl), if_pos this]
theorem Wd.next {st : Sd} (h : Wd st) : nextP st = st.out.length := by
  have := h.inv.w
  have := h.f
  unfold nextP
  omega
/-- everything is reported as received -/
theorem Wd.last {st : Sd} (h : Wd st) (c : Cf) (k : Nat) (hk : st.out.length = k) : (statusR c st 1 (k : Int) []).2 = 0 ∧ (statusR c st 1 (k : Int) []).1.first = k ∧ (statusR c st 1 (k : Int) []).1.out = [] ∧
    (statusR c st 1 (k : Int) []).1.wait = false ∧ bufP (statusR c st 1 (k : Int) []).1 = bufP st := by
  subst hk
  obtain ⟨s1, s2, s3, s4, s5, s6⟩ := h.stat c
  have hw := h.inv.w
  have hf := h.f
  have hv : validSt (st.out.length : Int) [] = true := by
    unfold validSt chainP
    simp
    omega
  have hp : placeI st (st.out.length : Int) = (st.out.length : Int) := by
    unfold placeI
    rw [hf]
    omega
  have hb : pendB st.out = 0 := by
    have key : ∀ l : List Ou, (∀ x ∈ l, x.pend = []) → pendB l = 0 := by
      intro l
      induction l with
      | nil => intro _; rfl
      | cons x r ih =>
        intro hx
        have := ih fun y hy => hx y (by simp [hy])
        have e := hx x (by simp)
        unfold pendB at this ⊢
        rw [List.map_cons, List.sum_cons, this, e]
        rfl
    exact key _ fun x hx => (h.out x hx).2
  unfold statusR
  rw [if_neg (by rw [h.fl]; simp)]
  unfold statusS
  rw [hv, if_neg (by simp), if_neg (by rw [hp]; simp), hp]
  dsimp only
  have e : missP [] = fun _ => [] := by funext x; rfl
  rw [e, Int.toNat_natCast]
  refine ⟨by rw [s4]; rfl, s2, s1, s3, ?_⟩
  unfold bufP
  rw [s1, hb, s5]
  rfl
end Go.Proofs.YtmiipkaobloedaaGreat
