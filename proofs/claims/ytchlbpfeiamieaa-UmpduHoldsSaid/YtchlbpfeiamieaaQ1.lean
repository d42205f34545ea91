/- PROVED: 'Rows.UmpduHoldsSaid' ('userplane/userplanelaw30.UmpduHolds'): the law's Go text answers true for every PDU and every row of bytes. -/
import Derived.Test.YtchlbpfeiamieaaRows
import Derived.Test.YtchlbpfeiamieaaP1
import Derived.Test.YtchlbpfeiamieaaO1
namespace Go.Proofs.Ytchlbpfeiamieaa
open Go.ChangeShapes Go.WideShapes Go.ChangeAt Go.RowKit

theorem ownKnobs7 : ownKnob Try.prog.godebug = none := by kernel_rfl
theorem laidWhole7 : laidOutB Try.prog = true := by kernel_rfl

set_option maxRecDepth 100000 in
theorem umpduHolds_lifted (os : Os) (started : os.Started) (H : Type) (enc : TypeId × Value → H) :
    ReturnsInHanded {} Try.checked os 7 .any (Rows.umpduHoldsSpec.pre6 enc Try.prog Try.f7 Rows.umpduHoldsRow.domain false) (Rows.umpduHoldsSpec.post enc Try.prog Try.f7 false true false false) := by
  refine returnsInHanded_of_change (C := Try.checked) ownKnobs7 started (by kernel_rfl) Try.func7
    (ChangeSpec.witness6 (enc := enc) (C := Try.checked) false ⟨#[], #[.agg #[.int .i64 0, .bool false, .bool false, .slice none 0 0], .slice none 0 0], []⟩ 8 (by kernel_rfl) (by kernel_rfl) (by kernel_rfl) (by kernel_rfl)) ?_
  intro W base args ds gs before hval0 hW hcnd _
  have hval : ∀ (j : Nat) t v, Try.f7.params[j]? = some t → args[j]? = some v → Value.okWide Try.prog W .any base t v := hval0
  have hW' := hW
  obtain ⟨p, q, hA0, hV, rfl, hfz, hnd⟩ := hW
  have hA : DataW.TrodAll enc Try.prog W 0 (fun _ => true) true Try.f7.params.toList args.toList ds p := hA0
  rw [Try.params7] at hA hval
  obtain ⟨v0, v1, d0, d1, p0, p1, rfl, rfl, rfl, h0, h1⟩ := trodAll_two hA
  obtain ⟨rfl, rfl⟩ := trodVars_none hV
  have lt0 : ∀ x ∈ p0, x.block < W.heap.size := by obtain ⟨m, hm⟩ := h0; exact DataW.trod_lt m _ _ _ hm
  have lt1 : ∀ x ∈ p1, x.block < W.heap.size := by obtain ⟨m, hm⟩ := h1; exact DataW.trod_lt m _ _ _ hm
  obtain ⟨sn, s, e, A, n, c, vs, ps, rfl, hsn, hs⟩ := open_umpdu (hval 0 26 v0 rfl rfl) h0
  obtain ⟨A', n', c', rfl⟩ := okWide_slice Try.underlying29 (hval 1 29 v1 rfl rfl)
  obtain ⟨bs, hs'⟩ : ∃ bs, Sl W W.heap.size A' n' c' (bvs bs) := by
    obtain ⟨fuel, hf⟩ := h1
    obtain ⟨A2, n2, c2, l, hv, hn, hh⟩ := open_bytes (by simpa [Value.cells] using hf)
    cases hv
    exact ⟨l, hh⟩
  clear hA0 hval0
  refine (umpduHolds_walk sn s e A n c vs ps A' n' c' bs W hsn hs hs').mono fun e W' ⟨he, bel⟩ => ?_
  subst he
  exact ⟨_, rfl, _, _, _, [], _, [], hW', trodAll_mk1 (shut_bool Try.underlying4 _), (trodAll_cons_mk (Below.trod laidWhole7 (by kernel_rfl) (of_decide_eq_true (by kernel_rfl)) h0 bel lt0) (trodAll_cons_mk (Below.trod laidWhole7 (by kernel_rfl) (of_decide_eq_true (by kernel_rfl)) h1 bel lt1) trodAll_mk0)), rfl, bel.frame _, fun h => by cases h⟩

theorem umpduHolds_over : Rows.umpduHoldsRow.holds Try.pinned (OpenSpec.ofChange Rows.umpduHoldsSpec) :=
  OpenClaim.holds_of_wide 7 Try.f7 rfl rfl rfl rfl rfl rfl rfl ⟨rfl, rfl, rfl, rfl, rfl⟩ rfl rfl rfl rfl rfl (by kernel_rfl) Try.func7 (by kernel_rfl)
    (of_decide_eq_true (by kernel_rfl)) (by unfold Func.isWrapper; first | (rw [if_pos (by decide +kernel)]; kernel_rfl) | (rw [if_neg (by decide +kernel)]; exact ⟨rfl, rfl⟩))
    (fun os started H enc _ => umpduHolds_lifted os started H enc)

theorem umpduHolds_proved : Rows.UmpduHoldsSaid := umpduHolds_over
#print axioms umpduHolds_proved
end Go.Proofs.Ytchlbpfeiamieaa
