/- PROVED: 'Rows.RlcUnacknowledgedSaid': the law's Go text answers true for every input. -/
import Derived.Test.YtbjajboodohabaaGreatRows
import Derived.Test.YtbjajboodohabaaGreatE9
import Derived.Test.YtbjajboodohabaaGreatEa
namespace Go.Proofs.YtbjajboodohabaaGreat
open Go.ChangeShapes Go.WideShapes Go.ChangeAt Go.RowKit Go.Deep Go.Joins

set_option maxRecDepth 100000 in
theorem rlcUnacknowledged_lifted (os : Os) (started : os.Started) (H : Type) (enc : TypeId × Value → H) :
    ReturnsInHanded {} Tryz.checked os 3 .any (Rows.rlcUnacknowledgedSpec.pre6 enc Tryz.prog Tryz.f3 Rows.rlcUnacknowledgedRow.domain false) (Rows.rlcUnacknowledgedSpec.post enc Tryz.prog Tryz.f3 false true false false) := by
  refine returnsInHanded_of_change_sized (C := Tryz.checked) Tm.ownKnobsQ started (by kernel_rfl) Tryz.func3
    (ChangeSpec.witness6 (enc := enc) (C := Tryz.checked) false ⟨#[], #[.int .i64 0, .int .i64 0, .slice none 0 0], []⟩ 8 (by kernel_rfl) (by kernel_rfl) (by kernel_rfl) (by kernel_rfl)) ?_
  intro W base args ds gs before hval0 hW hcnd hsz0 _
  have hsz1 : (DataW.weightsEach Tryz.prog (Tryz.f3.params.toList ++ Rows.rlcUnacknowledgedSpec.plain.varTypes Tryz.prog) (ds ++ gs)).all (· ≤ reachBytes) = true := hsz0
  have hval : ∀ (j : Nat) t v, Tryz.f3.params[j]? = some t → args[j]? = some v → Value.okWide Tryz.prog W .any base t v := hval0
  have hW' := hW
  obtain ⟨p, q, hA0, hV, rfl, hfz, hnd⟩ := hW
  have hA : DataW.TrodAll enc Tryz.prog W 0 (fun _ => true) true Tryz.f3.params.toList args.toList ds p := hA0
  rw [Tryz.params3] at hA hval hsz1
  obtain ⟨v0, v1, v2, d0, d1, d2, p0, p1, p2, rfl, rfl, rfl, h0, h1, h2⟩ := trodAll_three hA
  obtain ⟨rfl, rfl⟩ := trodVars_none hV
  have lt0 : ∀ x ∈ p0, x.block < W.heap.size := by obtain ⟨m, hm⟩ := h0; exact DataW.trod_lt m _ _ _ hm
  have k0 := h0
  have lt1 : ∀ x ∈ p1, x.block < W.heap.size := by obtain ⟨m, hm⟩ := h1; exact DataW.trod_lt m _ _ _ hm
  have k1 := h1
  have lt2 : ∀ x ∈ p2, x.block < W.heap.size := by obtain ⟨m, hm⟩ := h2; exact DataW.trod_lt m _ _ _ hm
  have k2 := h2
  obtain ⟨x0, rfl, _⟩ := Tm.open_i64 (hval 0 3 v0 rfl rfl) h0
  obtain ⟨x1, rfl, _⟩ := Tm.open_i64 (hval 1 3 v1 rfl rfl) h1
  have hw : ∀ m ∈ d2.weights Tryz.prog 22, m ≤ 140737488351232 := fun m hm =>
    of_decide_eq_true (List.all_eq_true.1 hsz1 m (DataW.weights_mem_each (j := 2) (t := 22) rfl rfl m hm))
  obtain ⟨A2, n2, c2, l2, rfl, hs2, hb2⟩ := Tm.open_stepsw (hval 2 22 v2 rfl rfl) h2 hw
  clear hA0 hval0
  refine (rlcUnack_all x0 x1 A2 n2 c2 l2 W hs2 (fun y hy => (hb2 y hy).1) (fun y hy => (hb2 y hy).2)).mono fun e W' ⟨he, bel⟩ => ?_
  subst he
  exact ⟨_, rfl, _, _, _, [], _, [], hW', trodAll_mk1 (shut_bool Tryz.underlying4 _), (trodAll_cons_mk (Below.trod Tm.laidWholeQ (by kernel_rfl) (of_decide_eq_true (by kernel_rfl)) k0 bel lt0) (trodAll_cons_mk (Below.trod Tm.laidWholeQ (by kernel_rfl) (of_decide_eq_true (by kernel_rfl)) k1 bel lt1) (trodAll_cons_mk (Below.trod Tm.laidWholeQ (by kernel_rfl) (of_decide_eq_true (by kernel_rfl)) k2 bel lt2) trodAll_mk0))), rfl, bel.frame _, fun h => by cases h⟩

theorem rlcUnacknowledged_over : Rows.rlcUnacknowledgedRow.holds Tryz.pinned (OpenSpec.ofChange Rows.rlcUnacknowledgedSpec) :=
  OpenClaim.holds_of_wide 3 Tryz.f3 rfl rfl rfl rfl rfl rfl rfl ⟨rfl, rfl, rfl, rfl, rfl⟩ rfl rfl rfl rfl rfl (by kernel_rfl) Tryz.func3 (by kernel_rfl)
    (of_decide_eq_true (by kernel_rfl)) (by unfold Func.isWrapper; first | (rw [if_pos (by decide +kernel)]; kernel_rfl) | (rw [if_neg (by decide +kernel)]; exact ⟨rfl, rfl⟩))
    (fun os started H enc _ => rlcUnacknowledged_lifted os started H enc)

theorem rlcUnacknowledged_proved : Rows.RlcUnacknowledgedSaid := rlcUnacknowledged_over
#print axioms rlcUnacknowledged_proved
end Go.Proofs.YtbjajboodohabaaGreat
