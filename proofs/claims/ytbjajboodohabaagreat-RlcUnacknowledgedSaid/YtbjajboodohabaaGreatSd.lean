/- append onto a slice without room: a new row. -/
import Derived.Test.YtbjajboodohabaaGreatBa
import Derived.ArgAppend
namespace Go.Proofs.YtbjajboodohabaaGreat
open Go.RowKit
section
variable {P : Program} (w : World)
theorem run_append_full (lo : Nat) (t ty e : TypeId) (i : TypeInfo) (z : Value) (bytes : Nat) (ht : P.underlying t = some (.slice e)) (hi : P.info? e = some i) (hz : i.zero = some z)
    (hsize : i.size = 1) (hby : i.bytes = bytes) (hzs : z.cells.size = 1) (A : Option Addr) (n c : Nat) (xs : List Value) (hown : w.ownsRow lo e 1 (.slice A n c) n xs)
    (B : Nat) (A2 : Option Addr) (m c2 : Nat) (news : List Value) (hr : Sl w B A2 m c2 news) (hm : 1 ≤ m) (h1 : ∀ u ∈ news, u.oneCell' = true) (h63 : n + m ≤ maxLen) (hbytes : (n + m) * bytes ≤ 140737488355328) :
    ∃ v' w', (Builtin.append_ #[t, t] ty #[.slice A n n, .slice A2 m c2]).run P w = .ok v' w' ∧ w'.ownsRow w.heap.size e 1 v' (n + m) (xs ++ news) ∧ w.grownBy w' none := by
  obtain ⟨ad, rfl, _, hcl⟩ := hr.at_ hm
  rcases hown.2 with ⟨e1, h0⟩ | ⟨g, cap, cur, e1, hb, hg, hnc, hcm, hcs, ht'⟩
  · cases e1
    clear h0
    have hx : xs = [] := List.eq_nil_of_length_eq_zero (by simpa using hown.1)
    subst hx
    obtain ⟨v', w', hr', h2, h3, _⟩ := run_append_own (P := P) w w.heap.size t ty e i z 1 bytes ht hi hz hsize hby hzs (by omega) (.slice none 0 0) 0 [] (World.ownsRow_nil _ _ _ _) ad m c2 news (by rw [hr.len]; omega) hcl h1 h63 hbytes (Nat.le_refl _)
    exact ⟨v', w', hr', h2, h3⟩
  · cases e1
    obtain ⟨v', w', hr', h2, h3⟩ := run_append_arg_grows (P := P) w t ty e i z 1 bytes ht hi hz hsize hby hzs (by omega) ⟨g, 0, none⟩ n n xs (by simpa using hown.1) (fun j u hu => hown.cells (g := g) rfl j u hu) ad m c2 news (by rw [hr.len]; omega) hcl (by omega) h63 hbytes
    exact ⟨v', w', hr', h2, h3⟩
theorem step_append_full {ops : Array Oper} {o : Oper} {a : Act} {K : Act → World → Prop} {Q : Exit → Act → World → Prop} {E : Prop} (hgd : o.guard = none) (s x : Operand) (t : TypeId)
    (ho : o.op = .call { callee := .builtin .append, args := #[s, x], argTypes := #[t, t] }) (lo : Nat) (e : TypeId) (i : TypeInfo) (z : Value) (bytes : Nat) (ht : P.underlying t = some (.slice e)) (hi : P.info? e = some i) (hz : i.zero = some z)
    (hsize : i.size = 1) (hby : i.bytes = bytes) (hzs : z.cells.size = 1) (A : Option Addr) (n c : Nat) (xs : List Value) (hs : a.eval s = .slice A n n) (hown : w.ownsRow lo e 1 (.slice A n c) n xs)
    (B : Nat) (A2 : Option Addr) (m c2 : Nat) (news : List Value) (hx : a.eval x = .slice A2 m c2) (hr : Sl w B A2 m c2 news) (hm : 1 ≤ m) (h1 : ∀ u ∈ news, u.oneCell' = true) (h63 : n + m ≤ maxLen) (hbytes : (n + m) * bytes ≤ 140737488355328)
    (h : ∀ v' w', w'.ownsRow w.heap.size e 1 v' (n + m) (xs ++ news) → w.grownBy w' none → K (a.put o.dst v') w') :
    if Region.wanted o (yielded ops a.tmps) = true then Oper.wp P o a w K Q else E := by
  have hw : Region.wanted o (yielded ops a.tmps) = true := by simp [Region.wanted, hgd]
  rw [if_pos hw]
  obtain ⟨v', w', hrun, h2, h3⟩ := run_append_full (P := P) w lo t o.type e i z bytes ht hi hz hsize hby hzs A n c xs hown B A2 m c2 news hr hm h1 h63 hbytes
  unfold Oper.wp execOp
  simp only [ho, resolve, invoke, builtin, Sem.run_bind, Sem.run_pure, Result.andThen_ok, List.map_toArray, List.map_cons, List.map_nil, hs, hx, hrun]
  exact h v' w' h2 h3
/-- a row of one type stays while a row of another one is appended to -/
theorem own_grown_ne {w' : World} {b1 b2 : Nat} {e1 e2 : TypeId} {v1 v2 : Value} {n1 n2 : Nat} {xs1 xs2 : List Value} (h : w.ownsRow b1 e1 1 v1 n1 xs1) (h2 : w.ownsRow b2 e2 1 v2 n2 xs2) (hne : e1 ≠ e2) (hg : w.grownBy w' v2.ownBlock) : w'.ownsRow b1 e1 1 v1 n1 xs1 := by
  refine h.kept hg ?_
  rcases hvb : v1.ownBlock with _ | j
  · exact .inl rfl
  · refine .inr (fun e => ?_)
    obtain ⟨o, ho, ⟨cs, fr, rfl⟩, _⟩ := own_isRow h hvb
    obtain ⟨o2, ho2, ⟨cs2, fr2, rfl⟩, _⟩ := own_isRow h2 e.symm
    rw [ho] at ho2
    cases ho2
    exact hne rfl
end
end Go.Proofs.YtbjajboodohabaaGreat
