/- law32: UmrecvOrder's search (plain). -/
namespace Go.Proofs.Ytchlbpfeiamieaa
/-- what lies behind the first x -/
def seek (x : List UInt8) : List (List UInt8) → Option (List (List UInt8))
  | [] => none
  | y :: r => if y = x then some r else seek x r
def greedy : List (List UInt8) → List (List UInt8) → Bool
  | _, [] => true
  | s, x :: g => match seek x s with
    | none => false
    | some r => greedy r g
theorem seek_some {x : List UInt8} {g : List (List UInt8)} : ∀ {s : List (List UInt8)}, (x :: g).Sublist s → ∃ r, seek x s = some r ∧ g.Sublist r
  | [], h => by cases h
  | y :: s, h => by
    unfold seek
    by_cases e : y = x
    · rw [if_pos e]
      subst e
      exact ⟨s, rfl, List.cons_sublist_cons.1 h⟩
    · rw [if_neg e]
      cases h with
      | cons _ h => exact seek_some h
      | cons_cons _ h => exact absurd rfl e
theorem greedy_of : ∀ {g s : List (List UInt8)}, g.Sublist s → greedy s g = true
  | [], _, _ => rfl
  | x :: g, s, h => by
    obtain ⟨r, e, hr⟩ := seek_some h
    unfold greedy
    rw [e]
    exact greedy_of hr
end Go.Proofs.Ytchlbpfeiamieaa
