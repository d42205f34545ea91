/-
  No cell of these rows narrows 'for every input' (looked for: loops, veiled, ifaces, maps, wideKeys, modest, calm, conditions, laid).
  DERIVED. THE GIVEN ROWS OF THIS SEAT. 6 by the template 'for every input the law returns true; each argument reads behind the call as it read before'; 0 by the template 'total and deterministic' (their statements: YtbhiklnljiehiaaGreatTotals.lean).
  GIVEN WITH THE SEED: the statements are not yours to turn. If you find one false, say at which input.
  Laid BY PROGRAM, IN A SANDBOX (cutbox-rows.mjs): the forced cells as the released guide's own fill.sh prints them over the translation f2fae4e630e976e0… (all of the seat's roots in one cut). By AI agents, Wed Nov 11 2026. No macro, syntax, notation, axiom, sorry.
-/
import Derived.Test.YtbhiklnljiehiaaGreatChecked
import GoSem.Claim
import GoSem.ClaimJoined
import GoSem.ClaimMapViews
import Derived.JoinedTies
import Derived.KernelRfl
namespace Go.Proofs.YtbhiklnljiehiaaGreat
/- THE CELL 'sum', in the pinned program and in every row, IS THE sha256 OF THE DUMP (.gsa) THAT YtbhiklnljiehiaaGreatProg.lean LOADS. Nothing in Lean hashes anything: it is a label: what it is worth is what the hold of that sum in a sandbox is worth. -/
noncomputable def Tryz.pinned : Pinned := { name := "ytbhiklnljiehiaagreat", sum := "f2fae4e630e976e0abd0306d55985fded0b3afa33e99fec7b6181ca32984a7c3", checked := Tryz.checked }
namespace Rows
def none {H : Type} : Left H := { results := [], args := [] }

/-- 'userplanelaw37.AmOnce': WHATEVER THE INPUT: true; the input reads as it did. -/
def amOnceSpec : ChangeSpec := { name := "amOnce", fn := fun _ => fun
  | [d1, d2] => { results := [.lit (.bool true)], args := [d1, d2] }
  | _ => none }
def amOnceRow : OpenClaim := { program := "ytbhiklnljiehiaagreat", sum := "f2fae4e630e976e0abd0306d55985fded0b3afa33e99fec7b6181ca32984a7c3", func := "userplane/userplanelaw37.AmOnce", spec := "amOnce", unfollowed := true, recurses := true, apart := false }
def AmOnceSaid : Prop := amOnceRow.holds Tryz.pinned (OpenSpec.ofChange amOnceSpec)

/-- ITS FALSE NEIGHBOUR: 'it returns false'. Refute it at one input. -/
def amOnceWrong : ChangeSpec := { name := "amOnce", fn := fun _ => fun
  | [d1, d2] => { results := [.lit (.bool false)], args := [d1, d2] }
  | _ => none }
def AmOnceWrongFalsely : Prop := amOnceRow.holds Tryz.pinned (OpenSpec.ofChange amOnceWrong)

/-- 'userplanelaw37.AmHolds': WHATEVER THE INPUT: true; the input reads as it did. -/
def amHoldsSpec : ChangeSpec := { name := "amHolds", fn := fun _ => fun
  | [d1, d2, d3] => { results := [.lit (.bool true)], args := [d1, d2, d3] }
  | _ => none }
def amHoldsRow : OpenClaim := { program := "ytbhiklnljiehiaagreat", sum := "f2fae4e630e976e0abd0306d55985fded0b3afa33e99fec7b6181ca32984a7c3", func := "userplane/userplanelaw37.AmHolds", spec := "amHolds", unfollowed := true, recurses := true, apart := false }
def AmHoldsSaid : Prop := amHoldsRow.holds Tryz.pinned (OpenSpec.ofChange amHoldsSpec)

/-- ITS FALSE NEIGHBOUR: 'it returns false'. Refute it at one input. -/
def amHoldsWrong : ChangeSpec := { name := "amHolds", fn := fun _ => fun
  | [d1, d2, d3] => { results := [.lit (.bool false)], args := [d1, d2, d3] }
  | _ => none }
def AmHoldsWrongFalsely : Prop := amHoldsRow.holds Tryz.pinned (OpenSpec.ofChange amHoldsWrong)

/-- 'userplanelaw37.AmNone': WHATEVER THE INPUT: true; the input reads as it did. -/
def amNoneSpec : ChangeSpec := { name := "amNone", fn := fun _ => fun
  | [d1, d2] => { results := [.lit (.bool true)], args := [d1, d2] }
  | _ => none }
def amNoneRow : OpenClaim := { program := "ytbhiklnljiehiaagreat", sum := "f2fae4e630e976e0abd0306d55985fded0b3afa33e99fec7b6181ca32984a7c3", func := "userplane/userplanelaw37.AmNone", spec := "amNone", unfollowed := true, recurses := true, apart := false }
def AmNoneSaid : Prop := amNoneRow.holds Tryz.pinned (OpenSpec.ofChange amNoneSpec)

/-- ITS FALSE NEIGHBOUR: 'it returns false'. Refute it at one input. -/
def amNoneWrong : ChangeSpec := { name := "amNone", fn := fun _ => fun
  | [d1, d2] => { results := [.lit (.bool false)], args := [d1, d2] }
  | _ => none }
def AmNoneWrongFalsely : Prop := amNoneRow.holds Tryz.pinned (OpenSpec.ofChange amNoneWrong)

/-- 'userplanelaw38.RlcOrder': WHATEVER THE INPUT: true; the input reads as it did. -/
def rlcOrderSpec : ChangeSpec := { name := "rlcOrder", fn := fun _ => fun
  | [d1, d2, d3] => { results := [.lit (.bool true)], args := [d1, d2, d3] }
  | _ => none }
def rlcOrderRow : OpenClaim := { program := "ytbhiklnljiehiaagreat", sum := "f2fae4e630e976e0abd0306d55985fded0b3afa33e99fec7b6181ca32984a7c3", func := "userplane/userplanelaw38.RlcOrder", spec := "rlcOrder", unfollowed := true, recurses := true, apart := false }
def RlcOrderSaid : Prop := rlcOrderRow.holds Tryz.pinned (OpenSpec.ofChange rlcOrderSpec)

/-- ITS FALSE NEIGHBOUR: 'it returns false'. Refute it at one input. -/
def rlcOrderWrong : ChangeSpec := { name := "rlcOrder", fn := fun _ => fun
  | [d1, d2, d3] => { results := [.lit (.bool false)], args := [d1, d2, d3] }
  | _ => none }
def RlcOrderWrongFalsely : Prop := rlcOrderRow.holds Tryz.pinned (OpenSpec.ofChange rlcOrderWrong)

/-- 'userplanelaw38.RlcAcknowledged': WHATEVER THE INPUT: true; the input reads as it did. -/
def rlcAcknowledgedSpec : ChangeSpec := { name := "rlcAcknowledged", fn := fun _ => fun
  | [d1, d2] => { results := [.lit (.bool true)], args := [d1, d2] }
  | _ => none }
def rlcAcknowledgedRow : OpenClaim := { program := "ytbhiklnljiehiaagreat", sum := "f2fae4e630e976e0abd0306d55985fded0b3afa33e99fec7b6181ca32984a7c3", func := "userplane/userplanelaw38.RlcAcknowledged", spec := "rlcAcknowledged", unfollowed := true, recurses := true, apart := false }
def RlcAcknowledgedSaid : Prop := rlcAcknowledgedRow.holds Tryz.pinned (OpenSpec.ofChange rlcAcknowledgedSpec)

/-- ITS FALSE NEIGHBOUR: 'it returns false'. Refute it at one input. -/
def rlcAcknowledgedWrong : ChangeSpec := { name := "rlcAcknowledged", fn := fun _ => fun
  | [d1, d2] => { results := [.lit (.bool false)], args := [d1, d2] }
  | _ => none }
def RlcAcknowledgedWrongFalsely : Prop := rlcAcknowledgedRow.holds Tryz.pinned (OpenSpec.ofChange rlcAcknowledgedWrong)

/-- 'userplanelaw38.RlcCopies': WHATEVER THE INPUT: true; the input reads as it did. -/
def rlcCopiesSpec : ChangeSpec := { name := "rlcCopies", fn := fun _ => fun
  | [d1, d2, d3] => { results := [.lit (.bool true)], args := [d1, d2, d3] }
  | _ => none }
def rlcCopiesRow : OpenClaim := { program := "ytbhiklnljiehiaagreat", sum := "f2fae4e630e976e0abd0306d55985fded0b3afa33e99fec7b6181ca32984a7c3", func := "userplane/userplanelaw38.RlcCopies", spec := "rlcCopies", unfollowed := true, recurses := true, apart := false }
def RlcCopiesSaid : Prop := rlcCopiesRow.holds Tryz.pinned (OpenSpec.ofChange rlcCopiesSpec)

/-- ITS FALSE NEIGHBOUR: 'it returns false'. Refute it at one input. -/
def rlcCopiesWrong : ChangeSpec := { name := "rlcCopies", fn := fun _ => fun
  | [d1, d2, d3] => { results := [.lit (.bool false)], args := [d1, d2, d3] }
  | _ => none }
def RlcCopiesWrongFalsely : Prop := rlcCopiesRow.holds Tryz.pinned (OpenSpec.ofChange rlcCopiesWrong)

/- THE SECOND FORM. 'bulk': how many values and letters a reading holds, each counted each time it is reached (what is shared counts as often as it is met; a slice's spare places count too). A statement '..UptoSaid' is the law's where the arguments, and the package variables that the reading takes, are together of bulk at most 1048576: NARROWER than '..Said'. Prove '..Said' where nothing that the law and all that it calls make is longer than what came in: it says more and counts as full. Else prove '..UptoSaid'. A law counts once. -/
mutual
def uptoBulk {H : Type} : DataW H → Nat
  | .lit (.string bytes) => bytes.length + 1
  | .lit _ => 1
  | .nil => 1
  | .ptr d => uptoBulk d + 1
  | .slice elems spare => uptoBulkAll elems + uptoBulkAll spare + 1
  | .agg parts => uptoBulkAll parts + 1
  | .iface _ d => uptoBulk d + 1
  | .map entries => uptoBulkEntries entries + 1
  | .held _ => 1
def uptoBulkAll {H : Type} : List (DataW H) → Nat
  | [] => 0
  | d :: r => uptoBulk d + uptoBulkAll r
def uptoBulkEntries {H : Type} : List (Lit × DataW H) → Nat
  | [] => 0
  | x :: r => uptoBulkEntry x + uptoBulkEntries r
def uptoBulkEntry {H : Type} : Lit × DataW H → Nat
  | (.string bytes, d) => bytes.length + uptoBulk d + 1
  | (_, d) => uptoBulk d + 1
 end
def uptoSmall : (H : Type) → List (DataW H) → Bool := fun _ ds => decide (uptoBulkAll ds ≤ 1048576)
def OpenSpec.upto (s : _root_.Go.ChangeSpec) : _root_.Go.OpenSpec := { _root_.Go.OpenSpec.ofChange s with cond := some uptoSmall }

/-- 'userplanelaw37.AmOnce', WHERE WHAT IT READS IS OF BULK AT MOST 1048576: true; the input reads as it did. -/
def amOnceUptoRow : OpenClaim := { program := "ytbhiklnljiehiaagreat", sum := "f2fae4e630e976e0abd0306d55985fded0b3afa33e99fec7b6181ca32984a7c3", func := "userplane/userplanelaw37.AmOnce", spec := "amOnce", unfollowed := true, recurses := true, apart := false, narrowed := true }
def AmOnceUptoSaid : Prop := amOnceUptoRow.holds Tryz.pinned (OpenSpec.upto amOnceSpec)

/-- 'userplanelaw37.AmHolds', WHERE WHAT IT READS IS OF BULK AT MOST 1048576: true; the input reads as it did. -/
def amHoldsUptoRow : OpenClaim := { program := "ytbhiklnljiehiaagreat", sum := "f2fae4e630e976e0abd0306d55985fded0b3afa33e99fec7b6181ca32984a7c3", func := "userplane/userplanelaw37.AmHolds", spec := "amHolds", unfollowed := true, recurses := true, apart := false, narrowed := true }
def AmHoldsUptoSaid : Prop := amHoldsUptoRow.holds Tryz.pinned (OpenSpec.upto amHoldsSpec)

/-- 'userplanelaw37.AmNone', WHERE WHAT IT READS IS OF BULK AT MOST 1048576: true; the input reads as it did. -/
def amNoneUptoRow : OpenClaim := { program := "ytbhiklnljiehiaagreat", sum := "f2fae4e630e976e0abd0306d55985fded0b3afa33e99fec7b6181ca32984a7c3", func := "userplane/userplanelaw37.AmNone", spec := "amNone", unfollowed := true, recurses := true, apart := false, narrowed := true }
def AmNoneUptoSaid : Prop := amNoneUptoRow.holds Tryz.pinned (OpenSpec.upto amNoneSpec)

/-- 'userplanelaw38.RlcOrder', WHERE WHAT IT READS IS OF BULK AT MOST 1048576: true; the input reads as it did. -/
def rlcOrderUptoRow : OpenClaim := { program := "ytbhiklnljiehiaagreat", sum := "f2fae4e630e976e0abd0306d55985fded0b3afa33e99fec7b6181ca32984a7c3", func := "userplane/userplanelaw38.RlcOrder", spec := "rlcOrder", unfollowed := true, recurses := true, apart := false, narrowed := true }
def RlcOrderUptoSaid : Prop := rlcOrderUptoRow.holds Tryz.pinned (OpenSpec.upto rlcOrderSpec)

/-- 'userplanelaw38.RlcAcknowledged', WHERE WHAT IT READS IS OF BULK AT MOST 1048576: true; the input reads as it did. -/
def rlcAcknowledgedUptoRow : OpenClaim := { program := "ytbhiklnljiehiaagreat", sum := "f2fae4e630e976e0abd0306d55985fded0b3afa33e99fec7b6181ca32984a7c3", func := "userplane/userplanelaw38.RlcAcknowledged", spec := "rlcAcknowledged", unfollowed := true, recurses := true, apart := false, narrowed := true }
def RlcAcknowledgedUptoSaid : Prop := rlcAcknowledgedUptoRow.holds Tryz.pinned (OpenSpec.upto rlcAcknowledgedSpec)

/-- 'userplanelaw38.RlcCopies', WHERE WHAT IT READS IS OF BULK AT MOST 1048576: true; the input reads as it did. -/
def rlcCopiesUptoRow : OpenClaim := { program := "ytbhiklnljiehiaagreat", sum := "f2fae4e630e976e0abd0306d55985fded0b3afa33e99fec7b6181ca32984a7c3", func := "userplane/userplanelaw38.RlcCopies", spec := "rlcCopies", unfollowed := true, recurses := true, apart := false, narrowed := true }
def RlcCopiesUptoSaid : Prop := rlcCopiesUptoRow.holds Tryz.pinned (OpenSpec.upto rlcCopiesSpec)

end Rows
end Go.Proofs.YtbhiklnljiehiaaGreat
