/-
  No cell of these rows narrows 'for every input' (looked for: loops, veiled, ifaces, maps, wideKeys, modest, calm, conditions, laid).
  DERIVED. THE GIVEN ROWS OF THIS SEAT. 3 by the template 'for every input the law returns true; each argument reads behind the call as it read before'; 0 by the template 'total and deterministic' (their statements: YtiecgfahidpldaaGreatTotals.lean).
  GIVEN WITH THE SEED: the statements are not yours to turn. If you find one false, say at which input.
  Laid BY PROGRAM, IN A SANDBOX (cutbox-rows.mjs): the forced cells as the released guide's own fill.sh prints them over the translation c7b45915b1bae0e2… (all of the seat's roots in one cut). By AI agents, Wed Nov 11 2026. No macro, syntax, notation, axiom, sorry.
-/
import Derived.Test.YtiecgfahidpldaaGreatChecked
import GoSem.Claim
import GoSem.ClaimJoined
import GoSem.ClaimMapViews
import Derived.JoinedTies
import Derived.KernelRfl
namespace Go.Proofs.YtiecgfahidpldaaGreat
/- THE CELL 'sum', in the pinned program and in every row, IS THE sha256 OF THE DUMP (.gsa) THAT YtiecgfahidpldaaGreatProg.lean LOADS. Nothing in Lean hashes anything: it is a label: what it is worth is what the hold of that sum in a sandbox is worth. -/
noncomputable def Tryz.pinned : Pinned := { name := "ytiecgfahidpldaagreat", sum := "c7b45915b1bae0e21deefc2ffd9a3336c70ee446b8bd316ca24e5993fc36eae1", checked := Tryz.checked }
namespace Rows
def none {H : Type} : Left H := { results := [], args := [] }

/-- 'userplanelaw36.AmrecvNone': WHATEVER THE INPUT: true; the input reads as it did. -/
def amrecvNoneSpec : ChangeSpec := { name := "amrecvNone", fn := fun _ => fun
  | [d1, d2] => { results := [.lit (.bool true)], args := [d1, d2] }
  | _ => none }
def amrecvNoneRow : OpenClaim := { program := "ytiecgfahidpldaagreat", sum := "c7b45915b1bae0e21deefc2ffd9a3336c70ee446b8bd316ca24e5993fc36eae1", func := "userplane/userplanelaw36.AmrecvNone", spec := "amrecvNone", unfollowed := true, recurses := true, apart := false }
def AmrecvNoneSaid : Prop := amrecvNoneRow.holds Tryz.pinned (OpenSpec.ofChange amrecvNoneSpec)

/-- ITS FALSE NEIGHBOUR: 'it returns false'. Refute it at one input. -/
def amrecvNoneWrong : ChangeSpec := { name := "amrecvNone", fn := fun _ => fun
  | [d1, d2] => { results := [.lit (.bool false)], args := [d1, d2] }
  | _ => none }
def AmrecvNoneWrongFalsely : Prop := amrecvNoneRow.holds Tryz.pinned (OpenSpec.ofChange amrecvNoneWrong)

/-- 'userplanelaw36.AmrecvHolds': WHATEVER THE INPUT: true; the input reads as it did. -/
def amrecvHoldsSpec : ChangeSpec := { name := "amrecvHolds", fn := fun _ => fun
  | [d1, d2, d3, d4] => { results := [.lit (.bool true)], args := [d1, d2, d3, d4] }
  | _ => none }
def amrecvHoldsRow : OpenClaim := { program := "ytiecgfahidpldaagreat", sum := "c7b45915b1bae0e21deefc2ffd9a3336c70ee446b8bd316ca24e5993fc36eae1", func := "userplane/userplanelaw36.AmrecvHolds", spec := "amrecvHolds", unfollowed := true, recurses := true, apart := false }
def AmrecvHoldsSaid : Prop := amrecvHoldsRow.holds Tryz.pinned (OpenSpec.ofChange amrecvHoldsSpec)

/-- ITS FALSE NEIGHBOUR: 'it returns false'. Refute it at one input. -/
def amrecvHoldsWrong : ChangeSpec := { name := "amrecvHolds", fn := fun _ => fun
  | [d1, d2, d3, d4] => { results := [.lit (.bool false)], args := [d1, d2, d3, d4] }
  | _ => none }
def AmrecvHoldsWrongFalsely : Prop := amrecvHoldsRow.holds Tryz.pinned (OpenSpec.ofChange amrecvHoldsWrong)

/-- 'userplanelaw36.AmrecvOnce': WHATEVER THE INPUT: true; the input reads as it did. -/
def amrecvOnceSpec : ChangeSpec := { name := "amrecvOnce", fn := fun _ => fun
  | [d1, d2, d3] => { results := [.lit (.bool true)], args := [d1, d2, d3] }
  | _ => none }
def amrecvOnceRow : OpenClaim := { program := "ytiecgfahidpldaagreat", sum := "c7b45915b1bae0e21deefc2ffd9a3336c70ee446b8bd316ca24e5993fc36eae1", func := "userplane/userplanelaw36.AmrecvOnce", spec := "amrecvOnce", unfollowed := true, recurses := true, apart := false }
def AmrecvOnceSaid : Prop := amrecvOnceRow.holds Tryz.pinned (OpenSpec.ofChange amrecvOnceSpec)

/-- ITS FALSE NEIGHBOUR: 'it returns false'. Refute it at one input. -/
def amrecvOnceWrong : ChangeSpec := { name := "amrecvOnce", fn := fun _ => fun
  | [d1, d2, d3] => { results := [.lit (.bool false)], args := [d1, d2, d3] }
  | _ => none }
def AmrecvOnceWrongFalsely : Prop := amrecvOnceRow.holds Tryz.pinned (OpenSpec.ofChange amrecvOnceWrong)

/- THE SECOND FORM. 'bulk': how many values and letters a reading holds, each counted each time it is reached (what is shared counts as often as it is met; a slice's spare places count too). A statement '..UptoSaid' is the law's where the arguments, and the package variables that the reading takes, are together of bulk at most 1048576: NARROWER than '..Said'. Prove '..Said' where nothing that the law and all that it calls make is longer than what came in: it says more and counts as full. Else prove '..UptoSaid'. A law counts once. -/
mutual
def uptoBulk {H : Type} : DataW H → Nat
  | .lit (.string bytes) => bytes.length + 1
  | .lit _ => 1
  | .nil => 1
  | .ptr d => uptoBulk d + 1
  | .slice elems spare => uptoBulkAll elems + uptoBulkAll spare + 1
  | .agg parts => uptoBulkAll parts + 1
  | .iface _ d => uptoBulk d + 1
  | .map entries => uptoBulkEntries entries + 1
  | .held _ => 1
def uptoBulkAll {H : Type} : List (DataW H) → Nat
  | [] => 0
  | d :: r => uptoBulk d + uptoBulkAll r
def uptoBulkEntries {H : Type} : List (Lit × DataW H) → Nat
  | [] => 0
  | x :: r => uptoBulkEntry x + uptoBulkEntries r
def uptoBulkEntry {H : Type} : Lit × DataW H → Nat
  | (.string bytes, d) => bytes.length + uptoBulk d + 1
  | (_, d) => uptoBulk d + 1
 end
def uptoSmall : (H : Type) → List (DataW H) → Bool := fun _ ds => decide (uptoBulkAll ds ≤ 1048576)
def OpenSpec.upto (s : _root_.Go.ChangeSpec) : _root_.Go.OpenSpec := { _root_.Go.OpenSpec.ofChange s with cond := some uptoSmall }

/-- 'userplanelaw36.AmrecvNone', WHERE WHAT IT READS IS OF BULK AT MOST 1048576: true; the input reads as it did. -/
def amrecvNoneUptoRow : OpenClaim := { program := "ytiecgfahidpldaagreat", sum := "c7b45915b1bae0e21deefc2ffd9a3336c70ee446b8bd316ca24e5993fc36eae1", func := "userplane/userplanelaw36.AmrecvNone", spec := "amrecvNone", unfollowed := true, recurses := true, apart := false, narrowed := true }
def AmrecvNoneUptoSaid : Prop := amrecvNoneUptoRow.holds Tryz.pinned (OpenSpec.upto amrecvNoneSpec)

/-- 'userplanelaw36.AmrecvHolds', WHERE WHAT IT READS IS OF BULK AT MOST 1048576: true; the input reads as it did. -/
def amrecvHoldsUptoRow : OpenClaim := { program := "ytiecgfahidpldaagreat", sum := "c7b45915b1bae0e21deefc2ffd9a3336c70ee446b8bd316ca24e5993fc36eae1", func := "userplane/userplanelaw36.AmrecvHolds", spec := "amrecvHolds", unfollowed := true, recurses := true, apart := false, narrowed := true }
def AmrecvHoldsUptoSaid : Prop := amrecvHoldsUptoRow.holds Tryz.pinned (OpenSpec.upto amrecvHoldsSpec)

/-- 'userplanelaw36.AmrecvOnce', WHERE WHAT IT READS IS OF BULK AT MOST 1048576: true; the input reads as it did. -/
def amrecvOnceUptoRow : OpenClaim := { program := "ytiecgfahidpldaagreat", sum := "c7b45915b1bae0e21deefc2ffd9a3336c70ee446b8bd316ca24e5993fc36eae1", func := "userplane/userplanelaw36.AmrecvOnce", spec := "amrecvOnce", unfollowed := true, recurses := true, apart := false, narrowed := true }
def AmrecvOnceUptoSaid : Prop := amrecvOnceUptoRow.holds Tryz.pinned (OpenSpec.upto amrecvOnceSpec)

end Rows
end Go.Proofs.YtiecgfahidpldaaGreat
