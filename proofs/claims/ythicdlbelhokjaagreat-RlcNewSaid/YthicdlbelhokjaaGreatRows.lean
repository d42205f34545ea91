/-
  No cell of these rows narrows 'for every input' (looked for: loops, veiled, ifaces, maps, wideKeys, modest, calm, conditions, laid).
  DERIVED. THE GIVEN ROWS OF THIS SEAT. 3 by the template 'for every input the law returns true; each argument reads behind the call as it read before'; 0 by the template 'total and deterministic' (their statements: YthicdlbelhokjaaGreatTotals.lean).
  GIVEN WITH THE SEED: the statements are not yours to turn. If you find one false, say at which input.
  Laid BY PROGRAM, IN A SANDBOX (cutbox-rows.mjs): the forced cells as the released guide's own fill.sh prints them over the translation 9467b837a1c0943f… (all of the seat's roots in one cut). By AI agents, Wed Nov 11 2026. No macro, syntax, notation, axiom, sorry.
-/
import Derived.Test.YthicdlbelhokjaaGreatChecked
import GoSem.Claim
import GoSem.ClaimJoined
import GoSem.ClaimMapViews
import Derived.JoinedTies
import Derived.KernelRfl
namespace Go.Proofs.YthicdlbelhokjaaGreat
/- THE CELL 'sum', in the pinned program and in every row, IS THE sha256 OF THE DUMP (.gsa) THAT YthicdlbelhokjaaGreatProg.lean LOADS. Nothing in Lean hashes anything: it is a label: what it is worth is what the hold of that sum in a sandbox is worth. -/
noncomputable def Tryz.pinned : Pinned := { name := "ythicdlbelhokjaagreat", sum := "9467b837a1c0943f24453b2bd597b9b1023d9824e6c5683818c89b6c556ebd3d", checked := Tryz.checked }
namespace Rows
def none {H : Type} : Left H := { results := [], args := [] }

/-- 'userplanelaw38.RlcNew': WHATEVER THE INPUT: true; the input reads as it did. -/
def rlcNewSpec : ChangeSpec := { name := "rlcNew", fn := fun _ => fun
  | [d] => { results := [.lit (.bool true)], args := [d] }
  | _ => none }
def rlcNewRow : OpenClaim := { program := "ythicdlbelhokjaagreat", sum := "9467b837a1c0943f24453b2bd597b9b1023d9824e6c5683818c89b6c556ebd3d", func := "userplane/userplanelaw38.RlcNew", spec := "rlcNew", unfollowed := true, recurses := true, apart := false }
def RlcNewSaid : Prop := rlcNewRow.holds Tryz.pinned (OpenSpec.ofChange rlcNewSpec)

/-- ITS FALSE NEIGHBOUR: 'it returns false'. Refute it at one input. -/
def rlcNewWrong : ChangeSpec := { name := "rlcNew", fn := fun _ => fun
  | [d] => { results := [.lit (.bool false)], args := [d] }
  | _ => none }
def RlcNewWrongFalsely : Prop := rlcNewRow.holds Tryz.pinned (OpenSpec.ofChange rlcNewWrong)

/-- 'userplanelaw38.RlcTransparent': WHATEVER THE INPUT: true; the input reads as it did. -/
def rlcTransparentSpec : ChangeSpec := { name := "rlcTransparent", fn := fun _ => fun
  | [d1, d2] => { results := [.lit (.bool true)], args := [d1, d2] }
  | _ => none }
def rlcTransparentRow : OpenClaim := { program := "ythicdlbelhokjaagreat", sum := "9467b837a1c0943f24453b2bd597b9b1023d9824e6c5683818c89b6c556ebd3d", func := "userplane/userplanelaw38.RlcTransparent", spec := "rlcTransparent", unfollowed := true, recurses := true, apart := false }
def RlcTransparentSaid : Prop := rlcTransparentRow.holds Tryz.pinned (OpenSpec.ofChange rlcTransparentSpec)

/-- ITS FALSE NEIGHBOUR: 'it returns false'. Refute it at one input. -/
def rlcTransparentWrong : ChangeSpec := { name := "rlcTransparent", fn := fun _ => fun
  | [d1, d2] => { results := [.lit (.bool false)], args := [d1, d2] }
  | _ => none }
def RlcTransparentWrongFalsely : Prop := rlcTransparentRow.holds Tryz.pinned (OpenSpec.ofChange rlcTransparentWrong)

/-- 'userplanelaw38.RlcNil': WHATEVER THE INPUT: true; the input reads as it did. -/
def rlcNilSpec : ChangeSpec := { name := "rlcNil", fn := fun _ => fun
  | [d] => { results := [.lit (.bool true)], args := [d] }
  | _ => none }
def rlcNilRow : OpenClaim := { program := "ythicdlbelhokjaagreat", sum := "9467b837a1c0943f24453b2bd597b9b1023d9824e6c5683818c89b6c556ebd3d", func := "userplane/userplanelaw38.RlcNil", spec := "rlcNil", unfollowed := true, recurses := true, apart := false }
def RlcNilSaid : Prop := rlcNilRow.holds Tryz.pinned (OpenSpec.ofChange rlcNilSpec)

/-- ITS FALSE NEIGHBOUR: 'it returns false'. Refute it at one input. -/
def rlcNilWrong : ChangeSpec := { name := "rlcNil", fn := fun _ => fun
  | [d] => { results := [.lit (.bool false)], args := [d] }
  | _ => none }
def RlcNilWrongFalsely : Prop := rlcNilRow.holds Tryz.pinned (OpenSpec.ofChange rlcNilWrong)

/- THE SECOND FORM. 'bulk': how many values and letters a reading holds, each counted each time it is reached (what is shared counts as often as it is met; a slice's spare places count too). A statement '..UptoSaid' is the law's where the arguments, and the package variables that the reading takes, are together of bulk at most 1048576: NARROWER than '..Said'. Prove '..Said' where nothing that the law and all that it calls make is longer than what came in: it says more and counts as full. Else prove '..UptoSaid'. A law counts once. -/
mutual
def uptoBulk {H : Type} : DataW H → Nat
  | .lit (.string bytes) => bytes.length + 1
  | .lit _ => 1
  | .nil => 1
  | .ptr d => uptoBulk d + 1
  | .slice elems spare => uptoBulkAll elems + uptoBulkAll spare + 1
  | .agg parts => uptoBulkAll parts + 1
  | .iface _ d => uptoBulk d + 1
  | .map entries => uptoBulkEntries entries + 1
  | .held _ => 1
def uptoBulkAll {H : Type} : List (DataW H) → Nat
  | [] => 0
  | d :: r => uptoBulk d + uptoBulkAll r
def uptoBulkEntries {H : Type} : List (Lit × DataW H) → Nat
  | [] => 0
  | x :: r => uptoBulkEntry x + uptoBulkEntries r
def uptoBulkEntry {H : Type} : Lit × DataW H → Nat
  | (.string bytes, d) => bytes.length + uptoBulk d + 1
  | (_, d) => uptoBulk d + 1
 end
def uptoSmall : (H : Type) → List (DataW H) → Bool := fun _ ds => decide (uptoBulkAll ds ≤ 1048576)
def OpenSpec.upto (s : _root_.Go.ChangeSpec) : _root_.Go.OpenSpec := { _root_.Go.OpenSpec.ofChange s with cond := some uptoSmall }

/-- 'userplanelaw38.RlcNew', WHERE WHAT IT READS IS OF BULK AT MOST 1048576: true; the input reads as it did. -/
def rlcNewUptoRow : OpenClaim := { program := "ythicdlbelhokjaagreat", sum := "9467b837a1c0943f24453b2bd597b9b1023d9824e6c5683818c89b6c556ebd3d", func := "userplane/userplanelaw38.RlcNew", spec := "rlcNew", unfollowed := true, recurses := true, apart := false, narrowed := true }
def RlcNewUptoSaid : Prop := rlcNewUptoRow.holds Tryz.pinned (OpenSpec.upto rlcNewSpec)

/-- 'userplanelaw38.RlcTransparent', WHERE WHAT IT READS IS OF BULK AT MOST 1048576: true; the input reads as it did. -/
def rlcTransparentUptoRow : OpenClaim := { program := "ythicdlbelhokjaagreat", sum := "9467b837a1c0943f24453b2bd597b9b1023d9824e6c5683818c89b6c556ebd3d", func := "userplane/userplanelaw38.RlcTransparent", spec := "rlcTransparent", unfollowed := true, recurses := true, apart := false, narrowed := true }
def RlcTransparentUptoSaid : Prop := rlcTransparentUptoRow.holds Tryz.pinned (OpenSpec.upto rlcTransparentSpec)

/-- 'userplanelaw38.RlcNil', WHERE WHAT IT READS IS OF BULK AT MOST 1048576: true; the input reads as it did. -/
def rlcNilUptoRow : OpenClaim := { program := "ythicdlbelhokjaagreat", sum := "9467b837a1c0943f24453b2bd597b9b1023d9824e6c5683818c89b6c556ebd3d", func := "userplane/userplanelaw38.RlcNil", spec := "rlcNil", unfollowed := true, recurses := true, apart := false, narrowed := true }
def RlcNilUptoSaid : Prop := rlcNilUptoRow.holds Tryz.pinned (OpenSpec.upto rlcNilSpec)

end Rows
end Go.Proofs.YthicdlbelhokjaaGreat
