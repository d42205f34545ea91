/-
  No cell of these rows narrows 'for every input' (looked for: loops, veiled, ifaces, maps, wideKeys, modest, calm, conditions, laid).
  DERIVED. THE GIVEN ROWS OF THIS SEAT. 4 by the template 'for every input the law returns true; each argument reads behind the call as it read before'; 0 by the template 'total and deterministic' (their statements: YtmiipkaobloedaaGreatTotals.lean).
  GIVEN WITH THE SEED: the statements are not yours to turn. If you find one false, say at which input.
  Laid BY PROGRAM, IN A SANDBOX (cutbox-rows.mjs): the forced cells as the released guide's own fill.sh prints them over the translation 84920d1ea48c11ed… (all of the seat's roots in one cut). By AI agents, Wed Nov 11 2026. No macro, syntax, notation, axiom, sorry.
-/
import Derived.Test.YtmiipkaobloedaaGreatChecked
import GoSem.Claim
import GoSem.ClaimJoined
import GoSem.ClaimMapViews
import Derived.JoinedTies
import Derived.KernelRfl
namespace Go.Proofs.YtmiipkaobloedaaGreat
/- THE CELL 'sum', in the pinned program and in every row, IS THE sha256 OF THE DUMP (.gsa) THAT YtmiipkaobloedaaGreatProg.lean LOADS. Nothing in Lean hashes anything: it is a label: what it is worth is what the hold of that sum in a sandbox is worth. -/
noncomputable def Tryz.pinned : Pinned := { name := "ytmiipkaobloedaagreat", sum := "84920d1ea48c11ed7baafb86008bb443357bc98f04219f0bade46c90c8b75e3e", checked := Tryz.checked }
namespace Rows
def none {H : Type} : Left H := { results := [], args := [] }

/-- 'userplanelaw35.AmsendWindow': WHATEVER THE INPUT: true; the input reads as it did. -/
def amsendWindowSpec : ChangeSpec := { name := "amsendWindow", fn := fun _ => fun
  | [d1, d2, d3] => { results := [.lit (.bool true)], args := [d1, d2, d3] }
  | _ => none }
def amsendWindowRow : OpenClaim := { program := "ytmiipkaobloedaagreat", sum := "84920d1ea48c11ed7baafb86008bb443357bc98f04219f0bade46c90c8b75e3e", func := "userplane/userplanelaw35.AmsendWindow", spec := "amsendWindow", unfollowed := true, recurses := true, apart := false }
def AmsendWindowSaid : Prop := amsendWindowRow.holds Tryz.pinned (OpenSpec.ofChange amsendWindowSpec)

/-- ITS FALSE NEIGHBOUR: 'it returns false'. Refute it at one input. -/
def amsendWindowWrong : ChangeSpec := { name := "amsendWindow", fn := fun _ => fun
  | [d1, d2, d3] => { results := [.lit (.bool false)], args := [d1, d2, d3] }
  | _ => none }
def AmsendWindowWrongFalsely : Prop := amsendWindowRow.holds Tryz.pinned (OpenSpec.ofChange amsendWindowWrong)

/-- 'userplanelaw35.AmsendHolds': WHATEVER THE INPUT: true; the input reads as it did. -/
def amsendHoldsSpec : ChangeSpec := { name := "amsendHolds", fn := fun _ => fun
  | [d1, d2] => { results := [.lit (.bool true)], args := [d1, d2] }
  | _ => none }
def amsendHoldsRow : OpenClaim := { program := "ytmiipkaobloedaagreat", sum := "84920d1ea48c11ed7baafb86008bb443357bc98f04219f0bade46c90c8b75e3e", func := "userplane/userplanelaw35.AmsendHolds", spec := "amsendHolds", unfollowed := true, recurses := true, apart := false }
def AmsendHoldsSaid : Prop := amsendHoldsRow.holds Tryz.pinned (OpenSpec.ofChange amsendHoldsSpec)

/-- ITS FALSE NEIGHBOUR: 'it returns false'. Refute it at one input. -/
def amsendHoldsWrong : ChangeSpec := { name := "amsendHolds", fn := fun _ => fun
  | [d1, d2] => { results := [.lit (.bool false)], args := [d1, d2] }
  | _ => none }
def AmsendHoldsWrongFalsely : Prop := amsendHoldsRow.holds Tryz.pinned (OpenSpec.ofChange amsendHoldsWrong)

/-- 'userplanelaw35.AmsendNone': WHATEVER THE INPUT: true; the input reads as it did. -/
def amsendNoneSpec : ChangeSpec := { name := "amsendNone", fn := fun _ => fun
  | [d1, d2] => { results := [.lit (.bool true)], args := [d1, d2] }
  | _ => none }
def amsendNoneRow : OpenClaim := { program := "ytmiipkaobloedaagreat", sum := "84920d1ea48c11ed7baafb86008bb443357bc98f04219f0bade46c90c8b75e3e", func := "userplane/userplanelaw35.AmsendNone", spec := "amsendNone", unfollowed := true, recurses := true, apart := false }
def AmsendNoneSaid : Prop := amsendNoneRow.holds Tryz.pinned (OpenSpec.ofChange amsendNoneSpec)

/-- ITS FALSE NEIGHBOUR: 'it returns false'. Refute it at one input. -/
def amsendNoneWrong : ChangeSpec := { name := "amsendNone", fn := fun _ => fun
  | [d1, d2] => { results := [.lit (.bool false)], args := [d1, d2] }
  | _ => none }
def AmsendNoneWrongFalsely : Prop := amsendNoneRow.holds Tryz.pinned (OpenSpec.ofChange amsendNoneWrong)

/-- 'userplanelaw35.AmsendBytes': WHATEVER THE INPUT: true; the input reads as it did. -/
def amsendBytesSpec : ChangeSpec := { name := "amsendBytes", fn := fun _ => fun
  | [d1, d2] => { results := [.lit (.bool true)], args := [d1, d2] }
  | _ => none }
def amsendBytesRow : OpenClaim := { program := "ytmiipkaobloedaagreat", sum := "84920d1ea48c11ed7baafb86008bb443357bc98f04219f0bade46c90c8b75e3e", func := "userplane/userplanelaw35.AmsendBytes", spec := "amsendBytes", unfollowed := true, recurses := true, apart := false }
def AmsendBytesSaid : Prop := amsendBytesRow.holds Tryz.pinned (OpenSpec.ofChange amsendBytesSpec)

/-- ITS FALSE NEIGHBOUR: 'it returns false'. Refute it at one input. -/
def amsendBytesWrong : ChangeSpec := { name := "amsendBytes", fn := fun _ => fun
  | [d1, d2] => { results := [.lit (.bool false)], args := [d1, d2] }
  | _ => none }
def AmsendBytesWrongFalsely : Prop := amsendBytesRow.holds Tryz.pinned (OpenSpec.ofChange amsendBytesWrong)

/- THE SECOND FORM. 'bulk': how many values and letters a reading holds, each counted each time it is reached (what is shared counts as often as it is met; a slice's spare places count too). A statement '..UptoSaid' is the law's where the arguments, and the package variables that the reading takes, are together of bulk at most 1048576: NARROWER than '..Said'. Prove '..Said' where nothing that the law and all that it calls make is longer than what came in: it says more and counts as full. Else prove '..UptoSaid'. A law counts once. -/
mutual
def uptoBulk {H : Type} : DataW H → Nat
  | .lit (.string bytes) => bytes.length + 1
  | .lit _ => 1
  | .nil => 1
  | .ptr d => uptoBulk d + 1
  | .slice elems spare => uptoBulkAll elems + uptoBulkAll spare + 1
  | .agg parts => uptoBulkAll parts + 1
  | .iface _ d => uptoBulk d + 1
  | .map entries => uptoBulkEntries entries + 1
  | .held _ => 1
def uptoBulkAll {H : Type} : List (DataW H) → Nat
  | [] => 0
  | d :: r => uptoBulk d + uptoBulkAll r
def uptoBulkEntries {H : Type} : List (Lit × DataW H) → Nat
  | [] => 0
  | x :: r => uptoBulkEntry x + uptoBulkEntries r
def uptoBulkEntry {H : Type} : Lit × DataW H → Nat
  | (.string bytes, d) => bytes.length + uptoBulk d + 1
  | (_, d) => uptoBulk d + 1
 end
def uptoSmall : (H : Type) → List (DataW H) → Bool := fun _ ds => decide (uptoBulkAll ds ≤ 1048576)
def OpenSpec.upto (s : _root_.Go.ChangeSpec) : _root_.Go.OpenSpec := { _root_.Go.OpenSpec.ofChange s with cond := some uptoSmall }

/-- 'userplanelaw35.AmsendWindow', WHERE WHAT IT READS IS OF BULK AT MOST 1048576: true; the input reads as it did. -/
def amsendWindowUptoRow : OpenClaim := { program := "ytmiipkaobloedaagreat", sum := "84920d1ea48c11ed7baafb86008bb443357bc98f04219f0bade46c90c8b75e3e", func := "userplane/userplanelaw35.AmsendWindow", spec := "amsendWindow", unfollowed := true, recurses := true, apart := false, narrowed := true }
def AmsendWindowUptoSaid : Prop := amsendWindowUptoRow.holds Tryz.pinned (OpenSpec.upto amsendWindowSpec)

/-- 'userplanelaw35.AmsendHolds', WHERE WHAT IT READS IS OF BULK AT MOST 1048576: true; the input reads as it did. -/
def amsendHoldsUptoRow : OpenClaim := { program := "ytmiipkaobloedaagreat", sum := "84920d1ea48c11ed7baafb86008bb443357bc98f04219f0bade46c90c8b75e3e", func := "userplane/userplanelaw35.AmsendHolds", spec := "amsendHolds", unfollowed := true, recurses := true, apart := false, narrowed := true }
def AmsendHoldsUptoSaid : Prop := amsendHoldsUptoRow.holds Tryz.pinned (OpenSpec.upto amsendHoldsSpec)

/-- 'userplanelaw35.AmsendNone', WHERE WHAT IT READS IS OF BULK AT MOST 1048576: true; the input reads as it did. -/
def amsendNoneUptoRow : OpenClaim := { program := "ytmiipkaobloedaagreat", sum := "84920d1ea48c11ed7baafb86008bb443357bc98f04219f0bade46c90c8b75e3e", func := "userplane/userplanelaw35.AmsendNone", spec := "amsendNone", unfollowed := true, recurses := true, apart := false, narrowed := true }
def AmsendNoneUptoSaid : Prop := amsendNoneUptoRow.holds Tryz.pinned (OpenSpec.upto amsendNoneSpec)

/-- 'userplanelaw35.AmsendBytes', WHERE WHAT IT READS IS OF BULK AT MOST 1048576: true; the input reads as it did. -/
def amsendBytesUptoRow : OpenClaim := { program := "ytmiipkaobloedaagreat", sum := "84920d1ea48c11ed7baafb86008bb443357bc98f04219f0bade46c90c8b75e3e", func := "userplane/userplanelaw35.AmsendBytes", spec := "amsendBytes", unfollowed := true, recurses := true, apart := false, narrowed := true }
def AmsendBytesUptoSaid : Prop := amsendBytesUptoRow.holds Tryz.pinned (OpenSpec.upto amsendBytesSpec)

end Rows
end Go.Proofs.YtmiipkaobloedaaGreat
