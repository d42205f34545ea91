/-
  No cell of these rows narrows 'for every input' (looked for: loops, veiled, ifaces, maps, wideKeys, modest, calm, conditions, laid).
  DERIVED. THE GIVEN ROWS OF THIS SEAT. 14 by the template 'for every input the law returns true; each argument reads behind the call as it read before'; 0 by the template 'total and deterministic' (their statements: YtchlbpfeiamieaaTotals.lean).
  GIVEN WITH THE SEED: the statements are not yours to turn. If you find one false, say at which input.
  Laid BY PROGRAM, IN A SANDBOX (cutbox-rows.mjs): the forced cells as the released guide's own fill.sh prints them over the translation 5393cebfe835dc68… (all of the seat's roots in one cut). By AI agents, Wed Nov 11 2026. No macro, syntax, notation, axiom, sorry.
-/
import Derived.Test.YtchlbpfeiamieaaChecked
import GoSem.Claim
import GoSem.ClaimJoined
import GoSem.ClaimMapViews
import Derived.JoinedTies
import Derived.KernelRfl
namespace Go.Proofs.Ytchlbpfeiamieaa
/- THE CELL 'sum', in the pinned program and in every row, IS THE sha256 OF THE DUMP (.gsa) THAT YtchlbpfeiamieaaProg.lean LOADS. Nothing in Lean hashes anything: it is a label: what it is worth is what the hold of that sum in a sandbox is worth. -/
noncomputable def Try.pinned : Pinned := { name := "ytchlbpfeiamieaa", sum := "5393cebfe835dc681b3c3f230dd2ae67812dd9a8a456bbcfa286d80bece35595", checked := Try.checked }
namespace Rows
def none {H : Type} : Left H := { results := [], args := [] }

/-- 'userplanelaw30.UmpduEncodes': WHATEVER THE INPUT: true; the input reads as it did. -/
def umpduEncodesSpec : ChangeSpec := { name := "umpduEncodes", fn := fun _ => fun
  | [d] => { results := [.lit (.bool true)], args := [d] }
  | _ => none }
def umpduEncodesRow : OpenClaim := { program := "ytchlbpfeiamieaa", sum := "5393cebfe835dc681b3c3f230dd2ae67812dd9a8a456bbcfa286d80bece35595", func := "userplane/userplanelaw30.UmpduEncodes", spec := "umpduEncodes", unfollowed := true, recurses := true, apart := false }
def UmpduEncodesSaid : Prop := umpduEncodesRow.holds Try.pinned (OpenSpec.ofChange umpduEncodesSpec)

/-- ITS FALSE NEIGHBOUR: 'it returns false'. Refute it at one input. -/
def umpduEncodesWrong : ChangeSpec := { name := "umpduEncodes", fn := fun _ => fun
  | [d] => { results := [.lit (.bool false)], args := [d] }
  | _ => none }
def UmpduEncodesWrongFalsely : Prop := umpduEncodesRow.holds Try.pinned (OpenSpec.ofChange umpduEncodesWrong)

/-- 'userplanelaw30.UmpduDecodes': WHATEVER THE INPUT: true; the input reads as it did. -/
def umpduDecodesSpec : ChangeSpec := { name := "umpduDecodes", fn := fun _ => fun
  | [d] => { results := [.lit (.bool true)], args := [d] }
  | _ => none }
def umpduDecodesRow : OpenClaim := { program := "ytchlbpfeiamieaa", sum := "5393cebfe835dc681b3c3f230dd2ae67812dd9a8a456bbcfa286d80bece35595", func := "userplane/userplanelaw30.UmpduDecodes", spec := "umpduDecodes", unfollowed := true, recurses := true, apart := false }
def UmpduDecodesSaid : Prop := umpduDecodesRow.holds Try.pinned (OpenSpec.ofChange umpduDecodesSpec)

/-- ITS FALSE NEIGHBOUR: 'it returns false'. Refute it at one input. -/
def umpduDecodesWrong : ChangeSpec := { name := "umpduDecodes", fn := fun _ => fun
  | [d] => { results := [.lit (.bool false)], args := [d] }
  | _ => none }
def UmpduDecodesWrongFalsely : Prop := umpduDecodesRow.holds Try.pinned (OpenSpec.ofChange umpduDecodesWrong)

/-- 'userplanelaw30.UmpduSame': WHATEVER THE INPUT: true; the input reads as it did. -/
def umpduSameSpec : ChangeSpec := { name := "umpduSame", fn := fun _ => fun
  | [d1, d2] => { results := [.lit (.bool true)], args := [d1, d2] }
  | _ => none }
def umpduSameRow : OpenClaim := { program := "ytchlbpfeiamieaa", sum := "5393cebfe835dc681b3c3f230dd2ae67812dd9a8a456bbcfa286d80bece35595", func := "userplane/userplanelaw30.UmpduSame", spec := "umpduSame", unfollowed := true, recurses := true, apart := false }
def UmpduSameSaid : Prop := umpduSameRow.holds Try.pinned (OpenSpec.ofChange umpduSameSpec)

/-- ITS FALSE NEIGHBOUR: 'it returns false'. Refute it at one input. -/
def umpduSameWrong : ChangeSpec := { name := "umpduSame", fn := fun _ => fun
  | [d1, d2] => { results := [.lit (.bool false)], args := [d1, d2] }
  | _ => none }
def UmpduSameWrongFalsely : Prop := umpduSameRow.holds Try.pinned (OpenSpec.ofChange umpduSameWrong)

/-- 'userplanelaw30.UmpduCuts': WHATEVER THE INPUT: true; the input reads as it did. -/
def umpduCutsSpec : ChangeSpec := { name := "umpduCuts", fn := fun _ => fun
  | [d1, d2] => { results := [.lit (.bool true)], args := [d1, d2] }
  | _ => none }
def umpduCutsRow : OpenClaim := { program := "ytchlbpfeiamieaa", sum := "5393cebfe835dc681b3c3f230dd2ae67812dd9a8a456bbcfa286d80bece35595", func := "userplane/userplanelaw30.UmpduCuts", spec := "umpduCuts", unfollowed := true, recurses := true, apart := false }
def UmpduCutsSaid : Prop := umpduCutsRow.holds Try.pinned (OpenSpec.ofChange umpduCutsSpec)

/-- ITS FALSE NEIGHBOUR: 'it returns false'. Refute it at one input. -/
def umpduCutsWrong : ChangeSpec := { name := "umpduCuts", fn := fun _ => fun
  | [d1, d2] => { results := [.lit (.bool false)], args := [d1, d2] }
  | _ => none }
def UmpduCutsWrongFalsely : Prop := umpduCutsRow.holds Try.pinned (OpenSpec.ofChange umpduCutsWrong)

/-- 'userplanelaw30.UmpduHolds': WHATEVER THE INPUT: true; the input reads as it did. -/
def umpduHoldsSpec : ChangeSpec := { name := "umpduHolds", fn := fun _ => fun
  | [d1, d2] => { results := [.lit (.bool true)], args := [d1, d2] }
  | _ => none }
def umpduHoldsRow : OpenClaim := { program := "ytchlbpfeiamieaa", sum := "5393cebfe835dc681b3c3f230dd2ae67812dd9a8a456bbcfa286d80bece35595", func := "userplane/userplanelaw30.UmpduHolds", spec := "umpduHolds", unfollowed := true, recurses := true, apart := false }
def UmpduHoldsSaid : Prop := umpduHoldsRow.holds Try.pinned (OpenSpec.ofChange umpduHoldsSpec)

/-- ITS FALSE NEIGHBOUR: 'it returns false'. Refute it at one input. -/
def umpduHoldsWrong : ChangeSpec := { name := "umpduHolds", fn := fun _ => fun
  | [d1, d2] => { results := [.lit (.bool false)], args := [d1, d2] }
  | _ => none }
def UmpduHoldsWrongFalsely : Prop := umpduHoldsRow.holds Try.pinned (OpenSpec.ofChange umpduHoldsWrong)

/-- 'userplanelaw32.UmrecvNone': WHATEVER THE INPUT: true; the input reads as it did. -/
def umrecvNoneSpec : ChangeSpec := { name := "umrecvNone", fn := fun _ => fun
  | [d1, d2] => { results := [.lit (.bool true)], args := [d1, d2] }
  | _ => none }
def umrecvNoneRow : OpenClaim := { program := "ytchlbpfeiamieaa", sum := "5393cebfe835dc681b3c3f230dd2ae67812dd9a8a456bbcfa286d80bece35595", func := "userplane/userplanelaw32.UmrecvNone", spec := "umrecvNone", unfollowed := true, recurses := true, apart := false }
def UmrecvNoneSaid : Prop := umrecvNoneRow.holds Try.pinned (OpenSpec.ofChange umrecvNoneSpec)

/-- ITS FALSE NEIGHBOUR: 'it returns false'. Refute it at one input. -/
def umrecvNoneWrong : ChangeSpec := { name := "umrecvNone", fn := fun _ => fun
  | [d1, d2] => { results := [.lit (.bool false)], args := [d1, d2] }
  | _ => none }
def UmrecvNoneWrongFalsely : Prop := umrecvNoneRow.holds Try.pinned (OpenSpec.ofChange umrecvNoneWrong)

/-- 'userplanelaw33.AmpduDecodes': WHATEVER THE INPUT: true; the input reads as it did. -/
def ampduDecodesSpec : ChangeSpec := { name := "ampduDecodes", fn := fun _ => fun
  | [d] => { results := [.lit (.bool true)], args := [d] }
  | _ => none }
def ampduDecodesRow : OpenClaim := { program := "ytchlbpfeiamieaa", sum := "5393cebfe835dc681b3c3f230dd2ae67812dd9a8a456bbcfa286d80bece35595", func := "userplane/userplanelaw33.AmpduDecodes", spec := "ampduDecodes", unfollowed := true, recurses := true, apart := false }
def AmpduDecodesSaid : Prop := ampduDecodesRow.holds Try.pinned (OpenSpec.ofChange ampduDecodesSpec)

/-- ITS FALSE NEIGHBOUR: 'it returns false'. Refute it at one input. -/
def ampduDecodesWrong : ChangeSpec := { name := "ampduDecodes", fn := fun _ => fun
  | [d] => { results := [.lit (.bool false)], args := [d] }
  | _ => none }
def AmpduDecodesWrongFalsely : Prop := ampduDecodesRow.holds Try.pinned (OpenSpec.ofChange ampduDecodesWrong)

/-- 'userplanelaw33.AmpduCuts': WHATEVER THE INPUT: true; the input reads as it did. -/
def ampduCutsSpec : ChangeSpec := { name := "ampduCuts", fn := fun _ => fun
  | [d1, d2, d3] => { results := [.lit (.bool true)], args := [d1, d2, d3] }
  | _ => none }
def ampduCutsRow : OpenClaim := { program := "ytchlbpfeiamieaa", sum := "5393cebfe835dc681b3c3f230dd2ae67812dd9a8a456bbcfa286d80bece35595", func := "userplane/userplanelaw33.AmpduCuts", spec := "ampduCuts", unfollowed := true, recurses := true, apart := false }
def AmpduCutsSaid : Prop := ampduCutsRow.holds Try.pinned (OpenSpec.ofChange ampduCutsSpec)

/-- ITS FALSE NEIGHBOUR: 'it returns false'. Refute it at one input. -/
def ampduCutsWrong : ChangeSpec := { name := "ampduCuts", fn := fun _ => fun
  | [d1, d2, d3] => { results := [.lit (.bool false)], args := [d1, d2, d3] }
  | _ => none }
def AmpduCutsWrongFalsely : Prop := ampduCutsRow.holds Try.pinned (OpenSpec.ofChange ampduCutsWrong)

/-- 'userplanelaw33.AmpduEncodes': WHATEVER THE INPUT: true; the input reads as it did. -/
def ampduEncodesSpec : ChangeSpec := { name := "ampduEncodes", fn := fun _ => fun
  | [d1, d2, d3] => { results := [.lit (.bool true)], args := [d1, d2, d3] }
  | _ => none }
def ampduEncodesRow : OpenClaim := { program := "ytchlbpfeiamieaa", sum := "5393cebfe835dc681b3c3f230dd2ae67812dd9a8a456bbcfa286d80bece35595", func := "userplane/userplanelaw33.AmpduEncodes", spec := "ampduEncodes", unfollowed := true, recurses := true, apart := false }
def AmpduEncodesSaid : Prop := ampduEncodesRow.holds Try.pinned (OpenSpec.ofChange ampduEncodesSpec)

/-- ITS FALSE NEIGHBOUR: 'it returns false'. Refute it at one input. -/
def ampduEncodesWrong : ChangeSpec := { name := "ampduEncodes", fn := fun _ => fun
  | [d1, d2, d3] => { results := [.lit (.bool false)], args := [d1, d2, d3] }
  | _ => none }
def AmpduEncodesWrongFalsely : Prop := ampduEncodesRow.holds Try.pinned (OpenSpec.ofChange ampduEncodesWrong)

/-- 'userplanelaw33.AmpduAgain': WHATEVER THE INPUT: true; the input reads as it did. -/
def ampduAgainSpec : ChangeSpec := { name := "ampduAgain", fn := fun _ => fun
  | [d1, d2, d3, d4, d5] => { results := [.lit (.bool true)], args := [d1, d2, d3, d4, d5] }
  | _ => none }
def ampduAgainRow : OpenClaim := { program := "ytchlbpfeiamieaa", sum := "5393cebfe835dc681b3c3f230dd2ae67812dd9a8a456bbcfa286d80bece35595", func := "userplane/userplanelaw33.AmpduAgain", spec := "ampduAgain", unfollowed := true, recurses := true, apart := false }
def AmpduAgainSaid : Prop := ampduAgainRow.holds Try.pinned (OpenSpec.ofChange ampduAgainSpec)

/-- ITS FALSE NEIGHBOUR: 'it returns false'. Refute it at one input. -/
def ampduAgainWrong : ChangeSpec := { name := "ampduAgain", fn := fun _ => fun
  | [d1, d2, d3, d4, d5] => { results := [.lit (.bool false)], args := [d1, d2, d3, d4, d5] }
  | _ => none }
def AmpduAgainWrongFalsely : Prop := ampduAgainRow.holds Try.pinned (OpenSpec.ofChange ampduAgainWrong)

/-- 'userplanelaw33.AmpduHolds': WHATEVER THE INPUT: true; the input reads as it did. -/
def ampduHoldsSpec : ChangeSpec := { name := "ampduHolds", fn := fun _ => fun
  | [d1, d2] => { results := [.lit (.bool true)], args := [d1, d2] }
  | _ => none }
def ampduHoldsRow : OpenClaim := { program := "ytchlbpfeiamieaa", sum := "5393cebfe835dc681b3c3f230dd2ae67812dd9a8a456bbcfa286d80bece35595", func := "userplane/userplanelaw33.AmpduHolds", spec := "ampduHolds", unfollowed := true, recurses := true, apart := false }
def AmpduHoldsSaid : Prop := ampduHoldsRow.holds Try.pinned (OpenSpec.ofChange ampduHoldsSpec)

/-- ITS FALSE NEIGHBOUR: 'it returns false'. Refute it at one input. -/
def ampduHoldsWrong : ChangeSpec := { name := "ampduHolds", fn := fun _ => fun
  | [d1, d2] => { results := [.lit (.bool false)], args := [d1, d2] }
  | _ => none }
def AmpduHoldsWrongFalsely : Prop := ampduHoldsRow.holds Try.pinned (OpenSpec.ofChange ampduHoldsWrong)

/-- 'userplanelaw31.UmsendHolds': WHATEVER THE INPUT: true; the input reads as it did. -/
def umsendHoldsSpec : ChangeSpec := { name := "umsendHolds", fn := fun _ => fun
  | [d1, d2] => { results := [.lit (.bool true)], args := [d1, d2] }
  | _ => none }
def umsendHoldsRow : OpenClaim := { program := "ytchlbpfeiamieaa", sum := "5393cebfe835dc681b3c3f230dd2ae67812dd9a8a456bbcfa286d80bece35595", func := "userplane/userplanelaw31.UmsendHolds", spec := "umsendHolds", unfollowed := true, recurses := true, apart := false }
def UmsendHoldsSaid : Prop := umsendHoldsRow.holds Try.pinned (OpenSpec.ofChange umsendHoldsSpec)

/-- ITS FALSE NEIGHBOUR: 'it returns false'. Refute it at one input. -/
def umsendHoldsWrong : ChangeSpec := { name := "umsendHolds", fn := fun _ => fun
  | [d1, d2] => { results := [.lit (.bool false)], args := [d1, d2] }
  | _ => none }
def UmsendHoldsWrongFalsely : Prop := umsendHoldsRow.holds Try.pinned (OpenSpec.ofChange umsendHoldsWrong)

/-- 'userplanelaw32.UmrecvOrder': WHATEVER THE INPUT: true; the input reads as it did. -/
def umrecvOrderSpec : ChangeSpec := { name := "umrecvOrder", fn := fun _ => fun
  | [d1, d2, d3, d4] => { results := [.lit (.bool true)], args := [d1, d2, d3, d4] }
  | _ => none }
def umrecvOrderRow : OpenClaim := { program := "ytchlbpfeiamieaa", sum := "5393cebfe835dc681b3c3f230dd2ae67812dd9a8a456bbcfa286d80bece35595", func := "userplane/userplanelaw32.UmrecvOrder", spec := "umrecvOrder", unfollowed := true, recurses := true, apart := false }
def UmrecvOrderSaid : Prop := umrecvOrderRow.holds Try.pinned (OpenSpec.ofChange umrecvOrderSpec)

/-- ITS FALSE NEIGHBOUR: 'it returns false'. Refute it at one input. -/
def umrecvOrderWrong : ChangeSpec := { name := "umrecvOrder", fn := fun _ => fun
  | [d1, d2, d3, d4] => { results := [.lit (.bool false)], args := [d1, d2, d3, d4] }
  | _ => none }
def UmrecvOrderWrongFalsely : Prop := umrecvOrderRow.holds Try.pinned (OpenSpec.ofChange umrecvOrderWrong)

/-- 'userplanelaw32.UmrecvHolds': WHATEVER THE INPUT: true; the input reads as it did. -/
def umrecvHoldsSpec : ChangeSpec := { name := "umrecvHolds", fn := fun _ => fun
  | [d1, d2, d3] => { results := [.lit (.bool true)], args := [d1, d2, d3] }
  | _ => none }
def umrecvHoldsRow : OpenClaim := { program := "ytchlbpfeiamieaa", sum := "5393cebfe835dc681b3c3f230dd2ae67812dd9a8a456bbcfa286d80bece35595", func := "userplane/userplanelaw32.UmrecvHolds", spec := "umrecvHolds", unfollowed := true, recurses := true, apart := false }
def UmrecvHoldsSaid : Prop := umrecvHoldsRow.holds Try.pinned (OpenSpec.ofChange umrecvHoldsSpec)

/-- ITS FALSE NEIGHBOUR: 'it returns false'. Refute it at one input. -/
def umrecvHoldsWrong : ChangeSpec := { name := "umrecvHolds", fn := fun _ => fun
  | [d1, d2, d3] => { results := [.lit (.bool false)], args := [d1, d2, d3] }
  | _ => none }
def UmrecvHoldsWrongFalsely : Prop := umrecvHoldsRow.holds Try.pinned (OpenSpec.ofChange umrecvHoldsWrong)

/- THE SECOND FORM. 'bulk': how many values and letters a reading holds, each counted each time it is reached (what is shared counts as often as it is met; a slice's spare places count too). A statement '..UptoSaid' is the law's where the arguments, and the package variables that the reading takes, are together of bulk at most 1048576: NARROWER than '..Said'. Prove '..Said' where nothing that the law and all that it calls make is longer than what came in: it says more and counts as full. Else prove '..UptoSaid'. A law counts once. -/
mutual
def uptoBulk {H : Type} : DataW H → Nat
  | .lit (.string bytes) => bytes.length + 1
  | .lit _ => 1
  | .nil => 1
  | .ptr d => uptoBulk d + 1
  | .slice elems spare => uptoBulkAll elems + uptoBulkAll spare + 1
  | .agg parts => uptoBulkAll parts + 1
  | .iface _ d => uptoBulk d + 1
  | .map entries => uptoBulkEntries entries + 1
  | .held _ => 1
def uptoBulkAll {H : Type} : List (DataW H) → Nat
  | [] => 0
  | d :: r => uptoBulk d + uptoBulkAll r
def uptoBulkEntries {H : Type} : List (Lit × DataW H) → Nat
  | [] => 0
  | x :: r => uptoBulkEntry x + uptoBulkEntries r
def uptoBulkEntry {H : Type} : Lit × DataW H → Nat
  | (.string bytes, d) => bytes.length + uptoBulk d + 1
  | (_, d) => uptoBulk d + 1
 end
def uptoSmall : (H : Type) → List (DataW H) → Bool := fun _ ds => decide (uptoBulkAll ds ≤ 1048576)
def OpenSpec.upto (s : _root_.Go.ChangeSpec) : _root_.Go.OpenSpec := { _root_.Go.OpenSpec.ofChange s with cond := some uptoSmall }

/-- 'userplanelaw30.UmpduEncodes', WHERE WHAT IT READS IS OF BULK AT MOST 1048576: true; the input reads as it did. -/
def umpduEncodesUptoRow : OpenClaim := { program := "ytchlbpfeiamieaa", sum := "5393cebfe835dc681b3c3f230dd2ae67812dd9a8a456bbcfa286d80bece35595", func := "userplane/userplanelaw30.UmpduEncodes", spec := "umpduEncodes", unfollowed := true, recurses := true, apart := false, narrowed := true }
def UmpduEncodesUptoSaid : Prop := umpduEncodesUptoRow.holds Try.pinned (OpenSpec.upto umpduEncodesSpec)

/-- 'userplanelaw30.UmpduDecodes', WHERE WHAT IT READS IS OF BULK AT MOST 1048576: true; the input reads as it did. -/
def umpduDecodesUptoRow : OpenClaim := { program := "ytchlbpfeiamieaa", sum := "5393cebfe835dc681b3c3f230dd2ae67812dd9a8a456bbcfa286d80bece35595", func := "userplane/userplanelaw30.UmpduDecodes", spec := "umpduDecodes", unfollowed := true, recurses := true, apart := false, narrowed := true }
def UmpduDecodesUptoSaid : Prop := umpduDecodesUptoRow.holds Try.pinned (OpenSpec.upto umpduDecodesSpec)

/-- 'userplanelaw30.UmpduSame', WHERE WHAT IT READS IS OF BULK AT MOST 1048576: true; the input reads as it did. -/
def umpduSameUptoRow : OpenClaim := { program := "ytchlbpfeiamieaa", sum := "5393cebfe835dc681b3c3f230dd2ae67812dd9a8a456bbcfa286d80bece35595", func := "userplane/userplanelaw30.UmpduSame", spec := "umpduSame", unfollowed := true, recurses := true, apart := false, narrowed := true }
def UmpduSameUptoSaid : Prop := umpduSameUptoRow.holds Try.pinned (OpenSpec.upto umpduSameSpec)

/-- 'userplanelaw30.UmpduCuts', WHERE WHAT IT READS IS OF BULK AT MOST 1048576: true; the input reads as it did. -/
def umpduCutsUptoRow : OpenClaim := { program := "ytchlbpfeiamieaa", sum := "5393cebfe835dc681b3c3f230dd2ae67812dd9a8a456bbcfa286d80bece35595", func := "userplane/userplanelaw30.UmpduCuts", spec := "umpduCuts", unfollowed := true, recurses := true, apart := false, narrowed := true }
def UmpduCutsUptoSaid : Prop := umpduCutsUptoRow.holds Try.pinned (OpenSpec.upto umpduCutsSpec)

/-- 'userplanelaw30.UmpduHolds', WHERE WHAT IT READS IS OF BULK AT MOST 1048576: true; the input reads as it did. -/
def umpduHoldsUptoRow : OpenClaim := { program := "ytchlbpfeiamieaa", sum := "5393cebfe835dc681b3c3f230dd2ae67812dd9a8a456bbcfa286d80bece35595", func := "userplane/userplanelaw30.UmpduHolds", spec := "umpduHolds", unfollowed := true, recurses := true, apart := false, narrowed := true }
def UmpduHoldsUptoSaid : Prop := umpduHoldsUptoRow.holds Try.pinned (OpenSpec.upto umpduHoldsSpec)

/-- 'userplanelaw32.UmrecvNone', WHERE WHAT IT READS IS OF BULK AT MOST 1048576: true; the input reads as it did. -/
def umrecvNoneUptoRow : OpenClaim := { program := "ytchlbpfeiamieaa", sum := "5393cebfe835dc681b3c3f230dd2ae67812dd9a8a456bbcfa286d80bece35595", func := "userplane/userplanelaw32.UmrecvNone", spec := "umrecvNone", unfollowed := true, recurses := true, apart := false, narrowed := true }
def UmrecvNoneUptoSaid : Prop := umrecvNoneUptoRow.holds Try.pinned (OpenSpec.upto umrecvNoneSpec)

/-- 'userplanelaw33.AmpduDecodes', WHERE WHAT IT READS IS OF BULK AT MOST 1048576: true; the input reads as it did. -/
def ampduDecodesUptoRow : OpenClaim := { program := "ytchlbpfeiamieaa", sum := "5393cebfe835dc681b3c3f230dd2ae67812dd9a8a456bbcfa286d80bece35595", func := "userplane/userplanelaw33.AmpduDecodes", spec := "ampduDecodes", unfollowed := true, recurses := true, apart := false, narrowed := true }
def AmpduDecodesUptoSaid : Prop := ampduDecodesUptoRow.holds Try.pinned (OpenSpec.upto ampduDecodesSpec)

/-- 'userplanelaw33.AmpduCuts', WHERE WHAT IT READS IS OF BULK AT MOST 1048576: true; the input reads as it did. -/
def ampduCutsUptoRow : OpenClaim := { program := "ytchlbpfeiamieaa", sum := "5393cebfe835dc681b3c3f230dd2ae67812dd9a8a456bbcfa286d80bece35595", func := "userplane/userplanelaw33.AmpduCuts", spec := "ampduCuts", unfollowed := true, recurses := true, apart := false, narrowed := true }
def AmpduCutsUptoSaid : Prop := ampduCutsUptoRow.holds Try.pinned (OpenSpec.upto ampduCutsSpec)

/-- 'userplanelaw33.AmpduEncodes', WHERE WHAT IT READS IS OF BULK AT MOST 1048576: true; the input reads as it did. -/
def ampduEncodesUptoRow : OpenClaim := { program := "ytchlbpfeiamieaa", sum := "5393cebfe835dc681b3c3f230dd2ae67812dd9a8a456bbcfa286d80bece35595", func := "userplane/userplanelaw33.AmpduEncodes", spec := "ampduEncodes", unfollowed := true, recurses := true, apart := false, narrowed := true }
def AmpduEncodesUptoSaid : Prop := ampduEncodesUptoRow.holds Try.pinned (OpenSpec.upto ampduEncodesSpec)

/-- 'userplanelaw33.AmpduAgain', WHERE WHAT IT READS IS OF BULK AT MOST 1048576: true; the input reads as it did. -/
def ampduAgainUptoRow : OpenClaim := { program := "ytchlbpfeiamieaa", sum := "5393cebfe835dc681b3c3f230dd2ae67812dd9a8a456bbcfa286d80bece35595", func := "userplane/userplanelaw33.AmpduAgain", spec := "ampduAgain", unfollowed := true, recurses := true, apart := false, narrowed := true }
def AmpduAgainUptoSaid : Prop := ampduAgainUptoRow.holds Try.pinned (OpenSpec.upto ampduAgainSpec)

/-- 'userplanelaw33.AmpduHolds', WHERE WHAT IT READS IS OF BULK AT MOST 1048576: true; the input reads as it did. -/
def ampduHoldsUptoRow : OpenClaim := { program := "ytchlbpfeiamieaa", sum := "5393cebfe835dc681b3c3f230dd2ae67812dd9a8a456bbcfa286d80bece35595", func := "userplane/userplanelaw33.AmpduHolds", spec := "ampduHolds", unfollowed := true, recurses := true, apart := false, narrowed := true }
def AmpduHoldsUptoSaid : Prop := ampduHoldsUptoRow.holds Try.pinned (OpenSpec.upto ampduHoldsSpec)

/-- 'userplanelaw31.UmsendHolds', WHERE WHAT IT READS IS OF BULK AT MOST 1048576: true; the input reads as it did. -/
def umsendHoldsUptoRow : OpenClaim := { program := "ytchlbpfeiamieaa", sum := "5393cebfe835dc681b3c3f230dd2ae67812dd9a8a456bbcfa286d80bece35595", func := "userplane/userplanelaw31.UmsendHolds", spec := "umsendHolds", unfollowed := true, recurses := true, apart := false, narrowed := true }
def UmsendHoldsUptoSaid : Prop := umsendHoldsUptoRow.holds Try.pinned (OpenSpec.upto umsendHoldsSpec)

/-- 'userplanelaw32.UmrecvOrder', WHERE WHAT IT READS IS OF BULK AT MOST 1048576: true; the input reads as it did. -/
def umrecvOrderUptoRow : OpenClaim := { program := "ytchlbpfeiamieaa", sum := "5393cebfe835dc681b3c3f230dd2ae67812dd9a8a456bbcfa286d80bece35595", func := "userplane/userplanelaw32.UmrecvOrder", spec := "umrecvOrder", unfollowed := true, recurses := true, apart := false, narrowed := true }
def UmrecvOrderUptoSaid : Prop := umrecvOrderUptoRow.holds Try.pinned (OpenSpec.upto umrecvOrderSpec)

/-- 'userplanelaw32.UmrecvHolds', WHERE WHAT IT READS IS OF BULK AT MOST 1048576: true; the input reads as it did. -/
def umrecvHoldsUptoRow : OpenClaim := { program := "ytchlbpfeiamieaa", sum := "5393cebfe835dc681b3c3f230dd2ae67812dd9a8a456bbcfa286d80bece35595", func := "userplane/userplanelaw32.UmrecvHolds", spec := "umrecvHolds", unfollowed := true, recurses := true, apart := false, narrowed := true }
def UmrecvHoldsUptoSaid : Prop := umrecvHoldsUptoRow.holds Try.pinned (OpenSpec.upto umrecvHoldsSpec)

end Rows
end Go.Proofs.Ytchlbpfeiamieaa
