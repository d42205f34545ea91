/- Plain mathematics: what cutting a PDU comes to. -/
import Derived.Test.YtchlbpfeiamieaaMa
import Derived.Test.YtchlbpfeiamieaaWa
namespace Go.Proofs.Ytchlbpfeiamieaa

/-- part k, cut -/
def cutPart (ps : List (List UInt8)) (off fr to k : Nat) : List UInt8 :=
  ((ps[k]?.getD []).drop (max (off + sumLen (ps.take k)) fr - (off + sumLen (ps.take k)))).take (min (off + sumLen (ps.take (k + 1))) to - max (off + sumLen (ps.take k)) fr)
/-- does part k meet the range? -/
def cutHits (ps : List (List UInt8)) (off fr to k : Nat) : Bool := decide (max (off + sumLen (ps.take k)) fr < min (off + sumLen (ps.take (k + 1))) to)
/-- the parts of the first k parts, cut -/
def cutParts (ps : List (List UInt8)) (off fr to : Nat) : Nat → List (List UInt8)
  | 0 => []
  | k + 1 => if cutHits ps off fr to k then cutParts ps off fr to k ++ [cutPart ps off fr to k] else cutParts ps off fr to k
/-- Starts, after k parts -/
def cutStarts (ps : List (List UInt8)) (s : Bool) (off fr : Nat) : Nat → Bool
  | 0 => false
  | k + 1 => cutStarts ps s off fr k || (decide (off + sumLen (ps.take k) = fr) && (decide (0 < k) || s))
/-- Ends, after k parts -/
def cutEnds (ps : List (List UInt8)) (e : Bool) (off to : Nat) : Nat → Bool
  | 0 => false
  | k + 1 => cutEnds ps e off to k || (decide (off + sumLen (ps.take (k + 1)) = to) && (decide (k + 1 < ps.length) || e))
theorem cutParts_length (ps : List (List UInt8)) (off fr to : Nat) : ∀ k, (cutParts ps off fr to k).length ≤ k
  | 0 => Nat.le_refl _
  | k + 1 => by
    have := cutParts_length ps off fr to k
    unfold cutParts
    split
    · simp; omega
    · omega
end Go.Proofs.Ytchlbpfeiamieaa
