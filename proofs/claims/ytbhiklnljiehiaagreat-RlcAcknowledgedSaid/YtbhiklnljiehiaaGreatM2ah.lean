/- Plain mathematics: what cutting a PDU co. -/
import Derived.Test.YtbhiklnljiehiaaGreatM2ab
namespace Go.Proofs.YtbhiklnljiehiaaGreat
section
def og (ps:List (List UInt8)) (off fr to k:Nat):List UInt8:=
 ((ps[k]?.getD []).drop (max (off+aj (ps.take k)) fr-(off+aj (ps.take k)))).take (min (off+aj (ps.take (k+1))) to-max (off+aj (ps.take k)) fr)
def kV (ps:List (List UInt8)) (off fr to k:Nat):Bool:=decide (max (off+aj (ps.take k)) fr<min (off+aj (ps.take (k+1))) to)
def aS (ps:List (List UInt8)) (off fr to:Nat):Nat→List (List UInt8)
 |0=> []
 |k+1=>if kV ps off fr to k then aS ps off fr to k++ [og ps off fr to k] else aS ps off fr to k
def bZ (ps:List (List UInt8)) (s:Bool) (off fr:Nat):Nat→Bool
 |0=>false
 |k+1=>bZ ps s off fr k||(decide (off+aj (ps.take k)=fr)&&(decide (0<k)||s))
def ed (ps:List (List UInt8)) (e:Bool) (off to:Nat):Nat→Bool
 |0=>false
 |k+1=>ed ps e off to k||(decide (off+aj (ps.take (k+1))=to)&&(decide (k+1<ps.length)||e))
theorem oO (ps:List (List UInt8)) (off fr to:Nat):∀k,(aS ps off fr to k).length≤k
 |0=>aN
 |k+1=>by
  have:=oO ps off fr to k;unfold aS;split
  ·simp;omega
  ·omega
end
end Go.Proofs.YtbhiklnljiehiaaGreat
