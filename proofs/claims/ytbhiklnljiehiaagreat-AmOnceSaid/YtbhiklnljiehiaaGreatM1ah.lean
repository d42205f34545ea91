/- Plain mathematics: what cutting a PDU co. -/
import Derived.Test.YtbhiklnljiehiaaGreatM1ab
namespace Go.Proofs.YtbhiklnljiehiaaGreat
section
def qf (ps:List (List UInt8)) (off fr to k:Nat):List UInt8:=
 ((ps[k]?.getD []).drop (max (off+aj (ps.take k)) fr-(off+aj (ps.take k)))).take (min (off+aj (ps.take (k+1))) to-max (off+aj (ps.take k)) fr)
def l8 (ps:List (List UInt8)) (off fr to k:Nat):Bool:=decide (max (off+aj (ps.take k)) fr<min (off+aj (ps.take (k+1))) to)
def aP (ps:List (List UInt8)) (off fr to:Nat):Nat→List (List UInt8)
 |0=> []
 |k+1=>if l8 ps off fr to k then aP ps off fr to k++ [qf ps off fr to k] else aP ps off fr to k
def aZ (ps:List (List UInt8)) (s:Bool) (off fr:Nat):Nat→Bool
 |0=>false
 |k+1=>aZ ps s off fr k||(decide (off+aj (ps.take k)=fr)&&(decide (0<k)||s))
def cu (ps:List (List UInt8)) (e:Bool) (off to:Nat):Nat→Bool
 |0=>false
 |k+1=>cu ps e off to k||(decide (off+aj (ps.take (k+1))=to)&&(decide (k+1<ps.length)||e))
theorem qI (ps:List (List UInt8)) (off fr to:Nat):∀k,(aP ps off fr to k).length≤k
 |0=>aN
 |k+1=>by
  have:=qI ps off fr to k;unfold aP;split
  ·simp;omega
  ·omega
end
end Go.Proofs.YtbhiklnljiehiaaGreat
