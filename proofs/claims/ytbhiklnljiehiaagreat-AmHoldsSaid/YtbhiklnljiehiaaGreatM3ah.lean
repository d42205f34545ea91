/- Plain mathematics: what cutting a PDU co. -/
import Derived.Test.YtbhiklnljiehiaaGreatM3ab
namespace Go.Proofs.YtbhiklnljiehiaaGreat
open Tryz
def um (ps:List (List UInt8)) (off fr to k:Nat):List UInt8:=
 ((ps[k]?.getD []).drop (max (off+aj (ps.take k)) fr-(off+aj (ps.take k)))).take (min (off+aj (ps.take (k+1))) to-max (off+aj (ps.take k)) fr)
def o9 (ps:List (List UInt8)) (off fr to k:Nat):Bool:=decide (max (off+aj (ps.take k)) fr<min (off+aj (ps.take (k+1))) to)
def aO (ps:List (List UInt8)) (off fr to:Nat):Nat->List (List UInt8)
 |0=> []
 |k+1=>if o9 ps off fr to k then aO ps off fr to k++ [um ps off fr to k] else aO ps off fr to k
def bQ (ps:List (List UInt8)) (s:Bool) (off fr:Nat):Nat->Bool
 |0=>false
 |k+1=>bQ ps s off fr k||(decide (off+aj (ps.take k)=fr)&&(decide (0<k)||s))
def dN (ps:List (List UInt8)) (e:Bool) (off to:Nat):Nat->Bool
 |0=>false
 |k+1=>dN ps e off to k||(decide (off+aj (ps.take (k+1))=to)&&(decide (k+1<ps.length)||e))
theorem uT (ps:List (List UInt8)) (off fr to:Nat):∀k,(aO ps off fr to k).length<=k
 |0=>aL
 |k+1=>by
  have:=uT ps off fr to k;unfold aO;split
  ·simp;omega
  ·omega
end Go.Proofs.YtbhiklnljiehiaaGreat
