/- law37, plain: a link of two entities. -/
import Derived.Test.YtbhiklnljiehiaaGreatM2bn
namespace Go.Proofs.YtbhiklnljiehiaaGreat
section
open Go.RowKit
def dX (c:Cf) (s:Sd) (r:Rc) (now:Int) (x:List UInt8):Sd × Rc × List (List UInt8) × Int:=
 if x= [] then (s,r,[],5)
 else if (x.headD 0).toNat<128 then match oU x with
  | .inl er=>(s,r,[],(er:Nat))
  | .inr R=>((dB c s now (R.1:Nat) R.2).1,r,[],(dB c s now (R.1:Nat) R.2).2)
 else (s,(jH c r now x).1,(jH c r now x).2.1,((jH c r now x).2.2:Nat))
structure En where
 s:Sd
 r:Rc
 sent:List (List UInt8)
 inn:List (List UInt8)
 out:Nat
section
variable {a b:En} {G K:Nat} {c:Cf}
end
end
end Go.Proofs.YtbhiklnljiehiaaGreat
