/- law36: sent: what a transmitter sends in. -/
import Derived.Test.YtbhiklnljiehiaaGreatM2bk
namespace Go.Proofs.YtbhiklnljiehiaaGreat
section
def J6 (sizes:List UInt8) (i:Nat):Nat:=if sizes= [] then 20 else 5+(sizes[min i (sizes.length-1)]?.getD 0).toNat%60
def Ag (sizes:List UInt8) (aK:List (List UInt8)):Nat→List (List UInt8) × Nat
 |0=>(aK,0)
 |i+1=>(pI (J6 sizes i) ((Ag sizes aK i).1.length+1) (Ag sizes aK i).1 (Ag sizes aK i).2 0 0 0 false).2.2
structure Uj (left:List (List UInt8)) (sent:Nat):Prop where
 lt:∀x r,left=x::r→sent<x.length
 z:left= []→sent=0
 len:∀s∈left,1≤s.length∧s.length≤60
theorem Uj.step {left:List (List UInt8)} {sent:Nat} (h:Uj left sent) (n:Int) (f:Nat):Uj (pI n f left sent 0 0 0 false).2.2.1 (pI n f left sent 0 0 0 false).2.2.2:=by
 have hk:=IU n f left sent 0 0 0 false (fun s hs=>(h.len s hs).1) h.lt h.z;refine ⟨hk.lt_,hk.z_,fun s hs=> ?_⟩;by_cases hne:(pI n f left sent 0 0 0 false).1= []
 ·have:=hk.none_ hne;rw[this] at hs;exact h.len s hs
 ·obtain ⟨g,hg,_⟩:=hk.some_ hne;exact h.len s (by rw[hg];simp[hs])
theorem Dj:∀(l:List (List UInt8)) (t k:Nat),aP l (t+k)=aP (aP l t).1 ((aP l t).2+k)
 | [],t,k=>by simp[aP]
 |x::r,t,k=>by
  by_cases h:x.length≤t
  ·have e:aP (x::r) t=aP r (t-x.length):=by rw[aP,if_pos h]
   rw[e,←Dj r (t-x.length) k,aP,if_pos (by omega),show t+k-x.length=t-x.length+k by omega]
  ·have e:aP (x::r) t=(x::r,t):=by rw[aP,if_neg h]
   rw[e]
def agJ (sizes:List UInt8) (aK:List (List UInt8)) (i:Nat):Ou:=
 ⟨i,decide ((Ag sizes aK i).2=0),(pI (J6 sizes i) ((Ag sizes aK i).1.length+1) (Ag sizes aK i).1 (Ag sizes aK i).2 0 0 0 false).2.1,(pI (J6 sizes i) ((Ag sizes aK i).1.length+1) (Ag sizes aK i).1 (Ag sizes aK i).2 0 0 0 false).1,false,[],0⟩
structure Vs (sizes:List UInt8) (aK:List (List UInt8)) (i:Nat) (st:Sd):Prop where
 q:st.queue=aK
 d:st.done=0
 fr:st.front=0
 f0:st.first=0
 out:st.out=(List.range i).map (agJ sizes aK)
 tk:aP aK st.taken=Ag sizes aK i
 le:st.taken≤aj aK
 w:st.wait=true→0<st.fK
 fa:st.failed=false
 nw:st.now=0
 ow:st.eB=false
section
variable {sizes:List UInt8} {aK:List (List UInt8)} {i:Nat} {st:Sd}
end
end
section
open Go.RowKit Go.Shelf
attribute [local go_sem] Oper.semAt_some
section
variable {D F:Nat→Prop} {g:Nat} {c:Cf} {st:Sd} {vq vo:Value} {vs os:List Value} {w:World}
end
end
end Go.Proofs.YtbhiklnljiehiaaGreat
