/- umpdu.Decode: the lengths. umpdu.Decode. -/
import Derived.Test.YtbhiklnljiehiaaGreatM3ad
import Derived.WideLaws
namespace Go.Proofs.YtbhiklnljiehiaaGreat
open RowKit Tryz
def BJ:Value->Nat
 | .slice _ n _=>n
 |_=>0
theorem OH {w:World} {base:Nat} {e:TypeId} {size n:Nat} {v:Value} {xs:List Value} (h:w.ownsRow base e size v n xs):BJ v=n:=by
 rcases h.2 with ⟨rfl,h0⟩|⟨g',cap,cur,rfl,_⟩
 ·exact h0.symm
 ·rfl
theorem XO (V:Nat) (h:V<4096):bits BinOp.and IntKind.u64 (V:Int) 2047=((V%2048:Nat):Int):=by
 have h1:=u64_and_nat V 2047 (by omega) (by omega);have h1':bits BinOp.and IntKind.u64 (V:Int) 2047=((V&&& 2047:Nat):Int):=h1;rw[h1'];have:V&&& 2047=V%2048:=Nat.and_two_pow_sub_one_eq_mod V 11;rw[this]
theorem uq:(prog.info? 31).map (fun i=>(i.zero,i.size,i.bytes))=some (some (.slice none 0 0),1,24):=by kernel_rfl
theorem wE:prog.underlying 37=some (.slice 31):=by kernel_rfl
theorem Sl.cut {w:World} {B n c k:Nat} {A:Option Addr} {xs:List Value} (h:Sl w B A n c xs) (hk:k<=n):Sl w B (if c=k then A else A.map (·.add k)) (n-k) (c-k) (xs.drop k):=by
 refine ⟨by rw[kC,h.len],by have:=h.cap;omega,by have:=h.mx;omega,fun hn=> ?_⟩;obtain ⟨ad,rfl,hb,hc⟩:=h.at_ (by omega);have:=h.cap;rw[aP (by omega)];refine ⟨ad.add k,rfl,by rw[block_add];exact hb,fun j u hu=> ?_⟩;rw[add_add];exact hc _ u (by rw[<-hu,vg])
def gV (w:World) (base:Nat) (vo:Value) (ps:List (List UInt8)):Prop:=
 ∃vs g cap data,w.ownsRow base 31 1 vo ps.length vs/\w.ownsRow base 5 1 (.slice (some ⟨g,0,none⟩) data.length cap) data.length (dz data)/\
  ∀(i:Nat) (p:List UInt8),ps[i]? =some p->∃off c,vs[i]? =some (Value.slice (some ⟨g,off,none⟩) p.length c)/\p.length<=c/\c<=9223372036854775807/\p=(data.drop off).take p.length
theorem gV.kept {w w':World} {base:Nat} {vo:Value} {ps:List (List UInt8)} (h:gV w base vo ps) (hk:∀k o,base<=k->w.heap[k]? =some o->w'.heap[k]? =some o):gV w' base vo ps:=by
 obtain ⟨vs,g,cap,data,h1,h2,h3⟩:=h;have go:∀{e:TypeId} {v:Value} {n:Nat} {xs:List Value},w.ownsRow base e 1 v n xs->w'.ownsRow base e 1 v n xs:=by
  intro e v n xs hh;rcases hh.2 with ⟨rfl,h0⟩|⟨g',cap,cur,rfl,h1,h2,h3⟩
  ·exact ⟨hh.1,.inl ⟨rfl,h0⟩⟩
  ·exact ⟨hh.1,.inr ⟨g',cap,cur,rfl,h1,hk _ _ h1 h2,h3⟩⟩
 exact ⟨vs,g,cap,data,go h1,go h2,h3⟩
theorem gV.base {w:World} {base base':Nat} {vo:Value} {ps:List (List UInt8)} (h:gV w base vo ps) (hb:base'<=base):gV w base' vo ps:=by
 obtain ⟨vs,g,cap,data,h1,h2,h3⟩:=h;exact ⟨vs,g,cap,data,bF h1 hb,bF h2 hb,h3⟩
theorem gV.WV {w:World} {base:Nat} {vo:Value} {ps:List (List UInt8)} (h:gV w base vo ps):∃A c vs,vo= .slice A ps.length c/\jW w w A ps.length c vs ps:=by
 obtain ⟨vs,g,cap,data,h1,h2,h3⟩:=h;obtain ⟨A,c,rfl,hs,_⟩:=aY h1;refine ⟨A,c,vs,rfl,hs,rfl,fun i p hi=> ?_⟩;obtain ⟨off,ci,e,hc1,hc2,hp⟩:=h3 i p hi;refine ⟨_,ci,e,⟨by simp,hc1,hc2,fun hpos=>⟨_,rfl,(h2.lt g rfl).2,fun j u hu=> ?_⟩⟩⟩;have hj:j<p.length:=by
  have:=(pN.1 hu).1;simpa using this
 have hcell:=h2.cells (g:=g) rfl (off+j) u (by
  unfold dz at hu ⊢;rw[oW] at hu ⊢;rw[hp,pW,bD hj,vg] at hu;exact hu)
 have e2:(⟨g,off,none⟩:Addr).add j=(⟨g,0,none⟩:Addr).add (off+j):=by
  unfold Addr.add;by_cases hj0:j=0
  ·subst hj0;by_cases ho:off=0
   ·simp[ho]
   ·simp[ho]
  ·simp[hj0]
 rw[e2];exact hcell
def kN (g:Nat) (ls:List Nat) (k:Nat):List Value:=(List.range k).map fun i=> .slice (some ⟨g,(ls.take i).sum,none⟩) (ls[i]?.getD 0) (ls[i]?.getD 0)
theorem Hq (g:Nat) (ls:List Nat) (k n:Nat) (h:ls[k]? =some n):kN g ls (k+1)=kN g ls k++ [.slice (some ⟨g,(ls.take k).sum,none⟩) n n]:=by
 simp[kN,List.range_succ,h]
def kT (P:Program) (fn:Func) (c₀:Frame) (cs cs':List Frame) (R:Ending->FrameMode->World->Prop) (e:Exit) (a:Act) (w:World):Prop:=bodyPostS P fn c₀ cs R e a cs' w
theorem pE (er:Int) (w:World):(Instr.typeAssert (.iface 53 er) 20 53 true).run prog w= .ok (.tuple #[er,.bool true]) w:=by kernel_rfl
theorem Kh (ps:List (List UInt8)) (M:Nat) (h:∀p∈ps,p.length<=M):aj ps<=M*ps.length:=by
 induction ps with
 |nil=>simp[aj]
 |cons p ps ih=>
  have h1:=h p (by simp);have h2:=ih (fun q hq=>h q (by simp[hq]));unfold aj at h2 ⊢;rw[vw,zK,jh,Nat.mul_succ];omega
def abw (b:Bool) (w:World) (e:Ending) (w':World):Prop:=e= .returned (.bool b)/\Below w w w'
end Go.Proofs.YtbhiklnljiehiaaGreat
