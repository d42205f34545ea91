/- Arguments opened: slices of bytes, slice. -/
import Derived.Test.YtbhiklnljiehiaaGreatM3bw
import Derived.ProofKit
import Derived.OpenShut
import Derived.ShutString
import Derived.ChangeOld
import Derived.Below
import Derived.Deep.Strs
set_option maxRecDepth 100000
namespace Go.Proofs.YtbhiklnljiehiaaGreat
open Tryz
section
open Go.ChangeShapes Go.WideShapes Go.ChangeAt Go.RowKit Go.Deep Go.Joins
section
variable {H:Type} {enc:TypeId × Value->H} {w:World} {base:Nat} {spare:Nat->Bool} {held:Bool}
theorem Tryz.und5:prog.underlying 5=some (.int .u8):=by kernel_rfl
theorem Tryz.und29:prog.underlying 31=some (.slice 5):=by kernel_rfl
theorem Qu {fuel:Nat} {v:Value} {x:DataW H × List MemPlace} (h:DataW.trod enc prog w base spare held fuel 31 [v]=some x):
 ∃(A:Option Addr) (n c:Nat) (l:List UInt8),v= .slice A n c/\n=l.length/\Sl w w A n c (dz l):=by
 rcases open_ints Tryz.und29 Tryz.und5 (by kernel_rfl) h with ⟨hcs,_⟩|⟨a,len,cap,zs,hcs,_,hl,hm,hz,_,hcell,hwz⟩
 .simp at hcs;subst hcs;exact ⟨none,0,0,[],rfl,rfl,Sl.aeZ.2 (by omega)⟩
 .simp at hcs;subst hcs;have hlen:len<=zs.length:=by rw[hz];split<;>omega
  have hll:((zs.take len).map fun z=>UInt8.ofNat z.toNat).length=len:=by simp;omega
  refine ⟨some a,len,cap,(zs.take len).map fun z=>UInt8.ofNat z.toNat,rfl,hll.symm,⟨by rw[ug,hll],hl,hm,fun hpos=>⟨a,rfl,?_,fun j u hu=> ?_⟩⟩⟩
  .have:=World.block_lt_of_cell? w _ (hcell 0 (by omega))
   rwa [block_add] at this
  .have hj:j<len:=by
    have:=(pN.1 hu).1;rw[ug,hll] at this;exact this
   rw[hcell j (by omega)];unfold dz at hu;rw[oW,oW,pW,bD hj,gX (by omega)] at hu;simp only[G8,sj] at hu;rw[<-hu];have hw:=hwz _ (xR (by omega:j<zs.length));have hb:=bounds_u8 hw;have e:zs.getD j 0=zs[j]'(by omega):=by simp[List.getD_eq_getElem?_getD,List.getElem?_eq_getElem (by omega:j<zs.length)]
   rw[e];unfold bv
   congr 2
   rw[UInt8.toNat_ofNat',ID (by omega)];omega
end
end
section
open Go.ChangeShapes Go.WideShapes Go.ChangeAt Go.RowKit Go.Deep Go.Joins
section
variable {H:Type} {enc:TypeId × Value->H} {w:World} {base:Nat} {spare:Nat->Bool} {held:Bool}
end
end
section
open Go.ChangeShapes Go.WideShapes Go.ChangeAt Go.RowKit Go.Deep Go.Joins
theorem Tx:ownKnob prog.godebug=none:=by kernel_rfl
theorem zo:laidOutB prog=true:=by kernel_rfl
section
variable {H:Type} {enc:TypeId × Value->H} {w:World} {base:Nat} {spare:Nat->Bool} {held:Bool}
end
end
section
open Go.ChangeShapes Go.WideShapes Go.ChangeAt Go.RowKit Go.Deep Go.Joins
theorem ZQ {α:Type} {cs:Array α} (h:cs.size=7):∃c0 c1 c2 c3 c4 c5 c6,cs= #[c0,c1,c2,c3,c4,c5,c6]:=by
 obtain ⟨l⟩:=cs
 match l,h with
 | [c0,c1,c2,c3,c4,c5,c6],_=>exact ⟨c0,c1,c2,c3,c4,c5,c6,rfl⟩
theorem Br:prog.cellsOf 23=7/\prog.cellsOf 3=1/\prog.cellsOf 33=5/\prog.cellsOf 4=1/\prog.cellsOf 5=1/\prog.cellsOf 31=1:=⟨by kernel_rfl,by kernel_rfl,by kernel_rfl,by kernel_rfl,by kernel_rfl,by kernel_rfl⟩
section
variable {H:Type} {enc:TypeId × Value->H} {w:World} {base:Nat} {spare:Nat->Bool} {held:Bool}
theorem rG {fuel:Nat} {c:Value} {x:DataW H × List MemPlace} (h:DataW.trod enc prog w base spare held fuel 3 [c]=some x):∃k:Int,c= .int .i64 k:=by
 obtain ⟨k0,e0,_,hw⟩:=DataW.trod_int Tryz.underlying3 h;simp at e0;exact ⟨k0,e0⟩
theorem LD {fuel:Nat} {c:Value} {x:DataW H × List MemPlace} (h:DataW.trod enc prog w base spare held fuel 5 [c]=some x):∃k:UInt8,c= .int .u8 k.toNat:=by
 obtain ⟨k0,e0,_,hw⟩:=DataW.trod_int Tryz.underlying5 h;simp at e0;have hw2:=bounds_u8 hw;subst e0;refine ⟨UInt8.ofNat k0.toNat,?_⟩
 congr 1
 rw[UInt8.toNat_ofNat'];omega
theorem Qv {fuel:Nat} {c0 c1 c2 c3 c4 c5 c6:Value} {x:DataW H × List MemPlace} (h:DataW.trod enc prog w base spare held fuel 23 [c0,c1,c2,c3,c4,c5,c6]=some x):
 ∃a0 a1 a2 a3 a4 a5 a6:Int,c0= .int .i64 a0/\c1= .int .i64 a1/\c2= .int .i64 a2/\c3= .int .i64 a3/\c4= .int .i64 a4/\c5= .int .i64 a5/\c6= .int .i64 a6:=by
 obtain ⟨xs,n,_,_,_,hlen,hf⟩:=DataW.trod_struct Tryz.underlying23 h
 match xs,hlen with
 | [y0,y1,y2,y3,y4,y5,y6],_=>
  have h0:=hf 0 _ rfl;have h1:=hf 1 _ rfl;have h2:=hf 2 _ rfl;have h3:=hf 3 _ rfl;have h4:=hf 4 _ rfl;have h5:=hf 5 _ rfl;have h6:=hf 6 _ rfl;simp[Br] at h0 h1 h2 h3 h4 h5 h6;obtain ⟨k0,rfl⟩:=rG h0;obtain ⟨k1,rfl⟩:=rG h1;obtain ⟨k2,rfl⟩:=rG h2;obtain ⟨k3,rfl⟩:=rG h3;obtain ⟨k4,rfl⟩:=rG h4;obtain ⟨k5,rfl⟩:=rG h5;obtain ⟨k6,rfl⟩:=rG h6;exact ⟨k0,k1,k2,k3,k4,k5,k6,rfl,rfl,rfl,rfl,rfl,rfl,rfl⟩
theorem Ty {r:Reach} {b0:Nat} {v:Value} {d:DataW H} {p:List MemPlace} (hv:Value.okWide prog w r b0 23 v) (h:DataW.Trod enc prog w base spare held 23 v d p):
 ∃a0 a1 a2 a3 a4 a5 a6:Int,v= .agg #[a0,a1,a2,a3,a4,a5,a6]:=by
 obtain ⟨cs,rfl,hsz⟩:=okWide_struct Tryz.underlying23 hv;obtain ⟨c0,c1,c2,c3,c4,c5,c6,rfl⟩:=ZQ (hsz.trans Br.1);obtain ⟨fuel,hf⟩:=h;obtain ⟨a0,a1,a2,a3,a4,a5,a6,rfl,rfl,rfl,rfl,rfl,rfl,rfl⟩:=Qv (by simpa[Value.cells] using hf);exact ⟨a0,a1,a2,a3,a4,a5,a6,rfl⟩
theorem WL {fuel:Nat} {c0 c1 c2 c3 c4:Value} {x:DataW H × List MemPlace} (h:DataW.trod enc prog w base spare held fuel 33 [c0,c1,c2,c3,c4]=some x):
 ∃y:EvQ,[c0,c1,c2,c3,c4]=evL y/\Sl w w y.A y.b.length y.c (dz y.b):=by
 obtain ⟨xs,n,_,_,_,hlen,hf⟩:=DataW.trod_struct Tryz.underlying33 h
 match xs,hlen with
 | [y0,y1,y2,y3,y4],_=>
  have h0:=hf 0 _ rfl;have h1:=hf 1 _ rfl;have h2:=hf 2 _ rfl;have h3:=hf 3 _ rfl;have h4:=hf 4 _ rfl;simp[Br] at h0 h1 h2 h3 h4;obtain ⟨k0,rfl⟩:=rG h0;obtain ⟨e,e1,_⟩:=DataW.trod_bool Tryz.underlying4 h1;simp at e1;subst e1;obtain ⟨k2,rfl⟩:=LD h2;obtain ⟨k3,rfl⟩:=LD h3;obtain ⟨A,nn,c,l,rfl,rfl,hs⟩:=Qu h4;exact ⟨⟨k0,e,k2,k3,A,l,c⟩,rfl,hs⟩
theorem Tz {fuel:Nat} {v:Value} {x:DataW H × List MemPlace} (h:DataW.trod enc prog w base spare held fuel 24 [v]=some x):
 ∃(A:Option Addr) (n c:Nat) (l:List EvQ),v= .slice A n c/\ZM w w A n c l:=by
 rcases open_slice Tryz.underlying24 h with ⟨hcs,_⟩|⟨a,len,cap,m,n,D,Pl,hcs,_,hl,hm,hmm,_,hx⟩
 .simp at hcs;subst hcs;exact ⟨none,0,0,[],rfl,⟨rfl,by omega,by omega,fun h=>by omega⟩⟩
 .simp at hcs;subst hcs;have hlm:len<=m:=by rw[hmm];split<;>omega
  have key:∀i,∃y:EvQ,i<len->(∀j v,(evL y)[j]? =some v->w.cell? (a.add (i*5+j))=some v)/\Sl w w y.A y.b.length y.c (dz y.b):=by
   intro i;by_cases hi:i<len
   .obtain ⟨cs',hc,ht⟩:=hx i (by omega);rw[Br.2.2.1] at hc;obtain ⟨_,hcl,hat⟩:=World.cells?_some hc
    match cs',hcl with
    | [c0,c1,c2,c3,c4],_=>
     obtain ⟨y,hy,hiy⟩:=WL ht;refine ⟨y,fun _=>⟨fun j v hv=> ?_,hiy⟩⟩;rw[<-hy] at hv;obtain ⟨hj,hv⟩:=pN.1 hv;have:=hat j (by simpa using hj);rw[Go.Deep.add_add] at this;rw[this];simp[List.getElem?_eq_getElem hj,hv]
   .exact ⟨⟨0,false,0,0,none,[],0⟩,fun h=>absurd h hi⟩
  have ⟨L,hL⟩:=Classical.axiomOfChoice key;refine ⟨some a,len,cap,(List.range len).map L,rfl,⟨by simp,hl,hm,fun hpos=>⟨a,rfl,?_,fun j u hu=> ?_⟩⟩⟩
  .have:=World.block_lt_of_cell? w _ ((hL 0 hpos).1 0 _ rfl)
   rwa [block_add] at this
  .have hj:j<len:=by
    have:=(pN.1 hu).1;simpa using this
   simp[hj] at hu;subst hu;exact hL j hj
theorem WM {r:Reach} {b0:Nat} {v:Value} {d:DataW H} {p:List MemPlace} (hv:Value.okWide prog w r b0 24 v) (h:DataW.Trod enc prog w base spare held 24 v d p):
 ∃(A:Option Addr) (n c:Nat) (l:List EvQ),v= .slice A n c/\ZM w w A n c l:=by
 obtain ⟨A,n,c,rfl⟩:=okWide_slice Tryz.underlying24 hv;obtain ⟨fuel,hf⟩:=h;obtain ⟨A2,n2,c2,l,hv2,hh⟩:=Tz (by simpa[Value.cells] using hf);cases hv2;exact ⟨A,n,c,l,rfl,hh⟩
end
end
section
open Go.ChangeShapes Go.WideShapes Go.ChangeAt Go.RowKit Go.Deep Go.Joins
theorem WN {H:Type} {enc:TypeId × Value->H} {w:World} {base:Nat} {spare:Nat->Bool} {held:Bool} {r:Reach} {b0:Nat} {v:Value} {d:DataW H} {p:List MemPlace} (hv:Value.okWide prog w r b0 5 v) (h:DataW.Trod enc prog w base spare held 5 v d p):
 ∃k:UInt8,v= .int .u8 k.toNat:=by
 obtain ⟨n,rfl⟩:=okWide_int Tryz.underlying5 hv;obtain ⟨fuel,hf⟩:=h;exact LD (by simpa[Value.cells] using hf)
end
end Go.Proofs.YtbhiklnljiehiaaGreat
