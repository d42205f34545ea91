/- Arguments opened: a configuration, a sli. -/
import Derived.Test.YtbhiklnljiehiaaGreatM1bw
import Derived.Deep.Strs
namespace Go.Proofs.YtbhiklnljiehiaaGreat
section
open Go.ChangeShapes Go.WideShapes Go.ChangeAt Go.RowKit Go.Deep Go.Joins
theorem U7 {α:Type} {cs:Array α} (h:cs.size=7):∃c0 c1 c2 c3 c4 c5 c6,cs= #[c0,c1,c2,c3,c4,c5,c6]:=by
 obtain ⟨l⟩:=cs
 match l,h with
 | [c0,c1,c2,c3,c4,c5,c6],_=>exact ⟨c0,c1,c2,c3,c4,c5,c6,rfl⟩
theorem wZ:Tryz.prog.cellsOf 23=7∧Tryz.prog.cellsOf 3=1∧Tryz.prog.cellsOf 33=5∧Tryz.prog.cellsOf 4=1∧Tryz.prog.cellsOf 5=1∧Tryz.prog.cellsOf 31=1:=⟨by kernel_rfl,by kernel_rfl,by kernel_rfl,by kernel_rfl,by kernel_rfl,by kernel_rfl⟩
section
variable {H:Type} {enc:TypeId × Value→H} {w:World} {base:Nat} {spare:Nat→Bool} {held:Bool}
theorem nZ {fuel:Nat} {c:Value} {x:DataW H × List MemPlace} (h:DataW.trod enc Tryz.prog w base spare held fuel 3 [c]=some x):∃k:Int,c= .int .i64 k:=by
 obtain ⟨k0,e0,_,hw⟩:=DataW.trod_int Tryz.underlying3 h;simp at e0;exact ⟨k0,e0⟩
theorem Mm {fuel:Nat} {c:Value} {x:DataW H × List MemPlace} (h:DataW.trod enc Tryz.prog w base spare held fuel 5 [c]=some x):∃k:UInt8,c= .int .u8 k.toNat:=by
 obtain ⟨k0,e0,_,hw⟩:=DataW.trod_int Tryz.underlying5 h;simp at e0;have hw2:=bounds_u8 hw;subst e0;refine ⟨UInt8.ofNat k0.toNat,?_⟩
 congr 1
 rw[UInt8.toNat_ofNat'];omega
theorem Lj {fuel:Nat} {c0 c1 c2 c3 c4 c5 c6:Value} {x:DataW H × List MemPlace} (h:DataW.trod enc Tryz.prog w base spare held fuel 23 [c0,c1,c2,c3,c4,c5,c6]=some x):
 ∃a0 a1 a2 a3 a4 a5 a6:Int,c0= .int .i64 a0∧c1= .int .i64 a1∧c2= .int .i64 a2∧c3= .int .i64 a3∧c4= .int .i64 a4∧c5= .int .i64 a5∧c6= .int .i64 a6:=by
 obtain ⟨xs,n,_,_,_,hlen,hf⟩:=DataW.trod_struct Tryz.underlying23 h
 match xs,hlen with
 | [y0,y1,y2,y3,y4,y5,y6],_=>
  have h0:=hf 0 _ rfl;have h1:=hf 1 _ rfl;have h2:=hf 2 _ rfl;have h3:=hf 3 _ rfl;have h4:=hf 4 _ rfl;have h5:=hf 5 _ rfl;have h6:=hf 6 _ rfl;simp[wZ] at h0 h1 h2 h3 h4 h5 h6;obtain ⟨k0,rfl⟩:=nZ h0;obtain ⟨k1,rfl⟩:=nZ h1;obtain ⟨k2,rfl⟩:=nZ h2;obtain ⟨k3,rfl⟩:=nZ h3;obtain ⟨k4,rfl⟩:=nZ h4;obtain ⟨k5,rfl⟩:=nZ h5;obtain ⟨k6,rfl⟩:=nZ h6;exact ⟨k0,k1,k2,k3,k4,k5,k6,rfl,rfl,rfl,rfl,rfl,rfl,rfl⟩
set_option maxRecDepth 100000 in
theorem N9 {r:Reach} {b0:Nat} {v:Value} {d:DataW H} {p:List MemPlace} (hv:Value.okWide Tryz.prog w r b0 23 v) (h:DataW.Trod enc Tryz.prog w base spare held 23 v d p):
 ∃a0 a1 a2 a3 a4 a5 a6:Int,v= .agg #[.int .i64 a0,.int .i64 a1,.int .i64 a2,.int .i64 a3,.int .i64 a4,.int .i64 a5,.int .i64 a6]:=by
 obtain ⟨cs,rfl,hsz⟩:=okWide_struct Tryz.underlying23 hv;obtain ⟨c0,c1,c2,c3,c4,c5,c6,rfl⟩:=U7 (hsz.trans wZ.1);obtain ⟨fuel,hf⟩:=h;obtain ⟨a0,a1,a2,a3,a4,a5,a6,rfl,rfl,rfl,rfl,rfl,rfl,rfl⟩:=Lj (by simpa[Value.cells] using hf);exact ⟨a0,a1,a2,a3,a4,a5,a6,rfl⟩
theorem RD {fuel:Nat} {c0 c1 c2 c3 c4:Value} {x:DataW H × List MemPlace} (h:DataW.trod enc Tryz.prog w base spare held fuel 33 [c0,c1,c2,c3,c4]=some x):
 ∃y:EvQ,[c0,c1,c2,c3,c4]=evL y∧Sl w w.heap.size y.A y.b.length y.c (bQ y.b):=by
 obtain ⟨xs,n,_,_,_,hlen,hf⟩:=DataW.trod_struct Tryz.underlying33 h
 match xs,hlen with
 | [y0,y1,y2,y3,y4],_=>
  have h0:=hf 0 _ rfl;have h1:=hf 1 _ rfl;have h2:=hf 2 _ rfl;have h3:=hf 3 _ rfl;have h4:=hf 4 _ rfl;simp[wZ] at h0 h1 h2 h3 h4;obtain ⟨k0,rfl⟩:=nZ h0;obtain ⟨e,e1,_⟩:=DataW.trod_bool Tryz.underlying4 h1;simp at e1;subst e1;obtain ⟨k2,rfl⟩:=Mm h2;obtain ⟨k3,rfl⟩:=Mm h3;obtain ⟨A,nn,c,l,rfl,rfl,hs⟩:=Li h4;exact ⟨⟨k0,e,k2,k3,A,l,c⟩,rfl,hs⟩
theorem Oa {fuel:Nat} {v:Value} {x:DataW H × List MemPlace} (h:DataW.trod enc Tryz.prog w base spare held fuel 24 [v]=some x):
 ∃(A:Option Addr) (n c:Nat) (l:List EvQ),v= .slice A n c∧Te w w.heap.size A n c l:=by
 rcases open_slice Tryz.underlying24 h with ⟨hcs,_⟩|⟨a,len,cap,m,n,D,Pl,hcs,_,hl,hm,hmm,_,hx⟩
 ·simp at hcs;subst hcs;exact ⟨none,0,0,[],rfl,⟨rfl,by omega,by omega,fun h=>by omega⟩⟩
 ·simp at hcs;subst hcs;have hlm:len≤m:=by rw[hmm];split<;>omega
  have key:∀i,∃y:EvQ,i<len→(∀j v,(evL y)[j]? =some v→w.cell? (a.add (i*5+j))=some v)∧Sl w w.heap.size y.A y.b.length y.c (bQ y.b):=by
   intro i;by_cases hi:i<len
   ·obtain ⟨cs',hc,ht⟩:=hx i (by omega);rw[wZ.2.2.1] at hc;obtain ⟨_,hcl,hat⟩:=World.cells?_some hc
    match cs',hcl with
    | [c0,c1,c2,c3,c4],_=>
     obtain ⟨y,hy,hiy⟩:=RD ht;refine ⟨y,fun _=>⟨fun j v hv=> ?_,hiy⟩⟩;rw[←hy] at hv;obtain ⟨hj,hv⟩:=List.getElem?_eq_some_iff.1 hv;have:=hat j (by simpa using hj);rw[Go.Deep.add_add] at this;rw[this];simp[List.getElem?_eq_getElem hj,hv]
   ·exact ⟨⟨0,false,0,0,none,[],0⟩,fun h=>absurd h hi⟩
  have ⟨L,hL⟩:=Classical.axiomOfChoice key;refine ⟨some a,len,cap,(List.range len).map L,rfl,⟨by simp,hl,hm,fun hpos=>⟨a,rfl,?_,fun j u hu=> ?_⟩⟩⟩
  ·have:=World.block_lt_of_cell? w _ ((hL 0 hpos).1 0 _ rfl)
   rwa [block_add] at this
  ·have hj:j<len:=by
    have:=(List.getElem?_eq_some_iff.1 hu).1;simpa using this
   simp[hj] at hu;subst hu;exact hL j hj
set_option maxRecDepth 100000 in
theorem RE {r:Reach} {b0:Nat} {v:Value} {d:DataW H} {p:List MemPlace} (hv:Value.okWide Tryz.prog w r b0 24 v) (h:DataW.Trod enc Tryz.prog w base spare held 24 v d p):
 ∃(A:Option Addr) (n c:Nat) (l:List EvQ),v= .slice A n c∧Te w w.heap.size A n c l:=by
 obtain ⟨A,n,c,rfl⟩:=okWide_slice Tryz.underlying24 hv;obtain ⟨fuel,hf⟩:=h;obtain ⟨A2,n2,c2,l,hv2,hh⟩:=Oa (by simpa[Value.cells] using hf);cases hv2;exact ⟨A,n,c,l,rfl,hh⟩
end
end
end Go.Proofs.YtbhiklnljiehiaaGreat
