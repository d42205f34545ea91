/- Arguments opened: slices of bytes, slice. -/
import Derived.Test.YtbhiklnljiehiaaGreatM2ak
import Derived.ProofKit
import Derived.OpenShut
import Derived.ShutString
import Derived.ChangeOld
import Derived.Below
import Derived.Deep.Slices
import Derived.Deep.Strs
namespace Go.Proofs.YtbhiklnljiehiaaGreat
open Go.ChangeShapes Go.WideShapes Go.ChangeAt Go.RowKit Go.Deep Go.Joins
section
variable {H:Type} {enc:TypeId × Value→H} {w:World} {base:Nat} {spare:Nat→Bool} {held:Bool}
theorem Tryz.und5:Tryz.prog.underlying 5=some (.int .u8):=by kernel_rfl
theorem Tryz.und29:Tryz.prog.underlying 31=some (.slice 5):=by kernel_rfl
theorem AJ {fuel:Nat} {v:Value} {x:DataW H × List MemPlace} (h:DataW.trod enc Tryz.prog w base spare held fuel 31 [v]=some x):
 ∃(A:Option Addr) (n c:Nat) (l:List UInt8),v= .slice A n c∧n=l.length∧Sl w w.heap.size A n c (bO l):=by
 rcases open_ints Tryz.und29 Tryz.und5 (by kernel_rfl) h with ⟨hcs,_⟩|⟨a,len,cap,zs,hcs,_,hl,hm,hz,_,hcell,hwz⟩
 ·simp at hcs;subst hcs;exact ⟨none,0,0,[],rfl,rfl,Sl.VB.2 (by omega)⟩
 ·simp at hcs;subst hcs;have hlen:len≤zs.length:=by rw[hz];split<;>omega
  have hll:((zs.take len).map fun z=>UInt8.ofNat z.toNat).length=len:=by simp;omega
  refine ⟨some a,len,cap,(zs.take len).map fun z=>UInt8.ofNat z.toNat,rfl,hll.symm,⟨by rw[ja,hll],hl,hm,fun hpos=>⟨a,rfl,?_,fun j u hu=> ?_⟩⟩⟩
  ·have:=World.block_lt_of_cell? w _ (hcell 0 (by omega))
   rwa [block_add] at this
  ·have hj:j<len:=by
    have:=(List.getElem?_eq_some_iff.1 hu).1;rw[ja,hll] at this;exact this
   rw[hcell j (by omega)];unfold bO at hu;rw[List.getElem?_map,List.getElem?_map,List.getElem?_take,if_pos hj,List.getElem?_eq_getElem (by omega)] at hu;simp only[Option.map_some,Option.some.injEq] at hu;rw[←hu];have hw:=hwz _ (List.getElem_mem (by omega:j<zs.length));have hb:=bounds_u8 hw;have e:zs.getD j 0=zs[j]'(by omega):=by simp[List.getD_eq_getElem?_getD,List.getElem?_eq_getElem (by omega:j<zs.length)]
   rw[e];unfold bv
   congr 2
   rw[UInt8.toNat_ofNat',Nat.mod_eq_of_lt (by omega)];omega
end
end Go.Proofs.YtbhiklnljiehiaaGreat
namespace Go.Proofs.YtbhiklnljiehiaaGreat
open Go.ChangeShapes Go.WideShapes Go.ChangeAt Go.RowKit Go.Deep Go.Joins
section
variable {H:Type} {enc:TypeId × Value→H} {w:World} {base:Nat} {spare:Nat→Bool} {held:Bool}
theorem Tryz.cells1:Tryz.prog.cellsOf 4=1∧Tryz.prog.cellsOf 37=1∧Tryz.prog.cellsOf 3=1:=⟨by kernel_rfl,by kernel_rfl,by kernel_rfl⟩
end
end Go.Proofs.YtbhiklnljiehiaaGreat
namespace Go.Proofs.YtbhiklnljiehiaaGreat
open Go.ChangeShapes Go.WideShapes Go.ChangeAt Go.RowKit Go.Deep Go.Joins
theorem Dt:ownKnob Tryz.prog.godebug=none:=by kernel_rfl
theorem sZ:laidOutB Tryz.prog=true:=by kernel_rfl
section
variable {H:Type} {enc:TypeId × Value→H} {w:World} {base:Nat} {spare:Nat→Bool} {held:Bool}
end
end Go.Proofs.YtbhiklnljiehiaaGreat
namespace Go.Proofs.YtbhiklnljiehiaaGreat
section
open Go.RowKit Go.Shelf
attribute [local go_sem] Oper.semAt_some
structure EvQ where
 k:Int
 who:Bool
 n:UInt8
 pick:UInt8
 A:Option Addr
 b:List UInt8
 c:Nat
section
variable {w w':World} {B n c:Nat} {A:Option Addr} {l:List EvQ}
end
end
section
open Go.ChangeShapes Go.WideShapes Go.ChangeAt Go.RowKit Go.Deep Go.Joins
theorem Us {α:Type} {cs:Array α} (h:cs.size=7):∃c0 c1 c2 c3 c4 c5 c6,cs= #[c0,c1,c2,c3,c4,c5,c6]:=by
 obtain ⟨l⟩:=cs
 match l,h with
 | [c0,c1,c2,c3,c4,c5,c6],_=>exact ⟨c0,c1,c2,c3,c4,c5,c6,rfl⟩
theorem Iv:Tryz.prog.cellsOf 23=7∧Tryz.prog.cellsOf 3=1∧Tryz.prog.cellsOf 33=5∧Tryz.prog.cellsOf 4=1∧Tryz.prog.cellsOf 5=1∧Tryz.prog.cellsOf 31=1:=⟨by kernel_rfl,by kernel_rfl,by kernel_rfl,by kernel_rfl,by kernel_rfl,by kernel_rfl⟩
section
variable {H:Type} {enc:TypeId × Value→H} {w:World} {base:Nat} {spare:Nat→Bool} {held:Bool}
theorem oL {fuel:Nat} {c:Value} {x:DataW H × List MemPlace} (h:DataW.trod enc Tryz.prog w base spare held fuel 3 [c]=some x):∃k:Int,c= .int .i64 k:=by
 obtain ⟨k0,e0,_,hw⟩:=DataW.trod_int Tryz.underlying3 h;simp at e0;exact ⟨k0,e0⟩
theorem Kv {fuel:Nat} {c0 c1 c2 c3 c4 c5 c6:Value} {x:DataW H × List MemPlace} (h:DataW.trod enc Tryz.prog w base spare held fuel 23 [c0,c1,c2,c3,c4,c5,c6]=some x):
 ∃a0 a1 a2 a3 a4 a5 a6:Int,c0= .int .i64 a0∧c1= .int .i64 a1∧c2= .int .i64 a2∧c3= .int .i64 a3∧c4= .int .i64 a4∧c5= .int .i64 a5∧c6= .int .i64 a6:=by
 obtain ⟨xs,n,_,_,_,hlen,hf⟩:=DataW.trod_struct Tryz.underlying23 h
 match xs,hlen with
 | [y0,y1,y2,y3,y4,y5,y6],_=>
  have h0:=hf 0 _ rfl;have h1:=hf 1 _ rfl;have h2:=hf 2 _ rfl;have h3:=hf 3 _ rfl;have h4:=hf 4 _ rfl;have h5:=hf 5 _ rfl;have h6:=hf 6 _ rfl;simp[Iv] at h0 h1 h2 h3 h4 h5 h6;obtain ⟨k0,rfl⟩:=oL h0;obtain ⟨k1,rfl⟩:=oL h1;obtain ⟨k2,rfl⟩:=oL h2;obtain ⟨k3,rfl⟩:=oL h3;obtain ⟨k4,rfl⟩:=oL h4;obtain ⟨k5,rfl⟩:=oL h5;obtain ⟨k6,rfl⟩:=oL h6;exact ⟨k0,k1,k2,k3,k4,k5,k6,rfl,rfl,rfl,rfl,rfl,rfl,rfl⟩
set_option maxRecDepth 100000 in
theorem Nv {r:Reach} {b0:Nat} {v:Value} {d:DataW H} {p:List MemPlace} (hv:Value.okWide Tryz.prog w r b0 23 v) (h:DataW.Trod enc Tryz.prog w base spare held 23 v d p):
 ∃a0 a1 a2 a3 a4 a5 a6:Int,v= .agg #[.int .i64 a0,.int .i64 a1,.int .i64 a2,.int .i64 a3,.int .i64 a4,.int .i64 a5,.int .i64 a6]:=by
 obtain ⟨cs,rfl,hsz⟩:=okWide_struct Tryz.underlying23 hv;obtain ⟨c0,c1,c2,c3,c4,c5,c6,rfl⟩:=Us (hsz.trans Iv.1);obtain ⟨fuel,hf⟩:=h;obtain ⟨a0,a1,a2,a3,a4,a5,a6,rfl,rfl,rfl,rfl,rfl,rfl,rfl⟩:=Kv (by simpa[Value.cells] using hf);exact ⟨a0,a1,a2,a3,a4,a5,a6,rfl⟩
end
end
end Go.Proofs.YtbhiklnljiehiaaGreat
