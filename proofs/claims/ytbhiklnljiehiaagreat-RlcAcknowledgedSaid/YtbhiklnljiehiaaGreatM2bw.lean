/- Arguments opened: numbers, slices of byt. -/
import Derived.Test.YtbhiklnljiehiaaGreatM2bv
import Derived.ProofKit
import Derived.OpenShut
import Derived.ShutString
import Derived.ChangeOld
import Derived.Below
import Derived.Deep.Slices
import Derived.Deep.Strs
import Derived.SizedLaws
namespace Go.Proofs.YtbhiklnljiehiaaGreat.Tm
open Go.ChangeShapes Go.WideShapes Go.ChangeAt Go.RowKit Go.Deep Go.Joins
section
variable {H:Type} {enc:TypeId × Value→H} {w:World} {base:Nat} {spare:Nat→Bool} {held:Bool}
theorem Tryz.und5:Tryz.prog.underlying 5=some (.int .u8):=by kernel_rfl
theorem Tryz.und51:Tryz.prog.underlying 31=some (.slice 5):=by kernel_rfl
theorem AJ {fuel:Nat} {v:Value} {x:DataW H × List MemPlace} (h:DataW.trod enc Tryz.prog w base spare held fuel 31 [v]=some x):
 ∃(A:Option Addr) (n c:Nat) (l:List UInt8),v= .slice A n c∧n=l.length∧Sl w w.heap.size A n c (bO l):=by
 rcases open_ints Tryz.und51 Tryz.und5 (by kernel_rfl) h with ⟨hcs,_⟩|⟨a,len,cap,zs,hcs,_,hl,hm,hz,_,hcell,hwz⟩
 ·simp at hcs;subst hcs;exact ⟨none,0,0,[],rfl,rfl,Sl.VB.2 (by omega)⟩
 ·simp at hcs;subst hcs;have hlen:len≤zs.length:=by rw[hz];split<;>omega
  have hll:((zs.take len).map fun z=>UInt8.ofNat z.toNat).length=len:=by simp;omega
  refine ⟨some a,len,cap,(zs.take len).map fun z=>UInt8.ofNat z.toNat,rfl,hll.symm,⟨by rw[ja,hll],hl,hm,fun hpos=>⟨a,rfl,?_,fun j u hu=> ?_⟩⟩⟩
  ·have:=World.block_lt_of_cell? w _ (hcell 0 (by omega))
   rwa [block_add] at this
  ·have hj:j<len:=by
    have:=(List.getElem?_eq_some_iff.1 hu).1;rw[ja,hll] at this;exact this
   rw[hcell j (by omega)];unfold bO at hu;rw[List.getElem?_map,List.getElem?_map,List.getElem?_take,if_pos hj,List.getElem?_eq_getElem (by omega)] at hu;simp only[Option.map_some,Option.some.injEq] at hu;rw[←hu];have hw:=hwz _ (List.getElem_mem (by omega:j<zs.length));have hb:=bounds_u8 hw;have e:zs.getD j 0=zs[j]'(by omega):=by simp[List.getD_eq_getElem?_getD,List.getElem?_eq_getElem (by omega:j<zs.length)]
   rw[e];unfold bv
   congr 2
   rw[UInt8.toNat_ofNat',Nat.mod_eq_of_lt (by omega)];omega
theorem Dt:ownKnob Tryz.prog.godebug=none:=by kernel_rfl
theorem sZ:laidOutB Tryz.prog=true:=by kernel_rfl
theorem Tryz.cells1:Tryz.prog.cellsOf 31=1∧Tryz.prog.cellsOf 72=1∧Tryz.prog.cellsOf 3=1:=⟨by kernel_rfl,by kernel_rfl,by kernel_rfl⟩
theorem Tryz.cellsStep:Tryz.prog.cellsOf 86=4:=by kernel_rfl
theorem Ku {fuel:Nat} {c0 c1 c2 c3:Value} {x:DataW H × List MemPlace} (h:DataW.trod enc Tryz.prog w base spare held fuel 86 [c0,c1,c2,c3]=some x):
 ∃(kd now k:Int) (A:Option Addr) (n c:Nat) (l:List UInt8),c0= .int .i64 kd∧c1= .int .i64 now∧c2= .int .i64 k∧c3= .slice A n c∧Sl w w.heap.size A n c (bO l)∧(-9223372036854775808≤k∧k≤9223372036854775807)∧(-9223372036854775808≤now∧now≤9223372036854775807):=by
 obtain ⟨y0,y1,y2,y3,n,hx,_,h0,h1,h2,h3⟩:=trod_struct4 Tryz.underlying86 h;simp[Tryz.cells1] at h0 h1 h2 h3;obtain ⟨k0,e0,_,hw0⟩:=DataW.trod_int Tryz.underlying3 h0;obtain ⟨k1,e1,_,hw1⟩:=DataW.trod_int Tryz.underlying3 h1;obtain ⟨k2,e2,_,hw2⟩:=DataW.trod_int Tryz.underlying3 h2;obtain ⟨A,nn,c,l,rfl,rfl,hs⟩:=AJ h3;simp at e0 e1 e2;exact ⟨k0,k1,k2,A,_,c,l,e0,e1,e2,rfl,hs,bounds_i64 hw2,bounds_i64 hw1⟩
theorem qI {P:Program} {e:TypeId}:∀{l:List (DataW H)} {d:DataW H},d∈l→∀n∈d.weights P e,n∈DataW.weightsAll P e l
 |d'::r,d,hd,n,hn=>by
  simp only[DataW.weightsAll,List.mem_append];rcases List.mem_cons.1 hd with rfl|h
  ·exact Or.inl hn
  ·exact Or.inr (qI h n hn)
theorem Tryz.bytesU8:Tryz.prog.bytesOf 5=1:=by kernel_rfl
theorem Ur {fuel:Nat} {A:Option Addr} {n c R:Nat} {x:DataW H × List MemPlace} (h:DataW.trod enc Tryz.prog w base spare held fuel 31 [.slice A n c]=some x) (hw:∀m∈x.1.weights Tryz.prog 31,m≤R):n≤R:=by
 rcases open_ints Tryz.und51 Tryz.und5 (by kernel_rfl) h with ⟨hcs,_⟩|⟨a,len,cap,zs,hcs,_,hl,hm,hz,rfl,_,_⟩
 ·simp at hcs;omega
 ·simp at hcs;obtain ⟨_,rfl,rfl⟩:=hcs;have h1:=hw ((lits (H:=H) .u8 (zs.take n)).length+(lits (H:=H) .u8 (zs.drop n)).length) (by simp[DataW.weights,Tryz.bytesU8]);have h2:(lits (H:=H) .u8 (zs.take n)).length=n:=by
   have hzn:n≤zs.length:=by rw[hz];split<;>omega
   simp[lits];omega
  omega
theorem Ir {fuel R:Nat} {c0 c1 c2 c3:Value} {x:DataW H × List MemPlace} (h:DataW.trod enc Tryz.prog w base spare held fuel 86 [c0,c1,c2,c3]=some x) (hw:∀m∈x.1.weights Tryz.prog 86,m≤R):
 ∃y:kI,c0= .int .i64 y.kd∧c1= .int .i64 y.now∧c2= .int .i64 y.k∧c3= .slice y.A y.b.length y.c∧Sl w w.heap.size y.A y.b.length y.c (bO y.b)∧y.b.length≤R∧y.now≤9223372036854775807∧y.k≤9223372036854775807:=by
 obtain ⟨kd,now,k,A,n,c,l,e0,e1,e2,e3,hs,hk,hn⟩:=Ku h;have hll:l.length=n:=by simpa using hs.len
 subst hll;refine ⟨⟨kd,now,k,A,l,c⟩,e0,e1,e2,e3,hs,?_,hn.2,hk.2⟩;obtain ⟨y0,y1,y2,y3,q,rfl,_,h0,h1,h2,h3⟩:=trod_struct4 Tryz.underlying86 h;simp[Tryz.cells1] at h3;rw[e3] at h3;refine Ur h3 fun m hm=>hw m ?_
 simp[DataW.weights,Tryz.underlying86,DataW.weightsEach];exact .inr (.inr (.inr hm))
theorem EV {fuel R:Nat} {v:Value} {x:DataW H × List MemPlace} (h:DataW.trod enc Tryz.prog w base spare held fuel 81 [v]=some x) (hw:∀m∈x.1.weights Tryz.prog 81,m≤R):
 ∃(A:Option Addr) (n c:Nat) (l:List kI),v= .slice A n c∧Nq w w.heap.size A n c l∧∀y∈l,y.b.length≤R∧y.now≤9223372036854775807∧y.k≤9223372036854775807:=by
 rcases open_slice Tryz.underlying81 h with ⟨hcs,_⟩|⟨a,len,cap,m,n,D,Pl,hcs,_,hl,hm,hmm,rfl,hx⟩
 ·simp at hcs;subst hcs;exact ⟨none,0,0,[],rfl,⟨rfl,by omega,by omega,fun h=>by omega⟩,fun y hy=>by cases hy⟩
 ·simp at hcs;subst hcs;have hlm:len≤m:=by rw[hmm];split<;>omega
  have key:∀i,∃y:kI,i<len→(w.cell? (a.add (i*4))=some (.int .i64 y.kd)∧w.cell? (a.add (i*4+1))=some (.int .i64 y.now)∧w.cell? (a.add (i*4+2))=some (.int .i64 y.k)∧w.cell? (a.add (i*4+3))=some (.slice y.A y.b.length y.c)∧Sl w w.heap.size y.A y.b.length y.c (bO y.b))∧y.b.length≤R∧y.now≤9223372036854775807∧y.k≤9223372036854775807:=by
   intro i;by_cases hi:i<len
   ·obtain ⟨cs',hc,ht⟩:=hx i (by omega);rw[Tryz.cellsStep] at hc;obtain ⟨_,hcl,hat⟩:=World.cells?_some hc
    match cs',hcl with
    | [c0,c1,c2,c3],_=>
     obtain ⟨y,rfl,rfl,rfl,rfl,hs,hb⟩:=Ir ht (R:=R) fun q hq=>hw q (by
      simp only[DataW.weights,Tryz.underlying81,List.mem_cons,List.mem_append];exact .inr (.inl (qI (List.mem_map.2 ⟨i,List.mem_range.2 hi,rfl⟩) q hq)))
     have a0:=hat 0 (by omega);have a1:=hat 1 (by omega);have a2:=hat 2 (by omega);have a3:=hat 3 (by omega);rw[Go.Deep.add_add] at a0 a1 a2 a3;exact ⟨y,fun _=>⟨⟨a0,a1,a2,a3,hs⟩,hb⟩⟩
   ·exact ⟨⟨0,0,0,none,[],0⟩,fun h=>absurd h hi⟩
  have ⟨L,hL⟩:=Classical.axiomOfChoice key;refine ⟨some a,len,cap,(List.range len).map L,rfl,⟨by simp,hl,hm,fun hpos=>⟨a,rfl,?_,fun j u hu=> ?_⟩⟩,fun y hy=> ?_⟩
  ·have:=World.block_lt_of_cell? w _ (hL 0 hpos).1.1
   rwa [block_add] at this
  ·have hj:j<len:=by
    have:=(List.getElem?_eq_some_iff.1 hu).1;simpa using this
   simp[hj] at hu;subst hu;exact (hL j hj).1
  ·obtain ⟨j,hj,rfl⟩:=List.mem_map.1 hy;exact (hL j (List.mem_range.1 hj)).2
set_option maxRecDepth 100000 in
theorem Iu {r:Reach} {b0 R:Nat} {v:Value} {d:DataW H} {p:List MemPlace} (hv:Value.okWide Tryz.prog w r b0 81 v) (h:DataW.Trod enc Tryz.prog w base spare held 81 v d p) (hw:∀m∈d.weights Tryz.prog 81,m≤R):
 ∃(A:Option Addr) (n c:Nat) (l:List kI),v= .slice A n c∧Nq w w.heap.size A n c l∧∀y∈l,y.b.length≤R∧y.now≤9223372036854775807∧y.k≤9223372036854775807:=by
 obtain ⟨A,n,c,rfl⟩:=okWide_slice Tryz.underlying81 hv;obtain ⟨fuel,hf⟩:=h;obtain ⟨A2,n2,c2,l,hv2,hh,hl⟩:=EV (by simpa[Value.cells] using hf) hw;cases hv2;exact ⟨A,n,c,l,rfl,hh,hl⟩
end
end Go.Proofs.YtbhiklnljiehiaaGreat.Tm
