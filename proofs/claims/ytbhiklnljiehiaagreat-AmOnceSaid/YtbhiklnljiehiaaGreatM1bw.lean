/- law37: made. -/
import Derived.Test.YtbhiklnljiehiaaGreatM1bv
import Derived.Deep.Slices
import Derived.ProofKit
import Derived.OpenShut
import Derived.ShutString
import Derived.ChangeOld
import Derived.Below
namespace Go.Proofs.YtbhiklnljiehiaaGreat
section
open Go.RowKit Go.Shelf
attribute [local go_sem] Oper.semAt_some
def en0:En:=⟨dK,gq,[],[],0⟩
def adV (w0 w:World) (a0 a1 a2 a3 a4 a5 a6:Int) (e:Ending) (w':World):Prop:=
 (dR a0 a1 a2 a3 a4 a5 a6=true∧∃g ga gb,e= .returned (.tuple #[.pointer (some ⟨g,0,none⟩),.bool true])∧CZ w0 false g ga gb (sZ a0 a1 a2 a3 a4 a5 a6) en0 en0 0 0 w')∨
 (Below w.heap.size w w'∧e= .returned (.tuple #[.pointer none,.bool false]))
theorem Ze {w w2:World} {ga gb:Nat} {c:Cf} {Fa Fb:Fp} (hb:Below w.heap.size w w2) (ha:ny w2 Fa ga c dK gq 0) (hbb:ny w2 Fb gb c dK gq 0) (h1:∀k,Fa k→w.heap.size≤k∧¬Fb k) (h2:∀k,Fb k→w.heap.size≤k):
 CZ w false w2.heap.size ga gb c en0 en0 0 0 (w2.alloc (.cells (uU false ga gb (.slice none 0 0) (.slice none 0 0) (.slice none 0 0) (.slice none 0 0) 0 0 0) 41)):=by
 have hal:=(Below.refl w2.heap.size w2).alloc (aN) (.cells (uU false ga gb (.slice none 0 0) (.slice none 0 0) (.slice none 0 0) (.slice none 0 0) 0 0 0) 41);have bl:=au.new w2 41 (uU false ga gb (.slice none 0 0) (.slice none 0 0) (.slice none 0 0) (.slice none 0 0) 0 0 0);have hap:Apart (.slice none 0 0) (.slice none 0 0):=fun k hk=>by cases hk
 exact ⟨0,0,Fa,Fb,.slice none 0 0,.slice none 0 0,.slice none 0 0,.slice none 0 0,aN,aN,
  {r:= {lN:=hb.trans (hal.mono hb.size),gl:=⟨_,bl⟩,gn:=hb.size,ea:=ha.below hal,eb:=hbb.below hal,fa:=fun k hk=>⟨(h1 k hk).1,by have:=ha.lt k hk;omega,(h1 k hk).2⟩,fb:=fun k hk=>⟨h2 k hk,by have:=hbb.lt k hk;omega⟩,s0:=⟨_,Rl.nil _ _ _⟩,s1:=⟨_,Rl.nil _ _ _⟩,i0:=⟨_,NY.nil _ _⟩,i1:=⟨_,NY.nil _ _⟩,rb:=fun v hv k hk=>by (rcases hv with rfl|rfl|rfl|rfl<;>cases hk),Rm:=hap,Oz:=hap,Rn:=hap,a12:=hap,Sj:=hap,a23:=hap},blk:=bl}⟩
theorem U2 {a0 a1 a2 a3 a4 a5 a6:Int} (h:dR a0 a1 a2 a3 a4 a5 a6=true):yu (sZ a0 a1 a2 a3 a4 a5 a6) en0 en0 0 0 0:=
 ⟨jo.start rfl rfl rfl rfl rfl rfl,jo.start rfl rfl rfl rfl rfl rfl,pU h,pU h,sP h,sP h,fun x hx=>by simp[en0] at hx,fun x hx=>by simp[en0] at hx,aN,aN,aN,aN⟩
set_option maxRecDepth 100000 in
set_option maxHeartbeats 4000000 in
theorem Lg (a0 a1 a2 a3 a4 a5 a6:Int) (w0 w:World) (hw0:Below w0.heap.size w0 w):Calls Tryz.prog 11 #[.agg (wK a0 a1 a2 a3 a4 a5 a6)] w (adV w0 w a0 a1 a2 a3 a4 a5 a6):=by
 have hN0:=EO a0 a1 a2 a3 a4 a5 a6;unfold wK at hN0 ⊢;have HN:=ah hN0;have HB0:=ah ((Below.refl _ w).alloc (aN) (.cells #[.int .i64 a0,.int .i64 a1,.int .i64 a2,.int .i64 a3,.int .i64 a4,.int .i64 a5,.int .i64 a6] 23));have R7:=ah (au.new w 23 #[.int .i64 a0,.int .i64 a1,.int .i64 a2,.int .i64 a3,.int .i64 a4,.int .i64 a5,.int .i64 a6]);have HW:=ah hw0;clear hN0 hw0;go_enter Tryz.func11,Tryz.ntmps11;go_wp2_with fail;generalize w.alloc (.cells #[.int .i64 a0,.int .i64 a1,.int .i64 a2,.int .i64 a3,.int .i64 a4,.int .i64 a5,.int .i64 a6] 23)=W0 at*;refine (HN.out W0).mono ?_;rintro e1 w1 ⟨hb1,h1⟩;have bc1:=R7.out.below hb1 R7.out.lt;obtain ⟨x0,x1,x2,x3,x4,x5,x6⟩:=rZ (a0:=a0) (a1:=a1) (a2:=a2) (a3:=a3) (a4:=a4) (a5:=a5) (a6:=a6) bc1;have HB1:=ah (HB0.out.trans (hb1.mono HB0.out.size));have HZ1:=ah (Nat.le_trans HB0.out.size hb1.size);have HZ0:=ah HB0.out.size;clear hb1 bc1;rcases h1 with ⟨hr,ga,Fa,rfl,hEa,hFa⟩|⟨hr,rfl⟩
 ·have HR:=ah hr;have Y7:=ah hEa;have HFA:=ah hFa;clear hEa hFa hr R7 HB0;go_wp2_with fail;clear x0 x1 x2 x3 x4 x5 x6;refine (HN.out w1).mono ?_;rintro e2 w2 ⟨hb2,⟨_,gb,Fb,rfl,hEb,Y8⟩|⟨hf,_⟩⟩
  ·have hL:=Ze (w:=w0) (HW.out.trans ((HB1.out.trans (hb2.mono HB1.out.size)).mono HW.out.size)) (Y7.out.below hb2) hEb (fun k hk=>⟨Nat.le_trans HW.out.size (Nat.le_trans HZ0.out (HFA.out k hk)),fun e=>by have:=Y8 k e;have:=Y7.out.lt k hk;omega⟩) (fun k hk=>Nat.le_trans HW.out.size (Nat.le_trans HZ1.out (Y8 k hk)));have HL:=ah hL;clear hL hb2 hEb Y8 Y7 HFA HB1 HZ1 HZ0 HN HW;unfold uU at HL;simp only[Bool.false_eq_true,if_false] at HL;go_wp2_with (go_at_call 20;refine (kZ _ _).mono ?_;rintro e1 w2 ⟨rfl,rfl⟩)
   go_ret2
   exact .inl ⟨HR.out,_,_,_,rfl,HL.out⟩
  ·exact absurd (HR.out.symm.trans hf) (by decide)
 ·have HR:=ah hr;clear hr R7 HB0;go_wp2_with fail;clear x0 x1 x2 x3 x4 x5 x6;refine (HN.out w1).mono ?_;rintro e2 w2 ⟨hb2,⟨hf,_⟩|⟨_,rfl⟩⟩
  ·exact absurd (hf.symm.trans HR.out) (by decide)
  ·have HB2:=ah (HB1.out.trans (hb2.mono HB1.out.size));clear hb2 HB1 HZ1 HZ0 HN HW;go_wp2_with (go_at_call 20;refine (kZ _ _).mono ?_;rintro e1 w2 ⟨rfl,rfl⟩)
   go_ret2
   exact .inr ⟨HB2.out,rfl⟩
end
section
open Go.RowKit Go.Shelf
attribute [local go_sem] Oper.semAt_some
structure EvQ where
 k:Int
 who:Bool
 n:UInt8
 pick:UInt8
 A:Option Addr
 b:List UInt8
 c:Nat
def evL (x:EvQ):List Value:= [.int .i64 x.k,.bool x.who,.int .u8 x.n.toNat,.int .u8 x.pick.toNat,.slice x.A x.b.length x.c]
structure Te (w:World) (B:Nat) (A:Option Addr) (n c:Nat) (l:List EvQ):Prop where
 len:l.length=n
 cap:n≤c
 mx:c≤9223372036854775807
 at_:0<n→∃ad,A=some ad∧ad.block<B∧∀j x,l[j]? =some x→(∀i v,(evL x)[i]? =some v→w.cell? (ad.add (j*5+i))=some v)∧Sl w B x.A x.b.length x.c (bQ x.b)
theorem D8 (ad:Addr) (j i:Nat) (hi:0<i):(⟨(ad.add j).block,(ad.add j).off+i,none⟩:Addr)=ad.add (j+i):=by
 unfold Addr.add;by_cases hj:j=0
 ·subst hj;rw[if_pos rfl,if_neg (by omega)];simp
 ·rw[if_neg hj,if_neg (by omega)];simp[Nat.add_assoc]
section
variable {w w':World} {B n c:Nat} {A:Option Addr} {l:List EvQ}
theorem Te.base (h:Te w B A n c l) (hb:Below B w w') {B':Nat} (hB:B≤B'):Te w' B' A n c l:=
 ⟨h.len,h.cap,h.mx,fun hn=>by
  obtain ⟨ad,e,hlt,hc⟩:=h.at_ hn;refine ⟨ad,e,Nat.lt_of_lt_of_le hlt hB,fun j x hj=> ?_⟩;obtain ⟨h1,h2⟩:=hc j x hj;exact ⟨fun i v hi=>(hb.cell (p:=ad.add (j*5+i)) (by rw[block_add];exact hlt)).trans (h1 i v hi),(h2.below hb).more hB⟩⟩
theorem Te.get (h:Te w B A n c l) (hb:Below B w w') {j:Nat} (hj:j<n):∃ad x,A=some ad∧ad.block<B∧l[j]? =some x∧Sl w B x.A x.b.length x.c (bQ x.b)∧
 w'.cell? (ad.add (j*5))=some (.int .i64 x.k)∧w'.cell? (ad.add (j*5+1))=some (.bool x.who)∧w'.cell? (ad.add (j*5+2))=some (.int .u8 x.n.toNat)∧
 w'.cell? (ad.add (j*5+3))=some (.int .u8 x.pick.toNat)∧w'.cell? (ad.add (j*5+4))=some (.slice x.A x.b.length x.c):=by
 obtain ⟨ad,e,hbl,hc⟩:=h.at_ (by omega);have hl:j<l.length:=by have:=h.len;omega
 obtain ⟨h1,h2⟩:=hc j _ (List.getElem?_eq_getElem hl);have key:∀i v,(evL l[j])[i]? =some v→w'.cell? (ad.add (j*5+i))=some v:=fun i v hi=>(hb.cell (p:=ad.add (j*5+i)) (by rw[block_add];exact hbl)).trans (h1 i v hi)
 exact ⟨ad,l[j],e,hbl,List.getElem?_eq_getElem hl,h2,key 0 _ rfl,key 1 _ rfl,key 2 _ rfl,key 3 _ rfl,key 4 _ rfl⟩
end
def Xd (l:List EvQ) (m:Nat) (w:World) (e:Ending) (w':World):Prop:=∃b:Bool,e= .returned (.bool b)∧(b=true→l.length≤m∧∀x∈l,x.b.length≤60)∧w=w'
set_option maxRecDepth 10000 in
set_option maxHeartbeats 1000000 in
theorem He (A:Option Addr) (n c:Nat) (l:List EvQ) (w:World) (h:Te w w.heap.size A n c l) (m:Nat) (hm:m≤200):
 Calls Tryz.prog 9 #[.slice A n c,.int .i64 m] w (Xd l m w):=by
 have hn63:n≤9223372036854775807:=by have:=h.cap;have:=h.mx;omega
 have hlen:=h.len;by_cases h60:m<n
 ·go_enter Tryz.func9,Tryz.ntmps9;go_wp2;go_ret;exact ⟨false,rfl,by simp,rfl⟩
 ·go_enter Tryz.func9,Tryz.ntmps9;go_wp2
  go_loop [5] (fun i=>∃k:Nat,k≤n∧i= .int .i64 k∧∀x∈l.take k,x.b.length≤60) (fun i=>n-(intOf i).toNat)
  case atStart=>exact ⟨0,Nat.zero_le _,rfl,by simp⟩
  case round=>
   obtain ⟨k,hk,rfl,hall⟩:=hrel;have nD:=ah hall;clear hall;by_cases hlt:k<n
   ·obtain ⟨ad,x,rfl,hb,hx,hI,h0,h1,h2,h3,h4⟩:=h.get (Below.refl _ w) hlt;have htk:l.take (k+1)=l.take k++ [x]:=by rw[List.take_add_one,hx];rfl
    have J5:=ah htk;have hcap:=hI.cap;have hmx:=hI.mx;have e4:=h4;rw[←D8 _ _ _ (by decide)] at e4;clear hx htk h0 h1 h2 h3 hI;generalize hxl:x.b.length=nb at*;have HXL:=ah hxl;clear hxl;go_wp2
    all_goals first
     |(go_ret;exact ⟨false,rfl,by simp,rfl⟩)
     |(
      go_round
      case rel=>
       refine ⟨k+1,by omega,by go_num,fun y hy=> ?_⟩;rw[J5.out,List.mem_append] at hy;rcases hy with hy|hy
       ·exact nD.out y hy
       ·simp at hy;rw[hy,HXL.out];omega
      case measure=>simp[intOf];omega)
   ·have e1:l.take k=l:=List.take_of_length_le (by omega);rw[e1] at nD;have jF:=ah hlen;clear e1 hlen;go_wp2;go_ret;exact ⟨true,rfl,fun _=>⟨by rw[jF.out];omega,nD.out⟩,rfl⟩
end
end Go.Proofs.YtbhiklnljiehiaaGreat
namespace Go.Proofs.YtbhiklnljiehiaaGreat
open Go.ChangeShapes Go.WideShapes Go.ChangeAt Go.RowKit Go.Deep Go.Joins
section
variable {H:Type} {enc:TypeId × Value→H} {w:World} {base:Nat} {spare:Nat→Bool} {held:Bool}
theorem Tryz.und5:Tryz.prog.underlying 5=some (.int .u8):=by kernel_rfl
theorem Tryz.und29:Tryz.prog.underlying 31=some (.slice 5):=by kernel_rfl
theorem Li {fuel:Nat} {v:Value} {x:DataW H × List MemPlace} (h:DataW.trod enc Tryz.prog w base spare held fuel 31 [v]=some x):
 ∃(A:Option Addr) (n c:Nat) (l:List UInt8),v= .slice A n c∧n=l.length∧Sl w w.heap.size A n c (bQ l):=by
 rcases open_ints Tryz.und29 Tryz.und5 (by kernel_rfl) h with ⟨hcs,_⟩|⟨a,len,cap,zs,hcs,_,hl,hm,hz,_,hcell,hwz⟩
 ·simp at hcs;subst hcs;exact ⟨none,0,0,[],rfl,rfl,Sl.aaa.2 (by omega)⟩
 ·simp at hcs;subst hcs;have hlen:len≤zs.length:=by rw[hz];split<;>omega
  have hll:((zs.take len).map fun z=>UInt8.ofNat z.toNat).length=len:=by simp;omega
  refine ⟨some a,len,cap,(zs.take len).map fun z=>UInt8.ofNat z.toNat,rfl,hll.symm,⟨by rw[pY,hll],hl,hm,fun hpos=>⟨a,rfl,?_,fun j u hu=> ?_⟩⟩⟩
  ·have:=World.block_lt_of_cell? w _ (hcell 0 (by omega))
   rwa [block_add] at this
  ·have hj:j<len:=by
    have:=(List.getElem?_eq_some_iff.1 hu).1;rw[pY,hll] at this;exact this
   rw[hcell j (by omega)];unfold bQ at hu;rw[List.getElem?_map,List.getElem?_map,List.getElem?_take,if_pos hj,List.getElem?_eq_getElem (by omega)] at hu;simp only[Option.map_some,Option.some.injEq] at hu;rw[←hu];have hw:=hwz _ (List.getElem_mem (by omega:j<zs.length));have hb:=bounds_u8 hw;have e:zs.getD j 0=zs[j]'(by omega):=by simp[List.getD_eq_getElem?_getD,List.getElem?_eq_getElem (by omega:j<zs.length)]
   rw[e];unfold bv
   congr 2
   rw[UInt8.toNat_ofNat',Nat.mod_eq_of_lt (by omega)];omega
end
end Go.Proofs.YtbhiklnljiehiaaGreat
namespace Go.Proofs.YtbhiklnljiehiaaGreat
open Go.ChangeShapes Go.WideShapes Go.ChangeAt Go.RowKit Go.Deep Go.Joins
section
variable {H:Type} {enc:TypeId × Value→H} {w:World} {base:Nat} {spare:Nat→Bool} {held:Bool}
end
end Go.Proofs.YtbhiklnljiehiaaGreat
namespace Go.Proofs.YtbhiklnljiehiaaGreat
open Go.ChangeShapes Go.WideShapes Go.ChangeAt Go.RowKit Go.Deep Go.Joins
theorem N8:ownKnob Tryz.prog.godebug=none:=by kernel_rfl
theorem CJ:laidOutB Tryz.prog=true:=by kernel_rfl
section
variable {H:Type} {enc:TypeId × Value→H} {w:World} {base:Nat} {spare:Nat→Bool} {held:Bool}
end
end Go.Proofs.YtbhiklnljiehiaaGreat
