/- status.Ranges' iterator. -/
import Derived.Test.YtbhiklnljiehiaaGreatM2ay
namespace Go.Proofs.YtbhiklnljiehiaaGreat
section
open Go.RowKit Go.Shelf
attribute [local go_sem] Oper.semAt_some
def Mr (x:Nk):Int × Int:=if x.part=true then (x.fr,x.lt) else (0,32767)
def eF (sn:Int) (x:Nk):Bool:=decide (x.sn=sn)
def uL (l:List Nk) (k:Nat):Array Value:=match l[k]? with
 |some x=> #[.int .i64 (Mr x).1,.int .i64 (Mr x).2]
 |none=> #[undef,undef]
def jR (p:Nk→Bool) (l:List Nk) (k:Nat):Nat:=((l.take k).filter p).length
theorem sO (p:Nk→Bool):∀(l:List Nk) (k:Nat) (x:Nk),l[k]? =some x→jR p l (k+1)=jR p l k+(if p x=true then 1 else 0)
 | [],k,x,h=>by simp at h
 |y::t,0,x,h=>by
  simp at h;subst h;unfold jR;cases hp:p y<;>simp[hp]
 |y::t,k+1,x,h=>by
  have ih:=sO p t k x (by simpa using h);unfold jR at*;simp only[List.take_succ_cons,List.filter_cons];split
  ·simp only[List.length_cons];omega
  ·exact ih
theorem CV (p:Nk→Bool):∀(l:List Nk) (k:Nat) (x:Nk),l[k]? =some x→p x=true→(l.filter p)[jR p l k]? =some x
 | [],k,x,h,_=>by simp at h
 |y::t,0,x,h,hp=>by
  simp at h;subst h;unfold jR;simp[hp]
 |y::t,k+1,x,h,hp=>by
  have ih:=CV p t k x (by simpa using h) hp;unfold jR at*;simp only[List.take_succ_cons,List.filter_cons];split
  ·simpa using ih
  ·exact ih
theorem Jz (p:Nk→Bool) (l:List Nk):jR p l 0=0:=by simp[jR]
theorem Ms (p:Nk→Bool) (l:List Nk):jR p l l.length=(l.filter p).length:=by simp[jR]
theorem au.putObj {w:World} {b k:Nat} {t:TypeId} {cs:Array Value} (h:au w b t cs) (hne:b≠k) (o:Obj):au (w.putObj k o) b t cs:=(World.putObj_heap_other (by omega)).trans h
theorem Below.putObj {B k:Nat} {w:World} (hk:B≤k) (o:Obj):Below B w (w.putObj k o):=by
 have h:=grownBy_putObj' w k o;exact ⟨h.os,h.tape,h.output,h.size,fun j hj=>World.putObj_heap_other (by omega)⟩
theorem KeepsFrom.Xd {B:Nat} {M:Nat→Obj→Prop} {w w':World} (h:Kept M w w') (hM:∀k o,B≤k→o.isCells=false→¬M k o):KeepsFrom B w w':=⟨h.size,fun k o hk ho hc=>h.same k o ho (hM k o hk hc)⟩
theorem KeepsFrom.tr {B:Nat} {a b c:World} (h:KeepsFrom B a b) (k:KeepsFrom B b c):KeepsFrom B a c:=⟨Nat.le_trans h.size k.size,fun i o hi ho hc=>k.same i o hi (h.same i o hi ho hc) hc⟩
theorem KeepsFrom.Em {B b i:Nat} {w:World} {t:TypeId} {cs:Array Value} (h:au w b t cs) (u:Value):KeepsFrom B w (w.setCell ⟨b,i,none⟩ u):=by
 refine ⟨by simp[World.setCell],fun k o _ ho hc=> ?_⟩;rw[Below.heap_setCell w ⟨b,i,none⟩ u k ?_]
 ·exact ho
 ·intro e;have e2:k=b:=e;subst e2;unfold au at h;rw[h] at ho;cases ho;cases hc
theorem KeepsFrom.dD {B:Nat} {w w':World} (h:Below w.heap.size w w'):KeepsFrom B w w':=⟨h.size,fun k _o _ ho _=>(h.block k (Array.getElem?_eq_some_iff.1 ho).1).trans ho⟩
theorem xK {w:World} {r:Nat} (hr:r<w.heap.size) (c o:Obj):Below w.heap.size (w.putObj r o) ((w.alloc c).putObj r o):=by
 have h1:=grownBy_putObj' w r o;have h2:=grownBy_putObj' (w.alloc c) r o;have h3:=(Below.refl w.heap.size w).alloc (aN) c;have hz:(w.putObj r o).heap.size=w.heap.size:=by simp[World.putObj]
 refine ⟨(h2.os.trans h3.os).trans h1.os.symm,(h2.tape.trans h3.tape).trans h1.tape.symm,(h2.output.trans h3.output).trans h1.output.symm,?_,fun j hj=> ?_⟩
 ·have:=h2.size;have:=h3.size;omega
 ·by_cases e:j=r
  ·subst e;rw[World.putObj_heap_same (by have:=h3.size;omega),World.putObj_heap_same hj]
  ·rw[World.putObj_heap_other (by omega),World.putObj_heap_other (by omega)];exact h3.block j hj
set_option maxRecDepth 100000 in
set_option maxHeartbeats 4000000 in
theorem JA (n:Nat) (g b:Nat) (A:Option Addr) (N c:Nat) (l:List Nk) (sn:Int) (M:Nat→Obj→Prop) (w:World)
 (hg:au w g 131 #[.slice A N c]) (hb:au w b 3 #[.int .i64 sn]) (hv:bM w A N c l) (hlo:∀ad,A=some ad→ad.block<w.heap.size)
 (_hMg:∀o,¬M g o) (hMb:∀o,¬M b o) (N5:∀ad,A=some ad→∀o,¬M ad.block o) (hMo:∀k o,w.heap.size+2≤k→M k o→∃cs r,o= .cells cs 39 r):
 KN n Tryz.prog 208 #[.pointer (some ⟨g,0,none⟩),.pointer (some ⟨b,0,none⟩)] (uL (l.filter (eF sn))) (l.filter (eF sn)).length (Kept M) w:=fun p J W hW hW2 hJ hY h0=>by
 have hg':=(hg.below hW hg.lt).alloc (.cells #[.func (.yield p) #[] #[]] 42);have hb':=(hb.below hW hb.lt).alloc (.cells #[.func (.yield p) #[] #[]] 42);have hy':=au.new W 42 #[.func (.yield p) #[] #[]];have hv':=(hv.below hW).alloc (.cells #[.func (.yield p) #[] #[]] 42);have hc0:=hg'.cell 0;simp at hc0;have HW1:Below W.heap.size W (W.alloc (.cells #[.func (.yield p) #[] #[]] 42)):=(Below.refl _ W).alloc (aN) _;have hsz:(W.alloc (.cells #[.func (.yield p) #[] #[]] 42)).heap.size=W.heap.size+1:=World.size_alloc _ _;have Zd:=hg.lt;have hblt:=hb.lt;have hlen:=ah hv.len;have mZ:=Ph Fence.wide (n-1) trivial rfl A N c;have r9:=ah mZ;have HY:=ah hY;have HG:=ah hg';have HB:=ah hb';have HYB:=ah hy';have HV:=ah hv';have HS:=ah hsz;clear mZ hY hg' hb' hy' hv' hsz;have h0':=hJ.fresh _ _ _ h0 HW1;generalize hWg:W.alloc (.cells #[.func (.yield p) #[] #[]] 42)=W1 at*;refine callsIn_of_wp_marks Tryz.func208 rfl trivial ?_ rfl;simp only[Tryz.ntmps208,List.size_toArray,List.length_cons,List.length_nil,Nat.reduceAdd,Nat.reduceSub,Array.replicate_succ,Array.replicate_zero,List.push_toArray,List.append_toArray,List.nil_append,List.cons_append]
 gi_wp2
 refine jh ?_
 gi_wp2
 refine wpIn_label ?_
 gi_wp2_with fail
 refine ⟨trivial,(fun hh=>(by cases hh)),(r9.out W1).mono ?_⟩;rintro e w' ⟨rfl,rfl⟩;have HX:=ah (au.new W1 131 #[.slice A N c]);have YH:=ah (HG.out.alloc (.cells #[.slice A N c] 131));have HB2:=ah (HB.out.alloc (.cells #[.slice A N c] 131));have HY2:=ah (HYB.out.alloc (.cells #[.slice A N c] 131));have Pm:=ah (HV.out.alloc (.cells #[.slice A N c] 131));have h02:=hJ.fresh _ _ _ h0' ((Below.refl _ W1).alloc (aN) (.cells #[.slice A N c] 131));have HS2:=ah (World.size_alloc W1 (.cells #[.slice A N c] 131));generalize W1.alloc (.cells #[.slice A N c] 131)=W2 at*;clear HG HB HYB HV h0' hc0 HW1 hWg
 gi_wp2_with fail
 have hs2:=HS2.out;have hs1:=HS.out;have hWs:=hW.size;refine mP (gf:=222) (lb:= #[.pointer (some ⟨W1.heap.size,0,none⟩)]) rfl (enters_of Tryz.func222 (by kernel_rfl) rfl)
  (SL (n-1) W1.heap.size A N c l (fun k o=>M k o∨k=W2.heap.size+1) W2 HX.out Pm.out (fun ad e=>by have:=hlo ad e;omega) ?a1 ?a2)
  Kept.trans ?a3 (Below.refl _ _) (fun _=>rfl)
  (fun k Wk=>J (jR (eF sn) l k) Wk∧Kept (fun k o=>M k o∨k=W2.heap.size+1) W2 Wk) ?a4 ?a5 ?a6 ?a7
 case a1=>
  rintro (h|h)
  ·obtain ⟨cs,r,e⟩:=hMo _ _ (by omega) h;injection e with _ e2
   exact absurd e2 (by decide)
  ·omega
 case a2=>
  rintro ad e o (h|h)
  ·exact N5 ad e o h
  ·have:=hlo ad e;omega
 case a3=>
  intro Wk o o' ho hc;exact (Kept.refl _ Wk).grown (grownBy_putObj' Wk _ o') (fun j e _ _=>by cases e;exact .inr rfl)
 case a4=>
  refine ⟨fun k Wa Wb row hs hgr hr=>⟨(hJ.mono (by omega)).own _ Wa Wb row hs.1 hgr hr,hs.2.grown hgr (fun j e o ho=> ?_)⟩,fun k Wa Wb hs hbw=>⟨hJ.fresh _ _ _ hs.1 hbw,hs.2.trans (Kept.dD hbw)⟩⟩;have h1:=(hr j e).1;have h2:=(Array.getElem?_eq_some_iff.1 ho).1;omega
 case a5=>exact ⟨by rw[Jz];exact h02,Kept.refl _ _⟩
 case a7=>
  rintro D Wk hD ⟨hI,_⟩ UW;have hJN:J (l.filter (eF sn)).length Wk:=by
   rw[←Ms];have e:l.length=N:=hlen.out;rw[e];exact hI
  have HJN:=ah (hJ.own _ Wk _ (some D) hJN (grownBy_putObj' Wk D (.deferred none)) (fun r e=>by cases e;exact ⟨by omega,_,UW,rfl⟩));clear hI hJN
  gi_wp2_with fail
  rw[Exit.noGoto_normal];refine ⟨by simp,.inl ⟨_,_,rfl,run_takeDeferred UW,?_⟩⟩;exact ⟨_,results_none rfl _ _ _,⟨_,rfl⟩,HJN.out⟩
 case a6=>
  rintro l' k Wk hk ⟨hIJ,hIK⟩ ⟨oR,Td,YK⟩;obtain ⟨x,hx⟩:∃x,l[k]? =some x:=⟨_,List.getElem?_eq_getElem (by have:=hlen.out;omega)⟩
  have hav:yg l k= #[.int .i64 (k:Int),.agg #[.int .i64 x.sn,.bool x.part,.int .i64 x.fr,.int .i64 x.lt]]:=by unfold yg;rw[hx];rfl
  rw[hav];have UX:=ah hx;clear hav hx;have hbn:=au.new Wk 197 #[.int .i64 x.sn,.bool x.part,.int .i64 x.fr,.int .i64 x.lt];have HBN:=ah hbn;clear hbn
  gi_wp2
  refine ⟨?_,?_⟩
  ·exact KeepsFrom.dD ((Below.refl _ Wk).alloc (aN) _)
  intro W3 o' hW3;have hrl:=(Array.getElem?_eq_some_iff.1 Td).1;have hKA:Kept (fun k o=>M k o∨k=W2.heap.size+1) Wk (Wk.putObj (W2.heap.size+1) o'):=(Kept.refl _ Wk).grown (grownBy_putObj' Wk _ o') (fun j e _ _=>by cases e;exact .inr rfl);have YL:J (jR (eF sn) l k) (Wk.putObj (W2.heap.size+1) o'):=hJ.own _ Wk _ (some (W2.heap.size+1)) hIJ (grownBy_putObj' Wk _ o') (fun r e=>by cases e;exact ⟨by omega,oR,Td,YK⟩);have UY:Below Wk.heap.size (Wk.putObj (W2.heap.size+1) o') W3:=by rw[hW3];exact xK hrl _ _
  have YM:(Wk.putObj (W2.heap.size+1) o').heap.size=Wk.heap.size:=by simp[World.putObj]
  have Oy:=hIK.size;have gb:au W3 b 3 #[.int .i64 sn]:=by
   rw[hW3];exact ((HB2.out.kept hIK (by rintro (h|h);exact hMb _ h;omega)).alloc _).putObj (by omega) _
  have gy:au W3 W.heap.size 42 #[.func (.yield p) #[] #[]]:=by
   rw[hW3];refine ((HY2.out.kept hIK ?_).alloc _).putObj (by omega) _;rintro (h|h)
   ·obtain ⟨cs,r,e⟩:=hMo _ _ (by omega) h;injection e with _ e2
    exact absurd e2 (by decide)
   ·omega
  have gn:au W3 Wk.heap.size 197 #[.int .i64 x.sn,.bool x.part,.int .i64 x.fr,.int .i64 x.lt]:=by
   rw[hW3];exact HBN.out.putObj (by omega) _
  have hKF:∀k o,W2.heap.size≤k→o.isCells=false→¬M k o:=fun k o hk hc hm=>by
   obtain ⟨cs,r,e⟩:=hMo _ _ (by omega) hm;subst e;cases hc
  generalize Wk.putObj (W2.heap.size+1) o'=WA at*;have z0:=gb.cell 0;have z1:=gy.cell 0;obtain ⟨y0,y1,y2,y3⟩:=gn.iE;simp at z0 z1;have HW3:=ah hW3;have HIK:=ah hIK;clear hW3 hIJ;have hend:∀W4 W5,Below Wk.heap.size WA W4→KeepsFrom W2.heap.size W3 W4→Kept M W4 W5→KeepsFrom W2.heap.size W3 W5∧Kept (fun k o=>M k o∨k=W2.heap.size+1) Wk W5∧Kept (fun k o=>M k o∨k=W2.heap.size+1) W2 W5:=fun W4 W5 h4 hk4 h5=>by
   have e1:Kept (fun k o=>M k o∨k=W2.heap.size+1) Wk W5:=(hKA.trans (Kept.dD (by rw[YM];exact h4))).trans (h5.mono fun _ _ hm=> .inl hm);exact ⟨KeepsFrom.tr hk4 (KeepsFrom.Xd h5 hKF),e1,HIK.out.trans e1⟩
  by_cases hs:x.sn=sn
  ·have hp:eF sn x=true:=by unfold eF;exact decide_eq_true hs
   have hget:=CV (eF sn) l k x UX.out hp;have hcs:=sO (eF sn) l k x UX.out;rw[if_pos hp] at hcs;have hlt2:jR (eF sn) l k<(l.filter (eF sn)).length:=(List.getElem?_eq_some_iff.1 hget).1;have Te:=fun W4 hj=>HY.out (jR (eF sn) l k) W4 hlt2 hj
   unfold uL at Te;rw[hget] at Te;simp only[Mr] at Te;cases hpt:x.part with
   |true=>
    simp only[hpt,if_true] at Te y1;obtain ⟨fn,tmps,assign,body,hy,hR⟩:=Te W3 (hJ.fresh _ _ _ YL (by rw[YM];exact UY));have HR:=ah (RoundIn.ix (m':=n-1-1-1) (l':=l') hR);have HE:=ah hend;have HCS:=ah hcs;have Pq:=ah UY;clear hR Te hget hcs hlt2 hend gb gy gn UY hKA YL hp
    gi_wp2_with fail
    refine ⟨fun hh=>(by cases hh),HR.out.mono ?_⟩;rintro e W5 ⟨rfl,hJ5,KF⟩
    gi_wp2_with fail
    obtain ⟨e1,e2,e3⟩:=HE.out W3 W5 Pq.out ⟨aN,fun _ _ _ h _=>h⟩ KF;rw[←HCS.out] at hJ5;exact ⟨e1,e2,hJ5,e3⟩
   |false=>
    simp only[hpt,Bool.false_eq_true,if_false] at Te y1;have g4:=(gn.av 2 (.int .i64 0)).av 3 (.int .i64 32767);simp at g4;obtain ⟨u0,u1,u2,u3⟩:=g4.iE;have f2:=gn.frozen 2;have f3:=(gn.av 2 (.int .i64 0)).frozen 3;have hB4:Below Wk.heap.size WA ((W3.setCell ⟨Wk.heap.size,2,none⟩ (.int .i64 0)).setCell ⟨Wk.heap.size,3,none⟩ (.int .i64 32767)):=(UY.setCell (p:=⟨Wk.heap.size,2,none⟩) (aN) _).setCell (p:=⟨Wk.heap.size,3,none⟩) (aN) _;have hK4:KeepsFrom W2.heap.size W3 ((W3.setCell ⟨Wk.heap.size,2,none⟩ (.int .i64 0)).setCell ⟨Wk.heap.size,3,none⟩ (.int .i64 32767)):=KeepsFrom.tr (KeepsFrom.Em gn _) (KeepsFrom.Em (gn.av 2 (.int .i64 0)) _);have v1:=((gy.far (p:=⟨Wk.heap.size,2,none⟩) (by simp;omega) (.int .i64 0)).far (p:=⟨Wk.heap.size,3,none⟩) (by simp;omega) (.int .i64 32767)).cell 0;simp at v1;obtain ⟨fn,tmps,assign,body,hy,hR⟩:=Te _ (hJ.fresh _ _ _ YL (by rw[YM];exact hB4));have HR:=ah (RoundIn.ix (m':=n-1-1-1) (l':=l') hR);have HE:=ah hend;have HCS:=ah hcs;have BG:=ah hB4;have xB:=ah hK4;clear hR Te hget hcs hlt2 hend gb gy gn UY hKA YL hp hB4 hK4 g4
    gi_wp2_with fail
    refine ⟨fun hh=>(by cases hh),HR.out.mono ?_⟩;rintro e W5 ⟨rfl,hJ5,KF⟩
    gi_wp2_with fail
    obtain ⟨e1,e2,e3⟩:=HE.out _ W5 BG.out xB.out KF;rw[←HCS.out] at hJ5;exact ⟨e1,e2,hJ5,e3⟩
  ·have hp:eF sn x=false:=by unfold eF;exact decide_eq_false hs
   have hcs:=sO (eF sn) l k x UX.out;rw[if_neg (by rw[hp];decide)] at hcs
   replace hcs:jR (eF sn) l (k+1)=jR (eF sn) l k:=hcs
   have hJ3:=hJ.fresh _ _ _ YL (by rw[YM];exact UY);obtain ⟨e1,e2,e3⟩:=hend W3 W3 UY ⟨aN,fun _ _ _ h _=>h⟩ (Kept.refl _ _);rw[←hcs] at hJ3;have HF:=ah (show KeepsFrom W2.heap.size W3 W3∧Kept (fun k o=>M k o∨k=W2.heap.size+1) Wk W3∧J (jR (eF sn) l (k+1)) W3∧Kept (fun k o=>M k o∨k=W2.heap.size+1) W2 W3 from ⟨e1,e2,hJ3,e3⟩);clear hcs hJ3 e1 e2 e3 hend hp gb gy gn UY hKA YL
   gi_wp2_with fail
   exact HF.out
end
end Go.Proofs.YtbhiklnljiehiaaGreat
