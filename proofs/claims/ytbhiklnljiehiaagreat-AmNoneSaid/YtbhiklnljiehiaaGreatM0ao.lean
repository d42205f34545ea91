/- status.Ranges' iterator. merged: the last range and the next one are joined. merged: a range is joined to the last one, or appended. amsend: bounds behind a report; bounds of every call (plain). Pending: the PDUs with pending ranges. missing: the ranges of a PDU that a report gives as missing. The iterator of Pending by number; Buffered. Status: an entry beyond the acknowledged PDUs. -/
import Derived.Test.YtbhiklnljiehiaaGreatM0ad
import Derived.Test.YtbhiklnljiehiaaGreatM0ae
import Derived.Test.YtbhiklnljiehiaaGreatM0af
import Derived.Test.YtbhiklnljiehiaaGreatM0al
import Derived.Test.YtbhiklnljiehiaaGreatM0am
import Derived.BigRegion
import Derived.Laws.ResultCell
import Derived.Deep.RegionHeld3
import Derived.Deep.DeepCutAuto
import Derived.Deep.RegionWith
import Derived.BigQuiet
namespace Go.Proofs.YtbhiklnljiehiaaGreat
section
open Go.RowKit Go.Shelf
attribute [local go_sem] Oper.semAt_some
def Ki (x:Nk):Int × Int:=if x.part=true then (x.fr,x.lt) else (0,32767)
def dY (sn:Int) (x:Nk):Bool:=decide (x.sn=sn)
def tH (l:List Nk) (k:Nat):Array Value:=match l[k]? with
 |some x=> #[.int .i64 (Ki x).1,.int .i64 (Ki x).2]
 |none=> #[undef,undef]
def jG (p:Nk→Bool) (l:List Nk) (k:Nat):Nat:=((l.take k).filter p).length
theorem rM (p:Nk→Bool):∀(l:List Nk) (k:Nat) (x:Nk),l[k]? =some x→jG p l (k+1)=jG p l k+(if p x=true then 1 else 0)
 | [],k,x,h=>by simp at h
 |y::t,0,x,h=>by
  simp at h;subst h;unfold jG;cases hp:p y<;>simp[hp]
 |y::t,k+1,x,h=>by
  have ih:=rM p t k x (by simpa using h);unfold jG at*;simp only[List.take_succ_cons,List.filter_cons];split
  ·simp only[List.length_cons];omega
  ·exact ih
theorem BH (p:Nk→Bool):∀(l:List Nk) (k:Nat) (x:Nk),l[k]? =some x→p x=true→(l.filter p)[jG p l k]? =some x
 | [],k,x,h,_=>by simp at h
 |y::t,0,x,h,hp=>by
  simp at h;subst h;unfold jG;simp[hp]
 |y::t,k+1,x,h,hp=>by
  have ih:=BH p t k x (by simpa using h) hp;unfold jG at*;simp only[List.take_succ_cons,List.filter_cons];split
  ·simpa using ih
  ·exact ih
theorem H7 (p:Nk→Bool) (l:List Nk):jG p l 0=0:=by simp[jG]
theorem Kj (p:Nk→Bool) (l:List Nk):jG p l l.length=(l.filter p).length:=by simp[jG]
theorem au.putObj {w:World} {b k:Nat} {t:TypeId} {cs:Array Value} (h:au w b t cs) (hne:b≠k) (o:Obj):au (w.putObj k o) b t cs:=(World.putObj_heap_other (by omega)).trans h
theorem Below.putObj {B k:Nat} {w:World} (hk:B≤k) (o:Obj):Below B w (w.putObj k o):=by
 have h:=grownBy_putObj' w k o;exact ⟨h.os,h.tape,h.output,h.size,fun j hj=>World.putObj_heap_other (by omega)⟩
theorem KeepsFrom.Uo {B:Nat} {M:Nat→Obj→Prop} {w w':World} (h:Kept M w w') (hM:∀k o,B≤k→o.isCells=false→¬M k o):KeepsFrom B w w':=⟨h.size,fun k o hk ho hc=>h.same k o ho (hM k o hk hc)⟩
theorem KeepsFrom.tr {B:Nat} {a b c:World} (h:KeepsFrom B a b) (k:KeepsFrom B b c):KeepsFrom B a c:=⟨Nat.le_trans h.size k.size,fun i o hi ho hc=>k.same i o hi (h.same i o hi ho hc) hc⟩
theorem KeepsFrom.H8 {B b i:Nat} {w:World} {t:TypeId} {cs:Array Value} (h:au w b t cs) (u:Value):KeepsFrom B w (w.setCell ⟨b,i,none⟩ u):=by
 refine ⟨by simp[World.setCell],fun k o _ ho hc=> ?_⟩;rw[Below.heap_setCell w ⟨b,i,none⟩ u k ?_]
 ·exact ho
 ·intro e;have e2:k=b:=e;subst e2;unfold au at h;rw[h] at ho;cases ho;cases hc
theorem KeepsFrom.dA {B:Nat} {w w':World} (h:Below w.heap.size w w'):KeepsFrom B w w':=⟨h.size,fun k _o _ ho _=>(h.block k (Array.getElem?_eq_some_iff.1 ho).1).trans ho⟩
theorem wI {w:World} {r:Nat} (hr:r<w.heap.size) (c o:Obj):Below w.heap.size (w.putObj r o) ((w.alloc c).putObj r o):=by
 have h1:=grownBy_putObj' w r o;have h2:=grownBy_putObj' (w.alloc c) r o;have h3:=(Below.refl w.heap.size w).alloc (Nat.le_refl _) c;have hz:(w.putObj r o).heap.size=w.heap.size:=by simp[World.putObj]
 refine ⟨(h2.os.trans h3.os).trans h1.os.symm,(h2.tape.trans h3.tape).trans h1.tape.symm,(h2.output.trans h3.output).trans h1.output.symm,?_,fun j hj=> ?_⟩
 ·have:=h2.size;have:=h3.size;omega
 ·by_cases e:j=r
  ·subst e;rw[World.putObj_heap_same (by have:=h3.size;omega),World.putObj_heap_same hj]
  ·rw[World.putObj_heap_other (by omega),World.putObj_heap_other (by omega)];exact h3.block j hj
set_option maxRecDepth 100000 in
set_option maxHeartbeats 4000000 in
theorem Ia (n:Nat) (g b:Nat) (A:Option Addr) (N c:Nat) (l:List Nk) (sn:Int) (M:Nat→Obj→Prop) (w:World)
 (hg:au w g 131 #[.slice A N c]) (hb:au w b 3 #[.int .i64 sn]) (hv:bI w A N c l) (hlo:∀ad,A=some ad→ad.block<w.heap.size)
 (_hMg:∀o,¬M g o) (hMb:∀o,¬M b o) (OU:∀ad,A=some ad→∀o,¬M ad.block o) (hMo:∀k o,w.heap.size+2≤k→M k o→∃cs r,o= .cells cs 39 r):
 MI n Tryz.prog 208 #[.pointer (some ⟨g,0,none⟩),.pointer (some ⟨b,0,none⟩)] (tH (l.filter (dY sn))) (l.filter (dY sn)).length (Kept M) w:=fun p J W hW hW2 hJ hY h0=>by
 have hg':=(hg.below hW hg.lt).alloc (.cells #[.func (.yield p) #[] #[]] 42);have hb':=(hb.below hW hb.lt).alloc (.cells #[.func (.yield p) #[] #[]] 42);have hy':=au.new W 42 #[.func (.yield p) #[] #[]];have hv':=(hv.below hW).alloc (.cells #[.func (.yield p) #[] #[]] 42);have hc0:=hg'.cell 0;simp at hc0;have HW1:Below W.heap.size W (W.alloc (.cells #[.func (.yield p) #[] #[]] 42)):=(Below.refl _ W).alloc (Nat.le_refl _) _;have hsz:(W.alloc (.cells #[.func (.yield p) #[] #[]] 42)).heap.size=W.heap.size+1:=World.size_alloc _ _;have WE:=hg.lt;have hblt:=hb.lt;have hlen:=Lib.hid hv.len;have oK:=MK Fence.wide (n-1) trivial rfl A N c;have qX:=Lib.hid oK;have HY:=Lib.hid hY;have HG:=Lib.hid hg';have HB:=Lib.hid hb';have Ya:=Lib.hid hy';have HV:=Lib.hid hv';have HS:=Lib.hid hsz;clear oK hY hg' hb' hy' hv' hsz;have h0':=hJ.fresh _ _ _ h0 HW1;generalize hWg:W.alloc (.cells #[.func (.yield p) #[] #[]] 42)=W1 at*;refine callsIn_of_wp_marks Tryz.func208 rfl trivial ?_ rfl;simp only[Tryz.ntmps208,List.size_toArray,List.length_cons,List.length_nil,Nat.reduceAdd,Nat.reduceSub,Array.replicate_succ,Array.replicate_zero,List.push_toArray,List.append_toArray,List.nil_append,List.cons_append]
 gi_wp2
 refine jY ?_
 gi_wp2
 refine wpIn_label ?_
 gi_wp2_with fail
 refine ⟨trivial,(fun hh=>(by cases hh)),(qX.out W1).mono ?_⟩;rintro e w' ⟨rfl,rfl⟩;have HX:=Lib.hid (au.new W1 131 #[.slice A N c]);have VR:=Lib.hid (HG.out.alloc (.cells #[.slice A N c] 131));have HB2:=Lib.hid (HB.out.alloc (.cells #[.slice A N c] 131));have HY2:=Lib.hid (Ya.out.alloc (.cells #[.slice A N c] 131));have MO:=Lib.hid (HV.out.alloc (.cells #[.slice A N c] 131));have h02:=hJ.fresh _ _ _ h0' ((Below.refl _ W1).alloc (Nat.le_refl _) (.cells #[.slice A N c] 131));have HS2:=Lib.hid (World.size_alloc W1 (.cells #[.slice A N c] 131));generalize W1.alloc (.cells #[.slice A N c] 131)=W2 at*;clear HG HB Ya HV h0' hc0 HW1 hWg
 gi_wp2_with fail
 have hs2:=HS2.out;have hs1:=HS.out;have hWs:=hW.size;refine qH (gf:=222) (lb:= #[.pointer (some ⟨W1.heap.size,0,none⟩)]) rfl (enters_of Tryz.func222 (by kernel_rfl) rfl)
  (P6 (n-1) W1.heap.size A N c l (fun k o=>M k o∨k=W2.heap.size+1) W2 HX.out MO.out (fun ad e=>by have:=hlo ad e;omega) ?a1 ?a2)
  Kept.trans ?a3 (Below.refl _ _) (fun _=>rfl)
  (fun k Wk=>J (jG (dY sn) l k) Wk∧Kept (fun k o=>M k o∨k=W2.heap.size+1) W2 Wk) ?a4 ?a5 ?a6 ?a7
 case a1=>
  rintro (h|h)
  ·obtain ⟨cs,r,e⟩:=hMo _ _ (by omega) h;injection e with _ e2
   exact absurd e2 (by decide)
  ·omega
 case a2=>
  rintro ad e o (h|h)
  ·exact OU ad e o h
  ·have:=hlo ad e;omega
 case a3=>
  intro Wk o o' ho hc;exact (Kept.refl _ Wk).grown (grownBy_putObj' Wk _ o') (fun j e _ _=>by cases e;exact .inr rfl)
 case a4=>
  refine ⟨fun k Wa Wb row hs hgr hr=>⟨(hJ.mono (by omega)).own _ Wa Wb row hs.1 hgr hr,hs.2.grown hgr (fun j e o ho=> ?_)⟩,fun k Wa Wb hs hbw=>⟨hJ.fresh _ _ _ hs.1 hbw,hs.2.trans (Kept.dA hbw)⟩⟩;have h1:=(hr j e).1;have h2:=(Array.getElem?_eq_some_iff.1 ho).1;omega
 case a5=>exact ⟨by rw[H7];exact h02,Kept.refl _ _⟩
 case a7=>
  rintro D Wk hD ⟨hI,_⟩ Yb;have hJN:J (l.filter (dY sn)).length Wk:=by
   rw[←Kj];have e:l.length=N:=hlen.out;rw[e];exact hI
  have HJN:=Lib.hid (hJ.own _ Wk _ (some D) hJN (grownBy_putObj' Wk D (.deferred none)) (fun r e=>by cases e;exact ⟨by omega,_,Yb,rfl⟩));clear hI hJN
  gi_wp2_with fail
  rw[Exit.noGoto_normal];refine ⟨by simp,.inl ⟨_,_,rfl,run_takeDeferred Yb,?_⟩⟩;exact ⟨_,results_none rfl _ _ _,⟨_,rfl⟩,HJN.out⟩
 case a6=>
  rintro l' k Wk hk ⟨hIJ,hIK⟩ ⟨oR,VU,hoC⟩;obtain ⟨x,hx⟩:∃x,l[k]? =some x:=⟨_,List.getElem?_eq_getElem (by have:=hlen.out;omega)⟩
  have hav:wW l k= #[.int .i64 (k:Int),.agg #[.int .i64 x.sn,.bool x.part,.int .i64 x.fr,.int .i64 x.lt]]:=by unfold wW;rw[hx];rfl
  rw[hav];have RS:=Lib.hid hx;clear hav hx;have hbn:=au.new Wk 197 #[.int .i64 x.sn,.bool x.part,.int .i64 x.fr,.int .i64 x.lt];have HBN:=Lib.hid hbn;clear hbn
  gi_wp2
  refine ⟨?_,?_⟩
  ·exact KeepsFrom.dA ((Below.refl _ Wk).alloc (Nat.le_refl _) _)
  intro W3 o' hW3;have hrl:=(Array.getElem?_eq_some_iff.1 VU).1;have hKA:Kept (fun k o=>M k o∨k=W2.heap.size+1) Wk (Wk.putObj (W2.heap.size+1) o'):=(Kept.refl _ Wk).grown (grownBy_putObj' Wk _ o') (fun j e _ _=>by cases e;exact .inr rfl);have VW:J (jG (dY sn) l k) (Wk.putObj (W2.heap.size+1) o'):=hJ.own _ Wk _ (some (W2.heap.size+1)) hIJ (grownBy_putObj' Wk _ o') (fun r e=>by cases e;exact ⟨by omega,oR,VU,hoC⟩);have RU:Below Wk.heap.size (Wk.putObj (W2.heap.size+1) o') W3:=by rw[hW3];exact wI hrl _ _
  have VX:(Wk.putObj (W2.heap.size+1) o').heap.size=Wk.heap.size:=by simp[World.putObj]
  have LY:=hIK.size;have gb:au W3 b 3 #[.int .i64 sn]:=by
   rw[hW3];exact ((HB2.out.kept hIK (by rintro (h|h);exact hMb _ h;omega)).alloc _).putObj (by omega) _
  have gy:au W3 W.heap.size 42 #[.func (.yield p) #[] #[]]:=by
   rw[hW3];refine ((HY2.out.kept hIK ?_).alloc _).putObj (by omega) _;rintro (h|h)
   ·obtain ⟨cs,r,e⟩:=hMo _ _ (by omega) h;injection e with _ e2
    exact absurd e2 (by decide)
   ·omega
  have gn:au W3 Wk.heap.size 197 #[.int .i64 x.sn,.bool x.part,.int .i64 x.fr,.int .i64 x.lt]:=by
   rw[hW3];exact HBN.out.putObj (by omega) _
  have hKF:∀k o,W2.heap.size≤k→o.isCells=false→¬M k o:=fun k o hk hc hm=>by
   obtain ⟨cs,r,e⟩:=hMo _ _ (by omega) hm;subst e;cases hc
  generalize Wk.putObj (W2.heap.size+1) o'=WA at*;have z0:=gb.cell 0;have z1:=gy.cell 0;obtain ⟨y0,y1,y2,y3⟩:=gn.gZ;simp at z0 z1;have HW3:=Lib.hid hW3;have HIK:=Lib.hid hIK;clear hW3 hIJ;have hend:∀W4 W5,Below Wk.heap.size WA W4→KeepsFrom W2.heap.size W3 W4→Kept M W4 W5→KeepsFrom W2.heap.size W3 W5∧Kept (fun k o=>M k o∨k=W2.heap.size+1) Wk W5∧Kept (fun k o=>M k o∨k=W2.heap.size+1) W2 W5:=fun W4 W5 h4 hk4 h5=>by
   have e1:Kept (fun k o=>M k o∨k=W2.heap.size+1) Wk W5:=(hKA.trans (Kept.dA (by rw[VX];exact h4))).trans (h5.mono fun _ _ hm=> .inl hm);exact ⟨KeepsFrom.tr hk4 (KeepsFrom.Uo h5 hKF),e1,HIK.out.trans e1⟩
  by_cases hs:x.sn=sn
  ·have hp:dY sn x=true:=by unfold dY;exact decide_eq_true hs
   have hget:=BH (dY sn) l k x RS.out hp;have hcs:=rM (dY sn) l k x RS.out;rw[if_pos hp] at hcs;have hlt2:jG (dY sn) l k<(l.filter (dY sn)).length:=(List.getElem?_eq_some_iff.1 hget).1;have Qg:=fun W4 hj=>HY.out (jG (dY sn) l k) W4 hlt2 hj
   unfold tH at Qg;rw[hget] at Qg;simp only[Ki] at Qg;cases hpt:x.part with
   |true=>
    simp only[hpt,if_true] at Qg y1;obtain ⟨fn,tmps,assign,body,hy,hR⟩:=Qg W3 (hJ.fresh _ _ _ VW (by rw[VX];exact RU));have HR:=Lib.hid (RoundIn.ix (m':=n-1-1-1) (l':=l') hR);have HE:=Lib.hid hend;have HCS:=Lib.hid hcs;have MS:=Lib.hid RU;clear hR Qg hget hcs hlt2 hend gb gy gn RU hKA VW hp
    gi_wp2_with fail
    refine ⟨fun hh=>(by cases hh),HR.out.mono ?_⟩;rintro e W5 ⟨rfl,Yc,K6⟩
    gi_wp2_with fail
    obtain ⟨e1,e2,e3⟩:=HE.out W3 W5 MS.out ⟨Nat.le_refl _,fun _ _ _ h _=>h⟩ K6;rw[←HCS.out] at Yc;exact ⟨e1,e2,Yc,e3⟩
   |false=>
    simp only[hpt,Bool.false_eq_true,if_false] at Qg y1;have g4:=(gn.av 2 (.int .i64 0)).av 3 (.int .i64 32767);simp at g4;obtain ⟨u0,u1,u2,u3⟩:=g4.gZ;have f2:=gn.frozen 2;have f3:=(gn.av 2 (.int .i64 0)).frozen 3;have hB4:Below Wk.heap.size WA ((W3.setCell ⟨Wk.heap.size,2,none⟩ (.int .i64 0)).setCell ⟨Wk.heap.size,3,none⟩ (.int .i64 32767)):=(RU.setCell (p:=⟨Wk.heap.size,2,none⟩) (Nat.le_refl _) _).setCell (p:=⟨Wk.heap.size,3,none⟩) (Nat.le_refl _) _;have hK4:KeepsFrom W2.heap.size W3 ((W3.setCell ⟨Wk.heap.size,2,none⟩ (.int .i64 0)).setCell ⟨Wk.heap.size,3,none⟩ (.int .i64 32767)):=KeepsFrom.tr (KeepsFrom.H8 gn _) (KeepsFrom.H8 (gn.av 2 (.int .i64 0)) _);have v1:=((gy.far (p:=⟨Wk.heap.size,2,none⟩) (by simp;omega) (.int .i64 0)).far (p:=⟨Wk.heap.size,3,none⟩) (by simp;omega) (.int .i64 32767)).cell 0;simp at v1;obtain ⟨fn,tmps,assign,body,hy,hR⟩:=Qg _ (hJ.fresh _ _ _ VW (by rw[VX];exact hB4));have HR:=Lib.hid (RoundIn.ix (m':=n-1-1-1) (l':=l') hR);have HE:=Lib.hid hend;have HCS:=Lib.hid hcs;have Ak:=Lib.hid hB4;have zF:=Lib.hid hK4;clear hR Qg hget hcs hlt2 hend gb gy gn RU hKA VW hp hB4 hK4 g4
    gi_wp2_with fail
    refine ⟨fun hh=>(by cases hh),HR.out.mono ?_⟩;rintro e W5 ⟨rfl,Yc,K6⟩
    gi_wp2_with fail
    obtain ⟨e1,e2,e3⟩:=HE.out _ W5 Ak.out zF.out K6;rw[←HCS.out] at Yc;exact ⟨e1,e2,Yc,e3⟩
  ·have hp:dY sn x=false:=by unfold dY;exact decide_eq_false hs
   have hcs:=rM (dY sn) l k x RS.out;rw[if_neg (by rw[hp];decide)] at hcs
   replace hcs:jG (dY sn) l (k+1)=jG (dY sn) l k:=hcs
   have hJ3:=hJ.fresh _ _ _ VW (by rw[VX];exact RU);obtain ⟨e1,e2,e3⟩:=hend W3 W3 RU ⟨Nat.le_refl _,fun _ _ _ h _=>h⟩ (Kept.refl _ _);rw[←hcs] at hJ3;have HF:=Lib.hid (show KeepsFrom W2.heap.size W3 W3∧Kept (fun k o=>M k o∨k=W2.heap.size+1) Wk W3∧J (jG (dY sn) l (k+1)) W3∧Kept (fun k o=>M k o∨k=W2.heap.size+1) W2 W3 from ⟨e1,e2,hJ3,e3⟩);clear hcs hJ3 e1 e2 e3 hend hp gb gy gn RU hKA VW
   gi_wp2_with fail
   exact HF.out
end
section
open Go.RowKit Go.Shelf
attribute [local go_sem] Oper.semAt_some
section
variable (w:World)
set_option maxRecDepth 10000 in
set_option maxHeartbeats 2000000 in
theorem ET (a0 a1 b0 b1:Nat) (h:a1<1000000):
 Calls Tryz.prog 187 #[.agg #[.int .i64 (a0:Int),.int .i64 (a1:Int)],.agg #[.int .i64 (b0:Int),.int .i64 (b1:Int)]] w fun e w'=>e= .returned (.tuple #[.agg #[.int .i64 (a0:Int),.int .i64 (b1:Int)],.bool (decide (a1+1=b0))])∧Below w.heap.size w w':=by
 have hw1:IntKind.i64.wrap ((a1:Int)+1)=(a1:Int)+1:=IntWalk.i64_in _ (by omega);have hd:decide ((a1:Int)+1=(b0:Int))=decide (a1+1=b0):=by
  rcases Nat.decEq (a1+1) b0 with h1|h1
  ·rw[decide_eq_false h1];exact decide_eq_false (by omega)
  ·rw[decide_eq_true h1];exact decide_eq_true (by omega)
 go_enter Tryz.func187,Tryz.ntmps187;go_wp2;have ba:=((au.new w 39 #[.int .i64 (a0:Int),.int .i64 (a1:Int)]).alloc (.cells #[.int .i64 (b0:Int),.int .i64 (b1:Int)] 39)).alloc (.cells #[.int .i64 0,.int .i64 0] 39);have bb:=(au.new (w.alloc (.cells #[.int .i64 (a0:Int),.int .i64 (a1:Int)] 39)) 39 #[.int .i64 (b0:Int),.int .i64 (b1:Int)]).alloc (.cells #[.int .i64 0,.int .i64 0] 39);have bc:=au.new ((w.alloc (.cells #[.int .i64 (a0:Int),.int .i64 (a1:Int)] 39)).alloc (.cells #[.int .i64 (b0:Int),.int .i64 (b1:Int)] 39)) 39 #[.int .i64 0,.int .i64 0];simp only[World.size_alloc] at bb bc;have hB:Below w.heap.size w (((w.alloc (.cells #[.int .i64 (a0:Int),.int .i64 (a1:Int)] 39)).alloc (.cells #[.int .i64 (b0:Int),.int .i64 (b1:Int)] 39)).alloc (.cells #[.int .i64 0,.int .i64 0] 39)):=(((Below.refl _ w).alloc (Nat.le_refl _) _).alloc (by simp) _).alloc (by simp;omega) _;generalize ((w.alloc (.cells #[.int .i64 (a0:Int),.int .i64 (a1:Int)] 39)).alloc (.cells #[.int .i64 (b0:Int),.int .i64 (b1:Int)] 39)).alloc (.cells #[.int .i64 0,.int .i64 0] 39)=w1 at*;have HB:=Lib.hid hB;have x0:=ba.cell 0;have x1:=ba.cell 1;have y0:=bb.cell 0;have y1:=bb.cell 1;have c0:=bc.cell 0;have c1:=bc.cell 1;have fc:=bc.frozen 0;have fc1:=bc.frozen 1;simp at x0 x1 y0 y1 c0 c1;have BC:=Lib.hid bc;clear ba bb bc hB
 go_region
 all_goals
  go_wp2_with fail;have bz:=((BC.out.av 0 (.int .i64 (a0:Int))).av 1 (.int .i64 (b1:Int)));simp at bz;have z0:=bz.cell 0;have z1:=bz.cell 1;simp at z0 z1;have hbeq:((a1:Int)+1==(b0:Int))=decide (a1+1=b0):=by
   rw[←hd];rfl
  have HBZ:=Lib.hid ((HB.out.setCell (p:=⟨w.heap.size+1+1,0,none⟩) (by simp;omega) (.int .i64 (a0:Int))).setCell (p:=⟨w.heap.size+1+1,1,none⟩) (by simp;omega) (.int .i64 (b1:Int))).drew;clear bz;refine bodyPost_ret (v:= .tuple #[.agg #[.int .i64 (a0:Int),.int .i64 (b1:Int)],.bool ((a1:Int)+1==(b0:Int))]) ?_ rfl ?_
  ·rw[results_cell_tmp rfl];go_simp
   done
  ·exact ⟨by rw[hbeq],HBZ.out⟩
end
end
section
open Go.RowKit Go.Shelf
attribute [local go_sem] Oper.semAt_some
theorem yP {P:Program} {ops:Array Oper} {Q:Exit→Act→World→Prop} {md:Region.Mode} {S:World→Prop} {L:List Nat} {i k:Nat} {oi ok:Oper} {fuel:Nat} {listed:Array Bool} {a:Act} {w:World} (hi:ops[i]? =some oi) (hk:ops[k]? =some ok) (hr:Region.ready md ops listed= [i,k]) (hwi:Region.wanted oi (yielded ops a.tmps)=true) (hwk:Region.wanted ok (yielded ops a.tmps)=true)
 (h:∀K:Act→World→Prop,(∀a' w',S w'→dR P md ops Q S L fuel (listed.setIfInBounds i true) a' w'→K a' w')→oi.wp P a w K Q)
 (h2:∀K:Act→World→Prop,(∀a' w',S w'→dR P md ops Q S L fuel (listed.setIfInBounds k true) a' w'→K a' w')→ok.wp P a w K Q):dR P md ops Q S L (fuel+1) listed a w:=by
 refine ⟨fun h0=>(by rw[hr] at h0;cases h0),fun j hj=> ?_⟩;rw[hr] at hj;simp only[List.mem_cons,List.not_mem_nil,or_false] at hj;rcases hj with rfl|rfl
 ·unfold wpOp;simp only[hi,hwi,if_true];exact .inl (h _ fun a' w' hs h'=>⟨fun _=>hs,h'⟩)
 ·unfold wpOp;simp only[hk,hwk,if_true];exact .inl (h2 _ fun a' w' hs h'=>⟨fun _=>hs,h'⟩)
section
variable (w:World)
theorem Qh (r:List (Nat × Nat)) (y:Nat × Nat) (a b:Nat):((mZ (r++ [y])).set (r.length*2) (.int .i64 (a:Int))).set (r.length*2+1) (.int .i64 (b:Int))=mZ (r++ [(a,b)]):=by
 have h:=rF r;rw[wX,wX,←h,List.set_append_right _ _ (by omega),List.set_append_right _ _ (by omega)];simp[mZ]
theorem M0 (w:World) (x:Nat × Nat):dM (w.alloc (.cells #[.int .i64 (x.1:Int),.int .i64 (x.2:Int)] 39)) (some ⟨w.heap.size,0,none⟩) 1 1 [x]:=
 ⟨rfl,Nat.le_refl _,by omega,fun _=>⟨_,rfl,by simp,fun j r hr=>by
  cases j with
  |zero=>
   simp at hr;subst hr;have b:=au.new w 39 #[.int .i64 (x.1:Int),.int .i64 (x.2:Int)];exact ⟨b.cell 0,b.cell 1⟩
  |succ j=>simp at hr⟩⟩
def RV (w:World) (base:Nat) (v:Value) (l:List (Nat × Nat)) (x:Nat × Nat) (e:Ending) (w':World):Prop:=
 ∃v',e= .returned v'∧w'.ownsRow base 39 2 v' (fG l x).length (mZ (fG l x))∧Kept (fun k _=>some k=v.ownBlock) w w'∧(v'.ownBlock=v.ownBlock∨∃k,v'.ownBlock=some k∧w.heap.size≤k)
set_option maxRecDepth 10000 in
set_option maxHeartbeats 4000000 in
theorem EU (base:Nat) (v:Value) (l:List (Nat × Nat)) (x:Nat × Nat) (hown:w.ownsRow base 39 2 v l.length (mZ l)) (hbase:base≤w.heap.size) (hlen:l.length≤100000) (hsm:∀r∈l,r.2<1000000):
 Calls Tryz.prog 186 #[v,.agg #[.int .i64 (x.1:Int),.int .i64 (x.2:Int)],.func (.func 187) #[] #[]] w (RV w base v l x):=by
 have hown1:=hown.alloc (.cells #[.int .i64 (x.1:Int),.int .i64 (x.2:Int)] 39);have bx:=au.new w 39 #[.int .i64 (x.1:Int),.int .i64 (x.2:Int)];have hB:Below w.heap.size w (w.alloc (.cells #[.int .i64 (x.1:Int),.int .i64 (x.2:Int)] 39)):=(Below.refl _ w).alloc (Nat.le_refl _) _;have hz:=World.size_alloc w (.cells #[.int .i64 (x.1:Int),.int .i64 (x.2:Int)] 39);rcases List.eq_nil_or_concat l with rfl|⟨r,y,rfl⟩
 ·obtain ⟨A,cp,rfl,hsp,_⟩:=dM.cK (l:= []) hown;obtain ⟨i0,hi,hz0,hz1,hz2⟩:=pV;have Au:(w.alloc (.cells #[.int .i64 (x.1:Int),.int .i64 (x.2:Int)] 39)).cell? ⟨w.heap.size,0,none⟩=some (.int .i64 (x.1:Int)):=bx.cell 0;have Aw:(w.alloc (.cells #[.int .i64 (x.1:Int),.int .i64 (x.2:Int)] 39)).cell? ⟨w.heap.size,1,none⟩=some (.int .i64 (x.2:Int)):=bx.cell 1;have HB:=Lib.hid hB;have HO:=Lib.hid hown1;clear hB hown hown1 hsp bx hsm;simp only[List.length_nil] at HO ⊢;go_enter Tryz.func186,Tryz.ntmps186;go_upto_region 7 with (fail)
  have HZ:=Lib.hid hz;clear hz;generalize w.alloc (.cells #[.int .i64 (x.1:Int),.int .i64 (x.2:Int)] 39)=w0 at*;have Lf:=Lib.hid (M0 w0 x);have HA:=Lib.hid (HO.out.alloc (.cells #[.int .i64 (x.1:Int),.int .i64 (x.2:Int)] 39));have hbw:base≤(w0.alloc (.cells #[.int .i64 (x.1:Int),.int .i64 (x.2:Int)] 39)).heap.size:=by have:=HZ.out;simp;omega
  go_wp2_with (at_builtin;refine fP _ rfl _ _ 150 rfl base 39 i0 (.agg #[.int .i64 0,.int .i64 0]) 16 rG hi hz0 hz1 hz2 rfl (.slice A 0 cp) 0 (mZ []) rfl HA.out (some ⟨w0.heap.size,0,none⟩) 1 1 [x] rfl Lf.out ?c3 ?c4 hbw ?_)
  case c3=>unfold maxLen;omega
  case c4=>omega
  intro v5 w5 hown5 dF hv5;go_wp2_with fail;go_ret;refine ⟨v5,rfl,?_,?_,?_⟩
  ·simpa[fG,mZ] using hown5
  ·exact ((Kept.dA HB.out).trans (Kept.dA ((Below.refl _ w0).alloc (Nat.le_refl _) _))).grown dF (fun k e o ho=>e.symm)
  ·rcases hv5 with e|e
   ·exact .inl e
   ·refine .inr ⟨_,e,?_⟩;have:=HB.out.size;simp;omega
 ·simp only[List.concat_eq_append] at*;have hm:fG (r++ [y]) x=if y.2+1=x.1 then r++ [(y.1,x.2)] else r++ [y]++ [x]:=by
   unfold fG;simp
  obtain ⟨gv,cap,rfl,hgl,kz⟩:=hown1.form (by simp);have hlr:(r++ [y]).length=r.length+1:=by simp
  have hc0:=hown1.cellAt (r.length*2) (by rw[hlr];omega);have hc1:=hown1.cellAt (r.length*2+1) (by rw[hlr];omega);obtain ⟨e0,e1⟩:=wY (r++ [y]) r.length y (by simp);rw[e0] at hc0;rw[e1] at hc1;have hfr:=hown1.frozenAt;have hy:=hsm y (by simp);have hcap:r.length+1≤cap:=by
   obtain ⟨A,c,e,hs,_⟩:=dM.cK (l:=r++ [y]) hown1;injection e with _ _ e3
   rw[e3];have:=hs.cap;omega
  have M3:r.length+1≤100000:=by omega
  have hmx:cap≤9223372036854775807:=by
   obtain ⟨A,c,e,hs,_⟩:=dM.cK (l:=r++ [y]) hown1;injection e with _ _ e3
   rw[e3];exact hs.mx
  have hlt:=bx.lt;have hw1:IntKind.i64.wrap ((r.length:Int)+1-1)=(r.length:Int):=by rw[IntWalk.i64_in _ (by omega)];omega
  have hw3:IntKind.i64.wrap (r.length:Int)=(r.length:Int):=IntWalk.i64_in _ (by omega);have hw2:(r.length:Int)<(r.length:Int)+1:=by omega
  have HC:=fun W:World=>ET W y.1 y.2 x.1 x.2 hy
  have VY:=Lib.hid HC;have HO:=Lib.hid hown1;have BX:=Lib.hid bx;have HB:=Lib.hid hB;have HM:=Lib.hid hm;have HV:=Lib.hid hlr;rw[hlr];clear e0 e1 hown hown1 bx hB HC hm hsm hlen hlr;have Au:(w.alloc (.cells #[.int .i64 (x.1:Int),.int .i64 (x.2:Int)] 39)).cell? ⟨w.heap.size,0,none⟩=some (.int .i64 (x.1:Int)):=BX.out.cell 0;have Aw:(w.alloc (.cells #[.int .i64 (x.1:Int),.int .i64 (x.2:Int)] 39)).cell? ⟨w.heap.size,1,none⟩=some (.int .i64 (x.2:Int)):=BX.out.cell 1;go_enter Tryz.func186,Tryz.ntmps186;go_wp2_with fail;have hsz:=World.size_alloc w (.cells #[.int .i64 (x.1:Int),.int .i64 (x.2:Int)] 39);generalize hW0:w.alloc (.cells #[.int .i64 (x.1:Int),.int .i64 (x.2:Int)] 39)=w0 at*;clear hW0;go_cut [8,9] from 14 to 24 (fun s8 s9 wx=>∃bj,s8= .pointer (some ⟨bj,0,none⟩)∧s9= .bool (decide (y.2+1=x.1))∧w0.heap.size≤bj∧au wx bj 39 #[.int .i64 (y.1:Int),.int .i64 (x.2:Int)]∧Below w0.heap.size w0 wx)
  case first=>
   refine aY (fun w'=>w'.cell? ⟨gv,r.length*2,none⟩=some (.int .i64 (y.1:Int))∧w'.cell? ⟨gv,r.length*2+1,none⟩=some (.int .i64 (y.2:Int))∧w'.cell? ⟨w.heap.size,0,none⟩=some (.int .i64 (x.1:Int))∧w'.cell? ⟨w.heap.size,1,none⟩=some (.int .i64 (x.2:Int))) [12] (by kernel_rfl) ?_;have hHeld:=(show (fun w'=>w'.cell? ⟨gv,r.length*2,none⟩=some (.int .i64 (y.1:Int))∧w'.cell? ⟨gv,r.length*2+1,none⟩=some (.int .i64 (y.2:Int))∧w'.cell? ⟨w.heap.size,0,none⟩=some (.int .i64 (x.1:Int))∧w'.cell? ⟨w.heap.size,1,none⟩=some (.int .i64 (x.2:Int))) w0.drew from ⟨hc0,hc1,Au,Aw⟩);refine aT 0 ?_ rfl (Or.inl ⟨by rfl,?_⟩) hHeld ?_;rotate_left
   ·intro w' hSw;go_simp
    try with_reducible rfl
   try simp only[Act.put,aB,aC,ax,ay,aA]
   refine aT 1 ?_ rfl (Or.inl ⟨by rfl,?_⟩) hHeld ?_;rotate_left
   ·intro w' hSw;go_simp
    try with_reducible rfl
   try simp only[Act.put,aB,aC,aD,ax,ay,aA]
   refine aT 2 ?_ rfl (Or.inl ⟨by rfl,?_⟩) hHeld ?_;rotate_left
   ·intro w' hSw;go_simp
    try with_reducible rfl
   try simp only[Act.put,aB,aC,aD,ax,ay,aA]
   refine aT 3 ?_ rfl (Or.inl ⟨by rfl,?_⟩) hHeld ?_;rotate_left
   ·intro w' hSw;go_simp
    try with_reducible rfl
   try simp only[Act.put,aB,aC,aD,ax,ay,aA]
   refine aT 4 ?_ rfl (Or.inl ⟨by rfl,?_⟩) hHeld ?_;rotate_left
   ·intro w' hSw;go_simp
    try with_reducible rfl
   try simp only[Act.put,aB,aC,aD,ax,ay,aA]
   refine iK [7,8,9,12] 5 ?_ rfl (Or.inl ⟨by rfl,?_⟩) hHeld ?_;rotate_left
   ·intro w' hSw;obtain ⟨hS1,hS2,fU,kI⟩:=hSw;go_simp
    try with_reducible rfl
   try simp only[Act.put,aB,aC,aD,ax,ay,aA]
   refine iK [7,8,9,12] 6 ?_ rfl (Or.inl ⟨by rfl,?_⟩) hHeld ?_;rotate_left
   ·intro w' hSw;obtain ⟨hS1,hS2,fU,kI⟩:=hSw;go_simp
    try with_reducible rfl
   try simp only[Act.put,aB,aC,aD,ax,ay,aA]
   refine yP (i:=7) (k:=11) rfl rfl (by kernel_rfl) (by rfl) (by rfl) (fun K hK=> ?_) (fun K hK=> ?_)
   ·go_simp;refine (VY.out _).mono ?_;rintro e w1 ⟨rfl,hb1⟩;have hb2:Below w0.heap.size w0 w1:=((Below.refl _ w0).drew).trans hb1;refine hK _ _ ⟨(hb2.cell (p:=⟨gv,r.length*2,none⟩) kz).trans hc0,(hb2.cell (p:=⟨gv,r.length*2+1,none⟩) kz).trans hc1,(hb2.cell (p:=⟨w.heap.size,0,none⟩) hlt).trans Au,(hb2.cell (p:=⟨w.heap.size,1,none⟩) hlt).trans Aw⟩ ?_;clear hK K hHeld;have hHeld:=(show (fun w'=>w'.cell? ⟨gv,r.length*2,none⟩=some (.int .i64 (y.1:Int))∧w'.cell? ⟨gv,r.length*2+1,none⟩=some (.int .i64 (y.2:Int))∧w'.cell? ⟨w.heap.size,0,none⟩=some (.int .i64 (x.1:Int))∧w'.cell? ⟨w.heap.size,1,none⟩=some (.int .i64 (x.2:Int))) w1 from ⟨(hb2.cell (p:=⟨gv,r.length*2,none⟩) kz).trans hc0,(hb2.cell (p:=⟨gv,r.length*2+1,none⟩) kz).trans hc1,(hb2.cell (p:=⟨w.heap.size,0,none⟩) hlt).trans Au,(hb2.cell (p:=⟨w.heap.size,1,none⟩) hlt).trans Aw⟩)
    try simp only[Act.put,aB,aC,aD,ax,ay,aA]
    refine aT 8 ?_ rfl (Or.inl ⟨by rfl,?_⟩) hHeld ?_;rotate_left
    ·intro w' hSw;go_simp
     try with_reducible rfl
    try simp only[Act.put,aB,aC,aD,ax,ay,aA]
    refine aT 9 ?_ rfl (Or.inl ⟨by rfl,?_⟩) hHeld ?_;rotate_left
    ·intro w' hSw;go_simp
     try with_reducible rfl
    try simp only[Act.put,aB,aC,aD,ax,ay,aA]
    refine aT 10 ?_ rfl (Or.inl ⟨by rfl,?_⟩) hHeld ?_;rotate_left
    ·intro w' hSw;go_simp
     try with_reducible rfl
    try simp only[Act.put,aB,aC,aD,ax,ay,aA]
    have hb3:Below w0.heap.size w0 (w1.alloc (.cells #[.int .i64 0,.int .i64 0] 39)):=hb2.alloc hb2.size _;refine aQ (i:=11) rfl (by kernel_rfl) (by rfl) (fun K hK=> ?_);go_simp;refine hK _ _ ⟨(hb3.cell (p:=⟨gv,r.length*2,none⟩) kz).trans hc0,(hb3.cell (p:=⟨gv,r.length*2+1,none⟩) kz).trans hc1,(hb3.cell (p:=⟨w.heap.size,0,none⟩) hlt).trans Au,(hb3.cell (p:=⟨w.heap.size,1,none⟩) hlt).trans Aw⟩ ?_;clear hK K hHeld
    try simp only[Act.put,aB,aC,aD,ax,ay,aA]
    have Xr:=Lib.hid (au.new w1 39 #[.int .i64 (y.1:Int),.int .i64 (x.2:Int)]);have Ak:=Lib.hid (hb2.alloc hb2.size (.cells #[.int .i64 (y.1:Int),.int .i64 (x.2:Int)] 39));have HZ:=Lib.hid hb2.size;refine bH (i:=12) rfl (by kernel_rfl) (by kernel_rfl) (by rfl) (fun K hK=> ?_);go_simp;refine hK _ _ ?_;clear hK K
    try simp only[Act.put,aB,aC,aD,ax,ay,aA]
    refine jo 13 ?_ rfl (Or.inl ⟨by rfl,?_⟩) ?_;rotate_left
    ·intro w' hSw;go_simp
     try with_reducible rfl
    try simp only[Act.put,aB,aC,aD,ax,ay,aA]
    refine aX (by kernel_rfl) ?_ _;go_wp2_with fail;go_meet;exact ⟨_,rfl,rfl,HZ.out,Xr.out,Ak.out⟩
   ·have hb2:Below w0.heap.size w0 (w0.drew.alloc (.cells #[.int .i64 0,.int .i64 0] 39)):=((Below.refl _ w0).drew).alloc (Nat.le_refl _) _;go_simp;refine hK _ _ ⟨(hb2.cell (p:=⟨gv,r.length*2,none⟩) kz).trans hc0,(hb2.cell (p:=⟨gv,r.length*2+1,none⟩) kz).trans hc1,(hb2.cell (p:=⟨w.heap.size,0,none⟩) hlt).trans Au,(hb2.cell (p:=⟨w.heap.size,1,none⟩) hlt).trans Aw⟩ ?_;clear hK K hHeld
    try simp only[Act.put,aB,aC,aD,ax,ay,aA]
    refine aQ (i:=7) rfl (by kernel_rfl) (by rfl) (fun K hK=> ?_);go_simp;refine (VY.out _).mono ?_;rintro e w1 ⟨rfl,hb1⟩;have hb3:Below w0.heap.size w0 w1:=hb2.trans (hb1.mono hb2.size);refine hK _ _ ⟨(hb3.cell (p:=⟨gv,r.length*2,none⟩) kz).trans hc0,(hb3.cell (p:=⟨gv,r.length*2+1,none⟩) kz).trans hc1,(hb3.cell (p:=⟨w.heap.size,0,none⟩) hlt).trans Au,(hb3.cell (p:=⟨w.heap.size,1,none⟩) hlt).trans Aw⟩ ?_;clear hK K;have hHeld:=(show (fun w'=>w'.cell? ⟨gv,r.length*2,none⟩=some (.int .i64 (y.1:Int))∧w'.cell? ⟨gv,r.length*2+1,none⟩=some (.int .i64 (y.2:Int))∧w'.cell? ⟨w.heap.size,0,none⟩=some (.int .i64 (x.1:Int))∧w'.cell? ⟨w.heap.size,1,none⟩=some (.int .i64 (x.2:Int))) w1 from ⟨(hb3.cell (p:=⟨gv,r.length*2,none⟩) kz).trans hc0,(hb3.cell (p:=⟨gv,r.length*2+1,none⟩) kz).trans hc1,(hb3.cell (p:=⟨w.heap.size,0,none⟩) hlt).trans Au,(hb3.cell (p:=⟨w.heap.size,1,none⟩) hlt).trans Aw⟩)
    try simp only[Act.put,aB,aC,aD,ax,ay,aA]
    refine aT 8 ?_ rfl (Or.inl ⟨by rfl,?_⟩) hHeld ?_;rotate_left
    ·intro w' hSw;go_simp
     try with_reducible rfl
    try simp only[Act.put,aB,aC,aD,ax,ay,aA]
    refine aT 9 ?_ rfl (Or.inl ⟨by rfl,?_⟩) hHeld ?_;rotate_left
    ·intro w' hSw;go_simp
     try with_reducible rfl
    try simp only[Act.put,aB,aC,aD,ax,ay,aA]
    refine aT 10 ?_ rfl (Or.inl ⟨by rfl,?_⟩) hHeld ?_;rotate_left
    ·intro w' hSw;go_simp
     try with_reducible rfl
    try simp only[Act.put,aB,aC,aD,ax,ay,aA]
    have hbz:au w1 w0.heap.size 39 #[.int .i64 0,.int .i64 0]:=(au.new w0.drew 39 #[.int .i64 0,.int .i64 0]).below hb1 (by simp);have hb4:=(hb3.setCell (p:=⟨w0.heap.size,0,none⟩) (Nat.le_refl _) (.int .i64 (y.1:Int))).setCell (p:=⟨w0.heap.size,1,none⟩) (Nat.le_refl _) (.int .i64 (x.2:Int));have hbj:=Nat.le_refl w0.heap.size;rw[hsz] at hbz hb4 hbj;have hbs:=(hbz.av 0 (.int .i64 (y.1:Int))).av 1 (.int .i64 (x.2:Int));simp at hbs;have Xr:=Lib.hid hbs;have Ak:=Lib.hid hb4;have HZ:=Lib.hid hbj;have fz:=hbz.frozen 0;have fz1:=hbz.frozen 1;have cz0:=hbz.cell 0;have cz1:=hbz.cell 1;simp at cz0 cz1;clear hbs hb4 hbz hbj;refine bH (i:=12) rfl (by kernel_rfl) (by kernel_rfl) (by rfl) (fun K hK=> ?_);go_simp;refine hK _ _ ?_;clear hK K
    try simp only[Act.put,aB,aC,aD,ax,ay,aA]
    refine jo 13 ?_ rfl (Or.inl ⟨by rfl,?_⟩) ?_;rotate_left
    ·intro w' hSw;go_simp
     try with_reducible rfl
    try simp only[Act.put,aB,aC,aD,ax,ay,aA]
    refine aX (by kernel_rfl) ?_ _;go_wp2_with fail;go_meet;exact ⟨_,rfl,rfl,by omega,Xr.out,by rw[hsz];exact Ak.out⟩
  case rest=>
   obtain ⟨bj,rfl,rfl,hbj,bk,hb4⟩:=hcut;have hc0':=(hb4.cell (p:=⟨gv,r.length*2,none⟩) kz).trans hc0;have hc1':=(hb4.cell (p:=⟨gv,r.length*2+1,none⟩) kz).trans hc1;have hx0:=(hb4.cell (p:=⟨w.heap.size,0,none⟩) hlt).trans Au;have hx1:=(hb4.cell (p:=⟨w.heap.size,1,none⟩) hlt).trans Aw;have hO4:wc.ownsRow base 39 2 (.slice (some ⟨gv,0,none⟩) (r++ [y]).length cap) (r++ [y]).length (mZ (r++ [y])):=
    HO.out.kept (row:=none) ⟨hb4.os,hb4.tape,hb4.output,hb4.size,fun k hk _=>hb4.block k hk⟩ (.inr (by simp[Value.ownBlock]))
   have hfr:=hO4.frozenAt;have Ib:=Lib.hid hO4;have VS:=Lib.hid ((Kept.dA (M:=fun k (_:Obj)=>some k=some gv) HB.out).trans (Kept.dA hb4));clear hO4;have k0:=bk.cell 0;have k1:=bk.cell 1;simp at k0 k1;clear hc0 hc1 Au Aw hb4 bk;by_cases hj:y.2+1=x.1
   ·rw[decide_eq_true hj];go_wp2_with fail;go_ret;have hm:=HM.out;rw[if_pos hj] at hm;have hs1:=Ib.out.stored (r.length*2) (.int .i64 (y.1:Int));have hs2:=hs1.1.stored (r.length*2+1) (.int .i64 (x.2:Int));have hl:(r++ [y]).length=(r++ [(y.1,x.2)]).length:=by simp
    refine ⟨_,rfl,?_,?_,.inl rfl⟩
    ·rw[hm];have h3:=hs2.1;rw[Qh,hl] at h3;rw[HV.out] at*;simpa using h3
    ·exact (VS.out.setCell (p:=⟨gv,r.length*2,none⟩) (fun _ _=>rfl) _).setCell (p:=⟨gv,r.length*2+1,none⟩) (fun _ _=>rfl) _
   ·rw[decide_eq_false hj];obtain ⟨i0,hi,hz0,hz1,hz2⟩:=pV;have hm:=HM.out;rw[if_neg hj] at hm;have HM2:=Lib.hid hm;have HA:=Lib.hid (Ib.out.alloc (.cells #[.int .i64 (x.1:Int),.int .i64 (x.2:Int)] 39));have Lf:=Lib.hid (M0 wc x);have hbw:base≤(wc.alloc (.cells #[.int .i64 (x.1:Int),.int .i64 (x.2:Int)] 39)).heap.size:=by have:=VS.out.size;simp;omega
    clear hm hc0' hc1' k0 k1 HM hfr;go_wp2_with (at_builtin;refine fP _ rfl _ _ 150 rfl base 39 i0 (.agg #[.int .i64 0,.int .i64 0]) 16 rG hi hz0 hz1 hz2 rfl (.slice (some ⟨gv,0,none⟩) (r++ [y]).length cap) (r++ [y]).length (mZ (r++ [y])) (by rw[HV.out];rfl) HA.out (some ⟨wc.heap.size,0,none⟩) 1 1 [x] rfl Lf.out ?c3 ?c4 hbw ?_)
    case c3=>unfold maxLen;rw[HV.out];omega
    case c4=>rw[HV.out];omega
    intro v5 w5 hown5 dF hv5;go_wp2_with fail;go_ret;refine ⟨v5,rfl,?_,?_,?_⟩
    ·rw[HM2.out];rw[wX (r++ [y]) [x]];simpa using hown5
    ·exact (VS.out.trans (Kept.dA ((Below.refl _ wc).alloc (Nat.le_refl _) _))).grown dF (fun k e o ho=>e.symm)
    ·rcases hv5 with e|e
     ·exact .inl e
     ·refine .inr ⟨_,e,?_⟩;have:=VS.out.size;simp;omega
end
end
section
theorem Kk {l:List (Nat × Nat)} {x:Nat × Nat} {s:Nat} (h:∀r∈l,r.1≤r.2∧r.2<s) (hx:x.1≤x.2∧x.2<s):(∀r∈fG l x,r.1≤r.2∧r.2<s)∧(fG l x).length≤l.length+1:=by
 unfold fG;cases hl:l.getLast? with
 |none=>exact ⟨by simpa using hx,by simp⟩
 |some y=>
  have hy:=h y (List.mem_of_getLast? hl);dsimp only;split
  ·rename_i e;refine ⟨fun r hr=> ?_,by simp⟩;rcases List.mem_append.1 hr with hr|hr
   ·exact h r (List.dropLast_subset l hr)
   ·simp at hr;rw[hr];dsimp only;omega
  ·refine ⟨fun r hr=> ?_,by simp⟩;rcases List.mem_append.1 hr with hr|hr
   ·exact h r hr
   ·simp at hr;rw[hr];exact hx
theorem EV (dG:List Nk) {x:Ou} (hs:1≤aF x):(∀r∈bQ dG x,r.1≤r.2∧r.2<aF x)∧(bQ dG x).length≤dG.length:=by
 have hf:(dG.filter (fun n=>decide (n.sn=(x.sn:Int)))).length≤dG.length:=List.length_filter_le _ _;have key:∀(l:List Nk) (a:List (Nat × Nat)),(∀r∈a,r.1≤r.2∧r.2<aF x)→(∀r∈l.foldl (eG (aF x)) a,r.1≤r.2∧r.2<aF x)∧(l.foldl (eG (aF x)) a).length≤a.length+l.length:=by
  intro l
  induction l with
  |nil=>intro a ha;exact ⟨by simpa using ha,by simp⟩
  |cons n r ih=>
   intro a ha;have h1:(∀q∈eG (aF x) a n,q.1≤q.2∧q.2<aF x)∧(eG (aF x) a n).length≤a.length+1:=by
    unfold eG;split
    ·exact ⟨ha,by omega⟩
    ·exact Kk ha (by dsimp only;omega)
   obtain ⟨i1,i2⟩:=ih _ h1.1;rw[List.foldl_cons];refine ⟨i1,?_⟩;simp only[List.length_cons];omega
 obtain ⟨k1,k2⟩:=key (dG.filter (fun n=>decide (n.sn=(x.sn:Int)))) [] (by simp);refine ⟨k1,?_⟩;unfold bQ;simp only[List.length_nil] at k2;omega
theorem jk.S9 {st:Sd} {K:Nat} (h:jk st K):jk (dX st) (K+1):=by
 obtain ⟨⟨d,h1,h2,h3,h4⟩,h5⟩:=iZ st.out;obtain ⟨⟨q,g1,g2,g3,g4⟩,g5⟩:=mP st.queue (st.front+(aO st.out).2.1);have Yd:=uz (fun s hs=>(h.JI s hs).1);have Gu:=h.held;unfold bM at Gu;have hsum:ah st.queue=ah q+ah (d9 st.queue (st.front+(aO st.out).2.1)).2.2.2:=by
  conv=>lhs;rw[g1]
  rw[jZ]
 have hlen:q.length≤st.queue.length:=by
  conv=>rhs;rw[g1]
  simp
 have hmem:∀x,x∈(dX st).out→x∈st.out:=fun x hx=>by
  have e:(dX st).out=(aO st.out).2.2:=rfl;rw[h1,←e];simp[hx]
 refine ⟨?_,?_,?_,?_,fun s hs=> ?_,h.pol,fun x hx=>h.ou x (hmem x hx),fun x hx=> ?_,h.zQ,h.zR⟩
 ·have:=h.done;show st.done+(d9 st.queue (st.front+(aO st.out).2.1)).1≤_
  omega
 ·have:=h.dD;show st.dD≤_
  omega
 ·have:=h.bytes;show st.bytes≤_
  omega
 ·show ah (d9 st.queue (st.front+(aO st.out).2.1)).2.2.2≤_
  omega
 ·refine h.JI s ?_;rw[g1];exact List.mem_append_right _ hs
 ·have:=h.rx x (hmem x hx);omega
theorem jk.aL {st:Sd} {K:Nat} (h:jk st K) (c:Cf) (m:Ou→List (Nat × Nat)) (n:Nat) (hm:∀x∈st.out,(∀r∈m x,r.1≤r.2∧r.2<aF x)∧(m x).length≤1000) (b w:Bool):
 jk {st with out:=(aL c m n st.out).1,failed:=b,wait:=w} (K+1):=by
 have hone:∀x∈st.out,Ei (bS c m x).1∧(bS c m x).1.dz≤K+1:=fun x hx=>by
  have ho:=h.ou x hx;have hr:=h.rx x hx;unfold bS;split
  ·exact ⟨ho,by dsimp only;omega⟩
  ·split
   ·exact ⟨⟨ho.sn,ho.ps,by simp,by simp⟩,by dsimp only;omega⟩
   ·exact IZ c ho hr (hm x hx).1 (hm x hx).2
 refine ⟨?_,?_,?_,h.held,h.JI,h.pol,fun y hy=> ?_,fun y hy=> ?_,h.zQ,h.zR⟩
 ·have:=h.done;show st.done≤_
  omega
 ·have:=h.dD;show st.dD≤_
  omega
 ·have:=h.bytes;show st.bytes≤_
  omega
 ·obtain ⟨x,hx,rfl|rfl⟩:=j3 c m n _ y hy
  ·exact h.ou _ hx
  ·exact (hone x hx).1
 ·obtain ⟨x,hx,rfl|rfl⟩:=j3 c m n _ y hy
  ·have:=h.rx _ hx;omega
  ·exact (hone x hx).2
theorem jk.stat {st:Sd} {K:Nat} (h:jk st K) (c:Cf) (m:Ou→List (Nat × Nat)) (n:Nat) (hm:∀x∈st.out,(∀r∈m x,r.1≤r.2∧r.2<aF x)∧(m x).length≤1000):jk (iE c m n st) (K+3):=by
 have h2:=(h.aL c m n hm (st.failed||(Go.Proofs.YtbhiklnljiehiaaGreat.aL c m n st.out).2) (st.wait&&decide (n≤gV st st.polled))).S9;unfold iE;dsimp only;split
 ·exact h2.nQ c
 ·exact h2.mono (by omega)
theorem vV {aK:Int} {l:List Nk} (h:cu aK l=true):l.length≤512∧0≤aK∧aK≤1023:=by
 simp only[cu,Bool.and_eq_true,decide_eq_true_eq] at h;omega
theorem jk.status {st:Sd} {K:Nat} (h:jk st K) (c:Cf) {now:Int} (hn:now≤9223372036854775807) (aK:Int) (dG:List Nk):jk (lQ c st now aK dG).1 (K+3):=by
 have h1:=h.clock hn;unfold lQ;split
 ·exact h.mono (by omega)
 ·rename_i hv;split
  ·exact h1.mono (by omega)
  ·refine h1.stat c (bQ dG) _ fun x hx=> ?_
   have ho:=jc (h1.ou x hx);have hl:=vV (by simpa using hv);obtain ⟨m1,m2⟩:=EV dG ho.1;exact ⟨m1,by omega⟩
theorem jk.pK {st:Sd} {K:Nat} (h:jk st K) (hi:bP st) (c:Cf) {now:Int} (hn:now≤9223372036854775807) (n:Int):jk (nS c st now n).1 (K+2):=by
 have h1:=h.tick c hn;have hi1:=hi.tick c now;unfold nS;split
 ·exact h1.mono (by omega)
 ·cases hp:fZ (eX c st now).out with
  |some i=>
   obtain ⟨x,hx,_⟩:=gW hp;simp only[hx];exact (h1.again c n i hx).mono (by omega)
  |none=>
   have h2:=h1.fresh hi1.toInvV c n;dsimp only;generalize ji c n (eX c st now)=R at*;obtain ⟨s2,_|⟨x,b⟩⟩:=R
   ·exact h2
   ·exact h2
end
section
open Go.RowKit Go.Shelf
attribute [local go_sem] Oper.semAt_some
theorem World.ownsRow.drew' {w:World} {b:Nat} {t:TypeId} {s:Nat} {v:Value} {n:Nat} {xs:List Value} (h:w.ownsRow b t s v n xs):w.drew.ownsRow b t s v n xs:=h
section
variable {D F:Nat→Prop} {g:Nat} {c:Cf} {st:Sd} {vq vo:Value} {vs os:List Value} {w:World}
end
end
section
open Go.RowKit Go.Shelf
attribute [local go_sem] Oper.semAt_some
theorem Qi (y:Nk) (h:0≤(Ki y).1∧0≤(Ki y).2):(Ki y).1=((gB y).1:Int)∧(Ki y).2=((gB y).2:Int):=by
 unfold Ki gB at*;split
 ·rename_i hp;simp only[hp,if_true] at h;dsimp only;omega
 ·dsimp only;omega
def lI (x:Ou) (fl:List Nk) (k:Nat):List (Nat × Nat):=(fl.take k).foldl (eG (aF x)) []
theorem BI (x:Ou) (fl:List Nk):lI x fl 0= []:=by simp[lI]
theorem BJ (x:Ou) (fl:List Nk) (k:Nat) (y:Nk) (h:fl[k]? =some y):lI x fl (k+1)=eG (aF x) (lI x fl k) y:=by
 unfold lI;rw[List.take_add_one,h];simp
theorem M4 (x:Ou) (dG:List Nk):lI x (dG.filter (dY x.sn)) (dG.filter (dY x.sn)).length=bQ dG x:=by
 unfold lI bQ dY;rw[List.take_length]
theorem Ic (l:List (Nat × Nat)) (x:Nat × Nat):(fG l x).length≤l.length+1:=by
 unfold fG;cases hl:l.getLast? with
 |none=>simp
 |some y=>
  dsimp only;split
  ·simp
  ·simp
theorem Kl {l:List (Nat × Nat)} {x:Nat × Nat} {m:Nat} (h:∀r∈l,r.2<m) (hx:x.2<m):∀r∈fG l x,r.2<m:=by
 unfold fG;cases hl:l.getLast? with
 |none=>simpa using hx
 |some y=>
  dsimp only;split
  ·intro r hr;rcases List.mem_append.1 hr with hr|hr
   ·exact h r (List.dropLast_subset l hr)
   ·simp at hr;subst hr;exact hx
  ·intro r hr;rcases List.mem_append.1 hr with hr|hr
   ·exact h r hr
   ·simp at hr;subst hr;exact hx
theorem Jf (x:Ou) (fl:List Nk) (hs:aF x≤100000):∀k,(lI x fl k).length≤k∧∀r∈lI x fl k,r.2<1000000
 |0=>by rw[BI];simp
 |k+1=>by
  obtain ⟨h1,h2⟩:=Jf x fl hs k;cases hy:fl[k]? with
  |none=>
   have e:lI x fl (k+1)=lI x fl k:=by unfold lI;rw[List.take_add_one,hy];simp
   rw[e];exact ⟨by omega,h2⟩
  |some y=>
   rw[BJ x fl k y hy];unfold eG;split
   ·exact ⟨by omega,h2⟩
   ·exact ⟨by have:=Ic (lI x fl k) ((gB y).1,min (gB y).2 (aF x-1));omega,Kl h2 (by dsimp only;omega)⟩
structure VZ (wc:World) (lc:Nat) (x:Ou) (fl:List Nk) (k:Nat) (W:World):Prop where
 row:∃v,W.ownsRow wc.heap.size 39 2 v (lI x fl k).length (mZ (lI x fl k))∧au W lc 150 #[v]
 kp:Kept (fun j _=>j=lc) wc W
theorem VZ.far {wc:World} {lc:Nat} {x:Ou} {fl:List Nk} (hlc:lc<wc.heap.size):Hq wc.heap.size (VZ wc lc x fl):=by
 refine ⟨fun k A B row hs hg hr=> ?_,fun k A B hs hb=> ?_⟩
 ·obtain ⟨⟨v,hv,hb⟩,hk⟩:=hs;refine ⟨⟨v,hv.kept hg ?_,hb.grown hg ?_⟩,hk.grown hg (fun j e o ho=> ?_)⟩
  ·rcases hv.2 with ⟨rfl,_⟩|⟨q,cap,cur,rfl,h1,h2,_⟩
   ·exact .inl rfl
   ·refine .inr (fun e=> ?_);obtain ⟨h3,o,h4,h5⟩:=hr q e.symm;rw[h2] at h4;cases h4;cases h5
  ·intro e;have:=(hr lc e.symm).1;omega
  ·have h1:=(hr j e).1;have h2:=(Array.getElem?_eq_some_iff.1 ho).1;omega
 ·obtain ⟨⟨v,hv,hbk⟩,hk⟩:=hs;refine ⟨⟨v,hv.kept (row:=none) ⟨hb.os,hb.tape,hb.output,hb.size,fun k hk _=>hb.block k hk⟩ ?_,hbk.below hb hbk.lt⟩,hk.trans (Kept.dA hb)⟩;cases h:v.ownBlock with
  |none=>exact .inl rfl
  |some j=>exact .inr (by simp)
section
variable {D F:Nat→Prop} {w:World}
set_option maxRecDepth 100000 in
set_option maxHeartbeats 4000000 in
theorem Dh (aK:Int) (dG:List Nk) (A:Option Addr) (n c:Nat) (hN:bI w A n c dG) (hn:n≤1000) (p:Nat) (x:Ou) {Ap Ar:Option Addr} {cp cr:Nat} {vp:List Value} (hO:gI w D F p x Ap cp vp Ar cr)
 (hv:∀y∈dG,0≤(Ki y).1∧0≤(Ki y).2) (hsz:aF x≤100000) (h1:1≤aF x):
 Calls Tryz.prog 145 #[.agg #[.int .i64 aK,.slice A n c],.pointer (some ⟨p,0,none⟩)] w (wZ w (bQ dG x)):=by
 have Rv:=((hN.alloc (.cells #[.int .i64 aK,.slice A n c] 133)).alloc (.cells #[.pointer (some ⟨p,0,none⟩)] 138)).alloc (.cells #[.slice none 0 0] 150);have hr0:=((au.new w 133 #[.int .i64 aK,.slice A n c]).alloc (.cells #[.pointer (some ⟨p,0,none⟩)] 138)).alloc (.cells #[.slice none 0 0] 150);have hx0:=(au.new (w.alloc (.cells #[.int .i64 aK,.slice A n c] 133)) 138 #[.pointer (some ⟨p,0,none⟩)]).alloc (.cells #[.slice none 0 0] 150);have hl0:=au.new ((w.alloc (.cells #[.int .i64 aK,.slice A n c] 133)).alloc (.cells #[.pointer (some ⟨p,0,none⟩)] 138)) 150 #[.slice none 0 0];have hB0:Below w.heap.size w (((w.alloc (.cells #[.int .i64 aK,.slice A n c] 133)).alloc (.cells #[.pointer (some ⟨p,0,none⟩)] 138)).alloc (.cells #[.slice none 0 0] 150)):=(((Below.refl _ w).alloc (Nat.le_refl _) _).alloc (by simp) _).alloc (by simp;omega) _;have hs0:(((w.alloc (.cells #[.int .i64 aK,.slice A n c] 133)).alloc (.cells #[.pointer (some ⟨p,0,none⟩)] 138)).alloc (.cells #[.slice none 0 0] 150)).heap.size=w.heap.size+3:=by simp
 simp only[World.size_alloc] at hx0 hl0;have HP0:=Lib.hid (hO.blk.below hB0 hO.blk.lt);have CO:=Lib.hid hO.blk.lt;have HN:=Lib.hid Rv;have HR0:=Lib.hid hr0;have HX0:=Lib.hid hx0;have HL0:=Lib.hid hl0;have HB0:=Lib.hid hB0;have HS0:=Lib.hid hs0;clear Rv hr0 hx0 hl0 hB0 hs0 hN hO;refine (callsIn_wide (n:=5)).1 ?_;refine callsIn_of_wp_marks Tryz.func145 rfl trivial ?_ rfl;simp only[Tryz.ntmps145,List.size_toArray,List.length_cons,List.length_nil,Nat.reduceAdd,Nat.reduceSub,Array.replicate_succ,Array.replicate_zero,List.push_toArray,List.append_toArray,List.nil_append,List.cons_append];refine (wpIn_wide (n:=5)).2 ?_;go_wp2_with fail;generalize ((w.alloc (.cells #[.int .i64 aK,.slice A n c] 133)).alloc (.cells #[.pointer (some ⟨p,0,none⟩)] 138)).alloc (.cells #[.slice none 0 0] 150)=w3 at*;have z0:=HR0.out.cell 0;have z1:=HR0.out.cell 1;have z2:=HX0.out.cell 0;have z3:w3.cell? ⟨p,0,none⟩=some (.int .i64 (x.sn:Nat)):=HP0.out.cell 0;simp at z0 z1 z2;have HRG:=Lib.hid (fun (W:World) (hW:Below w3.heap.size w3 W)=>ER aK x.sn A n c dG W (HN.out.below hW) (by omega));go_cut [13] from 7 to 14 (fun s13 wx=>∃g b A' c',s13= .func (.func 208) #[] #[.pointer (some ⟨g,0,none⟩),.pointer (some ⟨b,0,none⟩)]∧
  au wx g 131 #[.slice A' n c']∧au wx b 3 #[.int .i64 (x.sn:Nat)]∧bI wx A' n c' dG∧(∀ad,A'=some ad→w3.heap.size≤ad.block∧ad.block<wx.heap.size)∧w3.heap.size≤g∧w3.heap.size≤b∧Below w3.heap.size w3 wx)
 case first=>
  refine wp_region_noPanic ?_
  go_region_with (go_at_call 185;refine (HRG.out _ (by first|exact Below.refl _ _|exact (Below.refl _ _).drew|exact (Below.refl _ _).drewN _)).mono ?_;rintro e w5 ⟨g,b,A',c',rfl,k1,k2,k3,k4,k5,k6,k7⟩)
  all_goals
   refine NoPanic.normal ?_;go_wp2_with fail;go_meet;exact ⟨g,b,A',c',rfl,k1,k2,k3,k4,k5,k6,by first|exact k7|exact (Below.refl _ w3).drew.trans k7|exact ((Below.refl _ w3).drewN _).trans k7⟩
 case rest=>
  obtain ⟨g,b,A',c',rfl,k1,k2,k3,k4,k5,k6,k7⟩:=hcut;have K1:=Lib.hid k1;have K2:=Lib.hid k2;have K3:=Lib.hid k3;have K4:=Lib.hid k4;have K7:=Lib.hid k7;clear k1 k2 k3 k4 k7;go_wp2_with fail;have hw3:=HS0.out;have hwc:=K7.out.size;have hgl:=K1.out.lt;have hbl:=K2.out.lt;have HL:=Lib.hid (HL0.out.below K7.out HL0.out.lt);have HX:=Lib.hid (HX0.out.below K7.out HX0.out.lt);have HPp:=Lib.hid (HP0.out.below K7.out HP0.out.lt);have hpl:=HP0.out.lt;obtain ⟨M,hM⟩:∃M:Nat→Obj→Prop,M=fun k o=>k=w.heap.size+1+1∨k=wc.heap.size+1∨(wc.heap.size≤k∧∃cs r,o= .cells cs 39 r):=⟨_,rfl⟩
  have hseq:=Ia 4 g b A' n c' dG x.sn M wc K1.out K2.out K3.out (fun ad e=>(K4.out ad e).2) (by rw[hM];rintro o (h|h|h)<;>omega) (by rw[hM];rintro o (h|h|h)<;>omega)
   (by rw[hM];rintro ad e o (h|h|h)<;>have:=K4.out ad e<;>omega) (by rw[hM];rintro k o hk (h|h|h);omega;omega;exact h.2)
  apply (wpIn_wide (n:=5)).1;refine qH (gf:=208) (lb:= #[.pointer (some ⟨g,0,none⟩),.pointer (some ⟨b,0,none⟩)]) rfl (enters_of Tryz.func208 (by kernel_rfl) rfl)
   hseq Kept.trans ?a3 (Below.refl _ _) (fun k=>by unfold tH;split<;>rfl)
   (VZ wc (w.heap.size+1+1) x (dG.filter (dY x.sn))) (VZ.far (by omega)) ?a5 ?a6 ?a7
  case a3=>
   intro Wk o o' ho hc;exact (Kept.refl _ Wk).grown (grownBy_putObj' Wk _ o') (fun j e _ _=>by cases e;rw[hM];exact .inr (.inl rfl))
  case a5=>exact ⟨⟨_,by rw[BI];exact World.ownsRow_nil _ _ _ _,HL.out⟩,Kept.refl _ _⟩
  case a7=>
   rintro D Wk hD ⟨⟨v,hv,hb⟩,hK⟩ Yb;rw[M4] at hv;obtain ⟨Av,cv,rfl,_,_⟩:=dM.cK (l:=bQ dG x) hv;have hlw:=Nat.lt_of_lt_of_le HL.out.lt hK.size;have l0:=hb.cell 0;have lf:=hb.frozen 0;simp at l0;have hDn:D≠w.heap.size+1+1:=by omega
   have hD1:(Wk.setCell ⟨w.heap.size+1+1,0,none⟩ (.slice Av (bQ dG x).length cv)).heap[D]? =some (.deferred (some [])):=(Below.heap_setCell Wk ⟨w.heap.size+1+1,0,none⟩ (.slice Av (bQ dG x).length cv) D hDn).trans Yb;have hv1:(Wk.setCell ⟨w.heap.size+1+1,0,none⟩ (.slice Av (bQ dG x).length cv)).ownsRow wc.heap.size 39 2 (.slice Av (bQ dG x).length cv) (bQ dG x).length (mZ (bQ dG x)):=ownsRow_setCell_other hv (fun e=>by have:=(hv.lt _ e).1;have e3:(⟨w.heap.size+1+1,0,none⟩:Addr).block=w.heap.size+1+1:=rfl;omega) (.slice Av (bQ dG x).length cv);have hb1:au (Wk.setCell ⟨w.heap.size+1+1,0,none⟩ (.slice Av (bQ dG x).length cv)) (w.heap.size+1+1) 150 #[.slice Av (bQ dG x).length cv]:=by simpa using hb.av 0 (.slice Av (bQ dG x).length cv)
   have hb2:=hb1.putObj (by omega) (k:=D) (.deferred none);have hv2:((Wk.setCell ⟨w.heap.size+1+1,0,none⟩ (.slice Av (bQ dG x).length cv)).putObj D (.deferred none)).ownsRow wc.heap.size 39 2 (.slice Av (bQ dG x).length cv) (bQ dG x).length (mZ (bQ dG x)):=by
    refine hv1.kept (grownBy_putObj' _ D _) ?_;rcases hv1.2 with ⟨e1,_⟩|⟨t,cap,cur,e1,q1,q2,_⟩
    ·exact .inl (by rw[e1];rfl)
    ·refine .inr (fun e=> ?_);rw[e1] at e;have e2:t=D:=by injection e
     subst e2;rw[hD1] at q2;cases q2
   have hB2:Below w.heap.size w ((Wk.setCell ⟨w.heap.size+1+1,0,none⟩ (.slice Av (bQ dG x).length cv)).putObj D (.deferred none)):=by
    have e1:=HB0.out.trans (K7.out.mono (by omega));have e2:Below w.heap.size wc Wk:=hK.below (fun j _ hj=>by omega) (by omega);exact ((e1.trans e2).setCell (p:=⟨w.heap.size+1+1,0,none⟩) (by simp;omega) (.slice Av (bQ dG x).length cv)).trans (Below.putObj (by omega) _)
   have MO:=Lib.hid (aR (base':=w.heap.size) hv2 (by omega));have HB2:=Lib.hid hB2;have HD1:=Lib.hid hD1;have c2:=hb2.cell 0;simp at c2;clear hv hb hv1 hb1 hb2 hv2 hB2 hD1 Yb hM hseq
   gi_wp2
   go_wp2;refine ⟨by simp,.inl ⟨_,_,rfl,run_takeDeferred HD1.out,?_⟩⟩;exact ⟨.slice Av (bQ dG x).length cv,by simp[results,Tryz.results145,go_sem,c2],.slice Av (bQ dG x).length cv,rfl,MO.out,HB2.out⟩
  case a6=>
   rintro l' k Wk hk ⟨⟨v,hrow,hbk⟩,hK⟩ ⟨oR,VU,hoC⟩;obtain ⟨y,hy⟩:∃y,(dG.filter (dY x.sn))[k]? =some y:=⟨_,List.getElem?_eq_getElem hk⟩
   have hvv:tH (dG.filter (dY x.sn)) k= #[.int .i64 ((gB y).1:Int),.int .i64 ((gB y).2:Int)]:=by
    unfold tH;rw[hy];obtain ⟨e1,e2⟩:=Qi y (hv y (List.mem_filter.1 (List.mem_of_getElem? hy)).1);simp only[e1,e2]
   rw[hvv];have hst:=BJ x _ k y hy;obtain ⟨ra,hra⟩:∃ra,(gB y).1=ra:=⟨_,rfl⟩
   obtain ⟨rb,hrb⟩:∃rb,(gB y).2=rb:=⟨_,rfl⟩
   obtain ⟨hok1,hok2⟩:=Jf x (dG.filter (dY x.sn)) hsz k;unfold eG at hst;rw[hra,hrb] at hst ⊢;have HST:=Lib.hid hst;have acE:=Lib.hid hok2;have hrl:=(Array.getElem?_eq_some_iff.1 VU).1;clear hvv hst hy hra hrb hok2
   gi_wp2_with fail
   refine ⟨⟨Nat.le_refl _,fun _ _ _ h _=>h⟩,?_⟩;intro W3 o' hW3;have hXw:au W3 (w.heap.size+1) 138 #[.pointer (some ⟨p,0,none⟩)]:=by rw[hW3];exact (HX.out.kept hK (by omega)).putObj (by omega) _
   have hPw:au W3 p 152 (Eh x (.slice Ap x.ps.length cp) (.slice Ar x.pend.length cr)):=by rw[hW3];exact (HPp.out.kept hK (by have:=CO.out;omega)).putObj (by have:=CO.out;omega) _
   have Ye:au W3 (w.heap.size+1+1) 150 #[v]:=by rw[hW3];exact hbk.putObj (by omega) _
   have hrw:W3.ownsRow wc.heap.size 39 2 v (lI x (dG.filter (dY x.sn)) k).length (mZ (lI x (dG.filter (dY x.sn)) k)):=by
    rw[hW3];refine hrow.kept (grownBy_putObj' Wk _ o') ?_;rcases hrow.2 with ⟨rfl,_⟩|⟨q,cap,cur,rfl,q1,q2,_⟩
    ·exact .inl rfl
    ·refine .inr (fun e=> ?_);have e2:q=wc.heap.size+1:=by injection e
     rw[e2,VU] at q2;cases q2;cases hoC
   have Up:Kept (fun j _=>j=w.heap.size+1+1) wc W3:=by
    rw[hW3];exact hK.grown (grownBy_putObj' Wk _ o') (fun j e o ho=>by cases e;have:=(Array.getElem?_eq_some_iff.1 ho).1;omega)
   have hM3:Kept M Wk W3:=by
    rw[hW3];exact (Kept.refl _ Wk).grown (grownBy_putObj' Wk _ o') (fun j e _ _=>by cases e;rw[hM];exact .inr (.inl rfl))
   have hz3:=Up.size;have x0:=hXw.cell 0;have x8:W3.cell? ⟨p,8,none⟩=some (.int .i64 (aF x:Nat)):=hPw.cell 8;have l0:=Ye.cell 0;have lf:=Ye.frozen 0;simp at x0 l0;obtain ⟨q,hq⟩:∃q,aF x=q+1:=⟨aF x-1,by omega⟩
   rw[hq] at x8;have x8:W3.cell? ⟨p,8,none⟩=some (.int .i64 ((q:Int)+1)):=by rw[x8];simp
   have hw1:IntKind.i64.wrap ((q:Int)+1-1)=(q:Int):=by rw[IntWalk.i64_in _ (by omega)];omega
   have hw2:IntKind.i64.wrap (q:Int)=(q:Int):=IntWalk.i64_in _ (by omega);have hst:=HST.out;rw[show aF x-1=q by omega] at hst;have hvb:∀j,v.ownBlock=some j→wc.heap.size≤j:=fun j e=>(hrw.lt j e).1
   have RX:∀a',min rb q<ra→Hr wc.heap.size (Kept M) (VZ wc (w.heap.size+1+1) x (dG.filter (dY x.sn))) (k+1) Wk W3 .normal a' W3:=fun a' hm=>by
    rw[if_pos hm] at hst;exact ⟨⟨Nat.le_refl _,fun _ _ _ h _=>h⟩,hM3,⟨⟨v,by rw[hst];exact hrw,Ye⟩,Up⟩⟩
   have RY:∀m:Nat,Calls Tryz.prog 186 #[v,.agg #[.int .i64 (ra:Int),.int .i64 (m:Int)],.func (.func 187) #[] #[]] W3 (RV W3 wc.heap.size v (lI x (dG.filter (dY x.sn)) k) (ra,m)):=fun m=>
    EU W3 wc.heap.size v _ (ra,m) hrw hz3 (by have:=(List.length_filter_le (dY x.sn) dG);have:=K3.out.len;omega) acE.out
   have Yf:∀m v' w5,min rb q=m→ra≤m→w5.ownsRow wc.heap.size 39 2 v' (fG (lI x (dG.filter (dY x.sn)) k) (ra,m)).length (mZ (fG (lI x (dG.filter (dY x.sn)) k) (ra,m)))→Kept (fun k _=>some k=v.ownBlock) W3 w5→
    au w5 (w.heap.size+1+1) 150 #[v]∧∀a',Hr wc.heap.size (Kept M) (VZ wc (w.heap.size+1+1) x (dG.filter (dY x.sn))) (k+1) Wk W3 .normal a' (w5.setCell ⟨w.heap.size+1+1,0,none⟩ v'):=fun m v' w5 hm hr h5 hk5=>by
    have hL5:au w5 (w.heap.size+1+1) 150 #[v]:=Ye.kept hk5 (fun e=>by have:=hvb _ e.symm;omega);refine ⟨hL5,fun a'=> ?_⟩;rw[if_neg (by omega),hm] at hst;have hkM:Kept M W3 w5:=⟨hk5.os,hk5.tape,hk5.output,hk5.size,fun j o hj hn=>hk5.same j o hj (fun e=>hn (by
     rw[hM];refine .inr (.inr ⟨hvb j e.symm,?_⟩);rcases hrw.2 with ⟨rfl,_⟩|⟨t,cap,cur,rfl,q1,q2,_⟩
     ·cases e
     ·have e2:j=t:=by injection e
      rw[e2,q2] at hj;cases hj;exact ⟨_,_,rfl⟩))⟩
    have hkL:Kept (fun j (_:Obj)=>j=w.heap.size+1+1) wc w5:=⟨hk5.os.trans Up.os,hk5.tape.trans Up.tape,hk5.output.trans Up.output,Nat.le_trans hz3 hk5.size,fun j o hj hn=>hk5.same j o (Up.same j o hj hn) (fun e=>by
     have h1:=hvb _ e.symm;have h2:=(Array.getElem?_eq_some_iff.1 hj).1;omega)⟩
    have MN:KeepsFrom wc.heap.size W3 w5:=⟨hk5.size,fun j o hj ho hc=>hk5.same j o ho (fun e=>by
     rcases hrw.2 with ⟨rfl,_⟩|⟨t,cap,cur,rfl,q1,q2,_⟩
     ·cases e
     ·have e2:j=t:=by injection e
      rw[e2,q2] at ho;cases ho;cases hc)⟩
    refine ⟨KeepsFrom.tr MN (KeepsFrom.H8 hL5 v'),(hM3.trans hkM).setCell (p:=⟨w.heap.size+1+1,0,none⟩) (fun _ _=>by rw[hM];exact .inl rfl) v',⟨⟨v',?_,by simpa using hL5.av 0 v'⟩,hkL.setCell (p:=⟨w.heap.size+1+1,0,none⟩) (fun _ _=>rfl) v'⟩⟩;rw[hst];exact ownsRow_setCell_other h5 (fun e=>by have:=(h5.lt _ e).1;have e3:(⟨w.heap.size+1+1,0,none⟩:Addr).block=w.heap.size+1+1:=rfl;omega) v'
   have RZ:=Lib.hid RY;have Yg:=Lib.hid RX;have iW:=Lib.hid Yf;clear hXw hPw Ye hrw hrow hbk hK hW3 Up hM3 VU hoC hM RX RY Yf hst hvb;by_cases hc:rb≤q
   ·by_cases hr:ra≤rb
    ·have d1:decide (rb<ra)=false:=decide_eq_false (by omega)
     gi_wp2_with fail
     refine ⟨trivial,CallsIn.inRound l' ((callsIn_wide (n:=2)).2 ((RZ.out rb).mono ?_))⟩;rintro e w5 ⟨v',rfl,yQ,hk5,_⟩;obtain ⟨hL5,R3⟩:=iW.out rb v' w5 (by omega) hr yQ hk5;obtain ⟨A5,c5',rfl,_,_⟩:=dM.cK (l:=fG (lI x (dG.filter (dY x.sn)) k) (ra,rb)) yQ;have c5:=hL5.cell 0;have f5:=hL5.frozen 0;simp at c5;have HF5:=Lib.hid R3;clear R3 hL5 yQ hk5
     gi_wp2_with fail
     exact HF5.out _
    ·have d1:decide (rb<ra)=true:=decide_eq_true (by omega)
     gi_wp2_with fail
     exact Yg.out _ (by omega)
   ·by_cases hr:ra≤q
    ·have d1:decide (q<ra)=false:=decide_eq_false (by omega)
     gi_wp2_with fail
     refine ⟨trivial,CallsIn.inRound l' ((callsIn_wide (n:=2)).2 ((RZ.out q).mono ?_))⟩;rintro e w5 ⟨v',rfl,yQ,hk5,_⟩;obtain ⟨hL5,R3⟩:=iW.out q v' w5 (by omega) hr yQ hk5;obtain ⟨A5,c5',rfl,_,_⟩:=dM.cK (l:=fG (lI x (dG.filter (dY x.sn)) k) (ra,q)) yQ;have c5:=hL5.cell 0;have f5:=hL5.frozen 0;simp at c5;have HF5:=Lib.hid R3;clear R3 hL5 yQ hk5
     gi_wp2_with fail
     exact HF5.out _
    ·have d1:decide (q<ra)=true:=decide_eq_true (by omega)
     gi_wp2_with fail
     exact Yg.out _ (by omega)
end
end
section
open Go.RowKit Go.Shelf
attribute [local go_sem] Oper.semAt_some
section
variable {D F:Nat→Prop} {g:Nat} {c:Cf} {st:Sd} {vq vo:Value} {vs os:List Value} {w:World}
end
end
section
open Go.RowKit Go.Shelf
attribute [local go_sem] Oper.semAt_some
section
variable {D F:Nat→Prop} {g:Nat} {c:Cf} {st:Sd} {vq vo:Value} {vs os:List Value} {w:World}
def behind (st:Sd) (m:Int) (x:Nk):Bool:=decide (m≤dQ st x.sn)
set_option maxRecDepth 10000 in
set_option maxHeartbeats 1000000 in
theorem M5 (h:dS w D F g c st vq vs vo os) (h1:st.first<1024) (bs bn:Nat) (m:Int) (hs:au w bs 49 #[.pointer (some ⟨g,0,none⟩)]) (hn:au w bn 3 #[.int .i64 m]) (x:Nk) (hx:0≤x.sn∧x.sn≤1023):
 Calls Tryz.prog 144 #[.agg (jU x),.pointer (some ⟨bs,0,none⟩),.pointer (some ⟨bn,0,none⟩)] w fun e w'=>e= .returned (.bool (behind st m x))∧Below w.heap.size w w':=by
 have hB:Below w.heap.size w (w.alloc (.cells (jU x) 197)):=(Below.refl _ w).alloc (Nat.le_refl _) _;have s0:=(hs.below hB hs.lt).cell 0;have n0:=(hn.below hB hn.lt).cell 0;have hA:=h.below hB;have CO:=Lib.hid (fun (k:Nat)=>qV (hA.drewN k) h1 x.sn hx);have HB:=Lib.hid hB;simp[jU] at s0 n0;have b0:(w.alloc (.cells (jU x) 197)).cell? ⟨w.heap.size,0,none⟩=some (.int .i64 x.sn):=(au.new w 197 (jU x)).cell 0;clear hA h hs hn hB;unfold jU at*;go_enter Tryz.func144,Tryz.ntmps144;go_upto_region 1 with (fail)
 generalize w.alloc (.cells #[.int .i64 x.sn,.bool x.part,.int .i64 x.fr,.int .i64 x.lt] 197)=w1 at*
 go_quiet ((go_at_call 142;exact Calls.quiet_of_same ((CO.out _).mono fun _ _ hh=>⟨hh.1,hh.2.symm⟩)))
 go_wp2;go_ret;exact ⟨rfl,HB.out.drewN _⟩
set_option maxRecDepth 10000 in
set_option maxHeartbeats 1000000 in
theorem M6 (h:dS w D F g c st vq vs vo os) (h1:st.first<1024) (bs bn:Nat) (m:Int) (hs:au w bs 49 #[.pointer (some ⟨g,0,none⟩)]) (hn:au w bn 3 #[.int .i64 m])
 (A:Option Addr) (n cc:Nat) (l:List Nk) (hN:bI w A n cc l) (hx:∀x∈l,0≤x.sn∧x.sn≤1023):
 Calls Tryz.prog 184 #[.slice A n cc,.func (.func 144) #[] #[.pointer (some ⟨bs,0,none⟩),.pointer (some ⟨bn,0,none⟩)]] w
  fun e w'=>(∃i:Int,e= .returned (.int .i64 i)∧decide (0≤i)=l.any (behind st m))∧Below w.heap.size w w':=by
 have hcap:=hN.cap;have hmx:=hN.mx;have HL:=Lib.hid hN.len;have HN:=Lib.hid hN;have HC:=Lib.hid (fun (W:World) (hW:Below w.heap.size w W) (x:Nk) (hx:0≤x.sn∧x.sn≤1023)=>M5 (h.below hW) h1 bs bn m (hs.below hW hs.lt) (hn.below hW hn.lt) x hx);have HX:=Lib.hid hx;clear h hs hn hN hx;unfold jU at HC;go_enter Tryz.func184,Tryz.ntmps184;go_wp2
 go_loopw [8] (fun i wr=>∃k:Nat,k≤n∧i= .int .i64 k∧Below w.heap.size w wr∧∀(j:Nat) (y:Nk),j<k→l[j]? =some y→behind st m y=false) (fun i _=>n-(intOf i).toNat)
 case atStart=>exact ⟨0,Nat.zero_le _,rfl,Below.refl _ _,fun j y hj=>by omega⟩
 case round=>
  obtain ⟨k,hk,rfl,hb,hall⟩:=hrel;have HA:=Lib.hid hall;clear hall;by_cases hlt:k<n
  ·obtain ⟨x,hx⟩:∃x,l[k]? =some x:=⟨_,List.getElem?_eq_getElem (by have:=HL.out;omega)⟩
   obtain ⟨ad,rfl,Cy,hcl⟩:=(HN.out.below hb).at_ (by omega);obtain ⟨k0,k1,k2,k3⟩:=hcl k x hx;have hcall:=HC.out wr hb x (HX.out x (List.mem_of_getElem? hx));have HK:=Lib.hid hx;have VY:=Lib.hid hcall;have HB:=Lib.hid hb;clear hx hcl hcall hb;go_wp2_with fail;refine VY.out.mono ?_;rintro e1 w1 ⟨rfl,hb1⟩;have HB1:=Lib.hid (HB.out.trans (hb1.mono HB.out.size));clear hb1 k0 k1 k2 k3;cases hq:behind st m x with
   |false=>
    have HQ:=Lib.hid hq;clear hq;go_wp2
    go_round
    case rel=>
     refine ⟨k+1,by omega,by go_num,HB1.out,fun j y hj hy=> ?_⟩;rcases Nat.lt_or_ge j k with h2|h2
     ·exact HA.out j y h2 hy
     ·rw[show j=k by omega,HK.out] at hy;cases hy;exact HQ.out
    case measure=>simp[intOf];omega
   |true=>
    have HQ:=Lib.hid hq;clear hq;go_wp2;go_ret;refine ⟨⟨_,rfl,?_⟩,HB1.out⟩;rw[List.any_eq_true.2 ⟨x,List.mem_of_getElem? HK.out,HQ.out⟩];simp
  ·have HB:=Lib.hid hb;clear hb;go_wp2;go_ret;refine ⟨⟨_,rfl,?_⟩,HB.out⟩;have:l.any (behind st m)=false:=by
    rw[List.any_eq_false];intro y hy;obtain ⟨j,hj⟩:=List.mem_iff_getElem?.1 hy;have:=HA.out j y (by have:=(List.getElem?_eq_some_iff.1 hj).1;have:=HL.out;omega) hj;simp[this]
   rw[this];rfl
theorem Km (h:dS w D F g c st vq vs vo os) (h1:st.first<1024) (bs bn:Nat) (m:Int) (hs:au w bs 49 #[.pointer (some ⟨g,0,none⟩)]) (hn:au w bn 3 #[.int .i64 m])
 (A:Option Addr) (n cc:Nat) (l:List Nk) (hN:bI w A n cc l) (hx:∀x∈l,0≤x.sn∧x.sn≤1023):
 Calls Tryz.prog 143 #[.slice A n cc,.func (.func 144) #[] #[.pointer (some ⟨bs,0,none⟩),.pointer (some ⟨bn,0,none⟩)]] w
  fun e w'=>e= .returned (.bool (l.any (behind st m)))∧Below w.heap.size w w':=by
 have hix:=M6 h h1 bs bn m hs hn A n cc l hN hx;have K5:=Lib.hid hix;clear h hs hn hN hx hix;go_enter Tryz.func143,Tryz.ntmps143;go_wp2_with fail;refine K5.out.mono ?_;rintro e1 w1 ⟨⟨i,rfl,hi⟩,hb⟩;have HI:=Lib.hid hi;have HB:=Lib.hid hb;clear hi hb;go_wp2;go_ret;exact ⟨bu HI.out,HB.out⟩
end
end
end Go.Proofs.YtbhiklnljiehiaaGreat
