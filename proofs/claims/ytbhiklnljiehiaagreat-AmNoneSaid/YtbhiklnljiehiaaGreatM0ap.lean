/- amsend: pends, repeats, expires. amsend: repeats, expires. amsend: an error is raised and recovered; Tick. amsend: Tick. amsend: rows that grow: what stays. amsend: Submit. Status: the state between two rounds of its loop; an acknowledged PDU in memory; Status of a failed transmitter, or of an invalid report. The calls of a nil or of a zero transmitter. New: the check of a configuration, the constructor. -/
import Derived.Test.YtbhiklnljiehiaaGreatM0ad
import Derived.Test.YtbhiklnljiehiaaGreatM0ae
import Derived.Test.YtbhiklnljiehiaaGreatM0ai
import Derived.Test.YtbhiklnljiehiaaGreatM0am
import Derived.Test.YtbhiklnljiehiaaGreatM0ao
import Derived.BigRegion
import Derived.Deep.RegionLaw
namespace Go.Proofs.YtbhiklnljiehiaaGreat
section
open Go.RowKit Go.Shelf
attribute [local go_sem] Oper.semAt_some
section
variable {D F:Nat→Prop} {g:Nat} {c:Cf} {st:Sd} {vq vo:Value} {vs os:List Value} {w:World}
theorem dM.far {A:Option Addr} {n cc b:Nat} {l:List (Nat × Nat)} (h:dM w A n cc l) (hf:Cs F D A) (hD:D b) (j:Nat) (u:Value):dM (w.setCell ⟨b,j,none⟩ u) A n cc l:=
 h.stay fun ad e=>fq (fun e2=>(hf ad e).2 (by
  have e3:ad.block=b:=e2;rw[e3];exact hD))
theorem dM.drewN {A:Option Addr} {n cc:Nat} {l:List (Nat × Nat)} (h:dM w A n cc l) (k:Nat):dM (w.drewN k) A n cc l:=h.stay fun _ _=>rfl
theorem gI.drewN {p:Nat} {x:Ou} {Ap Ar:Option Addr} {cp cr:Nat} {vp:List Value} (h:gI w D F p x Ap cp vp Ar cr) (k:Nat):gI (w.drewN k) D F p x Ap cp vp Ar cr:=h.stay fun _ _=>rfl
set_option maxRecDepth 100000 in
set_option maxHeartbeats 1000000 in
theorem yR (h:dS w D F g c st vq vs vo os) {i p:Nat} {x:Ou} {Ap Ar:Option Addr} {cp cr:Nat} {vp:List Value} (hx:st.out[i]? =some x) (hp:os[i]? =some (.pointer (some ⟨p,0,none⟩))) (hO:gI w D F p x Ap cp vp Ar cr)
 {Al:Option Addr} {cl:Nat} {l:List (Nat × Nat)} (hl:dM w Al l.length cl l) (hf:Cs F D Al) (hr:x.dz≤1000000):
 Calls Tryz.prog 146 #[.pointer (some ⟨g,0,none⟩),.pointer (some ⟨p,0,none⟩),.slice Al l.length cl] w fun e w'=>e= .returned (.tuple #[])∧dS w' D F g c (kC st i (gG c x l)) vq vs vo os∧Kept (fun k _=>D k) w w':=by
 obtain ⟨x0,x7,x8,x9,x10,uG⟩:=hO.cells;have f10:=hO.blk.frozen 10;have f11:=hO.blk.frozen 11;have y5:=h.blk.cell 5;have VP:=h.blk.cell 19;have f19:=h.blk.frozen 19;simp[dO] at y5 VP;have hcap:=hO.rs.cap;have hmx:=hO.rs.mx;have hgp:g≠p:=fun e2=>by
  subst e2;have h1:=h.blk;have h2:=hO.blk;unfold au at h1 h2;rw[h1] at h2;injection h2 with h3
  injection h3 with _ h4
  exact absurd h4 (by decide)
 by_cases hpe:x.pend= []
 ·rw[hpe] at x10;obtain ⟨hs1,ho1⟩:=h.Ht hx hp hO 11 (.int .i64 ((x.dz:Int)+1)) (z:= {x with dz:=x.dz+1}) (Jd:=Ar) (Kb:=cr) (by simp[Eh,aF]) rfl hO.rs hO.rf;have hl1:=hl.far hf hO.d 11 (.int .i64 ((x.dz:Int)+1));have hk1:Kept (fun k _=>D k) w (w.setCell ⟨p,11,none⟩ (.int .i64 ((x.dz:Int)+1))):=(Kept.refl _ w).setCell (p:=⟨p,11,none⟩) (fun _ _=>hO.d) _;have hx1:(st.out.set i {x with dz:=x.dz+1})[i]? =some {x with dz:=x.dz+1}:=List.getElem?_set_self (List.getElem?_eq_some_iff.1 hx).1;obtain ⟨z0,z7,z8,z9,M7,Qj⟩:=ho1.cells;have e10:=ho1.blk.frozen 10;have v5:=hs1.blk.cell 5;have v19:=hs1.blk.cell 19;have e19:=hs1.blk.frozen 19;simp[dO] at v5 v19;have hpp:gG c x l=({x with pend:=l,dz:=x.dz+1},decide (c.dz<((x.dz+1:Nat):Int))):=by unfold gG;rw[if_pos hpe]
  rw[hpp];have hdp:=hO.d;have hdg:=h.gd;have L6:∀(b:Bool) (w2:World),dS w2 D F g c {st with out:=st.out.set i {x with dz:=x.dz+1},failed:=b} vq vs vo os→gI w2 D F p {x with dz:=x.dz+1} Ap cp vp Ar cr→dM w2 Al l.length cl l→
   dS (w2.setCell ⟨p,10,none⟩ (.slice Al l.length cl)) D F g c {st with out:=st.out.set i {x with pend:=l,dz:=x.dz+1},failed:=b} vq vs vo os:=fun b w2 k1 k2 k3=>by
   have:=(k1.Ht hx1 hp k2 10 (.slice Al l.length cl) (z:= {x with pend:=l,dz:=x.dz+1}) (Jd:=Al) (Kb:=cl) rfl rfl k3 hf).1;simpa using this
  have HF:=Lib.hid L6;have HS:=Lib.hid hs1;have HO:=Lib.hid ho1;have HL:=Lib.hid hl1;have HK:=Lib.hid hk1;have HDP:=Lib.hid hdp;have HDG:=Lib.hid hdg;clear h hcap hmx hO hs1 ho1 hl1 hk1 hx1 hpp x0 x7 x8 x9 z0 z7 z8 z9 hdp hdg L6;have M8:∀(b:Bool) (q:Nat),b=(st.failed||decide (c.dz<((x.dz+1:Nat):Int)))→
   dS ((((w.setCell ⟨p,11,none⟩ (.int .i64 ((x.dz:Int)+1))).drewN q).setCell ⟨g,19,none⟩ (.bool b)).setCell ⟨p,10,none⟩ (.slice Al l.length cl)) D F g c (kC st i ({x with pend:=l,dz:=x.dz+1},decide (c.dz<((x.dz+1:Nat):Int)))) vq vs vo os∧
   Kept (fun k _=>D k) w ((((w.setCell ⟨p,11,none⟩ (.int .i64 ((x.dz:Int)+1))).drewN q).setCell ⟨g,19,none⟩ (.bool b)).setCell ⟨p,10,none⟩ (.slice Al l.length cl)):=fun b q hb=>by
   have k1:=(HS.out.drewN q).mr 19 (.bool b) (st':= {st with out:=st.out.set i {x with dz:=x.dz+1},failed:=b}) rfl rfl rfl;have k2:=(HO.out.drewN q).far (b:=g) HDG.out hgp 19 (.bool b);have k3:=(HL.out.drewN q).far hf HDG.out 19 (.bool b);have k4:=HF.out b _ k1 k2 k3;subst hb;exact ⟨k4,((HK.out.gU q).setCell (p:=⟨g,19,none⟩) (fun _ _=>HDG.out) _).setCell (p:=⟨p,10,none⟩) (fun _ _=>HDP.out) _⟩
  have HE:=Lib.hid M8;clear M8;cases hfl:st.failed with
  |true=>
   rw[hfl] at VP v19 HE;have qp:=Lib.hid hfl;clear hfl;go_enter Tryz.func146,Tryz.ntmps146;go_wp2;generalize w.setCell ⟨p,11,none⟩ (.int .i64 ((x.dz:Int)+1))=w1 at*
   go_region
   go_wp2
   go_end0
   exact ⟨rfl,HE.out true 1 rfl⟩
  |false=>
   rw[hfl] at VP v19 HE;have qp:=Lib.hid hfl;clear hfl;by_cases hov:c.dz<(x.dz:Int)+1
   ·have hd:decide (c.dz<(x.dz:Int)+1)=true:=decide_eq_true hov;have hb:true=(false||decide (c.dz<((x.dz+1:Nat):Int))):=by simp;omega
    have HB:=Lib.hid hb;clear hb;go_enter Tryz.func146,Tryz.ntmps146;go_wp2;generalize w.setCell ⟨p,11,none⟩ (.int .i64 ((x.dz:Int)+1))=w1 at*
    go_region
    go_wp2
    go_end0
    exact ⟨rfl,HE.out true 1 HB.out⟩
   ·have hd:decide (c.dz<(x.dz:Int)+1)=false:=decide_eq_false hov;have hb:false=(false||decide (c.dz<((x.dz+1:Nat):Int))):=by simp;omega
    have HB:=Lib.hid hb;clear hb;go_enter Tryz.func146,Tryz.ntmps146;go_wp2;generalize w.setCell ⟨p,11,none⟩ (.int .i64 ((x.dz:Int)+1))=w1 at*
    go_region
    go_wp2
    go_end0
    exact ⟨rfl,HE.out false 1 HB.out⟩
 ·have hpl:0<x.pend.length:=List.length_pos_iff.2 hpe;have d0:((x.pend.length:Int)==0)=false:=by simp;omega
  have hpp:gG c x l=({x with pend:=l},false):=by unfold gG;rw[if_neg hpe]
  rw[hpp];have hs:=h.Ht hx hp hO 10 (.slice Al l.length cl) (z:= {x with pend:=l}) (Jd:=Al) (Kb:=cl) rfl rfl hl hf;have HS:=Lib.hid hs.1;have HD:=Lib.hid hO.d;clear h hO hs hpp;go_enter Tryz.func146,Tryz.ntmps146;go_wp2
  go_end0
  refine ⟨rfl,?_,(Kept.refl _ w).setCell (p:=⟨p,10,none⟩) (fun _ _=>HD.out) _⟩;have:=HS.out;simpa[kC] using this
end
end
section
open Go.RowKit Go.Shelf
attribute [local go_sem] Oper.semAt_some
section
variable {D F:Nat→Prop} {g:Nat} {c:Cf} {st:Sd} {vq vo:Value} {vs os:List Value} {w:World}
theorem dM.new (w:World) (t:TypeId) (a b:Nat):dM (w.alloc (.cells #[.int .i64 (a:Nat),.int .i64 (b:Nat)] t)) (some ⟨w.heap.size,0,none⟩) 1 1 [(a,b)]:=
 ⟨rfl,Nat.le_refl _,by omega,fun _=>⟨_,rfl,by simp,fun j r hj=>by
  have hb:=au.new w t #[.int .i64 (a:Nat),.int .i64 (b:Nat)];cases j with
  |zero=>
   simp at hj;subst hj;exact ⟨hb.cell 0,hb.cell 1⟩
  |succ j=>simp at hj⟩⟩
set_option maxRecDepth 10000 in
set_option maxHeartbeats 1000000 in
theorem tJ (h:dS w D F g c st vq vs vo os) {K:Nat} (hB:jk st K) (hK:K≤100000) (hw:st.out.length≤512):
 Calls Tryz.prog 115 #[.pointer (some ⟨g,0,none⟩)] w fun e w'=>e= .returned (.tuple #[])∧kM w D F g c (bK c st) w':=by
 have hid:=BA h hB.held (by omega);have Oz:=Lib.hid hid;clear hid;cases hi:jD st with
 |false=>
  have hfin:bK c st=st:=by unfold bK;rw[if_pos hi]
  rw[hfin];rw[hi] at Oz;have HH:=Lib.hid h;clear h hi hfin;go_enter Tryz.func115,Tryz.ntmps115;go_wp2_with fail;refine Oz.out.mono ?_;rintro e1 w1 ⟨rfl,q,rfl⟩;go_wp2;refine bodyPost_ret (results_none rfl _ _ _) rfl ?_;exact ⟨rfl,(HH.out.o (Kept.refl _ w)).drewN q⟩
 |true=>
  rw[hi] at Oz;have hix:=fun q=>xU 161 (.inr rfl) (fun x=> !x.aV) (h.drewN q) (by omega) fun p x Ap cp vp Ar cr ho=>Kc ho
  have K5:=Lib.hid hix;have uk:=h.blk.cell 12;simp[dO] at uk;obtain ⟨A,cc,rfl,hs⟩:=h.Pb;have hcap:=hs.cap;have hmx:=hs.mx;have HH:=Lib.hid h;clear hix;cases hf:st.out.findIdx? (fun x=> !x.aV) with
  |none=>
   have hfin:bK c st=st:=by unfold bK;rw[if_neg (by simp[hi]),hf]
   rw[hfin];rw[hf] at K5;clear h hi hfin hs hf;go_enter Tryz.func115,Tryz.ntmps115;go_wp2_with fail;refine Oz.out.mono ?_;rintro e1 w1 ⟨rfl,q,rfl⟩;go_wp2_with fail;refine (K5.out q).mono ?_;rintro e1 w1 ⟨rfl,rfl⟩;simp only[WT];go_wp2
   go_end0
   exact ⟨rfl,(HH.out.o (Kept.refl _ w)).drewN q⟩
  |some i=>
   rw[hf] at K5;have hil:i<st.out.length:=(List.findIdx?_eq_some_iff_getElem.1 hf).1;obtain ⟨x,hx⟩:∃x,st.out[i]? =some x:=⟨_,List.getElem?_eq_getElem hil⟩
   have hfin:bK c st=kC st i (gG c x [(0,aF x-1)]):=by unfold bK;rw[if_neg (by simp[hi]),hf];simp only[hx]
   rw[hfin];obtain ⟨p,Ap,cp,vp,Ar,cr,he,ho⟩:=h.oe i x hx;obtain ⟨ad,u,rfl,hb,hu,hc⟩:=hs.get hil;rw[he] at hu;cases hu;obtain ⟨z0,z7,z8,z9,M7,Qj⟩:=ho.cells;have hsz:=jc (hB.ou x (List.mem_of_getElem? hx));have hrx:=hB.rx x (List.mem_of_getElem? hx);have hsub:((aF x:Nat):Int)-1=((aF x-1:Nat):Int):=by omega
   have HX:=Lib.hid hx;have HE:=Lib.hid he;have HO:=Lib.hid ho;have acI:=Lib.hid hsub;clear h hi hfin hs hf hx he ho z0 z7 z9 M7 Qj hsub;go_enter Tryz.func115,Tryz.ntmps115;go_wp2_with fail;refine Oz.out.mono ?_;rintro e1 w1 ⟨rfl,q,rfl⟩;go_wp2_with fail;refine (K5.out q).mono ?_;rintro e1 w1 ⟨rfl,rfl⟩;simp only[WT];go_wp2_with fail;rw[acI.out];have hW:=((HH.out.drewN q).alloc (.cells #[.int .i64 0,.int .i64 ((aF x-1:Nat):Int)] 39)).RQ (b:=w.heap.size) (by simp);have hsp:dM ((w.drewN q).alloc (.cells #[.int .i64 0,.int .i64 ((aF x-1:Nat):Int)] 39)) (some ⟨w.heap.size,0,none⟩) [(0,aF x-1)].length 1 [(0,aF x-1)]:=dM.new (w.drewN q) 39 0 (aF x-1);obtain ⟨p2,Ap2,cp2,vp2,Ar2,cr2,he2,ho2⟩:=hW.oe i x HX.out;rw[HE.out] at he2;cases he2;have Lg:=yR hW HX.out HE.out ho2 hsp (fun ad e=>by cases e;exact ⟨.inr rfl,HH.out.fresh (Nat.le_refl _)⟩) (by omega);clear hsp ho2 hW;refine Lg.mono ?_;rintro e2 w2 ⟨rfl,hA2,hk2⟩;go_wp2
   go_end0
   exact ⟨rfl,kM.step (((Kept.refl _ w).gU q).alloc _) (bR.refl _ _) (bR.one (Nat.le_refl _)) (hA2.o hk2)⟩
def Yh (w:World) (D F:Nat→Prop) (g:Nat) (c:Cf) (st:Sd) (e:Ending) (w':World):Prop:=
 ((st.failed=false∧e= .returned (.tuple #[]))∨(st.failed=true∧e=Hu))∧kM w D F g c st w'
set_option maxRecDepth 10000 in
set_option maxHeartbeats 1000000 in
theorem tK (h:dS w D F g c st vq vs vo os) {K:Nat} (hB:jk st K) (hK:K≤100000) (hw:st.out.length≤512) (hfl:st.failed=false):
 Calls Tryz.prog 78 #[.pointer (some ⟨g,0,none⟩)] w (Yh w D F g c (gH c st)):=by
 have vS:=h.blk.cell 16;have MG:=h.blk.cell 17;have Da:=h.blk.cell 18;have y20:=h.blk.cell 20;have f16:=h.blk.frozen 16;have f18:=h.blk.frozen 18;simp[dO] at vS MG Da y20;have HH:=Lib.hid h;cases hwt:st.wait with
 |false=>
  have hfin:gH c st=st:=by unfold gH;rw[if_pos (.inl hwt)]
  rw[hfin];rw[hwt] at vS;have qp:=Lib.hid hfl;clear h hfin hwt hfl;go_enter Tryz.func78,Tryz.ntmps78;go_wp2
  go_quiet (fail)
  go_wp2;refine bodyPost_ret (results_none rfl _ _ _) rfl ?_;exact ⟨.inl ⟨qp.out,rfl⟩,(HH.out.o (Kept.refl _ w)).drewN _⟩
 |true=>
  rw[hwt] at vS;by_cases hlt:st.now<st.fE
  ·have hfin:gH c st=st:=by unfold gH;rw[if_pos (.inr hlt)]
   rw[hfin];have hd:decide (st.now<st.fE)=true:=decide_eq_true hlt;have qp:=Lib.hid hfl;clear h hfin hwt hfl;go_enter Tryz.func78,Tryz.ntmps78;go_wp2
   go_quiet (fail)
   go_wp2;refine bodyPost_ret (results_none rfl _ _ _) rfl ?_;exact ⟨.inl ⟨qp.out,rfl⟩,(HH.out.o (Kept.refl _ w)).drewN _⟩
  ·have hfin:gH c st=bK c {st with wait:=false,dW:=true}:=by unfold gH;rw[if_neg (by rw[hwt];simp;omega)]
   rw[hfin];have hd:decide (st.now<st.fE)=false:=decide_eq_false hlt;have h2:=fun q=>((h.drewN q).mr 16 (.bool false) (st':= {st with wait:=false}) rfl rfl rfl).mr 18 (.bool true) (st':= {st with wait:=false,dW:=true}) rfl rfl rfl
   have hk2:=fun q=>(((Kept.refl (fun k _=>D k) w).gU q).setCell (p:=⟨g,16,none⟩) (fun _ _=>h.gd) (.bool false)).setCell (p:=⟨g,18,none⟩) (fun _ _=>h.gd) (.bool true)
   have hB2:jk {st with wait:=false,dW:=true} K:=⟨hB.done,hB.dD,hB.bytes,hB.held,hB.JI,hB.pol,hB.ou,hB.rx,hB.zQ,hB.zR⟩;have hrp:=fun q=>tJ (h2 q) hB2 hK hw
   have DV:=Lib.hid hrp;have xP:=Lib.hid hk2;have qp:=Lib.hid hfl;clear h hfin hwt hfl h2 hk2 hrp;go_enter Tryz.func78,Tryz.ntmps78;go_wp2
   go_quiet (fail)
   go_wp2_with fail;refine (DV.out _).mono ?_;rintro e1 w1 ⟨rfl,D1,F1,vq1,vs1,Uq,os1,hA1,hD1,hF1,hk1⟩;have HA1:=Lib.hid hA1;have hend:kM w D F g c (bK c {st with wait:=false,dW:=true}) w1:=kM.step (xP.out _) (bR.refl _ _) (bR.refl _ _) ⟨D1,F1,vq1,vs1,Uq,os1,hA1,hD1,hF1,hk1⟩;have M8:=Lib.hid hend;clear hA1 hD1 hF1 hk1 hend;cases hf1:(bK c {st with wait:=false,dW:=true}).failed with
   |false=>
    have hm:=yI HA1.out hf1;have HM:=Lib.hid hm;have OX:=Lib.hid hf1;clear hm hf1;go_wp2_with fail;refine HM.out.mono ?_;rintro e2 w2 ⟨rfl,rfl⟩;go_wp2
    go_end0
    exact ⟨.inl ⟨OX.out,rfl⟩,M8.out⟩
   |true=>
    have hm:=uY HA1.out hf1;have HM:=Lib.hid hm;have OX:=Lib.hid hf1;clear hm hf1;go_wp2_with fail;refine HM.out.mono ?_;rintro e2 w2 ⟨rfl,rfl⟩;exact ⟨rfl,.inr ⟨OX.out,rfl⟩,M8.out⟩
end
end
section
open Go.RowKit Go.Shelf
attribute [local go_sem] Oper.semAt_some
def yS (P:Program) (fn:Func) (c₀:Frame) (cs cs':List Frame) (R:Ending→FrameMode→World→Prop) (e:Exit) (a:Act) (w:World):Prop:=bodyPostS P fn c₀ cs R e a cs' w
theorem eP (be:Nat) (w:World):
 CallsD Tryz.prog 76 #[.pointer (some ⟨be,0,none⟩)] .returning w fun e u' w'=>e= .returned (.tuple #[])∧u'= .returning∧w=w':=by
 have hnn:=run_eql_nil_nil (P:=Tryz.prog) w (t:=20) (by kernel_rfl);refine callsD_of_wpS Tryz.func76 rfl fun c₀ cs hu=> ?_
 apply wpS_seq;apply wpS_region;generalize hQ:Exit.thenS _ _=Q;simp[wpOpsS,go_sem,recoverD,hu,Tryz.ntmps76];subst hQ;simp only[Exit.thenS];refine wpS_of_wp ?_;rw[show (#[.pointer (some ⟨be,0,none⟩)]++((Array.replicate 17 undef).setIfInBounds 4 (.nilIface)).setIfInBounds 1 (.nilIface):Array Value)= #[.pointer (some ⟨be,0,none⟩),undef,.nilIface,undef,undef,.nilIface,undef,undef,undef,undef,undef,undef,undef,undef,undef,undef,undef,undef] from by kernel_rfl];change Code.wp _ _ (yS Tryz.prog Tryz.f76 c₀ cs (c₀::cs) _) _ w;go_wp2;cases c₀
 simp_all [yS,bodyPostS,results,Tryz.results76]
theorem yT (w:World):(Instr.typeAssert (.iface 191 (.agg #[])) 20 191 true).run Tryz.prog w= .ok (.tuple #[.agg #[],.bool true]) w:=by kernel_rfl
set_option maxHeartbeats 400000 in
set_option maxRecDepth 100000 in
theorem jy (be:Nat) (v4:Value) (w:World) (he:au w be 53 #[v4]):
 CallsD Tryz.prog 76 #[.pointer (some ⟨be,0,none⟩)] (.panicking [{v:= .iface 191 (.agg #[]),recovered:=false}]) w fun e u' w'=>e= .returned (.tuple #[])∧u'= .panicking [{v:= .iface 191 (.agg #[]),recovered:=true}]∧
  (w.alloc (.cells #[] 191)).setCell ⟨be,0,none⟩ (.int .i64 8)=w':=by
 have hnn:=run_eql_held_nil (P:=Tryz.prog) w 20 191 (.agg #[]) (by kernel_rfl);have hta:=yT w;refine callsD_of_wpS Tryz.func76 rfl fun c₀ cs hu=> ?_
 apply wpS_seq;apply wpS_region;generalize hQ:Exit.thenS _ _=Q;simp[wpOpsS,go_sem,recoverD,hu,Tryz.ntmps76];subst hQ;simp only[Exit.thenS];refine wpS_of_wp ?_;rw[show (#[.pointer (some ⟨be,0,none⟩)]++((Array.replicate 17 undef).setIfInBounds 4 (.iface 191 (.agg #[]))).setIfInBounds 1 (.iface 191 (.agg #[])):Array Value)= #[.pointer (some ⟨be,0,none⟩),undef,.iface 191 (.agg #[]),undef,undef,.iface 191 (.agg #[]),undef,undef,undef,undef,undef,undef,undef,undef,undef,undef,undef,undef] from by kernel_rfl];change Code.wp _ _ (yS Tryz.prog Tryz.f76 c₀ cs _ _) _ w;have c4:=(he.alloc (.cells #[] 191)).cell 0;have f4:=(he.alloc (.cells #[] 191)).frozen 0;simp at c4;go_wp2;exact ⟨rfl,_,rfl,.tuple #[],by simp[results,Tryz.results76],rfl,rfl,rfl⟩
end
section
open Go.RowKit Go.Shelf
attribute [local go_sem] Oper.semAt_some
section
variable {D F:Nat→Prop} {g:Nat} {c:Cf} {st:Sd} {vq vo:Value} {vs os:List Value} {w:World}
set_option maxRecDepth 100000 in
set_option maxHeartbeats 1000000 in
theorem Kn (h:dS w D F g c st vq vs vo os) (ht:1≤c.timer) {K:Nat} (hB:jk st K) (hK:K≤90000) (hw:st.out.length≤512) (now:Int) (hn:now≤9223372036854775807):
 Calls Tryz.prog 51 #[.pointer (some ⟨g,0,none⟩),.int .i64 now] w fun e w'=>e= .returned (.int .i64 (iF c st now).2)∧kM w D F g c (iF c st now).1 w':=by
 have hA:=h.alloc (.cells #[.int .i64 0] 53);have hch:=iV hA ht;have nV:=Lib.hid hch;have HH:=Lib.hid h;cases hf:st.failed with
 |true=>
  rw[hf] at nV;have hfin:iF c st now=(st,8):=by unfold iF;rw[if_pos hf]
  rw[hfin];simp only[if_pos] at nV;clear h hA hch hf hfin
  go_enter_defers Tryz.func51,Tryz.ntmps51
  go_wp2_with fail;refine nV.out.mono ?_;rintro e1 w1 ⟨rfl,rfl⟩;go_wp2;refine ⟨.int .i64 8,by simp[results,Tryz.results51,go_sem],rfl,?_⟩;exact (HH.out.alloc _).o ((Kept.refl _ w).alloc _)
 |false=>
  rw[hf] at nV;have hfin:iF c st now=(eX c st now,if (eX c st now).failed=true then 8 else 0):=by unfold iF;rw[if_neg (by simp[hf])]
  rw[hfin];obtain ⟨r,hr⟩:∃r:Int,(if (eX c st now).failed=true then 8 else 0)=r:=⟨_,rfl⟩
  simp only[hr];have HR:=Lib.hid hr;clear hr;simp only[Bool.false_eq_true,if_false] at nV;have hgo:=uX hA now;have qI:=Lib.hid hgo;have HF:=Lib.hid hf;have hB1:=hB.clock hn;have HB1:=Lib.hid hB1;have wD:=au.new w 53 #[.int .i64 0];have Gh:=Lib.hid wD;clear h hA hch hfin hgo hf hB1 wD
  go_enter_defers Tryz.func51,Tryz.ntmps51
  go_wp2_with fail;refine nV.out.mono ?_;rintro e1 w1 ⟨rfl,rfl⟩;go_wp2_with fail;refine qI.out.mono ?_;rintro e2 w2 ⟨rfl,hA2,hk2⟩;have hex:=tK hA2 HB1.out (by omega) hw HF.out;have oV:=Gh.out.kept hk2 (HH.out.fresh (Nat.le_refl _));have V2:=Lib.hid hex;have qz:=Lib.hid oV;have hkk:Kept (fun k _=>D k) w w2:=((Kept.refl _ w).alloc _).trans hk2;have HKK:=Lib.hid hkk;clear hA2 hex oV hk2 hkk;go_wp2_with fail;refine V2.out.mono ?_;rintro e3 w3 ⟨⟨hf3,rfl⟩|⟨hf3,rfl⟩,hO3⟩
  ·have nK:=qz.out.kept hO3.kept (HH.out.fresh (Nat.le_refl _));have c3:=nK.cell 0;have f3:=nK.frozen 0;have c4:=(nK.av 0 (.int .i64 0)).cell 0;simp at c3 c4;have M9:=Lib.hid hO3;have V3:=Lib.hid c4;have Ie:=Lib.hid hf3;clear nK hO3 c4 hf3;go_wp2;refine leaves_cons (f:=76) (args:= #[.pointer (some ⟨w.heap.size,0,none⟩)]) (by simp) (by simp[go_sem]) ?_;refine (eP _ _).mono ?_;rintro e9 u9 w9 ⟨rfl,rfl,rfl⟩;have q:=V3.out;have hf4:(eX c st now).failed=false:=Ie.out;refine ⟨.int .i64 0,by simp[results,Tryz.results51,go_sem,q],by rw[←HR.out,hf4];rfl,?_⟩;exact M9.out.put HKK.out (Nat.le_refl _) qz.out.lt HH.out.lt HH.out.sub 0 _
  ·have nK:=qz.out.kept hO3.kept (HH.out.fresh (Nat.le_refl _));have M9:=Lib.hid hO3;have Ie:=Lib.hid hf3;have uZ:=Lib.hid nK;clear nK hO3 hf3;go_wp2;refine leaves_cons (f:=76) (args:= #[.pointer (some ⟨w.heap.size,0,none⟩)]) (by simp) (by simp[go_sem]) ?_;refine (jy _ _ w3 uZ.out).mono ?_;rintro e9 u9 w9 ⟨rfl,rfl,rfl⟩;have q:=((uZ.out.alloc (.cells #[] 191)).av 0 (.int .i64 8)).cell 0;simp at q;have hf4:(eX c st now).failed=true:=Ie.out;refine ⟨.int .i64 8,by simp[results,Tryz.results51,go_sem,q],by rw[←HR.out,hf4];rfl,?_⟩;exact (M9.out.alloc _).put HKK.out (Nat.le_refl _) qz.out.lt HH.out.lt HH.out.sub 0 _
end
end
section
open Go.RowKit
section
variable {D F D' F':Nat→Prop} {g:Nat} {c:Cf} {st st':Sd} {vq vo:Value} {vs os:List Value} {w w' w'':World}
theorem Cs.sets {A:Option Addr} (h:Cs F D A) (hf:∀k,F k→F' k) (hn:∀k,F k→¬D k→¬D' k):Cs F' D' A:=fun ad e=>⟨hf _ (h ad e).1,hn _ (h ad e).1 (h ad e).2⟩
theorem gI.sets {p:Nat} {x:Ou} {Ap Ar:Option Addr} {cp cr:Nat} {vp:List Value} (h:gI w D F p x Ap cp vp Ar cr) (hd:∀k,D k→D' k) (hf:∀k,F k→F' k) (hn:∀k,F k→¬D k→¬D' k):gI w D' F' p x Ap cp vp Ar cr:=
 ⟨h.blk,hd p h.d,hf p h.f,h.ps,h.pf.sets hf hn,fun i v hv=>(h.pe i v hv).sets hf hn,h.rs,h.rf.sets hf hn⟩
theorem au.off {a b:Nat} {t u:TypeId} {cs ds:Array Value} (h:au w a t cs) (h':au w b u ds) (hne:t≠u):a≠b:=fun e=>by
 subst e;unfold au at h h';rw[h] at h';injection h' with h3
 injection h3 with _ h4
 exact hne h4
theorem dS.Yi (h:dS w D F g c st vq vs vo os):aS vq≠some g∧aS vo≠some g:=⟨h.qr.uy h.blk (by decide),h.qU.uy h.blk (by decide)⟩
theorem dS.qne (h:dS w D F g c st vq vs vo os) (k:Nat) (hq:aS vq=some k):aS vo≠some k:=fun ho=>by
 obtain ⟨c1,h1,_⟩:=h.qr.row hq;obtain ⟨c2,h2,_⟩:=h.qU.row ho;rw[h1] at h2;injection h2 with h3
 injection h3 with _ h4
 exact absurd h4 (by decide)
theorem dS.oes (h:dS w D F g c st vq vs vo os) (hk:∀k,F k→k≠g→aS vq≠some k→aS vo≠some k→w'.heap[k]? =w.heap[k]?):
 ∀(i:Nat) (x:Ou),st.out[i]? =some x→∃p Ap cp vp Ar cr,os[i]? =some (.pointer (some ⟨p,0,none⟩))∧gI w' D F p x Ap cp vp Ar cr:=fun i x hx=>by
 obtain ⟨p,Ap,cp,vp,Ar,cr,e,ho⟩:=h.oe i x hx;have nd:∀{A:Option Addr},Cs F D A→∀ad,A=some ad→w'.heap[ad.block]? =w.heap[ad.block]? :=fun hi ad ea=>hk _ (hi ad ea).1 (fun e2=>(hi ad ea).2 (by rw[e2];exact h.gd)) (fun e2=>(hi ad ea).2 (h.qd _ e2)) (fun e2=>(hi ad ea).2 (h.od _ e2))
 have hp:w'.heap[p]? =w.heap[p]? :=hk p ho.f (fun e2=>ho.blk.off h.blk (by decide) e2) (h.qr.uy ho.blk (by decide)) (h.qU.uy ho.blk (by decide));exact ⟨p,Ap,cp,vp,Ar,cr,e,hp.trans ho.blk,ho.d,ho.f,ho.ps.stay (nd ho.pf) (fun i v ad hv ea=>nd (ho.pe i v hv) ad ea),ho.pf,ho.pe,ho.rs.stay (nd ho.rf),ho.rf⟩
theorem dS.qes (h:dS w D F g c st vq vs vo os) (hk:∀k,F k→k≠g→aS vq≠some k→aS vo≠some k→w'.heap[k]? =w.heap[k]?):
 ∀(i:Nat) (p:List UInt8),st.queue[i]? =some p→∃A cc,vs[i]? =some (.slice A p.length cc)∧Sl w' w'.heap.size A p.length cc (bV p)∧Cs F D A:=fun i p hp=>by
 obtain ⟨A,cc,e,hs,hf⟩:=h.qe i p hp;exact ⟨A,cc,e,hs.stay (fun ad ea=>hk _ (hf ad ea).1 (fun e2=>(hf ad ea).2 (by rw[e2];exact h.gd)) (fun e2=>(hf ad ea).2 (h.qd _ e2)) (fun e2=>(hf ad ea).2 (h.od _ e2))),hf⟩
theorem dS.qR (h:dS w D F g c st vq vs vo os) {w1 w5:World} {x:List UInt8} {A1 A5:Option Addr} {c1 c5:Nat} (hn:1≤x.length) (hb1:Below w.heap.size w w1) (hx:w1.ownsRow w.heap.size 5 1 (.slice A1 x.length c1) x.length (bV x))
 (hq:dN w5 0 31 (.slice A5 (st.queue.length+1) c5) (st.queue.length+1) (vs++ [.slice A1 x.length c1])) (hg:(w1.alloc (.cells #[.slice A1 x.length c1] 31)).grownBy w5 (aS vq))
 (TU:∀k,aS (.slice A5 (st.queue.length+1) c5)=some k→aS vq=some k∨(w1.alloc (.cells #[.slice A1 x.length c1] 31)).heap.size≤k):
 kM w D F g c (gq st x) (w5.setCell ⟨g,7,none⟩ (.slice A5 (st.queue.length+1) c5)):=by
 have hz1:=hb1.size;have VX:(w1.alloc (.cells #[.slice A1 x.length c1] 31)).heap.size=w1.heap.size+1:=World.size_alloc _ _;have hgl:=h.blk.lt;have hgA:=(h.blk.below hb1 hgl).alloc (.cells #[.slice A1 x.length c1] 31);have hg5:=hgA.grown hg (fun e=>h.Yi.1 e.symm);have Pt:=hg5.av 7 (.slice A5 (st.queue.length+1) c5);obtain ⟨A0,c0,ev,hsl,hA1⟩:=aZ hx;cases ev;have I8:=hg.size;have hh:∀k,k<w.heap.size→k≠g→aS vq≠some k→(w5.setCell ⟨g,7,none⟩ (.slice A5 (st.queue.length+1) c5)).heap[k]? =w.heap[k]? :=fun k hk hkg hkq=>by
  rw[fq (show k≠(⟨g,7,none⟩:Addr).block from hkg),hg.block k (by omega) (fun e=>hkq e.symm),Below.heap_alloc _ _ k (by omega),hb1.block k hk]
 have MN:∀k,F k→k≠g→aS vq≠some k→aS vo≠some k→(w5.setCell ⟨g,7,none⟩ (.slice A5 (st.queue.length+1) c5)).heap[k]? =w.heap[k]? :=fun k hf h1 h2 _=>hh k (h.lt k hf) h1 h2
 obtain ⟨ad,rfl,e2⟩:=hA1 hn;have e4:ad.block<w1.heap.size:=by
  obtain ⟨ajd,e3,e4,_⟩:=hsl.at_ hn;cases e3;exact e4
 have I7:(w5.setCell ⟨g,7,none⟩ (.slice A5 (st.queue.length+1) c5)).heap.size=w5.heap.size:=by simp[World.setCell]
 have VO:=hq.store hg5 (by decide) (i:=7) (.slice A5 (st.queue.length+1) c5);have EW:∀k,aS (.slice A5 (st.queue.length+1) c5)=some k→D k∨w1.heap.size+1≤k:=fun k hk=>by
  rcases TU k hk with e|e
  ·exact .inl (h.qd k e)
  ·exact .inr (by omega)
 have hnn:∀k,F k→¬D k→¬(D k∨aS (.slice A5 (st.queue.length+1) c5)=some k):=fun k hf hd e=>by
  rcases e with e|e
  ·exact hd e
  ·rcases EW k e with e|e
   ·exact hd e
   ·have:=h.lt k hf;omega
 refine ⟨fun k=>D k∨aS (.slice A5 (st.queue.length+1) c5)=some k,fun k=>F k∨aS (.slice A5 (st.queue.length+1) c5)=some k∨k=ad.block,.slice A5 (st.queue.length+1) c5,vs++ [.slice (some ad) x.length c1],vo,os,⟨?_,.inl h.gd,?_,?_,?_,fun k hk=> .inr hk,?_,?_,fun k hk=> .inl (h.od k hk),?_,h.inj⟩,?_,?_,?_⟩
 ·exact Pt
 ·rintro k (hk|hk)
  ·exact .inl (h.sub k hk)
  ·exact .inr (.inl hk)
 ·rintro k (hk|hk|rfl)
  ·have:=h.lt k hk;omega
  ·exact (VO.lt hk).2
  ·omega
 ·have hl:(gq st x).queue.length=st.queue.length+1:=by simp[gq]
  rw[hl];exact VO
 ·intro i p hi;have hi':(st.queue++ [x])[i]? =some p:=hi;rcases Nat.lt_or_ge i st.queue.length with hlt|hge
  ·rw[List.getElem?_append_left hlt] at hi';obtain ⟨A,cc,k1,k2,k3⟩:=h.qes MN i p hi';exact ⟨A,cc,by rw[List.getElem?_append_left (by rw[h.qr.1];exact hlt)];exact k1,k2,k3.sets (fun k hk=> .inl hk) hnn⟩
  ·have hi0:i=st.queue.length:=by
    have:=(List.getElem?_eq_some_iff.1 hi').1;simp at this;omega
   subst hi0;simp at hi';subst hi';refine ⟨some ad,c1,by rw[←h.qr.1];simp,hsl.stay fun zC e=> ?_,fun zC e=> ?_⟩
   ·cases e;rw[fq (show ad.block≠(⟨g,7,none⟩:Addr).block by show ad.block≠g;omega),hg.block _ (by omega) (fun e=>by
     have:=(h.qr.lt e.symm).2;omega),Below.heap_alloc _ _ _ (by omega)]
   ·cases e;refine ⟨.inr (.inr rfl),?_⟩;rintro (hd|hd)
    ·have:=h.lt _ (h.sub _ hd);omega
    ·rcases TU _ hd with e|e
     ·have:=(h.qr.lt e).2;omega
     ·omega
 ·exact h.qU.keep fun k hk=>hh k (h.qU.lt hk).2 (fun e=>h.Yi.2 (by rw[←e];exact hk)) (fun e=>h.qne k e hk)
 ·intro i y hi;obtain ⟨p,Ap,cp,vp,Ar,cr,k1,k2⟩:=h.oes MN i y hi;exact ⟨p,Ap,cp,vp,Ar,cr,k1,k2.sets (fun k hk=> .inl hk) (fun k hk=> .inl hk) hnn⟩
 ·rintro k (hk|hk)
  ·exact .inl hk
  ·rcases EW k hk with e|e
   ·exact .inl e
   ·exact .inr (by omega)
 ·rintro k (hk|hk|rfl)
  ·exact .inl hk
  ·rcases EW k hk with e|e
   ·exact .inl (h.sub k e)
   ·exact .inr (by omega)
  ·exact .inr e2
 ·have hk1:Kept (fun k _=>D k) w w1:=(Kept.of_below hb1).fA fun k o ho hm=>by have:=lt_of_heap ho;omega
  exact ((hk1.alloc _).grown hg (fun k hk o ho=>h.qd k hk)).setCell (p:=⟨g,7,none⟩) (fun _ _=>h.gd) _
end
end
section
open Go.RowKit Go.Shelf
attribute [local go_sem] Oper.semAt_some
section
variable {D F:Nat→Prop} {g:Nat} {c:Cf} {st:Sd} {vq vo:Value} {vs os:List Value} {w:World}
def Na (w:World) (D F:Nat→Prop) (g:Nat) (c:Cf) (R:Sd × Int) (e:Ending) (w':World):Prop:=e= .returned (.int .i64 R.2)∧kM w D F g c R.1 w'
set_option maxRecDepth 10000 in
set_option maxHeartbeats 1000000 in
theorem EX (h:dS w D F g c st vq vs vo os) (ht:LD c) (hsum:bM st≤1048576) (Yd:st.queue.length≤1048576) {A:Option Addr} {n cc:Nat} {x:List UInt8} (hx:Sl w w.heap.size A n cc (bV x)):
 Calls Tryz.prog 58 #[.pointer (some ⟨g,0,none⟩),.slice A n cc] w (Na w D F g c (cZ c st x)):=by
 have hch:=iV h ht.timer.1;have nV:=Lib.hid hch;have HH:=Lib.hid h;have hxl:x.length=n:=by have:=hx.len;simpa using this
 have hcap:=hx.cap;have hmx:=hx.mx;clear hch;cases hf:st.failed with
 |true=>
  rw[hf] at nV;have hfin:cZ c st x=(st,8):=by unfold cZ;rw[if_pos hf]
  rw[hfin];simp only[if_pos] at nV;clear h hf hfin;go_enter Tryz.func58,Tryz.ntmps58;go_wp2_with fail;refine nV.out.mono ?_;rintro e1 w1 ⟨rfl,rfl⟩;go_wp2;go_ret;exact ⟨rfl,HH.out.o (Kept.refl _ w)⟩
 |false=>
  rw[hf] at nV;simp only[Bool.false_eq_true,if_false] at nV;by_cases h0:n=0
  ·have hfin:cZ c st x=(st,2):=by unfold cZ;rw[if_neg (by simp[hf]),if_pos (.inl (by omega))]
   rw[hfin];have d0:((n:Int)==0)=true:=by simp;omega
   have H0:=Lib.hid h0;clear h hf hfin h0 hx hxl;go_enter Tryz.func58,Tryz.ntmps58;go_wp2_with fail;refine nV.out.mono ?_;rintro e1 w1 ⟨rfl,rfl⟩;go_wp2;go_ret;exact ⟨rfl,HH.out.o (Kept.refl _ w)⟩
  have d0:((n:Int)==0)=false:=by simp;omega
  by_cases h9:9000<n
  ·have hfin:cZ c st x=(st,2):=by unfold cZ;rw[if_neg (by simp[hf]),if_pos (.inr (by omega))]
   rw[hfin];have d1:decide ((9000:Int)<n)=true:=by simp;omega
   clear h hf hfin hx hxl;go_enter Tryz.func58,Tryz.ntmps58;go_wp2_with fail;refine nV.out.mono ?_;rintro e1 w1 ⟨rfl,rfl⟩;go_wp2;go_ret;exact ⟨rfl,HH.out.o (Kept.refl _ w)⟩
  have d1:decide ((9000:Int)<n)=false:=by simp;omega
  have Gu:=fun k=>Be (h.drewN k) hsum
  have HHE:=Lib.hid Gu;have y6:=h.blk.cell 6;simp[dO] at y6;by_cases hfu:c.cap<(bM st:Int)+(n:Int)
  ·have hfin:cZ c st x=(st,7):=by unfold cZ;rw[if_neg (by simp[hf]),if_neg (by omega),if_pos (by omega)]
   rw[hfin];have d2:decide (c.cap<(bM st:Int)+(n:Int))=true:=decide_eq_true hfu;clear h hf hfin hx hxl Gu;generalize bM st=H at*;have hwr:IntKind.i64.wrap ((H:Int)+n)=(H:Int)+n:=IntWalk.i64_in _ (by omega);go_enter Tryz.func58,Tryz.ntmps58;go_wp2_with fail;refine nV.out.mono ?_;rintro e1 w1 ⟨rfl,rfl⟩;go_wp2_with fail
   go_quiet ((go_at_call 102;exact Calls.quiet_of_same ((HHE.out _).mono fun _ _ hh=>⟨hh.1,hh.2.symm⟩)))
   go_wp2;go_ret;exact ⟨rfl,(HH.out.o (Kept.refl _ w)).drewN _⟩
  ·have hfin:cZ c st x=(gq st x,0):=by unfold cZ;rw[if_neg (by simp[hf]),if_neg (by omega),if_neg (by omega)]
   rw[hfin];have d2:decide (c.cap<(bM st:Int)+(n:Int))=false:=decide_eq_false hfu;generalize bM st=H at*;have hwr:IntKind.i64.wrap ((H:Int)+n)=(H:Int)+n:=IntWalk.i64_in _ (by omega);obtain ⟨j0,hj0,hm0,hm1,hm2⟩:=info_parts sD;have hcl:=fun k=>kN A n cc x (w.drewN k) (hx.drewN k) (by omega)
   have qP:=Lib.hid hcl;have y7:=h.blk.cell 7;have f7:=h.blk.frozen 7;simp[dO] at y7;obtain ⟨Av,cv,rfl,hsv⟩:=h.qr.sl;have hgl:=h.blk.lt;clear h hf hfin Gu hcl hsv;go_enter Tryz.func58,Tryz.ntmps58;go_wp2_with fail;refine nV.out.mono ?_;rintro e1 w1 ⟨rfl,rfl⟩;go_wp2_with fail
   go_quiet ((go_at_call 102;exact Calls.quiet_of_same ((HHE.out _).mono fun _ _ hh=>⟨hh.1,hh.2.symm⟩)))
   go_wp2_with fail;have EY:=HH.out.drewN (nq);have hk0:Kept (fun k _=>D k) w (w.drewN nq):=(Kept.refl _ w).gU nq;have hcl0:Calls Tryz.prog 103 #[.slice A n cc] (w.drewN nq).drew (o8 (w.drewN nq).heap.size 5 (w.drewN nq).drew n (bV x)):=qP.out (nq+1);have hz0:=Lib.hid (show (w.drewN nq).heap.size=w.heap.size from rfl);generalize w.drewN nq=w0 at*;have x0:=EY.blk.cell 7;have f0:=EY.blk.frozen 7;simp[dO] at x0;have Ur:g<w0.heap.size:=EY.blk.lt;have Us:=Lib.hid EY;have acM:=Lib.hid hcl0;have HK0:=Lib.hid hk0;have HXL:=Lib.hid hxl;clear EY hcl0 hk0 y6 y7 f7 hx qP HHE nV hxl
   go_region_law (first
    |((refine zP (by rfl) _ _ 37 (by rfl) j0 (.slice none 0 0) 24 vK hj0 hm0 hm1 hm2 rfl (by rfl) ((Us.out.qr.drew.below hb1 (Nat.le_refl _)).alloc (.cells #[.slice A1 n c1] 31)) ⟨w1.heap.size,0,none⟩ 1 (.slice A1 n c1) (by rfl) (World.news_of_block (heap_alloc_new w1 _) 0 _ rfl) rfl (by unfold maxLen;omega) (by omega) (by simp) ?_;intro v5 w5 hown5 dF TU;obtain ⟨A5,c5,rfl,hs5⟩:=hown5.sl;have wQ:=((Us.out.blk.drew.below hb1 Us.out.blk.lt).alloc (.cells #[.slice A1 n c1] 31)).grown dF (fun e=>((Us.out.qr.drew.below hb1 (Nat.le_refl _)).alloc (.cells #[.slice A1 n c1] 31)).uy ((Us.out.blk.drew.below hb1 Us.out.blk.lt).alloc (.cells #[.slice A1 n c1] 31)) (by decide) e.symm);have q2:=wQ.cell 7;have q3:=wQ.frozen 7;simp[dO] at q2))
    |((go_simp;(with_reducible refine acM.out.mono ?_);rintro e1 w1 ⟨v1,rfl,hv1,hb1⟩;obtain ⟨A1,c1,rfl,hs1,_⟩:=aZ hv1;have Nb:=(hb1.cell (p:=⟨g,7,none⟩) Ur).trans x0;have Ut:g<w1.heap.size:=Nat.lt_of_lt_of_le Ur hb1.size;have ajf:=(World.cell?_alloc_lt w1 (.cells #[.slice A1 n c1] 31) ⟨g,7,none⟩ Ut).trans Nb;have f0':=(hb1.frozen (p:=⟨g,7,none⟩) Ur).trans f0)))
   all_goals
    go_wp2;go_ret;have Qk:=HXL.out;subst Qk;exact ⟨rfl,kM.step (HK0.out.gU 1) (bR.refl _ _) (bR.refl _ _) (dS.qR (w:=w0.drewN 1) (Us.out.drewN 1) (by omega) hb1 hv1 hown5 dF TU)⟩
end
end
section
open Go.RowKit Go.Shelf
attribute [local go_sem] Oper.semAt_some
def Az (c:Cf) (m:Ou→List (Nat × Nat)) (st:Sd) (k:Nat):Sd:= {st with out:=(aL c m k st.out).1,failed:=st.failed||(aL c m k st.out).2}
theorem Nc (c:Cf) (m:Ou→List (Nat × Nat)) (st:Sd):Az c m st 0=st:=by
 obtain ⟨q,d,f,t,fi,o,p,b,po,wa,ex,ow,fa,no⟩:=st;simp[Az,aL]
theorem Jg (c:Cf) (m:Ou→List (Nat × Nat)) (st:Sd) (k:Nat):(Az c m st k).out[k]? =st.out[k]? :=by
 show (aL c m k st.out).1[k]? =st.out[k]?
 rw[jb,if_neg (Nat.lt_irrefl k)]
theorem EZ {c:Cf} {m:Ou→List (Nat × Nat)} {st:Sd} {k:Nat} {x:Ou} (hx:st.out[k]? =some x):Az c m st (k+1)=kC (Az c m st k) k (bS c m x):=by
 have h1:(aL c m (k+1) st.out).1=(aL c m k st.out).1.set k (bS c m x).1:=by
  apply List.ext_getElem?;intro i;rw[jb,List.getElem?_set,jb,ja];have hk:=(List.getElem?_eq_some_iff.1 hx).1;by_cases hik:k=i
  ·subst hik;rw[if_pos (by omega),if_pos rfl,if_pos hk,hx];rfl
  ·rw[if_neg hik];by_cases hlt:i<k
   ·rw[if_pos (by omega),if_pos hlt]
   ·rw[if_neg (by omega),if_neg hlt]
 have h2:(aL c m (k+1) st.out).2=((aL c m k st.out).2||(bS c m x).2):=by
  simp only[aL];rw[List.take_add_one,hx];simp
 unfold Az kC;rw[h1,h2,Bool.or_assoc]
theorem Ko {c:Cf} {m:Ou→List (Nat × Nat)} {st:Sd} {k:Nat} {x:Ou} (hx:st.out[k]? =some x) (ha:x.aV=true):Az c m st (k+1)=Az c m st k:=by
 have hg:=Jg c m st k;rw[hx] at hg;rw[EZ hx];have e:bS c m x=(x,false):=by unfold bS;rw[if_pos ha]
 rw[e];unfold kC;have h3:(Az c m st k).out.set k x=(Az c m st k).out:=by
  apply List.ext_getElem?;intro i;rw[List.getElem?_set];split
  ·rename_i hik;subst hik;split
   ·exact hg.symm
   ·rename_i hl;exact (List.getElem?_eq_none (by omega)).symm
  ·rfl
 simp only[h3,Bool.or_false]
section
variable {D F:Nat→Prop} {g:Nat} {c:Cf} {st:Sd} {vq vo:Value} {vs os:List Value} {w:World}
theorem dS.confirm (h:dS w D F g c st vq vs vo os) {i p:Nat} {x:Ou} {Ap Ar:Option Addr} {cp cr:Nat} {vp:List Value} (hx:st.out[i]? =some x) (hp:os[i]? =some (.pointer (some ⟨p,0,none⟩))) (hO:gI w D F p x Ap cp vp Ar cr):
 dS ((w.setCell ⟨p,9,none⟩ (.bool true)).setCell ⟨p,10,none⟩ (.slice none 0 0)) D F g c (kC st i ({x with aV:=true,pend:= []},false)) vq vs vo os∧Kept (fun k _=>D k) w ((w.setCell ⟨p,9,none⟩ (.bool true)).setCell ⟨p,10,none⟩ (.slice none 0 0)):=by
 obtain ⟨h1,o1⟩:=h.Ht hx hp hO 9 (.bool true) (z:= {x with aV:=true}) (by simp[Eh,aF]) rfl hO.rs hO.rf;have hil:=(List.getElem?_eq_some_iff.1 hx).1;have hx1:(st.out.set i {x with aV:=true})[i]? =some {x with aV:=true}:=List.getElem?_set_self hil;obtain ⟨h2,_⟩:=h1.Ht hx1 hp o1 10 (.slice none 0 0) (z:= {x with aV:=true,pend:= []}) (Jd:=none) (Kb:=0) (by simp[Eh,aF]) rfl (dM.nil _) (fun ad e=>by cases e);have e:kC st i ({x with aV:=true,pend:= []},false)= {st with out:=(st.out.set i {x with aV:=true}).set i {x with aV:=true,pend:= []}}:=by
  unfold kC;rw[List.set_set,Bool.or_false]
 rw[e];exact ⟨h2,((Kept.refl _ w).setCell (p:=⟨p,9,none⟩) (fun _ _=>hO.d) _).setCell (p:=⟨p,10,none⟩) (fun _ _=>hO.d) _⟩
theorem dS.ve {w0:World} (h:dS w0 D F g c st vq vs vo os) {b:Nat} (hF:∀k,F k→k<w.heap.size) (hb:w.heap.size≤b) (j:Nat) (u:Value):dS (w0.setCell ⟨b,j,none⟩ u) D F g c st vq vs vo os:=
 h.stay fun k hk=>fq (fun e=>by have:=hF k hk;have e2:k=b:=e;omega)
theorem Kept.ve {M:Nat→Obj→Prop} {w0:World} (hk:Kept M w w0) {b:Nat} (hb:w.heap.size≤b) (j:Nat) (u:Value):Kept M w (w0.setCell ⟨b,j,none⟩ u):=
 ⟨hk.os,hk.tape,hk.output,Nat.le_trans hk.size (by simp[World.setCell]),fun k o ho hm=>(fq (fun e=>by have:=(Array.getElem?_eq_some_iff.1 ho).1;have e2:k=b:=e;omega)).trans (hk.same k o ho hm)⟩
structure Ql (w:World) (g:Nat) (aK:Int) (A:Option Addr) (n cc:Nat) (w0:World):Prop where
 b:Below w.heap.size w w0
 s:au w0 w.heap.size 49 #[.pointer (some ⟨g,0,none⟩)]
 r:au w0 (w.heap.size+1) 133 #[.int .i64 aK,.slice A n cc]
 e:au w0 (w.heap.size+1+1) 53 #[.int .i64 0]
 z:w0.heap.size=w.heap.size+3
theorem Ql.mk' (w:World) (g:Nat) (aK:Int) (A:Option Addr) (n cc:Nat):Ql w g aK A n cc (((w.alloc (.cells #[.pointer (some ⟨g,0,none⟩)] 49)).alloc (.cells #[.int .i64 aK,.slice A n cc] 133)).alloc (.cells #[.int .i64 0] 53)):=by
 have h1:=((au.new w 49 #[.pointer (some ⟨g,0,none⟩)]).alloc (.cells #[.int .i64 aK,.slice A n cc] 133)).alloc (.cells #[.int .i64 0] 53);have h2:=(au.new (w.alloc (.cells #[.pointer (some ⟨g,0,none⟩)] 49)) 133 #[.int .i64 aK,.slice A n cc]).alloc (.cells #[.int .i64 0] 53);have h3:=au.new ((w.alloc (.cells #[.pointer (some ⟨g,0,none⟩)] 49)).alloc (.cells #[.int .i64 aK,.slice A n cc] 133)) 53 #[.int .i64 0];simp only[World.size_alloc] at h2 h3;exact ⟨(((Below.refl _ w).alloc (Nat.le_refl _) _).alloc (by simp) _).alloc (by simp;omega) _,h1,h2,h3,by simp⟩
set_option maxRecDepth 100000 in
set_option maxHeartbeats 1000000 in
theorem qJ (h:dS w D F g c st vq vs vo os) (ht:1≤c.timer) (now aK:Int) (A:Option Addr) (n cc:Nat) (dG:List Nk) (hN:bI w A n cc dG) (hx:st.failed=true∨cu aK dG=false):
 Calls Tryz.prog 93 #[.pointer (some ⟨g,0,none⟩),.int .i64 now,.agg #[.int .i64 aK,.slice A n cc]] w (Na w D F g c (dm c st now aK dG)):=by
 have HW:=Lib.hid (Ql.mk' w g aK A n cc);have HH:=Lib.hid h;have HN:=Lib.hid hN
 go_enter_defers Tryz.func93,Tryz.ntmps93
 clear h hN;go_wp2_with fail;generalize ((w.alloc (.cells #[.pointer (some ⟨g,0,none⟩)] 49)).alloc (.cells #[.int .i64 aK,.slice A n cc] 133)).alloc (.cells #[.int .i64 0] 53)=w0 at*;have hA:=HH.out.below HW.out.b;have hch:=iV hA ht;have e0:=HW.out.e.cell 0;have e1:=HW.out.e.frozen 0;have r0:=HW.out.r.cell 0;have r1:=HW.out.r.cell 1;simp at e0 r0 r1;have HA:=Lib.hid hA;have nV:=Lib.hid hch;clear hA hch;refine nV.out.mono ?_;cases hf:st.failed with
 |true=>
  have hfin:dm c st now aK dG=(st,8):=by unfold dm;rw[if_pos hf]
  have iW:=Lib.hid hfin;clear hfin hf hx;simp only[if_true];rintro e1 w1 ⟨rfl,rfl⟩;go_wp2;have q:=((HW.out.e.av 0 (.int .i64 8)).av 0 (.int .i64 8)).cell 0;simp at q;refine ⟨.int .i64 8,by simp[results,Tryz.results93,go_sem,q],?_⟩;rw[iW.out];have hz:=HW.out.z;exact ⟨rfl,((HA.out.ve HH.out.lt (b:=w.heap.size+1+1) (by omega) 0 _).ve HH.out.lt (b:=w.heap.size+1+1) (by omega) 0 _).o (((Kept.dA HW.out.b).ve (b:=w.heap.size+1+1) (by omega) 0 _).ve (b:=w.heap.size+1+1) (by omega) 0 _)⟩
 |false=>
  have hv:cu aK dG=false:=by
   rcases hx with e|e
   ·rw[hf] at e;cases e
   ·exact e
  have hfin:dm c st now aK dG=(st,2):=by unfold dm lQ;rw[if_neg (by simp[hf]),if_pos hv]
  have iW:=Lib.hid hfin;have hva:=jL (w0.setCell ⟨w.heap.size+1+1,0,none⟩ (.int .i64 0)) aK A n cc dG (HN.out.below (HW.out.b.setCell (p:=⟨w.heap.size+1+1,0,none⟩) (by simp;omega) _));rw[hv] at hva;have I6:=Lib.hid hva;clear hfin hf hx hv hva;simp only[Bool.false_eq_true,if_false];rintro e1 w1 ⟨rfl,rfl⟩;go_wp2_with fail;refine I6.out.mono ?_;rintro e2 w2 ⟨rfl,hb2⟩;have hE2:=(HW.out.e.av 0 (.int .i64 0)).below hb2 (by have:=HW.out.e.lt;simpa[World.setCell] using this);have c2:=hE2.cell 0;have f2:=hE2.frozen 0;simp at c2;have HE2:=Lib.hid hE2;have HB2:=Lib.hid hb2;clear hE2 hb2;go_wp2;have q:=(HE2.out.av 0 (.int .i64 2)).cell 0;simp at q;refine ⟨.int .i64 2,by simp[results,Tryz.results93,go_sem,q],?_⟩;rw[iW.out];exact ⟨rfl,(((HA.out.ve HH.out.lt (b:=w.heap.size+1+1) (by omega) 0 _).below HB2.out).ve HH.out.lt (b:=w.heap.size+1+1) (by omega) 0 _).o ((((Kept.dA HW.out.b).ve (b:=w.heap.size+1+1) (by omega) 0 _).trans (Kept.dA HB2.out)).ve (b:=w.heap.size+1+1) (by omega) 0 _)⟩
end
end
section
open Go.RowKit Go.Shelf
attribute [local go_sem] Oper.semAt_some
section
variable {w w':World} {v:Value}
end
end
section
open Go.RowKit Go.Shelf
attribute [local go_sem] Oper.semAt_some
def outside (lo hi x:Int):Bool:=decide (x<lo)||decide (hi<x)
def ints (xs:List Int):List Value:=xs.map (Value.int .i64)
def R4 (b:Bool) (w:World) (e:Ending) (w':World):Prop:=((∃k:Nat,e= .returned (.int .i64 k)∧b=true)∨(e= .returned (.int .i64 (-1))∧b=false))∧w=w'
theorem Di (lo hi x:Int) (a b:Nat) (w:World) (ha:w.cell? ⟨a,0,none⟩=some (.int .i64 lo)) (hb:w.cell? ⟨b,0,none⟩=some (.int .i64 hi)):Calls Tryz.prog 199 #[.int .i64 x,.pointer (some ⟨a,0,none⟩),.pointer (some ⟨b,0,none⟩)] w fun e w'=>e= .returned (.bool (outside lo hi x))∧w=w':=by
 by_cases h1:x<lo
 ·have e1:outside lo hi x=true:=by simp[outside,h1]
  have H1:=Lib.hid e1;clear e1;go_enter Tryz.func199,Tryz.ntmps199;go_wp2;go_ret;exact ⟨bu H1.out.symm,rfl⟩
 ·have h1':decide (x<lo)=false:=by simpa using h1
  have e1:decide (hi<x)=outside lo hi x:=by simp[outside,h1']
  have H1:=Lib.hid e1;clear e1;go_enter Tryz.func199,Tryz.ntmps199;go_wp2;go_ret;exact ⟨bu H1.out,rfl⟩
theorem Dj (lo hi:Int) (a b r n:Nat) (xs:List Int) (w:World) (hn:xs.length=n) (hsm:n≤1000) (hr:au w r 3 (ints xs).toArray) (ha:w.cell? ⟨a,0,none⟩=some (.int .i64 lo)) (hb:w.cell? ⟨b,0,none⟩=some (.int .i64 hi)):
 Calls Tryz.prog 219 #[.slice (some ⟨r,0,none⟩) n n,.func (.func 199) #[] #[.pointer (some ⟨a,0,none⟩),.pointer (some ⟨b,0,none⟩)]] w (R4 (xs.any (outside lo hi)) w):=by
 have HC:=Lib.hid fun x=>Di lo hi x a b w ha hb
 have HL:=Lib.hid hn;clear hn ha hb;go_enter Tryz.func219,Tryz.ntmps219;go_wp2
 go_loop [8] (fun i=>∃k:Nat,k≤n∧i= .int .i64 k∧(xs.take k).any (outside lo hi)=false) (fun i=>n-(intOf i).toNat)
 case atStart=>exact ⟨0,Nat.zero_le _,rfl,by simp⟩
 case round=>
  obtain ⟨k,hk,rfl,hall⟩:=hrel;have HA:=Lib.hid hall;clear hall;by_cases hlt:k<n
  ·have hkl:k<xs.length:=by rw[HL.out];exact hlt
   obtain ⟨x,hx⟩:∃x,xs[k]? =some x:=⟨_,List.getElem?_eq_getElem hkl⟩
   have hcell:=hr.cell k;rw[List.getElem?_toArray,ints,List.getElem?_map,hx] at hcell;simp at hcell;have htk:xs.take (k+1)=xs.take k++ [x]:=by rw[List.take_add_one,hx];rfl
   have hin:x∈xs:=List.mem_of_getElem? hx;have HT:=Lib.hid htk;have HI:=Lib.hid hin;have hcx:=HC.out x;clear htk hin hkl hx;cases hq:outside lo hi x with
   |false=>
    rw[hq] at hcx;have HQ:=Lib.hid hq;have HX:=Lib.hid hcx;clear hq hcx;go_wp2_with (go_at_call 199;refine HX.out.mono ?_;rintro e w' ⟨rfl,rfl⟩)
    go_round
    case rel=>exact ⟨k+1,by omega,by go_num,by rw[HT.out,List.any_append,HA.out];simp[HQ.out]⟩
    case measure=>simp[intOf];omega
   |true=>
    rw[hq] at hcx;have HQ:=Lib.hid hq;have HX:=Lib.hid hcx;clear hq hcx;go_wp2_with (go_at_call 199;refine HX.out.mono ?_;rintro e w' ⟨rfl,rfl⟩);go_ret;exact ⟨.inl ⟨k,rfl,by rw[List.any_eq_true];exact ⟨x,HI.out,HQ.out⟩⟩,rfl⟩
  ·have e:xs.take k=xs:=List.take_of_length_le (by rw[HL.out];omega);have hA:=HA.out;rw[e] at hA;have wK:=Lib.hid hA;clear hA e;go_wp2;go_ret;exact ⟨.inr ⟨rfl,wK.out⟩,rfl⟩
theorem rO (lo hi:Int) (a b r n:Nat) (xs:List Int) (w:World) (hn:xs.length=n) (hsm:n≤1000) (hr:au w r 3 (ints xs).toArray) (ha:w.cell? ⟨a,0,none⟩=some (.int .i64 lo)) (hb:w.cell? ⟨b,0,none⟩=some (.int .i64 hi)):
 Calls Tryz.prog 198 #[.slice (some ⟨r,0,none⟩) n n,.func (.func 199) #[] #[.pointer (some ⟨a,0,none⟩),.pointer (some ⟨b,0,none⟩)]] w fun e w'=>e= .returned (.bool (xs.any (outside lo hi)))∧w=w':=by
 have H:=Lib.hid (Dj lo hi a b r n xs w hn hsm hr ha hb);clear hr ha hb;go_enter Tryz.func198,Tryz.ntmps198;go_wp2_with fail;refine H.out.mono ?_;rintro e w' ⟨⟨k,rfl,he⟩|⟨rfl,he⟩,rfl⟩
 ·have HE:=Lib.hid he;clear he;go_wp2;go_ret;exact ⟨bu (by rw[HE.out]),rfl⟩
 ·have HE:=Lib.hid he;clear he;go_wp2;go_ret;exact ⟨bu (by rw[HE.out]),rfl⟩
theorem Uu (lo hi:Int) (r n:Nat) (xs:List Int) (w:World) (hn:xs.length=n) (hsm:n≤1000) (hr:au w r 3 (ints xs).toArray):
 Calls Tryz.prog 159 #[.int .i64 lo,.int .i64 hi,.slice (some ⟨r,0,none⟩) n n] w fun e w'=>e= .returned (.bool (!xs.any (outside lo hi)))∧Below w.heap.size w w':=by
 have ba:=(au.new w 3 #[.int .i64 lo]).alloc (.cells #[.int .i64 hi] 3);have bb:=au.new (w.alloc (.cells #[.int .i64 lo] 3)) 3 #[.int .i64 hi];have br:=(hr.alloc (.cells #[.int .i64 lo] 3)).alloc (.cells #[.int .i64 hi] 3);simp only[World.size_alloc] at bb;have ca:=ba.cell 0;have cb:=bb.cell 0;rw[List.getElem?_toArray] at ca cb;simp only[List.getElem?_cons_zero] at ca cb;have hc:=rO lo hi w.heap.size (w.heap.size+1) r n xs ((w.alloc (.cells #[.int .i64 lo] 3)).alloc (.cells #[.int .i64 hi] 3)) hn hsm br ca cb;have H:=Lib.hid hc;clear ba bb br ca cb hc hr;go_enter Tryz.func159,Tryz.ntmps159;go_wp2_with (go_at_call 198;refine H.out.mono ?_;rintro e w' ⟨rfl,rfl⟩);go_ret;exact ⟨rfl,((Below.refl _ _).alloc (Nat.le_refl _) _).alloc (by simp) _⟩
def within (lo hi:Int) (xs:List Int):Bool:= !xs.any (outside lo hi)
def dK (a0 a1 a2 a3 a4 a5 a6:Int):Bool:=within 0 1024 [a0]&&(within 0 1048576 [a1]&&(within 1 1048576 [a2]&&(within 0 1048576 [a3,a4]&&(within 0 64 [a5]&&within 1 1048576 [a6]))))
def vW (a0 a1 a2 a3 a4 a5 a6:Int):Array Value:= #[.int .i64 a0,.int .i64 a1,.int .i64 a2,.int .i64 a3,.int .i64 a4,.int .i64 a5,.int .i64 a6]
def qw (w:World) (g:Nat) (a0 a1 a2 a3 a4 a5 a6:Int) (W:World):Prop:=au W g 23 (vW a0 a1 a2 a3 a4 a5 a6)∧Below w.heap.size w W
theorem qw.seven {w W:World} {g:Nat} {a0 a1 a2 a3 a4 a5 a6:Int} (h:qw w g a0 a1 a2 a3 a4 a5 a6 W):W.cell? ⟨g,0,none⟩=some (.int .i64 a0)∧W.cell? ⟨g,1,none⟩=some (.int .i64 a1)∧W.cell? ⟨g,2,none⟩=some (.int .i64 a2)∧W.cell? ⟨g,3,none⟩=some (.int .i64 a3)∧W.cell? ⟨g,4,none⟩=some (.int .i64 a4)∧W.cell? ⟨g,5,none⟩=some (.int .i64 a5)∧W.cell? ⟨g,6,none⟩=some (.int .i64 a6):=
 ⟨h.1.cell 0,h.1.cell 1,h.1.cell 2,h.1.cell 3,h.1.cell 4,h.1.cell 5,h.1.cell 6⟩
theorem qw.new (w:World) (a0 a1 a2 a3 a4 a5 a6:Int):qw w w.heap.size a0 a1 a2 a3 a4 a5 a6 (w.alloc (.cells #[.int .i64 a0,.int .i64 a1,.int .i64 a2,.int .i64 a3,.int .i64 a4,.int .i64 a5,.int .i64 a6] 23)):=⟨au.new w 23 _,(Below.refl _ _).alloc (Nat.le_refl _) _⟩
def Yj (a0 a1 a2 a3 a4 a5 a6:Int):Array Value:= #[.int .i64 a0,.int .i64 a1,.int .i64 a2,.int .i64 a3,.int .i64 a4,.int .i64 a5,.int .i64 a6,.slice none 0 0,.int .i64 0,.int .i64 0,.int .i64 0,.int .i64 0,.slice none 0 0,.int .i64 0,.int .i64 0,.int .i64 0,.bool false,.int .i64 0,.bool false,.bool false,.int .i64 0]
def A32 (w:World) (a0 a1 a2 a3 a4 a5 a6:Int) (e:Ending) (w':World):Prop:=
 Below w.heap.size w w'∧
  ((dK a0 a1 a2 a3 a4 a5 a6=true∧∃s,e= .returned (.tuple #[.pointer (some ⟨s,0,none⟩),.int .i64 0])∧w.heap.size≤s∧au w' s 143 (Yj a0 a1 a2 a3 a4 a5 a6))∨(dK a0 a1 a2 a3 a4 a5 a6=false∧e= .returned (.tuple #[.pointer none,.int .i64 2])))
theorem pX (lo hi:Int) (xs:List Int) (cs:Array Value) (hcs:cs=(ints xs).toArray) (n r:Nat) (hn:xs.length=n) (hsm:n≤1000) {w W:World} {g:Nat} {a0 a1 a2 a3 a4 a5 a6:Int} (h:qw w g a0 a1 a2 a3 a4 a5 a6 W) (hr:W.heap.size=r):
 Calls Tryz.prog 159 #[.int .i64 lo,.int .i64 hi,.slice (some ⟨r,0,none⟩) n n] (W.alloc (.cells cs 3)) fun e w'=>e= .returned (.bool (within lo hi xs))∧qw w g a0 a1 a2 a3 a4 a5 a6 w':=by
 subst hcs hr;refine (Uu lo hi W.heap.size n xs _ hn hsm (au.new W 3 _)).mono ?_;rintro e w' ⟨rfl,hk⟩;have hk2:=hk.mono (B':=w.heap.size) (by have:=h.2.size;simp;omega);have h0:=h.2.alloc h.2.size (.cells (ints xs).toArray 3);exact ⟨rfl,(h.1.alloc _).below hk (by have:=h.1.lt;simp;omega),h0.trans hk2⟩
theorem jR (lo hi x:Int) (r:Nat) {w W:World} {g:Nat} {a0 a1 a2 a3 a4 a5 a6:Int} (h:qw w g a0 a1 a2 a3 a4 a5 a6 W) (hr:W.heap.size=r):
 Calls Tryz.prog 159 #[.int .i64 lo,.int .i64 hi,.slice (some ⟨r,0,none⟩) 1 1] (W.alloc (.cells #[.int .i64 x] 3)) fun e w'=>e= .returned (.bool (within lo hi [x]))∧qw w g a0 a1 a2 a3 a4 a5 a6 w':=
 pX lo hi [x] _ rfl 1 r rfl (by decide) h hr
theorem jS (lo hi x y:Int) (r:Nat) {w W:World} {g:Nat} {a0 a1 a2 a3 a4 a5 a6:Int} (h:qw w g a0 a1 a2 a3 a4 a5 a6 W) (hr:W.heap.size=r):
 Calls Tryz.prog 159 #[.int .i64 lo,.int .i64 hi,.slice (some ⟨r,0,none⟩) 2 2] (W.alloc (.cells #[.int .i64 x,.int .i64 y] 3)) fun e w'=>e= .returned (.bool (within lo hi [x,y]))∧qw w g a0 a1 a2 a3 a4 a5 a6 w':=
 pX lo hi [x,y] _ rfl 2 r rfl (by decide) h hr
set_option maxRecDepth 100000 in
set_option maxHeartbeats 1000000 in
theorem Dk (a0 a1 a2 a3 a4 a5 a6:Int) (w:World):Calls Tryz.prog 113 #[.agg (vW a0 a1 a2 a3 a4 a5 a6)] w fun e w'=>e= .returned (.bool (dK a0 a1 a2 a3 a4 a5 a6))∧Below w.heap.size w w':=by
 have hc:=qw.new w a0 a1 a2 a3 a4 a5 a6;obtain ⟨b,hb⟩:∃b,dK a0 a1 a2 a3 a4 a5 a6=b:=⟨_,rfl⟩
 rw[hb];unfold dK at hb;unfold vW;go_enter Tryz.func113,Tryz.ntmps113;go_wp2_with fail;have hz:=World.size_alloc w (.cells #[.int .i64 a0,.int .i64 a1,.int .i64 a2,.int .i64 a3,.int .i64 a4,.int .i64 a5,.int .i64 a6] 23);generalize w.alloc (.cells #[.int .i64 a0,.int .i64 a1,.int .i64 a2,.int .i64 a3,.int .i64 a4,.int .i64 a5,.int .i64 a6] 23)=w0 at*;obtain ⟨x0,x1,x2,x3,x4,x5,x6⟩:=hc.seven;cases h1:within 0 1024 [a0] with
 |false=>
  simp[h1] at hb;subst hb;go_wp2_with (go_at_call 159;first
   |((with_reducible refine (jS _ _ _ _ _ (by assumption) (by first|assumption|exact rfl)).mono ?_);rintro e w9 ⟨rfl,hc⟩;obtain ⟨x0,x1,x2,x3,x4,x5,x6⟩:=hc.seven)
   |((with_reducible refine (jR _ _ _ _ (by assumption) (by first|assumption|exact rfl)).mono ?_);rintro e w9 ⟨rfl,hc⟩;obtain ⟨x0,x1,x2,x3,x4,x5,x6⟩:=hc.seven))
  go_ret;exact ⟨rfl,(by assumption:qw w _ a0 a1 a2 a3 a4 a5 a6 _).2⟩
 |true=>
 cases h2:within 0 1048576 [a1] with
 |false=>
  simp[h1,h2] at hb;subst hb;go_wp2_with (go_at_call 159;first
   |((with_reducible refine (jS _ _ _ _ _ (by assumption) (by first|assumption|exact rfl)).mono ?_);rintro e w9 ⟨rfl,hc⟩;obtain ⟨x0,x1,x2,x3,x4,x5,x6⟩:=hc.seven)
   |((with_reducible refine (jR _ _ _ _ (by assumption) (by first|assumption|exact rfl)).mono ?_);rintro e w9 ⟨rfl,hc⟩;obtain ⟨x0,x1,x2,x3,x4,x5,x6⟩:=hc.seven))
  go_ret;exact ⟨rfl,(by assumption:qw w _ a0 a1 a2 a3 a4 a5 a6 _).2⟩
 |true=>
 cases h3:within 1 1048576 [a2] with
 |false=>
  simp[h1,h2,h3] at hb;subst hb;go_wp2_with (go_at_call 159;first
   |((with_reducible refine (jS _ _ _ _ _ (by assumption) (by first|assumption|exact rfl)).mono ?_);rintro e w9 ⟨rfl,hc⟩;obtain ⟨x0,x1,x2,x3,x4,x5,x6⟩:=hc.seven)
   |((with_reducible refine (jR _ _ _ _ (by assumption) (by first|assumption|exact rfl)).mono ?_);rintro e w9 ⟨rfl,hc⟩;obtain ⟨x0,x1,x2,x3,x4,x5,x6⟩:=hc.seven))
  go_ret;exact ⟨rfl,(by assumption:qw w _ a0 a1 a2 a3 a4 a5 a6 _).2⟩
 |true=>
 cases h4:within 0 1048576 [a3,a4] with
 |false=>
  simp[h1,h2,h3,h4] at hb;subst hb;go_wp2_with (go_at_call 159;first
   |((with_reducible refine (jS _ _ _ _ _ (by assumption) (by first|assumption|exact rfl)).mono ?_);rintro e w9 ⟨rfl,hc⟩;obtain ⟨x0,x1,x2,x3,x4,x5,x6⟩:=hc.seven)
   |((with_reducible refine (jR _ _ _ _ (by assumption) (by first|assumption|exact rfl)).mono ?_);rintro e w9 ⟨rfl,hc⟩;obtain ⟨x0,x1,x2,x3,x4,x5,x6⟩:=hc.seven))
  go_ret;exact ⟨rfl,(by assumption:qw w _ a0 a1 a2 a3 a4 a5 a6 _).2⟩
 |true=>
 cases h5:within 0 64 [a5] with
 |false=>
  simp[h1,h2,h3,h4,h5] at hb;subst hb;go_wp2_with (go_at_call 159;first
   |((with_reducible refine (jS _ _ _ _ _ (by assumption) (by first|assumption|exact rfl)).mono ?_);rintro e w9 ⟨rfl,hc⟩;obtain ⟨x0,x1,x2,x3,x4,x5,x6⟩:=hc.seven)
   |((with_reducible refine (jR _ _ _ _ (by assumption) (by first|assumption|exact rfl)).mono ?_);rintro e w9 ⟨rfl,hc⟩;obtain ⟨x0,x1,x2,x3,x4,x5,x6⟩:=hc.seven))
  go_ret;exact ⟨rfl,(by assumption:qw w _ a0 a1 a2 a3 a4 a5 a6 _).2⟩
 |true=>
 have h6:within 1 1048576 [a6]=b:=by simpa[h1,h2,h3,h4,h5] using hb
 clear hb;go_wp2_with (go_at_call 159;first
  |((with_reducible refine (jS _ _ _ _ _ (by assumption) (by first|assumption|exact rfl)).mono ?_);rintro e w9 ⟨rfl,hc⟩;obtain ⟨x0,x1,x2,x3,x4,x5,x6⟩:=hc.seven)
  |((with_reducible refine (jR _ _ _ _ (by assumption) (by first|assumption|exact rfl)).mono ?_);rintro e w9 ⟨rfl,hc⟩;obtain ⟨x0,x1,x2,x3,x4,x5,x6⟩:=hc.seven))
 go_ret;exact ⟨rfl,(by assumption:qw w _ a0 a1 a2 a3 a4 a5 a6 _).2⟩
set_option maxRecDepth 100000 in
theorem Yk (a0 a1 a2 a3 a4 a5 a6:Int) (w:World):Calls Tryz.prog 70 #[.agg (vW a0 a1 a2 a3 a4 a5 a6)] w (A32 w a0 a1 a2 a3 a4 a5 a6):=by
 have hc:=qw.new w a0 a1 a2 a3 a4 a5 a6;have hcall:=fun W=>Dk a0 a1 a2 a3 a4 a5 a6 W
 obtain ⟨b,hb⟩:∃b,dK a0 a1 a2 a3 a4 a5 a6=b:=⟨_,rfl⟩
 simp only[hb] at hcall;have HB:=Lib.hid hb;clear hb;unfold vW at*;have hz:=World.size_alloc w (.cells #[.int .i64 a0,.int .i64 a1,.int .i64 a2,.int .i64 a3,.int .i64 a4,.int .i64 a5,.int .i64 a6] 23);have x:=hc.seven;obtain ⟨x0,x1,x2,x3,x4,x5,x6⟩:=x;have HC:=Lib.hid hc;have BK:=Lib.hid hcall;clear hc hcall;go_enter Tryz.func70,Tryz.ntmps70;go_wp2_with fail;generalize w.alloc (.cells #[.int .i64 a0,.int .i64 a1,.int .i64 a2,.int .i64 a3,.int .i64 a4,.int .i64 a5,.int .i64 a6] 23)=w0 at*;refine (BK.out _).mono ?_;rintro e1 w1 ⟨rfl,hb1⟩;have hc1:qw w w.heap.size a0 a1 a2 a3 a4 a5 a6 w1:=⟨HC.out.1.below hb1 HC.out.1.lt,HC.out.2.trans (hb1.mono HC.out.2.size)⟩;obtain ⟨y0,y1,y2,y3,y4,y5,y6⟩:=hc1.seven;have Lh:=Lib.hid hc1;clear x0 x1 x2 x3 x4 x5 x6 hb1 hc1;cases b with
 |true=>
  go_wp2
  go_ret2
  exact ⟨Lh.out.2.alloc Lh.out.2.size _,.inl ⟨HB.out,_,rfl,Lh.out.2.size,au.new _ _ _⟩⟩
 |false=>
  go_wp2
  go_ret2
  exact ⟨Lh.out.2,.inr ⟨HB.out,rfl⟩⟩
end
end Go.Proofs.YtbhiklnljiehiaaGreat
