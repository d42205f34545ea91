/- amrecv: Receive. amrecv: State, Pending, Tick; the methods of no receiver. amrecv: New: its configuration. amrecv: sizes of what is stored; a receiver whose memory lies from base on. -/
import Derived.Test.YtiecgfahidpldaaGreatM3ad
import Derived.Test.YtiecgfahidpldaaGreatM3ag
import Derived.Test.YtiecgfahidpldaaGreatM3am
import Derived.Test.YtiecgfahidpldaaGreatM3ap
import Derived.Test.YtiecgfahidpldaaGreatM3au
import Derived.Test.YtiecgfahidpldaaGreatM3av
import Derived.Test.YtiecgfahidpldaaGreatM3aw
import Derived.Test.YtiecgfahidpldaaGreatM3ax
import Derived.StillTailTactics
namespace Go.Proofs.YtiecgfahidpldaaGreat
section
open Go.RowKit Go.Shelf
attribute [local go_sem] Oper.semAt_some
section
variable {w w' W W':World} {T T':Nat→Nat} {g M n:Nat} {c:Cf} {st:Rc} {vo v:Value}
def Ul (w:World) (T:Nat→Nat) (g M n:Nat) (c:Cf) (R:Rc × List (List UInt8) × Nat) (e:Ending) (w':World):Prop:=
 ∃T' kX v n',e= .returned (.tuple #[v,.int .i64 (R.2.2:Nat)])∧gH w' T' g M n' c R.1 kX∧n'≤n+1∧(∀k,k<w.heap.size→T' k=T k)∧Kept (MT T) w w'∧dG w' w.heap.size T' v R.2.1
theorem gH.zero (h:gH w T g M n c st vo) {k:Nat} (hk:w.heap.size≤k):T k=0:=by
 rcases Nat.eq_zero_or_pos (T k) with e|e
 ·exact e
 ·have:=h.lt k (by omega);omega
theorem jr.behind {Q:Nat→Obj→Prop} (h:Kept (MT T) w W) (h2:Kept Q W W') (hq:∀k o,k<w.heap.size→Q k o→T k≠0):Kept (MT T) w W':=
 ⟨h2.os.trans h.os,h2.tape.trans h.tape,h2.output.trans h.output,Nat.le_trans h.size h2.size,fun i o hi hn=>h2.same i o (h.same i o hi hn) (fun hm=>hn (hq i o (lt_of_heap hi) hm))⟩
theorem eY.lie {base:Nat} {x:Value} {ps:List (List UInt8)} (h:eY w base x ps):∃A c vs,x= .slice A ps.length c∧gD w w.heap.size A ps.length c vs ps∧(∀ad,A=some ad→base≤ad.block∧ad.block<w.heap.size)∧∀(i:Nat) u ad,vs[i]? =some u→sOf u=some ad→base≤ad.block∧ad.block<w.heap.size:=by
 obtain ⟨vs,g,cap,data,h1,h2,h3⟩:=h;obtain ⟨A,c,rfl,hs,_⟩:=aP h1;have hl:=h1.1;refine ⟨A,c,vs,rfl,⟨hs,rfl,fun i p hi=> ?_⟩,fun ad e=>h1.lt ad.block (by rw[e];rfl),fun i u ad hu e=> ?_⟩
 ·obtain ⟨off,ci,e,hc1,hc2,hp⟩:=h3 i p hi;refine ⟨_,ci,e,⟨by simp,hc1,hc2,fun hpos=>⟨_,rfl,(h2.lt g rfl).2,fun j u hu=> ?_⟩⟩⟩;have hj:j<p.length:=by
   have:=(List.getElem?_eq_some_iff.1 hu).1;simpa using this
  have hcell:=h2.cells (g:=g) rfl (off+j) u (by
   unfold cu at hu ⊢;rw[List.getElem?_map] at hu ⊢;rw[hp,List.getElem?_take,if_pos hj,List.getElem?_drop] at hu;exact hu)
  have e2:(⟨g,off,none⟩:Addr).add j=(⟨g,0,none⟩:Addr).add (off+j):=by
   unfold Addr.add;by_cases hj0:j=0
   ·subst hj0;by_cases ho:off=0
    ·simp[ho]
    ·simp[ho]
   ·simp[hj0]
  rw[e2];exact hcell
 ·have hi:=(List.getElem?_eq_some_iff.1 hu).1;obtain ⟨off,ci,e2,_⟩:=h3 i _ (List.getElem?_eq_getElem (by omega));rw[hu] at e2;cases e2;cases e;exact h2.lt g rfl
structure Sr (w:World) (T0 T:Nat→Nat) (g M n:Nat) (c:Cf) (p:Nat) (X:Array Value) (W:World) (s:Rc) (vo:Value):Prop where
 rc:gH W T g M n c s vo
 bo:aA W w.heap.size 34 #[.slice none 0 0]
 be:aA W (w.heap.size+1) 35 #[.int .i64 0]
 bx:aA W p 72 X
 kp:Kept (MT T0) w W
 tt:∀k,k<w.heap.size→T k=T0 k
 t0:T w.heap.size=0
 t1:T (w.heap.size+1)=0
 t2:T p=0
theorem Sr.put {T0:Nat→Nat} {p:Nat} {X:Array Value} {s s':Rc} (h:Sr w T0 T g M n c p X W s vo) (i:Nat) (u:Value) (he:(LJ c M vo s).setIfInBounds i u=LJ c M vo s') (hm:s'.m=s.m) (ho:s'.op=s.op):Sr w T0 T g M n c p X (W.setCell ⟨g,i,none⟩ u) s' vo:=by
 have hg:=h.rc.tg;have h0:=h.t0;have h1:=h.t1;have h2:=h.t2;exact ⟨h.rc.put i u he hm ho,h.bo.far (p:=⟨g,i,none⟩) (fun (e:w.heap.size=g)=>by rw[e] at h0;omega) u,h.be.far (p:=⟨g,i,none⟩) (fun (e:w.heap.size+1=g)=>by rw[e] at h1;omega) u,h.bx.far (p:=⟨g,i,none⟩) (fun (e:p=g)=>by rw[e] at h2;omega) u,
  jr.behind h.kp ((Kept.refl (fun k _=>k=g) W).setCell (p:=⟨g,i,none⟩) (fun _ _=>rfl) u) (fun k o hk e=>by have:=h.tt k hk;subst e;omega),h.tt,h0,h1,h2⟩
theorem Sr.below {T0:Nat→Nat} {p:Nat} {X:Array Value} {s:Rc} (h:Sr w T0 T g M n c p X W s vo) (hb:Below W.heap.size W W'):Sr w T0 T g M n c p X W' s vo:=
 ⟨h.rc.below hb,h.bo.below hb h.bo.lt,h.be.below hb h.be.lt,h.bx.below hb h.bx.lt,jr.behind h.kp (Kept.of_below hb) (fun k o hk e=>by have:=h.kp.size;omega),h.tt,h.t0,h.t1,h.t2⟩
theorem dG.over {base:Nat} {outs:List (List UInt8)} (h:dG W base T v outs) (hk:∀k,base≤k→W'.heap[k]? =W.heap[k]?):dG W' base T v outs:=by
 obtain ⟨vs,h1,h2,h3⟩:=h;exact ⟨vs,bT h1 fun k e=>hk k (h1.lt k e).1,h2,fun i q hi=>let ⟨vi,e,ho,ht⟩:=h3 i q hi;⟨vi,e,bT ho fun k e=>hk k (ho.lt k e).1,ht⟩⟩
structure Md (w:World) (T0 T:Nat→Nat) (g M n:Nat) (c:Cf) (v:Value) (outs:List (List UInt8)) (W:World) (s:Rc) (vo:Value):Prop where
 rc:gH W T g M n c s vo
 bo:aA W w.heap.size 34 #[v]
 be:aA W (w.heap.size+1) 35 #[.int .i64 0]
 kp:Kept (MT T0) w W
 tt:∀k,k<w.heap.size→T k=T0 k
 t0:T w.heap.size=0
 t1:T (w.heap.size+1)=0
 out:dG W w.heap.size T v outs
theorem Md.turn {T0:Nat→Nat} {outs:List (List UInt8)} {s s':Rc} (h:Md w T0 T g M n c v outs W s vo) (hr:gH W' T g M n c s' vo) (hk:Kept (MT T) W W'):Md w T0 T g M n c v outs W' s' vo:=
 ⟨hr,h.bo.kept hk (fun hm=>hm h.t0),h.be.kept hk (fun hm=>hm h.t1),jr.behind h.kp hk (fun k o hl e=>by rw[←h.tt k hl];exact e),h.tt,h.t0,h.t1,h.out.stay hk fun _ _=>rfl⟩
theorem Md.put {T0:Nat→Nat} {outs:List (List UInt8)} {s s':Rc} (h:Md w T0 T g M n c v outs W s vo) (i:Nat) (u:Value) (he:(LJ c M vo s).setIfInBounds i u=LJ c M vo s') (hm:s'.m=s.m) (ho:s'.op=s.op):Md w T0 T g M n c v outs (W.setCell ⟨g,i,none⟩ u) s' vo:=
 h.turn (h.rc.put i u he hm ho) ((Kept.refl _ W).setCell (p:=⟨g,i,none⟩) (fun o _=>by show T g≠0;rw[h.rc.tg];omega) u)
theorem Md.drewN {T0:Nat→Nat} {outs:List (List UInt8)} {s:Rc} (h:Md w T0 T g M n c v outs W s vo) (q:Nat):Md w T0 T g M n c v outs (W.drewN q) s vo:=h.turn (h.rc.drewN q) ((Kept.refl _ W).drewN q)
theorem Md.fin {T0:Nat→Nat} {outs:List (List UInt8)} {s:Rc} (h:Md w T0 T g M (n+1) c v outs W s vo):
 aA ((W.setCell ⟨w.heap.size,0,none⟩ v).setCell ⟨w.heap.size+1,0,none⟩ (.int .i64 0)) w.heap.size 34 #[v]∧aA ((W.setCell ⟨w.heap.size,0,none⟩ v).setCell ⟨w.heap.size+1,0,none⟩ (.int .i64 0)) (w.heap.size+1) 35 #[.int .i64 0]∧
 Ul w T0 g M n c (s,outs,0) (.returned (.tuple #[v,.int .i64 0])) ((W.setCell ⟨w.heap.size,0,none⟩ v).setCell ⟨w.heap.size+1,0,none⟩ (.int .i64 0)):=by
 have hk:Kept (fun k _=>k=w.heap.size∨k=w.heap.size+1) W ((W.setCell ⟨w.heap.size,0,none⟩ v).setCell ⟨w.heap.size+1,0,none⟩ (.int .i64 0)):=((Kept.refl _ W).setCell (p:=⟨w.heap.size,0,none⟩) (fun _ _=> .inl rfl) _).setCell (p:=⟨w.heap.size+1,0,none⟩) (fun _ _=> .inr rfl) _;have hb:=(h.bo.aC 0 v).far (p:=⟨w.heap.size+1,0,none⟩) (by simp) (.int .i64 0);have he:=(h.be.far (p:=⟨w.heap.size,0,none⟩) (by simp) v).aC 0 (.int .i64 0);simp at hb he;refine ⟨hb,he,T,vo,v,n+1,rfl,h.rc.far hk (fun k o e=> ?_),Nat.le_refl _,h.tt,jr.behind h.kp hk (fun k o hk e=>by omega),?_⟩
 ·rcases e with e|e
  ·rw[e];exact h.t0
  ·rw[e];exact h.t1
 ·
  obtain ⟨vs,h1,h2,h3⟩:=h.out;have hne:∀{e:TypeId} {y:Value} {k:Nat} {xs:List Value},W.ownsRow w.heap.size e 1 y k xs→(e=22∨e=5)→∀j,y.ownBlock=some j→((W.setCell ⟨w.heap.size,0,none⟩ v).setCell ⟨w.heap.size+1,0,none⟩ (.int .i64 0)).heap[j]? =W.heap[j]? :=fun {e y k xs} hy ht j hj=>by
   have n1:j≠w.heap.size:=fun e2=>by
    subst e2;exact aF hy h.bo (by rcases ht with rfl|rfl<;>decide) hj
   have n2:j≠w.heap.size+1:=fun e2=>by
    subst e2;exact aF hy h.be (by rcases ht with rfl|rfl<;>decide) hj
   rw[Below.heap_setCell _ _ _ j n2,Below.heap_setCell _ _ _ j n1]
  exact ⟨vs,bT h1 (hne h1 (.inl rfl)),h2,fun i q hi=>let ⟨vi,e,ho,ht⟩:=h3 i q hi;⟨vi,e,bT ho (hne ho (.inr rfl)),ht⟩⟩
set_option maxRecDepth 100000 in
set_option maxHeartbeats 8000000 in
theorem pG (h:gH w T g M n c st vo) (ho:dL st) (hcf:L5 c) (hn:n<maxLen) (now:Int) (iR:now≤9223372036854775807) (A:Option Addr) (l cp:Nat) (bs:List UInt8) (hA:∀W,Kept (MT T) w W→Sl W W.heap.size A l cp (cu bs)) (hsm:l≤1000000):
 Calls Tryz.prog 8 #[.pointer (some ⟨g,0,none⟩),.int .i64 now,.slice A l cp] w (Ul w T g M n c (bX c st now bs)):=by
 obtain ⟨R,hR⟩:∃R,R=bX c st now bs:=⟨_,rfl⟩
 rw[←hR];have lG:Tryz.prog.follows .mixedOrders=true:=by kernel_rfl
 have hTa:∀k,w.heap.size≤k→T k=0:=fun k hk=>h.zero hk
 have h0:=(h.alloc (.cells #[.slice none 0 0] 34)).alloc (.cells #[.int .i64 0] 35);have hk0:Kept (MT T) w ((w.alloc (.cells #[.slice none 0 0] 34)).alloc (.cells #[.int .i64 0] 35)):=((Kept.refl _ w).alloc _).alloc _;have bo0:=(aA.new w 34 #[.slice none 0 0]).alloc (.cells #[.int .i64 0] 35);have MK:=aA.new (w.alloc (.cells #[.slice none 0 0] 34)) 35 #[.int .i64 0];rw[World.size_alloc] at MK;have HT0:=Lib.hid hTa;have HA:=Lib.hid hA;have HO:=Lib.hid (ho.goes c iR);have HCF:=Lib.hid hcf;unfold bX at hR;have HR:=Lib.hid hR;have HTG:=Lib.hid h.tg;have hno:=og h0;have hgo:=vP h0 ho hcf now iR;have Qf:=Lib.hid hno;have wS:=Lib.hid hgo;have HK0:=Lib.hid hk0;have hgl:=h.blk.lt;clear h ho hcf hTa h0 hA iR hR hno hgo hk0;generalize fQ c st now=s1 at*
 go_enter_defers Tryz.func8,Tryz.ntmps8
 go_wp2_with fail;refine Qf.out.mono ?_;rintro e1 w0' ⟨rfl,hw0⟩;have hsz0:((w.alloc (.cells #[.slice none 0 0] 34)).alloc (.cells #[.int .i64 0] 35)).heap.size=w.heap.size+2:=by simp
 generalize (w.alloc (.cells #[.slice none 0 0] 34)).alloc (.cells #[.int .i64 0] 35)=w0 at*;subst hw0;go_upto_region 4 with (fail)
 go_wp2_with (go_at_call 33;refine wS.out.mono ?_;rintro e2 w1 ⟨rfl,h1,hk1⟩);have WK:=HK0.out.trans hk1;have Ae:=bo0.kept hk1 (fun hh=>hh (HT0.out _ (Nat.le_refl _)));have yx:=MK.kept hk1 (fun hh=>hh (HT0.out _ (by omega)));have hs1:=HA.out w1 WK;have hsz1:=hk1.size;have hDA:=wE A l cp bs w1 hs1 hsm;have HDA:=Lib.hid hDA;have H1:=Lib.hid h1;have sH:=Lib.hid WK;clear WK hk1 hs1 hDA h1 Qf wS HA HK0 bo0 MK;refine HDA.out.mono ?_;rintro e3 w2 ⟨hb2,hres⟩;have bo2:=Ae.below hb2 Ae.lt;have Bd:=yx.below hb2 yx.lt;have h2:=H1.out.below hb2;have hk2:=jr.trans sH.out (qL hb2) (fun _ _=>rfl);have hsz2:=hb2.size;have HB2:=Lib.hid hb2;have H2:=Lib.hid h2;have uW:=Lib.hid hk2;clear hb2 h2 hk2 H1 sH HDA Ae yx;rcases hres with ⟨er,hd,rfl⟩|⟨x,A3,c3,hd,rfl,hpo⟩
 ·have hR2:R=(s1,[],er):=by
   rw[HR.out,hd]
  have hne:=OO bs er hd;have hne2:((er:Int)==0)=false:=by simp;omega
  have HR2:=Lib.hid hR2;have bo3:=(bo2.far (p:=⟨w.heap.size+1,0,none⟩) (by simp) (.int .i64 (er:Nat))).alloc (.cells #[.int .i64 0,.bool false,.bool false,.bool false,.int .i64 0,.bool false,.bool false,.slice none 0 0] 72);have yZ:=(Bd.aC 0 (.int .i64 (er:Nat))).alloc (.cells #[.int .i64 0,.bool false,.bool false,.bool false,.int .i64 0,.bool false,.bool false,.slice none 0 0] 72);have h3:=(H2.out.far ((Kept.refl (fun k _=>k=w.heap.size+1) _).setCell (p:=⟨w.heap.size+1,0,none⟩) (fun _ _=>rfl) (.int .i64 (er:Nat))) (fun k o hk=>HT0.out k (by omega))).alloc (.cells #[.int .i64 0,.bool false,.bool false,.bool false,.int .i64 0,.bool false,.bool false,.slice none 0 0] 72);have hk3:=(jr.behind uW.out ((Kept.refl (fun k _=>k=w.heap.size+1) _).setCell (p:=⟨w.heap.size+1,0,none⟩) (fun _ _=>rfl) (.int .i64 (er:Nat))) (fun k o hk e=>by omega)).alloc (.cells #[.int .i64 0,.bool false,.bool false,.bool false,.int .i64 0,.bool false,.bool false,.slice none 0 0] 72);simp at yZ;have Ss:=Lib.hid bo3;have Qi:=Lib.hid yZ;have H3:=Lib.hid h3;have lI:=Lib.hid hk3;have f2:=Bd.frozen 0;have c2:=Bd.cell 0;have hbl:=Bd.lt;simp at c2;clear hR2 hd hne HR bo3 yZ h3 hk3 bo2 Bd;unfold aY;go_upto_region 6 with (fail)
  generalize (w2.setCell ⟨w.heap.size+1,0,none⟩ (.int .i64 (er:Nat))).alloc (.cells #[.int .i64 0,.bool false,.bool false,.bool false,.int .i64 0,.bool false,.bool false,.slice none 0 0] 72)=w3 at*;have c3:=Qi.out.cell 0;simp at c3;clear c2 f2;go_wp2_with (go_at_call 34;refine (ng _ _).mono ?_;rintro e4 w4 ⟨rfl,rfl⟩);refine zM _ _ _ _ _ _ _ rfl rfl (by omega) Ss.out Qi.out fun W' hW=> ?_
  rw[HR2.out];exact ⟨T,vo,_,n,rfl,H3.out.far hW (fun k o hk=>HT0.out k (by omega)),by omega,fun _ _=>rfl,jr.behind lI.out hW (fun k o hk e=>by omega),dG.nil _ _ _⟩
 ·have hR2:R=ul c s1 x:=by rw[HR.out,hd]
  have hx:=KE hd;have HR2:=Lib.hid hR2;have HX:=Lib.hid hx;have hsn:=hx.sn;clear hR2 hd HR hx;have bo3:=(bo2.far (p:=⟨w.heap.size+1,0,none⟩) (by simp) (.int .i64 0)).alloc (.cells (aY x.sn x.po x.sg x.la x.off x.s x.e A3 x.ps.length c3) 72);have yZ:=(Bd.aC 0 (.int .i64 0)).alloc (.cells (aY x.sn x.po x.sg x.la x.off x.s x.e A3 x.ps.length c3) 72);have h3:=(H2.out.far ((Kept.refl (fun k _=>k=w.heap.size+1) _).setCell (p:=⟨w.heap.size+1,0,none⟩) (fun _ _=>rfl) (.int .i64 0)) (fun k o hk=>HT0.out k (by omega))).alloc (.cells (aY x.sn x.po x.sg x.la x.off x.s x.e A3 x.ps.length c3) 72);have hk3:=(jr.behind uW.out ((Kept.refl (fun k _=>k=w.heap.size+1) _).setCell (p:=⟨w.heap.size+1,0,none⟩) (fun _ _=>rfl) (.int .i64 0)) (fun k o hk e=>by omega)).alloc (.cells (aY x.sn x.po x.sg x.la x.off x.s x.e A3 x.ps.length c3) 72);have bx3:=aA.new (w2.setCell ⟨w.heap.size+1,0,none⟩ (.int .i64 0)) 72 (aY x.sn x.po x.sg x.la x.off x.s x.e A3 x.ps.length c3);rw[World.size_setCell] at bx3;have aaQ:eY ((w2.setCell ⟨w.heap.size+1,0,none⟩ (.int .i64 0)).alloc (.cells (aY x.sn x.po x.sg x.la x.off x.s x.e A3 x.ps.length c3) 72)) w1.heap.size (.slice A3 x.ps.length c3) x.ps:=hpo.kept fun k o hk ho=>by
   have:=lt_of_heap ho;rw[Below.heap_alloc _ _ k (by simp;omega),Below.heap_setCell _ _ _ k (by simp;omega)];exact ho
  simp at yZ;have Ss:=Lib.hid bo3;have Qi:=Lib.hid yZ;have BX3:=Lib.hid bx3;have H3:=Lib.hid h3;have lI:=Lib.hid hk3;have WL:=Lib.hid aaQ;have f2:=Bd.frozen 0;have c2:=Bd.cell 0;have hbl:=Bd.lt;simp at c2;clear hpo bo3 yZ bx3 h3 hk3 aaQ bo2 Bd;unfold aY at Ss Qi BX3 H3 lI WL;unfold aY;go_upto_region 6 with (fail)
  have Me:((w2.setCell ⟨w.heap.size+1,0,none⟩ (.int .i64 0)).alloc (.cells #[.int .i64 (x.sn:Nat),.bool x.po,.bool x.sg,.bool x.la,.int .i64 (x.off:Nat),.bool x.s,.bool x.e,.slice A3 x.ps.length c3] 72)).heap.size=w2.heap.size+1:=by simp
  generalize (w2.setCell ⟨w.heap.size+1,0,none⟩ (.int .i64 0)).alloc (.cells #[.int .i64 (x.sn:Nat),.bool x.po,.bool x.sg,.bool x.la,.int .i64 (x.off:Nat),.bool x.s,.bool x.e,.slice A3 x.ps.length c3] 72)=w3 at*;generalize w2.heap.size=p at*;have c3e:=Qi.out.cell 0;simp at c3e;have c3o:=Ss.out.cell 0;simp at c3o;obtain ⟨z0,z1,z2,z3,z4,z5,z6,z7⟩:=BX3.out.eight;have hpc:=zz H3.out HO.out x.sn hsn;have HPC:=Lib.hid hpc;clear c2 f2 hpc z2 z3 z4 z5 z6 z7;go_upto_if 30 with (first
   |(go_at_call 34;refine (pF _ _).mono ?_;rintro e4 w4 ⟨rfl,rfl⟩)
   |(go_at_call 35;refine HPC.out.mono ?_;rintro e5 w5 ⟨rfl,rfl⟩))
  by_cases hpl:512≤bD s1 x.sn
  ·have D7:R=({s1 with due:=s1.due||x.po},[],0):=by rw[HR2.out];unfold ul;rw[if_pos hpl]
   have HR4:=Lib.hid D7;have afT:(512:Int)≤(bD s1 x.sn:Nat):=by omega
   clear HR2 D7;obtain ⟨_,_,_,_,_,_,_,_,_,Ej,_⟩:=H3.out.cells;have f14:=H3.out.blk.frozen 14;have fo:=Ss.out.frozen 0;have fe:=Qi.out.frozen 0;have hk5:∀b9:Bool,Kept (fun k _=>k=g∨k=w.heap.size∨k=w.heap.size+1) w3 (((w3.setCell ⟨g,14,none⟩ (.bool b9)).setCell ⟨w.heap.size,0,none⟩ (.slice none 0 0)).setCell ⟨w.heap.size+1,0,none⟩ (.int .i64 0)):=fun b9=>(((Kept.refl _ w3).setCell (p:=⟨g,14,none⟩) (fun _ _=> .inl rfl) _).setCell (p:=⟨w.heap.size,0,none⟩) (fun _ _=> .inr (.inl rfl)) _).setCell (p:=⟨w.heap.size+1,0,none⟩) (fun _ _=> .inr (.inr rfl)) _
   have hbo:∀b9:Bool,aA (((w3.setCell ⟨g,14,none⟩ (.bool b9)).setCell ⟨w.heap.size,0,none⟩ (.slice none 0 0)).setCell ⟨w.heap.size+1,0,none⟩ (.int .i64 0)) w.heap.size 34 #[.slice none 0 0]:=fun b9=>by
    have:=((Ss.out.far (p:=⟨g,14,none⟩) (by show w.heap.size≠g;omega) (.bool b9)).aC 0 (.slice none 0 0)).far (p:=⟨w.heap.size+1,0,none⟩) (by simp) (.int .i64 0);simpa using this
   have hbe:∀b9:Bool,aA (((w3.setCell ⟨g,14,none⟩ (.bool b9)).setCell ⟨w.heap.size,0,none⟩ (.slice none 0 0)).setCell ⟨w.heap.size+1,0,none⟩ (.int .i64 0)) (w.heap.size+1) 35 #[.int .i64 0]:=fun b9=>by
    have:=((Qi.out.far (p:=⟨g,14,none⟩) (by show w.heap.size+1≠g;omega) (.bool b9)).far (p:=⟨w.heap.size,0,none⟩) (by simp) (.slice none 0 0)).aC 0 (.int .i64 0);simpa using this
   have hrc:gH (((w3.setCell ⟨g,14,none⟩ (.bool (s1.due||x.po))).setCell ⟨w.heap.size,0,none⟩ (.slice none 0 0)).setCell ⟨w.heap.size+1,0,none⟩ (.int .i64 0)) T g M n c {s1 with due:=s1.due||x.po} vo:=
    (H3.out.put 14 (.bool (s1.due||x.po)) (st':= {s1 with due:=s1.due||x.po}) rfl rfl rfl).far (((Kept.refl (fun k _=>k=w.heap.size∨k=w.heap.size+1) _).setCell (p:=⟨w.heap.size,0,none⟩) (fun _ _=> .inl rfl) _).setCell (p:=⟨w.heap.size+1,0,none⟩) (fun _ _=> .inr rfl) _) (fun k o hk=>HT0.out k (by omega))
   have hbg:g≠w.heap.size:=by omega
   have hkx:∀b9:Bool,Kept (MT T) w (((w3.setCell ⟨g,14,none⟩ (.bool b9)).setCell ⟨w.heap.size,0,none⟩ (.slice none 0 0)).setCell ⟨w.heap.size+1,0,none⟩ (.int .i64 0)):=fun b9=>jr.behind lI.out (hk5 b9) (fun k o hk e=>by
    have:=HTG.out;rcases e with rfl|e
    ·omega
    ·omega)
   have HBO:=Lib.hid hbo;have MI:=Lib.hid hbe;have Ij:=Lib.hid hrc;have HKX:=Lib.hid hkx;clear hk5 hbo hbe hrc hkx;cases hd:s1.due with
   |true=>
    rw[hd] at Ej;rw[hd,Bool.true_or] at Ij HR4;clear hd;go_wp2;refine om _ _ _ _ _ _ rfl rfl (HBO.out _) (MI.out _) ?_;rw[HR4.out];exact ⟨T,vo,_,n,rfl,Ij.out,by omega,fun _ _=>rfl,HKX.out _,dG.nil _ _ _⟩
   |false=>
    rw[hd] at Ej;rw[hd,Bool.false_or] at Ij HR4;clear hd;go_wp2;refine om _ _ _ _ _ _ rfl rfl (HBO.out _) (MI.out _) ?_;rw[HR4.out];exact ⟨T,vo,_,n,rfl,Ij.out,by omega,fun _ _=>rfl,HKX.out _,dG.nil _ _ _⟩
  ·have afT:¬(512:Int)≤(bD s1 x.sn:Nat):=by omega
   have D7:R=(if Bt (fE s1 x.sn) x=true then (s1,[],9) else let D:=bR 1024 (kL s1 x (fE s1 x.sn));(zn c D.1,D.2,0)):=by rw[HR2.out];unfold ul;rw[if_neg hpl]
   have HR4:=Lib.hid D7;have yF:=Lib.hid hpl;obtain ⟨v9,hl9,Xm⟩:=H3.out.drew.look hsn;obtain ⟨nz,hnz⟩:∃nz,nz=(s1.m x.sn).isNone:=⟨_,rfl⟩
   have hq9:(binOp .eql 86 v9 (.pointer none)).run Tryz.prog w3.drew= .ok (.bool nz) w3.drew:=by
    rcases Xm with ⟨hm,rfl⟩|⟨q,b,vf,vd,hm,rfl,_⟩
    ·rw[hnz,hm];rfl
    ·rw[hnz,hm];rfl
   have hqg:(eqGuard .eql 86 (.tmp 49) (.const (.pointer none)) v9 (.pointer none)).run Tryz.prog w3.drew= .ok () w3.drew:=by
    rcases Xm with ⟨hm,rfl⟩|⟨q,b,vf,vd,hm,rfl,_⟩<;>rfl
   obtain ⟨_,_,x7,_⟩:=H3.out.cells;have HV9:=Lib.hid Xm;have HNZ:=Lib.hid hnz;have Mf:=Lib.hid Me;clear HR2 D7 hpl Xm hnz Me;go_upto_region 10 with (fail)
   refine wp_region_still_tail 6 lG (by kernel_rfl) ?_;simp only[List.take_succ_cons,List.take_zero,List.drop_succ_cons,List.drop_zero]
   repeat still_step
   refine wpStill_nil ?_;change wpList _ _ _ _ _ w3.drew;go_upto_if 50 with (fail)
   go_cut [9] from 30 to 137 (fun s9 wx=>∃b vf vd,s9= .pointer (some ⟨b,0,none⟩)∧pE wx b (fE s1 x.sn) vf vd∧((T b=0∧w3.heap.size≤b)∨T b=3*x.sn+4)∧(∀k,vf.ownBlock=some k→T k=3*x.sn+5)∧(∀k,vd.ownBlock=some k→T k=3*x.sn+6)∧Below w3.heap.size w3 wx)
   case first=>
    rcases HV9.out with ⟨hm,rfl⟩|⟨sp,b,vf,vd,hm,rfl,hs,t1,t2,t3⟩
    ·have hg0:fE s1 x.sn=zm:=by unfold fE;rw[hm];rfl
     obtain rfl:nz=true:=by rw[HNZ.out,hm];rfl
     have HG0:=Lib.hid hg0;clear hm hg0 HV9 HNZ;go_wp2_with fail;go_meet;rw[HG0.out];exact ⟨w3.heap.size,.slice none 0 0,.slice none 0 0,rfl,⟨aA.new w3.drew _ _,World.ownsRow_nil _ _ _ _,World.ownsRow_nil _ _ _ _⟩,.inl ⟨HT0.out _ (by have:=Mf.out;omega),Nat.le_refl _⟩,fun k e=>by simp[Value.ownBlock] at e,fun k e=>by simp[Value.ownBlock] at e,(Below.refl _ w3).drew.alloc (Nat.le_refl _) _⟩
    ·have hg0:fE s1 x.sn=sp:=by unfold fE;rw[hm];rfl
     obtain rfl:nz=false:=by rw[HNZ.out,hm];rfl
     have HG0:=Lib.hid hg0;clear hm hg0 HV9 HNZ;go_wp2_with fail;go_meet;rw[HG0.out];exact ⟨b,vf,vd,rfl,hs,.inr t1,t2,t3,(Below.refl _ w3).drew⟩
   case rest=>
   obtain ⟨b,vf,vd,rfl,hS,hbt,hvf,hvd,hbw⟩:=hcut;have Me:=Mf.out;have D7:=H3.out.below hbw;have bo4:=Ss.out.below hbw Ss.out.lt;have VO:=Qi.out.below hbw Qi.out.lt;have bx4:=BX3.out.below hbw BX3.out.lt;have hk4:=jr.behind lI.out (Kept.of_below hbw) (fun k o hk e=>by have:=hbw.size;omega);obtain ⟨A5,c5,vs5,hv5,aaV,hla,hlv⟩:=WL.out.lie;cases hv5;have hz4:=hbw.size;have hbl:=hS.blk.lt;have hsp:=HO.out.get x.sn;have hpt:∀W,(∀k,w1.heap.size≤k→k<w3.heap.size→W.heap[k]? =w3.heap[k]?)→gD W W.heap.size A3 x.ps.length c3 vs5 x.ps:=fun W hW=>aaV.stay (fun ad e=>hW _ (hla ad e).1 (hla ad e).2) (fun i u ad e1 e2=>hW _ (hlv i u ad e1 e2).1 (hlv i u ad e1 e2).2)
   have htk:=Mc b (fE s1 x.sn) vf vd x A3 c3 vs5 wc hS hsp (hpt wc fun k _ hk=>hbw.block k hk) HX.out.len HX.out.pos HX.out.sum (fun W hW=>hpt W fun k hk1 hk2=>by
    have e1:=hbw.block k hk2;have e2:wc.heap[k]? =some (wc.heap[k]'(by omega)):=Array.getElem?_eq_getElem (by omega);rw[←e1,e2];refine hW.same k _ e2 fun hm=> ?_
    have h0:=HT0.out k (by omega);rcases hm with e|e|e
    ·subst e;omega
    ·have:=hvf k e;omega
    ·have:=hvd k e;omega)
   have Lx:=Lib.hid htk;have Bq:=Lib.hid D7;have Qh:=Lib.hid hS;have sI:=Lib.hid hk4;have Cn:=Lib.hid hbt;have XY:=Lib.hid hvf;have XZ:=Lib.hid hvd;obtain ⟨z0,z1,z2,z3,z4,z5,z6,z7⟩:=bx4.eight;have c3o:=bo4.cell 0;have c3e:=VO.cell 0;simp at c3o c3e;have BO5:=Lib.hid bo4;have BE5:=Lib.hid VO;have BX5:=Lib.hid bx4;clear htk hpt aaV hla hlv hS hbt hvf hvd hbw D7 bo4 VO bx4 hk4 WL H3 lI Ss Qi BX3;unfold aY at Lx;clear Me;go_wp2_with fail;refine Lx.out.mono ?_;intro e6 w6 X0;by_cases hbd:Bt (fE s1 x.sn) x=true
   ·unfold zN at X0;rw[if_pos hbd] at X0;obtain ⟨rfl,hb6⟩:=X0;have Ia:R=(s1,[],9):=by rw[HR4.out,if_pos hbd]
    refine zM _ _ _ _ _ _ _ rfl rfl (by omega) (BO5.out.below hb6 BO5.out.lt) (BE5.out.below hb6 BE5.out.lt) fun W' hW=> ?_
    rw[Ia];exact ⟨T,vo,_,n,rfl,(Bq.out.below hb6).far hW (fun k o hk=>HT0.out k (by omega)),by omega,fun _ _=>rfl,jr.behind (jr.behind sI.out (Kept.of_below hb6) (fun k o hk e=>by have:=sI.out.size;omega)) hW (fun k o hk e=>by omega),dG.nil _ _ _⟩
   ·unfold zN at X0;rw[if_neg hbd] at X0;obtain ⟨rfl,kY,kS,wT,hf6,hd6,pP⟩:=X0;have Ia:R=((zn c (bR 1024 (kL s1 x (fE s1 x.sn))).1),(bR 1024 (kL s1 x (fE s1 x.sn))).2,0):=by rw[HR4.out,if_neg hbd]
    have hnk:∀k,T k=0→k<w3.heap.size→¬Ug b vf vd k (.map #[] 0):=fun k h0 hl hm=>by
     rcases hm with e|e|e
     ·subst e;rcases Cn.out with e|e
      ·omega
      ·omega
     ·have:=XY.out k e;omega
     ·have:=XZ.out k e;omega
    have Me:=Mf.out;have hga:=HTG.out;have bo6:=BO5.out.kept pP (hnk _ (HT0.out _ (Nat.le_refl _)) (by omega));have RI:=BE5.out.kept pP (hnk _ (HT0.out _ (by omega)) (by omega));have bx6:=BX5.out.kept pP (hnk _ (HT0.out _ (by omega)) (by omega));have uQ:¬Ug b vf vd g (.map #[] 0):=fun hm=>by
     rcases hm with e|e|e
     ·subst e;rcases Cn.out with e|e<;>omega
     ·have:=XY.out g e;omega
     ·have:=XZ.out g e;omega
    have VM:=Bq.out.blk.kept pP uQ;have x7:w6.cell? ⟨g,7,none⟩=some (.map (some M)):=VM.cell 7;have XU:=Bq.out.tM;obtain ⟨F,hF,hFm⟩:=Bq.out.mp;have Ki:iP Tryz.prog 3 w6.drew M n F:=hF.same (by
     have e2:wc.heap[M]? =some (wc.heap[M]'(Bq.out.lt M (by omega))):=Array.getElem?_eq_getElem _;show w6.heap[M]? =wc.heap[M]?
     rw[e2];refine pP.same M _ e2 fun hm=> ?_
     rcases hm with e|e|e
     ·subst e;rcases Cn.out with e|e<;>omega
     ·have:=XY.out M e;omega
     ·have:=XZ.out M e;omega)
    have Hr:=jr.behind sI.out pP (fun k o hk e=>by
     rcases e with e|e|e
     ·subst e;rcases Cn.out with e|e<;>omega
     ·have:=XY.out k e;omega
     ·have:=XZ.out k e;omega)
    clear z0 z1 z2 z3 z4 z5 z6 z7 c3o c3e;have z0:w6.cell? ⟨p,0,none⟩=some (.int .i64 (x.sn:Nat)):=bx6.cell 0;have HF7:=Lib.hid hFm;have HS7:=Lib.hid wT;have aaW:=Lib.hid hf6;have aaX:=Lib.hid hd6;have wm:=Lib.hid pP;have MN:=Lib.hid Hr;have Ov:=Lib.hid Ia;have BO7:=Lib.hid bo6;have BE7:=Lib.hid RI;have BX7:=Lib.hid bx6;have P5:=Lib.hid Ki;clear hFm wT hf6 hd6 pP Hr Ia bo6 RI bx6 hF Ki hnk uQ VM Me Lx;go_upto_region 14 with (fail)
    refine wp_region_still_tail 7 lG (by kernel_rfl) ?_;simp only[List.take_succ_cons,List.take_zero,List.drop_succ_cons,List.drop_zero]
    repeat still_step
    refine wpStill_nil ?_;change wpList _ _ _ _ _ w6.drew;refine vL _ rfl _ _ _ 31 rfl 3 86 uz xM M n F rfl P5.out hn x.sn rfl (by omega) (.pointer (some ⟨b,0,none⟩)) rfl ?_;intro w8 hF8 QD;obtain ⟨T8,Mg,hT8,aaZ⟩:=Bq.out.stored (W':=w6.drew) hbl (by rcases Cn.out with e|e<;>omega) XY.out XZ.out (HS7.out.stay rfl (fun _ _=>rfl) (fun _ _=>rfl)) aaW.out aaX.out wm.out.drew HF7.out hF8 QD;have hbz:b≠w.heap.size∧b≠w.heap.size+1∧b≠p:=by
     have q0:=HT0.out w.heap.size (Nat.le_refl _);have q1:=HT0.out (w.heap.size+1) (by omega);have q2:=HT0.out p (by omega);have q3:=Mf.out;refine ⟨fun e=> ?_,fun e=> ?_,fun e=> ?_⟩<;>subst e<;>rcases Cn.out with e|e<;>omega
    have hM8:∀k,T k=0→some k≠some M:=fun k hk e=>by cases e;omega
    have hw3:=Mf.out;have hpp:Sr w T T8 g M (n+1) c p #[.int .i64 (x.sn:Nat),.bool x.po,.bool x.sg,.bool x.la,.int .i64 (x.off:Nat),.bool x.s,.bool x.e,.slice A3 x.ps.length c3] w8 {s1 with m:=eZ s1.m x.sn (some (dO (fE s1 x.sn) x))} vo:=by
     refine ⟨Mg,BO7.out.drew.grown QD (hM8 _ (HT0.out _ (Nat.le_refl _))),BE7.out.drew.grown QD (hM8 _ (HT0.out _ (by omega))),BX7.out.drew.grown QD (hM8 _ (HT0.out _ (by omega))),MN.out.drew.grown QD (fun k e o ho=>by cases e;unfold MT;omega),fun k hk=> ?_,?_,?_,?_⟩
     ·by_cases e:k=b
      ·subst e;rcases Cn.out with e|e
       ·omega
       ·exact aaZ (by omega)
      ·exact hT8 k (by omega) e
     ·exact (hT8 _ (by omega) (Ne.symm hbz.1)).trans (HT0.out _ (Nat.le_refl _))
     ·exact (hT8 _ (by omega) (Ne.symm hbz.2.1)).trans (HT0.out _ (by omega))
     ·exact (hT8 _ (by omega) (Ne.symm hbz.2.2)).trans (HT0.out _ (by omega))
    have hos:=HO.out.Sj HX.out (by have:=yF.out;omega);have HP8:=Lib.hid hpp;have HOS:=Lib.hid hos;obtain ⟨_,_,_,_,_,_,_,_,_,Ej,_⟩:=Mg.cells;have f14:=Mg.blk.frozen 14;obtain ⟨z0,z1,_⟩:=hpp.bx.eight;clear hpp hos hM8 hw3 hbz hT8 aaZ Mg hF8 QD BO7 BE7 BX7 MN P5 HF7 HS7 aaW aaX wm Cn XY XZ Bq Qh sI BO5 BE5 BX5 x7 hga XU hz4 hbl hsp;go_upto_region 15 with (fail)
    simp only[Act.put];go_cut [] from 30 to 137 (fun wx=>wx=w8.setCell ⟨g,14,none⟩ (.bool (s1.due||x.po)))
    case first=>
     cases hd:s1.due with
     |true=>
      rw[hd] at Ej;have HD:=Lib.hid hd;clear hd;go_wp2;go_meet;rw[HD.out];rfl
     |false=>
      rw[hd] at Ej;have HD:=Lib.hid hd;clear hd;go_wp2;go_meet;rw[HD.out];rfl
    case rest=>
    have h9:=HP8.out.put 14 (.bool (s1.due||x.po)) (s':= {s1 with m:=eZ s1.m x.sn (some (dO (fE s1 x.sn) x)),due:=s1.due||x.po}) rfl rfl rfl;rw[←hcut] at h9;have VI:=Lib.hid h9;clear hcut h9 Ej f14 z0 z1 HP8;have hpc:∀(q sn:Nat),sn≤1023→Calls Tryz.prog 35 #[.pointer (some ⟨g,0,none⟩),.int .i64 sn] (wc.drewN q) fun e w'=>e= .returned (.int .i64 (bD s1 sn:Nat))∧wc.drewN q=w':=fun q sn hs=>wJ (wc.drewN q) s1.next sn (VI.out.rc.drewN q).cells.2.2.2.1 HO.out.n1 hs
    have hhi:=HO.out.n3;have aa1:=fun q:Nat=>VI.out.below ((Below.refl _ wc).drewN q)
    have aa2:=Lib.hid hpc;have HWD:=Lib.hid aa1;obtain ⟨_,_,_,y8,_,Ah,_⟩:=VI.out.rc.cells;obtain ⟨z0,_⟩:=VI.out.bx.eight;clear hpc aa1 VI Mf HNZ HV9 hqg hq9 hl9 yF HPC uW H2 HB2 HT0 HR4;go_upto_region 16 with (fail)
    go_quiet ((go_at_call 35;exact Calls.quiet_of_same ((aa2.out _ _ (by omega)).mono fun _ _ hh=>⟨hh.1,hh.2.symm⟩)))
    have hP:=HWD.out nq;generalize wc.drewN nq=EI at*;have WM:=Lib.hid hP;obtain ⟨_,_,_,y8,_,Ah,_⟩:=hP.rc.cells;obtain ⟨z0,_⟩:=hP.bx.eight;have f10:=hP.rc.blk.frozen 10;clear hP HWD aa2;go_upto_if 84 with (fail)
    go_cut [] from 30 to 137 (fun wx=>Sr w T T8 g M (n+1) c p #[.int .i64 (x.sn:Nat),.bool x.po,.bool x.sg,.bool x.la,.int .i64 (x.off:Nat),.bool x.s,.bool x.e,.slice A3 x.ps.length c3] wx {s1 with m:=eZ s1.m x.sn (some (dO (fE s1 x.sn) x)),due:=s1.due||x.po,high:=if bD s1 s1.high≤bD s1 x.sn then dN x.sn else s1.high} vo)
    case first=>
     by_cases hh:bD s1 s1.high≤bD s1 x.sn
     ·have Cc:(bD s1 s1.high:Int)≤(bD s1 x.sn:Int):=by omega
      have hand:bits BinOp.and IntKind.i64 ((x.sn:Int)+1) 1023=((dN x.sn:Nat):Int):=by rw[qK];unfold dN;omega
      have HH:=Lib.hid hh;clear hh;go_wp2_with fail;go_meet;rw[if_pos HH.out];exact WM.out.put 10 (.int .i64 (dN x.sn:Nat)) rfl rfl rfl
     ·have Cc:¬(bD s1 s1.high:Int)≤(bD s1 x.sn:Int):=by omega
      have HH:=Lib.hid hh;clear hh;go_wp2_with fail;go_meet;rw[if_neg HH.out];exact WM.out
    case rest=>
    have Um:dL {s1 with m:=eZ s1.m x.sn (some (dO (fE s1 x.sn) x)),due:=s1.due||x.po,high:=if bD s1 s1.high≤bD s1 x.sn then dN x.sn else s1.high}:=⟨HO.out.n1,HO.out.n2,HOS.out.n3,HO.out.n4,HOS.out.m,HO.out.op,HO.out.t1,HO.out.t2⟩;have hfr:=CY hcut.rc Um s1.status HO.out.n2;have NT:=Lib.hid hfr;have aa3:=Lib.hid hcut;obtain ⟨_,_,_,_,y9,_⟩:=hcut.rc.cells;clear hfr hcut Um y8 Ah z0 f10 WM
    replace y9:wc.cell? ⟨g,9,none⟩=some (.int .i64 (s1.status:Nat)):=y9
    go_upto_region 18 with (fail)
    go_cut [] from 30 to 137 (fun wx=>Sr w T T8 g M (n+1) c p #[.int .i64 (x.sn:Nat),.bool x.po,.bool x.sg,.bool x.la,.int .i64 (x.off:Nat),.bool x.s,.bool x.e,.slice A3 x.ps.length c3] wx (kL s1 x (fE s1 x.sn)) vo)
    case first=>
     go_wp2_with (go_at_call 37;refine NT.out.mono ?_;rintro e12 w12 ⟨rfl,Ey⟩;have h12:=aa3.out.below Ey;have f9:=h12.rc.blk.frozen 9;have c9:=h12.rc.cells.2.2.2.2.1;have H12:=Lib.hid h12;clear h12 Ey);go_meet;exact H12.out.put 9 _ rfl rfl rfl
    case rest=>
    have hdl:=Et hcut.rc HOS.out;have wh:=Lib.hid hdl;have xg:=Lib.hid hcut;have fo:=hcut.bo.frozen 0;have co:=hcut.bo.cell 0;simp at co;clear hdl hcut y9 NT aa3;go_upto_region 19 with (fail)
    go_cut [] from 30 to 137 (fun wx=>∃T9 VT v9,Md w T T9 g M (n+1) c v9 (bR 1024 (kL s1 x (fE s1 x.sn))).2 wx (bR 1024 (kL s1 x (fE s1 x.sn))).1 VT)
    case first=>
     go_wp2_with (go_at_call 38;refine wh.out.mono ?_;rintro e13 X3 ⟨T9,VT,v9',rfl,xJ,hT9,Ke,Xv⟩;have hsl:∃A9 k9 c9,v9'= .slice A9 k9 c9:=(by obtain ⟨ZL,hr9,_⟩:=Xv;obtain ⟨A9,c9,e9,_⟩:=aP hr9;exact ⟨A9,_,c9,e9⟩);obtain ⟨A9,k9,c9,rfl⟩:=hsl;have Sv:=xg.out.bo.kept Ke (fun hm=>hm xg.out.t0);have f13:=Sv.frozen 0;have c13:=Sv.cell 0;simp at c13;have HA:=Lib.hid xJ;have HB:=Lib.hid hT9;have HC:=Lib.hid Ke;have HD:=Lib.hid Xv;have HE:=Lib.hid Sv;clear xJ hT9 Ke Xv Sv);go_meet;have hl12:=xg.out.bo.lt;have aa5:=xg.out.be.lt;have z9:T9 w.heap.size=0:=(HB.out _ hl12).trans xg.out.t0;have z9b:T9 (w.heap.size+1)=0:=(HB.out _ aa5).trans xg.out.t1;have hset:Kept (fun k _=>k=w.heap.size) X3 (X3.setCell ⟨w.heap.size,0,none⟩ (.slice A9 k9 c9)):=(Kept.refl _ X3).setCell (p:=⟨w.heap.size,0,none⟩) (fun _ _=>rfl) _;refine ⟨T9,VT,.slice A9 k9 c9,HA.out.far hset (fun k o e=>by rw[e];exact z9),by simpa using HE.out.aC 0 (.slice A9 k9 c9),(xg.out.be.kept HC.out (fun hm=>hm xg.out.t1)).kept hset (by simp),jr.behind (jr.behind xg.out.kp HC.out (fun k o hk e=>by rw[←xg.out.tt k hk];exact e)) hset (fun k o hk e=>by omega),fun k hk=>(HB.out k (by omega)).trans (xg.out.tt k hk),z9,z9b,?_⟩;exact (HD.out.over fun k hk=>Below.heap_setCell X3 ⟨w.heap.size,0,none⟩ (.slice A9 k9 c9) k (by show k≠w.heap.size;omega)).mQ (by omega)
    case rest=>
    obtain ⟨T9,VT,v9',h9⟩:=hcut;have Pm:=HOS.out.uq 1024;have xJ:=Ov.out;generalize bR 1024 (kL s1 x (fE s1 x.sn))=D at*;obtain ⟨s9,outs⟩:=D;dsimp only at h9 Pm xJ;have EM:=Lib.hid xJ;have Sw:=Lib.hid h9;have FP:=Lib.hid Pm;have hpc:=zz h9.rc Pm s9.gu Pm.n4;have HPC:=Lib.hid hpc;obtain ⟨_,_,_,_,_,_,_,rP,_⟩:=h9.rc.cells;have f11:=h9.rc.blk.frozen 11;have OB:=h9.rc.cells.2.2.2.2.2.2.1;clear h9 Pm xJ hpc wh xg fo co Ov HOS;go_upto_region 21 with (go_at_call 35;refine HPC.out.mono ?_;rintro e14 w14 ⟨rfl,rfl⟩)
    go_cut [114] from 30 to 137 (fun afZ wx=>afZ= .bool (decide (bD s9 s9.gu=0∨512<bD s9 s9.gu))∧wx=wc)
    case first=>
     generalize bD s9 s9.gu=pt at*;by_cases e0:pt=0
     ·subst e0;go_wp2;go_meet;exact ⟨by simp,rfl⟩
     ·have d0:((pt:Int)==0)=false:=by simp;omega
      have HD0:=Lib.hid e0;clear e0;go_wp2
      all_goals
       go_meet;refine ⟨congrArg Value.bool ?_,rfl⟩;rw[Bool.eq_iff_iff];simp only[decide_eq_true_eq];have:=HD0.out;omega
    case rest=>
    obtain ⟨rfl,rfl⟩:=hcut;obtain ⟨s10,zO⟩:∃s10,s10=(if bD s9 s9.gu=0∨512<bD s9 s9.gu then {s9 with ro:=false} else s9):=⟨_,rfl⟩
    have hRR:R=(if s10.ro=false∧s10.high≠s10.next then o8 c s10 else s10,outs,0):=by rw[EM.out,zO];rfl
    have HRR:=Lib.hid hRR;have Sy:=Lib.hid zO;have HPW:=Sw;clear hRR zO HPC EM rP;go_upto_if 114 with (fail)
    go_cut [] from 30 to 137 (fun wx=>Md w T T9 g M (n+1) c v9' outs wx s10 VT)
    case first=>
     by_cases hc:bD s9 s9.gu=0∨512<bD s9 s9.gu
     ·have zO:=Sy.out;rw[if_pos hc] at zO;have HC:=Lib.hid zO;have dd:decide (bD s9 s9.gu=0∨512<bD s9 s9.gu)=true:=decide_eq_true hc;clear zO hc;rw[dd];go_wp2_with fail;go_meet;rw[HC.out];exact Sw.out.put 11 (.bool false) rfl rfl rfl
     ·have zO:=Sy.out;rw[if_neg hc] at zO;have HC:=Lib.hid zO;have dd:decide (bD s9 s9.gu=0∨512<bD s9 s9.gu)=false:=decide_eq_false hc;clear zO hc;rw[dd];go_wp2_with fail;go_meet;rw[HC.out];exact Sw.out
    case rest=>
    have Un:dL s10:=by
     rw[Sy.out];split
     ·exact ⟨FP.out.n1,FP.out.n2,FP.out.n3,FP.out.n4,FP.out.m,FP.out.op,FP.out.t1,FP.out.t2⟩
     ·exact FP.out
    obtain ⟨A9,k9,c9,rfl⟩:∃A9 k9 c9,v9'= .slice A9 k9 c9:=by
     obtain ⟨ZL,hr9,_⟩:=hcut.out;obtain ⟨A9,c9,e9,_⟩:=aP hr9;exact ⟨A9,_,c9,e9⟩
    obtain ⟨_,_,_,y8,_,Ah,aa6,_⟩:=hcut.rc.cells;have WN:=Lib.hid hcut;have aa7:=Lib.hid Un;clear hcut Un OB f11 Sw HPW Sy FP;cases hro:s10.ro with
    |true=>
     have hRR:=HRR.out;rw[if_neg (by rw[hro];simp)] at hRR;rw[hro] at aa6;have HR2:=Lib.hid hRR;clear hRR hro HRR;go_upto_region 23 with (fail)
     go_quiet (fail)
     have hX:=WN.out.drewN nq;generalize wc.drewN nq=wz at*;have fo:=hX.bo.frozen 0;have co:=hX.bo.cell 0;have fe:=hX.be.frozen 0;have ce:=hX.be.cell 0;simp at co ce;have RQ:=Lib.hid hX;clear hX;go_wp2;obtain ⟨q1,q2,q3⟩:=RQ.out.fin;refine om _ _ _ _ _ _ rfl rfl q1 q2 ?_;rw[HR2.out];exact q3
    |false=>
     rw[hro] at aa6;by_cases hne:s10.high=s10.next
     ·have hRR:=HRR.out;rw[if_neg (by rw[hne];simp)] at hRR;have d2:((s10.high:Int) !=(s10.next:Int))=false:=by simp;omega
      have HR2:=Lib.hid hRR;clear hRR hro HRR hne;go_upto_region 23 with (fail)
      go_quiet (fail)
      have hX:=WN.out.drewN nq;generalize wc.drewN nq=wz at*;have fo:=hX.bo.frozen 0;have co:=hX.bo.cell 0;have fe:=hX.be.frozen 0;have ce:=hX.be.cell 0;simp at co ce;have RQ:=Lib.hid hX;clear hX;go_wp2;obtain ⟨q1,q2,q3⟩:=RQ.out.fin;refine om _ _ _ _ _ _ rfl rfl q1 q2 ?_;rw[HR2.out];exact q3
     ·have hRR:=HRR.out;rw[if_pos ⟨hro,hne⟩] at hRR;have d2:((s10.high:Int) !=(s10.next:Int))=true:=by simp;omega
      have HR2:=Lib.hid hRR;clear hRR hro HRR hne;go_upto_region 23 with (fail)
      go_quiet (fail)
      have hX:=WN.out.drewN nq;have hwt:=zB hX.rc aa7.out HCF.out.r1 (by have:=HCF.out.r2;omega);have HWT:=Lib.hid hwt;have PZ:=Lib.hid hX;clear hX hwt;generalize wc.drewN nq=wy at*;go_upto_region 25 with (go_at_call 39;refine HWT.out.mono ?_;rintro e15 wz ⟨rfl,h15,aa8⟩)
      have hX:=PZ.out.turn h15 aa8;have fo:=hX.bo.frozen 0;have co:=hX.bo.cell 0;have fe:=hX.be.frozen 0;have ce:=hX.be.cell 0;simp at co ce;have RQ:=Lib.hid hX;clear hX h15 aa8;go_wp2;obtain ⟨q1,q2,q3⟩:=RQ.out.fin;refine om _ _ _ _ _ _ rfl rfl q1 q2 ?_;rw[HR2.out];exact q3
end
end
section
open Go.RowKit Go.Shelf
attribute [local go_sem] Oper.semAt_some
def zP (st:Rc):Array Value:=
 #[.int .i64 (st.next:Nat),.int .i64 (st.status:Nat),.int .i64 (st.high:Nat),.bool st.ro,.int .i64 (if st.ro=true then ((st.gu:Nat):Int) else 0),.int .i64 (if st.ro=true then st.exp else 0),.bool st.due,.int .i64 st.qH]
section
variable {w w':World} {T:Nat→Nat} {g M n:Nat} {c:Cf} {st:Rc} {vo:Value}
set_option maxHeartbeats 1000000 in
theorem Mh (h:gH w T g M n c st vo) (ho:dL st) (hcf:L5 c) (now:Int) (hn:now≤9223372036854775807):
 Calls Tryz.prog 12 #[.pointer (some ⟨g,0,none⟩),.int .i64 now] w fun e w'=>e= .returned (.int .i64 0)∧gH w' T g M n c (fQ c st now) vo∧Kept (MT T) w w':=by
 have Qf:=Lib.hid (og h);have wS:=Lib.hid (vP h ho hcf now hn);clear h ho hcf;go_enter Tryz.func12,Tryz.ntmps12;go_wp2_with (first
  |(go_at_call 31;refine Qf.out.mono ?_;rintro e1 w1 ⟨rfl,rfl⟩)
  |(go_at_call 33;refine wS.out.mono ?_;rintro e2 w2 ⟨rfl,hR,hK⟩))
 go_ret;exact ⟨rfl,hR,hK⟩
set_option maxRecDepth 10000 in
set_option maxHeartbeats 1000000 in
theorem JL (h:gH w T g M n c st vo):
 Calls Tryz.prog 14 #[.pointer (some ⟨g,0,none⟩)] w fun e w'=>e= .returned (.agg (zP st))∧Below w.heap.size w w':=by
 have HZ:=Lib.hid (aA.new w 49 #[.int .i64 0,.int .i64 0,.int .i64 0,.bool false,.int .i64 0,.int .i64 0,.bool false,.int .i64 0]);have HB:=Lib.hid ((Below.refl w.heap.size w).alloc (Nat.le_refl _) (.cells #[.int .i64 0,.int .i64 0,.int .i64 0,.bool false,.int .i64 0,.int .i64 0,.bool false,.int .i64 0] 49));have HH:=Lib.hid (h.below HB.out);clear h;go_enter Tryz.func14,Tryz.ntmps14;go_wp2_with fail;generalize w.alloc (.cells #[.int .i64 0,.int .i64 0,.int .i64 0,.bool false,.int .i64 0,.int .i64 0,.bool false,.int .i64 0] 49)=w0 at*;refine (og HH.out).mono ?_;rintro e1 w1 ⟨rfl,rfl⟩;obtain ⟨x3,x4,x7,x8,x9,x10,uZ,EG,OT,Ej,Qd,OU,OV,x18⟩:=HH.out.cells;have hgl:=HH.out.blk.lt;have hwl:w.heap.size<w0.heap.size:=HZ.out.lt;clear x3 x4 x7 EG OT OU OV x18;go_upto_region 3 with (fail)
 go_cut [3] (fun s3 wx=>∃b,s3= .pointer (some ⟨b,0,none⟩)∧aA wx b 49 #[.int .i64 (st.next:Nat),.int .i64 (st.status:Nat),.int .i64 (st.high:Nat),.bool st.ro,.int .i64 0,.int .i64 0,.bool st.due,.int .i64 st.qH]∧Below w0.heap.size w0 wx∧w0.heap.size≤b)
 case first=>
  go_region
  all_goals
   go_wp2_with fail;go_meet;exact ⟨w0.heap.size,rfl,(aA.new w0 49 _).drew,((Below.refl _ w0).alloc (Nat.le_refl _) _).drew,Nat.le_refl _⟩
 case rest=>
 obtain ⟨b,rfl,hbk,hbb,hbl⟩:=hcut;have hR2:=HH.out.below hbb;have hZ2:=HZ.out.below hbb HZ.out.lt;have hB2:=HB.out.trans (hbb.mono HB.out.size);have uZ:=hR2.cells.2.2.2.2.2.2.1;have EG:=hR2.cells.2.2.2.2.2.2.2.1;have OT:=hR2.cells.2.2.2.2.2.2.2.2.1;have HZ2:=Lib.hid hZ2;have HB2:=Lib.hid hB2;have Oc:=Lib.hid hbk;have hbne:w.heap.size≠b:=by omega
 clear hR2 hZ2 hB2 x8 x9 x10 Ej Qd hbk hbb HH HB HZ;go_upto_if 35 with (fail)
 go_cut [] (fun wx=>aA wx b 49 (zP st)∧aA wx w.heap.size 49 #[.int .i64 0,.int .i64 0,.int .i64 0,.bool false,.int .i64 0,.int .i64 0,.bool false,.int .i64 0]∧Below w.heap.size w wx)
 case first=>
  cases hro:st.ro with
  |false=>
   have hs:zP st= #[.int .i64 (st.next:Nat),.int .i64 (st.status:Nat),.int .i64 (st.high:Nat),.bool false,.int .i64 0,.int .i64 0,.bool st.due,.int .i64 st.qH]:=by unfold zP;rw[hro];rfl
   have HS:=Lib.hid hs;have oQ:=Oc.out;rw[hro] at oQ;have HB9:=Lib.hid oQ;clear hs oQ hro;go_wp2_with fail;go_meet;rw[HS.out];exact ⟨HB9.out,HZ2.out,HB2.out⟩
  |true=>
   have hs:zP st= #[.int .i64 (st.next:Nat),.int .i64 (st.status:Nat),.int .i64 (st.high:Nat),.bool true,.int .i64 (st.gu:Nat),.int .i64 st.exp,.bool st.due,.int .i64 st.qH]:=by unfold zP;rw[hro];rfl
   have HS:=Lib.hid hs;have oQ:=Oc.out;rw[hro] at oQ;have HB9:=Lib.hid oQ;have f4:=oQ.frozen 4;have f5:=oQ.frozen 5;have c4:=oQ.cell 4;have c5:=oQ.cell 5;simp at c4 c5;clear hs oQ hro;go_wp2_with fail
   go_region
   all_goals
    go_wp2_with fail;go_meet;rw[HS.out];refine ⟨?_,((HZ2.out.far (p:=⟨b,4,none⟩) hbne _).far (p:=⟨b,5,none⟩) hbne _).drew,((HB2.out.setCell (p:=⟨b,4,none⟩) (show w.heap.size≤b by omega) _).setCell (p:=⟨b,5,none⟩) (show w.heap.size≤b by omega) _).drew⟩;have h7:=(HB9.out.aC 4 (.int .i64 (st.gu:Nat))).aC 5 (.int .i64 st.exp);simpa using h7.drew
 case rest=>
 obtain ⟨nV,Wl,aa9⟩:=hcut;have tC:=nV;unfold zP at tC;obtain ⟨e0,e1,e2,e3,e4,e5,e6,e7⟩:=tC.eight;obtain ⟨z0,z1,z2,z3,z4,z5,z6,z7⟩:=Wl.eight;have fz:=Wl.frozen;have HZ8:=Lib.hid (Wl.Ba (.int .i64 (st.next:Nat)) (.int .i64 (st.status:Nat)) (.int .i64 (st.high:Nat)) (.bool st.ro) (.int .i64 (if st.ro=true then ((st.gu:Nat):Int) else 0)) (.int .i64 (if st.ro=true then st.exp else 0)) (.bool st.due) (.int .i64 st.qH));have HB8:=Lib.hid (iG aa9 (Nat.le_refl _) (.int .i64 (st.next:Nat)) (.int .i64 (st.status:Nat)) (.int .i64 (st.high:Nat)) (.bool st.ro) (.int .i64 (if st.ro=true then ((st.gu:Nat):Int) else 0)) (.int .i64 (if st.ro=true then st.exp else 0)) (.bool st.due) (.int .i64 st.qH));have Xq:=Lib.hid (show zP st= #[.int .i64 (st.next:Nat),.int .i64 (st.status:Nat),.int .i64 (st.high:Nat),.bool st.ro,.int .i64 (if st.ro=true then ((st.gu:Nat):Int) else 0),.int .i64 (if st.ro=true then st.exp else 0),.bool st.due,.int .i64 st.qH] from rfl);clear nV Wl aa9 tC;generalize (if st.ro=true then ((st.gu:Nat):Int) else 0)=q4 at*;generalize (if st.ro=true then st.exp else 0)=q5 at*;go_wp2;clear e0 e1 e2 e3 e4 e5 e6 e7 z0 z1 z2 z3 z4 z5 z6 z7 fz;refine bodyPost_ret (v:= .agg #[.int .i64 (st.next:Nat),.int .i64 (st.status:Nat),.int .i64 (st.high:Nat),.bool st.ro,.int .i64 q4,.int .i64 q5,.bool st.due,.int .i64 st.qH]) ?_ rfl ?_
 ·rw[kC rfl];obtain ⟨e0,e1,e2,e3,e4,e5,e6,e7⟩:=HZ8.out.eight;go_simp
  done
 ·exact ⟨by rw[Xq.out],HB8.out⟩
end
end
end Go.Proofs.YtiecgfahidpldaaGreat
namespace Go.Proofs.YtiecgfahidpldaaGreat.Rq
open Go.RowKit Go.Shelf
attribute [local go_sem] Oper.semAt_some
theorem Ea (lo hi x:Int) (a b:Nat) (w:World) (ha:w.cell? ⟨a,0,none⟩=some (.int .i64 lo)) (hb:w.cell? ⟨b,0,none⟩=some (.int .i64 hi)):Calls Tryz.prog 147 #[.int .i64 x,.pointer (some ⟨a,0,none⟩),.pointer (some ⟨b,0,none⟩)] w fun e w'=>e= .returned (.bool (outside lo hi x))∧w=w':=by
 by_cases h1:x<lo
 ·have e1:outside lo hi x=true:=by simp[outside,h1]
  have H1:=Lib.hid e1;clear e1;go_enter Tryz.func147,Tryz.ntmps147;go_wp2;go_ret;exact ⟨bH H1.out.symm,rfl⟩
 ·have h1':decide (x<lo)=false:=by simpa using h1
  have e1:decide (hi<x)=outside lo hi x:=by simp[outside,h1']
  have H1:=Lib.hid e1;clear e1;go_enter Tryz.func147,Tryz.ntmps147;go_wp2;go_ret;exact ⟨bH H1.out,rfl⟩
theorem Eb (lo hi:Int) (a b r n:Nat) (xs:List Int) (w:World) (hn:xs.length=n) (hsm:n≤1000) (hr:aA w r 3 (ints xs).toArray) (ha:w.cell? ⟨a,0,none⟩=some (.int .i64 lo)) (hb:w.cell? ⟨b,0,none⟩=some (.int .i64 hi)):
 Calls Tryz.prog 172 #[.slice (some ⟨r,0,none⟩) n n,.func (.func 147) #[] #[.pointer (some ⟨a,0,none⟩),.pointer (some ⟨b,0,none⟩)]] w (T7 (xs.any (outside lo hi)) w):=by
 have HC:=Lib.hid fun x=>Ea lo hi x a b w ha hb
 have HL:=Lib.hid hn;clear hn ha hb;go_enter Tryz.func172,Tryz.ntmps172;go_wp2
 go_loop [8] (fun i=>∃k:Nat,k≤n∧i= .int .i64 k∧(xs.take k).any (outside lo hi)=false) (fun i=>n-(intOf i).toNat)
 case atStart=>exact ⟨0,Nat.zero_le _,rfl,by simp⟩
 case round=>
  obtain ⟨k,hk,rfl,hall⟩:=hrel;have HA:=Lib.hid hall;clear hall;by_cases hlt:k<n
  ·have hkl:k<xs.length:=by rw[HL.out];exact hlt
   obtain ⟨x,hx⟩:∃x,xs[k]? =some x:=⟨_,List.getElem?_eq_getElem hkl⟩
   have hcell:=hr.cell k;rw[List.getElem?_toArray,ints,List.getElem?_map,hx] at hcell;simp at hcell;have htk:xs.take (k+1)=xs.take k++ [x]:=by rw[List.take_add_one,hx];rfl
   have hin:x∈xs:=List.mem_of_getElem? hx;have HT:=Lib.hid htk;have HI:=Lib.hid hin;have hcx:=HC.out x;clear htk hin hkl hx;cases hq:outside lo hi x with
   |false=>
    rw[hq] at hcx;have HQ:=Lib.hid hq;have HX:=Lib.hid hcx;clear hq hcx;go_wp2_with (go_at_call 147;refine HX.out.mono ?_;rintro e w' ⟨rfl,rfl⟩)
    go_round
    case rel=>exact ⟨k+1,by omega,by go_num,by rw[HT.out,List.any_append,HA.out];simp[HQ.out]⟩
    case measure=>simp[intOf];omega
   |true=>
    rw[hq] at hcx;have HQ:=Lib.hid hq;have HX:=Lib.hid hcx;clear hq hcx;go_wp2_with (go_at_call 147;refine HX.out.mono ?_;rintro e w' ⟨rfl,rfl⟩);go_ret;exact ⟨.inl ⟨k,rfl,by rw[List.any_eq_true];exact ⟨x,HI.out,HQ.out⟩⟩,rfl⟩
  ·have e:xs.take k=xs:=List.take_of_length_le (by rw[HL.out];omega);have hA:=HA.out;rw[e] at hA;have xu:=Lib.hid hA;clear hA e;go_wp2;go_ret;exact ⟨.inr ⟨rfl,xu.out⟩,rfl⟩
theorem rV (lo hi:Int) (a b r n:Nat) (xs:List Int) (w:World) (hn:xs.length=n) (hsm:n≤1000) (hr:aA w r 3 (ints xs).toArray) (ha:w.cell? ⟨a,0,none⟩=some (.int .i64 lo)) (hb:w.cell? ⟨b,0,none⟩=some (.int .i64 hi)):
 Calls Tryz.prog 146 #[.slice (some ⟨r,0,none⟩) n n,.func (.func 147) #[] #[.pointer (some ⟨a,0,none⟩),.pointer (some ⟨b,0,none⟩)]] w fun e w'=>e= .returned (.bool (xs.any (outside lo hi)))∧w=w':=by
 have H:=Lib.hid (Eb lo hi a b r n xs w hn hsm hr ha hb);clear hr ha hb;go_enter Tryz.func146,Tryz.ntmps146;go_wp2_with fail;refine H.out.mono ?_;rintro e w' ⟨⟨k,rfl,he⟩|⟨rfl,he⟩,rfl⟩
 ·have HE:=Lib.hid he;clear he;go_wp2;go_ret;exact ⟨bH (by rw[HE.out]),rfl⟩
 ·have HE:=Lib.hid he;clear he;go_wp2;go_ret;exact ⟨bH (by rw[HE.out]),rfl⟩
theorem VR (lo hi:Int) (r n:Nat) (xs:List Int) (w:World) (hn:xs.length=n) (hsm:n≤1000) (hr:aA w r 3 (ints xs).toArray):
 Calls Tryz.prog 106 #[.int .i64 lo,.int .i64 hi,.slice (some ⟨r,0,none⟩) n n] w fun e w'=>e= .returned (.bool (!xs.any (outside lo hi)))∧Below w.heap.size w w':=by
 have ba:=(aA.new w 3 #[.int .i64 lo]).alloc (.cells #[.int .i64 hi] 3);have bb:=aA.new (w.alloc (.cells #[.int .i64 lo] 3)) 3 #[.int .i64 hi];have br:=(hr.alloc (.cells #[.int .i64 lo] 3)).alloc (.cells #[.int .i64 hi] 3);simp only[World.size_alloc] at bb;have ca:=ba.cell 0;have cb:=bb.cell 0;rw[List.getElem?_toArray] at ca cb;simp only[List.getElem?_cons_zero] at ca cb;have hc:=rV lo hi w.heap.size (w.heap.size+1) r n xs ((w.alloc (.cells #[.int .i64 lo] 3)).alloc (.cells #[.int .i64 hi] 3)) hn hsm br ca cb;have H:=Lib.hid hc;clear ba bb br ca cb hc hr;go_enter Tryz.func106,Tryz.ntmps106;go_wp2_with (go_at_call 146;refine H.out.mono ?_;rintro e w' ⟨rfl,rfl⟩);go_ret;exact ⟨rfl,((Below.refl _ _).alloc (Nat.le_refl _) _).alloc (by simp) _⟩
theorem qF (lo hi:Int) (xs:List Int) (cs:Array Value) (hcs:cs=(ints xs).toArray) (n r:Nat) (hn:xs.length=n) (hsm:n≤1000) {w W:World} {g:Nat} {a0 a1 a2 a3 a4 a5 a6:Int} (h:qV w g a0 a1 a2 a3 a4 a5 a6 W) (hr:W.heap.size=r):
 Calls Tryz.prog 106 #[.int .i64 lo,.int .i64 hi,.slice (some ⟨r,0,none⟩) n n] (W.alloc (.cells cs 3)) fun e w'=>e= .returned (.bool (within lo hi xs))∧qV w g a0 a1 a2 a3 a4 a5 a6 w':=by
 subst hcs hr;refine (VR lo hi W.heap.size n xs _ hn hsm (aA.new W 3 _)).mono ?_;rintro e w' ⟨rfl,hk⟩;have hk2:=hk.mono (B':=w.heap.size) (by have:=h.2.size;simp;omega);have h0:=h.2.alloc h.2.size (.cells (ints xs).toArray 3);exact ⟨rfl,(h.1.alloc _).below hk (by have:=h.1.lt;simp;omega),h0.trans hk2⟩
theorem j3 (lo hi x:Int) (r:Nat) {w W:World} {g:Nat} {a0 a1 a2 a3 a4 a5 a6:Int} (h:qV w g a0 a1 a2 a3 a4 a5 a6 W) (hr:W.heap.size=r):
 Calls Tryz.prog 106 #[.int .i64 lo,.int .i64 hi,.slice (some ⟨r,0,none⟩) 1 1] (W.alloc (.cells #[.int .i64 x] 3)) fun e w'=>e= .returned (.bool (within lo hi [x]))∧qV w g a0 a1 a2 a3 a4 a5 a6 w':=
 qF lo hi [x] _ rfl 1 r rfl (by decide) h hr
theorem j4 (lo hi x y:Int) (r:Nat) {w W:World} {g:Nat} {a0 a1 a2 a3 a4 a5 a6:Int} (h:qV w g a0 a1 a2 a3 a4 a5 a6 W) (hr:W.heap.size=r):
 Calls Tryz.prog 106 #[.int .i64 lo,.int .i64 hi,.slice (some ⟨r,0,none⟩) 2 2] (W.alloc (.cells #[.int .i64 x,.int .i64 y] 3)) fun e w'=>e= .returned (.bool (within lo hi [x,y]))∧qV w g a0 a1 a2 a3 a4 a5 a6 w':=
 qF lo hi [x,y] _ rfl 2 r rfl (by decide) h hr
set_option maxRecDepth 100000 in
set_option maxHeartbeats 1000000 in
theorem Ec (a0 a1 a2 a3 a4 a5 a6:Int) (w:World):Calls Tryz.prog 51 #[.agg (ML a0 a1 a2 a3 a4 a5 a6)] w fun e w'=>e= .returned (.bool (iT a0 a1 a2 a3 a4 a5 a6))∧Below w.heap.size w w':=by
 have hc:=qV.new w a0 a1 a2 a3 a4 a5 a6;obtain ⟨b,hb⟩:∃b,iT a0 a1 a2 a3 a4 a5 a6=b:=⟨_,rfl⟩
 rw[hb];unfold iT at hb;unfold ML;go_enter Tryz.func51,Tryz.ntmps51;go_wp2_with fail;have hz:=World.size_alloc w (.cells #[.int .i64 a0,.int .i64 a1,.int .i64 a2,.int .i64 a3,.int .i64 a4,.int .i64 a5,.int .i64 a6] 30);generalize w.alloc (.cells #[.int .i64 a0,.int .i64 a1,.int .i64 a2,.int .i64 a3,.int .i64 a4,.int .i64 a5,.int .i64 a6] 30)=w0 at*;obtain ⟨x0,x1,x2,x3,x4,x5,x6⟩:=hc.seven;cases h1:within 0 1024 [a0] with
 |false=>
  simp[h1] at hb;subst hb;go_wp2_with (go_at_call 106;first
   |((with_reducible refine (j4 _ _ _ _ _ (by assumption) (by first|assumption|exact rfl)).mono ?_);rintro e w9 ⟨rfl,hc⟩;obtain ⟨x0,x1,x2,x3,x4,x5,x6⟩:=hc.seven)
   |((with_reducible refine (j3 _ _ _ _ (by assumption) (by first|assumption|exact rfl)).mono ?_);rintro e w9 ⟨rfl,hc⟩;obtain ⟨x0,x1,x2,x3,x4,x5,x6⟩:=hc.seven))
  go_ret;exact ⟨rfl,(by assumption:qV w _ a0 a1 a2 a3 a4 a5 a6 _).2⟩
 |true=>
 cases h2:within 0 1048576 [a1] with
 |false=>
  simp[h1,h2] at hb;subst hb;go_wp2_with (go_at_call 106;first
   |((with_reducible refine (j4 _ _ _ _ _ (by assumption) (by first|assumption|exact rfl)).mono ?_);rintro e w9 ⟨rfl,hc⟩;obtain ⟨x0,x1,x2,x3,x4,x5,x6⟩:=hc.seven)
   |((with_reducible refine (j3 _ _ _ _ (by assumption) (by first|assumption|exact rfl)).mono ?_);rintro e w9 ⟨rfl,hc⟩;obtain ⟨x0,x1,x2,x3,x4,x5,x6⟩:=hc.seven))
  go_ret;exact ⟨rfl,(by assumption:qV w _ a0 a1 a2 a3 a4 a5 a6 _).2⟩
 |true=>
 cases h3:within 1 1048576 [a2] with
 |false=>
  simp[h1,h2,h3] at hb;subst hb;go_wp2_with (go_at_call 106;first
   |((with_reducible refine (j4 _ _ _ _ _ (by assumption) (by first|assumption|exact rfl)).mono ?_);rintro e w9 ⟨rfl,hc⟩;obtain ⟨x0,x1,x2,x3,x4,x5,x6⟩:=hc.seven)
   |((with_reducible refine (j3 _ _ _ _ (by assumption) (by first|assumption|exact rfl)).mono ?_);rintro e w9 ⟨rfl,hc⟩;obtain ⟨x0,x1,x2,x3,x4,x5,x6⟩:=hc.seven))
  go_ret;exact ⟨rfl,(by assumption:qV w _ a0 a1 a2 a3 a4 a5 a6 _).2⟩
 |true=>
 cases h4:within 0 1048576 [a3,a4] with
 |false=>
  simp[h1,h2,h3,h4] at hb;subst hb;go_wp2_with (go_at_call 106;first
   |((with_reducible refine (j4 _ _ _ _ _ (by assumption) (by first|assumption|exact rfl)).mono ?_);rintro e w9 ⟨rfl,hc⟩;obtain ⟨x0,x1,x2,x3,x4,x5,x6⟩:=hc.seven)
   |((with_reducible refine (j3 _ _ _ _ (by assumption) (by first|assumption|exact rfl)).mono ?_);rintro e w9 ⟨rfl,hc⟩;obtain ⟨x0,x1,x2,x3,x4,x5,x6⟩:=hc.seven))
  go_ret;exact ⟨rfl,(by assumption:qV w _ a0 a1 a2 a3 a4 a5 a6 _).2⟩
 |true=>
 cases h5:within 0 64 [a5] with
 |false=>
  simp[h1,h2,h3,h4,h5] at hb;subst hb;go_wp2_with (go_at_call 106;first
   |((with_reducible refine (j4 _ _ _ _ _ (by assumption) (by first|assumption|exact rfl)).mono ?_);rintro e w9 ⟨rfl,hc⟩;obtain ⟨x0,x1,x2,x3,x4,x5,x6⟩:=hc.seven)
   |((with_reducible refine (j3 _ _ _ _ (by assumption) (by first|assumption|exact rfl)).mono ?_);rintro e w9 ⟨rfl,hc⟩;obtain ⟨x0,x1,x2,x3,x4,x5,x6⟩:=hc.seven))
  go_ret;exact ⟨rfl,(by assumption:qV w _ a0 a1 a2 a3 a4 a5 a6 _).2⟩
 |true=>
 have h6:within 1 1048576 [a6]=b:=by simpa[h1,h2,h3,h4,h5] using hb
 clear hb;go_wp2_with (go_at_call 106;first
  |((with_reducible refine (j4 _ _ _ _ _ (by assumption) (by first|assumption|exact rfl)).mono ?_);rintro e w9 ⟨rfl,hc⟩;obtain ⟨x0,x1,x2,x3,x4,x5,x6⟩:=hc.seven)
  |((with_reducible refine (j3 _ _ _ _ (by assumption) (by first|assumption|exact rfl)).mono ?_);rintro e w9 ⟨rfl,hc⟩;obtain ⟨x0,x1,x2,x3,x4,x5,x6⟩:=hc.seven))
 go_ret;exact ⟨rfl,(by assumption:qV w _ a0 a1 a2 a3 a4 a5 a6 _).2⟩
end Go.Proofs.YtiecgfahidpldaaGreat.Rq
namespace Go.Proofs.YtiecgfahidpldaaGreat
open Go.RowKit Go.Shelf
attribute [local go_sem] Oper.semAt_some
def af2 (w:World) (a0 a1 a2 a3 a4 a5 a6:Int) (e:Ending) (w':World):Prop:=
 Below w.heap.size w w'∧
  (
   (iT a0 a1 a2 a3 a4 a5 a6=true∧∃g M T,e= .returned (.tuple #[.pointer (some ⟨g,0,none⟩),.int .i64 0])∧gH w' T g M 0 ⟨a0,a1,a2,a3,a4,a5,a6⟩ lq (.slice none 0 0)∧∀k,T k≠0→w.heap.size≤k)∨
   (iT a0 a1 a2 a3 a4 a5 a6=false∧e= .returned (.tuple #[.pointer none,.int .i64 2])))
set_option maxRecDepth 100000 in
theorem GN (a0 a1 a2 a3 a4 a5 a6:Int) (w:World):Calls Tryz.prog 19 #[.agg (ML a0 a1 a2 a3 a4 a5 a6)] w (af2 w a0 a1 a2 a3 a4 a5 a6):=by
 have hmm:= @run_makeMap Tryz.prog;have hc:=qV.new w a0 a1 a2 a3 a4 a5 a6;have hcall:=fun W=>Rq.Ec a0 a1 a2 a3 a4 a5 a6 W
 obtain ⟨b,hb⟩:∃b,iT a0 a1 a2 a3 a4 a5 a6=b:=⟨_,rfl⟩
 simp only[hb] at hcall;have HB:=Lib.hid hb;clear hb;unfold ML at*;have hz:=World.size_alloc w (.cells #[.int .i64 a0,.int .i64 a1,.int .i64 a2,.int .i64 a3,.int .i64 a4,.int .i64 a5,.int .i64 a6] 30);have x:=hc.seven;obtain ⟨x0,x1,x2,x3,x4,x5,x6⟩:=x;have HC:=Lib.hid hc;have HCA:=Lib.hid hcall;clear hc hcall;go_enter Tryz.func19,Tryz.ntmps19;go_wp2_with fail;generalize w.alloc (.cells #[.int .i64 a0,.int .i64 a1,.int .i64 a2,.int .i64 a3,.int .i64 a4,.int .i64 a5,.int .i64 a6] 30)=w0 at*;refine (HCA.out _).mono ?_;rintro e1 w1 ⟨rfl,hb1⟩;have hc1:qV w w.heap.size a0 a1 a2 a3 a4 a5 a6 w1:=⟨HC.out.1.below hb1 HC.out.1.lt,HC.out.2.trans (hb1.mono HC.out.2.size)⟩;obtain ⟨y0,y1,y2,y3,y4,y5,y6⟩:=hc1.seven;have RL:=Lib.hid hc1;clear x0 x1 x2 x3 x4 x5 x6 hb1 hc1;cases b with
 |true=>
  go_wp2
  go_ret2
  have hsz:=RL.out.2.size;have af3:=(iP.made Tryz.prog 3 w1);refine ⟨((RL.out.2.alloc RL.out.2.size _).alloc (by simp;omega) _),.inl ⟨HB.out,w1.heap.size+1,w1.heap.size,fun k=>if k=w1.heap.size+1 then 1 else if k=w1.heap.size then 2 else 0,by simp,?_,fun k hk=> ?_⟩⟩
  ·have hb:=aA.new (w1.alloc (.map #[] 0)) 33 (LJ ⟨a0,a1,a2,a3,a4,a5,a6⟩ w1.heap.size (.slice none 0 0) lq);rw[World.size_alloc] at hb;refine ⟨hb,if_pos rfl,?_,fun k hk=> ?_,World.ownsRow_nil _ _ _ _,fun k e=>by simp[Value.ownBlock] at e,fun _=>none,?_,fun k=>⟨fun _=>rfl,fun p hp=>by simp[lq] at hp⟩⟩
   ·show (if _ then _ else _)=_
    rw[if_neg (by omega),if_pos rfl]
   ·simp only[World.size_alloc];split at hk
    ·omega
    ·split at hk
     ·omega
     ·exact absurd rfl hk
   ·exact af3.same (Below.heap_alloc _ _ _ (by simp))
  ·dsimp only at hk;split at hk
   ·omega
   ·split at hk
    ·omega
    ·exact absurd rfl hk
 |false=>
  go_wp2
  go_ret2
  exact ⟨RL.out.2,.inr ⟨HB.out,rfl⟩⟩
end Go.Proofs.YtiecgfahidpldaaGreat
namespace Go.Proofs.YtiecgfahidpldaaGreat
section
open Go.RowKit Go.Shelf
attribute [local go_sem] Oper.semAt_some
theorem Gx.take {p:Sp} (h:Gx p) (x:iN):Gx (dO p x):=by
 intro k hk;unfold dO at hk ⊢;dsimp only at hk ⊢;rw[(mY _ _ _).1];unfold iw;simp only[List.length_append,List.length_replicate];split at hk
 ·cases hk;omega
 ·have:=h k hk;omega
theorem rF.get {st:Rc} (h:rF st) (k:Nat):Gx (fE st k):=by
 unfold fE;cases hm:st.m k with
 |none=>intro j hj;cases hj
 |some p=>exact h k p hm
theorem rF.Pn {st st':Rc} (h:rF st) (hm:st'.m=st.m):rF st':=fun k p hp=>h k p (by rw[←hm];exact hp)
theorem rF.Sj {st:Rc} (h:rF st) (x:iN):rF (kL st x (fE st x.sn)):=by
 intro k p hp;have hp2:eZ st.m x.sn (some (dO (fE st x.sn) x)) k=some p:=hp;unfold eZ at hp2;split at hp2
 ·cases hp2;exact (h.get x.sn).take x
 ·exact h k p hp2
theorem rF.one {st:Rc} (h:rF st) (p:Sp):rF (wV st p):=by
 intro k q hq;have hq2:eZ st.m st.next none k=some q:=hq
 unfold eZ at hq2;split at hq2
 ·cases hq2
 ·exact h k q hq2
theorem rF.uq:∀(f:Nat) {st:Rc},rF st→rF (bR f st).1
 |0,st,h=>h
 |f+1,st,h=>by
  unfold bR;split
  ·exact h
  ·split
   ·exact rF.uq f (h.one _)
   ·exact h
theorem rF.recv {st:Rc} (h:rF st) (c:Cf) (now:Int) (bs:List UInt8):rF (bX c st now bs).1:=by
 have hg:rF (fQ c st now):=h.Pn (uG c st now);unfold bX;split
 ·exact hg
 ·rename_i x _;unfold ul;split
  ·exact hg.Pn rfl
  ·split
   ·exact hg
   ·dsimp only;refine rF.Pn (rF.uq 1024 (hg.Sj x)) ?_;unfold zn o8;dsimp only;split<;>split<;>rfl
theorem Po (c:Cf) (st:Rc) (now n:Int):(eG c st now n).1.m=st.m:=by
 unfold eG;split
 ·rfl
 ·split
  ·exact uG c st now
  ·exact uG c st now
theorem rF.pM {st:Rc} (h:rF st) (c:Cf) (now n:Int):rF (eG c st now n).1:=h.Pn (Po c st now n)
theorem dL.pM {st:Rc} (ho:dL st) (c:Cf) {now:Int} (hn:now≤9223372036854775807) (n:Int):dL (eG c st now n).1:=by
 have hg:=ho.goes c hn;unfold eG;split
 ·exact ho
 ·split
  ·exact hg
  ·exact ⟨hg.n1,hg.n2,hg.n3,hg.n4,hg.m,hg.op,hg.t1,hg.t2⟩
theorem uI:dL lq∧rF lq:=
 ⟨⟨by decide,by decide,by decide,by decide,fun k p h=>(by cases h),by decide,by decide,by decide⟩,fun k p h=>(by cases h)⟩
def qf (W:World) (base g n:Nat) (c:Cf) (st:Rc):Prop:=∃T M k vo,gH W T g M k c st vo∧k≤n∧dL st∧rF st∧∀j,T j≠0→base≤j
section
variable {W W' w w':World} {base g n:Nat} {c:Cf} {st:Rc}
theorem qf.below (h:qf W base g n c st) (hb:Below W.heap.size W W'):qf W' base g n c st:=let ⟨T,M,k,vo,h1,h2⟩:=h;⟨T,M,k,vo,h1.below hb,h2⟩
theorem MT.below {T:Nat→Nat} (h:Kept (MT T) W W') (ht:∀j,T j≠0→base≤j) (hb:base≤W.heap.size):Below base W W':=
 h.below (fun k _ hk=>ht k hk) hb
theorem JM {W0:World} (h:qf W0 base g n c st) (hB:Below W0.heap.size W0 w) (hcf:L5 c) (hn:n<maxLen) (now:Int) (iR:now≤9223372036854775807) (A:Option Addr) (l cp:Nat) (bs:List UInt8) (hA:Sl w w.heap.size A l cp (cu bs)) (hAb:∀ad,A=some ad→W0.heap.size≤ad.block) (hsm:l≤1000000) (hb:base≤w.heap.size):
 Calls Tryz.prog 8 #[.pointer (some ⟨g,0,none⟩),.int .i64 now,.slice A l cp] w fun e w'=>∃v T',e= .returned (.tuple #[v,.int .i64 ((bX c st now bs).2.2:Nat)])∧dG w' w.heap.size T' v (bX c st now bs).2.1∧qf w' base g (n+1) c (bX c st now bs).1∧Below base w w'∧∀b,W0.heap.size≤b→b<w.heap.size→w'.heap[b]? =w.heap[b]? :=by
 obtain ⟨T,M,k,vo,h1,h2,h3,h4,h5⟩:=h;have h1':=h1.below hB;have hA2:∀W,Kept (MT T) w W→Sl W W.heap.size A l cp (cu bs):=fun W hW=>by
  refine ⟨hA.len,hA.cap,hA.mx,fun h0=> ?_⟩;obtain ⟨ad,e,hl,hc⟩:=hA.at_ h0;have hz:=hAb ad e;refine ⟨ad,e,Nat.lt_of_lt_of_le hl hW.size,fun j u hu=> ?_⟩;have hbk:W.heap[(ad.add j).block]? =w.heap[(ad.add j).block]? :=by
   rw[block_add];have e1:=Array.getElem?_eq_getElem hl;rw[e1];refine hW.same _ _ e1 (fun hm=> ?_);unfold MT at hm;have:=h1.lt _ hm;omega
  exact (World.cell?_of_block (a:=ad.add j) hbk).trans (hc j u hu)
 refine (pG h1' h3 hcf (by omega) now iR A l cp bs hA2 hsm).mono ?_;rintro e w' ⟨T',kX,v,n',rfl,hR,hn',hT,hK,hO⟩;refine ⟨v,T',rfl,hO,⟨T',M,n',kX,hR,by omega,h3.recv c iR bs,h4.recv c now bs,fun j hj=> ?_⟩,MT.below hK h5 hb,fun b h1b h2b=> ?_⟩
 case refine_2=>
  have e1:=Array.getElem?_eq_getElem h2b;rw[e1];refine hK.same _ _ e1 (fun hm=> ?_);unfold MT at hm;have:=h1.lt _ hm;omega
 rcases Nat.lt_or_ge j w.heap.size with hl|hl
 ·rw[hT j hl] at hj;exact h5 j hj
 ·omega
theorem Sz (h:qf w base g n c st) (hcf:L5 c) (now:Int) (iR:now≤9223372036854775807) (N:Int) (hN:N≤9223372036854775807) (hb:base≤w.heap.size):
 Calls Tryz.prog 9 #[.pointer (some ⟨g,0,none⟩),.int .i64 now,.int .i64 N] w fun e w'=>∃v,e= .returned (.tuple #[v,.int .i64 ((eG c st now N).2.2:Nat)])∧w'.ownsRow w.heap.size 5 1 v (eG c st now N).2.1.length (cu (eG c st now N).2.1)∧qf w' base g n c (eG c st now N).1∧Below base w w':=by
 obtain ⟨T,M,k,vo,h1,h2,h3,h4,h5⟩:=h;refine (JJ h1 h3 h4 hcf now iR N hN).mono ?_;rintro e w' ⟨v,rfl,hv,hR,hK⟩;exact ⟨v,rfl,hv,⟨T,M,k,vo,hR,h2,h3.pM c iR N,h4.pM c now N,h5⟩,MT.below hK h5 hb⟩
theorem WO (h:qf w base g n c st) (hcf:L5 c) (now:Int) (iR:now≤9223372036854775807) (hb:base≤w.heap.size):
 Calls Tryz.prog 12 #[.pointer (some ⟨g,0,none⟩),.int .i64 now] w fun e w'=>e= .returned (.int .i64 0)∧qf w' base g n c (fQ c st now)∧Below base w w':=by
 obtain ⟨T,M,k,vo,h1,h2,h3,h4,h5⟩:=h;refine (Mh h1 h3 hcf now iR).mono ?_;rintro e w' ⟨rfl,hR,hK⟩;exact ⟨rfl,⟨T,M,k,vo,hR,h2,h3.goes c iR,h4.Pn (uG c st now),h5⟩,MT.below hK h5 hb⟩
theorem KF (h:qf w base g n c st) (hb:base≤w.heap.size):
 Calls Tryz.prog 14 #[.pointer (some ⟨g,0,none⟩)] w fun e w'=>e= .returned (.agg (zP st))∧qf w' base g n c st∧Below base w w':=by
 obtain ⟨T,M,k,vo,h1,h2⟩:=h;refine (JL h1).mono ?_;rintro e w' ⟨rfl,hB⟩;exact ⟨rfl,⟨T,M,k,vo,h1.below hB,h2⟩,hB.mono hb⟩
end
end
end Go.Proofs.YtiecgfahidpldaaGreat
