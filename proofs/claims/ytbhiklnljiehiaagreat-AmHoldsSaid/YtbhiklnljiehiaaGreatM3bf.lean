/- amrecv: Receive. -/
import Derived.Test.YtbhiklnljiehiaaGreatM3aq
import Derived.Test.YtbhiklnljiehiaaGreatM3be
set_option maxHeartbeats 8000000
set_option maxRecDepth 100000
namespace Go.Proofs.YtbhiklnljiehiaaGreat
open RowKit Shelf Tryz
attribute [local go_sem] Oper.semAt_some
section
variable {w w' W W':World} {T T':Nat->Nat} {g M n:Nat} {c:Cf} {st:Rc} {vo v:Value}
def aaN (w:World) (T:Nat->Nat) (g M n:Nat) (c:Cf) (R:Rc × List (List UInt8) × Nat) (e:Ending) (w':World):Prop:=
 ∃T' GR v n',e= .returned (.tuple #[v,.int .i64 (R.2.2:Nat)])/\jo w' T' g M n' c R.1 GR/\n'<=n+1/\(∀k,k<w.heap.size->T' k=T k)/\Kept (MT T) w w'/\iO w' w T' v R.2.1
theorem jo.zero (h:jo w T g M n c st vo) {k:Nat} (hk:w<=k):T k=0:=by
 rcases oV (T k) with e|e
 ·exact e
 ·have:=h.lt k (by omega);omega
theorem lX.behind {Q:Nat->Obj->Prop} (h:Kept (MT T) w W) (h2:Kept Q W W') (hq:∀k o,k<w.heap.size->Q k o->T k≠0):Kept (MT T) w W':=
 ⟨h2.os.trans h.os,h2.tape.trans h.tape,h2.output.trans h.output,gG h.size h2.size,fun i o hi hn=>h2.same i o (h.same i o hi hn) (fun hm=>hn (hq i o (lt_of_heap hi) hm))⟩
theorem gV.lie {base:Nat} {x:Value} {ps:List (List UInt8)} (h:gV w base x ps):∃A c vs,x= .slice A ps.length c/\jW w w A ps.length c vs ps/\(∀ad,A=some ad->base<=ad.block/\ad.block<w.heap.size)/\∀(i:Nat) u ad,vs[i]? =some u->sOf u=some ad->base<=ad.block/\ad.block<w.heap.size:=by
 obtain ⟨vs,g,cap,data,h1,h2,h3⟩:=h;obtain ⟨A,c,rfl,hs,_⟩:=aY h1;have hl:=h1.1;refine ⟨A,c,vs,rfl,⟨hs,rfl,fun i p hi=> ?_⟩,fun ad e=>h1.lt ad.block (by rw[e];rfl),fun i u ad hu e=> ?_⟩
 ·obtain ⟨off,ci,e,hc1,hc2,hp⟩:=h3 i p hi;refine ⟨_,ci,e,⟨by simp,hc1,hc2,fun hpos=>⟨_,rfl,(h2.lt g rfl).2,fun j u hu=> ?_⟩⟩⟩;have hj:j<p.length:=by
   have:=(pN.1 hu).1;simpa using this
  have hcell:=h2.cells (g:=g) rfl (off+j) u (by
   unfold dz at hu ⊢;rw[oW] at hu ⊢;rw[hp,pW,bD hj,vg] at hu;exact hu)
  have e2:(⟨g,off,none⟩:Addr).add j=(⟨g,0,none⟩:Addr).add (off+j):=by
   unfold Addr.add;by_cases hj0:j=0
   ·subst hj0;by_cases ho:off=0
    ·simp[ho]
    ·simp[ho]
   ·simp[hj0]
  rw[e2];exact hcell
 ·have hi:=(pN.1 hu).1;obtain ⟨off,ci,e2,_⟩:=h3 i _ (gX (by omega));rw[hu] at e2;cases e2;cases e;exact h2.lt g rfl
structure Zv (w:World) (T0 T:Nat->Nat) (g M n:Nat) (c:Cf) (p:Nat) (X:Array Value) (W:World) (s:Rc) (vo:Value):Prop where
 rc:jo W T g M n c s vo
 bo:av W w 37 #[.slice none 0 0]
 be:av W (w+1) 53 #[.int .i64 0]
 bx:av W p 148 X
 kp:Kept (MT T0) w W
 tt:∀k,k<w.heap.size->T k=T0 k
 t0:T w.heap.size=0
 t1:T (w+1)=0
 t2:T p=0
theorem Zv.put {T0:Nat->Nat} {p:Nat} {X:Array Value} {s s':Rc} (h:Zv w T0 T g M n c p X W s vo) (i:Nat) (u:Value) (he:(Sc c M vo s).setIfInBounds i u=Sc c M vo s') (hm:s'.m=s.m) (ho:s'.op=s.op):Zv w T0 T g M n c p X (W.setCell ⟨g,i,none⟩ u) s' vo:=by
 have hg:=h.rc.tg;have h0:=h.t0;have h1:=h.t1;have h2:=h.t2;exact ⟨h.rc.put i u he hm ho,h.bo.far (p:=⟨g,i,none⟩) (fun (e:w.heap.size=g)=>by rw[e] at h0;omega) u,h.be.far (p:=⟨g,i,none⟩) (fun (e:w.heap.size+1=g)=>by rw[e] at h1;omega) u,h.bx.far (p:=⟨g,i,none⟩) (fun (e:p=g)=>by rw[e] at h2;omega) u,
  lX.behind h.kp ((Kept.refl (fun k _=>k=g) W).setCell (p:=⟨g,i,none⟩) (fun _ _=>rfl) u) (fun k o hk e=>by have:=h.tt k hk;subst e;omega),h.tt,h0,h1,h2⟩
theorem Zv.below {T0:Nat->Nat} {p:Nat} {X:Array Value} {s:Rc} (h:Zv w T0 T g M n c p X W s vo) (hb:Below W W W'):Zv w T0 T g M n c p X W' s vo:=
 ⟨h.rc.below hb,h.bo.below hb h.bo.lt,h.be.below hb h.be.lt,h.bx.below hb h.bx.lt,lX.behind h.kp (Kept.of_below hb) (fun k o hk e=>by have:=h.kp.size;omega),h.tt,h.t0,h.t1,h.t2⟩
theorem iO.over {base:Nat} {outs:List (List UInt8)} (h:iO W base T v outs) (hk:∀k,base<=k->W'.heap[k]? =W.heap[k]?):iO W' base T v outs:=by
 obtain ⟨vs,h1,h2,h3⟩:=h;exact ⟨vs,dw h1 fun k e=>hk k (h1.lt k e).1,h2,fun i q hi=>let ⟨vi,e,ho,ht⟩:=h3 i q hi;⟨vi,e,dw ho fun k e=>hk k (ho.lt k e).1,ht⟩⟩
structure Td (w:World) (T0 T:Nat->Nat) (g M n:Nat) (c:Cf) (v:Value) (outs:List (List UInt8)) (W:World) (s:Rc) (vo:Value):Prop where
 rc:jo W T g M n c s vo
 bo:av W w 37 #[v]
 be:av W (w+1) 53 #[.int .i64 0]
 kp:Kept (MT T0) w W
 tt:∀k,k<w.heap.size->T k=T0 k
 t0:T w.heap.size=0
 t1:T (w+1)=0
 out:iO W w T v outs
theorem Td.turn {T0:Nat->Nat} {outs:List (List UInt8)} {s s':Rc} (h:Td w T0 T g M n c v outs W s vo) (hr:jo W' T g M n c s' vo) (hk:Kept (MT T) W W'):Td w T0 T g M n c v outs W' s' vo:=
 ⟨hr,h.bo.kept hk (fun hm=>hm h.t0),h.be.kept hk (fun hm=>hm h.t1),lX.behind h.kp hk (fun k o hl e=>by rw[<-h.tt k hl];exact e),h.tt,h.t0,h.t1,h.out.stay hk fun _ _=>rfl⟩
theorem Td.put {T0:Nat->Nat} {outs:List (List UInt8)} {s s':Rc} (h:Td w T0 T g M n c v outs W s vo) (i:Nat) (u:Value) (he:(Sc c M vo s).setIfInBounds i u=Sc c M vo s') (hm:s'.m=s.m) (ho:s'.op=s.op):Td w T0 T g M n c v outs (W.setCell ⟨g,i,none⟩ u) s' vo:=
 h.turn (h.rc.put i u he hm ho) ((Kept.refl _ W).setCell (p:=⟨g,i,none⟩) (fun o _=>by show T g≠0;rw[h.rc.tg];omega) u)
theorem Td.drewN {T0:Nat->Nat} {outs:List (List UInt8)} {s:Rc} (h:Td w T0 T g M n c v outs W s vo) (q:Nat):Td w T0 T g M n c v outs (W.drewN q) s vo:=h.turn (h.rc.drewN q) ((Kept.refl _ W).drewN q)
theorem Td.fin {T0:Nat->Nat} {outs:List (List UInt8)} {s:Rc} (h:Td w T0 T g M (n+1) c v outs W s vo):
 av ((W.setCell w v).setCell ⟨w+1,0,none⟩ (.int .i64 0)) w 37 #[v]/\av ((W.setCell w v).setCell ⟨w+1,0,none⟩ (.int .i64 0)) (w+1) 53 #[.int .i64 0]/\
 aaN w T0 g M n c (s,outs,0) (.returned (.tuple #[v,.int .i64 0])) ((W.setCell w v).setCell ⟨w+1,0,none⟩ (.int .i64 0)):=by
 have hk:Kept (fun k _=>k=w\/k=w.heap.size+1) W ((W.setCell w v).setCell ⟨w+1,0,none⟩ (.int .i64 0)):=((Kept.refl _ W).setCell (p:=⟨w,0,none⟩) (fun _ _=> .inl rfl) _).setCell (p:=⟨w+1,0,none⟩) (fun _ _=> .inr rfl) _;have hb:=(h.bo.ay 0 v).far (p:=⟨w+1,0,none⟩) (by simp) (.int .i64 0);have he:=(h.be.far (p:=⟨w,0,none⟩) (by simp) v).ay 0 (.int .i64 0);simp at hb he;refine ⟨hb,he,T,vo,v,n+1,rfl,h.rc.far hk (fun k o e=> ?_),aL,h.tt,lX.behind h.kp hk (fun k o hk e=>by omega),?_⟩
 ·rcases e with e|e
  ·rw[e];exact h.t0
  ·rw[e];exact h.t1
 ·
  obtain ⟨vs,h1,h2,h3⟩:=h.out;have hne:∀{e:TypeId} {y:Value} {k:Nat} {xs:List Value},W.ownsRow w e 1 y k xs->(e=31\/e=5)->∀j,y.ownBlock=some j->((W.setCell w v).setCell ⟨w+1,0,none⟩ (.int .i64 0)).heap[j]? =W.heap[j]? :=fun {e y k xs} hy ht j hj=>by
   have n1:j≠w.heap.size:=fun e2=>by
    subst e2;exact aK hy h.bo (by rcases ht with rfl|rfl<;>decide) hj
   have n2:j≠w.heap.size+1:=fun e2=>by
    subst e2;exact aK hy h.be (by rcases ht with rfl|rfl<;>decide) hj
   rw[lZ _ _ _ j n2,lZ _ _ _ j n1]
  exact ⟨vs,dw h1 (hne h1 (.inl rfl)),h2,fun i q hi=>let ⟨vi,e,ho,ht⟩:=h3 i q hi;⟨vi,e,dw ho (hne ho (.inr rfl)),ht⟩⟩
theorem Lr (h:jo w T g M n c st vo) (ho:fM st) (hcf:CfR c) (hn:n<maxLen) (now:Int) (ed:now<=9223372036854775807) (A:Option Addr) (l cp:Nat) (bs:List UInt8) (hA:∀W,Kept (MT T) w W->Sl W W.heap.size A l cp (dz bs)) (hsm:l<=1000000):
 Calls prog 57 #[.pointer (some g),now,.slice A l cp] w (aaN w T g M n c (fZ c st now bs)):=by
 obtain ⟨R,hR⟩:∃R,R=fZ c st now bs:=⟨_,rfl⟩
 rw[<-hR];have nK:prog.follows .mixedOrders=true:=by kernel_rfl
 have hTa:∀k,w.heap.size<=k->T k=0:=fun k hk=>h.zero hk
 have h0:=(h.alloc (.cells #[.slice none 0 0] 37)).alloc (.cells #[.int .i64 0] 53);have hk0:Kept (MT T) w ((w.alloc (.cells #[.slice none 0 0] 37)).alloc (.cells #[.int .i64 0] 53)):=((Kept.refl _ w).alloc _).alloc _;have bo0:=(av.new w 37 #[.slice none 0 0]).alloc (.cells #[.int .i64 0] 53);have Dy:=av.new (w.alloc (.cells #[.slice none 0 0] 37)) 53 #[.int .i64 0];rw[mZ] at Dy;have HT0:=ah hTa;have HA:=ah hA;have HO:=ah (ho.goes c ed);have HCF:=ah hcf;unfold fZ at hR;have HR:=ah hR;have HTG:=ah h.tg;have hno:=sZ h0;have hgo:=Cn h0 ho hcf now ed;have Sq:=ah hno;have yh:=ah hgo;have HK0:=ah hk0;have hgl:=h.blk.lt;clear h ho hcf hTa h0 hA ed hR hno hgo hk0;generalize aM c st now=s1 at*
 go_enter_defers func57,ntmps57
 go_wp2_with fail;refine Sq.out.mono ?_;rintro e1 w0' ⟨rfl,hw0⟩;have hsz0:((w.alloc (.cells #[.slice none 0 0] 37)).alloc (.cells #[.int .i64 0] 53)).heap.size=w.heap.size+2:=by simp
 generalize (w.alloc (.cells #[.slice none 0 0] 37)).alloc (.cells #[.int .i64 0] 53)=w0 at*;subst hw0;go_upto_region 4 with (fail)
 go_wp2_with (go_at_call 80;refine yh.out.mono ?_;rintro e2 w1 ⟨rfl,h1,hk1⟩);have adD:=HK0.out.trans hk1;have GI:=bo0.kept hk1 (fun hh=>hh (HT0.out _ (aL)));have zq:=Dy.kept hk1 (fun hh=>hh (HT0.out _ (by omega)));have hs1:=HA.out w1 adD;have hsz1:=hk1.size;have hDA:=Mm A l cp bs w1 hs1 hsm;have HDA:=ah hDA;have H1:=ah h1;have yN:=ah adD;clear adD hk1 hs1 hDA h1 Sq yh HA HK0 bo0 Dy;refine HDA.out.mono ?_;rintro e3 w2 ⟨hb2,hres⟩;have bo2:=GI.below hb2 GI.lt;have vK:=zq.below hb2 zq.lt;have h2:=H1.out.below hb2;have hk2:=lX.trans yN.out (wL hb2) (fun _ _=>rfl);have hsz2:=hb2.size;have HB2:=ah hb2;have H2:=ah h2;have EQ:=ah hk2;clear hb2 h2 hk2 H1 yN HDA GI zq;rcases hres with ⟨er,hd,rfl⟩|⟨x,A3,c3,hd,rfl,hpo⟩
 ·have hR2:R=(s1,[],er):=by
   rw[HR.out,hd]
  have hne:=UQ bs er hd;have hne2:((er:Int)==0)=false:=by simp;omega
  have HR2:=ah hR2;have bo3:=(bo2.far (p:=⟨w+1,0,none⟩) (by simp) (.int .i64 (er:Nat))).alloc (.cells #[.int .i64 0,.bool false,.bool false,.bool false,.int .i64 0,.bool false,.bool false,.slice none 0 0] 148);have tX:=(vK.ay 0 (.int .i64 (er:Nat))).alloc (.cells #[.int .i64 0,.bool false,.bool false,.bool false,.int .i64 0,.bool false,.bool false,.slice none 0 0] 148);have h3:=(H2.out.far ((Kept.refl (fun k _=>k=w.heap.size+1) _).setCell (p:=⟨w+1,0,none⟩) (fun _ _=>rfl) (.int .i64 (er:Nat))) (fun k o hk=>HT0.out k (by omega))).alloc (.cells #[.int .i64 0,.bool false,.bool false,.bool false,.int .i64 0,.bool false,.bool false,.slice none 0 0] 148);have hk3:=(lX.behind EQ.out ((Kept.refl (fun k _=>k=w.heap.size+1) _).setCell (p:=⟨w+1,0,none⟩) (fun _ _=>rfl) (.int .i64 (er:Nat))) (fun k o hk e=>by omega)).alloc (.cells #[.int .i64 0,.bool false,.bool false,.bool false,.int .i64 0,.bool false,.bool false,.slice none 0 0] 148);simp at tX;have Zw:=ah bo3;have Xp:=ah tX;have H3:=ah h3;have qR:=ah hk3;have f2:=vK.frozen 0;have c2:=vK.cell 0;have hbl:=vK.lt;simp at c2;clear hR2 hd hne HR bo3 tX h3 hk3 bo2 vK;unfold dh;go_upto_region 6 with (fail)
  generalize (w2.setCell ⟨w+1,0,none⟩ (.int .i64 (er:Nat))).alloc (.cells #[.int .i64 0,.bool false,.bool false,.bool false,.int .i64 0,.bool false,.bool false,.slice none 0 0] 148)=w3 at*;have c3:=Xp.out.cell 0;simp at c3;clear c2 f2;go_wp2_with (go_at_call 96;refine (rC _ _).mono ?_;rintro e4 w4 ⟨rfl,rfl⟩);refine Gu _ _ _ _ _ _ _ rfl rfl (by omega) Zw.out Xp.out fun W' hW=> ?_
  rw[HR2.out];exact ⟨T,vo,_,n,rfl,H3.out.far hW (fun k o hk=>HT0.out k (by omega)),by omega,fun _ _=>rfl,lX.behind qR.out hW (fun k o hk e=>by omega),iO.nil _ _ _⟩
 ·have hR2:R=iM c s1 x:=by rw[HR.out,hd]
  have hx:=Rl hd;have HR2:=ah hR2;have HX:=ah hx;have hsn:=hx.sn;clear hR2 hd HR hx;have bo3:=(bo2.far (p:=⟨w+1,0,none⟩) (by simp) (.int .i64 0)).alloc (.cells (dh x.sn x.po x.sg x.la x.off x.s x.e A3 x.ps.length c3) 148);have tX:=(vK.ay 0 (.int .i64 0)).alloc (.cells (dh x.sn x.po x.sg x.la x.off x.s x.e A3 x.ps.length c3) 148);have h3:=(H2.out.far ((Kept.refl (fun k _=>k=w.heap.size+1) _).setCell (p:=⟨w+1,0,none⟩) (fun _ _=>rfl) (.int .i64 0)) (fun k o hk=>HT0.out k (by omega))).alloc (.cells (dh x.sn x.po x.sg x.la x.off x.s x.e A3 x.ps.length c3) 148);have hk3:=(lX.behind EQ.out ((Kept.refl (fun k _=>k=w.heap.size+1) _).setCell (p:=⟨w+1,0,none⟩) (fun _ _=>rfl) (.int .i64 0)) (fun k o hk e=>by omega)).alloc (.cells (dh x.sn x.po x.sg x.la x.off x.s x.e A3 x.ps.length c3) 148);have bx3:=av.new (w2.setCell ⟨w+1,0,none⟩ (.int .i64 0)) 148 (dh x.sn x.po x.sg x.la x.off x.s x.e A3 x.ps.length c3);rw[World.size_setCell] at bx3;have ah6:gV ((w2.setCell ⟨w+1,0,none⟩ (.int .i64 0)).alloc (.cells (dh x.sn x.po x.sg x.la x.off x.s x.e A3 x.ps.length c3) 148)) w1 (.slice A3 x.ps.length c3) x.ps:=hpo.kept fun k o hk ho=>by
   have:=lt_of_heap ho;rw[yA _ _ k (by simp;omega),lZ _ _ _ k (by simp;omega)];exact ho
  simp at tX;have Zw:=ah bo3;have Xp:=ah tX;have BX3:=ah bx3;have H3:=ah h3;have qR:=ah hk3;have adE:=ah ah6;have f2:=vK.frozen 0;have c2:=vK.cell 0;have hbl:=vK.lt;simp at c2;clear hpo bo3 tX bx3 h3 hk3 ah6 bo2 vK;unfold dh at Zw Xp BX3 H3 qR adE;unfold dh;go_upto_region 6 with (fail)
  have Te:((w2.setCell ⟨w+1,0,none⟩ (.int .i64 0)).alloc (.cells #[.int .i64 (x.sn:Nat),.bool x.po,.bool x.sg,.bool x.la,.int .i64 (x.off:Nat),.bool x.s,.bool x.e,.slice A3 x.ps.length c3] 148)).heap.size=w2.heap.size+1:=by simp
  generalize (w2.setCell ⟨w+1,0,none⟩ (.int .i64 0)).alloc (.cells #[.int .i64 (x.sn:Nat),.bool x.po,.bool x.sg,.bool x.la,.int .i64 (x.off:Nat),.bool x.s,.bool x.e,.slice A3 x.ps.length c3] 148)=w3 at*;generalize w2.heap.size=p at*;have c3e:=Xp.out.cell 0;simp at c3e;have c3o:=Zw.out.cell 0;simp at c3o;obtain ⟨z0,z1,z2,z3,z4,z5,z6,z7⟩:=BX3.out.eight;have hpc:=FL H3.out HO.out x.sn hsn;have HPC:=ah hpc;clear c2 f2 hpc z2 z3 z4 z5 z6 z7;go_upto_if 30 with (first
   |(go_at_call 96;refine (uH _ _).mono ?_;rintro e4 w4 ⟨rfl,rfl⟩)
   |(go_at_call 97;refine HPC.out.mono ?_;rintro e5 w5 ⟨rfl,rfl⟩))
  by_cases hpl:512<=bZ s1 x.sn
  ·have GK:R=({s1 with due:=s1.due||x.po},[],0):=by rw[HR2.out];unfold iM;rw[bD hpl]
   have HR4:=ah GK;have amG:(512:Int)<=(bZ s1 x.sn:Nat):=by omega
   clear HR2 GK;obtain ⟨_,_,_,_,_,_,_,_,_,Js,_⟩:=H3.out.cells;have f14:=H3.out.blk.frozen 14;have fo:=Zw.out.frozen 0;have fe:=Xp.out.frozen 0;have hk5:∀b9:Bool,Kept (fun k _=>k=g\/k=w.heap.size\/k=w.heap.size+1) w3 (((w3.setCell ⟨g,14,none⟩ (.bool b9)).setCell w (.slice none 0 0)).setCell ⟨w+1,0,none⟩ (.int .i64 0)):=fun b9=>(((Kept.refl _ w3).setCell (p:=⟨g,14,none⟩) (fun _ _=> .inl rfl) _).setCell (p:=⟨w,0,none⟩) (fun _ _=> .inr (.inl rfl)) _).setCell (p:=⟨w+1,0,none⟩) (fun _ _=> .inr (.inr rfl)) _
   have hbo:∀b9:Bool,av (((w3.setCell ⟨g,14,none⟩ (.bool b9)).setCell w (.slice none 0 0)).setCell ⟨w+1,0,none⟩ (.int .i64 0)) w 37 #[.slice none 0 0]:=fun b9=>by
    have:=((Zw.out.far (p:=⟨g,14,none⟩) (by show w.heap.size≠g;omega) (.bool b9)).ay 0 (.slice none 0 0)).far (p:=⟨w+1,0,none⟩) (by simp) (.int .i64 0);simpa using this
   have hbe:∀b9:Bool,av (((w3.setCell ⟨g,14,none⟩ (.bool b9)).setCell w (.slice none 0 0)).setCell ⟨w+1,0,none⟩ (.int .i64 0)) (w+1) 53 #[.int .i64 0]:=fun b9=>by
    have:=((Xp.out.far (p:=⟨g,14,none⟩) (by show w.heap.size+1≠g;omega) (.bool b9)).far (p:=⟨w,0,none⟩) (by simp) (.slice none 0 0)).ay 0 (.int .i64 0);simpa using this
   have hrc:jo (((w3.setCell ⟨g,14,none⟩ (.bool (s1.due||x.po))).setCell w (.slice none 0 0)).setCell ⟨w+1,0,none⟩ (.int .i64 0)) T g M n c {s1 with due:=s1.due||x.po} vo:=
    (H3.out.put 14 (.bool (s1.due||x.po)) (st':= {s1 with due:=s1.due||x.po}) rfl rfl rfl).far (((Kept.refl (fun k _=>k=w.heap.size\/k=w.heap.size+1) _).setCell (p:=⟨w,0,none⟩) (fun _ _=> .inl rfl) _).setCell (p:=⟨w+1,0,none⟩) (fun _ _=> .inr rfl) _) (fun k o hk=>HT0.out k (by omega))
   have hbg:g≠w:=by omega
   have hkx:∀b9:Bool,Kept (MT T) w (((w3.setCell ⟨g,14,none⟩ (.bool b9)).setCell w (.slice none 0 0)).setCell ⟨w+1,0,none⟩ (.int .i64 0)):=fun b9=>lX.behind qR.out (hk5 b9) (fun k o hk e=>by
    have:=HTG.out;rcases e with rfl|e
    ·omega
    ·omega)
   have HBO:=ah hbo;have Ol:=ah hbe;have HRC:=ah hrc;have HKX:=ah hkx;clear hk5 hbo hbe hrc hkx;cases hd:s1.due with
   |true=>
    rw[hd] at Js;rw[hd,Bool.true_or] at HRC HR4;clear hd;go_wp2;refine tL _ _ _ _ _ _ rfl rfl (HBO.out _) (Ol.out _) ?_;rw[HR4.out];exact ⟨T,vo,_,n,rfl,HRC.out,by omega,fun _ _=>rfl,HKX.out _,iO.nil _ _ _⟩
   |false=>
    rw[hd] at Js;rw[hd,uP] at HRC HR4;clear hd;go_wp2;refine tL _ _ _ _ _ _ rfl rfl (HBO.out _) (Ol.out _) ?_;rw[HR4.out];exact ⟨T,vo,_,n,rfl,HRC.out,by omega,fun _ _=>rfl,HKX.out _,iO.nil _ _ _⟩
  ·have amG:¬(512:Int)<=(bZ s1 x.sn:Nat):=by omega
   have GK:R=(if Hy (d9 s1 x.sn) x=true then (s1,[],9) else let D:=bK 1024 (iD s1 x (d9 s1 x.sn));(rV c D.1,D.2,0)):=by rw[HR2.out];unfold iM;rw[aP hpl]
   have HR4:=ah GK;have Kk:=ah hpl;obtain ⟨v9,VR,TC⟩:=H3.out.drew.look hsn;obtain ⟨nz,hnz⟩:∃nz,nz=(s1.m x.sn).isNone:=⟨_,rfl⟩
   have hq9:(binOp .eql 161 v9 (.pointer none)).run prog w3.drew= .ok (.bool nz) w3.drew:=by
    rcases TC with ⟨hm,rfl⟩|⟨q,b,vf,vd,hm,rfl,_⟩
    ·rw[hnz,hm];rfl
    ·rw[hnz,hm];rfl
   have hqg:(eqGuard .eql 161 (.tmp 49) (.const (.pointer none)) v9 (.pointer none)).run prog w3.drew= .ok () w3.drew:=by
    rcases TC with ⟨hm,rfl⟩|⟨q,b,vf,vd,hm,rfl,_⟩<;>rfl
   obtain ⟨_,_,x7,_⟩:=H3.out.cells;have Xq:=ah TC;have HNZ:=ah hnz;have Tf:=ah Te;clear HR2 GK hpl TC hnz Te;go_upto_region 10 with (fail)
   refine wp_region_still_tail 6 nK (by kernel_rfl) ?_;simp only[kJ,nu,pV,ny]
   repeat still_step
   refine oK ?_;change wpList _ _ _ _ _ w3.drew;go_upto_if 50 with (fail)
   go_cut [9] from 30 to 137 (fun s9 wx=>∃b vf vd,s9= .pointer (some ⟨b,0,none⟩)/\uG wx b (d9 s1 x.sn) vf vd/\((T b=0/\w3.heap.size<=b)\/T b=3*x.sn+4)/\(∀k,vf.ownBlock=some k->T k=3*x.sn+5)/\(∀k,vd.ownBlock=some k->T k=3*x.sn+6)/\Below w3 w3 wx)
   case first=>
    rcases Xq.out with ⟨hm,rfl⟩|⟨sp,b,vf,vd,hm,rfl,hs,t1,t2,t3⟩
    ·have hg0:d9 s1 x.sn=Ff:=by unfold d9;rw[hm];rfl
     obtain rfl:nz=true:=by rw[HNZ.out,hm];rfl
     have HG0:=ah hg0;clear hm hg0 Xq HNZ;go_wp2_with fail;go_meet;rw[HG0.out];exact ⟨w3,.slice none 0 0,.slice none 0 0,rfl,⟨av.new w3.drew _ _,jl _ _ _ _,jl _ _ _ _⟩,.inl ⟨HT0.out _ (by have:=Tf.out;omega),aL⟩,fun k e=>by simp[Value.ownBlock] at e,fun k e=>by simp[Value.ownBlock] at e,(bS _ w3).drew.alloc (aL) _⟩
    ·have hg0:d9 s1 x.sn=sp:=by unfold d9;rw[hm];rfl
     obtain rfl:nz=false:=by rw[HNZ.out,hm];rfl
     have HG0:=ah hg0;clear hm hg0 Xq HNZ;go_wp2_with fail;go_meet;rw[HG0.out];exact ⟨b,vf,vd,rfl,hs,.inr t1,t2,t3,(bS _ w3).drew⟩
   case rest=>
   obtain ⟨b,vf,vd,rfl,hS,hbt,hvf,hvd,hbw⟩:=hcut;have Te:=Tf.out;have GK:=H3.out.below hbw;have bo4:=Zw.out.below hbw Zw.out.lt;have WZ:=Xp.out.below hbw Xp.out.lt;have bx4:=BX3.out.below hbw BX3.out.lt;have hk4:=lX.behind qR.out (Kept.of_below hbw) (fun k o hk e=>by have:=hbw.size;omega);obtain ⟨A5,c5,vs5,hv5,aia,hla,hlv⟩:=adE.out.lie;cases hv5;have hz4:=hbw.size;have hbl:=hS.blk.lt;have hsp:=HO.out.get x.sn;have hpt:∀W,(∀k,w1.heap.size<=k->k<w3.heap.size->W.heap[k]? =w3.heap[k]?)->jW W W.heap.size A3 x.ps.length c3 vs5 x.ps:=fun W hW=>aia.stay (fun ad e=>hW _ (hla ad e).1 (hla ad e).2) (fun i u ad e1 e2=>hW _ (hlv i u ad e1 e2).1 (hlv i u ad e1 e2).2)
   have htk:=Ta b (d9 s1 x.sn) vf vd x A3 c3 vs5 wc hS hsp (hpt wc fun k _ hk=>hbw.block k hk) HX.out.len HX.out.pos HX.out.sum (fun W hW=>hpt W fun k hk1 hk2=>by
    have e1:=hbw.block k hk2;have e2:wc.heap[k]? =some (wc.heap[k]'(by omega)):=rH (by omega);rw[<-e1,e2];refine hW.same k _ e2 fun hm=> ?_
    have h0:=HT0.out k (by omega);rcases hm with e|e|e
    ·subst e;omega
    ·have:=hvf k e;omega
    ·have:=hvd k e;omega)
   have PG:=ah htk;have CO:=ah GK;have HS5:=ah hS;have zw:=ah hk4;have Jk:=ah hbt;have HVF:=ah hvf;have HVD:=ah hvd;obtain ⟨z0,z1,z2,z3,z4,z5,z6,z7⟩:=bx4.eight;have c3o:=bo4.cell 0;have c3e:=WZ.cell 0;simp at c3o c3e;have BO5:=ah bo4;have BE5:=ah WZ;have BX5:=ah bx4;clear htk hpt aia hla hlv hS hbt hvf hvd hbw GK bo4 WZ bx4 hk4 adE H3 qR Zw Xp BX3;unfold dh at PG;clear Te;go_wp2_with fail;refine PG.out.mono ?_;intro e6 w6 ht6;by_cases hbd:Hy (d9 s1 x.sn) x=true
   ·unfold Gv at ht6;rw[bD hbd] at ht6;obtain ⟨rfl,hb6⟩:=ht6;have Mj:R=(s1,[],9):=by rw[HR4.out,bD hbd]
    refine Gu _ _ _ _ _ _ _ rfl rfl (by omega) (BO5.out.below hb6 BO5.out.lt) (BE5.out.below hb6 BE5.out.lt) fun W' hW=> ?_
    rw[Mj];exact ⟨T,vo,_,n,rfl,(CO.out.below hb6).far hW (fun k o hk=>HT0.out k (by omega)),by omega,fun _ _=>rfl,lX.behind (lX.behind zw.out (Kept.of_below hb6) (fun k o hk e=>by have:=zw.out.size;omega)) hW (fun k o hk e=>by omega),iO.nil _ _ _⟩
   ·unfold Gv at ht6;rw[aP hbd] at ht6;obtain ⟨rfl,oP,oG,hS6,hf6,hd6,qP⟩:=ht6;have Mj:R=((rV c (bK 1024 (iD s1 x (d9 s1 x.sn))).1),(bK 1024 (iD s1 x (d9 s1 x.sn))).2,0):=by rw[HR4.out,aP hbd]
    have hnk:∀k,T k=0->k<w3.heap.size->¬TkM b vf vd k (.map #[] 0):=fun k h0 hl hm=>by
     rcases hm with e|e|e
     ·subst e;rcases Jk.out with e|e
      ·omega
      ·omega
     ·have:=HVF.out k e;omega
     ·have:=HVD.out k e;omega
    have Te:=Tf.out;have hga:=HTG.out;have bo6:=BO5.out.kept qP (hnk _ (HT0.out _ (aL)) (by omega));have TE:=BE5.out.kept qP (hnk _ (HT0.out _ (by omega)) (by omega));have bx6:=BX5.out.kept qP (hnk _ (HT0.out _ (by omega)) (by omega));have Sr:¬TkM b vf vd g (.map #[] 0):=fun hm=>by
     rcases hm with e|e|e
     ·subst e;rcases Jk.out with e|e<;>omega
     ·have:=HVF.out g e;omega
     ·have:=HVD.out g e;omega
    have br6:=CO.out.blk.kept qP Sr;have x7:w6.cell? ⟨g,7,none⟩=some (.map (some M)):=br6.cell 7;have hTM:=CO.out.tM;obtain ⟨F,hF,hFm⟩:=CO.out.mp;have QS:ku prog 3 w6.drew M n F:=hF.same (by
     have e2:wc.heap[M]? =some (wc.heap[M]'(CO.out.lt M (by omega))):=rH _;show w6.heap[M]? =wc.heap[M]?
     rw[e2];refine qP.same M _ e2 fun hm=> ?_
     rcases hm with e|e|e
     ·subst e;rcases Jk.out with e|e<;>omega
     ·have:=HVF.out M e;omega
     ·have:=HVD.out M e;omega)
    have DW:=lX.behind zw.out qP (fun k o hk e=>by
     rcases e with e|e|e
     ·subst e;rcases Jk.out with e|e<;>omega
     ·have:=HVF.out k e;omega
     ·have:=HVD.out k e;omega)
    clear z0 z1 z2 z3 z4 z5 z6 z7 c3o c3e;have z0:w6.cell? p=some (.int .i64 (x.sn:Nat)):=bx6.cell 0;have HF7:=ah hFm;have HS7:=ah hS6;have aib:=ah hf6;have aic:=ah hd6;have zu:=ah qP;have TJ:=ah DW;have ZZ:=ah Mj;have BO7:=ah bo6;have BE7:=ah TE;have BX7:=ah bx6;have Xd:=ah QS;clear hFm hS6 hf6 hd6 qP DW Mj bo6 TE bx6 hF QS hnk Sr br6 Te PG;go_upto_region 14 with (fail)
    refine wp_region_still_tail 7 nK (by kernel_rfl) ?_;simp only[kJ,nu,pV,ny]
    repeat still_step
    refine oK ?_;change wpList _ _ _ _ _ w6.drew;refine Cm _ rfl _ _ _ 128 rfl 3 161 AX Ea M n F rfl Xd.out hn x.sn rfl (by omega) (.pointer (some ⟨b,0,none⟩)) rfl ?_;intro w8 hF8 XT;obtain ⟨T8,Xr,Zx,aid⟩:=CO.out.stored (W':=w6.drew) hbl (by rcases Jk.out with e|e<;>omega) HVF.out HVD.out (HS7.out.stay rfl (fun _ _=>rfl) (fun _ _=>rfl)) aib.out aic.out zu.out.drew HF7.out hF8 XT;have hbz:b≠w.heap.size/\b≠w.heap.size+1/\b≠p:=by
     have q0:=HT0.out w (aL);have q1:=HT0.out (w+1) (by omega);have q2:=HT0.out p (by omega);have q3:=Tf.out;refine ⟨fun e=> ?_,fun e=> ?_,fun e=> ?_⟩<;>subst e<;>rcases Jk.out with e|e<;>omega
    have hM8:∀k,T k=0->some k≠some M:=fun k hk e=>by cases e;omega
    have hw3:=Tf.out;have hpp:Zv w T T8 g M (n+1) c p #[.int .i64 (x.sn:Nat),.bool x.po,.bool x.sg,.bool x.la,.int .i64 (x.off:Nat),.bool x.s,.bool x.e,.slice A3 x.ps.length c3] w8 {s1 with m:=fK s1.m x.sn (some (eF (d9 s1 x.sn) x))} vo:=by
     refine ⟨Xr,BO7.out.drew.grown XT (hM8 _ (HT0.out _ (aL))),BE7.out.drew.grown XT (hM8 _ (HT0.out _ (by omega))),BX7.out.drew.grown XT (hM8 _ (HT0.out _ (by omega))),TJ.out.drew.grown XT (fun k e o ho=>by cases e;unfold MT;omega),fun k hk=> ?_,?_,?_,?_⟩
     ·by_cases e:k=b
      ·subst e;rcases Jk.out with e|e
       ·omega
       ·exact aid (by omega)
      ·exact Zx k (by omega) e
     ·exact (Zx _ (by omega) (Ne.symm hbz.1)).trans (HT0.out _ (aL))
     ·exact (Zx _ (by omega) (Ne.symm hbz.2.1)).trans (HT0.out _ (by omega))
     ·exact (Zx _ (by omega) (Ne.symm hbz.2.2)).trans (HT0.out _ (by omega))
    have hos:=HO.out.Zr HX.out (by have:=Kk.out;omega);have HP8:=ah hpp;have HOS:=ah hos;obtain ⟨_,_,_,_,_,_,_,_,_,Js,_⟩:=Xr.cells;have f14:=Xr.blk.frozen 14;obtain ⟨z0,z1,_⟩:=hpp.bx.eight;clear hpp hos hM8 hw3 hbz Zx aid Xr hF8 XT BO7 BE7 BX7 TJ Xd HF7 HS7 aib aic zu Jk HVF HVD CO HS5 zw BO5 BE5 BX5 x7 hga hTM hz4 hbl hsp;go_upto_region 15 with (fail)
    simp only[Act.put];go_cut [] from 30 to 137 (fun wx=>wx=w8.setCell ⟨g,14,none⟩ (.bool (s1.due||x.po)))
    case first=>
     cases hd:s1.due with
     |true=>
      rw[hd] at Js;have HD:=ah hd;clear hd;go_wp2;go_meet;rw[HD.out];rfl
     |false=>
      rw[hd] at Js;have HD:=ah hd;clear hd;go_wp2;go_meet;rw[HD.out];rfl
    case rest=>
    have h9:=HP8.out.put 14 (.bool (s1.due||x.po)) (s':= {s1 with m:=fK s1.m x.sn (some (eF (d9 s1 x.sn) x)),due:=s1.due||x.po}) rfl rfl rfl;rw[<-hcut] at h9;have HP9:=ah h9;clear hcut h9 Js f14 z0 z1 HP8;have hpc:∀(q sn:Nat),sn<=1023->Calls prog 97 #[.pointer (some g),.int .i64 sn] (wc.drewN q) fun e w'=>e= .returned (.int .i64 (bZ s1 sn:Nat))/\wc.drewN q=w':=fun q sn hs=>Dc (wc.drewN q) s1.next sn (HP9.out.rc.drewN q).cells.2.2.2.1 HO.out.n1 hs
    have hhi:=HO.out.n3;have aif:=fun q:Nat=>HP9.out.below ((bS _ wc).drewN q)
    have aii:=ah hpc;have HWD:=ah aif;obtain ⟨_,_,_,y8,_,KQ,_⟩:=HP9.out.rc.cells;obtain ⟨z0,_⟩:=HP9.out.bx.eight;clear hpc aif HP9 Tf HNZ Xq hqg hq9 VR Kk HPC EQ H2 HB2 HT0 HR4;go_upto_region 16 with (fail)
    go_quiet ((go_at_call 97;exact ve ((aii.out _ _ (by omega)).mono fun _ _ hh=>⟨hh.1,hh.2.symm⟩)))
    have hP:=HWD.out nq;generalize wc.drewN nq=WX at*;have adG:=ah hP;obtain ⟨_,_,_,y8,_,KQ,_⟩:=hP.rc.cells;obtain ⟨z0,_⟩:=hP.bx.eight;have f10:=hP.rc.blk.frozen 10;clear hP HWD aii;go_upto_if 84 with (fail)
    go_cut [] from 30 to 137 (fun wx=>Zv w T T8 g M (n+1) c p #[.int .i64 (x.sn:Nat),.bool x.po,.bool x.sg,.bool x.la,.int .i64 (x.off:Nat),.bool x.s,.bool x.e,.slice A3 x.ps.length c3] wx {s1 with m:=fK s1.m x.sn (some (eF (d9 s1 x.sn) x)),due:=s1.due||x.po,high:=if bZ s1 s1.high<=bZ s1 x.sn then eD x.sn else s1.high} vo)
    case first=>
     by_cases hh:bZ s1 s1.high<=bZ s1 x.sn
     ·have GJ:(bZ s1 s1.high:Int)<=(bZ s1 x.sn:Int):=by omega
      have hand:bits BinOp.and IntKind.i64 ((x.sn:Int)+1) 1023=((eD x.sn:Nat):Int):=by rw[wK];unfold eD;omega
      have HH:=ah hh;clear hh;go_wp2_with fail;go_meet;rw[bD HH.out];exact adG.out.put 10 (.int .i64 (eD x.sn:Nat)) rfl rfl rfl
     ·have GJ:¬(bZ s1 s1.high:Int)<=(bZ s1 x.sn:Int):=by omega
      have HH:=ah hh;clear hh;go_wp2_with fail;go_meet;rw[aP HH.out];exact adG.out
    case rest=>
    have aaO:fM {s1 with m:=fK s1.m x.sn (some (eF (d9 s1 x.sn) x)),due:=s1.due||x.po,high:=if bZ s1 s1.high<=bZ s1 x.sn then eD x.sn else s1.high}:=⟨HO.out.n1,HO.out.n2,HOS.out.n3,HO.out.n4,HOS.out.m,HO.out.op,HO.out.t1,HO.out.t2⟩;have hfr:=Jr hcut.rc aaO s1.status HO.out.n2;have Q7:=ah hfr;have aij:=ah hcut;obtain ⟨_,_,_,_,y9,_⟩:=hcut.rc.cells;clear hfr hcut aaO y8 KQ z0 f10 adG
    replace y9:wc.cell? ⟨g,9,none⟩=some (.int .i64 (s1.status:Nat)):=y9
    go_upto_region 18 with (fail)
    go_cut [] from 30 to 137 (fun wx=>Zv w T T8 g M (n+1) c p #[.int .i64 (x.sn:Nat),.bool x.po,.bool x.sg,.bool x.la,.int .i64 (x.off:Nat),.bool x.s,.bool x.e,.slice A3 x.ps.length c3] wx (iD s1 x (d9 s1 x.sn)) vo)
    case first=>
     go_wp2_with (go_at_call 99;refine Q7.out.mono ?_;rintro e12 w12 ⟨rfl,aik⟩;have h12:=aij.out.below aik;have f9:=h12.rc.blk.frozen 9;have c9:=h12.rc.cells.2.2.2.2.1;have H12:=ah h12;clear h12 aik);go_meet;exact H12.out.put 9 _ rfl rfl rfl
    case rest=>
    have hdl:=Ll hcut.rc HOS.out;have E7:=ah hdl;have DT:=ah hcut;have fo:=hcut.bo.frozen 0;have co:=hcut.bo.cell 0;simp at co;clear hdl hcut y9 Q7 aij;go_upto_region 19 with (fail)
    go_cut [] from 30 to 137 (fun wx=>∃T9 vo9 v9,Td w T T9 g M (n+1) c v9 (bK 1024 (iD s1 x (d9 s1 x.sn))).2 wx (bK 1024 (iD s1 x (d9 s1 x.sn))).1 vo9)
    case first=>
     go_wp2_with (go_at_call 100;refine E7.out.mono ?_;rintro e13 w13 ⟨T9,vo9,v9',rfl,BN,hT9,Q0,hO9⟩;have hsl:∃A9 k9 c9,v9'= .slice A9 k9 c9:=(by obtain ⟨vs9,hr9,_⟩:=hO9;obtain ⟨A9,c9,e9,_⟩:=aY hr9;exact ⟨A9,_,c9,e9⟩);obtain ⟨A9,k9,c9,rfl⟩:=hsl;have Zy:=DT.out.bo.kept Q0 (fun hm=>hm DT.out.t0);have f13:=Zy.frozen 0;have c13:=Zy.cell 0;simp at c13;have HA:=ah BN;have HB:=ah hT9;have HC:=ah Q0;have HD:=ah hO9;have HE:=ah Zy;clear BN hT9 Q0 hO9 Zy);go_meet;have hl12:=DT.out.bo.lt;have ail:=DT.out.be.lt;have z9:T9 w.heap.size=0:=(HB.out _ hl12).trans DT.out.t0;have z9b:T9 (w+1)=0:=(HB.out _ ail).trans DT.out.t1;have hset:Kept (fun k _=>k=w.heap.size) w13 (w13.setCell w (.slice A9 k9 c9)):=(Kept.refl _ w13).setCell (p:=⟨w,0,none⟩) (fun _ _=>rfl) _;refine ⟨T9,vo9,.slice A9 k9 c9,HA.out.far hset (fun k o e=>by rw[e];exact z9),by simpa using HE.out.ay 0 (.slice A9 k9 c9),(DT.out.be.kept HC.out (fun hm=>hm DT.out.t1)).kept hset (by simp),lX.behind (lX.behind DT.out.kp HC.out (fun k o hk e=>by rw[<-DT.out.tt k hk];exact e)) hset (fun k o hk e=>by omega),fun k hk=>(HB.out k (by omega)).trans (DT.out.tt k hk),z9,z9b,?_⟩;exact (HD.out.over fun k hk=>lZ w13 ⟨w,0,none⟩ (.slice A9 k9 c9) k (by show k≠w.heap.size;omega)).CW (by omega)
    case rest=>
    obtain ⟨T9,vo9,v9',h9⟩:=hcut;have Wi:=HOS.out.Am 1024;have BN:=ZZ.out;generalize bK 1024 (iD s1 x (d9 s1 x.sn))=D at*;obtain ⟨s9,outs⟩:=D;dsimp only at h9 Wi BN;have I6:=ah BN;have Zz:=ah h9;have NK:=ah Wi;have hpc:=FL h9.rc Wi s9.gW Wi.n4;have HPC:=ah hpc;obtain ⟨_,_,_,_,_,_,_,Bt,_⟩:=h9.rc.cells;have f11:=h9.rc.blk.frozen 11;have Vk:=h9.rc.cells.2.2.2.2.2.2.1;clear h9 Wi BN hpc E7 DT fo co ZZ HOS;go_upto_region 21 with (go_at_call 97;refine HPC.out.mono ?_;rintro e14 w14 ⟨rfl,rfl⟩)
    go_cut [114] from 30 to 137 (fun amO wx=>amO= .bool (decide (bZ s9 s9.gW=0\/512<bZ s9 s9.gW))/\wx=wc)
    case first=>
     generalize bZ s9 s9.gW=pt at*;by_cases e0:pt=0
     ·subst e0;go_wp2;go_meet;exact ⟨by simp,rfl⟩
     ·have d0:((pt:Int)==0)=false:=by simp;omega
      have HD0:=ah e0;clear e0;go_wp2
      all_goals
       go_meet;refine ⟨congrArg Value.bool ?_,rfl⟩;rw[mr];simp only[gY];have:=HD0.out;omega
    case rest=>
    obtain ⟨rfl,rfl⟩:=hcut;obtain ⟨s10,Gx⟩:∃s10,s10=(if bZ s9 s9.gW=0\/512<bZ s9 s9.gW then {s9 with ro:=false} else s9):=⟨_,rfl⟩
    have hRR:R=(if s10.ro=false/\s10.high≠s10.next then jO c s10 else s10,outs,0):=by rw[I6.out,Gx];rfl
    have HRR:=ah hRR;have ZA:=ah Gx;have HPW:=Zz;clear hRR Gx HPC I6 Bt;go_upto_if 114 with (fail)
    go_cut [] from 30 to 137 (fun wx=>Td w T T9 g M (n+1) c v9' outs wx s10 vo9)
    case first=>
     by_cases hc:bZ s9 s9.gW=0\/512<bZ s9 s9.gW
     ·have Gx:=ZA.out;rw[bD hc] at Gx;have HC:=ah Gx;have dd:decide (bZ s9 s9.gW=0\/512<bZ s9 s9.gW)=true:=iK hc;clear Gx hc;rw[dd];go_wp2_with fail;go_meet;rw[HC.out];exact Zz.out.put 11 (.bool false) rfl rfl rfl
     ·have Gx:=ZA.out;rw[aP hc] at Gx;have HC:=ah Gx;have dd:decide (bZ s9 s9.gW=0\/512<bZ s9 s9.gW)=false:=iP hc;clear Gx hc;rw[dd];go_wp2_with fail;go_meet;rw[HC.out];exact Zz.out
    case rest=>
    have aaP:fM s10:=by
     rw[ZA.out];split
     ·exact ⟨NK.out.n1,NK.out.n2,NK.out.n3,NK.out.n4,NK.out.m,NK.out.op,NK.out.t1,NK.out.t2⟩
     ·exact NK.out
    obtain ⟨A9,k9,c9,rfl⟩:∃A9 k9 c9,v9'= .slice A9 k9 c9:=by
     obtain ⟨vs9,hr9,_⟩:=hcut.out;obtain ⟨A9,c9,e9,_⟩:=aY hr9;exact ⟨A9,_,c9,e9⟩
    obtain ⟨_,_,_,y8,_,KQ,aim,_⟩:=hcut.rc.cells;have adH:=ah hcut;have ain:=ah aaP;clear hcut aaP Vk f11 Zz HPW ZA NK;cases hro:s10.ro with
    |true=>
     have hRR:=HRR.out;rw[aP (by rw[hro];simp)] at hRR;rw[hro] at aim;have HR2:=ah hRR;clear hRR hro HRR;go_upto_region 23 with (fail)
     go_quiet (fail)
     have hX:=adH.out.drewN nq;generalize wc.drewN nq=wz at*;have fo:=hX.bo.frozen 0;have co:=hX.bo.cell 0;have fe:=hX.be.frozen 0;have ce:=hX.be.cell 0;simp at co ce;have YT:=ah hX;clear hX;go_wp2;obtain ⟨q1,q2,q3⟩:=YT.out.fin;refine tL _ _ _ _ _ _ rfl rfl q1 q2 ?_;rw[HR2.out];exact q3
    |false=>
     rw[hro] at aim;by_cases hne:s10.high=s10.next
     ·have hRR:=HRR.out;rw[aP (by rw[hne];simp)] at hRR;have d2:((s10.high:Int) !=(s10.next:Int))=false:=by simp;omega
      have HR2:=ah hRR;clear hRR hro HRR hne;go_upto_region 23 with (fail)
      go_quiet (fail)
      have hX:=adH.out.drewN nq;generalize wc.drewN nq=wz at*;have fo:=hX.bo.frozen 0;have co:=hX.bo.cell 0;have fe:=hX.be.frozen 0;have ce:=hX.be.cell 0;simp at co ce;have YT:=ah hX;clear hX;go_wp2;obtain ⟨q1,q2,q3⟩:=YT.out.fin;refine tL _ _ _ _ _ _ rfl rfl q1 q2 ?_;rw[HR2.out];exact q3
     ·have hRR:=HRR.out;rw[bD ⟨hro,hne⟩] at hRR;have d2:((s10.high:Int) !=(s10.next:Int))=true:=by simp;omega
      have HR2:=ah hRR;clear hRR hro HRR hne;go_upto_region 23 with (fail)
      go_quiet (fail)
      have hX:=adH.out.drewN nq;have hwt:=FO hX.rc ain.out HCF.out.r1 (by have:=HCF.out.r2;omega);have HWT:=ah hwt;have Xn:=ah hX;clear hX hwt;generalize wc.drewN nq=wy at*;go_upto_region 25 with (go_at_call 101;refine HWT.out.mono ?_;rintro e15 wz ⟨rfl,h15,aio⟩)
      have hX:=Xn.out.turn h15 aio;have fo:=hX.bo.frozen 0;have co:=hX.bo.cell 0;have fe:=hX.be.frozen 0;have ce:=hX.be.cell 0;simp at co ce;have YT:=ah hX;clear hX h15 aio;go_wp2;obtain ⟨q1,q2,q3⟩:=YT.out.fin;refine tL _ _ _ _ _ _ rfl rfl q1 q2 ?_;rw[HR2.out];exact q3
end
theorem YJ {k:Nat} {l:List Fl} (h:k<=l.length):je k l=l:=by
 unfold je;rw[show k-l.length=0 by omega];simp
def M9 (p:Sp):Prop:=∀k,p.size=some k->k<=p.fl.length
theorem Ju {sn:Nat} {p:Sp} {k:Nat} (hz:M9 p) (hs:p.size=some k):jf sn (some p)=(dS p.fl 0 0).map (eT sn):=by
 unfold jf;simp only[hs];rw[YJ (hz k hs)]
theorem Jv {sn:Nat} {p:Sp} (hs:p.size=none):jf sn (some p)=(dS p.fl 0 0).map (eT sn)++ [⟨sn,true,p.fl.length,32767⟩]:=by
 unfold jf;simp only[hs]
def ach (w:World) (l:List Nk) (e:Ending) (w':World):Prop:=
 ∃v,e= .returned v/\w'.ownsRow w 197 4 v l.length (si l)/\Below w w w'
theorem KO (sn:Nat) (w:World):Calls prog 118 #[.int .i64 (sn:Nat),.pointer none] w (ach w (jf sn none)):=by
 have b0:=av.new w 3 #[.int .i64 (sn:Nat)];have hB:=(bS w w).alloc (aL) (.cells #[.int .i64 (sn:Nat)] 3);have c0:=b0.cell 0;simp at c0;have HB:=ah hB;clear hB b0;go_enter func118,ntmps118;go_wp2;go_ret;refine ⟨_,rfl,?_,HB.out.alloc (by simp) _⟩;have hr:=bF (base':=w.heap.size) (World.ownsRow_lit (e:=197) (size:=4) (w.alloc (.cells #[.int .i64 (sn:Nat)] 3)) #[.int .i64 (sn:Nat),.bool false,.int .i64 0,.int .i64 0] 1 (aL) (by unfold maxLen;omega) (by rfl)) (by simp);simpa[jf,si] using hr
theorem KP (sn:Nat) (b:Nat) (p:Sp) (vf vd:Value) (w:World) (h:uG w b p vf vd) (ho:DF p) (hz:M9 p):
 Calls prog 118 #[.int .i64 (sn:Nat),.pointer (some b)] w (ach w (jf sn (some p))):=by
 obtain ⟨i0,hi,hz0,hz1,hz2⟩:=wN;obtain ⟨A,c,rfl,hfs⟩:=qV.eu h.fr;obtain ⟨Ad,cd,rfl,_,_⟩:=aY h.dr;have hle:=ho.le;obtain ⟨m,hm⟩:∃m,p.fl.length=m:=⟨_,rfl⟩
 have hcap:=hfs.cap;have hmx:=hfs.mx;have hgl:=tq p.fl 0 0;rw[hm] at hfs hle hcap hgl;have hb:=h.blk;rw[hm] at hb;have hbl:=hb.lt;have z0:=hb.cell 0;have z1:=hb.cell 1;have z2:=hb.cell 2;simp at z0 z1 z2;have hsi:decide ((m:Int)<dY p)=false:=by
  refine iP ?_;unfold dY;cases hs:p.size with
  |none=>dsimp only;omega
  |some k=>have:=hz k hs;dsimp only;omega
 have b0:=av.new w 3 #[.int .i64 (sn:Nat)];have b1:=av.new (w.alloc (.cells #[.int .i64 (sn:Nat)] 3)) 165 #[.slice A m c,.slice Ad p.da.length cd,.int .i64 (dY p)];rw[mZ] at b1;have b0':=b0.alloc (.cells #[.slice A m c,.slice Ad p.da.length cd,.int .i64 (dY p)] 165);have hB:Below w w ((w.alloc (.cells #[.int .i64 (sn:Nat)] 3)).alloc (.cells #[.slice A m c,.slice Ad p.da.length cd,.int .i64 (dY p)] 165)):=((bS _ w).alloc (aL) _).alloc (by simp) _;have aga:=hfs.below hB;have hsz:((w.alloc (.cells #[.int .i64 (sn:Nat)] 3)).alloc (.cells #[.slice A m c,.slice Ad p.da.length cd,.int .i64 (dY p)] 165)).heap.size=w.heap.size+2:=by simp
 have HB:=ah hB;have HFS:=ah aga;have HB0:=ah b0';have HB1:=ah b1;have KI:=ah hsz;have HM:=ah hm;have HZ:=ah hz;clear hB aga b0' b1 b0 hsz hm hfs hb h ho hz;go_enter func118,ntmps118;go_wp2_with fail;obtain ⟨w2,hw2⟩:∃w2,(w.alloc (.cells #[.int .i64 (sn:Nat)] 3)).alloc (.cells #[.slice A m c,.slice Ad p.da.length cd,.int .i64 (dY p)] 165)=w2:=⟨_,rfl⟩
 rw[hw2] at HB HFS HB0 HB1 KI ⊢;refine (Si (w+1) w2).mono ?_;rintro e3 w3 ⟨rfl,rfl⟩;have hgv:=av.new w2 161 #[.pointer (some ⟨w+1,0,none⟩)];have hb3:=HB1.out.alloc (.cells #[.pointer (some ⟨w+1,0,none⟩)] 161);have hs3:=HB0.out.alloc (.cells #[.pointer (some ⟨w+1,0,none⟩)] 161);have agc:=FV w2.heap.size (w+1) w A m c p.fl sn (w2.alloc (.cells #[.pointer (some ⟨w+1,0,none⟩)] 161)) (by omega) hgv (by have:=KI.out;simp;omega) (hb3.cell 0) (HFS.out.below ((bS _ w2).alloc (aL) _)) (hs3.cell 0) (by have:=KI.out;simp;omega);have agd:=ah agc;have HB3:=ah hb3;have GQ:=ah hs3;have MU:=ah (HB.out.alloc HB.out.size (.cells #[.pointer (some ⟨w+1,0,none⟩)] 161));clear hgv hb3 hs3 agc hw2 HB HB0 HB1 HFS;go_wp2_with fail;refine agd.out.mono ?_;rintro e4 w4 ⟨v,rfl,hv4,hb4⟩;clear agd;have hB4:=MU.out.trans (hb4.mono MU.out.size);have aci:=HB3.out.below hb4 HB3.out.lt;have hs4:=GQ.out.below hb4 GQ.out.lt;have c0:=hs4.cell 0;have c1:=aci.cell 0;have c3:=aci.cell 2;simp at c0 c1 c3;have Vi:=bF (base':=w.heap.size) hv4 MU.out.size;obtain ⟨Av,cv,rfl,_,_⟩:=dD.eu (l:=(dS p.fl 0 0).map (eT sn)) Vi;have HV4:=ah Vi;have Ij:=ah hB4;have HS4:=ah hs4;clear hv4 Vi hB4 hb4 aci hs4 HB3 GQ;cases hs:p.size with
 |some k=>
  have hdd:dY p=(k:Int):=by unfold dY;rw[hs]
  rw[hdd] at c3;have HE:=ah (Ju (sn:=sn) HZ.out hs);clear hdd hs;go_wp2_with fail;go_ret;rw[HE.out];refine ⟨.slice Av (dS p.fl 0 0).length cv,rfl,?_,Ij.out⟩;have h9:=HV4.out;rw[Ej] at h9 ⊢;exact h9
 |none=>
  have hdd:dY p= -1:=by unfold dY;rw[hs]
  rw[hdd] at c3;have HE:=ah (Jv (sn:=sn) hs);clear hdd hs;obtain ⟨L,hL⟩:∃L,(dS p.fl 0 0).map (eT sn)=L:=⟨_,rfl⟩
  rw[hL] at HV4 HE ⊢;have hLl:L.length<=100001:=by rw[<-hL,Ej];omega
  clear hL hgl;have HV5:=ah (HV4.out.alloc (.cells (Jt ⟨sn,true,m,32767⟩) 197));have hnk:=KM w4 ⟨sn,true,m,32767⟩;simp only[Jt] at HV5 hnk;have HNK:=ah hnk;have On:=ah (Ij.out.alloc Ij.out.size (.cells (Jt ⟨sn,true,m,32767⟩) 197));simp only[Jt] at On;clear hnk;go_wp2_with (at_builtin;refine jc _ rfl _ _ 131 rfl w 197 i0 (.agg #[.int .i64 0,.bool false,.int .i64 0,.int .i64 0]) 32 yV hi hz0 hz1 hz2 rfl (.slice Av L.length cv) L.length (si L) rfl HV5.out (some ⟨w4,0,none⟩) 1 1 [⟨sn,true,m,32767⟩] rfl HNK.out ?c3 ?c4 ?c5 ?_)
  case c3=>unfold maxLen;omega
  case c4=>omega
  case c5=>have:=Ij.out.size;simp;omega
  intro v' w5 hown5 dV;go_wp2_with fail;go_ret;rw[HE.out,HM.out];refine ⟨v',rfl,?_,On.out.grown dV On.out.size (fun j hj=>(HV5.out.lt j hj).1)⟩;rw[Bb,l8];exact hown5
end Go.Proofs.YtbhiklnljiehiaaGreat
