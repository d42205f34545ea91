/- amrecv: Receive. -/
import Derived.Test.YtbhiklnljiehiaaGreatM2aq
import Derived.Test.YtbhiklnljiehiaaGreatM2bd
namespace Go.Proofs.YtbhiklnljiehiaaGreat
section
open Go.RowKit Go.Shelf
attribute [local go_sem] Oper.semAt_some
section
variable {w w' W W':World} {T T':Nat→Nat} {g M n:Nat} {c:Cf} {st:Rc} {vo v:Value}
def Vo (w:World) (T:Nat→Nat) (g M n:Nat) (c:Cf) (R:Rc × List (List UInt8) × Nat) (e:Ending) (w':World):Prop:=
 ∃T' AV v n',e= .returned (.tuple #[v,.int .i64 (R.2.2:Nat)])∧gI w' T' g M n' c R.1 AV∧n'≤n+1∧(∀k,k<w.heap.size→T' k=T k)∧Kept (MT T) w w'∧fT w' w.heap.size T' v R.2.1
theorem gI.zero (h:gI w T g M n c st vo) {k:Nat} (hk:w.heap.size≤k):T k=0:=by
 rcases Nat.eq_zero_or_pos (T k) with e|e
 ·exact e
 ·have:=h.lt k (by omega);omega
theorem jr.behind {Q:Nat→Obj→Prop} (h:Kept (MT T) w W) (h2:Kept Q W W') (hq:∀k o,k<w.heap.size→Q k o→T k≠0):Kept (MT T) w W':=
 ⟨h2.os.trans h.os,h2.tape.trans h.tape,h2.output.trans h.output,Nat.le_trans h.size h2.size,fun i o hi hn=>h2.same i o (h.same i o hi hn) (fun hm=>hn (hq i o (lt_of_heap hi) hm))⟩
theorem eT.lie {base:Nat} {x:Value} {ps:List (List UInt8)} (h:eT w base x ps):∃A c vs,x= .slice A ps.length c∧iO w w.heap.size A ps.length c vs ps∧(∀ad,A=some ad→base≤ad.block∧ad.block<w.heap.size)∧∀(i:Nat) u ad,vs[i]? =some u→sOf u=some ad→base≤ad.block∧ad.block<w.heap.size:=by
 obtain ⟨vs,g,cap,data,h1,h2,h3⟩:=h;obtain ⟨A,c,rfl,hs,_⟩:=bq h1;have hl:=h1.1;refine ⟨A,c,vs,rfl,⟨hs,rfl,fun i p hi=> ?_⟩,fun ad e=>h1.lt ad.block (by rw[e];rfl),fun i u ad hu e=> ?_⟩
 ·obtain ⟨off,ci,e,hc1,hc2,hp⟩:=h3 i p hi;refine ⟨_,ci,e,⟨by simp,hc1,hc2,fun hpos=>⟨_,rfl,(h2.lt g rfl).2,fun j u hu=> ?_⟩⟩⟩;have hj:j<p.length:=by
   have:=(List.getElem?_eq_some_iff.1 hu).1;simpa using this
  have hcell:=h2.cells (g:=g) rfl (off+j) u (by
   unfold bO at hu ⊢;rw[List.getElem?_map] at hu ⊢;rw[hp,List.getElem?_take,if_pos hj,List.getElem?_drop] at hu;exact hu)
  have e2:(⟨g,off,none⟩:Addr).add j=(⟨g,0,none⟩:Addr).add (off+j):=by
   unfold Addr.add;by_cases hj0:j=0
   ·subst hj0;by_cases ho:off=0
    ·simp[ho]
    ·simp[ho]
   ·simp[hj0]
  rw[e2];exact hcell
 ·have hi:=(List.getElem?_eq_some_iff.1 hu).1;obtain ⟨off,ci,e2,_⟩:=h3 i _ (List.getElem?_eq_getElem (by omega));rw[hu] at e2;cases e2;cases e;exact h2.lt g rfl
structure Uc (w:World) (T0 T:Nat→Nat) (g M n:Nat) (c:Cf) (p:Nat) (X:Array Value) (W:World) (s:Rc) (vo:Value):Prop where
 rc:gI W T g M n c s vo
 bo:au W w.heap.size 37 #[.slice none 0 0]
 be:au W (w.heap.size+1) 53 #[.int .i64 0]
 bx:au W p 148 X
 kp:Kept (MT T0) w W
 tt:∀k,k<w.heap.size→T k=T0 k
 t0:T w.heap.size=0
 t1:T (w.heap.size+1)=0
 t2:T p=0
theorem Uc.put {T0:Nat→Nat} {p:Nat} {X:Array Value} {s s':Rc} (h:Uc w T0 T g M n c p X W s vo) (i:Nat) (u:Value) (he:(Mb c M vo s).setIfInBounds i u=Mb c M vo s') (hm:s'.m=s.m) (ho:s'.op=s.op):Uc w T0 T g M n c p X (W.setCell ⟨g,i,none⟩ u) s' vo:=by
 have hg:=h.rc.tg;have h0:=h.t0;have h1:=h.t1;have h2:=h.t2;exact ⟨h.rc.put i u he hm ho,h.bo.far (p:=⟨g,i,none⟩) (fun (e:w.heap.size=g)=>by rw[e] at h0;omega) u,h.be.far (p:=⟨g,i,none⟩) (fun (e:w.heap.size+1=g)=>by rw[e] at h1;omega) u,h.bx.far (p:=⟨g,i,none⟩) (fun (e:p=g)=>by rw[e] at h2;omega) u,
  jr.behind h.kp ((Kept.refl (fun k _=>k=g) W).setCell (p:=⟨g,i,none⟩) (fun _ _=>rfl) u) (fun k o hk e=>by have:=h.tt k hk;subst e;omega),h.tt,h0,h1,h2⟩
theorem Uc.below {T0:Nat→Nat} {p:Nat} {X:Array Value} {s:Rc} (h:Uc w T0 T g M n c p X W s vo) (hb:Below W.heap.size W W'):Uc w T0 T g M n c p X W' s vo:=
 ⟨h.rc.below hb,h.bo.below hb h.bo.lt,h.be.below hb h.be.lt,h.bx.below hb h.bx.lt,jr.behind h.kp (Kept.of_below hb) (fun k o hk e=>by have:=h.kp.size;omega),h.tt,h.t0,h.t1,h.t2⟩
theorem fT.over {base:Nat} {outs:List (List UInt8)} (h:fT W base T v outs) (hk:∀k,base≤k→W'.heap[k]? =W.heap[k]?):fT W' base T v outs:=by
 obtain ⟨vs,h1,h2,h3⟩:=h;exact ⟨vs,bX h1 fun k e=>hk k (h1.lt k e).1,h2,fun i q hi=>let ⟨vi,e,ho,ht⟩:=h3 i q hi;⟨vi,e,bX ho fun k e=>hk k (ho.lt k e).1,ht⟩⟩
structure M7 (w:World) (T0 T:Nat→Nat) (g M n:Nat) (c:Cf) (v:Value) (outs:List (List UInt8)) (W:World) (s:Rc) (vo:Value):Prop where
 rc:gI W T g M n c s vo
 bo:au W w.heap.size 37 #[v]
 be:au W (w.heap.size+1) 53 #[.int .i64 0]
 kp:Kept (MT T0) w W
 tt:∀k,k<w.heap.size→T k=T0 k
 t0:T w.heap.size=0
 t1:T (w.heap.size+1)=0
 out:fT W w.heap.size T v outs
theorem M7.turn {T0:Nat→Nat} {outs:List (List UInt8)} {s s':Rc} (h:M7 w T0 T g M n c v outs W s vo) (hr:gI W' T g M n c s' vo) (hk:Kept (MT T) W W'):M7 w T0 T g M n c v outs W' s' vo:=
 ⟨hr,h.bo.kept hk (fun hm=>hm h.t0),h.be.kept hk (fun hm=>hm h.t1),jr.behind h.kp hk (fun k o hl e=>by rw[←h.tt k hl];exact e),h.tt,h.t0,h.t1,h.out.stay hk fun _ _=>rfl⟩
theorem M7.put {T0:Nat→Nat} {outs:List (List UInt8)} {s s':Rc} (h:M7 w T0 T g M n c v outs W s vo) (i:Nat) (u:Value) (he:(Mb c M vo s).setIfInBounds i u=Mb c M vo s') (hm:s'.m=s.m) (ho:s'.op=s.op):M7 w T0 T g M n c v outs (W.setCell ⟨g,i,none⟩ u) s' vo:=
 h.turn (h.rc.put i u he hm ho) ((Kept.refl _ W).setCell (p:=⟨g,i,none⟩) (fun o _=>by show T g≠0;rw[h.rc.tg];omega) u)
theorem M7.drewN {T0:Nat→Nat} {outs:List (List UInt8)} {s:Rc} (h:M7 w T0 T g M n c v outs W s vo) (q:Nat):M7 w T0 T g M n c v outs (W.drewN q) s vo:=h.turn (h.rc.drewN q) ((Kept.refl _ W).drewN q)
theorem M7.fin {T0:Nat→Nat} {outs:List (List UInt8)} {s:Rc} (h:M7 w T0 T g M (n+1) c v outs W s vo):
 au ((W.setCell ⟨w.heap.size,0,none⟩ v).setCell ⟨w.heap.size+1,0,none⟩ (.int .i64 0)) w.heap.size 37 #[v]∧au ((W.setCell ⟨w.heap.size,0,none⟩ v).setCell ⟨w.heap.size+1,0,none⟩ (.int .i64 0)) (w.heap.size+1) 53 #[.int .i64 0]∧
 Vo w T0 g M n c (s,outs,0) (.returned (.tuple #[v,.int .i64 0])) ((W.setCell ⟨w.heap.size,0,none⟩ v).setCell ⟨w.heap.size+1,0,none⟩ (.int .i64 0)):=by
 have hk:Kept (fun k _=>k=w.heap.size∨k=w.heap.size+1) W ((W.setCell ⟨w.heap.size,0,none⟩ v).setCell ⟨w.heap.size+1,0,none⟩ (.int .i64 0)):=((Kept.refl _ W).setCell (p:=⟨w.heap.size,0,none⟩) (fun _ _=> .inl rfl) _).setCell (p:=⟨w.heap.size+1,0,none⟩) (fun _ _=> .inr rfl) _;have hb:=(h.bo.av 0 v).far (p:=⟨w.heap.size+1,0,none⟩) (by simp) (.int .i64 0);have he:=(h.be.far (p:=⟨w.heap.size,0,none⟩) (by simp) v).av 0 (.int .i64 0);simp at hb he;refine ⟨hb,he,T,vo,v,n+1,rfl,h.rc.far hk (fun k o e=> ?_),aN,h.tt,jr.behind h.kp hk (fun k o hk e=>by omega),?_⟩
 ·rcases e with e|e
  ·rw[e];exact h.t0
  ·rw[e];exact h.t1
 ·
  obtain ⟨vs,h1,h2,h3⟩:=h.out;have hne:∀{e:TypeId} {y:Value} {k:Nat} {xs:List Value},W.ownsRow w.heap.size e 1 y k xs→(e=31∨e=5)→∀j,y.ownBlock=some j→((W.setCell ⟨w.heap.size,0,none⟩ v).setCell ⟨w.heap.size+1,0,none⟩ (.int .i64 0)).heap[j]? =W.heap[j]? :=fun {e y k xs} hy ht j hj=>by
   have n1:j≠w.heap.size:=fun e2=>by
    subst e2;exact aJ hy h.bo (by rcases ht with rfl|rfl<;>decide) hj
   have n2:j≠w.heap.size+1:=fun e2=>by
    subst e2;exact aJ hy h.be (by rcases ht with rfl|rfl<;>decide) hj
   rw[Below.heap_setCell _ _ _ j n2,Below.heap_setCell _ _ _ j n1]
  exact ⟨vs,bX h1 (hne h1 (.inl rfl)),h2,fun i q hi=>let ⟨vi,e,ho,ht⟩:=h3 i q hi;⟨vi,e,bX ho (hne ho (.inr rfl)),ht⟩⟩
set_option maxRecDepth 100000 in
set_option maxHeartbeats 8000000 in
theorem EJ (h:gI w T g M n c st vo) (ho:dP st) (hcf:YZ c) (hn:n<maxLen) (now:Int) (eP:now≤9223372036854775807) (A:Option Addr) (l cp:Nat) (bs:List UInt8) (hA:∀W,Kept (MT T) w W→Sl W W.heap.size A l cp (bO bs)) (hsm:l≤1000000):
 Calls Tryz.prog 57 #[.pointer (some ⟨g,0,none⟩),.int .i64 now,.slice A l cp] w (Vo w T g M n c (jH c st now bs)):=by
 obtain ⟨R,hR⟩:∃R,R=jH c st now bs:=⟨_,rfl⟩
 rw[←hR];have jZ:Tryz.prog.follows .mixedOrders=true:=by kernel_rfl
 have hTa:∀k,w.heap.size≤k→T k=0:=fun k hk=>h.zero hk
 have h0:=(h.alloc (.cells #[.slice none 0 0] 37)).alloc (.cells #[.int .i64 0] 53);have hk0:Kept (MT T) w ((w.alloc (.cells #[.slice none 0 0] 37)).alloc (.cells #[.int .i64 0] 53)):=((Kept.refl _ w).alloc _).alloc _;have bo0:=(au.new w 37 #[.slice none 0 0]).alloc (.cells #[.int .i64 0] 53);have xE:=au.new (w.alloc (.cells #[.slice none 0 0] 37)) 53 #[.int .i64 0];rw[World.size_alloc] at xE;have HT0:=ah hTa;have HA:=ah hA;have HO:=ah (ho.goes c eP);have HCF:=ah hcf;unfold jH at hR;have HR:=ah hR;have HTG:=ah h.tg;have hno:=nE h0;have hgo:=wm h0 ho hcf now eP;have J2:=ah hno;have rH:=ah hgo;have YS:=ah hk0;have hgl:=h.blk.lt;clear h ho hcf hTa h0 hA eP hR hno hgo hk0;generalize dI c st now=s1 at*
 go_enter_defers Tryz.func57,Tryz.ntmps57
 go_wp2_with fail;refine J2.out.mono ?_;rintro e1 w0' ⟨rfl,hw0⟩;have hsz0:((w.alloc (.cells #[.slice none 0 0] 37)).alloc (.cells #[.int .i64 0] 53)).heap.size=w.heap.size+2:=by simp
 generalize (w.alloc (.cells #[.slice none 0 0] 37)).alloc (.cells #[.int .i64 0] 53)=w0 at*;subst hw0;go_upto_region 4 with (fail)
 go_wp2_with (go_at_call 80;refine rH.out.mono ?_;rintro e2 w1 ⟨rfl,h1,hk1⟩);have Yd:=YS.out.trans hk1;have AO:=bo0.kept hk1 (fun hh=>hh (HT0.out _ (aN)));have tq:=xE.kept hk1 (fun hh=>hh (HT0.out _ (by omega)));have hs1:=HA.out w1 Yd;have hsz1:=hk1.size;have hDA:=FR A l cp bs w1 hs1 hsm;have HDA:=ah hDA;have H1:=ah h1;have tJ:=ah Yd;clear Yd hk1 hs1 hDA h1 J2 rH HA YS bo0 xE;refine HDA.out.mono ?_;rintro e3 w2 ⟨hb2,hres⟩;have bo2:=AO.below hb2 AO.lt;have pK:=tq.below hb2 tq.lt;have h2:=H1.out.below hb2;have hk2:=jr.trans tJ.out (qm hb2) (fun _ _=>rfl);have hsz2:=hb2.size;have HB2:=ah hb2;have H2:=ah h2;have wG:=ah hk2;clear hb2 h2 hk2 H1 tJ HDA AO tq;rcases hres with ⟨er,hd,rfl⟩|⟨x,A3,c3,hd,rfl,hpo⟩
 ·have hR2:R=(s1,[],er):=by
   rw[HR.out,hd]
  have hne:=Qt bs er hd;have hne2:((er:Int)==0)=false:=by simp;omega
  have HR2:=ah hR2;have bo3:=(bo2.far (p:=⟨w.heap.size+1,0,none⟩) (by simp) (.int .i64 (er:Nat))).alloc (.cells #[.int .i64 0,.bool false,.bool false,.bool false,.int .i64 0,.bool false,.bool false,.slice none 0 0] 148);have nS:=(pK.av 0 (.int .i64 (er:Nat))).alloc (.cells #[.int .i64 0,.bool false,.bool false,.bool false,.int .i64 0,.bool false,.bool false,.slice none 0 0] 148);have h3:=(H2.out.far ((Kept.refl (fun k _=>k=w.heap.size+1) _).setCell (p:=⟨w.heap.size+1,0,none⟩) (fun _ _=>rfl) (.int .i64 (er:Nat))) (fun k o hk=>HT0.out k (by omega))).alloc (.cells #[.int .i64 0,.bool false,.bool false,.bool false,.int .i64 0,.bool false,.bool false,.slice none 0 0] 148);have hk3:=(jr.behind wG.out ((Kept.refl (fun k _=>k=w.heap.size+1) _).setCell (p:=⟨w.heap.size+1,0,none⟩) (fun _ _=>rfl) (.int .i64 (er:Nat))) (fun k o hk e=>by omega)).alloc (.cells #[.int .i64 0,.bool false,.bool false,.bool false,.int .i64 0,.bool false,.bool false,.slice none 0 0] 148);simp at nS;have Ud:=ah bo3;have Rm:=ah nS;have H3:=ah h3;have lX:=ah hk3;have f2:=pK.frozen 0;have c2:=pK.cell 0;have hbl:=pK.lt;simp at c2;clear hR2 hd hne HR bo3 nS h3 hk3 bo2 pK;unfold bH;go_upto_region 6 with (fail)
  generalize (w2.setCell ⟨w.heap.size+1,0,none⟩ (.int .i64 (er:Nat))).alloc (.cells #[.int .i64 0,.bool false,.bool false,.bool false,.int .i64 0,.bool false,.bool false,.slice none 0 0] 148)=w3 at*;have c3:=Rm.out.cell 0;simp at c3;clear c2 f2;go_wp2_with (go_at_call 96;refine (mr _ _).mono ?_;rintro e4 w4 ⟨rfl,rfl⟩);refine zZ _ _ _ _ _ _ _ rfl rfl (by omega) Ud.out Rm.out fun W' hW=> ?_
  rw[HR2.out];exact ⟨T,vo,_,n,rfl,H3.out.far hW (fun k o hk=>HT0.out k (by omega)),by omega,fun _ _=>rfl,jr.behind lX.out hW (fun k o hk e=>by omega),fT.nil _ _ _⟩
 ·have hR2:R=L8 c s1 x:=by rw[HR.out,hd]
  have hx:=Ld hd;have HR2:=ah hR2;have HX:=ah hx;have hsn:=hx.sn;clear hR2 hd HR hx;have bo3:=(bo2.far (p:=⟨w.heap.size+1,0,none⟩) (by simp) (.int .i64 0)).alloc (.cells (bH x.sn x.po x.sg x.la x.off x.s x.e A3 x.ps.length c3) 148);have nS:=(pK.av 0 (.int .i64 0)).alloc (.cells (bH x.sn x.po x.sg x.la x.off x.s x.e A3 x.ps.length c3) 148);have h3:=(H2.out.far ((Kept.refl (fun k _=>k=w.heap.size+1) _).setCell (p:=⟨w.heap.size+1,0,none⟩) (fun _ _=>rfl) (.int .i64 0)) (fun k o hk=>HT0.out k (by omega))).alloc (.cells (bH x.sn x.po x.sg x.la x.off x.s x.e A3 x.ps.length c3) 148);have hk3:=(jr.behind wG.out ((Kept.refl (fun k _=>k=w.heap.size+1) _).setCell (p:=⟨w.heap.size+1,0,none⟩) (fun _ _=>rfl) (.int .i64 0)) (fun k o hk e=>by omega)).alloc (.cells (bH x.sn x.po x.sg x.la x.off x.s x.e A3 x.ps.length c3) 148);have bx3:=au.new (w2.setCell ⟨w.heap.size+1,0,none⟩ (.int .i64 0)) 148 (bH x.sn x.po x.sg x.la x.off x.s x.e A3 x.ps.length c3);rw[World.size_setCell] at bx3;have ab4:eT ((w2.setCell ⟨w.heap.size+1,0,none⟩ (.int .i64 0)).alloc (.cells (bH x.sn x.po x.sg x.la x.off x.s x.e A3 x.ps.length c3) 148)) w1.heap.size (.slice A3 x.ps.length c3) x.ps:=hpo.kept fun k o hk ho=>by
   have:=lt_of_heap ho;rw[Below.heap_alloc _ _ k (by simp;omega),Below.heap_setCell _ _ _ k (by simp;omega)];exact ho
  simp at nS;have Ud:=ah bo3;have Rm:=ah nS;have BX3:=ah bx3;have H3:=ah h3;have lX:=ah hk3;have Ye:=ah ab4;have f2:=pK.frozen 0;have c2:=pK.cell 0;have hbl:=pK.lt;simp at c2;clear hpo bo3 nS bx3 h3 hk3 ab4 bo2 pK;unfold bH at Ud Rm BX3 H3 lX Ye;unfold bH;go_upto_region 6 with (fail)
  have M8:((w2.setCell ⟨w.heap.size+1,0,none⟩ (.int .i64 0)).alloc (.cells #[.int .i64 (x.sn:Nat),.bool x.po,.bool x.sg,.bool x.la,.int .i64 (x.off:Nat),.bool x.s,.bool x.e,.slice A3 x.ps.length c3] 148)).heap.size=w2.heap.size+1:=by simp
  generalize (w2.setCell ⟨w.heap.size+1,0,none⟩ (.int .i64 0)).alloc (.cells #[.int .i64 (x.sn:Nat),.bool x.po,.bool x.sg,.bool x.la,.int .i64 (x.off:Nat),.bool x.s,.bool x.e,.slice A3 x.ps.length c3] 148)=w3 at*;generalize w2.heap.size=p at*;have c3e:=Rm.out.cell 0;simp at c3e;have c3o:=Ud.out.cell 0;simp at c3o;obtain ⟨z0,z1,z2,z3,z4,z5,z6,z7⟩:=BX3.out.eight;have hpc:=zu H3.out HO.out x.sn hsn;have HPC:=ah hpc;clear c2 f2 hpc z2 z3 z4 z5 z6 z7;go_upto_if 30 with (first
   |(go_at_call 96;refine (oF _ _).mono ?_;rintro e4 w4 ⟨rfl,rfl⟩)
   |(go_at_call 97;refine HPC.out.mono ?_;rintro e5 w5 ⟨rfl,rfl⟩))
  by_cases hpl:512≤cO s1 x.sn
  ·have D5:R=({s1 with due:=s1.due||x.po},[],0):=by rw[HR2.out];unfold L8;rw[if_pos hpl]
   have HR4:=ah D5;have agy:(512:Int)≤(cO s1 x.sn:Nat):=by omega
   clear HR2 D5;obtain ⟨_,_,_,_,_,_,_,_,_,CB,_⟩:=H3.out.cells;have f14:=H3.out.blk.frozen 14;have fo:=Ud.out.frozen 0;have fe:=Rm.out.frozen 0;have hk5:∀b9:Bool,Kept (fun k _=>k=g∨k=w.heap.size∨k=w.heap.size+1) w3 (((w3.setCell ⟨g,14,none⟩ (.bool b9)).setCell ⟨w.heap.size,0,none⟩ (.slice none 0 0)).setCell ⟨w.heap.size+1,0,none⟩ (.int .i64 0)):=fun b9=>(((Kept.refl _ w3).setCell (p:=⟨g,14,none⟩) (fun _ _=> .inl rfl) _).setCell (p:=⟨w.heap.size,0,none⟩) (fun _ _=> .inr (.inl rfl)) _).setCell (p:=⟨w.heap.size+1,0,none⟩) (fun _ _=> .inr (.inr rfl)) _
   have hbo:∀b9:Bool,au (((w3.setCell ⟨g,14,none⟩ (.bool b9)).setCell ⟨w.heap.size,0,none⟩ (.slice none 0 0)).setCell ⟨w.heap.size+1,0,none⟩ (.int .i64 0)) w.heap.size 37 #[.slice none 0 0]:=fun b9=>by
    have:=((Ud.out.far (p:=⟨g,14,none⟩) (by show w.heap.size≠g;omega) (.bool b9)).av 0 (.slice none 0 0)).far (p:=⟨w.heap.size+1,0,none⟩) (by simp) (.int .i64 0);simpa using this
   have hbe:∀b9:Bool,au (((w3.setCell ⟨g,14,none⟩ (.bool b9)).setCell ⟨w.heap.size,0,none⟩ (.slice none 0 0)).setCell ⟨w.heap.size+1,0,none⟩ (.int .i64 0)) (w.heap.size+1) 53 #[.int .i64 0]:=fun b9=>by
    have:=((Rm.out.far (p:=⟨g,14,none⟩) (by show w.heap.size+1≠g;omega) (.bool b9)).far (p:=⟨w.heap.size,0,none⟩) (by simp) (.slice none 0 0)).av 0 (.int .i64 0);simpa using this
   have hrc:gI (((w3.setCell ⟨g,14,none⟩ (.bool (s1.due||x.po))).setCell ⟨w.heap.size,0,none⟩ (.slice none 0 0)).setCell ⟨w.heap.size+1,0,none⟩ (.int .i64 0)) T g M n c {s1 with due:=s1.due||x.po} vo:=
    (H3.out.put 14 (.bool (s1.due||x.po)) (st':= {s1 with due:=s1.due||x.po}) rfl rfl rfl).far (((Kept.refl (fun k _=>k=w.heap.size∨k=w.heap.size+1) _).setCell (p:=⟨w.heap.size,0,none⟩) (fun _ _=> .inl rfl) _).setCell (p:=⟨w.heap.size+1,0,none⟩) (fun _ _=> .inr rfl) _) (fun k o hk=>HT0.out k (by omega))
   have hbg:g≠w.heap.size:=by omega
   have hkx:∀b9:Bool,Kept (MT T) w (((w3.setCell ⟨g,14,none⟩ (.bool b9)).setCell ⟨w.heap.size,0,none⟩ (.slice none 0 0)).setCell ⟨w.heap.size+1,0,none⟩ (.int .i64 0)):=fun b9=>jr.behind lX.out (hk5 b9) (fun k o hk e=>by
    have:=HTG.out;rcases e with rfl|e
    ·omega
    ·omega)
   have HBO:=ah hbo;have IB:=ah hbe;have Yf:=ah hrc;have HKX:=ah hkx;clear hk5 hbo hbe hrc hkx;cases hd:s1.due with
   |true=>
    rw[hd] at CB;rw[hd,Bool.true_or] at Yf HR4;clear hd;go_wp2;refine nO _ _ _ _ _ _ rfl rfl (HBO.out _) (IB.out _) ?_;rw[HR4.out];exact ⟨T,vo,_,n,rfl,Yf.out,by omega,fun _ _=>rfl,HKX.out _,fT.nil _ _ _⟩
   |false=>
    rw[hd] at CB;rw[hd,Bool.false_or] at Yf HR4;clear hd;go_wp2;refine nO _ _ _ _ _ _ rfl rfl (HBO.out _) (IB.out _) ?_;rw[HR4.out];exact ⟨T,vo,_,n,rfl,Yf.out,by omega,fun _ _=>rfl,HKX.out _,fT.nil _ _ _⟩
  ·have agy:¬(512:Int)≤(cO s1 x.sn:Nat):=by omega
   have D5:R=(if FV (jG s1 x.sn) x=true then (s1,[],9) else let D:=fB 1024 (qi s1 x (jG s1 x.sn));(L6 c D.1,D.2,0)):=by rw[HR2.out];unfold L8;rw[if_neg hpl]
   have HR4:=ah D5;have Bo:=ah hpl;obtain ⟨v9,S9,NF⟩:=H3.out.drew.look hsn;obtain ⟨nz,hnz⟩:∃nz,nz=(s1.m x.sn).isNone:=⟨_,rfl⟩
   have hq9:(binOp .eql 161 v9 (.pointer none)).run Tryz.prog w3.drew= .ok (.bool nz) w3.drew:=by
    rcases NF with ⟨hm,rfl⟩|⟨q,b,vf,vd,hm,rfl,_⟩
    ·rw[hnz,hm];rfl
    ·rw[hnz,hm];rfl
   have hqg:(eqGuard .eql 161 (.tmp 49) (.const (.pointer none)) v9 (.pointer none)).run Tryz.prog w3.drew= .ok () w3.drew:=by
    rcases NF with ⟨hm,rfl⟩|⟨q,b,vf,vd,hm,rfl,_⟩<;>rfl
   obtain ⟨_,_,x7,_⟩:=H3.out.cells;have Rn:=ah NF;have HNZ:=ah hnz;have M9:=ah M8;clear HR2 D5 hpl NF hnz M8;go_upto_region 10 with (fail)
   refine wp_region_still_tail 6 jZ (by kernel_rfl) ?_;simp only[List.take_succ_cons,List.take_zero,List.drop_succ_cons,List.drop_zero]
   repeat still_step
   refine wpStill_nil ?_;change wpList _ _ _ _ _ w3.drew;go_upto_if 50 with (fail)
   go_cut [9] from 30 to 137 (fun s9 wx=>∃b vf vd,s9= .pointer (some ⟨b,0,none⟩)∧oD wx b (jG s1 x.sn) vf vd∧((T b=0∧w3.heap.size≤b)∨T b=3*x.sn+4)∧(∀k,vf.ownBlock=some k→T k=3*x.sn+5)∧(∀k,vd.ownBlock=some k→T k=3*x.sn+6)∧Below w3.heap.size w3 wx)
   case first=>
    rcases Rn.out with ⟨hm,rfl⟩|⟨sp,b,vf,vd,hm,rfl,hs,t1,t2,t3⟩
    ·have hg0:jG s1 x.sn=FT:=by unfold jG;rw[hm];rfl
     obtain rfl:nz=true:=by rw[HNZ.out,hm];rfl
     have HG0:=ah hg0;clear hm hg0 Rn HNZ;go_wp2_with fail;go_meet;rw[HG0.out];exact ⟨w3.heap.size,.slice none 0 0,.slice none 0 0,rfl,⟨au.new w3.drew _ _,World.ownsRow_nil _ _ _ _,World.ownsRow_nil _ _ _ _⟩,.inl ⟨HT0.out _ (by have:=M9.out;omega),aN⟩,fun k e=>by simp[Value.ownBlock] at e,fun k e=>by simp[Value.ownBlock] at e,(Below.refl _ w3).drew.alloc (aN) _⟩
    ·have hg0:jG s1 x.sn=sp:=by unfold jG;rw[hm];rfl
     obtain rfl:nz=false:=by rw[HNZ.out,hm];rfl
     have HG0:=ah hg0;clear hm hg0 Rn HNZ;go_wp2_with fail;go_meet;rw[HG0.out];exact ⟨b,vf,vd,rfl,hs,.inr t1,t2,t3,(Below.refl _ w3).drew⟩
   case rest=>
   obtain ⟨b,vf,vd,rfl,hS,hbt,hvf,hvd,hbw⟩:=hcut;have M8:=M9.out;have D5:=H3.out.below hbw;have bo4:=Ud.out.below hbw Ud.out.lt;have Q7:=Rm.out.below hbw Rm.out.lt;have bx4:=BX3.out.below hbw BX3.out.lt;have hk4:=jr.behind lX.out (Kept.of_below hbw) (fun k o hk e=>by have:=hbw.size;omega);obtain ⟨A5,c5,vs5,hv5,ab8,hla,hlv⟩:=Ye.out.lie;cases hv5;have hz4:=hbw.size;have hbl:=hS.blk.lt;have hsp:=HO.out.get x.sn;have hpt:∀W,(∀k,w1.heap.size≤k→k<w3.heap.size→W.heap[k]? =w3.heap[k]?)→iO W W.heap.size A3 x.ps.length c3 vs5 x.ps:=fun W hW=>ab8.stay (fun ad e=>hW _ (hla ad e).1 (hla ad e).2) (fun i u ad e1 e2=>hW _ (hlv i u ad e1 e2).1 (hlv i u ad e1 e2).2)
   have htk:=M5 b (jG s1 x.sn) vf vd x A3 c3 vs5 wc hS hsp (hpt wc fun k _ hk=>hbw.block k hk) HX.out.len HX.out.pos HX.out.sum (fun W hW=>hpt W fun k hk1 hk2=>by
    have e1:=hbw.block k hk2;have e2:wc.heap[k]? =some (wc.heap[k]'(by omega)):=Array.getElem?_eq_getElem (by omega);rw[←e1,e2];refine hW.same k _ e2 fun hm=> ?_
    have h0:=HT0.out k (by omega);rcases hm with e|e|e
    ·subst e;omega
    ·have:=hvf k e;omega
    ·have:=hvd k e;omega)
   have Jv:=ah htk;have wN:=ah D5;have Vn:=ah hS;have rD:=ah hk4;have C9:=ah hbt;have Y4:=ah hvf;have Y5:=ah hvd;obtain ⟨z0,z1,z2,z3,z4,z5,z6,z7⟩:=bx4.eight;have c3o:=bo4.cell 0;have c3e:=Q7.cell 0;simp at c3o c3e;have BO5:=ah bo4;have BE5:=ah Q7;have BX5:=ah bx4;clear htk hpt ab8 hla hlv hS hbt hvf hvd hbw D5 bo4 Q7 bx4 hk4 Ye H3 lX Ud Rm BX3;unfold bH at Jv;clear M8;go_wp2_with fail;refine Jv.out.mono ?_;intro e6 w6 Y6;by_cases hbd:FV (jG s1 x.sn) x=true
   ·unfold Aa at Y6;rw[if_pos hbd] at Y6;obtain ⟨rfl,hb6⟩:=Y6;have pJ:R=(s1,[],9):=by rw[HR4.out,if_pos hbd]
    refine zZ _ _ _ _ _ _ _ rfl rfl (by omega) (BO5.out.below hb6 BO5.out.lt) (BE5.out.below hb6 BE5.out.lt) fun W' hW=> ?_
    rw[pJ];exact ⟨T,vo,_,n,rfl,(wN.out.below hb6).far hW (fun k o hk=>HT0.out k (by omega)),by omega,fun _ _=>rfl,jr.behind (jr.behind rD.out (Kept.of_below hb6) (fun k o hk e=>by have:=rD.out.size;omega)) hW (fun k o hk e=>by omega),fT.nil _ _ _⟩
   ·unfold Aa at Y6;rw[if_neg hbd] at Y6;obtain ⟨rfl,kR,kK,nA,hf6,hd6,lg⟩:=Y6;have pJ:R=((L6 c (fB 1024 (qi s1 x (jG s1 x.sn))).1),(fB 1024 (qi s1 x (jG s1 x.sn))).2,0):=by rw[HR4.out,if_neg hbd]
    have hnk:∀k,T k=0→k<w3.heap.size→¬UT b vf vd k (.map #[] 0):=fun k h0 hl hm=>by
     rcases hm with e|e|e
     ·subst e;rcases C9.out with e|e
      ·omega
      ·omega
     ·have:=Y4.out k e;omega
     ·have:=Y5.out k e;omega
    have M8:=M9.out;have hga:=HTG.out;have bo6:=BO5.out.kept lg (hnk _ (HT0.out _ (aN)) (by omega));have NH:=BE5.out.kept lg (hnk _ (HT0.out _ (by omega)) (by omega));have bx6:=BX5.out.kept lg (hnk _ (HT0.out _ (by omega)) (by omega));have Rl:¬UT b vf vd g (.map #[] 0):=fun hm=>by
     rcases hm with e|e|e
     ·subst e;rcases C9.out with e|e<;>omega
     ·have:=Y4.out g e;omega
     ·have:=Y5.out g e;omega
    have Wy:=wN.out.blk.kept lg Rl;have x7:w6.cell? ⟨g,7,none⟩=some (.map (some M)):=Wy.cell 7;have Y2:=wN.out.tM;obtain ⟨F,hF,hFm⟩:=wN.out.mp;have K5:iq Tryz.prog 3 w6.drew M n F:=hF.same (by
     have e2:wc.heap[M]? =some (wc.heap[M]'(wN.out.lt M (by omega))):=Array.getElem?_eq_getElem _;show w6.heap[M]? =wc.heap[M]?
     rw[e2];refine lg.same M _ e2 fun hm=> ?_
     rcases hm with e|e|e
     ·subst e;rcases C9.out with e|e<;>omega
     ·have:=Y4.out M e;omega
     ·have:=Y5.out M e;omega)
    have xU:=jr.behind rD.out lg (fun k o hk e=>by
     rcases e with e|e|e
     ·subst e;rcases C9.out with e|e<;>omega
     ·have:=Y4.out k e;omega
     ·have:=Y5.out k e;omega)
    clear z0 z1 z2 z3 z4 z5 z6 z7 c3o c3e;have z0:w6.cell? ⟨p,0,none⟩=some (.int .i64 (x.sn:Nat)):=bx6.cell 0;have HF7:=ah hFm;have HS7:=ah nA;have ab9:=ah hf6;have acd:=ah hd6;have tF:=ah lg;have NA:=ah xU;have UI:=ah pJ;have BO7:=ah bo6;have BE7:=ah NH;have BX7:=ah bx6;have Rj:=ah K5;clear hFm nA hf6 hd6 lg xU pJ bo6 NH bx6 hF K5 hnk Rl Wy M8 Jv;go_upto_region 14 with (fail)
    refine wp_region_still_tail 7 jZ (by kernel_rfl) ?_;simp only[List.take_succ_cons,List.take_zero,List.drop_succ_cons,List.drop_zero]
    repeat still_step
    refine wpStill_nil ?_;change wpList _ _ _ _ _ w6.drew;refine vU _ rfl _ _ _ 128 rfl 3 161 uw xY M n F rfl Rj.out hn x.sn rfl (by omega) (.pointer (some ⟨b,0,none⟩)) rfl ?_;intro w8 hF8 Sf;obtain ⟨T8,hR8,hT8,acf⟩:=wN.out.stored (W':=w6.drew) hbl (by rcases C9.out with e|e<;>omega) Y4.out Y5.out (HS7.out.stay rfl (fun _ _=>rfl) (fun _ _=>rfl)) ab9.out acd.out tF.out.drew HF7.out hF8 Sf;have hbz:b≠w.heap.size∧b≠w.heap.size+1∧b≠p:=by
     have q0:=HT0.out w.heap.size (aN);have q1:=HT0.out (w.heap.size+1) (by omega);have q2:=HT0.out p (by omega);have q3:=M9.out;refine ⟨fun e=> ?_,fun e=> ?_,fun e=> ?_⟩<;>subst e<;>rcases C9.out with e|e<;>omega
    have hM8:∀k,T k=0→some k≠some M:=fun k hk e=>by cases e;omega
    have hw3:=M9.out;have hpp:Uc w T T8 g M (n+1) c p #[.int .i64 (x.sn:Nat),.bool x.po,.bool x.sg,.bool x.la,.int .i64 (x.off:Nat),.bool x.s,.bool x.e,.slice A3 x.ps.length c3] w8 {s1 with m:=kG s1.m x.sn (some (iH (jG s1 x.sn) x))} vo:=by
     refine ⟨hR8,BO7.out.drew.grown Sf (hM8 _ (HT0.out _ (aN))),BE7.out.drew.grown Sf (hM8 _ (HT0.out _ (by omega))),BX7.out.drew.grown Sf (hM8 _ (HT0.out _ (by omega))),NA.out.drew.grown Sf (fun k e o ho=>by cases e;unfold MT;omega),fun k hk=> ?_,?_,?_,?_⟩
     ·by_cases e:k=b
      ·subst e;rcases C9.out with e|e
       ·omega
       ·exact acf (by omega)
      ·exact hT8 k (by omega) e
     ·exact (hT8 _ (by omega) (Ne.symm hbz.1)).trans (HT0.out _ (aN))
     ·exact (hT8 _ (by omega) (Ne.symm hbz.2.1)).trans (HT0.out _ (by omega))
     ·exact (hT8 _ (by omega) (Ne.symm hbz.2.2)).trans (HT0.out _ (by omega))
    have hos:=HO.out.T6 HX.out (by have:=Bo.out;omega);have HP8:=ah hpp;have HOS:=ah hos;obtain ⟨_,_,_,_,_,_,_,_,_,CB,_⟩:=hR8.cells;have f14:=hR8.blk.frozen 14;obtain ⟨z0,z1,_⟩:=hpp.bx.eight;clear hpp hos hM8 hw3 hbz hT8 acf hR8 hF8 Sf BO7 BE7 BX7 NA Rj HF7 HS7 ab9 acd tF C9 Y4 Y5 wN Vn rD BO5 BE5 BX5 x7 hga Y2 hz4 hbl hsp;go_upto_region 15 with (fail)
    simp only[Act.put];go_cut [] from 30 to 137 (fun wx=>wx=w8.setCell ⟨g,14,none⟩ (.bool (s1.due||x.po)))
    case first=>
     cases hd:s1.due with
     |true=>
      rw[hd] at CB;have HD:=ah hd;clear hd;go_wp2;go_meet;rw[HD.out];rfl
     |false=>
      rw[hd] at CB;have HD:=ah hd;clear hd;go_wp2;go_meet;rw[HD.out];rfl
    case rest=>
    have h9:=HP8.out.put 14 (.bool (s1.due||x.po)) (s':= {s1 with m:=kG s1.m x.sn (some (iH (jG s1 x.sn) x)),due:=s1.due||x.po}) rfl rfl rfl;rw[←hcut] at h9;have Wu:=ah h9;clear hcut h9 CB f14 z0 z1 HP8;have hpc:∀(q sn:Nat),sn≤1023→Calls Tryz.prog 97 #[.pointer (some ⟨g,0,none⟩),.int .i64 sn] (wc.drewN q) fun e w'=>e= .returned (.int .i64 (cO s1 sn:Nat))∧wc.drewN q=w':=fun q sn hs=>wP (wc.drewN q) s1.next sn (Wu.out.rc.drewN q).cells.2.2.2.1 HO.out.n1 hs
    have hhi:=HO.out.n3;have ach:=fun q:Nat=>Wu.out.below ((Below.refl _ wc).drewN q)
    have aci:=ah hpc;have HWD:=ah ach;obtain ⟨_,_,_,y8,_,AU,_⟩:=Wu.out.rc.cells;obtain ⟨z0,_⟩:=Wu.out.bx.eight;clear hpc ach Wu M9 HNZ Rn hqg hq9 S9 Bo HPC wG H2 HB2 HT0 HR4;go_upto_region 16 with (fail)
    go_quiet ((go_at_call 97;exact Calls.quiet_of_same ((aci.out _ _ (by omega)).mono fun _ _ hh=>⟨hh.1,hh.2.symm⟩)))
    have hP:=HWD.out nq;generalize wc.drewN nq=OO at*;have Yg:=ah hP;obtain ⟨_,_,_,y8,_,AU,_⟩:=hP.rc.cells;obtain ⟨z0,_⟩:=hP.bx.eight;have f10:=hP.rc.blk.frozen 10;clear hP HWD aci;go_upto_if 84 with (fail)
    go_cut [] from 30 to 137 (fun wx=>Uc w T T8 g M (n+1) c p #[.int .i64 (x.sn:Nat),.bool x.po,.bool x.sg,.bool x.la,.int .i64 (x.off:Nat),.bool x.s,.bool x.e,.slice A3 x.ps.length c3] wx {s1 with m:=kG s1.m x.sn (some (iH (jG s1 x.sn) x)),due:=s1.due||x.po,high:=if cO s1 s1.high≤cO s1 x.sn then fJ x.sn else s1.high} vo)
    case first=>
     by_cases hh:cO s1 s1.high≤cO s1 x.sn
     ·have E5:(cO s1 s1.high:Int)≤(cO s1 x.sn:Int):=by omega
      have hand:bits BinOp.and IntKind.i64 ((x.sn:Int)+1) 1023=((fJ x.sn:Nat):Int):=by rw[qj];unfold fJ;omega
      have HH:=ah hh;clear hh;go_wp2_with fail;go_meet;rw[if_pos HH.out];exact Yg.out.put 10 (.int .i64 (fJ x.sn:Nat)) rfl rfl rfl
     ·have E5:¬(cO s1 s1.high:Int)≤(cO s1 x.sn:Int):=by omega
      have HH:=ah hh;clear hh;go_wp2_with fail;go_meet;rw[if_neg HH.out];exact Yg.out
    case rest=>
    have Vp:dP {s1 with m:=kG s1.m x.sn (some (iH (jG s1 x.sn) x)),due:=s1.due||x.po,high:=if cO s1 s1.high≤cO s1 x.sn then fJ x.sn else s1.high}:=⟨HO.out.n1,HO.out.n2,HOS.out.n3,HO.out.n4,HOS.out.m,HO.out.op,HO.out.t1,HO.out.t2⟩;have hfr:=Cz hcut.rc Vp s1.status HO.out.n2;have K8:=ah hfr;have acj:=ah hcut;obtain ⟨_,_,_,_,y9,_⟩:=hcut.rc.cells;clear hfr hcut Vp y8 AU z0 f10 Yg
    replace y9:wc.cell? ⟨g,9,none⟩=some (.int .i64 (s1.status:Nat)):=y9
    go_upto_region 18 with (fail)
    go_cut [] from 30 to 137 (fun wx=>Uc w T T8 g M (n+1) c p #[.int .i64 (x.sn:Nat),.bool x.po,.bool x.sg,.bool x.la,.int .i64 (x.off:Nat),.bool x.s,.bool x.e,.slice A3 x.ps.length c3] wx (qi s1 x (jG s1 x.sn)) vo)
    case first=>
     go_wp2_with (go_at_call 99;refine K8.out.mono ?_;rintro e12 w12 ⟨rfl,acm⟩;have h12:=acj.out.below acm;have f9:=h12.rc.blk.frozen 9;have c9:=h12.rc.cells.2.2.2.2.1;have H12:=ah h12;clear h12 acm);go_meet;exact H12.out.put 9 _ rfl rfl rfl
    case rest=>
    have hdl:=EF hcut.rc HOS.out;have zl:=ah hdl;have xN:=ah hcut;have fo:=hcut.bo.frozen 0;have co:=hcut.bo.cell 0;simp at co;clear hdl hcut y9 K8 acj;go_upto_region 19 with (fail)
    go_cut [] from 30 to 137 (fun wx=>∃T9 Xn v9,M7 w T T9 g M (n+1) c v9 (fB 1024 (qi s1 x (jG s1 x.sn))).2 wx (fB 1024 (qi s1 x (jG s1 x.sn))).1 Xn)
    case first=>
     go_wp2_with (go_at_call 100;refine zl.out.mono ?_;rintro e13 w13 ⟨T9,Xn,v9',rfl,Bp,hT9,KP,YX⟩;have hsl:∃A9 k9 c9,v9'= .slice A9 k9 c9:=(by obtain ⟨vs9,hr9,_⟩:=YX;obtain ⟨A9,c9,e9,_⟩:=bq hr9;exact ⟨A9,_,c9,e9⟩);obtain ⟨A9,k9,c9,rfl⟩:=hsl;have Ue:=xN.out.bo.kept KP (fun hm=>hm xN.out.t0);have f13:=Ue.frozen 0;have c13:=Ue.cell 0;simp at c13;have HA:=ah Bp;have HB:=ah hT9;have HC:=ah KP;have HD:=ah YX;have HE:=ah Ue;clear Bp hT9 KP YX Ue);go_meet;have hl12:=xN.out.bo.lt;have acn:=xN.out.be.lt;have z9:T9 w.heap.size=0:=(HB.out _ hl12).trans xN.out.t0;have z9b:T9 (w.heap.size+1)=0:=(HB.out _ acn).trans xN.out.t1;have hset:Kept (fun k _=>k=w.heap.size) w13 (w13.setCell ⟨w.heap.size,0,none⟩ (.slice A9 k9 c9)):=(Kept.refl _ w13).setCell (p:=⟨w.heap.size,0,none⟩) (fun _ _=>rfl) _;refine ⟨T9,Xn,.slice A9 k9 c9,HA.out.far hset (fun k o e=>by rw[e];exact z9),by simpa using HE.out.av 0 (.slice A9 k9 c9),(xN.out.be.kept HC.out (fun hm=>hm xN.out.t1)).kept hset (by simp),jr.behind (jr.behind xN.out.kp HC.out (fun k o hk e=>by rw[←xN.out.tt k hk];exact e)) hset (fun k o hk e=>by omega),fun k hk=>(HB.out k (by omega)).trans (xN.out.tt k hk),z9,z9b,?_⟩;exact (HD.out.over fun k hk=>Below.heap_setCell w13 ⟨w.heap.size,0,none⟩ (.slice A9 k9 c9) k (by show k≠w.heap.size;omega)).wD (by omega)
    case rest=>
    obtain ⟨T9,Xn,v9',h9⟩:=hcut;have Qu:=HOS.out.Dh 1024;have Bp:=UI.out;generalize fB 1024 (qi s1 x (jG s1 x.sn))=D at*;obtain ⟨s9,outs⟩:=D;dsimp only at h9 Qu Bp;have Cv:=ah Bp;have Uf:=ah h9;have GV:=ah Qu;have hpc:=zu h9.rc Qu s9.jM Qu.n4;have HPC:=ah hpc;obtain ⟨_,_,_,_,_,_,_,sP,_⟩:=h9.rc.cells;have f11:=h9.rc.blk.frozen 11;have PU:=h9.rc.cells.2.2.2.2.2.2.1;clear h9 Qu Bp hpc zl xN fo co UI HOS;go_upto_region 21 with (go_at_call 97;refine HPC.out.mono ?_;rintro e14 w14 ⟨rfl,rfl⟩)
    go_cut [114] from 30 to 137 (fun agE wx=>agE= .bool (decide (cO s9 s9.jM=0∨512<cO s9 s9.jM))∧wx=wc)
    case first=>
     generalize cO s9 s9.jM=pt at*;by_cases e0:pt=0
     ·subst e0;go_wp2;go_meet;exact ⟨by simp,rfl⟩
     ·have d0:((pt:Int)==0)=false:=by simp;omega
      have HD0:=ah e0;clear e0;go_wp2
      all_goals
       go_meet;refine ⟨congrArg Value.bool ?_,rfl⟩;rw[Bool.eq_iff_iff];simp only[decide_eq_true_eq];have:=HD0.out;omega
    case rest=>
    obtain ⟨rfl,rfl⟩:=hcut;obtain ⟨s10,Ae⟩:∃s10,s10=(if cO s9 s9.jM=0∨512<cO s9 s9.jM then {s9 with ro:=false} else s9):=⟨_,rfl⟩
    have hRR:R=(if s10.ro=false∧s10.high≠s10.next then vQ c s10 else s10,outs,0):=by rw[Cv.out,Ae];rfl
    have HRR:=ah hRR;have Ug:=ah Ae;have HPW:=Uf;clear hRR Ae HPC Cv sP;go_upto_if 114 with (fail)
    go_cut [] from 30 to 137 (fun wx=>M7 w T T9 g M (n+1) c v9' outs wx s10 Xn)
    case first=>
     by_cases hc:cO s9 s9.jM=0∨512<cO s9 s9.jM
     ·have Ae:=Ug.out;rw[if_pos hc] at Ae;have HC:=ah Ae;have dd:decide (cO s9 s9.jM=0∨512<cO s9 s9.jM)=true:=decide_eq_true hc;clear Ae hc;rw[dd];go_wp2_with fail;go_meet;rw[HC.out];exact Uf.out.put 11 (.bool false) rfl rfl rfl
     ·have Ae:=Ug.out;rw[if_neg hc] at Ae;have HC:=ah Ae;have dd:decide (cO s9 s9.jM=0∨512<cO s9 s9.jM)=false:=decide_eq_false hc;clear Ae hc;rw[dd];go_wp2_with fail;go_meet;rw[HC.out];exact Uf.out
    case rest=>
    have Vq:dP s10:=by
     rw[Ug.out];split
     ·exact ⟨GV.out.n1,GV.out.n2,GV.out.n3,GV.out.n4,GV.out.m,GV.out.op,GV.out.t1,GV.out.t2⟩
     ·exact GV.out
    obtain ⟨A9,k9,c9,rfl⟩:∃A9 k9 c9,v9'= .slice A9 k9 c9:=by
     obtain ⟨vs9,hr9,_⟩:=hcut.out;obtain ⟨A9,c9,e9,_⟩:=bq hr9;exact ⟨A9,_,c9,e9⟩
    obtain ⟨_,_,_,y8,_,AU,aco,_⟩:=hcut.rc.cells;have Yh:=ah hcut;have acp:=ah Vq;clear hcut Vq PU f11 Uf HPW Ug GV;cases hro:s10.ro with
    |true=>
     have hRR:=HRR.out;rw[if_neg (by rw[hro];simp)] at hRR;rw[hro] at aco;have HR2:=ah hRR;clear hRR hro HRR;go_upto_region 23 with (fail)
     go_quiet (fail)
     have hX:=Yh.out.drewN nq;generalize wc.drewN nq=wz at*;have fo:=hX.bo.frozen 0;have co:=hX.bo.cell 0;have fe:=hX.be.frozen 0;have ce:=hX.be.cell 0;simp at co ce;have PX:=ah hX;clear hX;go_wp2;obtain ⟨q1,q2,q3⟩:=PX.out.fin;refine nO _ _ _ _ _ _ rfl rfl q1 q2 ?_;rw[HR2.out];exact q3
    |false=>
     rw[hro] at aco;by_cases hne:s10.high=s10.next
     ·have hRR:=HRR.out;rw[if_neg (by rw[hne];simp)] at hRR;have d2:((s10.high:Int) !=(s10.next:Int))=false:=by simp;omega
      have HR2:=ah hRR;clear hRR hro HRR hne;go_upto_region 23 with (fail)
      go_quiet (fail)
      have hX:=Yh.out.drewN nq;generalize wc.drewN nq=wz at*;have fo:=hX.bo.frozen 0;have co:=hX.bo.cell 0;have fe:=hX.be.frozen 0;have ce:=hX.be.cell 0;simp at co ce;have PX:=ah hX;clear hX;go_wp2;obtain ⟨q1,q2,q3⟩:=PX.out.fin;refine nO _ _ _ _ _ _ rfl rfl q1 q2 ?_;rw[HR2.out];exact q3
     ·have hRR:=HRR.out;rw[if_pos ⟨hro,hne⟩] at hRR;have d2:((s10.high:Int) !=(s10.next:Int))=true:=by simp;omega
      have HR2:=ah hRR;clear hRR hro HRR hne;go_upto_region 23 with (fail)
      go_quiet (fail)
      have hX:=Yh.out.drewN nq;have hwt:=zx hX.rc acp.out HCF.out.r1 (by have:=HCF.out.r2;omega);have HWT:=ah hwt;have Ri:=ah hX;clear hX hwt;generalize wc.drewN nq=wy at*;go_upto_region 25 with (go_at_call 101;refine HWT.out.mono ?_;rintro e15 wz ⟨rfl,h15,acr⟩)
      have hX:=Ri.out.turn h15 acr;have fo:=hX.bo.frozen 0;have co:=hX.bo.cell 0;have fe:=hX.be.frozen 0;have ce:=hX.be.cell 0;simp at co ce;have PX:=ah hX;clear hX h15 acr;go_wp2;obtain ⟨q1,q2,q3⟩:=PX.out.fin;refine nO _ _ _ _ _ _ rfl rfl q1 q2 ?_;rw[HR2.out];exact q3
end
end
end Go.Proofs.YtbhiklnljiehiaaGreat
