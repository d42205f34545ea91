/- amrecv: Receive. amrecv: State, Pending, Tick; the methods of no receiver. New: the check of a configuration, the constructor. -/
import Derived.Test.YtiecgfahidpldaaGreatM0ag
import Derived.Test.YtiecgfahidpldaaGreatM0ah
import Derived.Test.YtiecgfahidpldaaGreatM0ak
import Derived.Test.YtiecgfahidpldaaGreatM0am
import Derived.StillTailTactics
namespace Go.Proofs.YtiecgfahidpldaaGreat
section
open Go.RowKit Go.Shelf
attribute [local go_sem] Oper.semAt_some
section
variable {w w' W W':World} {T T':Nat→Nat} {g M n:Nat} {c:Cf} {st:Rc} {vo v:Value}
def BN (w:World) (T:Nat→Nat) (g M n:Nat) (c:Cf) (R:Rc × List (List UInt8) × Nat) (e:Ending) (w':World):Prop:=
 ∃T' Di v n',e= .returned (.tuple #[v,.int .i64 (R.2.2:Nat)])∧bO w' T' g M n' c R.1 Di∧n'≤n+1∧(∀k,k<w.heap.size→T' k=T k)∧Kept (MT T) w w'∧bQ w' w.heap.size T' v R.2.1
theorem bO.zero (h:bO w T g M n c st vo) {k:Nat} (hk:w.heap.size≤k):T k=0:=by
 rcases Nat.eq_zero_or_pos (T k) with e|e
 ·exact e
 ·have:=h.lt k (by omega);omega
theorem dm.behind {Q:Nat→Obj→Prop} (h:Kept (MT T) w W) (h2:Kept Q W W') (hq:∀k o,k<w.heap.size→Q k o→T k≠0):Kept (MT T) w W':=
 ⟨h2.os.trans h.os,h2.tape.trans h.tape,h2.output.trans h.output,Nat.le_trans h.size h2.size,fun i o hi hn=>h2.same i o (h.same i o hi hn) (fun hm=>hn (hq i o (lt_of_heap hi) hm))⟩
theorem aX.lie {base:Nat} {x:Value} {ps:List (List UInt8)} (h:aX w base x ps):∃A c vs,x= .slice A ps.length c∧eH w w.heap.size A ps.length c vs ps∧(∀ad,A=some ad→base≤ad.block∧ad.block<w.heap.size)∧∀(i:Nat) u ad,vs[i]? =some u→MJ u=some ad→base≤ad.block∧ad.block<w.heap.size:=by
 obtain ⟨vs,g,cap,data,h1,h2,h3⟩:=h;obtain ⟨A,c,rfl,hs,_⟩:=aK h1;have hl:=h1.1;refine ⟨A,c,vs,rfl,⟨hs,rfl,fun i p hi=> ?_⟩,fun ad e=>h1.lt ad.block (by rw[e];rfl),fun i u ad hu e=> ?_⟩
 ·obtain ⟨off,ci,e,hc1,hc2,hp⟩:=h3 i p hi;refine ⟨_,ci,e,⟨by simp,hc1,hc2,fun hpos=>⟨_,rfl,(h2.lt g rfl).2,fun j u hu=> ?_⟩⟩⟩;have hj:j<p.length:=by
   have:=(List.getElem?_eq_some_iff.1 hu).1;simpa using this
  have hcell:=h2.cells (g:=g) rfl (off+j) u (by
   unfold bE at hu ⊢;rw[List.getElem?_map] at hu ⊢;rw[hp,List.getElem?_take,if_pos hj,List.getElem?_drop] at hu;exact hu)
  have e2:(⟨g,off,none⟩:Addr).add j=(⟨g,0,none⟩:Addr).add (off+j):=by
   unfold Addr.add;by_cases hj0:j=0
   ·subst hj0;by_cases ho:off=0
    ·simp[ho]
    ·simp[ho]
   ·simp[hj0]
  rw[e2];exact hcell
 ·have hi:=(List.getElem?_eq_some_iff.1 hu).1;obtain ⟨off,ci,e2,_⟩:=h3 i _ (List.getElem?_eq_getElem (by omega));rw[hu] at e2;cases e2;cases e;exact h2.lt g rfl
structure AQ (w:World) (T0 T:Nat→Nat) (g M n:Nat) (c:Cf) (p:Nat) (X:Array Value) (W:World) (s:Rc) (vo:Value):Prop where
 rc:bO W T g M n c s vo
 bo:av W w.heap.size 34 #[.slice none 0 0]
 be:av W (w.heap.size+1) 35 #[.int .i64 0]
 bx:av W p 72 X
 kp:Kept (MT T0) w W
 tt:∀k,k<w.heap.size→T k=T0 k
 t0:T w.heap.size=0
 t1:T (w.heap.size+1)=0
 t2:T p=0
theorem AQ.put {T0:Nat→Nat} {p:Nat} {X:Array Value} {s s':Rc} (h:AQ w T0 T g M n c p X W s vo) (i:Nat) (u:Value) (he:(vM c M vo s).setIfInBounds i u=vM c M vo s') (hm:s'.m=s.m) (ho:s'.op=s.op):AQ w T0 T g M n c p X (W.setCell ⟨g,i,none⟩ u) s' vo:=by
 have hg:=h.rc.tg;have h0:=h.t0;have h1:=h.t1;have h2:=h.t2;exact ⟨h.rc.put i u he hm ho,h.bo.far (p:=⟨g,i,none⟩) (fun (e:w.heap.size=g)=>by rw[e] at h0;omega) u,h.be.far (p:=⟨g,i,none⟩) (fun (e:w.heap.size+1=g)=>by rw[e] at h1;omega) u,h.bx.far (p:=⟨g,i,none⟩) (fun (e:p=g)=>by rw[e] at h2;omega) u,
  dm.behind h.kp ((Kept.refl (fun k _=>k=g) W).setCell (p:=⟨g,i,none⟩) (fun _ _=>rfl) u) (fun k o hk e=>by have:=h.tt k hk;subst e;omega),h.tt,h0,h1,h2⟩
theorem AQ.below {T0:Nat→Nat} {p:Nat} {X:Array Value} {s:Rc} (h:AQ w T0 T g M n c p X W s vo) (hb:Below W.heap.size W W'):AQ w T0 T g M n c p X W' s vo:=
 ⟨h.rc.below hb,h.bo.below hb h.bo.lt,h.be.below hb h.be.lt,h.bx.below hb h.bx.lt,dm.behind h.kp (Kept.of_below hb) (fun k o hk e=>by have:=h.kp.size;omega),h.tt,h.t0,h.t1,h.t2⟩
theorem bQ.over {base:Nat} {outs:List (List UInt8)} (h:bQ W base T v outs) (hk:∀k,base≤k→W'.heap[k]? =W.heap[k]?):bQ W' base T v outs:=by
 obtain ⟨vs,h1,h2,h3⟩:=h;exact ⟨vs,aN h1 fun k e=>hk k (h1.lt k e).1,h2,fun i q hi=>let ⟨vi,e,ho,ht⟩:=h3 i q hi;⟨vi,e,aN ho fun k e=>hk k (ho.lt k e).1,ht⟩⟩
structure wF (w:World) (T0 T:Nat→Nat) (g M n:Nat) (c:Cf) (v:Value) (outs:List (List UInt8)) (W:World) (s:Rc) (vo:Value):Prop where
 rc:bO W T g M n c s vo
 bo:av W w.heap.size 34 #[v]
 be:av W (w.heap.size+1) 35 #[.int .i64 0]
 kp:Kept (MT T0) w W
 tt:∀k,k<w.heap.size→T k=T0 k
 t0:T w.heap.size=0
 t1:T (w.heap.size+1)=0
 out:bQ W w.heap.size T v outs
theorem wF.turn {T0:Nat→Nat} {outs:List (List UInt8)} {s s':Rc} (h:wF w T0 T g M n c v outs W s vo) (hr:bO W' T g M n c s' vo) (hk:Kept (MT T) W W'):wF w T0 T g M n c v outs W' s' vo:=
 ⟨hr,h.bo.kept hk (fun hm=>hm h.t0),h.be.kept hk (fun hm=>hm h.t1),dm.behind h.kp hk (fun k o hl e=>by rw[←h.tt k hl];exact e),h.tt,h.t0,h.t1,h.out.stay hk fun _ _=>rfl⟩
theorem wF.put {T0:Nat→Nat} {outs:List (List UInt8)} {s s':Rc} (h:wF w T0 T g M n c v outs W s vo) (i:Nat) (u:Value) (he:(vM c M vo s).setIfInBounds i u=vM c M vo s') (hm:s'.m=s.m) (ho:s'.op=s.op):wF w T0 T g M n c v outs (W.setCell ⟨g,i,none⟩ u) s' vo:=
 h.turn (h.rc.put i u he hm ho) ((Kept.refl _ W).setCell (p:=⟨g,i,none⟩) (fun o _=>by show T g≠0;rw[h.rc.tg];omega) u)
theorem wF.drewN {T0:Nat→Nat} {outs:List (List UInt8)} {s:Rc} (h:wF w T0 T g M n c v outs W s vo) (q:Nat):wF w T0 T g M n c v outs (W.drewN q) s vo:=h.turn (h.rc.drewN q) ((Kept.refl _ W).drewN q)
theorem wF.fin {T0:Nat→Nat} {outs:List (List UInt8)} {s:Rc} (h:wF w T0 T g M (n+1) c v outs W s vo):
 av ((W.setCell ⟨w.heap.size,0,none⟩ v).setCell ⟨w.heap.size+1,0,none⟩ (.int .i64 0)) w.heap.size 34 #[v]∧av ((W.setCell ⟨w.heap.size,0,none⟩ v).setCell ⟨w.heap.size+1,0,none⟩ (.int .i64 0)) (w.heap.size+1) 35 #[.int .i64 0]∧
 BN w T0 g M n c (s,outs,0) (.returned (.tuple #[v,.int .i64 0])) ((W.setCell ⟨w.heap.size,0,none⟩ v).setCell ⟨w.heap.size+1,0,none⟩ (.int .i64 0)):=by
 have hk:Kept (fun k _=>k=w.heap.size∨k=w.heap.size+1) W ((W.setCell ⟨w.heap.size,0,none⟩ v).setCell ⟨w.heap.size+1,0,none⟩ (.int .i64 0)):=((Kept.refl _ W).setCell (p:=⟨w.heap.size,0,none⟩) (fun _ _=> .inl rfl) _).setCell (p:=⟨w.heap.size+1,0,none⟩) (fun _ _=> .inr rfl) _;have hb:=(h.bo.aF 0 v).far (p:=⟨w.heap.size+1,0,none⟩) (by simp) (.int .i64 0);have he:=(h.be.far (p:=⟨w.heap.size,0,none⟩) (by simp) v).aF 0 (.int .i64 0);simp at hb he;refine ⟨hb,he,T,vo,v,n+1,rfl,h.rc.far hk (fun k o e=> ?_),Nat.le_refl _,h.tt,dm.behind h.kp hk (fun k o hk e=>by omega),?_⟩
 ·rcases e with e|e
  ·rw[e];exact h.t0
  ·rw[e];exact h.t1
 ·
  obtain ⟨vs,h1,h2,h3⟩:=h.out;have hne:∀{e:TypeId} {y:Value} {k:Nat} {xs:List Value},W.ownsRow w.heap.size e 1 y k xs→(e=22∨e=5)→∀j,y.ownBlock=some j→((W.setCell ⟨w.heap.size,0,none⟩ v).setCell ⟨w.heap.size+1,0,none⟩ (.int .i64 0)).heap[j]? =W.heap[j]? :=fun {e y k xs} hy ht j hj=>by
   have n1:j≠w.heap.size:=fun e2=>by
    subst e2;exact au hy h.bo (by rcases ht with rfl|rfl<;>decide) hj
   have n2:j≠w.heap.size+1:=fun e2=>by
    subst e2;exact au hy h.be (by rcases ht with rfl|rfl<;>decide) hj
   rw[Below.heap_setCell _ _ _ j n2,Below.heap_setCell _ _ _ j n1]
  exact ⟨vs,aN h1 (hne h1 (.inl rfl)),h2,fun i q hi=>let ⟨vi,e,ho,ht⟩:=h3 i q hi;⟨vi,e,aN ho (hne ho (.inr rfl)),ht⟩⟩
set_option maxRecDepth 100000 in
set_option maxHeartbeats 8000000 in
theorem qg (h:bO w T g M n c st vo) (ho:aM st) (hcf:zn c) (hn:n<maxLen) (now:Int) (gJ:now≤9223372036854775807) (A:Option Addr) (l cp:Nat) (bs:List UInt8) (hA:∀W,Kept (MT T) w W→Sl W W.heap.size A l cp (bE bs)) (hsm:l≤1000000):
 Calls Tryz.prog 8 #[.pointer (some ⟨g,0,none⟩),.int .i64 now,.slice A l cp] w (BN w T g M n c (bI c st now bs)):=by
 obtain ⟨R,hR⟩:∃R,R=bI c st now bs:=⟨_,rfl⟩
 rw[←hR];have fq:Tryz.prog.follows .mixedOrders=true:=by kernel_rfl
 have NM:∀k,w.heap.size≤k→T k=0:=fun k hk=>h.zero hk
 have h0:=(h.alloc (.cells #[.slice none 0 0] 34)).alloc (.cells #[.int .i64 0] 35);have hk0:Kept (MT T) w ((w.alloc (.cells #[.slice none 0 0] 34)).alloc (.cells #[.int .i64 0] 35)):=((Kept.refl _ w).alloc _).alloc _;have NN:=(av.new w 34 #[.slice none 0 0]).alloc (.cells #[.int .i64 0] 35);have zS:=av.new (w.alloc (.cells #[.slice none 0 0] 34)) 35 #[.int .i64 0];rw[World.size_alloc] at zS;have HT0:=Lib.hid NM;have HA:=Lib.hid hA;have HO:=Lib.hid (ho.goes c gJ);have FB:=Lib.hid hcf;unfold bI at hR;have HR:=Lib.hid hR;have FP:=Lib.hid h.tg;have hno:=fU h0;have hgo:=kC h0 ho hcf now gJ;have wP:=Lib.hid hno;have wQ:=Lib.hid hgo;have NP:=Lib.hid hk0;have hgl:=h.blk.lt;clear h ho hcf NM h0 hA gJ hR hno hgo hk0;generalize bV c st now=s1 at*
 go_enter_defers Tryz.func8,Tryz.ntmps8
 go_wp2_with fail;refine wP.out.mono ?_;rintro e1 SE ⟨rfl,hw0⟩;have hsz0:((w.alloc (.cells #[.slice none 0 0] 34)).alloc (.cells #[.int .i64 0] 35)).heap.size=w.heap.size+2:=by simp
 generalize (w.alloc (.cells #[.slice none 0 0] 34)).alloc (.cells #[.int .i64 0] 35)=w0 at*;subst hw0;go_upto_region 4 with (fail)
 go_wp2_with (go_at_call 33;refine wQ.out.mono ?_;rintro e2 w1 ⟨rfl,h1,hk1⟩);have DJ:=NP.out.trans hk1;have mZ:=NN.kept hk1 (fun hh=>hh (HT0.out _ (Nat.le_refl _)));have lJ:=zS.kept hk1 (fun hh=>hh (HT0.out _ (by omega)));have hs1:=HA.out w1 DJ;have hsz1:=hk1.size;have NQ:=qR A l cp bs w1 hs1 hsm;have NR:=Lib.hid NQ;have H1:=Lib.hid h1;have sF:=Lib.hid DJ;clear DJ hk1 hs1 NQ h1 wP wQ HA NP NN zS;refine NR.out.mono ?_;rintro e3 w2 ⟨hb2,hres⟩;have IC:=mZ.below hb2 mZ.lt;have qT:=lJ.below hb2 lJ.lt;have h2:=H1.out.below hb2;have hk2:=dm.trans sF.out (iD hb2) (fun _ _=>rfl);have hsz2:=hb2.size;have HB2:=Lib.hid hb2;have H2:=Lib.hid h2;have xq:=Lib.hid hk2;clear hb2 h2 hk2 H1 sF NR mZ lJ;rcases hres with ⟨er,hd,rfl⟩|⟨x,A3,c3,hd,rfl,hpo⟩
 ·have hR2:R=(s1,[],er):=by
   rw[HR.out,hd]
  have hne:=yK bs er hd;have hne2:((er:Int)==0)=false:=by simp;omega
  have HR2:=Lib.hid hR2;have Gv:=(IC.far (p:=⟨w.heap.size+1,0,none⟩) (by simp) (.int .i64 (er:Nat))).alloc (.cells #[.int .i64 0,.bool false,.bool false,.bool false,.int .i64 0,.bool false,.bool false,.slice none 0 0] 72);have vF:=(qT.aF 0 (.int .i64 (er:Nat))).alloc (.cells #[.int .i64 0,.bool false,.bool false,.bool false,.int .i64 0,.bool false,.bool false,.slice none 0 0] 72);have h3:=(H2.out.far ((Kept.refl (fun k _=>k=w.heap.size+1) _).setCell (p:=⟨w.heap.size+1,0,none⟩) (fun _ _=>rfl) (.int .i64 (er:Nat))) (fun k o hk=>HT0.out k (by omega))).alloc (.cells #[.int .i64 0,.bool false,.bool false,.bool false,.int .i64 0,.bool false,.bool false,.slice none 0 0] 72);have hk3:=(dm.behind xq.out ((Kept.refl (fun k _=>k=w.heap.size+1) _).setCell (p:=⟨w.heap.size+1,0,none⟩) (fun _ _=>rfl) (.int .i64 (er:Nat))) (fun k o hk e=>by omega)).alloc (.cells #[.int .i64 0,.bool false,.bool false,.bool false,.int .i64 0,.bool false,.bool false,.slice none 0 0] 72);simp at vF;have AR:=Lib.hid Gv;have zo:=Lib.hid vF;have H3:=Lib.hid h3;have sD:=Lib.hid hk3;have f2:=qT.frozen 0;have c2:=qT.cell 0;have hbl:=qT.lt;simp at c2;clear hR2 hd hne HR Gv vF h3 hk3 IC qT;unfold bC;go_upto_region 6 with (fail)
  generalize (w2.setCell ⟨w.heap.size+1,0,none⟩ (.int .i64 (er:Nat))).alloc (.cells #[.int .i64 0,.bool false,.bool false,.bool false,.int .i64 0,.bool false,.bool false,.slice none 0 0] 72)=w3 at*;have c3:=zo.out.cell 0;simp at c3;clear c2 f2;go_wp2_with (go_at_call 34;refine (fE _ _).mono ?_;rintro e4 w4 ⟨rfl,rfl⟩);refine mP _ _ _ _ _ _ _ rfl rfl (by omega) AR.out zo.out fun W' hW=> ?_
  rw[HR2.out];exact ⟨T,vo,_,n,rfl,H3.out.far hW (fun k o hk=>HT0.out k (by omega)),by omega,fun _ _=>rfl,dm.behind sD.out hW (fun k o hk e=>by omega),bQ.nil _ _ _⟩
 ·have hR2:R=vJ c s1 x:=by rw[HR.out,hd]
  have hx:=uK hd;have HR2:=Lib.hid hR2;have HX:=Lib.hid hx;have hsn:=hx.sn;clear hR2 hd HR hx;have Gv:=(IC.far (p:=⟨w.heap.size+1,0,none⟩) (by simp) (.int .i64 0)).alloc (.cells (bC x.sn x.po x.sg x.la x.off x.s x.e A3 x.ps.length c3) 72);have vF:=(qT.aF 0 (.int .i64 0)).alloc (.cells (bC x.sn x.po x.sg x.la x.off x.s x.e A3 x.ps.length c3) 72);have h3:=(H2.out.far ((Kept.refl (fun k _=>k=w.heap.size+1) _).setCell (p:=⟨w.heap.size+1,0,none⟩) (fun _ _=>rfl) (.int .i64 0)) (fun k o hk=>HT0.out k (by omega))).alloc (.cells (bC x.sn x.po x.sg x.la x.off x.s x.e A3 x.ps.length c3) 72);have hk3:=(dm.behind xq.out ((Kept.refl (fun k _=>k=w.heap.size+1) _).setCell (p:=⟨w.heap.size+1,0,none⟩) (fun _ _=>rfl) (.int .i64 0)) (fun k o hk e=>by omega)).alloc (.cells (bC x.sn x.po x.sg x.la x.off x.s x.e A3 x.ps.length c3) 72);have KZ:=av.new (w2.setCell ⟨w.heap.size+1,0,none⟩ (.int .i64 0)) 72 (bC x.sn x.po x.sg x.la x.off x.s x.e A3 x.ps.length c3);rw[World.size_setCell] at KZ;have Gw:aX ((w2.setCell ⟨w.heap.size+1,0,none⟩ (.int .i64 0)).alloc (.cells (bC x.sn x.po x.sg x.la x.off x.s x.e A3 x.ps.length c3) 72)) w1.heap.size (.slice A3 x.ps.length c3) x.ps:=hpo.kept fun k o hk ho=>by
   have:=lt_of_heap ho;rw[Below.heap_alloc _ _ k (by simp;omega),Below.heap_setCell _ _ _ k (by simp;omega)];exact ho
  simp at vF;have AR:=Lib.hid Gv;have zo:=Lib.hid vF;have Gx:=Lib.hid KZ;have H3:=Lib.hid h3;have sD:=Lib.hid hk3;have DK:=Lib.hid Gw;have f2:=qT.frozen 0;have c2:=qT.cell 0;have hbl:=qT.lt;simp at c2;clear hpo Gv vF KZ h3 hk3 Gw IC qT;unfold bC at AR zo Gx H3 sD DK;unfold bC;go_upto_region 6 with (fail)
  have wG:((w2.setCell ⟨w.heap.size+1,0,none⟩ (.int .i64 0)).alloc (.cells #[.int .i64 (x.sn:Nat),.bool x.po,.bool x.sg,.bool x.la,.int .i64 (x.off:Nat),.bool x.s,.bool x.e,.slice A3 x.ps.length c3] 72)).heap.size=w2.heap.size+1:=by simp
  generalize (w2.setCell ⟨w.heap.size+1,0,none⟩ (.int .i64 0)).alloc (.cells #[.int .i64 (x.sn:Nat),.bool x.po,.bool x.sg,.bool x.la,.int .i64 (x.off:Nat),.bool x.s,.bool x.e,.slice A3 x.ps.length c3] 72)=w3 at*;generalize w2.heap.size=p at*;have ID:=zo.out.cell 0;simp at ID;have IE:=AR.out.cell 0;simp at IE;obtain ⟨z0,z1,z2,z3,z4,z5,z6,z7⟩:=Gx.out.eight;have hpc:=l7 H3.out HO.out x.sn hsn;have Gy:=Lib.hid hpc;clear c2 f2 hpc z2 z3 z4 z5 z6 z7;go_upto_if 30 with (first
   |(go_at_call 34;refine (gH _ _).mono ?_;rintro e4 w4 ⟨rfl,rfl⟩)
   |(go_at_call 35;refine Gy.out.mono ?_;rintro e5 w5 ⟨rfl,rfl⟩))
  by_cases hpl:512≤aI s1 x.sn
  ·have pG:R=({s1 with due:=s1.due||x.po},[],0):=by rw[HR2.out];unfold vJ;rw[if_pos hpl]
   have HR4:=Lib.hid pG;have K3:(512:Int)≤(aI s1 x.sn:Nat):=by omega
   clear HR2 pG;obtain ⟨_,_,_,_,_,_,_,_,_,pP,_⟩:=H3.out.cells;have f14:=H3.out.blk.frozen 14;have fo:=AR.out.frozen 0;have fe:=zo.out.frozen 0;have hk5:∀b9:Bool,Kept (fun k _=>k=g∨k=w.heap.size∨k=w.heap.size+1) w3 (((w3.setCell ⟨g,14,none⟩ (.bool b9)).setCell ⟨w.heap.size,0,none⟩ (.slice none 0 0)).setCell ⟨w.heap.size+1,0,none⟩ (.int .i64 0)):=fun b9=>(((Kept.refl _ w3).setCell (p:=⟨g,14,none⟩) (fun _ _=> .inl rfl) _).setCell (p:=⟨w.heap.size,0,none⟩) (fun _ _=> .inr (.inl rfl)) _).setCell (p:=⟨w.heap.size+1,0,none⟩) (fun _ _=> .inr (.inr rfl)) _
   have NS:∀b9:Bool,av (((w3.setCell ⟨g,14,none⟩ (.bool b9)).setCell ⟨w.heap.size,0,none⟩ (.slice none 0 0)).setCell ⟨w.heap.size+1,0,none⟩ (.int .i64 0)) w.heap.size 34 #[.slice none 0 0]:=fun b9=>by
    have:=((AR.out.far (p:=⟨g,14,none⟩) (by show w.heap.size≠g;omega) (.bool b9)).aF 0 (.slice none 0 0)).far (p:=⟨w.heap.size+1,0,none⟩) (by simp) (.int .i64 0);simpa using this
   have hbe:∀b9:Bool,av (((w3.setCell ⟨g,14,none⟩ (.bool b9)).setCell ⟨w.heap.size,0,none⟩ (.slice none 0 0)).setCell ⟨w.heap.size+1,0,none⟩ (.int .i64 0)) (w.heap.size+1) 35 #[.int .i64 0]:=fun b9=>by
    have:=((zo.out.far (p:=⟨g,14,none⟩) (by show w.heap.size+1≠g;omega) (.bool b9)).far (p:=⟨w.heap.size,0,none⟩) (by simp) (.slice none 0 0)).aF 0 (.int .i64 0);simpa using this
   have hrc:bO (((w3.setCell ⟨g,14,none⟩ (.bool (s1.due||x.po))).setCell ⟨w.heap.size,0,none⟩ (.slice none 0 0)).setCell ⟨w.heap.size+1,0,none⟩ (.int .i64 0)) T g M n c {s1 with due:=s1.due||x.po} vo:=
    (H3.out.put 14 (.bool (s1.due||x.po)) (st':= {s1 with due:=s1.due||x.po}) rfl rfl rfl).far (((Kept.refl (fun k _=>k=w.heap.size∨k=w.heap.size+1) _).setCell (p:=⟨w.heap.size,0,none⟩) (fun _ _=> .inl rfl) _).setCell (p:=⟨w.heap.size+1,0,none⟩) (fun _ _=> .inr rfl) _) (fun k o hk=>HT0.out k (by omega))
   have hbg:g≠w.heap.size:=by omega
   have hkx:∀b9:Bool,Kept (MT T) w (((w3.setCell ⟨g,14,none⟩ (.bool b9)).setCell ⟨w.heap.size,0,none⟩ (.slice none 0 0)).setCell ⟨w.heap.size+1,0,none⟩ (.int .i64 0)):=fun b9=>dm.behind sD.out (hk5 b9) (fun k o hk e=>by
    have:=FP.out;rcases e with rfl|e
    ·omega
    ·omega)
   have NT:=Lib.hid NS;have NU:=Lib.hid hbe;have yM:=Lib.hid hrc;have NV:=Lib.hid hkx;clear hk5 NS hbe hrc hkx;cases hd:s1.due with
   |true=>
    rw[hd] at pP;rw[hd,Bool.true_or] at yM HR4;clear hd;go_wp2;refine gu _ _ _ _ _ _ rfl rfl (NT.out _) (NU.out _) ?_;rw[HR4.out];exact ⟨T,vo,_,n,rfl,yM.out,by omega,fun _ _=>rfl,NV.out _,bQ.nil _ _ _⟩
   |false=>
    rw[hd] at pP;rw[hd,Bool.false_or] at yM HR4;clear hd;go_wp2;refine gu _ _ _ _ _ _ rfl rfl (NT.out _) (NU.out _) ?_;rw[HR4.out];exact ⟨T,vo,_,n,rfl,yM.out,by omega,fun _ _=>rfl,NV.out _,bQ.nil _ _ _⟩
  ·have K3:¬(512:Int)≤(aI s1 x.sn:Nat):=by omega
   have pG:R=(if qW (dA s1 x.sn) x=true then (s1,[],9) else let D:=bu 1024 (iB s1 x (dA s1 x.sn));(vI c D.1,D.2,0)):=by rw[HR2.out];unfold vJ;rw[if_neg hpl]
   have HR4:=Lib.hid pG;have NW:=Lib.hid hpl;obtain ⟨v9,QN,IG⟩:=H3.out.drew.look hsn;obtain ⟨nz,hnz⟩:∃nz,nz=(s1.m x.sn).isNone:=⟨_,rfl⟩
   have QO:(binOp .eql 86 v9 (.pointer none)).run Tryz.prog w3.drew= .ok (.bool nz) w3.drew:=by
    rcases IG with ⟨hm,rfl⟩|⟨q,b,vf,vd,hm,rfl,_⟩
    ·rw[hnz,hm];rfl
    ·rw[hnz,hm];rfl
   have hqg:(eqGuard .eql 86 (.tmp 49) (.const (.pointer none)) v9 (.pointer none)).run Tryz.prog w3.drew= .ok () w3.drew:=by
    rcases IG with ⟨hm,rfl⟩|⟨q,b,vf,vd,hm,rfl,_⟩<;>rfl
   obtain ⟨_,_,x7,_⟩:=H3.out.cells;have II:=Lib.hid IG;have Gz:=Lib.hid hnz;have wH:=Lib.hid wG;clear HR2 pG hpl IG hnz wG;go_upto_region 10 with (fail)
   refine wp_region_still_tail 6 fq (by kernel_rfl) ?_;simp only[List.take_succ_cons,List.take_zero,List.drop_succ_cons,List.drop_zero]
   repeat still_step
   refine wpStill_nil ?_;change wpList _ _ _ _ _ w3.drew;go_upto_if 50 with (fail)
   go_cut [9] from 30 to 137 (fun s9 wx=>∃b vf vd,s9= .pointer (some ⟨b,0,none⟩)∧gG wx b (dA s1 x.sn) vf vd∧((T b=0∧w3.heap.size≤b)∨T b=3*x.sn+4)∧(∀k,vf.ownBlock=some k→T k=3*x.sn+5)∧(∀k,vd.ownBlock=some k→T k=3*x.sn+6)∧Below w3.heap.size w3 wx)
   case first=>
    rcases II.out with ⟨hm,rfl⟩|⟨sp,b,vf,vd,hm,rfl,hs,t1,t2,t3⟩
    ·have hg0:dA s1 x.sn=qV:=by unfold dA;rw[hm];rfl
     obtain rfl:nz=true:=by rw[Gz.out,hm];rfl
     have K7:=Lib.hid hg0;clear hm hg0 II Gz;go_wp2_with fail;go_meet;rw[K7.out];exact ⟨w3.heap.size,.slice none 0 0,.slice none 0 0,rfl,⟨av.new w3.drew _ _,World.ownsRow_nil _ _ _ _,World.ownsRow_nil _ _ _ _⟩,.inl ⟨HT0.out _ (by have:=wH.out;omega),Nat.le_refl _⟩,fun k e=>by simp[Value.ownBlock] at e,fun k e=>by simp[Value.ownBlock] at e,(Below.refl _ w3).drew.alloc (Nat.le_refl _) _⟩
    ·have hg0:dA s1 x.sn=sp:=by unfold dA;rw[hm];rfl
     obtain rfl:nz=false:=by rw[Gz.out,hm];rfl
     have K7:=Lib.hid hg0;clear hm hg0 II Gz;go_wp2_with fail;go_meet;rw[K7.out];exact ⟨b,vf,vd,rfl,hs,.inr t1,t2,t3,(Below.refl _ w3).drew⟩
   case rest=>
   obtain ⟨b,vf,vd,rfl,hS,hbt,hvf,hvd,hbw⟩:=hcut;have wG:=wH.out;have pG:=H3.out.below hbw;have K9:=AR.out.below hbw AR.out.lt;have CP:=zo.out.below hbw zo.out.lt;have La:=Gx.out.below hbw Gx.out.lt;have hk4:=dm.behind sD.out (Kept.of_below hbw) (fun k o hk e=>by have:=hbw.size;omega);obtain ⟨A5,c5,NY,hv5,GA,hla,hlv⟩:=DK.out.lie;cases hv5;have QR:=hbw.size;have hbl:=hS.blk.lt;have hsp:=HO.out.get x.sn;have hpt:∀W,(∀k,w1.heap.size≤k→k<w3.heap.size→W.heap[k]? =w3.heap[k]?)→eH W W.heap.size A3 x.ps.length c3 NY x.ps:=fun W hW=>GA.stay (fun ad e=>hW _ (hla ad e).1 (hla ad e).2) (fun i u ad e1 e2=>hW _ (hlv i u ad e1 e2).1 (hlv i u ad e1 e2).2)
   have htk:=wD b (dA s1 x.sn) vf vd x A3 c3 NY wc hS hsp (hpt wc fun k _ hk=>hbw.block k hk) HX.out.len HX.out.pos HX.out.sum (fun W hW=>hpt W fun k hk1 hk2=>by
    have e1:=hbw.block k hk2;have e2:wc.heap[k]? =some (wc.heap[k]'(by omega)):=Array.getElem?_eq_getElem (by omega);rw[←e1,e2];refine hW.same k _ e2 fun hm=> ?_
    have h0:=HT0.out k (by omega);rcases hm with e|e|e
    ·subst e;omega
    ·have:=hvf k e;omega
    ·have:=hvd k e;omega)
   have zk:=Lib.hid htk;have qm:=Lib.hid pG;have BL:=Lib.hid hS;have qa:=Lib.hid hk4;have BO:=Lib.hid hbt;have Eg:=Lib.hid hvf;have Eh:=Lib.hid hvd;obtain ⟨z0,z1,z2,z3,z4,z5,z6,z7⟩:=La.eight;have IE:=K9.cell 0;have ID:=CP.cell 0;simp at IE ID;have IJ:=Lib.hid K9;have IK:=Lib.hid CP;have NZ:=Lib.hid La;clear htk hpt GA hla hlv hS hbt hvf hvd hbw pG K9 CP La hk4 DK H3 sD AR zo Gx;unfold bC at zk;clear wG;go_wp2_with fail;refine zk.out.mono ?_;intro e6 w6 Ei;by_cases hbd:qW (dA s1 x.sn) x=true
   ·unfold mQ at Ei;rw[if_pos hbd] at Ei;obtain ⟨rfl,hb6⟩:=Ei;have vC:R=(s1,[],9):=by rw[HR4.out,if_pos hbd]
    refine mP _ _ _ _ _ _ _ rfl rfl (by omega) (IJ.out.below hb6 IJ.out.lt) (IK.out.below hb6 IK.out.lt) fun W' hW=> ?_
    rw[vC];exact ⟨T,vo,_,n,rfl,(qm.out.below hb6).far hW (fun k o hk=>HT0.out k (by omega)),by omega,fun _ _=>rfl,dm.behind (dm.behind qa.out (Kept.of_below hb6) (fun k o hk e=>by have:=qa.out.size;omega)) hW (fun k o hk e=>by omega),bQ.nil _ _ _⟩
   ·unfold mQ at Ei;rw[if_neg hbd] at Ei;obtain ⟨rfl,eF,eu,qx,N5,hd6,kV⟩:=Ei;have vC:R=((vI c (bu 1024 (iB s1 x (dA s1 x.sn))).1),(bu 1024 (iB s1 x (dA s1 x.sn))).2,0):=by rw[HR4.out,if_neg hbd]
    have hnk:∀k,T k=0→k<w3.heap.size→¬Br b vf vd k (.map #[] 0):=fun k h0 hl hm=>by
     rcases hm with e|e|e
     ·subst e;rcases BO.out with e|e
      ·omega
      ·omega
     ·have:=Eg.out k e;omega
     ·have:=Eh.out k e;omega
    have wG:=wH.out;have hga:=FP.out;have N6:=IJ.out.kept kV (hnk _ (HT0.out _ (Nat.le_refl _)) (by omega));have zW:=IK.out.kept kV (hnk _ (HT0.out _ (by omega)) (by omega));have Lb:=NZ.out.kept kV (hnk _ (HT0.out _ (by omega)) (by omega));have uF:¬Br b vf vd g (.map #[] 0):=fun hm=>by
     rcases hm with e|e|e
     ·subst e;rcases BO.out with e|e<;>omega
     ·have:=Eg.out g e;omega
     ·have:=Eh.out g e;omega
    have CL:=qm.out.blk.kept kV uF;have x7:w6.cell? ⟨g,7,none⟩=some (.map (some M)):=CL.cell 7;have Ee:=qm.out.tM;obtain ⟨F,hF,Gc⟩:=qm.out.mp;have N7:bY Tryz.prog 3 w6.drew M n F:=hF.same (by
     have e2:wc.heap[M]? =some (wc.heap[M]'(qm.out.lt M (by omega))):=Array.getElem?_eq_getElem _;show w6.heap[M]? =wc.heap[M]?
     rw[e2];refine kV.same M _ e2 fun hm=> ?_
     rcases hm with e|e|e
     ·subst e;rcases BO.out with e|e<;>omega
     ·have:=Eg.out M e;omega
     ·have:=Eh.out M e;omega)
    have De:=dm.behind qa.out kV (fun k o hk e=>by
     rcases e with e|e|e
     ·subst e;rcases BO.out with e|e<;>omega
     ·have:=Eg.out k e;omega
     ·have:=Eh.out k e;omega)
    clear z0 z1 z2 z3 z4 z5 z6 z7 IE ID;have z0:w6.cell? ⟨p,0,none⟩=some (.int .i64 (x.sn:Nat)):=Lb.cell 0;have N8:=Lib.hid Gc;have N9:=Lib.hid qx;have GB:=Lib.hid N5;have GD:=Lib.hid hd6;have Dc:=Lib.hid kV;have Ay:=Lib.hid De;have Bj:=Lib.hid vC;have Oa:=Lib.hid N6;have Ob:=Lib.hid zW;have Oc:=Lib.hid Lb;have Od:=Lib.hid N7;clear Gc qx N5 hd6 kV De vC N6 zW Lb hF N7 hnk uF CL wG zk;go_upto_region 14 with (fail)
    refine wp_region_still_tail 7 fq (by kernel_rfl) ?_;simp only[List.take_succ_cons,List.take_zero,List.drop_succ_cons,List.drop_zero]
    repeat still_step
    refine wpStill_nil ?_;change wpList _ _ _ _ _ w6.drew;refine kg _ rfl _ _ _ 31 rfl 3 86 jI jH M n F rfl Od.out hn x.sn rfl (by omega) (.pointer (some ⟨b,0,none⟩)) rfl ?_;intro w8 Oe Ej;obtain ⟨T8,IP,GG,GH⟩:=qm.out.stored (W':=w6.drew) hbl (by rcases BO.out with e|e<;>omega) Eg.out Eh.out (N9.out.stay rfl (fun _ _=>rfl) (fun _ _=>rfl)) GB.out GD.out Dc.out.drew N8.out Oe Ej;have hbz:b≠w.heap.size∧b≠w.heap.size+1∧b≠p:=by
     have q0:=HT0.out w.heap.size (Nat.le_refl _);have q1:=HT0.out (w.heap.size+1) (by omega);have q2:=HT0.out p (by omega);have q3:=wH.out;refine ⟨fun e=> ?_,fun e=> ?_,fun e=> ?_⟩<;>subst e<;>rcases BO.out with e|e<;>omega
    have IQ:∀k,T k=0→some k≠some M:=fun k hk e=>by cases e;omega
    have hw3:=wH.out;have hpp:AQ w T T8 g M (n+1) c p #[.int .i64 (x.sn:Nat),.bool x.po,.bool x.sg,.bool x.la,.int .i64 (x.off:Nat),.bool x.s,.bool x.e,.slice A3 x.ps.length c3] w8 {s1 with m:=dZ s1.m x.sn (some (dz (dA s1 x.sn) x))} vo:=by
     refine ⟨IP,Oa.out.drew.grown Ej (IQ _ (HT0.out _ (Nat.le_refl _))),Ob.out.drew.grown Ej (IQ _ (HT0.out _ (by omega))),Oc.out.drew.grown Ej (IQ _ (HT0.out _ (by omega))),Ay.out.drew.grown Ej (fun k e o ho=>by cases e;unfold MT;omega),fun k hk=> ?_,?_,?_,?_⟩
     ·by_cases e:k=b
      ·subst e;rcases BO.out with e|e
       ·omega
       ·exact GH (by omega)
      ·exact GG k (by omega) e
     ·exact (GG _ (by omega) (Ne.symm hbz.1)).trans (HT0.out _ (Nat.le_refl _))
     ·exact (GG _ (by omega) (Ne.symm hbz.2.1)).trans (HT0.out _ (by omega))
     ·exact (GG _ (by omega) (Ne.symm hbz.2.2)).trans (HT0.out _ (by omega))
    have hos:=HO.out.AJ HX.out (by have:=NW.out;omega);have Og:=Lib.hid hpp;have GI:=Lib.hid hos;obtain ⟨_,_,_,_,_,_,_,_,_,pP,_⟩:=IP.cells;have f14:=IP.blk.frozen 14;obtain ⟨z0,z1,_⟩:=hpp.bx.eight;clear hpp hos IQ hw3 hbz GG GH IP Oe Ej Oa Ob Oc Ay Od N8 N9 GB GD Dc BO Eg Eh qm BL qa IJ IK NZ x7 hga Ee QR hbl hsp;go_upto_region 15 with (fail)
    simp only[Act.put];go_cut [] from 30 to 137 (fun wx=>wx=w8.setCell ⟨g,14,none⟩ (.bool (s1.due||x.po)))
    case first=>
     cases hd:s1.due with
     |true=>
      rw[hd] at pP;have HD:=Lib.hid hd;clear hd;go_wp2;go_meet;rw[HD.out];rfl
     |false=>
      rw[hd] at pP;have HD:=Lib.hid hd;clear hd;go_wp2;go_meet;rw[HD.out];rfl
    case rest=>
    have h9:=Og.out.put 14 (.bool (s1.due||x.po)) (s':= {s1 with m:=dZ s1.m x.sn (some (dz (dA s1 x.sn) x)),due:=s1.due||x.po}) rfl rfl rfl;rw[←hcut] at h9;have CF:=Lib.hid h9;clear hcut h9 pP f14 z0 z1 Og;have hpc:∀(q sn:Nat),sn≤1023→Calls Tryz.prog 35 #[.pointer (some ⟨g,0,none⟩),.int .i64 sn] (wc.drewN q) fun e w'=>e= .returned (.int .i64 (aI s1 sn:Nat))∧wc.drewN q=w':=fun q sn hs=>kI (wc.drewN q) s1.next sn (CF.out.rc.drewN q).cells.2.2.2.1 HO.out.n1 hs
    have hhi:=HO.out.n3;have GJ:=fun q:Nat=>CF.out.below ((Below.refl _ wc).drewN q)
    have GK:=Lib.hid hpc;have Oh:=Lib.hid GJ;obtain ⟨_,_,_,y8,_,zl,_⟩:=CF.out.rc.cells;obtain ⟨z0,_⟩:=CF.out.bx.eight;clear hpc GJ CF wH Gz II hqg QO QN NW Gy xq H2 HB2 HT0 HR4;go_upto_region 16 with (fail)
    go_quiet ((go_at_call 35;exact Calls.quiet_of_same ((GK.out _ _ (by omega)).mono fun _ _ hh=>⟨hh.1,hh.2.symm⟩)))
    have hP:=Oh.out nq;generalize wc.drewN nq=Lc at*;have DL:=Lib.hid hP;obtain ⟨_,_,_,y8,_,zl,_⟩:=hP.rc.cells;obtain ⟨z0,_⟩:=hP.bx.eight;have f10:=hP.rc.blk.frozen 10;clear hP Oh GK;go_upto_if 84 with (fail)
    go_cut [] from 30 to 137 (fun wx=>AQ w T T8 g M (n+1) c p #[.int .i64 (x.sn:Nat),.bool x.po,.bool x.sg,.bool x.la,.int .i64 (x.off:Nat),.bool x.s,.bool x.e,.slice A3 x.ps.length c3] wx {s1 with m:=dZ s1.m x.sn (some (dz (dA s1 x.sn) x)),due:=s1.due||x.po,high:=if aI s1 s1.high≤aI s1 x.sn then bH x.sn else s1.high} vo)
    case first=>
     by_cases hh:aI s1 s1.high≤aI s1 x.sn
     ·have QS:(aI s1 s1.high:Int)≤(aI s1 x.sn:Int):=by omega
      have hand:bits BinOp.and IntKind.i64 ((x.sn:Int)+1) 1023=((bH x.sn:Nat):Int):=by rw[iC];unfold bH;omega
      have HH:=Lib.hid hh;clear hh;go_wp2_with fail;go_meet;rw[if_pos HH.out];exact DL.out.put 10 (.int .i64 (bH x.sn:Nat)) rfl rfl rfl
     ·have QS:¬(aI s1 s1.high:Int)≤(aI s1 x.sn:Int):=by omega
      have HH:=Lib.hid hh;clear hh;go_wp2_with fail;go_meet;rw[if_neg HH.out];exact DL.out
    case rest=>
    have BP:aM {s1 with m:=dZ s1.m x.sn (some (dz (dA s1 x.sn) x)),due:=s1.due||x.po,high:=if aI s1 s1.high≤aI s1 x.sn then bH x.sn else s1.high}:=⟨HO.out.n1,HO.out.n2,GI.out.n3,HO.out.n4,GI.out.m,HO.out.op,HO.out.t1,HO.out.t2⟩;have hfr:=oz hcut.rc BP s1.status HO.out.n2;have Ik:=Lib.hid hfr;have GL:=Lib.hid hcut;obtain ⟨_,_,_,_,y9,_⟩:=hcut.rc.cells;clear hfr hcut BP y8 zl z0 f10 DL
    replace y9:wc.cell? ⟨g,9,none⟩=some (.int .i64 (s1.status:Nat)):=y9
    go_upto_region 18 with (fail)
    go_cut [] from 30 to 137 (fun wx=>AQ w T T8 g M (n+1) c p #[.int .i64 (x.sn:Nat),.bool x.po,.bool x.sg,.bool x.la,.int .i64 (x.off:Nat),.bool x.s,.bool x.e,.slice A3 x.ps.length c3] wx (iB s1 x (dA s1 x.sn)) vo)
    case first=>
     go_wp2_with (go_at_call 37;refine Ik.out.mono ?_;rintro e12 Ld ⟨rfl,rR⟩;have h12:=GL.out.below rR;have f9:=h12.rc.blk.frozen 9;have c9:=h12.rc.cells.2.2.2.2.1;have QT:=Lib.hid h12;clear h12 rR);go_meet;exact QT.out.put 9 _ rfl rfl rfl
    case rest=>
    have hdl:=qb hcut.rc GI.out;have ql:=Lib.hid hdl;have kR:=Lib.hid hcut;have fo:=hcut.bo.frozen 0;have co:=hcut.bo.cell 0;simp at co;clear hdl hcut y9 Ik GL;go_upto_region 19 with (fail)
    go_cut [] from 30 to 137 (fun wx=>∃T9 GM v9,wF w T T9 g M (n+1) c v9 (bu 1024 (iB s1 x (dA s1 x.sn))).2 wx (bu 1024 (iB s1 x (dA s1 x.sn))).1 GM)
    case first=>
     go_wp2_with (go_at_call 38;refine ql.out.mono ?_;rintro e13 GN ⟨T9,GM,IR,rfl,wM,Oi,Bz,Le⟩;have hsl:∃A9 k9 c9,IR= .slice A9 k9 c9:=(by obtain ⟨KE,Lf,_⟩:=Le;obtain ⟨A9,c9,e9,_⟩:=aK Lf;exact ⟨A9,_,c9,e9⟩);obtain ⟨A9,k9,c9,rfl⟩:=hsl;have AU:=kR.out.bo.kept Bz (fun hm=>hm kR.out.t0);have f13:=AU.frozen 0;have c13:=AU.cell 0;simp at c13;have HA:=Lib.hid wM;have HB:=Lib.hid Oi;have HC:=Lib.hid Bz;have HD:=Lib.hid Le;have HE:=Lib.hid AU;clear wM Oi Bz Le AU);go_meet;have hl12:=kR.out.bo.lt;have GQ:=kR.out.be.lt;have z9:T9 w.heap.size=0:=(HB.out _ hl12).trans kR.out.t0;have QU:T9 (w.heap.size+1)=0:=(HB.out _ GQ).trans kR.out.t1;have hset:Kept (fun k _=>k=w.heap.size) GN (GN.setCell ⟨w.heap.size,0,none⟩ (.slice A9 k9 c9)):=(Kept.refl _ GN).setCell (p:=⟨w.heap.size,0,none⟩) (fun _ _=>rfl) _;refine ⟨T9,GM,.slice A9 k9 c9,HA.out.far hset (fun k o e=>by rw[e];exact z9),by simpa using HE.out.aF 0 (.slice A9 k9 c9),(kR.out.be.kept HC.out (fun hm=>hm kR.out.t1)).kept hset (by simp),dm.behind (dm.behind kR.out.kp HC.out (fun k o hk e=>by rw[←kR.out.tt k hk];exact e)) hset (fun k o hk e=>by omega),fun k hk=>(HB.out k (by omega)).trans (kR.out.tt k hk),z9,QU,?_⟩;exact (HD.out.over fun k hk=>Below.heap_setCell GN ⟨w.heap.size,0,none⟩ (.slice A9 k9 c9) k (by show k≠w.heap.size;omega)).FQ (by omega)
    case rest=>
    obtain ⟨T9,GM,IR,h9⟩:=hcut;have yN:=GI.out.oL 1024;have wM:=Bj.out;generalize bu 1024 (iB s1 x (dA s1 x.sn))=D at*;obtain ⟨s9,outs⟩:=D;dsimp only at h9 yN wM;have D4:=Lib.hid wM;have AV:=Lib.hid h9;have zq:=Lib.hid yN;have hpc:=l7 h9.rc yN s9.bX yN.n4;have Gy:=Lib.hid hpc;obtain ⟨_,_,_,_,_,_,_,C6,_⟩:=h9.rc.cells;have f11:=h9.rc.blk.frozen 11;have C5:=h9.rc.cells.2.2.2.2.2.2.1;clear h9 yN wM hpc ql kR fo co Bj GI;go_upto_region 21 with (go_at_call 35;refine Gy.out.mono ?_;rintro e14 QV ⟨rfl,rfl⟩)
    go_cut [114] from 30 to 137 (fun Lg wx=>Lg= .bool (decide (aI s9 s9.bX=0∨512<aI s9 s9.bX))∧wx=wc)
    case first=>
     generalize aI s9 s9.bX=pt at*;by_cases e0:pt=0
     ·subst e0;go_wp2;go_meet;exact ⟨by simp,rfl⟩
     ·have d0:((pt:Int)==0)=false:=by simp;omega
      have HD0:=Lib.hid e0;clear e0;go_wp2
      all_goals
       go_meet;refine ⟨congrArg Value.bool ?_,rfl⟩;rw[Bool.eq_iff_iff];simp only[decide_eq_true_eq];have:=HD0.out;omega
    case rest=>
    obtain ⟨rfl,rfl⟩:=hcut;obtain ⟨s10,mU⟩:∃s10,s10=(if aI s9 s9.bX=0∨512<aI s9 s9.bX then {s9 with ro:=false} else s9):=⟨_,rfl⟩
    have hRR:R=(if s10.ro=false∧s10.high≠s10.next then j3 c s10 else s10,outs,0):=by rw[D4.out,mU];rfl
    have HRR:=Lib.hid hRR;have AX:=Lib.hid mU;have QW:=AV;clear hRR mU Gy D4 C6;go_upto_if 114 with (fail)
    go_cut [] from 30 to 137 (fun wx=>wF w T T9 g M (n+1) c IR outs wx s10 GM)
    case first=>
     by_cases hc:aI s9 s9.bX=0∨512<aI s9 s9.bX
     ·have mU:=AX.out;rw[if_pos hc] at mU;have HC:=Lib.hid mU;have dd:decide (aI s9 s9.bX=0∨512<aI s9 s9.bX)=true:=decide_eq_true hc;clear mU hc;rw[dd];go_wp2_with fail;go_meet;rw[HC.out];exact AV.out.put 11 (.bool false) rfl rfl rfl
     ·have mU:=AX.out;rw[if_neg hc] at mU;have HC:=Lib.hid mU;have dd:decide (aI s9 s9.bX=0∨512<aI s9 s9.bX)=false:=decide_eq_false hc;clear mU hc;rw[dd];go_wp2_with fail;go_meet;rw[HC.out];exact AV.out
    case rest=>
    have BQ:aM s10:=by
     rw[AX.out];split
     ·exact ⟨zq.out.n1,zq.out.n2,zq.out.n3,zq.out.n4,zq.out.m,zq.out.op,zq.out.t1,zq.out.t2⟩
     ·exact zq.out
    obtain ⟨A9,k9,c9,rfl⟩:∃A9 k9 c9,IR= .slice A9 k9 c9:=by
     obtain ⟨KE,Lf,_⟩:=hcut.out;obtain ⟨A9,c9,e9,_⟩:=aK Lf;exact ⟨A9,_,c9,e9⟩
    obtain ⟨_,_,_,y8,_,zl,GR,_⟩:=hcut.rc.cells;have DN:=Lib.hid hcut;have GU:=Lib.hid BQ;clear hcut BQ C5 f11 AV QW AX zq;cases hro:s10.ro with
    |true=>
     have hRR:=HRR.out;rw[if_neg (by rw[hro];simp)] at hRR;rw[hro] at GR;have HR2:=Lib.hid hRR;clear hRR hro HRR;go_upto_region 23 with (fail)
     go_quiet (fail)
     have hX:=DN.out.drewN nq;generalize wc.drewN nq=wz at*;have fo:=hX.bo.frozen 0;have co:=hX.bo.cell 0;have fe:=hX.be.frozen 0;have ce:=hX.be.cell 0;simp at co ce;have GV:=Lib.hid hX;clear hX;go_wp2;obtain ⟨q1,q2,q3⟩:=GV.out.fin;refine gu _ _ _ _ _ _ rfl rfl q1 q2 ?_;rw[HR2.out];exact q3
    |false=>
     rw[hro] at GR;by_cases hne:s10.high=s10.next
     ·have hRR:=HRR.out;rw[if_neg (by rw[hne];simp)] at hRR;have d2:((s10.high:Int) !=(s10.next:Int))=false:=by simp;omega
      have HR2:=Lib.hid hRR;clear hRR hro HRR hne;go_upto_region 23 with (fail)
      go_quiet (fail)
      have hX:=DN.out.drewN nq;generalize wc.drewN nq=wz at*;have fo:=hX.bo.frozen 0;have co:=hX.bo.cell 0;have fe:=hX.be.frozen 0;have ce:=hX.be.cell 0;simp at co ce;have GV:=Lib.hid hX;clear hX;go_wp2;obtain ⟨q1,q2,q3⟩:=GV.out.fin;refine gu _ _ _ _ _ _ rfl rfl q1 q2 ?_;rw[HR2.out];exact q3
     ·have hRR:=HRR.out;rw[if_pos ⟨hro,hne⟩] at hRR;have d2:((s10.high:Int) !=(s10.next:Int))=true:=by simp;omega
      have HR2:=Lib.hid hRR;clear hRR hro HRR hne;go_upto_region 23 with (fail)
      go_quiet (fail)
      have hX:=DN.out.drewN nq;have hwt:=l9 hX.rc GU.out FB.out.r1 (by have:=FB.out.r2;omega);have Ke:=Lib.hid hwt;have QX:=Lib.hid hX;clear hX hwt;generalize wc.drewN nq=wy at*;go_upto_region 25 with (go_at_call 39;refine Ke.out.mono ?_;rintro e15 wz ⟨rfl,Oj,GX⟩)
      have hX:=QX.out.turn Oj GX;have fo:=hX.bo.frozen 0;have co:=hX.bo.cell 0;have fe:=hX.be.frozen 0;have ce:=hX.be.cell 0;simp at co ce;have GV:=Lib.hid hX;clear hX Oj GX;go_wp2;obtain ⟨q1,q2,q3⟩:=GV.out.fin;refine gu _ _ _ _ _ _ rfl rfl q1 q2 ?_;rw[HR2.out];exact q3
end
end
section
open Go.RowKit Go.Shelf
attribute [local go_sem] Oper.semAt_some
def mV (st:Rc):Array Value:=
 #[.int .i64 (st.next:Nat),.int .i64 (st.status:Nat),.int .i64 (st.high:Nat),.bool st.ro,.int .i64 (if st.ro=true then ((st.bX:Nat):Int) else 0),.int .i64 (if st.ro=true then st.exp else 0),.bool st.due,.int .i64 st.iZ]
section
variable {w w':World} {T:Nat→Nat} {g M n:Nat} {c:Cf} {st:Rc} {vo:Value}
set_option maxHeartbeats 1000000 in
theorem wI (h:bO w T g M n c st vo) (ho:aM st) (hcf:zn c) (now:Int) (hn:now≤9223372036854775807):
 Calls Tryz.prog 12 #[.pointer (some ⟨g,0,none⟩),.int .i64 now] w fun e w'=>e= .returned (.int .i64 0)∧bO w' T g M n c (bV c st now) vo∧Kept (MT T) w w':=by
 have wP:=Lib.hid (fU h);have wQ:=Lib.hid (kC h ho hcf now hn);clear h ho hcf;go_enter Tryz.func12,Tryz.ntmps12;go_wp2_with (first
  |(go_at_call 31;refine wP.out.mono ?_;rintro e1 w1 ⟨rfl,rfl⟩)
  |(go_at_call 33;refine wQ.out.mono ?_;rintro e2 w2 ⟨rfl,hR,hK⟩))
 go_ret;exact ⟨rfl,hR,hK⟩
set_option maxRecDepth 10000 in
set_option maxHeartbeats 1000000 in
theorem uf (h:bO w T g M n c st vo):
 Calls Tryz.prog 14 #[.pointer (some ⟨g,0,none⟩)] w fun e w'=>e= .returned (.agg (mV st))∧Below w.heap.size w w':=by
 have HZ:=Lib.hid (av.new w 49 #[.int .i64 0,.int .i64 0,.int .i64 0,.bool false,.int .i64 0,.int .i64 0,.bool false,.int .i64 0]);have HB:=Lib.hid ((Below.refl w.heap.size w).alloc (Nat.le_refl _) (.cells #[.int .i64 0,.int .i64 0,.int .i64 0,.bool false,.int .i64 0,.int .i64 0,.bool false,.int .i64 0] 49));have HH:=Lib.hid (h.below HB.out);clear h;go_enter Tryz.func14,Tryz.ntmps14;go_wp2_with fail;generalize w.alloc (.cells #[.int .i64 0,.int .i64 0,.int .i64 0,.bool false,.int .i64 0,.int .i64 0,.bool false,.int .i64 0] 49)=w0 at*;refine (fU HH.out).mono ?_;rintro e1 w1 ⟨rfl,rfl⟩;obtain ⟨x3,x4,x7,x8,x9,x10,wN,wO,xM,pP,zf,xN,xO,x18⟩:=HH.out.cells;have hgl:=HH.out.blk.lt;have hwl:w.heap.size<w0.heap.size:=HZ.out.lt;clear x3 x4 x7 wO xM xN xO x18;go_upto_region 3 with (fail)
 go_cut [3] (fun s3 wx=>∃b,s3= .pointer (some ⟨b,0,none⟩)∧av wx b 49 #[.int .i64 (st.next:Nat),.int .i64 (st.status:Nat),.int .i64 (st.high:Nat),.bool st.ro,.int .i64 0,.int .i64 0,.bool st.due,.int .i64 st.iZ]∧Below w0.heap.size w0 wx∧w0.heap.size≤b)
 case first=>
  go_region
  all_goals
   go_wp2_with fail;go_meet;exact ⟨w0.heap.size,rfl,(av.new w0 49 _).drew,((Below.refl _ w0).alloc (Nat.le_refl _) _).drew,Nat.le_refl _⟩
 case rest=>
 obtain ⟨b,rfl,hbk,hbb,hbl⟩:=hcut;have hR2:=HH.out.below hbb;have hZ2:=HZ.out.below hbb HZ.out.lt;have hB2:=HB.out.trans (hbb.mono HB.out.size);have wN:=hR2.cells.2.2.2.2.2.2.1;have wO:=hR2.cells.2.2.2.2.2.2.2.1;have xM:=hR2.cells.2.2.2.2.2.2.2.2.1;have HZ2:=Lib.hid hZ2;have HB2:=Lib.hid hB2;have EN:=Lib.hid hbk;have hbne:w.heap.size≠b:=by omega
 clear hR2 hZ2 hB2 x8 x9 x10 pP zf hbk hbb HH HB HZ;go_upto_if 35 with (fail)
 go_cut [] (fun wx=>av wx b 49 (mV st)∧av wx w.heap.size 49 #[.int .i64 0,.int .i64 0,.int .i64 0,.bool false,.int .i64 0,.int .i64 0,.bool false,.int .i64 0]∧Below w.heap.size w wx)
 case first=>
  cases hro:st.ro with
  |false=>
   have hs:mV st= #[.int .i64 (st.next:Nat),.int .i64 (st.status:Nat),.int .i64 (st.high:Nat),.bool false,.int .i64 0,.int .i64 0,.bool st.due,.int .i64 st.iZ]:=by unfold mV;rw[hro];rfl
   have HS:=Lib.hid hs;have fZ:=EN.out;rw[hro] at fZ;have Lh:=Lib.hid fZ;clear hs fZ hro;go_wp2_with fail;go_meet;rw[HS.out];exact ⟨Lh.out,HZ2.out,HB2.out⟩
  |true=>
   have hs:mV st= #[.int .i64 (st.next:Nat),.int .i64 (st.status:Nat),.int .i64 (st.high:Nat),.bool true,.int .i64 (st.bX:Nat),.int .i64 st.exp,.bool st.due,.int .i64 st.iZ]:=by unfold mV;rw[hro];rfl
   have HS:=Lib.hid hs;have fZ:=EN.out;rw[hro] at fZ;have Lh:=Lib.hid fZ;have f4:=fZ.frozen 4;have f5:=fZ.frozen 5;have c4:=fZ.cell 4;have c5:=fZ.cell 5;simp at c4 c5;clear hs fZ hro;go_wp2_with fail
   go_region
   all_goals
    go_wp2_with fail;go_meet;rw[HS.out];refine ⟨?_,((HZ2.out.far (p:=⟨b,4,none⟩) hbne _).far (p:=⟨b,5,none⟩) hbne _).drew,((HB2.out.setCell (p:=⟨b,4,none⟩) (show w.heap.size≤b by omega) _).setCell (p:=⟨b,5,none⟩) (show w.heap.size≤b by omega) _).drew⟩;have h7:=(Lh.out.aF 4 (.int .i64 (st.bX:Nat))).aF 5 (.int .i64 st.exp);simpa using h7.drew
 case rest=>
 obtain ⟨sw,Df,GY⟩:=hcut;have ze:=sw;unfold mV at ze;obtain ⟨e0,e1,e2,e3,e4,e5,e6,e7⟩:=ze.eight;obtain ⟨z0,z1,z2,z3,z4,z5,z6,z7⟩:=Df.eight;have fz:=Df.frozen;have QY:=Lib.hid (Df.zL (.int .i64 (st.next:Nat)) (.int .i64 (st.status:Nat)) (.int .i64 (st.high:Nat)) (.bool st.ro) (.int .i64 (if st.ro=true then ((st.bX:Nat):Int) else 0)) (.int .i64 (if st.ro=true then st.exp else 0)) (.bool st.due) (.int .i64 st.iZ));have QZ:=Lib.hid (iY GY (Nat.le_refl _) (.int .i64 (st.next:Nat)) (.int .i64 (st.status:Nat)) (.int .i64 (st.high:Nat)) (.bool st.ro) (.int .i64 (if st.ro=true then ((st.bX:Nat):Int) else 0)) (.int .i64 (if st.ro=true then st.exp else 0)) (.bool st.due) (.int .i64 st.iZ));have Q0:=Lib.hid (show mV st= #[.int .i64 (st.next:Nat),.int .i64 (st.status:Nat),.int .i64 (st.high:Nat),.bool st.ro,.int .i64 (if st.ro=true then ((st.bX:Nat):Int) else 0),.int .i64 (if st.ro=true then st.exp else 0),.bool st.due,.int .i64 st.iZ] from rfl);clear sw Df GY ze;generalize (if st.ro=true then ((st.bX:Nat):Int) else 0)=q4 at*;generalize (if st.ro=true then st.exp else 0)=q5 at*;go_wp2;clear e0 e1 e2 e3 e4 e5 e6 e7 z0 z1 z2 z3 z4 z5 z6 z7 fz;refine bodyPost_ret (v:= .agg #[.int .i64 (st.next:Nat),.int .i64 (st.status:Nat),.int .i64 (st.high:Nat),.bool st.ro,.int .i64 q4,.int .i64 q5,.bool st.due,.int .i64 st.iZ]) ?_ rfl ?_
 ·rw[fK rfl];obtain ⟨e0,e1,e2,e3,e4,e5,e6,e7⟩:=QY.out.eight;go_simp
  done
 ·exact ⟨by rw[Q0.out],QZ.out⟩
end
end
section
open Go.RowKit Go.Shelf
attribute [local go_sem] Oper.semAt_some
def outside (lo hi x:Int):Bool:=decide (x<lo)||decide (hi<x)
def ints (xs:List Int):List Value:=xs.map (Value.int .i64)
def BR (b:Bool) (w:World) (e:Ending) (w':World):Prop:=((∃k:Nat,e= .returned (.int .i64 k)∧b=true)∨(e= .returned (.int .i64 (-1))∧b=false))∧w=w'
theorem qh (lo hi x:Int) (a b:Nat) (w:World) (ha:w.cell? ⟨a,0,none⟩=some (.int .i64 lo)) (hb:w.cell? ⟨b,0,none⟩=some (.int .i64 hi)):Calls Tryz.prog 169 #[.int .i64 x,.pointer (some ⟨a,0,none⟩),.pointer (some ⟨b,0,none⟩)] w fun e w'=>e= .returned (.bool (outside lo hi x))∧w=w':=by
 by_cases h1:x<lo
 ·have e1:outside lo hi x=true:=by simp[outside,h1]
  have H1:=Lib.hid e1;clear e1;go_enter Tryz.func169,Tryz.ntmps169;go_wp2;go_ret;exact ⟨aG H1.out.symm,rfl⟩
 ·have h1':decide (x<lo)=false:=by simpa using h1
  have e1:decide (hi<x)=outside lo hi x:=by simp[outside,h1']
  have H1:=Lib.hid e1;clear e1;go_enter Tryz.func169,Tryz.ntmps169;go_wp2;go_ret;exact ⟨aG H1.out,rfl⟩
theorem qi (lo hi:Int) (a b r n:Nat) (xs:List Int) (w:World) (hn:xs.length=n) (hsm:n≤1000) (hr:av w r 3 (ints xs).toArray) (ha:w.cell? ⟨a,0,none⟩=some (.int .i64 lo)) (hb:w.cell? ⟨b,0,none⟩=some (.int .i64 hi)):
 Calls Tryz.prog 172 #[.slice (some ⟨r,0,none⟩) n n,.func (.func 169) #[] #[.pointer (some ⟨a,0,none⟩),.pointer (some ⟨b,0,none⟩)]] w (BR (xs.any (outside lo hi)) w):=by
 have HC:=Lib.hid fun x=>qh lo hi x a b w ha hb
 have HL:=Lib.hid hn;clear hn ha hb;go_enter Tryz.func172,Tryz.ntmps172;go_wp2
 go_loop [8] (fun i=>∃k:Nat,k≤n∧i= .int .i64 k∧(xs.take k).any (outside lo hi)=false) (fun i=>n-(intOf i).toNat)
 case atStart=>exact ⟨0,Nat.zero_le _,rfl,by simp⟩
 case round=>
  obtain ⟨k,hk,rfl,hall⟩:=hrel;have HA:=Lib.hid hall;clear hall;by_cases hlt:k<n
  ·have hkl:k<xs.length:=by rw[HL.out];exact hlt
   obtain ⟨x,hx⟩:∃x,xs[k]? =some x:=⟨_,List.getElem?_eq_getElem hkl⟩
   have hcell:=hr.cell k;rw[List.getElem?_toArray,ints,List.getElem?_map,hx] at hcell;simp at hcell;have htk:xs.take (k+1)=xs.take k++ [x]:=by rw[List.take_add_one,hx];rfl
   have hin:x∈xs:=List.mem_of_getElem? hx;have HT:=Lib.hid htk;have HI:=Lib.hid hin;have hcx:=HC.out x;clear htk hin hkl hx;cases hq:outside lo hi x with
   |false=>
    rw[hq] at hcx;have HQ:=Lib.hid hq;have HX:=Lib.hid hcx;clear hq hcx;go_wp2_with (go_at_call 169;refine HX.out.mono ?_;rintro e w' ⟨rfl,rfl⟩)
    go_round
    case rel=>exact ⟨k+1,by omega,by go_num,by rw[HT.out,List.any_append,HA.out];simp[HQ.out]⟩
    case measure=>simp[intOf];omega
   |true=>
    rw[hq] at hcx;have HQ:=Lib.hid hq;have HX:=Lib.hid hcx;clear hq hcx;go_wp2_with (go_at_call 169;refine HX.out.mono ?_;rintro e w' ⟨rfl,rfl⟩);go_ret;exact ⟨.inl ⟨k,rfl,by rw[List.any_eq_true];exact ⟨x,HI.out,HQ.out⟩⟩,rfl⟩
  ·have e:xs.take k=xs:=List.take_of_length_le (by rw[HL.out];omega);have hA:=HA.out;rw[e] at hA;have uY:=Lib.hid hA;clear hA e;go_wp2;go_ret;exact ⟨.inr ⟨rfl,uY.out⟩,rfl⟩
theorem jf (lo hi:Int) (a b r n:Nat) (xs:List Int) (w:World) (hn:xs.length=n) (hsm:n≤1000) (hr:av w r 3 (ints xs).toArray) (ha:w.cell? ⟨a,0,none⟩=some (.int .i64 lo)) (hb:w.cell? ⟨b,0,none⟩=some (.int .i64 hi)):
 Calls Tryz.prog 146 #[.slice (some ⟨r,0,none⟩) n n,.func (.func 169) #[] #[.pointer (some ⟨a,0,none⟩),.pointer (some ⟨b,0,none⟩)]] w fun e w'=>e= .returned (.bool (xs.any (outside lo hi)))∧w=w':=by
 have H:=Lib.hid (qi lo hi a b r n xs w hn hsm hr ha hb);clear hr ha hb;go_enter Tryz.func146,Tryz.ntmps146;go_wp2_with fail;refine H.out.mono ?_;rintro e w' ⟨⟨k,rfl,he⟩|⟨rfl,he⟩,rfl⟩
 ·have HE:=Lib.hid he;clear he;go_wp2;go_ret;exact ⟨aG (by rw[HE.out]),rfl⟩
 ·have HE:=Lib.hid he;clear he;go_wp2;go_ret;exact ⟨aG (by rw[HE.out]),rfl⟩
theorem DR (lo hi:Int) (r n:Nat) (xs:List Int) (w:World) (hn:xs.length=n) (hsm:n≤1000) (hr:av w r 3 (ints xs).toArray):
 Calls Tryz.prog 141 #[.int .i64 lo,.int .i64 hi,.slice (some ⟨r,0,none⟩) n n] w fun e w'=>e= .returned (.bool (!xs.any (outside lo hi)))∧Below w.heap.size w w':=by
 have ba:=(av.new w 3 #[.int .i64 lo]).alloc (.cells #[.int .i64 hi] 3);have bb:=av.new (w.alloc (.cells #[.int .i64 lo] 3)) 3 #[.int .i64 hi];have br:=(hr.alloc (.cells #[.int .i64 lo] 3)).alloc (.cells #[.int .i64 hi] 3);simp only[World.size_alloc] at bb;have ca:=ba.cell 0;have cb:=bb.cell 0;rw[List.getElem?_toArray] at ca cb;simp only[List.getElem?_cons_zero] at ca cb;have hc:=jf lo hi w.heap.size (w.heap.size+1) r n xs ((w.alloc (.cells #[.int .i64 lo] 3)).alloc (.cells #[.int .i64 hi] 3)) hn hsm br ca cb;have H:=Lib.hid hc;clear ba bb br ca cb hc hr;go_enter Tryz.func141,Tryz.ntmps141;go_wp2_with (go_at_call 146;refine H.out.mono ?_;rintro e w' ⟨rfl,rfl⟩);go_ret;exact ⟨rfl,((Below.refl _ _).alloc (Nat.le_refl _) _).alloc (by simp) _⟩
def within (lo hi:Int) (xs:List Int):Bool:= !xs.any (outside lo hi)
def gK (a0 a1 a2 a3 a4 a5 a6:Int):Bool:=within 0 1024 [a0]&&(within 0 1048576 [a1]&&(within 1 1048576 [a2]&&(within 0 1048576 [a3,a4]&&(within 0 64 [a5]&&within 1 1048576 [a6]))))
def BS (a0 a1 a2 a3 a4 a5 a6:Int):Array Value:= #[.int .i64 a0,.int .i64 a1,.int .i64 a2,.int .i64 a3,.int .i64 a4,.int .i64 a5,.int .i64 a6]
def iR (w:World) (g:Nat) (a0 a1 a2 a3 a4 a5 a6:Int) (W:World):Prop:=av W g 30 (BS a0 a1 a2 a3 a4 a5 a6)∧Below w.heap.size w W
theorem iR.seven {w W:World} {g:Nat} {a0 a1 a2 a3 a4 a5 a6:Int} (h:iR w g a0 a1 a2 a3 a4 a5 a6 W):W.cell? ⟨g,0,none⟩=some (.int .i64 a0)∧W.cell? ⟨g,1,none⟩=some (.int .i64 a1)∧W.cell? ⟨g,2,none⟩=some (.int .i64 a2)∧W.cell? ⟨g,3,none⟩=some (.int .i64 a3)∧W.cell? ⟨g,4,none⟩=some (.int .i64 a4)∧W.cell? ⟨g,5,none⟩=some (.int .i64 a5)∧W.cell? ⟨g,6,none⟩=some (.int .i64 a6):=
 ⟨h.1.cell 0,h.1.cell 1,h.1.cell 2,h.1.cell 3,h.1.cell 4,h.1.cell 5,h.1.cell 6⟩
theorem iR.new (w:World) (a0 a1 a2 a3 a4 a5 a6:Int):iR w w.heap.size a0 a1 a2 a3 a4 a5 a6 (w.alloc (.cells #[.int .i64 a0,.int .i64 a1,.int .i64 a2,.int .i64 a3,.int .i64 a4,.int .i64 a5,.int .i64 a6] 30)):=⟨av.new w 30 _,(Below.refl _ _).alloc (Nat.le_refl _) _⟩
theorem iG (lo hi:Int) (xs:List Int) (cs:Array Value) (hcs:cs=(ints xs).toArray) (n r:Nat) (hn:xs.length=n) (hsm:n≤1000) {w W:World} {g:Nat} {a0 a1 a2 a3 a4 a5 a6:Int} (h:iR w g a0 a1 a2 a3 a4 a5 a6 W) (hr:W.heap.size=r):
 Calls Tryz.prog 141 #[.int .i64 lo,.int .i64 hi,.slice (some ⟨r,0,none⟩) n n] (W.alloc (.cells cs 3)) fun e w'=>e= .returned (.bool (within lo hi xs))∧iR w g a0 a1 a2 a3 a4 a5 a6 w':=by
 subst hcs hr;refine (DR lo hi W.heap.size n xs _ hn hsm (av.new W 3 _)).mono ?_;rintro e w' ⟨rfl,hk⟩;have hk2:=hk.mono (B':=w.heap.size) (by have:=h.2.size;simp;omega);have h0:=h.2.alloc h.2.size (.cells (ints xs).toArray 3);exact ⟨rfl,(h.1.alloc _).below hk (by have:=h.1.lt;simp;omega),h0.trans hk2⟩
theorem dP (lo hi x:Int) (r:Nat) {w W:World} {g:Nat} {a0 a1 a2 a3 a4 a5 a6:Int} (h:iR w g a0 a1 a2 a3 a4 a5 a6 W) (hr:W.heap.size=r):
 Calls Tryz.prog 141 #[.int .i64 lo,.int .i64 hi,.slice (some ⟨r,0,none⟩) 1 1] (W.alloc (.cells #[.int .i64 x] 3)) fun e w'=>e= .returned (.bool (within lo hi [x]))∧iR w g a0 a1 a2 a3 a4 a5 a6 w':=
 iG lo hi [x] _ rfl 1 r rfl (by decide) h hr
theorem dQ (lo hi x y:Int) (r:Nat) {w W:World} {g:Nat} {a0 a1 a2 a3 a4 a5 a6:Int} (h:iR w g a0 a1 a2 a3 a4 a5 a6 W) (hr:W.heap.size=r):
 Calls Tryz.prog 141 #[.int .i64 lo,.int .i64 hi,.slice (some ⟨r,0,none⟩) 2 2] (W.alloc (.cells #[.int .i64 x,.int .i64 y] 3)) fun e w'=>e= .returned (.bool (within lo hi [x,y]))∧iR w g a0 a1 a2 a3 a4 a5 a6 w':=
 iG lo hi [x,y] _ rfl 2 r rfl (by decide) h hr
set_option maxRecDepth 100000 in
set_option maxHeartbeats 1000000 in
theorem uM (a0 a1 a2 a3 a4 a5 a6:Int) (w:World):Calls Tryz.prog 98 #[.agg (BS a0 a1 a2 a3 a4 a5 a6)] w fun e w'=>e= .returned (.bool (gK a0 a1 a2 a3 a4 a5 a6))∧Below w.heap.size w w':=by
 have hc:=iR.new w a0 a1 a2 a3 a4 a5 a6;obtain ⟨b,hb⟩:∃b,gK a0 a1 a2 a3 a4 a5 a6=b:=⟨_,rfl⟩
 rw[hb];unfold gK at hb;unfold BS;go_enter Tryz.func98,Tryz.ntmps98;go_wp2_with fail;have hz:=World.size_alloc w (.cells #[.int .i64 a0,.int .i64 a1,.int .i64 a2,.int .i64 a3,.int .i64 a4,.int .i64 a5,.int .i64 a6] 30);generalize w.alloc (.cells #[.int .i64 a0,.int .i64 a1,.int .i64 a2,.int .i64 a3,.int .i64 a4,.int .i64 a5,.int .i64 a6] 30)=w0 at*;obtain ⟨x0,x1,x2,x3,x4,x5,x6⟩:=hc.seven;cases h1:within 0 1024 [a0] with
 |false=>
  simp[h1] at hb;subst hb;go_wp2_with (go_at_call 141;first
   |((with_reducible refine (dQ _ _ _ _ _ (by assumption) (by first|assumption|exact rfl)).mono ?_);rintro e w9 ⟨rfl,hc⟩;obtain ⟨x0,x1,x2,x3,x4,x5,x6⟩:=hc.seven)
   |((with_reducible refine (dP _ _ _ _ (by assumption) (by first|assumption|exact rfl)).mono ?_);rintro e w9 ⟨rfl,hc⟩;obtain ⟨x0,x1,x2,x3,x4,x5,x6⟩:=hc.seven))
  go_ret;exact ⟨rfl,(by assumption:iR w _ a0 a1 a2 a3 a4 a5 a6 _).2⟩
 |true=>
 cases h2:within 0 1048576 [a1] with
 |false=>
  simp[h1,h2] at hb;subst hb;go_wp2_with (go_at_call 141;first
   |((with_reducible refine (dQ _ _ _ _ _ (by assumption) (by first|assumption|exact rfl)).mono ?_);rintro e w9 ⟨rfl,hc⟩;obtain ⟨x0,x1,x2,x3,x4,x5,x6⟩:=hc.seven)
   |((with_reducible refine (dP _ _ _ _ (by assumption) (by first|assumption|exact rfl)).mono ?_);rintro e w9 ⟨rfl,hc⟩;obtain ⟨x0,x1,x2,x3,x4,x5,x6⟩:=hc.seven))
  go_ret;exact ⟨rfl,(by assumption:iR w _ a0 a1 a2 a3 a4 a5 a6 _).2⟩
 |true=>
 cases h3:within 1 1048576 [a2] with
 |false=>
  simp[h1,h2,h3] at hb;subst hb;go_wp2_with (go_at_call 141;first
   |((with_reducible refine (dQ _ _ _ _ _ (by assumption) (by first|assumption|exact rfl)).mono ?_);rintro e w9 ⟨rfl,hc⟩;obtain ⟨x0,x1,x2,x3,x4,x5,x6⟩:=hc.seven)
   |((with_reducible refine (dP _ _ _ _ (by assumption) (by first|assumption|exact rfl)).mono ?_);rintro e w9 ⟨rfl,hc⟩;obtain ⟨x0,x1,x2,x3,x4,x5,x6⟩:=hc.seven))
  go_ret;exact ⟨rfl,(by assumption:iR w _ a0 a1 a2 a3 a4 a5 a6 _).2⟩
 |true=>
 cases h4:within 0 1048576 [a3,a4] with
 |false=>
  simp[h1,h2,h3,h4] at hb;subst hb;go_wp2_with (go_at_call 141;first
   |((with_reducible refine (dQ _ _ _ _ _ (by assumption) (by first|assumption|exact rfl)).mono ?_);rintro e w9 ⟨rfl,hc⟩;obtain ⟨x0,x1,x2,x3,x4,x5,x6⟩:=hc.seven)
   |((with_reducible refine (dP _ _ _ _ (by assumption) (by first|assumption|exact rfl)).mono ?_);rintro e w9 ⟨rfl,hc⟩;obtain ⟨x0,x1,x2,x3,x4,x5,x6⟩:=hc.seven))
  go_ret;exact ⟨rfl,(by assumption:iR w _ a0 a1 a2 a3 a4 a5 a6 _).2⟩
 |true=>
 cases h5:within 0 64 [a5] with
 |false=>
  simp[h1,h2,h3,h4,h5] at hb;subst hb;go_wp2_with (go_at_call 141;first
   |((with_reducible refine (dQ _ _ _ _ _ (by assumption) (by first|assumption|exact rfl)).mono ?_);rintro e w9 ⟨rfl,hc⟩;obtain ⟨x0,x1,x2,x3,x4,x5,x6⟩:=hc.seven)
   |((with_reducible refine (dP _ _ _ _ (by assumption) (by first|assumption|exact rfl)).mono ?_);rintro e w9 ⟨rfl,hc⟩;obtain ⟨x0,x1,x2,x3,x4,x5,x6⟩:=hc.seven))
  go_ret;exact ⟨rfl,(by assumption:iR w _ a0 a1 a2 a3 a4 a5 a6 _).2⟩
 |true=>
 have h6:within 1 1048576 [a6]=b:=by simpa[h1,h2,h3,h4,h5] using hb
 clear hb;go_wp2_with (go_at_call 141;first
  |((with_reducible refine (dQ _ _ _ _ _ (by assumption) (by first|assumption|exact rfl)).mono ?_);rintro e w9 ⟨rfl,hc⟩;obtain ⟨x0,x1,x2,x3,x4,x5,x6⟩:=hc.seven)
  |((with_reducible refine (dP _ _ _ _ (by assumption) (by first|assumption|exact rfl)).mono ?_);rintro e w9 ⟨rfl,hc⟩;obtain ⟨x0,x1,x2,x3,x4,x5,x6⟩:=hc.seven))
 go_ret;exact ⟨rfl,(by assumption:iR w _ a0 a1 a2 a3 a4 a5 a6 _).2⟩
end
end Go.Proofs.YtiecgfahidpldaaGreat
