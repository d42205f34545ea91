/- amrecv: Receive. amrecv: State, Pending, Tick; the methods of no receiver. amrecv: New: its configuration. amrecv: sizes of what is stored; a receiver whose memory lies from base on. An acknowledged mode entity in memory: a transmitter beside a receiver; each a set of blocks. amrecv: a transmitter's PDUs received in any order, whole or in pieces (plain). -/
import Derived.Test.YtbhiklnljiehiaaGreatM0ad
import Derived.Test.YtbhiklnljiehiaaGreatM0aj
import Derived.Test.YtbhiklnljiehiaaGreatM0ak
import Derived.Test.YtbhiklnljiehiaaGreatM0al
import Derived.Test.YtbhiklnljiehiaaGreatM0ap
import Derived.Test.YtbhiklnljiehiaaGreatM0aq
import Derived.Test.YtbhiklnljiehiaaGreatM0at
import Derived.Test.YtbhiklnljiehiaaGreatM0au
import Derived.Test.YtbhiklnljiehiaaGreatM0av
import Derived.Test.YtbhiklnljiehiaaGreatM0aw
import Derived.StillTailTactics
namespace Go.Proofs.YtbhiklnljiehiaaGreat
section
open Go.RowKit Go.Shelf
attribute [local go_sem] Oper.semAt_some
section
variable {w w' W W':World} {T T':Nat→Nat} {g M n:Nat} {c:Cf} {st:Rc} {vo v:Value}
def Sn (w:World) (T:Nat→Nat) (g M n:Nat) (c:Cf) (R:Rc × List (List UInt8) × Nat) (e:Ending) (w':World):Prop:=
 ∃T' zI v n',e= .returned (.tuple #[v,.int .i64 (R.2.2:Nat)])∧fV w' T' g M n' c R.1 zI∧n'≤n+1∧(∀k,k<w.heap.size→T' k=T k)∧Kept (MT T) w w'∧fK w' w.heap.size T' v R.2.1
theorem fV.zero (h:fV w T g M n c st vo) {k:Nat} (hk:w.heap.size≤k):T k=0:=by
 rcases Nat.eq_zero_or_pos (T k) with e|e
 ·exact e
 ·have:=h.lt k (by omega);omega
theorem jf.behind {Q:Nat→Obj→Prop} (h:Kept (MT T) w W) (h2:Kept Q W W') (hq:∀k o,k<w.heap.size→Q k o→T k≠0):Kept (MT T) w W':=
 ⟨h2.os.trans h.os,h2.tape.trans h.tape,h2.output.trans h.output,Nat.le_trans h.size h2.size,fun i o hi hn=>h2.same i o (h.same i o hi hn) (fun hm=>hn (hq i o (lt_of_heap hi) hm))⟩
theorem eH.lie {base:Nat} {x:Value} {ps:List (List UInt8)} (h:eH w base x ps):∃A c vs,x= .slice A ps.length c∧jg w w.heap.size A ps.length c vs ps∧(∀ad,A=some ad→base≤ad.block∧ad.block<w.heap.size)∧∀(i:Nat) u ad,vs[i]? =some u→sOf u=some ad→base≤ad.block∧ad.block<w.heap.size:=by
 obtain ⟨vs,g,cap,data,h1,h2,h3⟩:=h;obtain ⟨A,c,rfl,hs,_⟩:=aZ h1;have hl:=h1.1;refine ⟨A,c,vs,rfl,⟨hs,rfl,fun i p hi=> ?_⟩,fun ad e=>h1.lt ad.block (by rw[e];rfl),fun i u ad hu e=> ?_⟩
 ·obtain ⟨off,ci,e,hc1,hc2,hp⟩:=h3 i p hi;refine ⟨_,ci,e,⟨by simp,hc1,hc2,fun hpos=>⟨_,rfl,(h2.lt g rfl).2,fun j u hu=> ?_⟩⟩⟩;have hj:j<p.length:=by
   have:=(List.getElem?_eq_some_iff.1 hu).1;simpa using this
  have hcell:=h2.cells (g:=g) rfl (off+j) u (by
   unfold bV at hu ⊢;rw[List.getElem?_map] at hu ⊢;rw[hp,List.getElem?_take,if_pos hj,List.getElem?_drop] at hu;exact hu)
  have e2:(⟨g,off,none⟩:Addr).add j=(⟨g,0,none⟩:Addr).add (off+j):=by
   unfold Addr.add;by_cases hj0:j=0
   ·subst hj0;by_cases ho:off=0
    ·simp[ho]
    ·simp[ho]
   ·simp[hj0]
  rw[e2];exact hcell
 ·have hi:=(List.getElem?_eq_some_iff.1 hu).1;obtain ⟨off,ci,e2,_⟩:=h3 i _ (List.getElem?_eq_getElem (by omega));rw[hu] at e2;cases e2;cases e;exact h2.lt g rfl
structure QZ (w:World) (T0 T:Nat→Nat) (g M n:Nat) (c:Cf) (p:Nat) (X:Array Value) (W:World) (s:Rc) (vo:Value):Prop where
 rc:fV W T g M n c s vo
 bo:au W w.heap.size 37 #[.slice none 0 0]
 be:au W (w.heap.size+1) 53 #[.int .i64 0]
 bx:au W p 148 X
 kp:Kept (MT T0) w W
 tt:∀k,k<w.heap.size→T k=T0 k
 t0:T w.heap.size=0
 t1:T (w.heap.size+1)=0
 t2:T p=0
theorem QZ.put {T0:Nat→Nat} {p:Nat} {X:Array Value} {s s':Rc} (h:QZ w T0 T g M n c p X W s vo) (i:Nat) (u:Value) (he:(J3 c M vo s).setIfInBounds i u=J3 c M vo s') (hm:s'.m=s.m) (ho:s'.op=s.op):QZ w T0 T g M n c p X (W.setCell ⟨g,i,none⟩ u) s' vo:=by
 have hg:=h.rc.tg;have h0:=h.t0;have h1:=h.t1;have h2:=h.t2;exact ⟨h.rc.put i u he hm ho,h.bo.far (p:=⟨g,i,none⟩) (fun (e:w.heap.size=g)=>by rw[e] at h0;omega) u,h.be.far (p:=⟨g,i,none⟩) (fun (e:w.heap.size+1=g)=>by rw[e] at h1;omega) u,h.bx.far (p:=⟨g,i,none⟩) (fun (e:p=g)=>by rw[e] at h2;omega) u,
  jf.behind h.kp ((Kept.refl (fun k _=>k=g) W).setCell (p:=⟨g,i,none⟩) (fun _ _=>rfl) u) (fun k o hk e=>by have:=h.tt k hk;subst e;omega),h.tt,h0,h1,h2⟩
theorem QZ.below {T0:Nat→Nat} {p:Nat} {X:Array Value} {s:Rc} (h:QZ w T0 T g M n c p X W s vo) (hb:Below W.heap.size W W'):QZ w T0 T g M n c p X W' s vo:=
 ⟨h.rc.below hb,h.bo.below hb h.bo.lt,h.be.below hb h.be.lt,h.bx.below hb h.bx.lt,jf.behind h.kp (Kept.of_below hb) (fun k o hk e=>by have:=h.kp.size;omega),h.tt,h.t0,h.t1,h.t2⟩
theorem fK.over {base:Nat} {outs:List (List UInt8)} (h:fK W base T v outs) (hk:∀k,base≤k→W'.heap[k]? =W.heap[k]?):fK W' base T v outs:=by
 obtain ⟨vs,h1,h2,h3⟩:=h;exact ⟨vs,cO h1 fun k e=>hk k (h1.lt k e).1,h2,fun i q hi=>let ⟨vi,e,ho,ht⟩:=h3 i q hi;⟨vi,e,cO ho fun k e=>hk k (ho.lt k e).1,ht⟩⟩
structure KN (w:World) (T0 T:Nat→Nat) (g M n:Nat) (c:Cf) (v:Value) (outs:List (List UInt8)) (W:World) (s:Rc) (vo:Value):Prop where
 rc:fV W T g M n c s vo
 bo:au W w.heap.size 37 #[v]
 be:au W (w.heap.size+1) 53 #[.int .i64 0]
 kp:Kept (MT T0) w W
 tt:∀k,k<w.heap.size→T k=T0 k
 t0:T w.heap.size=0
 t1:T (w.heap.size+1)=0
 out:fK W w.heap.size T v outs
theorem KN.turn {T0:Nat→Nat} {outs:List (List UInt8)} {s s':Rc} (h:KN w T0 T g M n c v outs W s vo) (hr:fV W' T g M n c s' vo) (hk:Kept (MT T) W W'):KN w T0 T g M n c v outs W' s' vo:=
 ⟨hr,h.bo.kept hk (fun hm=>hm h.t0),h.be.kept hk (fun hm=>hm h.t1),jf.behind h.kp hk (fun k o hl e=>by rw[←h.tt k hl];exact e),h.tt,h.t0,h.t1,h.out.stay hk fun _ _=>rfl⟩
theorem KN.put {T0:Nat→Nat} {outs:List (List UInt8)} {s s':Rc} (h:KN w T0 T g M n c v outs W s vo) (i:Nat) (u:Value) (he:(J3 c M vo s).setIfInBounds i u=J3 c M vo s') (hm:s'.m=s.m) (ho:s'.op=s.op):KN w T0 T g M n c v outs (W.setCell ⟨g,i,none⟩ u) s' vo:=
 h.turn (h.rc.put i u he hm ho) ((Kept.refl _ W).setCell (p:=⟨g,i,none⟩) (fun o _=>by show T g≠0;rw[h.rc.tg];omega) u)
theorem KN.drewN {T0:Nat→Nat} {outs:List (List UInt8)} {s:Rc} (h:KN w T0 T g M n c v outs W s vo) (q:Nat):KN w T0 T g M n c v outs (W.drewN q) s vo:=h.turn (h.rc.drewN q) ((Kept.refl _ W).drewN q)
theorem KN.fin {T0:Nat→Nat} {outs:List (List UInt8)} {s:Rc} (h:KN w T0 T g M (n+1) c v outs W s vo):
 au ((W.setCell ⟨w.heap.size,0,none⟩ v).setCell ⟨w.heap.size+1,0,none⟩ (.int .i64 0)) w.heap.size 37 #[v]∧au ((W.setCell ⟨w.heap.size,0,none⟩ v).setCell ⟨w.heap.size+1,0,none⟩ (.int .i64 0)) (w.heap.size+1) 53 #[.int .i64 0]∧
 Sn w T0 g M n c (s,outs,0) (.returned (.tuple #[v,.int .i64 0])) ((W.setCell ⟨w.heap.size,0,none⟩ v).setCell ⟨w.heap.size+1,0,none⟩ (.int .i64 0)):=by
 have hk:Kept (fun k _=>k=w.heap.size∨k=w.heap.size+1) W ((W.setCell ⟨w.heap.size,0,none⟩ v).setCell ⟨w.heap.size+1,0,none⟩ (.int .i64 0)):=((Kept.refl _ W).setCell (p:=⟨w.heap.size,0,none⟩) (fun _ _=> .inl rfl) _).setCell (p:=⟨w.heap.size+1,0,none⟩) (fun _ _=> .inr rfl) _;have hb:=(h.bo.av 0 v).far (p:=⟨w.heap.size+1,0,none⟩) (by simp) (.int .i64 0);have he:=(h.be.far (p:=⟨w.heap.size,0,none⟩) (by simp) v).av 0 (.int .i64 0);simp at hb he;refine ⟨hb,he,T,vo,v,n+1,rfl,h.rc.far hk (fun k o e=> ?_),Nat.le_refl _,h.tt,jf.behind h.kp hk (fun k o hk e=>by omega),?_⟩
 ·rcases e with e|e
  ·rw[e];exact h.t0
  ·rw[e];exact h.t1
 ·
  obtain ⟨vs,h1,h2,h3⟩:=h.out;have hne:∀{e:TypeId} {y:Value} {k:Nat} {xs:List Value},W.ownsRow w.heap.size e 1 y k xs→(e=31∨e=5)→∀j,y.ownBlock=some j→((W.setCell ⟨w.heap.size,0,none⟩ v).setCell ⟨w.heap.size+1,0,none⟩ (.int .i64 0)).heap[j]? =W.heap[j]? :=fun {e y k xs} hy ht j hj=>by
   have n1:j≠w.heap.size:=fun e2=>by
    subst e2;exact aI hy h.bo (by rcases ht with rfl|rfl<;>decide) hj
   have n2:j≠w.heap.size+1:=fun e2=>by
    subst e2;exact aI hy h.be (by rcases ht with rfl|rfl<;>decide) hj
   rw[Below.heap_setCell _ _ _ j n2,Below.heap_setCell _ _ _ j n1]
  exact ⟨vs,cO h1 (hne h1 (.inl rfl)),h2,fun i q hi=>let ⟨vi,e,ho,ht⟩:=h3 i q hi;⟨vi,e,cO ho (hne ho (.inr rfl)),ht⟩⟩
set_option maxRecDepth 100000 in
set_option maxHeartbeats 8000000 in
theorem DF (h:fV w T g M n c st vo) (ho:dH st) (hcf:Wl c) (hn:n<maxLen) (now:Int) (gQ:now≤9223372036854775807) (A:Option Addr) (l cp:Nat) (bs:List UInt8) (hA:∀W,Kept (MT T) w W→Sl W W.heap.size A l cp (bV bs)) (hsm:l≤1000000):
 Calls Tryz.prog 57 #[.pointer (some ⟨g,0,none⟩),.int .i64 now,.slice A l cp] w (Sn w T g M n c (jr c st now bs)):=by
 obtain ⟨R,hR⟩:∃R,R=jr c st now bs:=⟨_,rfl⟩
 rw[←hR];have jQ:Tryz.prog.follows .mixedOrders=true:=by kernel_rfl
 have hTa:∀k,w.heap.size≤k→T k=0:=fun k hk=>h.zero hk
 have h0:=(h.alloc (.cells #[.slice none 0 0] 37)).alloc (.cells #[.int .i64 0] 53);have hk0:Kept (MT T) w ((w.alloc (.cells #[.slice none 0 0] 37)).alloc (.cells #[.int .i64 0] 53)):=((Kept.refl _ w).alloc _).alloc _;have bo0:=(au.new w 37 #[.slice none 0 0]).alloc (.cells #[.int .i64 0] 53);have wD:=au.new (w.alloc (.cells #[.slice none 0 0] 37)) 53 #[.int .i64 0];rw[World.size_alloc] at wD;have HT0:=Lib.hid hTa;have HA:=Lib.hid hA;have HO:=Lib.hid (ho.goes c gQ);have QO:=Lib.hid hcf;unfold jr at hR;have HR:=Lib.hid hR;have Zj:=Lib.hid h.tg;have hno:=mX h0;have hgo:=vz h0 ho hcf now gQ;have KE:=Lib.hid hno;have qI:=Lib.hid hgo;have HK0:=Lib.hid hk0;have hgl:=h.blk.lt;clear h ho hcf hTa h0 hA gQ hR hno hgo hk0;generalize dP c st now=s1 at*
 go_enter_defers Tryz.func57,Tryz.ntmps57
 go_wp2_with fail;refine KE.out.mono ?_;rintro e1 w0' ⟨rfl,hw0⟩;have hsz0:((w.alloc (.cells #[.slice none 0 0] 37)).alloc (.cells #[.int .i64 0] 53)).heap.size=w.heap.size+2:=by simp
 generalize (w.alloc (.cells #[.slice none 0 0] 37)).alloc (.cells #[.int .i64 0] 53)=w0 at*;subst hw0;go_upto_region 4 with (fail)
 go_wp2_with (go_at_call 80;refine qI.out.mono ?_;rintro e2 w1 ⟨rfl,h1,hk1⟩);have Vp:=HK0.out.trans hk1;have zD:=bo0.kept hk1 (fun hh=>hh (HT0.out _ (Nat.le_refl _)));have rT:=wD.kept hk1 (fun hh=>hh (HT0.out _ (by omega)));have hs1:=HA.out w1 Vp;have hsz1:=hk1.size;have hDA:=EA A l cp bs w1 hs1 hsm;have HDA:=Lib.hid hDA;have H1:=Lib.hid h1;have vg:=Lib.hid Vp;clear Vp hk1 hs1 hDA h1 KE qI HA HK0 bo0 wD;refine HDA.out.mono ?_;rintro e3 w2 ⟨hb2,hres⟩;have bo2:=zD.below hb2 zD.lt;have oV:=rT.below hb2 rT.lt;have h2:=H1.out.below hb2;have hk2:=jf.trans vg.out (pR hb2) (fun _ _=>rfl);have hsz2:=hb2.size;have HB2:=Lib.hid hb2;have H2:=Lib.hid h2;have xP:=Lib.hid hk2;clear hb2 h2 hk2 H1 vg HDA zD rT;rcases hres with ⟨er,hd,rfl⟩|⟨x,A3,c3,hd,rfl,hpo⟩
 ·have hR2:R=(s1,[],er):=by
   rw[HR.out,hd]
  have hne:=NN bs er hd;have hne2:((er:Int)==0)=false:=by simp;omega
  have HR2:=Lib.hid hR2;have ZH:=(bo2.far (p:=⟨w.heap.size+1,0,none⟩) (by simp) (.int .i64 (er:Nat))).alloc (.cells #[.int .i64 0,.bool false,.bool false,.bool false,.int .i64 0,.bool false,.bool false,.slice none 0 0] 148);have nK:=(oV.av 0 (.int .i64 (er:Nat))).alloc (.cells #[.int .i64 0,.bool false,.bool false,.bool false,.int .i64 0,.bool false,.bool false,.slice none 0 0] 148);have h3:=(H2.out.far ((Kept.refl (fun k _=>k=w.heap.size+1) _).setCell (p:=⟨w.heap.size+1,0,none⟩) (fun _ _=>rfl) (.int .i64 (er:Nat))) (fun k o hk=>HT0.out k (by omega))).alloc (.cells #[.int .i64 0,.bool false,.bool false,.bool false,.int .i64 0,.bool false,.bool false,.slice none 0 0] 148);have hk3:=(jf.behind xP.out ((Kept.refl (fun k _=>k=w.heap.size+1) _).setCell (p:=⟨w.heap.size+1,0,none⟩) (fun _ _=>rfl) (.int .i64 (er:Nat))) (fun k o hk e=>by omega)).alloc (.cells #[.int .i64 0,.bool false,.bool false,.bool false,.int .i64 0,.bool false,.bool false,.slice none 0 0] 148);simp at nK;have Q0:=Lib.hid ZH;have OG:=Lib.hid nK;have H3:=Lib.hid h3;have lJ:=Lib.hid hk3;have f2:=oV.frozen 0;have c2:=oV.cell 0;have hbl:=oV.lt;simp at c2;clear hR2 hd hne HR ZH nK h3 hk3 bo2 oV;unfold bq;go_upto_region 6 with (fail)
  generalize (w2.setCell ⟨w.heap.size+1,0,none⟩ (.int .i64 (er:Nat))).alloc (.cells #[.int .i64 0,.bool false,.bool false,.bool false,.int .i64 0,.bool false,.bool false,.slice none 0 0] 148)=w3 at*;have c3:=OG.out.cell 0;simp at c3;clear c2 f2;go_wp2_with (go_at_call 96;refine (lW _ _).mono ?_;rintro e4 w4 ⟨rfl,rfl⟩);refine zk _ _ _ _ _ _ _ rfl rfl (by omega) Q0.out OG.out fun W' hW=> ?_
  rw[HR2.out];exact ⟨T,vo,_,n,rfl,H3.out.far hW (fun k o hk=>HT0.out k (by omega)),by omega,fun _ _=>rfl,jf.behind lJ.out hW (fun k o hk e=>by omega),fK.nil _ _ _⟩
 ·have hR2:R=JY c s1 x:=by rw[HR.out,hd]
  have hx:=Jt hd;have HR2:=Lib.hid hR2;have HX:=Lib.hid hx;have hsn:=hx.sn;clear hR2 hd HR hx;have ZH:=(bo2.far (p:=⟨w.heap.size+1,0,none⟩) (by simp) (.int .i64 0)).alloc (.cells (bq x.sn x.po x.sg x.la x.off x.s x.e A3 x.ps.length c3) 148);have nK:=(oV.av 0 (.int .i64 0)).alloc (.cells (bq x.sn x.po x.sg x.la x.off x.s x.e A3 x.ps.length c3) 148);have h3:=(H2.out.far ((Kept.refl (fun k _=>k=w.heap.size+1) _).setCell (p:=⟨w.heap.size+1,0,none⟩) (fun _ _=>rfl) (.int .i64 0)) (fun k o hk=>HT0.out k (by omega))).alloc (.cells (bq x.sn x.po x.sg x.la x.off x.s x.e A3 x.ps.length c3) 148);have hk3:=(jf.behind xP.out ((Kept.refl (fun k _=>k=w.heap.size+1) _).setCell (p:=⟨w.heap.size+1,0,none⟩) (fun _ _=>rfl) (.int .i64 0)) (fun k o hk e=>by omega)).alloc (.cells (bq x.sn x.po x.sg x.la x.off x.s x.e A3 x.ps.length c3) 148);have bx3:=au.new (w2.setCell ⟨w.heap.size+1,0,none⟩ (.int .i64 0)) 148 (bq x.sn x.po x.sg x.la x.off x.s x.e A3 x.ps.length c3);rw[World.size_setCell] at bx3;have ZI:eH ((w2.setCell ⟨w.heap.size+1,0,none⟩ (.int .i64 0)).alloc (.cells (bq x.sn x.po x.sg x.la x.off x.s x.e A3 x.ps.length c3) 148)) w1.heap.size (.slice A3 x.ps.length c3) x.ps:=hpo.kept fun k o hk ho=>by
   have:=lt_of_heap ho;rw[Below.heap_alloc _ _ k (by simp;omega),Below.heap_setCell _ _ _ k (by simp;omega)];exact ho
  simp at nK;have Q0:=Lib.hid ZH;have OG:=Lib.hid nK;have ZJ:=Lib.hid bx3;have H3:=Lib.hid h3;have lJ:=Lib.hid hk3;have Vq:=Lib.hid ZI;have f2:=oV.frozen 0;have c2:=oV.cell 0;have hbl:=oV.lt;simp at c2;clear hpo ZH nK bx3 h3 hk3 ZI bo2 oV;unfold bq at Q0 OG ZJ H3 lJ Vq;unfold bq;go_upto_region 6 with (fail)
  have KO:((w2.setCell ⟨w.heap.size+1,0,none⟩ (.int .i64 0)).alloc (.cells #[.int .i64 (x.sn:Nat),.bool x.po,.bool x.sg,.bool x.la,.int .i64 (x.off:Nat),.bool x.s,.bool x.e,.slice A3 x.ps.length c3] 148)).heap.size=w2.heap.size+1:=by simp
  generalize (w2.setCell ⟨w.heap.size+1,0,none⟩ (.int .i64 0)).alloc (.cells #[.int .i64 (x.sn:Nat),.bool x.po,.bool x.sg,.bool x.la,.int .i64 (x.off:Nat),.bool x.s,.bool x.e,.slice A3 x.ps.length c3] 148)=w3 at*;generalize w2.heap.size=p at*;have c3e:=OG.out.cell 0;simp at c3e;have c3o:=Q0.out.cell 0;simp at c3o;obtain ⟨z0,z1,z2,z3,z4,z5,z6,z7⟩:=ZJ.out.eight;have hpc:=yC H3.out HO.out x.sn hsn;have ZK:=Lib.hid hpc;clear c2 f2 hpc z2 z3 z4 z5 z6 z7;go_upto_if 30 with (first
   |(go_at_call 96;refine (nY _ _).mono ?_;rintro e4 w4 ⟨rfl,rfl⟩)
   |(go_at_call 97;refine ZK.out.mono ?_;rintro e5 w5 ⟨rfl,rfl⟩))
  by_cases hpl:512≤bX s1 x.sn
  ·have zG:R=({s1 with due:=s1.due||x.po},[],0):=by rw[HR2.out];unfold JY;rw[if_pos hpl]
   have HR4:=Lib.hid zG;have aea:(512:Int)≤(bX s1 x.sn:Nat):=by omega
   clear HR2 zG;obtain ⟨_,_,_,_,_,_,_,_,_,Bq,_⟩:=H3.out.cells;have f14:=H3.out.blk.frozen 14;have fo:=Q0.out.frozen 0;have fe:=OG.out.frozen 0;have hk5:∀b9:Bool,Kept (fun k _=>k=g∨k=w.heap.size∨k=w.heap.size+1) w3 (((w3.setCell ⟨g,14,none⟩ (.bool b9)).setCell ⟨w.heap.size,0,none⟩ (.slice none 0 0)).setCell ⟨w.heap.size+1,0,none⟩ (.int .i64 0)):=fun b9=>(((Kept.refl _ w3).setCell (p:=⟨g,14,none⟩) (fun _ _=> .inl rfl) _).setCell (p:=⟨w.heap.size,0,none⟩) (fun _ _=> .inr (.inl rfl)) _).setCell (p:=⟨w.heap.size+1,0,none⟩) (fun _ _=> .inr (.inr rfl)) _
   have hbo:∀b9:Bool,au (((w3.setCell ⟨g,14,none⟩ (.bool b9)).setCell ⟨w.heap.size,0,none⟩ (.slice none 0 0)).setCell ⟨w.heap.size+1,0,none⟩ (.int .i64 0)) w.heap.size 37 #[.slice none 0 0]:=fun b9=>by
    have:=((Q0.out.far (p:=⟨g,14,none⟩) (by show w.heap.size≠g;omega) (.bool b9)).av 0 (.slice none 0 0)).far (p:=⟨w.heap.size+1,0,none⟩) (by simp) (.int .i64 0);simpa using this
   have hbe:∀b9:Bool,au (((w3.setCell ⟨g,14,none⟩ (.bool b9)).setCell ⟨w.heap.size,0,none⟩ (.slice none 0 0)).setCell ⟨w.heap.size+1,0,none⟩ (.int .i64 0)) (w.heap.size+1) 53 #[.int .i64 0]:=fun b9=>by
    have:=((OG.out.far (p:=⟨g,14,none⟩) (by show w.heap.size+1≠g;omega) (.bool b9)).far (p:=⟨w.heap.size,0,none⟩) (by simp) (.slice none 0 0)).av 0 (.int .i64 0);simpa using this
   have hrc:fV (((w3.setCell ⟨g,14,none⟩ (.bool (s1.due||x.po))).setCell ⟨w.heap.size,0,none⟩ (.slice none 0 0)).setCell ⟨w.heap.size+1,0,none⟩ (.int .i64 0)) T g M n c {s1 with due:=s1.due||x.po} vo:=
    (H3.out.put 14 (.bool (s1.due||x.po)) (st':= {s1 with due:=s1.due||x.po}) rfl rfl rfl).far (((Kept.refl (fun k _=>k=w.heap.size∨k=w.heap.size+1) _).setCell (p:=⟨w.heap.size,0,none⟩) (fun _ _=> .inl rfl) _).setCell (p:=⟨w.heap.size+1,0,none⟩) (fun _ _=> .inr rfl) _) (fun k o hk=>HT0.out k (by omega))
   have hbg:g≠w.heap.size:=by omega
   have hkx:∀b9:Bool,Kept (MT T) w (((w3.setCell ⟨g,14,none⟩ (.bool b9)).setCell ⟨w.heap.size,0,none⟩ (.slice none 0 0)).setCell ⟨w.heap.size+1,0,none⟩ (.int .i64 0)):=fun b9=>jf.behind lJ.out (hk5 b9) (fun k o hk e=>by
    have:=Zj.out;rcases e with rfl|e
    ·omega
    ·omega)
   have HBO:=Lib.hid hbo;have Gh:=Lib.hid hbe;have NP:=Lib.hid hrc;have HKX:=Lib.hid hkx;clear hk5 hbo hbe hrc hkx;cases hd:s1.due with
   |true=>
    rw[hd] at Bq;rw[hd,Bool.true_or] at NP HR4;clear hd;go_wp2;refine ny _ _ _ _ _ _ rfl rfl (HBO.out _) (Gh.out _) ?_;rw[HR4.out];exact ⟨T,vo,_,n,rfl,NP.out,by omega,fun _ _=>rfl,HKX.out _,fK.nil _ _ _⟩
   |false=>
    rw[hd] at Bq;rw[hd,Bool.false_or] at NP HR4;clear hd;go_wp2;refine ny _ _ _ _ _ _ rfl rfl (HBO.out _) (Gh.out _) ?_;rw[HR4.out];exact ⟨T,vo,_,n,rfl,NP.out,by omega,fun _ _=>rfl,HKX.out _,fK.nil _ _ _⟩
  ·have aea:¬(512:Int)≤(bX s1 x.sn:Nat):=by omega
   have zG:R=(if ED (jq s1 x.sn) x=true then (s1,[],9) else let D:=eY 1024 (pP s1 x (jq s1 x.sn));(JX c D.1,D.2,0)):=by rw[HR2.out];unfold JY;rw[if_neg hpl]
   have HR4:=Lib.hid zG;have CO:=Lib.hid hpl;obtain ⟨v9,MV,Lc⟩:=H3.out.drew.look hsn;obtain ⟨nz,hnz⟩:∃nz,nz=(s1.m x.sn).isNone:=⟨_,rfl⟩
   have hq9:(binOp .eql 161 v9 (.pointer none)).run Tryz.prog w3.drew= .ok (.bool nz) w3.drew:=by
    rcases Lc with ⟨hm,rfl⟩|⟨q,b,vf,vd,hm,rfl,_⟩
    ·rw[hnz,hm];rfl
    ·rw[hnz,hm];rfl
   have hqg:(eqGuard .eql 161 (.tmp 49) (.const (.pointer none)) v9 (.pointer none)).run Tryz.prog w3.drew= .ok () w3.drew:=by
    rcases Lc with ⟨hm,rfl⟩|⟨q,b,vf,vd,hm,rfl,_⟩<;>rfl
   obtain ⟨_,_,x7,_⟩:=H3.out.cells;have OH:=Lib.hid Lc;have ZL:=Lib.hid hnz;have KP:=Lib.hid KO;clear HR2 zG hpl Lc hnz KO;go_upto_region 10 with (fail)
   refine wp_region_still_tail 6 jQ (by kernel_rfl) ?_;simp only[List.take_succ_cons,List.take_zero,List.drop_succ_cons,List.drop_zero]
   repeat still_step
   refine wpStill_nil ?_;change wpList _ _ _ _ _ w3.drew;go_upto_if 50 with (fail)
   go_cut [9] from 30 to 137 (fun s9 wx=>∃b vf vd,s9= .pointer (some ⟨b,0,none⟩)∧nX wx b (jq s1 x.sn) vf vd∧((T b=0∧w3.heap.size≤b)∨T b=3*x.sn+4)∧(∀k,vf.ownBlock=some k→T k=3*x.sn+5)∧(∀k,vd.ownBlock=some k→T k=3*x.sn+6)∧Below w3.heap.size w3 wx)
   case first=>
    rcases OH.out with ⟨hm,rfl⟩|⟨sp,b,vf,vd,hm,rfl,hs,t1,t2,t3⟩
    ·have hg0:jq s1 x.sn=EB:=by unfold jq;rw[hm];rfl
     obtain rfl:nz=true:=by rw[ZL.out,hm];rfl
     have HG0:=Lib.hid hg0;clear hm hg0 OH ZL;go_wp2_with fail;go_meet;rw[HG0.out];exact ⟨w3.heap.size,.slice none 0 0,.slice none 0 0,rfl,⟨au.new w3.drew _ _,World.ownsRow_nil _ _ _ _,World.ownsRow_nil _ _ _ _⟩,.inl ⟨HT0.out _ (by have:=KP.out;omega),Nat.le_refl _⟩,fun k e=>by simp[Value.ownBlock] at e,fun k e=>by simp[Value.ownBlock] at e,(Below.refl _ w3).drew.alloc (Nat.le_refl _) _⟩
    ·have hg0:jq s1 x.sn=sp:=by unfold jq;rw[hm];rfl
     obtain rfl:nz=false:=by rw[ZL.out,hm];rfl
     have HG0:=Lib.hid hg0;clear hm hg0 OH ZL;go_wp2_with fail;go_meet;rw[HG0.out];exact ⟨b,vf,vd,rfl,hs,.inr t1,t2,t3,(Below.refl _ w3).drew⟩
   case rest=>
   obtain ⟨b,vf,vd,rfl,hS,hbt,hvf,hvd,hbw⟩:=hcut;have KO:=KP.out;have zG:=H3.out.below hbw;have bo4:=Q0.out.below hbw Q0.out.lt;have Oq:=OG.out.below hbw OG.out.lt;have bx4:=ZJ.out.below hbw ZJ.out.lt;have hk4:=jf.behind lJ.out (Kept.of_below hbw) (fun k o hk e=>by have:=hbw.size;omega);obtain ⟨A5,c5,vs5,hv5,ZM,hla,hlv⟩:=Vq.out.lie;cases hv5;have hz4:=hbw.size;have hbl:=hS.blk.lt;have hsp:=HO.out.get x.sn;have hpt:∀W,(∀k,w1.heap.size≤k→k<w3.heap.size→W.heap[k]? =w3.heap[k]?)→jg W W.heap.size A3 x.ps.length c3 vs5 x.ps:=fun W hW=>ZM.stay (fun ad e=>hW _ (hla ad e).1 (hla ad e).2) (fun i u ad e1 e2=>hW _ (hlv i u ad e1 e2).1 (hlv i u ad e1 e2).2)
   have htk:=KL b (jq s1 x.sn) vf vd x A3 c3 vs5 wc hS hsp (hpt wc fun k _ hk=>hbw.block k hk) HX.out.len HX.out.pos HX.out.sum (fun W hW=>hpt W fun k hk1 hk2=>by
    have e1:=hbw.block k hk2;have e2:wc.heap[k]? =some (wc.heap[k]'(by omega)):=Array.getElem?_eq_getElem (by omega);rw[←e1,e2];refine hW.same k _ e2 fun hm=> ?_
    have h0:=HT0.out k (by omega);rcases hm with e|e|e
    ·subst e;omega
    ·have:=hvf k e;omega
    ·have:=hvd k e;omega)
   have Ke:=Lib.hid htk;have vN:=Lib.hid zG;have Sm:=Lib.hid hS;have rW:=Lib.hid hk4;have BO:=Lib.hid hbt;have Wq:=Lib.hid hvf;have Ws:=Lib.hid hvd;obtain ⟨z0,z1,z2,z3,z4,z5,z6,z7⟩:=bx4.eight;have c3o:=bo4.cell 0;have c3e:=Oq.cell 0;simp at c3o c3e;have BO5:=Lib.hid bo4;have BE5:=Lib.hid Oq;have BX5:=Lib.hid bx4;clear htk hpt ZM hla hlv hS hbt hvf hvd hbw zG bo4 Oq bx4 hk4 Vq H3 lJ Q0 OG ZJ;unfold bq at Ke;clear KO;go_wp2_with fail;refine Ke.out.mono ?_;intro e6 w6 Wt;by_cases hbd:ED (jq s1 x.sn) x=true
   ·unfold zl at Wt;rw[if_pos hbd] at Wt;obtain ⟨rfl,hb6⟩:=Wt;have Ex:R=(s1,[],9):=by rw[HR4.out,if_pos hbd]
    refine zk _ _ _ _ _ _ _ rfl rfl (by omega) (BO5.out.below hb6 BO5.out.lt) (BE5.out.below hb6 BE5.out.lt) fun W' hW=> ?_
    rw[Ex];exact ⟨T,vo,_,n,rfl,(vN.out.below hb6).far hW (fun k o hk=>HT0.out k (by omega)),by omega,fun _ _=>rfl,jf.behind (jf.behind rW.out (Kept.of_below hb6) (fun k o hk e=>by have:=rW.out.size;omega)) hW (fun k o hk e=>by omega),fK.nil _ _ _⟩
   ·unfold zl at Wt;rw[if_neg hbd] at Wt;obtain ⟨rfl,kG,ku,mU,hf6,hd6,lG⟩:=Wt;have Ex:R=((JX c (eY 1024 (pP s1 x (jq s1 x.sn))).1),(eY 1024 (pP s1 x (jq s1 x.sn))).2,0):=by rw[HR4.out,if_neg hbd]
    have hnk:∀k,T k=0→k<w3.heap.size→¬RO b vf vd k (.map #[] 0):=fun k h0 hl hm=>by
     rcases hm with e|e|e
     ·subst e;rcases BO.out with e|e
      ·omega
      ·omega
     ·have:=Wq.out k e;omega
     ·have:=Ws.out k e;omega
    have KO:=KP.out;have hga:=Zj.out;have bo6:=BO5.out.kept lG (hnk _ (HT0.out _ (Nat.le_refl _)) (by omega));have Le:=BE5.out.kept lG (hnk _ (HT0.out _ (by omega)) (by omega));have bx6:=BX5.out.kept lG (hnk _ (HT0.out _ (by omega)) (by omega));have Jr:¬RO b vf vd g (.map #[] 0):=fun hm=>by
     rcases hm with e|e|e
     ·subst e;rcases BO.out with e|e<;>omega
     ·have:=Wq.out g e;omega
     ·have:=Ws.out g e;omega
    have TK:=vN.out.blk.kept lG Jr;have x7:w6.cell? ⟨g,7,none⟩=some (.map (some M)):=TK.cell 7;have Wo:=vN.out.tM;obtain ⟨F,hF,Zv⟩:=vN.out.mp;have Jm:gN Tryz.prog 3 w6.drew M n F:=hF.same (by
     have e2:wc.heap[M]? =some (wc.heap[M]'(vN.out.lt M (by omega))):=Array.getElem?_eq_getElem _;show w6.heap[M]? =wc.heap[M]?
     rw[e2];refine lG.same M _ e2 fun hm=> ?_
     rcases hm with e|e|e
     ·subst e;rcases BO.out with e|e<;>omega
     ·have:=Wq.out M e;omega
     ·have:=Ws.out M e;omega)
    have wO:=jf.behind rW.out lG (fun k o hk e=>by
     rcases e with e|e|e
     ·subst e;rcases BO.out with e|e<;>omega
     ·have:=Wq.out k e;omega
     ·have:=Ws.out k e;omega)
    clear z0 z1 z2 z3 z4 z5 z6 z7 c3o c3e;have z0:w6.cell? ⟨p,0,none⟩=some (.int .i64 (x.sn:Nat)):=bx6.cell 0;have HF7:=Lib.hid Zv;have HS7:=Lib.hid mU;have ZN:=Lib.hid hf6;have ZO:=Lib.hid hd6;have rX:=Lib.hid lG;have K8:=Lib.hid wO;have RD:=Lib.hid Ex;have BO7:=Lib.hid bo6;have BE7:=Lib.hid Le;have BX7:=Lib.hid bx6;have OD:=Lib.hid Jm;clear Zv mU hf6 hd6 lG wO Ex bo6 Le bx6 hF Jm hnk Jr TK KO Ke;go_upto_region 14 with (fail)
    refine wp_region_still_tail 7 jQ (by kernel_rfl) ?_;simp only[List.take_succ_cons,List.take_zero,List.drop_succ_cons,List.drop_zero]
    repeat still_step
    refine wpStill_nil ?_;change wpList _ _ _ _ _ w6.drew;refine uW _ rfl _ _ _ 128 rfl 3 161 sS wT M n F rfl OD.out hn x.sn rfl (by omega) (.pointer (some ⟨b,0,none⟩)) rfl ?_;intro w8 hF8 Pv;obtain ⟨T8,OI,Q5,ZP⟩:=vN.out.stored (W':=w6.drew) hbl (by rcases BO.out with e|e<;>omega) Wq.out Ws.out (HS7.out.stay rfl (fun _ _=>rfl) (fun _ _=>rfl)) ZN.out ZO.out rX.out.drew HF7.out hF8 Pv;have hbz:b≠w.heap.size∧b≠w.heap.size+1∧b≠p:=by
     have q0:=HT0.out w.heap.size (Nat.le_refl _);have q1:=HT0.out (w.heap.size+1) (by omega);have q2:=HT0.out p (by omega);have q3:=KP.out;refine ⟨fun e=> ?_,fun e=> ?_,fun e=> ?_⟩<;>subst e<;>rcases BO.out with e|e<;>omega
    have hM8:∀k,T k=0→some k≠some M:=fun k hk e=>by cases e;omega
    have hw3:=KP.out;have hpp:QZ w T T8 g M (n+1) c p #[.int .i64 (x.sn:Nat),.bool x.po,.bool x.sg,.bool x.la,.int .i64 (x.off:Nat),.bool x.s,.bool x.e,.slice A3 x.ps.length c3] w8 {s1 with m:=j6 s1.m x.sn (some (iw (jq s1 x.sn) x))} vo:=by
     refine ⟨OI,BO7.out.drew.grown Pv (hM8 _ (HT0.out _ (Nat.le_refl _))),BE7.out.drew.grown Pv (hM8 _ (HT0.out _ (by omega))),BX7.out.drew.grown Pv (hM8 _ (HT0.out _ (by omega))),K8.out.drew.grown Pv (fun k e o ho=>by cases e;unfold MT;omega),fun k hk=> ?_,?_,?_,?_⟩
     ·by_cases e:k=b
      ·subst e;rcases BO.out with e|e
       ·omega
       ·exact ZP (by omega)
      ·exact Q5 k (by omega) e
     ·exact (Q5 _ (by omega) (Ne.symm hbz.1)).trans (HT0.out _ (Nat.le_refl _))
     ·exact (Q5 _ (by omega) (Ne.symm hbz.2.1)).trans (HT0.out _ (by omega))
     ·exact (Q5 _ (by omega) (Ne.symm hbz.2.2)).trans (HT0.out _ (by omega))
    have hos:=HO.out.QV HX.out (by have:=CO.out;omega);have HP8:=Lib.hid hpp;have ZQ:=Lib.hid hos;obtain ⟨_,_,_,_,_,_,_,_,_,Bq,_⟩:=OI.cells;have f14:=OI.blk.frozen 14;obtain ⟨z0,z1,_⟩:=hpp.bx.eight;clear hpp hos hM8 hw3 hbz Q5 ZP OI hF8 Pv BO7 BE7 BX7 K8 OD HF7 HS7 ZN ZO rX BO Wq Ws vN Sm rW BO5 BE5 BX5 x7 hga Wo hz4 hbl hsp;go_upto_region 15 with (fail)
    simp only[Act.put];go_cut [] from 30 to 137 (fun wx=>wx=w8.setCell ⟨g,14,none⟩ (.bool (s1.due||x.po)))
    case first=>
     cases hd:s1.due with
     |true=>
      rw[hd] at Bq;have HD:=Lib.hid hd;clear hd;go_wp2;go_meet;rw[HD.out];rfl
     |false=>
      rw[hd] at Bq;have HD:=Lib.hid hd;clear hd;go_wp2;go_meet;rw[HD.out];rfl
    case rest=>
    have h9:=HP8.out.put 14 (.bool (s1.due||x.po)) (s':= {s1 with m:=j6 s1.m x.sn (some (iw (jq s1 x.sn) x)),due:=s1.due||x.po}) rfl rfl rfl;rw[←hcut] at h9;have TG:=Lib.hid h9;clear hcut h9 Bq f14 z0 z1 HP8;have hpc:∀(q sn:Nat),sn≤1023→Calls Tryz.prog 97 #[.pointer (some ⟨g,0,none⟩),.int .i64 sn] (wc.drewN q) fun e w'=>e= .returned (.int .i64 (bX s1 sn:Nat))∧wc.drewN q=w':=fun q sn hs=>vP (wc.drewN q) s1.next sn (TG.out.rc.drewN q).cells.2.2.2.1 HO.out.n1 hs
    have hhi:=HO.out.n3;have ZR:=fun q:Nat=>TG.out.below ((Below.refl _ wc).drewN q)
    have ZS:=Lib.hid hpc;have HWD:=Lib.hid ZR;obtain ⟨_,_,_,y8,_,Dm,_⟩:=TG.out.rc.cells;obtain ⟨z0,_⟩:=TG.out.bx.eight;clear hpc ZR TG KP ZL OH hqg hq9 MV CO ZK xP H2 HB2 HT0 HR4;go_upto_region 16 with (fail)
    go_quiet ((go_at_call 97;exact Calls.quiet_of_same ((ZS.out _ _ (by omega)).mono fun _ _ hh=>⟨hh.1,hh.2.symm⟩)))
    have hP:=HWD.out nq;generalize wc.drewN nq=On at*;have Vr:=Lib.hid hP;obtain ⟨_,_,_,y8,_,Dm,_⟩:=hP.rc.cells;obtain ⟨z0,_⟩:=hP.bx.eight;have f10:=hP.rc.blk.frozen 10;clear hP HWD ZS;go_upto_if 84 with (fail)
    go_cut [] from 30 to 137 (fun wx=>QZ w T T8 g M (n+1) c p #[.int .i64 (x.sn:Nat),.bool x.po,.bool x.sg,.bool x.la,.int .i64 (x.off:Nat),.bool x.s,.bool x.e,.slice A3 x.ps.length c3] wx {s1 with m:=j6 s1.m x.sn (some (iw (jq s1 x.sn) x)),due:=s1.due||x.po,high:=if bX s1 s1.high≤bX s1 x.sn then fD x.sn else s1.high} vo)
    case first=>
     by_cases hh:bX s1 s1.high≤bX s1 x.sn
     ·have DU:(bX s1 s1.high:Int)≤(bX s1 x.sn:Int):=by omega
      have hand:bits BinOp.and IntKind.i64 ((x.sn:Int)+1) 1023=((fD x.sn:Nat):Int):=by rw[pQ];unfold fD;omega
      have HH:=Lib.hid hh;clear hh;go_wp2_with fail;go_meet;rw[if_pos HH.out];exact Vr.out.put 10 (.int .i64 (fD x.sn:Nat)) rfl rfl rfl
     ·have DU:¬(bX s1 s1.high:Int)≤(bX s1 x.sn:Int):=by omega
      have HH:=Lib.hid hh;clear hh;go_wp2_with fail;go_meet;rw[if_neg HH.out];exact Vr.out
    case rest=>
    have Sq:dH {s1 with m:=j6 s1.m x.sn (some (iw (jq s1 x.sn) x)),due:=s1.due||x.po,high:=if bX s1 s1.high≤bX s1 x.sn then fD x.sn else s1.high}:=⟨HO.out.n1,HO.out.n2,ZQ.out.n3,HO.out.n4,ZQ.out.m,HO.out.op,HO.out.t1,HO.out.t2⟩;have hfr:=Bp hcut.rc Sq s1.status HO.out.n2;have Jo:=Lib.hid hfr;have ZT:=Lib.hid hcut;obtain ⟨_,_,_,_,y9,_⟩:=hcut.rc.cells;clear hfr hcut Sq y8 Dm z0 f10 Vr
    replace y9:wc.cell? ⟨g,9,none⟩=some (.int .i64 (s1.status:Nat)):=y9
    go_upto_region 18 with (fail)
    go_cut [] from 30 to 137 (fun wx=>QZ w T T8 g M (n+1) c p #[.int .i64 (x.sn:Nat),.bool x.po,.bool x.sg,.bool x.la,.int .i64 (x.off:Nat),.bool x.s,.bool x.e,.slice A3 x.ps.length c3] wx (pP s1 x (jq s1 x.sn)) vo)
    case first=>
     go_wp2_with (go_at_call 99;refine Jo.out.mono ?_;rintro e12 w12 ⟨rfl,ZU⟩;have h12:=ZT.out.below ZU;have f9:=h12.rc.blk.frozen 9;have c9:=h12.rc.cells.2.2.2.2.1;have H12:=Lib.hid h12;clear h12 ZU);go_meet;exact H12.out.put 9 _ rfl rfl rfl
    case rest=>
    have hdl:=Dy hcut.rc ZQ.out;have yu:=Lib.hid hdl;have wJ:=Lib.hid hcut;have fo:=hcut.bo.frozen 0;have co:=hcut.bo.cell 0;simp at co;clear hdl hcut y9 Jo ZT;go_upto_region 19 with (fail)
    go_cut [] from 30 to 137 (fun wx=>∃T9 Uy v9,KN w T T9 g M (n+1) c v9 (eY 1024 (pP s1 x (jq s1 x.sn))).2 wx (eY 1024 (pP s1 x (jq s1 x.sn))).1 Uy)
    case first=>
     go_wp2_with (go_at_call 100;refine yu.out.mono ?_;rintro e13 w13 ⟨T9,Uy,v9',rfl,uQ,Wu,Je,Wj⟩;have hsl:∃A9 k9 c9,v9'= .slice A9 k9 c9:=(by obtain ⟨Wh,hr9,_⟩:=Wj;obtain ⟨A9,c9,e9,_⟩:=aZ hr9;exact ⟨A9,_,c9,e9⟩);obtain ⟨A9,k9,c9,rfl⟩:=hsl;have Q6:=wJ.out.bo.kept Je (fun hm=>hm wJ.out.t0);have f13:=Q6.frozen 0;have c13:=Q6.cell 0;simp at c13;have HA:=Lib.hid uQ;have HB:=Lib.hid Wu;have HC:=Lib.hid Je;have HD:=Lib.hid Wj;have HE:=Lib.hid Q6;clear uQ Wu Je Wj Q6);go_meet;have hl12:=wJ.out.bo.lt;have ZV:=wJ.out.be.lt;have z9:T9 w.heap.size=0:=(HB.out _ hl12).trans wJ.out.t0;have z9b:T9 (w.heap.size+1)=0:=(HB.out _ ZV).trans wJ.out.t1;have hset:Kept (fun k _=>k=w.heap.size) w13 (w13.setCell ⟨w.heap.size,0,none⟩ (.slice A9 k9 c9)):=(Kept.refl _ w13).setCell (p:=⟨w.heap.size,0,none⟩) (fun _ _=>rfl) _;refine ⟨T9,Uy,.slice A9 k9 c9,HA.out.far hset (fun k o e=>by rw[e];exact z9),by simpa using HE.out.av 0 (.slice A9 k9 c9),(wJ.out.be.kept HC.out (fun hm=>hm wJ.out.t1)).kept hset (by simp),jf.behind (jf.behind wJ.out.kp HC.out (fun k o hk e=>by rw[←wJ.out.tt k hk];exact e)) hset (fun k o hk e=>by omega),fun k hk=>(HB.out k (by omega)).trans (wJ.out.tt k hk),z9,z9b,?_⟩;exact (HD.out.over fun k hk=>Below.heap_setCell w13 ⟨w.heap.size,0,none⟩ (.slice A9 k9 c9) k (by show k≠w.heap.size;omega)).vH (by omega)
    case rest=>
    obtain ⟨T9,Uy,v9',h9⟩:=hcut;have NQ:=ZQ.out.BZ 1024;have uQ:=RD.out;generalize eY 1024 (pP s1 x (jq s1 x.sn))=D at*;obtain ⟨s9,outs⟩:=D;dsimp only at h9 NQ uQ;have Bj:=Lib.hid uQ;have Q7:=Lib.hid h9;have Fx:=Lib.hid NQ;have hpc:=yC h9.rc NQ s9.jB NQ.n4;have ZK:=Lib.hid hpc;obtain ⟨_,_,_,_,_,_,_,uk,_⟩:=h9.rc.cells;have f11:=h9.rc.blk.frozen 11;have Nf:=h9.rc.cells.2.2.2.2.2.2.1;clear h9 NQ uQ hpc yu wJ fo co RD ZQ;go_upto_region 21 with (go_at_call 97;refine ZK.out.mono ?_;rintro e14 w14 ⟨rfl,rfl⟩)
    go_cut [114] from 30 to 137 (fun aeh wx=>aeh= .bool (decide (bX s9 s9.jB=0∨512<bX s9 s9.jB))∧wx=wc)
    case first=>
     generalize bX s9 s9.jB=pt at*;by_cases e0:pt=0
     ·subst e0;go_wp2;go_meet;exact ⟨by simp,rfl⟩
     ·have d0:((pt:Int)==0)=false:=by simp;omega
      have HD0:=Lib.hid e0;clear e0;go_wp2
      all_goals
       go_meet;refine ⟨congrArg Value.bool ?_,rfl⟩;rw[Bool.eq_iff_iff];simp only[decide_eq_true_eq];have:=HD0.out;omega
    case rest=>
    obtain ⟨rfl,rfl⟩:=hcut;obtain ⟨s10,zn⟩:∃s10,s10=(if bX s9 s9.jB=0∨512<bX s9 s9.jB then {s9 with ro:=false} else s9):=⟨_,rfl⟩
    have hRR:R=(if s10.ro=false∧s10.high≠s10.next then uS c s10 else s10,outs,0):=by rw[Bj.out,zn];rfl
    have HRR:=Lib.hid hRR;have Q8:=Lib.hid zn;have HPW:=Q7;clear hRR zn ZK Bj uk;go_upto_if 114 with (fail)
    go_cut [] from 30 to 137 (fun wx=>KN w T T9 g M (n+1) c v9' outs wx s10 Uy)
    case first=>
     by_cases hc:bX s9 s9.jB=0∨512<bX s9 s9.jB
     ·have zn:=Q8.out;rw[if_pos hc] at zn;have HC:=Lib.hid zn;have dd:decide (bX s9 s9.jB=0∨512<bX s9 s9.jB)=true:=decide_eq_true hc;clear zn hc;rw[dd];go_wp2_with fail;go_meet;rw[HC.out];exact Q7.out.put 11 (.bool false) rfl rfl rfl
     ·have zn:=Q8.out;rw[if_neg hc] at zn;have HC:=Lib.hid zn;have dd:decide (bX s9 s9.jB=0∨512<bX s9 s9.jB)=false:=decide_eq_false hc;clear zn hc;rw[dd];go_wp2_with fail;go_meet;rw[HC.out];exact Q7.out
    case rest=>
    have Sr:dH s10:=by
     rw[Q8.out];split
     ·exact ⟨Fx.out.n1,Fx.out.n2,Fx.out.n3,Fx.out.n4,Fx.out.m,Fx.out.op,Fx.out.t1,Fx.out.t2⟩
     ·exact Fx.out
    obtain ⟨A9,k9,c9,rfl⟩:∃A9 k9 c9,v9'= .slice A9 k9 c9:=by
     obtain ⟨Wh,hr9,_⟩:=hcut.out;obtain ⟨A9,c9,e9,_⟩:=aZ hr9;exact ⟨A9,_,c9,e9⟩
    obtain ⟨_,_,_,y8,_,Dm,ZW,_⟩:=hcut.rc.cells;have Vs:=Lib.hid hcut;have ZX:=Lib.hid Sr;clear hcut Sr Nf f11 Q7 HPW Q8 Fx;cases hro:s10.ro with
    |true=>
     have hRR:=HRR.out;rw[if_neg (by rw[hro];simp)] at hRR;rw[hro] at ZW;have HR2:=Lib.hid hRR;clear hRR hro HRR;go_upto_region 23 with (fail)
     go_quiet (fail)
     have hX:=Vs.out.drewN nq;generalize wc.drewN nq=wz at*;have fo:=hX.bo.frozen 0;have co:=hX.bo.cell 0;have fe:=hX.be.frozen 0;have ce:=hX.be.cell 0;simp at co ce;have Qo:=Lib.hid hX;clear hX;go_wp2;obtain ⟨q1,q2,q3⟩:=Qo.out.fin;refine ny _ _ _ _ _ _ rfl rfl q1 q2 ?_;rw[HR2.out];exact q3
    |false=>
     rw[hro] at ZW;by_cases hne:s10.high=s10.next
     ·have hRR:=HRR.out;rw[if_neg (by rw[hne];simp)] at hRR;have d2:((s10.high:Int) !=(s10.next:Int))=false:=by simp;omega
      have HR2:=Lib.hid hRR;clear hRR hro HRR hne;go_upto_region 23 with (fail)
      go_quiet (fail)
      have hX:=Vs.out.drewN nq;generalize wc.drewN nq=wz at*;have fo:=hX.bo.frozen 0;have co:=hX.bo.cell 0;have fe:=hX.be.frozen 0;have ce:=hX.be.cell 0;simp at co ce;have Qo:=Lib.hid hX;clear hX;go_wp2;obtain ⟨q1,q2,q3⟩:=Qo.out.fin;refine ny _ _ _ _ _ _ rfl rfl q1 q2 ?_;rw[HR2.out];exact q3
     ·have hRR:=HRR.out;rw[if_pos ⟨hro,hne⟩] at hRR;have d2:((s10.high:Int) !=(s10.next:Int))=true:=by simp;omega
      have HR2:=Lib.hid hRR;clear hRR hro HRR hne;go_upto_region 23 with (fail)
      go_quiet (fail)
      have hX:=Vs.out.drewN nq;have hwt:=yE hX.rc ZX.out QO.out.r1 (by have:=QO.out.r2;omega);have HWT:=Lib.hid hwt;have OB:=Lib.hid hX;clear hX hwt;generalize wc.drewN nq=wy at*;go_upto_region 25 with (go_at_call 101;refine HWT.out.mono ?_;rintro e15 wz ⟨rfl,h15,ZY⟩)
      have hX:=OB.out.turn h15 ZY;have fo:=hX.bo.frozen 0;have co:=hX.bo.cell 0;have fe:=hX.be.frozen 0;have ce:=hX.be.cell 0;simp at co ce;have Qo:=Lib.hid hX;clear hX h15 ZY;go_wp2;obtain ⟨q1,q2,q3⟩:=Qo.out.fin;refine ny _ _ _ _ _ _ rfl rfl q1 q2 ?_;rw[HR2.out];exact q3
end
end
section
open Go.RowKit Go.Shelf
attribute [local go_sem] Oper.semAt_some
section
variable {w w':World} {T:Nat→Nat} {g M n:Nat} {c:Cf} {st:Rc} {vo:Value}
set_option maxRecDepth 100000 in
set_option maxHeartbeats 1000000 in
theorem DI (h:fV w T g M n c st vo) (now:Int):
 Calls Tryz.prog 53 #[.pointer (some ⟨g,0,none⟩),.int .i64 now] w fun e w'=>e= .returned (.bool (qG st now))∧Below w.heap.size w w':=by
 have hno:Calls Tryz.prog 79 #[.pointer (some ⟨g,0,none⟩)] w.drew fun e w'=>e= .returned (.bool false)∧w'=w.drew:=(mX h.drew).mono fun _ _ hh=>⟨hh.1,hh.2.symm⟩
 have KE:=Lib.hid hno;have jQ:Tryz.prog.follows .mixedOrders=true:=by kernel_rfl
 obtain ⟨x3,x4,x7,x8,x9,x10,uG,El,Ot,Bq,PN,Ov,Mq,x18⟩:=h.cells;clear h hno x3 x4 x7 x8 x9 x10 uG El Ot Mq x18;have hfin:qG st now=(st.due&&decide (st.CX≤(if st.now<now then now else st.now))):=by
  unfold qG
  congr 2
  split<;>split<;>simp<;>omega
 rw[hfin];have HF:=Lib.hid hfin;clear hfin HF;cases hd:st.due with
 |false=>
  rw[hd] at Bq;clear hd;go_enter Tryz.func53,Tryz.ntmps53;go_wp2_with fail;refine wp_region_still_lit jQ (by kernel_rfl) ?_
  still_step
  still_call KE.out
  repeat (with_reducible refine wpStill_step (fun K hK=> ?_);go_simp;with_reducible refine hK _ ?_;clear hK K)
  with_reducible refine wpStill_nil ?_
  go_wp2
  all_goals
   go_ret;exact ⟨rfl,(Below.refl _ w).drew⟩
 |true=>
  rw[hd] at Bq;clear hd;go_enter Tryz.func53,Tryz.ntmps53;go_wp2_with fail;refine wp_region_still_lit jQ (by kernel_rfl) ?_
  still_step
  still_call KE.out
  repeat (with_reducible refine wpStill_step (fun K hK=> ?_);go_simp;with_reducible refine hK _ ?_;clear hK K)
  with_reducible refine wpStill_nil ?_
  go_wp2
  all_goals
   go_ret;refine ⟨congrArg (fun b=>Ending.returned (.bool b)) ?_,(Below.refl _ w).drew⟩
   first
   |rfl
   |(refine decide_eq_decide.2 ?_;omega)
set_option maxHeartbeats 1000000 in
theorem KQ (h:fV w T g M n c st vo) (ho:dH st) (hcf:Wl c) (now:Int) (hn:now≤9223372036854775807):
 Calls Tryz.prog 52 #[.pointer (some ⟨g,0,none⟩),.int .i64 now] w fun e w'=>e= .returned (.int .i64 0)∧fV w' T g M n c (dP c st now) vo∧Kept (MT T) w w':=by
 have KE:=Lib.hid (mX h);have qI:=Lib.hid (vz h ho hcf now hn);clear h ho hcf;go_enter Tryz.func52,Tryz.ntmps52;go_wp2_with (first
  |(go_at_call 79;refine KE.out.mono ?_;rintro e1 w1 ⟨rfl,rfl⟩)
  |(go_at_call 80;refine qI.out.mono ?_;rintro e2 w2 ⟨rfl,hR,hK⟩))
 go_ret;exact ⟨rfl,hR,hK⟩
end
end
end Go.Proofs.YtbhiklnljiehiaaGreat
namespace Go.Proofs.YtbhiklnljiehiaaGreat.Rq
open Go.RowKit Go.Shelf
attribute [local go_sem] Oper.semAt_some
theorem Di (lo hi x:Int) (a b:Nat) (w:World) (ha:w.cell? ⟨a,0,none⟩=some (.int .i64 lo)) (hb:w.cell? ⟨b,0,none⟩=some (.int .i64 hi)):Calls Tryz.prog 200 #[.int .i64 x,.pointer (some ⟨a,0,none⟩),.pointer (some ⟨b,0,none⟩)] w fun e w'=>e= .returned (.bool (outside lo hi x))∧w=w':=by
 by_cases h1:x<lo
 ·have e1:outside lo hi x=true:=by simp[outside,h1]
  have H1:=Lib.hid e1;clear e1;go_enter Tryz.func200,Tryz.ntmps200;go_wp2;go_ret;exact ⟨bu H1.out.symm,rfl⟩
 ·have h1':decide (x<lo)=false:=by simpa using h1
  have e1:decide (hi<x)=outside lo hi x:=by simp[outside,h1']
  have H1:=Lib.hid e1;clear e1;go_enter Tryz.func200,Tryz.ntmps200;go_wp2;go_ret;exact ⟨bu H1.out,rfl⟩
theorem Dj (lo hi:Int) (a b r n:Nat) (xs:List Int) (w:World) (hn:xs.length=n) (hsm:n≤1000) (hr:au w r 3 (ints xs).toArray) (ha:w.cell? ⟨a,0,none⟩=some (.int .i64 lo)) (hb:w.cell? ⟨b,0,none⟩=some (.int .i64 hi)):
 Calls Tryz.prog 219 #[.slice (some ⟨r,0,none⟩) n n,.func (.func 200) #[] #[.pointer (some ⟨a,0,none⟩),.pointer (some ⟨b,0,none⟩)]] w (R4 (xs.any (outside lo hi)) w):=by
 have HC:=Lib.hid fun x=>Di lo hi x a b w ha hb
 have HL:=Lib.hid hn;clear hn ha hb;go_enter Tryz.func219,Tryz.ntmps219;go_wp2
 go_loop [8] (fun i=>∃k:Nat,k≤n∧i= .int .i64 k∧(xs.take k).any (outside lo hi)=false) (fun i=>n-(intOf i).toNat)
 case atStart=>exact ⟨0,Nat.zero_le _,rfl,by simp⟩
 case round=>
  obtain ⟨k,hk,rfl,hall⟩:=hrel;have HA:=Lib.hid hall;clear hall;by_cases hlt:k<n
  ·have hkl:k<xs.length:=by rw[HL.out];exact hlt
   obtain ⟨x,hx⟩:∃x,xs[k]? =some x:=⟨_,List.getElem?_eq_getElem hkl⟩
   have hcell:=hr.cell k;rw[List.getElem?_toArray,ints,List.getElem?_map,hx] at hcell;simp at hcell;have htk:xs.take (k+1)=xs.take k++ [x]:=by rw[List.take_add_one,hx];rfl
   have hin:x∈xs:=List.mem_of_getElem? hx;have HT:=Lib.hid htk;have HI:=Lib.hid hin;have hcx:=HC.out x;clear htk hin hkl hx;cases hq:outside lo hi x with
   |false=>
    rw[hq] at hcx;have HQ:=Lib.hid hq;have HX:=Lib.hid hcx;clear hq hcx;go_wp2_with (go_at_call 200;refine HX.out.mono ?_;rintro e w' ⟨rfl,rfl⟩)
    go_round
    case rel=>exact ⟨k+1,by omega,by go_num,by rw[HT.out,List.any_append,HA.out];simp[HQ.out]⟩
    case measure=>simp[intOf];omega
   |true=>
    rw[hq] at hcx;have HQ:=Lib.hid hq;have HX:=Lib.hid hcx;clear hq hcx;go_wp2_with (go_at_call 200;refine HX.out.mono ?_;rintro e w' ⟨rfl,rfl⟩);go_ret;exact ⟨.inl ⟨k,rfl,by rw[List.any_eq_true];exact ⟨x,HI.out,HQ.out⟩⟩,rfl⟩
  ·have e:xs.take k=xs:=List.take_of_length_le (by rw[HL.out];omega);have hA:=HA.out;rw[e] at hA;have wK:=Lib.hid hA;clear hA e;go_wp2;go_ret;exact ⟨.inr ⟨rfl,wK.out⟩,rfl⟩
theorem rO (lo hi:Int) (a b r n:Nat) (xs:List Int) (w:World) (hn:xs.length=n) (hsm:n≤1000) (hr:au w r 3 (ints xs).toArray) (ha:w.cell? ⟨a,0,none⟩=some (.int .i64 lo)) (hb:w.cell? ⟨b,0,none⟩=some (.int .i64 hi)):
 Calls Tryz.prog 198 #[.slice (some ⟨r,0,none⟩) n n,.func (.func 200) #[] #[.pointer (some ⟨a,0,none⟩),.pointer (some ⟨b,0,none⟩)]] w fun e w'=>e= .returned (.bool (xs.any (outside lo hi)))∧w=w':=by
 have H:=Lib.hid (Dj lo hi a b r n xs w hn hsm hr ha hb);clear hr ha hb;go_enter Tryz.func198,Tryz.ntmps198;go_wp2_with fail;refine H.out.mono ?_;rintro e w' ⟨⟨k,rfl,he⟩|⟨rfl,he⟩,rfl⟩
 ·have HE:=Lib.hid he;clear he;go_wp2;go_ret;exact ⟨bu (by rw[HE.out]),rfl⟩
 ·have HE:=Lib.hid he;clear he;go_wp2;go_ret;exact ⟨bu (by rw[HE.out]),rfl⟩
theorem Uu (lo hi:Int) (r n:Nat) (xs:List Int) (w:World) (hn:xs.length=n) (hsm:n≤1000) (hr:au w r 3 (ints xs).toArray):
 Calls Tryz.prog 160 #[.int .i64 lo,.int .i64 hi,.slice (some ⟨r,0,none⟩) n n] w fun e w'=>e= .returned (.bool (!xs.any (outside lo hi)))∧Below w.heap.size w w':=by
 have ba:=(au.new w 3 #[.int .i64 lo]).alloc (.cells #[.int .i64 hi] 3);have bb:=au.new (w.alloc (.cells #[.int .i64 lo] 3)) 3 #[.int .i64 hi];have br:=(hr.alloc (.cells #[.int .i64 lo] 3)).alloc (.cells #[.int .i64 hi] 3);simp only[World.size_alloc] at bb;have ca:=ba.cell 0;have cb:=bb.cell 0;rw[List.getElem?_toArray] at ca cb;simp only[List.getElem?_cons_zero] at ca cb;have hc:=rO lo hi w.heap.size (w.heap.size+1) r n xs ((w.alloc (.cells #[.int .i64 lo] 3)).alloc (.cells #[.int .i64 hi] 3)) hn hsm br ca cb;have H:=Lib.hid hc;clear ba bb br ca cb hc hr;go_enter Tryz.func160,Tryz.ntmps160;go_wp2_with (go_at_call 198;refine H.out.mono ?_;rintro e w' ⟨rfl,rfl⟩);go_ret;exact ⟨rfl,((Below.refl _ _).alloc (Nat.le_refl _) _).alloc (by simp) _⟩
theorem pX (lo hi:Int) (xs:List Int) (cs:Array Value) (hcs:cs=(ints xs).toArray) (n r:Nat) (hn:xs.length=n) (hsm:n≤1000) {w W:World} {g:Nat} {a0 a1 a2 a3 a4 a5 a6:Int} (h:qw w g a0 a1 a2 a3 a4 a5 a6 W) (hr:W.heap.size=r):
 Calls Tryz.prog 160 #[.int .i64 lo,.int .i64 hi,.slice (some ⟨r,0,none⟩) n n] (W.alloc (.cells cs 3)) fun e w'=>e= .returned (.bool (within lo hi xs))∧qw w g a0 a1 a2 a3 a4 a5 a6 w':=by
 subst hcs hr;refine (Uu lo hi W.heap.size n xs _ hn hsm (au.new W 3 _)).mono ?_;rintro e w' ⟨rfl,hk⟩;have hk2:=hk.mono (B':=w.heap.size) (by have:=h.2.size;simp;omega);have h0:=h.2.alloc h.2.size (.cells (ints xs).toArray 3);exact ⟨rfl,(h.1.alloc _).below hk (by have:=h.1.lt;simp;omega),h0.trans hk2⟩
theorem jR (lo hi x:Int) (r:Nat) {w W:World} {g:Nat} {a0 a1 a2 a3 a4 a5 a6:Int} (h:qw w g a0 a1 a2 a3 a4 a5 a6 W) (hr:W.heap.size=r):
 Calls Tryz.prog 160 #[.int .i64 lo,.int .i64 hi,.slice (some ⟨r,0,none⟩) 1 1] (W.alloc (.cells #[.int .i64 x] 3)) fun e w'=>e= .returned (.bool (within lo hi [x]))∧qw w g a0 a1 a2 a3 a4 a5 a6 w':=
 pX lo hi [x] _ rfl 1 r rfl (by decide) h hr
theorem jS (lo hi x y:Int) (r:Nat) {w W:World} {g:Nat} {a0 a1 a2 a3 a4 a5 a6:Int} (h:qw w g a0 a1 a2 a3 a4 a5 a6 W) (hr:W.heap.size=r):
 Calls Tryz.prog 160 #[.int .i64 lo,.int .i64 hi,.slice (some ⟨r,0,none⟩) 2 2] (W.alloc (.cells #[.int .i64 x,.int .i64 y] 3)) fun e w'=>e= .returned (.bool (within lo hi [x,y]))∧qw w g a0 a1 a2 a3 a4 a5 a6 w':=
 pX lo hi [x,y] _ rfl 2 r rfl (by decide) h hr
set_option maxRecDepth 100000 in
set_option maxHeartbeats 1000000 in
theorem Dk (a0 a1 a2 a3 a4 a5 a6:Int) (w:World):Calls Tryz.prog 114 #[.agg (vW a0 a1 a2 a3 a4 a5 a6)] w fun e w'=>e= .returned (.bool (dK a0 a1 a2 a3 a4 a5 a6))∧Below w.heap.size w w':=by
 have hc:=qw.new w a0 a1 a2 a3 a4 a5 a6;obtain ⟨b,hb⟩:∃b,dK a0 a1 a2 a3 a4 a5 a6=b:=⟨_,rfl⟩
 rw[hb];unfold dK at hb;unfold vW;go_enter Tryz.func114,Tryz.ntmps114;go_wp2_with fail;have hz:=World.size_alloc w (.cells #[.int .i64 a0,.int .i64 a1,.int .i64 a2,.int .i64 a3,.int .i64 a4,.int .i64 a5,.int .i64 a6] 23);generalize w.alloc (.cells #[.int .i64 a0,.int .i64 a1,.int .i64 a2,.int .i64 a3,.int .i64 a4,.int .i64 a5,.int .i64 a6] 23)=w0 at*;obtain ⟨x0,x1,x2,x3,x4,x5,x6⟩:=hc.seven;cases h1:within 0 1024 [a0] with
 |false=>
  simp[h1] at hb;subst hb;go_wp2_with (go_at_call 160;first
   |((with_reducible refine (jS _ _ _ _ _ (by assumption) (by first|assumption|exact rfl)).mono ?_);rintro e w9 ⟨rfl,hc⟩;obtain ⟨x0,x1,x2,x3,x4,x5,x6⟩:=hc.seven)
   |((with_reducible refine (jR _ _ _ _ (by assumption) (by first|assumption|exact rfl)).mono ?_);rintro e w9 ⟨rfl,hc⟩;obtain ⟨x0,x1,x2,x3,x4,x5,x6⟩:=hc.seven))
  go_ret;exact ⟨rfl,(by assumption:qw w _ a0 a1 a2 a3 a4 a5 a6 _).2⟩
 |true=>
 cases h2:within 0 1048576 [a1] with
 |false=>
  simp[h1,h2] at hb;subst hb;go_wp2_with (go_at_call 160;first
   |((with_reducible refine (jS _ _ _ _ _ (by assumption) (by first|assumption|exact rfl)).mono ?_);rintro e w9 ⟨rfl,hc⟩;obtain ⟨x0,x1,x2,x3,x4,x5,x6⟩:=hc.seven)
   |((with_reducible refine (jR _ _ _ _ (by assumption) (by first|assumption|exact rfl)).mono ?_);rintro e w9 ⟨rfl,hc⟩;obtain ⟨x0,x1,x2,x3,x4,x5,x6⟩:=hc.seven))
  go_ret;exact ⟨rfl,(by assumption:qw w _ a0 a1 a2 a3 a4 a5 a6 _).2⟩
 |true=>
 cases h3:within 1 1048576 [a2] with
 |false=>
  simp[h1,h2,h3] at hb;subst hb;go_wp2_with (go_at_call 160;first
   |((with_reducible refine (jS _ _ _ _ _ (by assumption) (by first|assumption|exact rfl)).mono ?_);rintro e w9 ⟨rfl,hc⟩;obtain ⟨x0,x1,x2,x3,x4,x5,x6⟩:=hc.seven)
   |((with_reducible refine (jR _ _ _ _ (by assumption) (by first|assumption|exact rfl)).mono ?_);rintro e w9 ⟨rfl,hc⟩;obtain ⟨x0,x1,x2,x3,x4,x5,x6⟩:=hc.seven))
  go_ret;exact ⟨rfl,(by assumption:qw w _ a0 a1 a2 a3 a4 a5 a6 _).2⟩
 |true=>
 cases h4:within 0 1048576 [a3,a4] with
 |false=>
  simp[h1,h2,h3,h4] at hb;subst hb;go_wp2_with (go_at_call 160;first
   |((with_reducible refine (jS _ _ _ _ _ (by assumption) (by first|assumption|exact rfl)).mono ?_);rintro e w9 ⟨rfl,hc⟩;obtain ⟨x0,x1,x2,x3,x4,x5,x6⟩:=hc.seven)
   |((with_reducible refine (jR _ _ _ _ (by assumption) (by first|assumption|exact rfl)).mono ?_);rintro e w9 ⟨rfl,hc⟩;obtain ⟨x0,x1,x2,x3,x4,x5,x6⟩:=hc.seven))
  go_ret;exact ⟨rfl,(by assumption:qw w _ a0 a1 a2 a3 a4 a5 a6 _).2⟩
 |true=>
 cases h5:within 0 64 [a5] with
 |false=>
  simp[h1,h2,h3,h4,h5] at hb;subst hb;go_wp2_with (go_at_call 160;first
   |((with_reducible refine (jS _ _ _ _ _ (by assumption) (by first|assumption|exact rfl)).mono ?_);rintro e w9 ⟨rfl,hc⟩;obtain ⟨x0,x1,x2,x3,x4,x5,x6⟩:=hc.seven)
   |((with_reducible refine (jR _ _ _ _ (by assumption) (by first|assumption|exact rfl)).mono ?_);rintro e w9 ⟨rfl,hc⟩;obtain ⟨x0,x1,x2,x3,x4,x5,x6⟩:=hc.seven))
  go_ret;exact ⟨rfl,(by assumption:qw w _ a0 a1 a2 a3 a4 a5 a6 _).2⟩
 |true=>
 have h6:within 1 1048576 [a6]=b:=by simpa[h1,h2,h3,h4,h5] using hb
 clear hb;go_wp2_with (go_at_call 160;first
  |((with_reducible refine (jS _ _ _ _ _ (by assumption) (by first|assumption|exact rfl)).mono ?_);rintro e w9 ⟨rfl,hc⟩;obtain ⟨x0,x1,x2,x3,x4,x5,x6⟩:=hc.seven)
  |((with_reducible refine (jR _ _ _ _ (by assumption) (by first|assumption|exact rfl)).mono ?_);rintro e w9 ⟨rfl,hc⟩;obtain ⟨x0,x1,x2,x3,x4,x5,x6⟩:=hc.seven))
 go_ret;exact ⟨rfl,(by assumption:qw w _ a0 a1 a2 a3 a4 a5 a6 _).2⟩
end Go.Proofs.YtbhiklnljiehiaaGreat.Rq
namespace Go.Proofs.YtbhiklnljiehiaaGreat
open Go.RowKit Go.Shelf
attribute [local go_sem] Oper.semAt_some
def aei (w:World) (a0 a1 a2 a3 a4 a5 a6:Int) (e:Ending) (w':World):Prop:=
 Below w.heap.size w w'∧
  (
   (dK a0 a1 a2 a3 a4 a5 a6=true∧∃g M T,e= .returned (.tuple #[.pointer (some ⟨g,0,none⟩),.int .i64 0])∧fV w' T g M 0 ⟨a0,a1,a2,a3,a4,a5,a6⟩ iN (.slice none 0 0)∧∀k,T k≠0→w.heap.size≤k)∨
   (dK a0 a1 a2 a3 a4 a5 a6=false∧e= .returned (.tuple #[.pointer none,.int .i64 2])))
set_option maxRecDepth 100000 in
theorem NR (a0 a1 a2 a3 a4 a5 a6:Int) (w:World):Calls Tryz.prog 73 #[.agg (vW a0 a1 a2 a3 a4 a5 a6)] w (aei w a0 a1 a2 a3 a4 a5 a6):=by
 have hmm:= @run_makeMap Tryz.prog;have hc:=qw.new w a0 a1 a2 a3 a4 a5 a6;have hcall:=fun W=>Rq.Dk a0 a1 a2 a3 a4 a5 a6 W
 obtain ⟨b,hb⟩:∃b,dK a0 a1 a2 a3 a4 a5 a6=b:=⟨_,rfl⟩
 simp only[hb] at hcall;have HB:=Lib.hid hb;clear hb;unfold vW at*;have hz:=World.size_alloc w (.cells #[.int .i64 a0,.int .i64 a1,.int .i64 a2,.int .i64 a3,.int .i64 a4,.int .i64 a5,.int .i64 a6] 23);have x:=hc.seven;obtain ⟨x0,x1,x2,x3,x4,x5,x6⟩:=x;have HC:=Lib.hid hc;have BK:=Lib.hid hcall;clear hc hcall;go_enter Tryz.func73,Tryz.ntmps73;go_wp2_with fail;generalize w.alloc (.cells #[.int .i64 a0,.int .i64 a1,.int .i64 a2,.int .i64 a3,.int .i64 a4,.int .i64 a5,.int .i64 a6] 23)=w0 at*;refine (BK.out _).mono ?_;rintro e1 w1 ⟨rfl,hb1⟩;have hc1:qw w w.heap.size a0 a1 a2 a3 a4 a5 a6 w1:=⟨HC.out.1.below hb1 HC.out.1.lt,HC.out.2.trans (hb1.mono HC.out.2.size)⟩;obtain ⟨y0,y1,y2,y3,y4,y5,y6⟩:=hc1.seven;have Lh:=Lib.hid hc1;clear x0 x1 x2 x3 x4 x5 x6 hb1 hc1;cases b with
 |true=>
  go_wp2
  go_ret2
  have hsz:=Lh.out.2.size;have aej:=(gN.made Tryz.prog 3 w1);refine ⟨((Lh.out.2.alloc Lh.out.2.size _).alloc (by simp;omega) _),.inl ⟨HB.out,w1.heap.size+1,w1.heap.size,fun k=>if k=w1.heap.size+1 then 1 else if k=w1.heap.size then 2 else 0,by simp,?_,fun k hk=> ?_⟩⟩
  ·have hb:=au.new (w1.alloc (.map #[] 0)) 130 (J3 ⟨a0,a1,a2,a3,a4,a5,a6⟩ w1.heap.size (.slice none 0 0) iN);rw[World.size_alloc] at hb;refine ⟨hb,if_pos rfl,?_,fun k hk=> ?_,World.ownsRow_nil _ _ _ _,fun k e=>by simp[Value.ownBlock] at e,fun _=>none,?_,fun k=>⟨fun _=>rfl,fun p hp=>by simp[iN] at hp⟩⟩
   ·show (if _ then _ else _)=_
    rw[if_neg (by omega),if_pos rfl]
   ·simp only[World.size_alloc];split at hk
    ·omega
    ·split at hk
     ·omega
     ·exact absurd rfl hk
   ·exact aej.same (Below.heap_alloc _ _ _ (by simp))
  ·dsimp only at hk;split at hk
   ·omega
   ·split at hk
    ·omega
    ·exact absurd rfl hk
 |false=>
  go_wp2
  go_ret2
  exact ⟨Lh.out.2,.inr ⟨HB.out,rfl⟩⟩
end Go.Proofs.YtbhiklnljiehiaaGreat
namespace Go.Proofs.YtbhiklnljiehiaaGreat
section
open Go.RowKit Go.Shelf
attribute [local go_sem] Oper.semAt_some
theorem Fy.take {p:Sp} (h:Fy p) (x:kE):Fy (iw p x):=by
 intro k hk;unfold iw at hk ⊢;dsimp only at hk ⊢;rw[(qm _ _ _).1];unfold jP;simp only[List.length_append,List.length_replicate];split at hk
 ·cases hk;omega
 ·have:=h k hk;omega
theorem rQ.get {st:Rc} (h:rQ st) (k:Nat):Fy (jq st k):=by
 unfold jq;cases hm:st.m k with
 |none=>intro j hj;cases hj
 |some p=>exact h k p hm
theorem rQ.NS {st st':Rc} (h:rQ st) (hm:st'.m=st.m):rQ st':=fun k p hp=>h k p (by rw[←hm];exact hp)
theorem rQ.QV {st:Rc} (h:rQ st) (x:kE):rQ (pP st x (jq st x.sn)):=by
 intro k p hp;have hp2:j6 st.m x.sn (some (iw (jq st x.sn) x)) k=some p:=hp;unfold j6 at hp2;split at hp2
 ·cases hp2;exact (h.get x.sn).take x
 ·exact h k p hp2
theorem rQ.one {st:Rc} (h:rQ st) (p:Sp):rQ (yB st p):=by
 intro k q hq;have hq2:j6 st.m st.next none k=some q:=hq
 unfold j6 at hq2;split at hq2
 ·cases hq2
 ·exact h k q hq2
theorem rQ.BZ:∀(f:Nat) {st:Rc},rQ st→rQ (eY f st).1
 |0,st,h=>h
 |f+1,st,h=>by
  unfold eY;split
  ·exact h
  ·split
   ·exact rQ.BZ f (h.one _)
   ·exact h
theorem rQ.recv {st:Rc} (h:rQ st) (c:Cf) (now:Int) (bs:List UInt8):rQ (jr c st now bs).1:=by
 have hg:rQ (dP c st now):=h.NS (tN c st now);unfold jr;split
 ·exact hg
 ·rename_i x _;unfold JY;split
  ·exact hg.NS rfl
  ·split
   ·exact hg
   ·dsimp only;refine rQ.NS (rQ.BZ 1024 (hg.QV x)) ?_;unfold JX uS;dsimp only;split<;>split<;>rfl
theorem NT (c:Cf) (st:Rc) (now n:Int):(fu c st now n).1.m=st.m:=by
 unfold fu;split
 ·rfl
 ·split
  ·exact tN c st now
  ·exact tN c st now
theorem rQ.pK {st:Rc} (h:rQ st) (c:Cf) (now n:Int):rQ (fu c st now n).1:=h.NS (NT c st now n)
theorem dH.pK {st:Rc} (ho:dH st) (c:Cf) {now:Int} (hn:now≤9223372036854775807) (n:Int):dH (fu c st now n).1:=by
 have hg:=ho.goes c hn;unfold fu;split
 ·exact ho
 ·split
  ·exact hg
  ·exact ⟨hg.n1,hg.n2,hg.n3,hg.n4,hg.m,hg.op,hg.t1,hg.t2⟩
theorem FO:dH iN∧rQ iN:=
 ⟨⟨by decide,by decide,by decide,by decide,fun k p h=>(by cases h),by decide,by decide,by decide⟩,fun k p h=>(by cases h)⟩
def RcE (W:World) (base g n:Nat) (c:Cf) (st:Rc):Prop:=∃T M k vo,fV W T g M k c st vo∧k≤n∧dH st∧rQ st∧∀j,T j≠0→base≤j
section
variable {W W' w w':World} {base g n:Nat} {c:Cf} {st:Rc}
theorem RcE.lt (h:RcE W base g n c st):base≤g∧g<W.heap.size:=let ⟨_,_,_,_,h1,_,_,_,h5⟩:=h;⟨h5 g (by rw[h1.tg];omega),h1.blk.lt⟩
end
end
section
open Go.RowKit Go.Shelf
section
variable {w w' w'':World} {T:Nat→Nat} {g M n n' gs gr ge K B:Nat} {c:Cf} {s s':Sd} {st st' r r':Rc} {vo v:Value} {F Fs Fr F':Nat→Prop}
def tT (w:World) (F:Nat→Prop) (g n:Nat) (c:Cf) (st:Rc):Prop:=∃T M vo,fV w T g M n c st vo∧∀k,F k↔T k≠0
theorem tT.lt (h:tT w F g n c st):∀k,F k→k<w.heap.size:=fun k hk=>by
 obtain ⟨T,M,vo,h,hF⟩:=h;exact h.lt k ((hF k).1 hk)
theorem tT.stay (h:tT w F g n c st) (hk:∀k,F k→w'.heap[k]? =w.heap[k]?):tT w' F g n c st:=by
 obtain ⟨T,M,vo,h,hF⟩:=h;exact ⟨T,M,vo,h.stay fun k hk'=>hk k ((hF k).2 hk'),hF⟩
theorem jA {M:Nat→Obj→Prop} (hk:Kept M w w') {k:Nat} (hl:k<w.heap.size) (hm:∀o,¬M k o):w'.heap[k]? =w.heap[k]? :=by
 have e:=Array.getElem?_eq_getElem hl;rw[e];exact hk.same _ _ e (hm _)
theorem tT.below (h:tT w F g n c st) (hb:Below w.heap.size w w'):tT w' F g n c st:=h.stay fun k hk=>hb.block k (h.lt k hk)
theorem tT.of (h:fV w' T g M n c st vo):tT w' (fun k=>T k≠0) g n c st:=⟨T,M,vo,h,fun _=>Iff.rfl⟩
structure vC (c:Cf) (st:Rc):Prop where
 cf:Wl c
 ok:dH st
 sz:rQ st
theorem vC.recv (h:vC c st) {now:Int} (hn:now≤9223372036854775807) (bs:List UInt8):vC c (jr c st now bs).1:=⟨h.cf,h.ok.recv c hn bs,h.sz.recv c now bs⟩
theorem vC.pK (h:vC c st) {now:Int} (hn:now≤9223372036854775807) (N:Int):vC c (fu c st now N).1:=⟨h.cf,h.ok.pK c hn N,h.sz.pK c now N⟩
theorem vC.goes (h:vC c st) {now:Int} (hn:now≤9223372036854775807):vC c (dP c st now):=⟨h.cf,h.ok.goes c hn,h.sz.NS (tN c st now)⟩
theorem vX (h:tT w F g n c st) (now:Int):
 Calls Tryz.prog 53 #[.pointer (some ⟨g,0,none⟩),.int .i64 now] w fun e w'=>e= .returned (.bool (qG st now))∧Below w.heap.size w w':=
 let ⟨_,_,_,h,_⟩:=h
 DI h now
end
end
section
structure Wv (bD:List (List UInt8)) (N:Nat) (pu:Nat→Ou) (left:Nat→List (List UInt8)) (sent:Nat→Nat):Prop where
 n:N≤511
 l0:left 0=bD
 s0:sent 0=0
 sn:∀i,i<N→(pu i).sn=i
 s:∀i,i<N→(pu i).s=decide (sent i=0)
 ne:∀i,i<N→(pu i).ps≠ []
 each:∀i,i<N→∀q∈(pu i).ps,1≤q.length∧q.length≤1000
 tot:∀i,i<N→aF (pu i)≤32767
 len:∀s∈bD,s.length≤1000
 step:∀i,i<N→∃g,left i=g++left (i+1)∧pG (((left i).headD []).take (sent i)) (decide (0<sent i)) (pu i).ps (pu i).e=(g,((left (i+1)).headD []).take (sent (i+1)),decide (0<sent (i+1)))
def KR (x:Ou):List (Fl × UInt8):=gL x.s x.e x.ps.length 0 x.ps
theorem FP (x:Ou):(KR x).length=aF x:=rA _ _ _ _ _
def ZZ (bD:List (List UInt8)) (left:Nat→List (List UInt8)) (i:Nat):List (List UInt8):=bD.take (bD.length-(left i).length)
structure Piece (x:Ou) (a:kE):Prop where
 sn:a.sn=x.sn
 pos:1≤ah a.ps
 le:mW a≤aF x
 fin:EC a=true↔mW a=aF x
 eq:∀(j:Nat) z,(gL a.s a.e a.ps.length 0 a.ps)[j]? =some z→(KR x)[a.off+j]? =some z
section
variable {bD:List (List UInt8)} {N:Nat} {pu:Nat→Ou} {left:Nat→List (List UInt8)} {sent:Nat→Nat}
theorem Wv.suffix (h:Wv bD N pu left sent):∀i,i≤N→∃d,bD=d++left i
 |0,_=>⟨[],by rw[h.l0];rfl⟩
 |i+1,hi=>by
  obtain ⟨d,hd⟩:=Wv.suffix h i (by omega);obtain ⟨g,hg,_⟩:=h.step i (by omega);exact ⟨d++g,by rw[hd,hg,List.append_assoc]⟩
theorem Wv.done (h:Wv bD N pu left sent) {i:Nat} (hi:i≤N):bD=ZZ bD left i++left i:=by
 obtain ⟨d,hd⟩:=h.suffix i hi;unfold ZZ;rw[hd];simp
def Z0 (left:Nat→List (List UInt8)) (sent:Nat→Nat) (i:Nat) (op:List UInt8) (sm:Bool):Prop:=
 sm=decide (0<sent i)∧(sm=true→op=((left i).headD []).take (sent i))
structure Ju (x:Ou) (p:Sp):Prop where
 agr:XE (KR x) (p.fl,p.da)
 size:(p.size=none∧p.fl.length<aF x)∨(p.size=some (aF x)∧p.fl.length=aF x)
theorem NU (k:Nat) (l:List Fl):(jP k l).length=max l.length k:=by simp[jP];omega
theorem Ju.take {x:Ou} {p:Sp} (h:Ju x p) {a:kE} (ha:Piece x a):Ju x (iw p a):=by
 have hle:=ha.le;have hal:=h.agr.le;dsimp only at hal;rw[FP] at hal;have hw:=qm (gL a.s a.e a.ps.length 0 a.ps) a.off (jP (mW a) p.fl,nW (mW a) p.da);refine ⟨Jb _ _ _ (TN h.agr (by rw[FP];exact hle)) ha.eq,?_⟩;have hlen:(iw p a).fl.length=max p.fl.length (mW a):=by
  unfold iw;dsimp only;rw[hw.1];exact NU _ _
 rw[hlen];unfold iw;dsimp only;cases hf:EC a with
 |true=>
  have:=ha.fin.1 hf;rw[if_pos rfl,this];exact .inr ⟨rfl,by omega⟩
 |false=>
  have hne:mW a≠aF x:=fun e=>by rw[ha.fin.2 e] at hf;cases hf
  rw[if_neg (by simp)];rcases h.size with ⟨e,hl⟩|⟨e,hl⟩
  ·exact .inl ⟨e,by omega⟩
  ·exact .inr ⟨e,by omega⟩
structure Rx (bD:List (List UInt8)) (N:Nat) (pu:Nat→Ou) (left:Nat→List (List UInt8)) (sent:Nat→Nat) (st:Rc):Prop where
 nx:st.next≤N
 m:∀k p,st.m k=some p→st.next≤k∧k<N∧k<st.high∧Ju (pu k) p
 op:Z0 left sent st.next st.op st.sm
 s1:st.next≤st.status
 s2:st.status≤N
 sc:fO (st.m st.status)=false
 h1:st.next≤st.high
 h2:st.high≤N
 tr:st.ro=true→st.jB≤st.high
def Has (st:Rc) (k:Nat):Prop:=k<st.next∨fO (st.m k)=true
theorem Rx.none_ {st:Rc} (h:Rx bD N pu left sent st) {k:Nat} (hk:N≤k):st.m k=none:=by
 cases hm:st.m k with
 |none=>rfl
 |some p=>have:=(h.m k p hm).2.1;omega
end
end
end Go.Proofs.YtbhiklnljiehiaaGreat
