/- amrecv: deliver: what it computes (bounds), and its memory. amrecv: deliver. Plain mathematics: decoding undoes encoding of acknowledged mode PDUs, and encoding undoes decoding. amrecv: Receive: errors are recovered; bounds of what is received. -/
import Derived.Test.YtbhiklnljiehiaaGreatM0af
import Derived.Test.YtbhiklnljiehiaaGreatM0ag
import Derived.Test.YtbhiklnljiehiaaGreatM0ai
import Derived.Test.YtbhiklnljiehiaaGreatM0al
import Derived.Test.YtbhiklnljiehiaaGreatM0au
import Derived.StillTailTactics
import Derived.WideLaws
namespace Go.Proofs.YtbhiklnljiehiaaGreat
section
open Go.RowKit Go.Shelf
attribute [local go_sem] Oper.semAt_some
theorem BS {b:List UInt8} {begins last:Bool} {op:List UInt8} {sm:Bool} (h:op.length≤9000):(sN b begins last op sm).1.length≤9000∧(sN b begins last op sm).2.2.length≤1:=by
 unfold sN;split
 ·exact ⟨h,by simp⟩
 ·dsimp only;generalize (if begins=true then [] else op)++b=o2;split
  ·rename_i hc;exact ⟨hc.1,by simp⟩
  ·refine ⟨by simp,?_⟩;split<;>simp
theorem zi (fl:List Fl) (da:List UInt8) (N:Nat):∀(k i fr:Nat) (op:List UInt8) (sm:Bool),op.length≤9000→(uU fl da N k i fr op sm).1.length≤9000∧(uU fl da N k i fr op sm).2.2.length≤k
 |0,_,_,_,_,h=>⟨h,by simp[uU]⟩
 |k+1,i,fr,op,sm,h=>by
  unfold uU;split
  ·have:=zi fl da N k (i+1) fr op sm h;exact ⟨this.1,by omega⟩
  ·have h1:=BS (b:=(da.take i).drop fr) (begins:=(fJ fl fr).2.1) (last:=decide (i<N)||(fJ fl (i-1)).2.2) (sm:=sm) h;have h2:=zi fl da N k (i+1) i _ (sN ((da.take i).drop fr) (fJ fl fr).2.1 (decide (i<N)||(fJ fl (i-1)).2.2) op sm).2.1 h1.1;refine ⟨h2.1,?_⟩;dsimp only;rw[List.length_append];omega
theorem dH.one {st:Rc} (ho:dH st) {p:Sp} (_hp:st.m st.next=some p):dH (yB st p):=by
 have h1:=zi p.fl p.da (Bn p) (Bn p) 1 0 st.op st.sm ho.op;refine ⟨by show fD st.next≤1023;unfold fD;omega,ho.n2,ho.n3,ho.n4,fun k q hk=> ?_,h1.1,ho.t1,ho.t2⟩;have hk2:(if k=st.next then none else st.m k)=some q:=hk;split at hk2
 ·cases hk2
 ·rename_i hne;obtain ⟨a,b,d⟩:=ho.m k q hk2;refine ⟨a,?_,d⟩;have hn:=ho.n1;show (k+1024-fD st.next)%1024<512
  unfold bX at b;unfold fD;omega
def fK (W:World) (base:Nat) (T:Nat→Nat) (v:Value) (outs:List (List UInt8)):Prop:=
 ∃vs,W.ownsRow base 31 1 v outs.length vs∧(∀k,v.ownBlock=some k→T k=0)∧∀(i:Nat) (q:List UInt8),outs[i]? =some q→∃vi,vs[i]? =some vi∧W.ownsRow base 5 1 vi q.length (bV q)∧∀k,vi.ownBlock=some k→T k=0
section
variable {w w' W W':World} {T T':Nat→Nat} {g M n:Nat} {c:Cf} {st:Rc} {vo v:Value} {base:Nat} {outs:List (List UInt8)}
theorem fK.nil (W:World) (base:Nat) (T:Nat→Nat):fK W base T (.slice none 0 0) []:=⟨[],World.ownsRow_nil _ _ _ _,fun k e=>by simp[Value.ownBlock] at e,fun i q h=>by simp at h⟩
theorem fK.stay (h:fK W base T v outs) (hk:Kept (MT T) W W') (hT:∀k,k<W.heap.size→T' k=T k):fK W' base T' v outs:=by
 obtain ⟨vs,h1,h2,h3⟩:=h;have key:∀k,k<W.heap.size→T k=0→W'.heap[k]? =W.heap[k]? :=fun k hlt h0=>by
  have e:W.heap[k]? =some W.heap[k]:=Array.getElem?_eq_getElem hlt;rw[e];exact hk.same k _ e (fun hm=>hm h0)
 refine ⟨vs,cO h1 fun k e=>key k (h1.lt k e).2 (h2 k e),fun k e=>(hT k (h1.lt k e).2).trans (h2 k e),fun i q hi=> ?_⟩;obtain ⟨vi,e,ho,ht⟩:=h3 i q hi;exact ⟨vi,e,cO ho fun k e=>key k (ho.lt k e).2 (ht k e),fun k e=>(hT k (ho.lt k e).2).trans (ht k e)⟩
theorem fK.vH (h:fK W base T v outs) {b:Nat} (hb:b≤base):fK W b T v outs:=by
 obtain ⟨vs,h1,h2,h3⟩:=h;exact ⟨vs,aR h1 hb,h2,fun i q hi=>let ⟨vi,e,ho,ht⟩:=h3 i q hi;⟨vi,e,aR ho hb,ht⟩⟩
theorem fK.drew (h:fK W base T v outs):fK W.drew base T v outs:=h
theorem fK.below (h:fK W base T v outs) (hb:Below W.heap.size W W'):fK W' base T v outs:=by
 obtain ⟨vs,h1,h2,h3⟩:=h;exact ⟨vs,cO h1 fun k e=>hb.block k (h1.lt k e).2,h2,fun i q hi=>let ⟨vi,e,ho,ht⟩:=h3 i q hi;⟨vi,e,cO ho fun k e=>hb.block k (ho.lt k e).2,ht⟩⟩
theorem fK.push {q:List UInt8} {vq v2:Value} {vs:List Value} (hrow:W.ownsRow base 31 1 v outs.length vs) (_hv:∀k,v.ownBlock=some k→T k=0) (h3:∀(i:Nat) (q:List UInt8),outs[i]? =some q→∃vi,vs[i]? =some vi∧W.ownsRow base 5 1 vi q.length (bV q)∧∀k,vi.ownBlock=some k→T k=0)
 (hq:W.ownsRow base 5 1 vq q.length (bV q)) (Gi:∀k,vq.ownBlock=some k→T k=0) (hown:W'.ownsRow base 31 1 v2 (outs.length+1) (vs++ [vq])) (hg:(W.alloc (.cells #[vq] 31)).grownBy W' v.ownBlock) (hv2:∀k,v2.ownBlock=some k→T k=0):fK W' base T v2 (outs++ [q]):=by
 have hs:=hrow.alloc (.cells #[vq] 31);have h5:∀{k:Nat} {x:Value} {xs:List Value},W.ownsRow base 5 1 x k xs→W'.ownsRow base 5 1 x k xs:=fun hx=>(hx.alloc _).kept hg (qo (hx.alloc _) hs (by decide))
 refine ⟨vs++ [vq],by simpa using hown,hv2,fun i r hi=> ?_⟩;rcases Nat.lt_or_ge i outs.length with hlt|hge
 ·rw[List.getElem?_append_left hlt] at hi;obtain ⟨vi,e,ho,ht⟩:=h3 i r hi;have hl:=hrow.1;exact ⟨vi,by rw[List.getElem?_append_left (by omega)];exact e,h5 ho,ht⟩
 ·have hl:=hrow.1;have hi2:i=outs.length:=by
   have:=(List.getElem?_eq_some_iff.1 hi).1;simp at this;omega
  subst hi2;rw[List.getElem?_append_right (Nat.le_refl _),Nat.sub_self] at hi;simp at hi;subst hi;refine ⟨vq,?_,h5 hq,Gi⟩;rw[List.getElem?_append_right (by omega),show outs.length-vs.length=0 by omega];rfl
theorem fV.grown (h:fV W T g M n c st vo) {row:Option Nat} (hg:W.grownBy W' row) (hr:∀k,row=some k→T k=0):fV W' T g M n c st vo:=
 h.stay fun k hk=>hg.block k (h.lt k hk) (fun e=>hk (hr k e.symm))
theorem fV.QT {n2:Nat} {F2:Nat→Option Value} {m2:Nat→Option Sp} (h:fV W T g M n c st vo) (hg:W.grownBy W' (some M)) (hF:gN Tryz.prog 3 W' M n2 F2)
 (hm:∀k,(m2 k=none→F2 k=none)∧∀p,m2 k=some p→∃b vf vd,F2 k=some (.pointer (some ⟨b,0,none⟩))∧nX W b p vf vd∧T b=3*k+4∧(∀j,vf.ownBlock=some j→T j=3*k+5)∧(∀j,vd.ownBlock=some j→T j=3*k+6)):fV W' T g M n2 c {st with m:=m2} vo:=by
 have hk:∀k,T k≠2→k<W.heap.size→W'.heap[k]? =W.heap[k]? :=fun k h2 hlt=>hg.block k hlt (fun e=>by cases e;exact h2 h.tM)
 have hsz:=hg.size;refine ⟨(hk g (by rw[h.tg];omega) h.blk.lt).trans h.blk,h.tg,h.tM,fun k e=>Nat.lt_of_lt_of_le (h.lt k e) hsz,cO h.qU fun k e=>hk k (by rw[h.od k e];omega) (h.qU.lt k e).2,h.od,F2,hF,fun k=>⟨(hm k).1,fun p hp=> ?_⟩⟩;obtain ⟨b,vf,vd,e,hs,t1,t2,t3⟩:=(hm k).2 p hp;exact ⟨b,vf,vd,e,hs.stay (hk b (by omega) hs.blk.lt) (fun j hj=>hk j (by rw[t2 j hj];omega) (hs.fr.lt j hj).2) (fun j hj=>hk j (by rw[t3 j hj];omega) (hs.dr.lt j hj).2),t1,t2,t3⟩
end
end
section
open Go.RowKit Go.Shelf
attribute [local go_sem] Oper.semAt_some
section
variable {w w' W W':World} {T T':Nat→Nat} {g M n:Nat} {c:Cf} {st:Rc} {vo v:Value} {base:Nat} {outs:List (List UInt8)}
def adE (w:World) (T:Nat→Nat) (g M n:Nat) (c:Cf) (R:Rc × List (List UInt8)) (e:Ending) (w':World):Prop:=
 ∃T' zI v,e= .returned v∧fV w' T' g M n c R.1 zI∧(∀k,k<w.heap.size→T' k=T k)∧Kept (MT T) w w'∧fK w' w.heap.size T' v R.2
theorem jf.trans {T2:Nat→Nat} (h:Kept (MT T) w W) (h2:Kept (MT T2) W W') (hT:∀k,k<w.heap.size→T2 k=T k):Kept (MT T) w W':=
 ⟨h2.os.trans h.os,h2.tape.trans h.tape,h2.output.trans h.output,Nat.le_trans h.size h2.size,fun i o hi hn=>h2.same i o (h.same i o hi hn) (fun hm=>hn (by unfold MT at*;rw[←hT i (lt_of_heap hi)];exact hm))⟩
def DlI (w:World) (T:Nat→Nat) (g M n:Nat) (c:Cf) (st:Rc) (p:Sp) (b:Nat) (vf vd:Value) (N:Nat) (W0:World) (FIN:List UInt8 × Bool × List (List UInt8)) (ob:Nat) (gk:Nat) (s2 s4 s5:Value) (W:World):Prop:=
 ∃(i fr:Nat) (op:List UInt8) (sm:Bool) (outs:List (List UInt8)) (T2:Nat→Nat) (Tw v2:Value),s2=v2∧s4= .int .i64 (fr:Nat)∧s5= .int .i64 (i:Nat)∧gk+i=N+1∧1≤i∧fr<i∧fV W T2 g M n c {st with op:=op,sm:=sm} Tw∧op.length≤9000∧
  (∀k,k<w.heap.size→T2 k=T k)∧Kept (MT T) w W∧fK W w.heap.size T2 v2 outs∧FIN=((uU p.fl p.da N gk i fr op sm).1,(uU p.fl p.da N gk i fr op sm).2.1,outs++(uU p.fl p.da N gk i fr op sm).2.2)∧outs.length+gk≤ob∧
  nX W b p vf vd∧T2 b=3*st.next+4∧b≠g∧(∀j,vf.ownBlock=some j→T2 j=3*st.next+5)∧(∀j,vd.ownBlock=some j→T2 j=3*st.next+6)∧W0.heap.size≤W.heap.size
def DlO (w:World) (T:Nat→Nat) (g M n:Nat) (c:Cf) (FIN:Rc × List (List UInt8)) (gk:Nat) (s2 s3:Value) (W:World):Prop:=
 ∃(j:Nat) (st:Rc) (outs:List (List UInt8)) (T2:Nat→Nat) (Tw v2:Value),s2=v2∧fV W T2 g M n c st Tw∧dH st∧(∀k,k<w.heap.size→T2 k=T k)∧Kept (MT T) w W∧fK W w.heap.size T2 v2 outs∧
  FIN=((eY gk st).1,outs++(eY gk st).2)∧outs.length+40000*gk≤40000*1024∧j<gk∧fO (st.m ((st.next+j)%1024))=false∧
  ((st.m st.next=none∧s3= .pointer none)∨∃p b vf vd,st.m st.next=some p∧s3= .pointer (some ⟨b,0,none⟩)∧nX W b p vf vd∧T2 b=3*st.next+4∧(∀j,vf.ownBlock=some j→T2 j=3*st.next+5)∧(∀j,vd.ownBlock=some j→T2 j=3*st.next+6))
theorem FH {f:Nat} {st:Rc} (h:fO (st.m st.next)=false):eY f st=(st,[]):=by
 cases f with
 |zero=>rfl
 |succ f=>
  unfold eY;cases hm:st.m st.next with
  |none=>rfl
  |some p=>
   rw[hm] at h;have h2:lq p=false:=h;dsimp only;rw[if_neg (by rw[h2];simp)]
theorem KI {f:Nat} {st:Rc} {p:Sp} (hm:st.m st.next=some p) (hc:lq p=true):eY (f+1) st=((eY f (yB st p)).1,(EF st p).2.2++(eY f (yB st p)).2):=by
 rw[eY,hm];dsimp only;rw[if_pos hc]
theorem NH {W:World} {gd L cd fr i:Nat} {da:List UInt8} (h:W.ownsRow 0 5 1 (.slice (some ⟨gd,0,none⟩) L cd) L (bV da)) (hl:da.length=L) (hfi:fr≤i) (hi:i≤L) (hL:L≤100000):Sl W W.heap.size (some ⟨gd,fr,none⟩) (i-fr) (i-fr) (bV ((da.take i).drop fr)):=by
 have hg:=(h.lt gd rfl).2;refine ⟨by rw[nL,List.length_drop,List.length_take];omega,Nat.le_refl _,by omega,fun _=>⟨_,rfl,hg,fun j u hu=> ?_⟩⟩;rw[Addr.add_lit];have hj:=(List.getElem?_eq_some_iff.1 hu).1;rw[nL,List.length_drop,List.length_take] at hj;rw[h.cellAt _ (by omega)];unfold bV at hu ⊢;rw[List.getElem?_map] at hu ⊢;rw[List.getElem?_drop,List.getElem?_take,if_pos (by omega)] at hu;exact hu
set_option maxRecDepth 100000 in
set_option maxHeartbeats 8000000 in
theorem Dy (h:fV w T g M n c st vo) (ho:dH st):Calls Tryz.prog 100 #[.pointer (some ⟨g,0,none⟩)] w (adE w T g M n c (eY 1024 st)):=by
 obtain ⟨FIN,hF⟩:∃FIN,FIN=eY 1024 st:=⟨_,rfl⟩
 rw[←hF];have HH:=Lib.hid h;have HO:=Lib.hid ho;have HF:=Lib.hid hF;have hstop:=ho.stops (sn:=st.next) ho.n1;have HST:=Lib.hid hstop;have jQ:Tryz.prog.follows .mixedOrders=true:=by kernel_rfl
 have hn1:=ho.n1;obtain ⟨x3,x4,x7,x8,x9,x10,uG,El,Ot,Bq,PN,Ov,Mq,x18⟩:=h.cells;obtain ⟨v,hl,hv⟩:=h.drew.look hn1;have HV:=Lib.hid hv;clear h ho hF hstop hv x3 x4 x9 x10 uG El Ot Bq PN Ov Mq x18;go_enter Tryz.func100,Tryz.ntmps100;go_upto_region 1 with (fail)
 go_cut [3] (fun s3 wx=>s3=v∧wx=w.drew)
 case first=>
  refine wp_region_still_tail 8 jQ (by kernel_rfl) ?_;simp only[List.take_succ_cons,List.take_zero,List.drop_succ_cons,List.drop_zero]
  repeat still_step
  refine wpStill_nil ?_;change wpList _ _ _ _ _ w.drew;go_wp2;go_meet;exact ⟨rfl,rfl⟩
 case rest=>
 obtain ⟨rfl,rfl⟩:=hcut;have H0:=Lib.hid HH.out.drew;clear hl x7 x8;go_wp2_with fail;go_loopg [2,3] 1024 (fun gk s2 s3 wr=>DlO w T g M n c FIN gk s2 s3 wr)
 case atStart=>
  obtain ⟨j,h1,h2⟩:=HST.out;refine ⟨j,st,[],T,vo,_,rfl,H0.out,HO.out,fun _ _=>rfl,(Kept.refl _ w).drew,fK.nil _ _ _,by rw[HF.out];rfl,by simp,h1,h2,?_⟩;exact HV.out
 case round=>
  obtain ⟨j,st1,outs,T2,Tw,v2,rfl,hR,hok,hT2,hK,hO,hfin,hol,hj,hst,hp⟩:=hrel;have hn2:=hok.n1;have hcm:Calls Tryz.prog 117 #[u3] wr fun e w'=>e= .returned (.bool (fO (st1.m st1.next)))∧Below wr.heap.size wr w':=by
   rcases hp with ⟨hm,rfl⟩|⟨p,b,vf,vd,hm,rfl,hs,_⟩
   ·rw[hm];exact rC wr
   ·rw[hm];exact rD hs (hok.m _ p hm).2.2
  obtain ⟨f,rfl⟩:∃f,gk=f+1:=⟨gk-1,by omega⟩
  obtain ⟨vs,hrow,Wn,BU⟩:=hO;obtain ⟨Av,cv,rfl,hsv,-⟩:=aZ hrow;have OC:=Lib.hid (show fK wr w.heap.size T2 (.slice Av outs.length cv) outs from ⟨vs,hrow,Wn,BU⟩);have HR:=Lib.hid hR;have AR:=Lib.hid hok;have HT2:=Lib.hid hT2;have HK:=Lib.hid hK;clear hrow Wn BU hsv hR hT2 hK HST HV H0;cases hcc:fO (st1.m st1.next) with
  |false=>
   rw[hcc] at hcm;rw[FH hcc,List.append_nil] at hfin;have Fu:=Lib.hid hfin;have HCM:=Lib.hid hcm;clear hfin hcm hcc hst hp hok;go_wp2_with (go_at_call 117;refine HCM.out.mono ?_;rintro e1 w1 ⟨rfl,hb1⟩);go_ret;rw[Fu.out];exact ⟨T2,Tw,_,rfl,HR.out.below hb1,HT2.out,jf.trans HK.out (pR hb1) HT2.out,OC.out.below hb1⟩
  |true=>
   rw[hcc] at hcm;obtain ⟨p,b,vf,vd,hm,rfl,hs,t1,t2,t3⟩:∃p b vf vd,st1.m st1.next=some p∧u3= .pointer (some ⟨b,0,none⟩)∧nX wr b p vf vd∧T2 b=3*st1.next+4∧(∀j,vf.ownBlock=some j→T2 j=3*st1.next+5)∧(∀j,vd.ownBlock=some j→T2 j=3*st1.next+6):=by
    rcases hp with ⟨hm,_⟩|h9
    ·rw[hm] at hcc;cases hcc
    ·exact h9
   have hcs:lq p=true:=by rw[hm] at hcc;exact hcc
   rw[KI hm hcs] at hfin;obtain ⟨_,_,hsp⟩:=hok.m _ p hm;obtain ⟨N,hN,hN0,hgN⟩:∃N,p.size=some N∧0<N∧pN p.fl=N:=by
    unfold lq at hcs;cases hsz:p.size with
    |none=>rw[hsz] at hcs;cases hcs
    |some k=>
     rw[hsz] at hcs;simp only[Bool.and_eq_true,decide_eq_true_eq] at hcs;exact ⟨k,rfl,hcs.1,hcs.2⟩
   have hgl:=wS p.fl;have hNL:N≤p.fl.length:=by omega
   have hLb:=hsp.le;have hsI:cB p=(N:Int):=by unfold cB;rw[hN]
   have hsS:Bn p=N:=by unfold Bn;rw[hN];rfl
   have hj0:j≠0:=fun e=>by
    rw[e,Nat.add_zero,Nat.mod_eq_of_lt (by omega),hcc] at hst;cases hst
   have EG:fO ((yB st1 p).m (((yB st1 p).next+(j-1))%1024))=false:=by
    show fO (j6 st1.m st1.next none ((fD st1.next+(j-1))%1024))=false
    unfold fD j6;rw[show ((st1.next+1)%1024+(j-1))%1024=(st1.next+j)%1024 by omega];split
    ·rfl
    ·exact hst
   have hbg:b≠g:=fun e=>by
    have h8:=HR.out.tg;rw[←e,t1] at h8;omega
   have hbl:=hs.blk.lt;obtain ⟨FI,hFI⟩:∃FI,FI=((EF st1 p).1,(EF st1 p).2.1,outs++(EF st1 p).2.2):=⟨_,rfl⟩
   have Fu:=Lib.hid hFI;have L6:=Lib.hid hfin;have HCM:=Lib.hid hcm;have HM:=Lib.hid hm;have HS:=Lib.hid hs;have Lf:=Lib.hid hsp;have adF:=Lib.hid EG;have XH:=Lib.hid hj0;have HJ:=Lib.hid hj;have HT1:=Lib.hid t1;have HTF:=Lib.hid t2;have HTD:=Lib.hid t3;have HSI:=Lib.hid hsI;have Oh:=Lib.hid hsS;have Zk:=Lib.hid hbg;have Zl:=Lib.hid hol;have hop1:=hok.op;have Zh:=Lib.hid hop1;clear hFI hfin hcm hcc hst hp hok hm hs hsp EG hj0 hj t1 t2 t3 hsI hsS hbg hgN hgl hN hcs hol hop1
   go_upto_block 2 with (go_at_call 117;refine HCM.out.mono ?_;rintro e1 w1 ⟨rfl,hb1⟩)
   have hs1:nX w1 b p vf vd:=HS.out.stay (hb1.block b hbl) (fun k hk=>hb1.block k (HS.out.fr.lt k hk).2) (fun k hk=>hb1.block k (HS.out.dr.lt k hk).2);have oF:=HR.out.below hb1;have hK1:=jf.trans HK.out (pR hb1) HT2.out;have Ku:=OC.out.below hb1;have hwz:=hb1.size;have AU:=Lib.hid hs1;have HR1:=Lib.hid oF;have vg:=Lib.hid hK1;have HO1:=Lib.hid Ku;clear hs1 oF hK1 Ku hb1 HCM HS HR HK OC;go_wp2_with fail;go_loopg [2,4,5] N (fun gk s2 s4 s5 wq=>DlI w T g M n c st1 p b vf vd N w1 FI (outs.length+N) gk s2 s4 s5 wq)
   case atStart=>
    refine ⟨1,0,st1.op,st1.sm,outs,T2,Tw,_,rfl,rfl,rfl,rfl,Nat.le_refl _,by omega,HR1.out,Zh.out,HT2.out,vg.out,HO1.out,?_,Nat.le_refl _,AU.out,HT1.out,Zk.out,HTF.out,HTD.out,Nat.le_refl _⟩;rw[Fu.out];unfold EF;rw[Oh.out]
   case round=>
    obtain ⟨i,fr,op,sm,nu,T3,vo3,v3,rfl,rfl,rfl,hki,hi1,hfi,hR,hop,U6,hK,hO,hfin,hol,hs,t1,_,t2,t3,U7⟩:=hrel;obtain ⟨z0,z1,z2⟩:wr.cell? ⟨b,0,none⟩=some vf∧wr.cell? ⟨b,1,none⟩=some vd∧wr.cell? ⟨b,2,none⟩=some (.int .i64 (cB p)):=⟨hs.blk.cell 0,hs.blk.cell 1,hs.blk.cell 2⟩;rw[HSI.out] at z2;have akl:nu.length≤40000*1024+40000:=by have:=Zl.out;omega
    obtain ⟨vs,hrow,Wn,BU⟩:=hO;obtain ⟨Av2,cv2,rfl,hsv,-⟩:=aZ hrow;have M9:=Lib.hid (show fK wr w.heap.size T3 (.slice Av2 nu.length cv2) nu from ⟨vs,hrow,Wn,BU⟩);have HR3:=Lib.hid hR;have HT3:=Lib.hid U6;have lJ:=Lib.hid hK;have zJ:=Lib.hid hs;have HA1:=Lib.hid t1;have HA2:=Lib.hid t2;have vk:=Lib.hid t3;have HOB:=Lib.hid hol;have HKI:=Lib.hid hki;by_cases hiN:i≤N
    ·obtain ⟨Zm,rfl⟩:∃Zm,gk=Zm+1:=⟨gk-1,by omega⟩
     have hL0:0<p.fl.length:=by omega
     obtain ⟨gf,cf,rfl,adH,adI,hgf⟩:=tq hs.fr hL0;have hdl:p.da.length=p.fl.length:=Lf.out.ll;have hdr:=hs.dr;rw[hdl] at hdr;obtain ⟨gd,cd,rfl,adJ,adK,hgd⟩:=tq hdr hL0;obtain ⟨A',c',e',hfs⟩:=lH.cK hs.fr;cases e';have hhas:=fun (X:World) (hX:Below wr.heap.size wr X) (a which:Nat) (ha:a≤100000) (hw:which<3)=>yD (hfs.below hX) a ha which hw
     have AJ:Calls Tryz.prog 156 #[.slice (some ⟨gf,0,none⟩) p.fl.length cf,.int .i64 (i:Nat),.int .i64 1] wr fun e w'=>e= .returned (.bool (fJ p.fl i).2.1)∧wr=w':=hhas wr (Below.refl _ _) i 1 (by omega) (by omega)
     have EG:Calls Tryz.prog 156 #[.slice (some ⟨gf,0,none⟩) p.fl.length cf,.int .i64 (fr:Nat),.int .i64 1] wr.drew fun e w'=>e= .returned (.bool (fJ p.fl fr).2.1)∧wr.drew=w':=hhas wr.drew (Below.refl _ _).drew fr 1 (by omega) (by omega)
     have Zn:Calls Tryz.prog 156 #[.slice (some ⟨gf,0,none⟩) p.fl.length cf,.int .i64 ((i:Int)-1),.int .i64 2] wr.drew fun e w'=>e= .returned (.bool (fJ p.fl (i-1)).2.2)∧wr.drew=w':=by
      have:=hhas wr.drew (Below.refl _ _).drew (i-1) 2 (by omega) (by omega);rw[show ((i-1:Nat):Int)=(i:Int)-1 by omega] at this;exact this
     have NI:=Lib.hid AJ;have NJ:=Lib.hid EG;have Zo:=Lib.hid Zn;have iW:=Lib.hid hfin;clear hR U6 hK hs t1 t2 t3 hol hki hhas AJ EG Zn hfs hdr hfin hrow Wn BU hsv;by_cases Fq:i<N∧(fJ p.fl i).2.1=false
     ·obtain ⟨hs1,hs2⟩:=Fq;have hfin:=iW.out;rw[uU,if_pos ⟨hs1,hs2⟩] at hfin;have AJ:=NI.out;rw[hs2] at AJ;have U9:=Lib.hid AJ;have Il:=Lib.hid hfin;clear hs2 AJ hfin NI iW;go_wp2_with (go_at_call 156;refine U9.out.mono ?_;rintro e1 w4 ⟨rfl,rfl⟩)
      go_roundg Zm
      case measure=>omega
      case rel=>
       exact ⟨i+1,fr,op,sm,nu,T3,vo3,_,rfl,rfl,by go_num,by have:=HKI.out;omega,by omega,by omega,HR3.out,hop,HT3.out,lJ.out,M9.out,Il.out,by have:=HOB.out;omega,zJ.out,HA1.out,Zk.out,HA2.out,vk.out,U7⟩
     ·have hfin:=iW.out;rw[uU,if_neg Fq] at hfin;obtain ⟨RP,hRP⟩:∃RP,RP=sN ((p.da.take i).drop fr) (fJ p.fl fr).2.1 (decide (i<N)||(fJ p.fl (i-1)).2.2) op sm:=⟨_,rfl⟩
      dsimp only at hfin;rw[←hRP] at hfin;have Il:=Lib.hid hfin;have M3:=BS (b:=(p.da.take i).drop fr) (begins:=(fJ p.fl fr).2.1) (last:=decide (i<N)||(fJ p.fl (i-1)).2.2) (sm:=sm) hop;rw[←hRP] at M3;obtain ⟨TL,JW⟩:=M3;have DV:=Lib.hid hRP;have Yg:=Lib.hid Fq;clear hfin hRP Fq iW;go_upto_region 8 with (fail)
      go_cut [50] (fun s50 wx=>s50= .bool false∧wx=wr)
      case first=>
       by_cases FJ:i<N
       ·have hfl:(fJ p.fl i).2.1=true:=by
         cases hh:(fJ p.fl i).2.1 with
         |true=>rfl
         |false=>exact absurd ⟨FJ,hh⟩ Yg.out
        have AJ:=NI.out;rw[hfl] at AJ;have U9:=Lib.hid AJ;clear hfl AJ NI;go_wp2_with (go_at_call 156;refine U9.out.mono ?_;rintro e1 w4 ⟨rfl,rfl⟩);go_meet;exact ⟨rfl,rfl⟩
       ·have ako:¬(i:Int)<(N:Int):=by omega
        go_wp2_with fail;go_meet;exact ⟨rfl,rfl⟩
      case rest=>
      obtain ⟨rfl,rfl⟩:=hcut;generalize wc=wb at*;have hsl:=NH (zJ.out.dr |> fun h9=>by rw[Lf.out.ll] at h9;exact h9) Lf.out.ll (fr:=fr) (i:=i) (by omega) (by omega) (by omega);have Sj:∀X,Kept (fun k _=>k=g) wb.drew X→Sl X X.heap.size (some ⟨gd,fr,none⟩) (i-fr) (i-fr) (bV ((p.da.take i).drop fr)):=fun X hX=>by
       have h9:=zJ.out.dr;rw[Lf.out.ll] at h9;refine NH (cO h9 fun k hk=> ?_) Lf.out.ll (by omega) (by omega) (by omega);obtain ⟨o,ho⟩:∃o,wb.heap[k]? =some o:=⟨_,Array.getElem?_eq_getElem (h9.lt k hk).2⟩
       rw[ho];refine hX.same k o ho (fun ek=> ?_);have h8:=vk.out k hk;rw[ek] at h8;have h7:=HR3.out.tg;omega
      have Zp:dH {st1 with op:=op,sm:=sm}:=⟨AR.out.n1,AR.out.n2,AR.out.n3,AR.out.n4,AR.out.m,hop,AR.out.t1,AR.out.t2⟩;have hpt:=KH HR3.out.drew Zp (some ⟨gd,fr,none⟩) (i-fr) (i-fr) ((p.da.take i).drop fr) (by omega) Sj (fJ p.fl fr).2.1 (decide (i<N)||(fJ p.fl (i-1)).2.2);dsimp only at hpt;rw[←DV.out] at hpt;have Tt:=Lib.hid hpt;have akp:¬cd=fr:=by omega
      have akq:¬i=fr:=by omega
      have hq1:(fr:Int)≤(i:Int):=by omega
      have hq2:(i:Int)≤(cd:Int):=by omega
      have hq3:(0:Int)≤(fr:Int):=by omega
      clear hsl Sj Zp hpt DV Yg NI;go_upto_region 9 with (fail)
      go_cut [6,7] (fun s6 s7 wx=>∃(T4:Nat→Nat) (Sk:Value),s7= .bool (!RP.2.2.isEmpty)∧fV wx T4 g M n c {st1 with op:=RP.1,sm:=RP.2.1} Sk∧(∀k,k<wb.heap.size→T4 k=T3 k)∧Kept (fun k _=>k=g) wb wx∧(∀q,RP.2.2= [q]→wx.ownsRow wb.heap.size 5 1 s6 q.length (bV q)∧∀k,s6.ownBlock=some k→T4 k=0))
      case first=>
       by_cases FJ:i<N
       ·have hpt:=Tt.out;rw[decide_eq_true FJ,Bool.true_or] at hpt;have HP2:=Lib.hid hpt;have d1:decide (i<N)=true:=decide_eq_true FJ;clear hpt Tt Zo;refine wp_region_noPanic ?_;refine aY (fun w'=>w'.cell? ⟨b,0,none⟩=some (.slice (some ⟨gf,0,none⟩) p.fl.length cf)∧w'.cell? ⟨b,1,none⟩=some (.slice (some ⟨gd,0,none⟩) p.fl.length cd)∧w'.cell? ⟨b,2,none⟩=some (.int .i64 (N:Int))) [30] (by kernel_rfl) ?_;have hHeld:=(show (fun w':World=>w'.cell? ⟨b,0,none⟩=some (.slice (some ⟨gf,0,none⟩) p.fl.length cf)∧w'.cell? ⟨b,1,none⟩=some (.slice (some ⟨gd,0,none⟩) p.fl.length cd)∧w'.cell? ⟨b,2,none⟩=some (.int .i64 (N:Int))) wb.drew from ⟨z0,z1,z2⟩);refine aT 0 ?_ rfl (Or.inl ⟨by rfl,?_⟩) hHeld ?_;rotate_left
        ·intro w' hSw;go_simp
         try with_reducible rfl
        try simp only[Act.put,aB,aC,ax,ay,aA]
        refine aT 1 ?_ rfl (Or.inl ⟨by rfl,?_⟩) hHeld ?_;rotate_left
        ·intro w' hSw;go_simp
         try with_reducible rfl
        try simp only[Act.put,aB,aC,aD,ax,ay,aA]
        refine aT 2 ?_ rfl (Or.inl ⟨by rfl,?_⟩) hHeld ?_;rotate_left
        ·intro w' hSw;go_simp
         try with_reducible rfl
        try simp only[Act.put,aB,aC,aD,ax,ay,aA]
        refine aT 3 ?_ rfl (Or.inl ⟨by rfl,?_⟩) hHeld ?_;rotate_left
        ·intro w' hSw;go_simp
         try with_reducible rfl
        try simp only[Act.put,aB,aC,aD,ax,ay,aA]
        refine iK [8,30] 4 ?_ rfl (Or.inl ⟨by rfl,?_⟩) hHeld ?_;rotate_left
        ·intro w' hSw;obtain ⟨hS1,hS2,fU⟩:=hSw;go_simp
         try with_reducible rfl
        try simp only[Act.put,aB,aC,aD,ax,ay,aA]
        refine aT 5 ?_ rfl (Or.inl ⟨by rfl,?_⟩) hHeld ?_;rotate_left
        ·intro w' hSw;go_simp
         try with_reducible rfl
        try simp only[Act.put,aB,aC,aD,ax,ay,aA]
        refine aT 6 ?_ rfl (Or.inl ⟨by rfl,?_⟩) hHeld ?_;rotate_left
        ·intro w' hSw;go_simp
         try with_reducible rfl
        try simp only[Act.put,aB,aC,aD,ax,ay,aA]
        refine aT 7 ?_ rfl (Or.inl ⟨by rfl,?_⟩) hHeld ?_;rotate_left
        ·intro w' hSw;go_simp
         try with_reducible rfl
        try simp only[Act.put,aB,aC,aD,ax,ay,aA]
        refine aT 8 ?_ rfl (Or.inl ⟨by rfl,?_⟩) hHeld ?_;rotate_left
        ·intro w' hSw;go_simp
         try with_reducible rfl
        try simp only[Act.put,aB,aC,aD,ax,ay,aA]
        refine aT 9 ?_ rfl (Or.inl ⟨by rfl,?_⟩) hHeld ?_;rotate_left
        ·intro w' hSw;go_simp
         try with_reducible rfl
        try simp only[Act.put,aB,aC,aD,ax,ay,aA]
        refine aT 10 ?_ rfl (Or.inl ⟨by rfl,?_⟩) hHeld ?_;rotate_left
        ·intro w' hSw;go_simp
         try with_reducible rfl
        try simp only[Act.put,aB,aC,aD,ax,ay,aA]
        refine aT 11 ?_ rfl (Or.inl ⟨by rfl,?_⟩) hHeld ?_;rotate_left
        ·intro w' hSw;go_simp
         try with_reducible rfl
        try simp only[Act.put,aB,aC,aD,ax,ay,aA]
        refine iK [14,30] 12 ?_ rfl (Or.inl ⟨by rfl,?_⟩) hHeld ?_;rotate_left
        ·intro w' hSw;obtain ⟨hS1,hS2,fU⟩:=hSw;go_simp
         try with_reducible rfl
        try simp only[Act.put,aB,aC,aD,ax,ay,aA]
        refine aT 13 ?_ rfl (Or.inl ⟨by rfl,?_⟩) hHeld ?_;rotate_left
        ·intro w' hSw;go_simp
         try with_reducible rfl
        try simp only[Act.put,aB,aC,aD,ax,ay,aA]
        refine aT 15 ?_ rfl (Or.inl ⟨by rfl,?_⟩) hHeld ?_;rotate_left
        ·intro w' hSw;go_simp
         try with_reducible rfl
        try simp only[Act.put,aB,aC,aD,ax,ay,aA]
        refine aT 16 ?_ rfl (Or.inl ⟨by rfl,?_⟩) hHeld ?_;rotate_left
        ·intro w' hSw;go_simp
         try with_reducible rfl
        try simp only[Act.put,aB,aC,aD,ax,ay,aA]
        refine aT 17 ?_ rfl (Or.inl ⟨by rfl,?_⟩) hHeld ?_;rotate_left
        ·intro w' hSw;go_simp
         try with_reducible rfl
        try simp only[Act.put,aB,aC,aD,ax,ay,aA]
        refine aT 18 ?_ rfl (Or.inl ⟨by rfl,?_⟩) hHeld ?_;rotate_left
        ·intro w' hSw;go_simp
         try with_reducible rfl
        try simp only[Act.put,aB,aC,aD,ax,ay,aA]
        refine iK [20,21,29,30] 19 ?_ rfl (Or.inl ⟨by rfl,?_⟩) hHeld ?_;rotate_left
        ·intro w' hSw;obtain ⟨hS1,hS2,fU⟩:=hSw;go_simp
         try with_reducible rfl
        try simp only[Act.put,aB,aC,aD,ax,ay,aA]
        refine aT 20 ?_ rfl (Or.inl ⟨by rfl,?_⟩) hHeld ?_;rotate_left
        ·intro w' hSw;go_simp
         try with_reducible rfl
        try simp only[Act.put,aB,aC,aD,ax,ay,aA]
        refine aQ (i:=14) rfl (by kernel_rfl) (by rfl) (fun K hK=> ?_);go_simp;refine NJ.out.mono ?_;rintro e1 w4 ⟨rfl,rfl⟩;refine hK _ _ ⟨z0,z1,z2⟩ ?_;clear hK K hHeld;have hHeld:=(show (fun w':World=>w'.cell? ⟨b,0,none⟩=some (.slice (some ⟨gf,0,none⟩) p.fl.length cf)∧w'.cell? ⟨b,1,none⟩=some (.slice (some ⟨gd,0,none⟩) p.fl.length cd)∧w'.cell? ⟨b,2,none⟩=some (.int .i64 (N:Int))) wb.drew from ⟨z0,z1,z2⟩)
        try simp only[Act.put,aB,aC,aD,ax,ay,aA]
        refine aT 21 ?_ rfl (Or.inl ⟨by rfl,?_⟩) hHeld ?_;rotate_left
        ·intro w' hSw;go_simp
         try with_reducible rfl
        try simp only[Act.put,aB,aC,aD,ax,ay,aA]
        refine aT 22 undef rfl (Or.inr ⟨by rfl,rfl⟩) hHeld ?_
        try simp only[Act.put,aB,aC,aD,ax,ay,aA]
        refine aT 23 undef rfl (Or.inr ⟨by rfl,rfl⟩) hHeld ?_
        try simp only[Act.put,aB,aC,aD,ax,ay,aA]
        refine aT 24 undef rfl (Or.inr ⟨by rfl,rfl⟩) hHeld ?_
        try simp only[Act.put,aB,aC,aD,ax,ay,aA]
        refine aT 25 undef rfl (Or.inr ⟨by rfl,rfl⟩) hHeld ?_
        try simp only[Act.put,aB,aC,aD,ax,ay,aA]
        refine aT 26 undef rfl (Or.inr ⟨by rfl,rfl⟩) hHeld ?_
        try simp only[Act.put,aB,aC,aD,ax,ay,aA]
        refine aT 27 undef rfl (Or.inr ⟨by rfl,rfl⟩) hHeld ?_
        try simp only[Act.put,aB,aC,aD,ax,ay,aA]
        refine aT 28 undef rfl (Or.inr ⟨by rfl,rfl⟩) hHeld ?_
        try simp only[Act.put,aB,aC,aD,ax,ay,aA]
        refine aT 29 ?_ rfl (Or.inl ⟨by rfl,?_⟩) hHeld ?_;rotate_left
        ·intro w' hSw;go_simp
         try with_reducible rfl
        try simp only[Act.put,aB,aC,aD,ax,ay,aA]
        refine bH (i:=30) rfl (by kernel_rfl) (by kernel_rfl) (by rfl) (fun K hK=> ?_);go_simp;refine HP2.out.mono ?_;rintro e1 w4 ⟨T4,Sk,vr,rfl,zG,FL,hK4,hq4⟩;refine hK _ _ ?_;clear hK K
        try simp only[Act.put,aB,aC,aD,ax,ay,aA]
        refine jo 31 ?_ rfl (Or.inl ⟨by rfl,?_⟩) ?_;rotate_left
        ·intro w' hSw;go_simp
         try with_reducible rfl
        try simp only[Act.put,aB,aC,aD,ax,ay,aA]
        refine jo 32 ?_ rfl (Or.inl ⟨by rfl,?_⟩) ?_;rotate_left
        ·intro w' hSw;go_simp
         try with_reducible rfl
        try simp only[Act.put,aB,aC,aD,ax,ay,aA]
        refine jo 33 ?_ rfl (Or.inl ⟨by rfl,?_⟩) ?_;rotate_left
        ·intro w' hSw;go_simp
         try with_reducible rfl
        try simp only[Act.put,aB,aC,aD,ax,ay,aA]
        refine jo 34 ?_ rfl (Or.inl ⟨by rfl,?_⟩) ?_;rotate_left
        ·intro w' hSw;go_simp
         try with_reducible rfl
        try simp only[Act.put,aB,aC,aD,ax,ay,aA]
        refine jo 35 ?_ rfl (Or.inl ⟨by rfl,?_⟩) ?_;rotate_left
        ·intro w' hSw;go_simp
         try with_reducible rfl
        try simp only[Act.put,aB,aC,aD,ax,ay,aA]
        refine aX (by kernel_rfl) ?_ _;simp only[NoPanic];go_wp2_with fail;go_meet;exact ⟨T4,Sk,rfl,zG,FL,(Kept.refl _ wb).drew.trans hK4,hq4⟩
       ·have hiE:i=N:=by omega
        have hpt:=Tt.out;rw[decide_eq_false FJ,Bool.false_or] at hpt;have HP2:=Lib.hid hpt;have d1:decide (i<N)=false:=decide_eq_false FJ;have hwi:IntKind.i64.wrap ((i:Int)-1)=(i:Int)-1:=IntWalk.i64_in _ (by omega);clear hpt Tt hiE;refine wp_region_noPanic ?_;refine aY (fun w'=>w'.cell? ⟨b,0,none⟩=some (.slice (some ⟨gf,0,none⟩) p.fl.length cf)∧w'.cell? ⟨b,1,none⟩=some (.slice (some ⟨gd,0,none⟩) p.fl.length cd)∧w'.cell? ⟨b,2,none⟩=some (.int .i64 (N:Int))) [30] (by kernel_rfl) ?_;have hHeld:=(show (fun w':World=>w'.cell? ⟨b,0,none⟩=some (.slice (some ⟨gf,0,none⟩) p.fl.length cf)∧w'.cell? ⟨b,1,none⟩=some (.slice (some ⟨gd,0,none⟩) p.fl.length cd)∧w'.cell? ⟨b,2,none⟩=some (.int .i64 (N:Int))) wb.drew from ⟨z0,z1,z2⟩);refine aT 0 ?_ rfl (Or.inl ⟨by rfl,?_⟩) hHeld ?_;rotate_left
        ·intro w' hSw;go_simp
         try with_reducible rfl
        try simp only[Act.put,aB,aC,ax,ay,aA]
        refine aT 1 ?_ rfl (Or.inl ⟨by rfl,?_⟩) hHeld ?_;rotate_left
        ·intro w' hSw;go_simp
         try with_reducible rfl
        try simp only[Act.put,aB,aC,aD,ax,ay,aA]
        refine aT 2 ?_ rfl (Or.inl ⟨by rfl,?_⟩) hHeld ?_;rotate_left
        ·intro w' hSw;go_simp
         try with_reducible rfl
        try simp only[Act.put,aB,aC,aD,ax,ay,aA]
        refine aT 3 ?_ rfl (Or.inl ⟨by rfl,?_⟩) hHeld ?_;rotate_left
        ·intro w' hSw;go_simp
         try with_reducible rfl
        try simp only[Act.put,aB,aC,aD,ax,ay,aA]
        refine iK [8,30] 4 ?_ rfl (Or.inl ⟨by rfl,?_⟩) hHeld ?_;rotate_left
        ·intro w' hSw;obtain ⟨hS1,hS2,fU⟩:=hSw;go_simp
         try with_reducible rfl
        try simp only[Act.put,aB,aC,aD,ax,ay,aA]
        refine aT 5 ?_ rfl (Or.inl ⟨by rfl,?_⟩) hHeld ?_;rotate_left
        ·intro w' hSw;go_simp
         try with_reducible rfl
        try simp only[Act.put,aB,aC,aD,ax,ay,aA]
        refine aT 6 ?_ rfl (Or.inl ⟨by rfl,?_⟩) hHeld ?_;rotate_left
        ·intro w' hSw;go_simp
         try with_reducible rfl
        try simp only[Act.put,aB,aC,aD,ax,ay,aA]
        refine aT 7 ?_ rfl (Or.inl ⟨by rfl,?_⟩) hHeld ?_;rotate_left
        ·intro w' hSw;go_simp
         try with_reducible rfl
        try simp only[Act.put,aB,aC,aD,ax,ay,aA]
        refine aT 8 ?_ rfl (Or.inl ⟨by rfl,?_⟩) hHeld ?_;rotate_left
        ·intro w' hSw;go_simp
         try with_reducible rfl
        try simp only[Act.put,aB,aC,aD,ax,ay,aA]
        refine aT 9 ?_ rfl (Or.inl ⟨by rfl,?_⟩) hHeld ?_;rotate_left
        ·intro w' hSw;go_simp
         try with_reducible rfl
        try simp only[Act.put,aB,aC,aD,ax,ay,aA]
        refine aT 10 ?_ rfl (Or.inl ⟨by rfl,?_⟩) hHeld ?_;rotate_left
        ·intro w' hSw;go_simp
         try with_reducible rfl
        try simp only[Act.put,aB,aC,aD,ax,ay,aA]
        refine aT 11 ?_ rfl (Or.inl ⟨by rfl,?_⟩) hHeld ?_;rotate_left
        ·intro w' hSw;go_simp
         try with_reducible rfl
        try simp only[Act.put,aB,aC,aD,ax,ay,aA]
        refine iK [14,30] 12 ?_ rfl (Or.inl ⟨by rfl,?_⟩) hHeld ?_;rotate_left
        ·intro w' hSw;obtain ⟨hS1,hS2,fU⟩:=hSw;go_simp
         try with_reducible rfl
        try simp only[Act.put,aB,aC,aD,ax,ay,aA]
        refine aT 13 ?_ rfl (Or.inl ⟨by rfl,?_⟩) hHeld ?_;rotate_left
        ·intro w' hSw;go_simp
         try with_reducible rfl
        try simp only[Act.put,aB,aC,aD,ax,ay,aA]
        refine aT 15 ?_ rfl (Or.inl ⟨by rfl,?_⟩) hHeld ?_;rotate_left
        ·intro w' hSw;go_simp
         try with_reducible rfl
        try simp only[Act.put,aB,aC,aD,ax,ay,aA]
        refine aT 16 ?_ rfl (Or.inl ⟨by rfl,?_⟩) hHeld ?_;rotate_left
        ·intro w' hSw;go_simp
         try with_reducible rfl
        try simp only[Act.put,aB,aC,aD,ax,ay,aA]
        refine aT 17 ?_ rfl (Or.inl ⟨by rfl,?_⟩) hHeld ?_;rotate_left
        ·intro w' hSw;go_simp
         try with_reducible rfl
        try simp only[Act.put,aB,aC,aD,ax,ay,aA]
        refine aT 18 ?_ rfl (Or.inl ⟨by rfl,?_⟩) hHeld ?_;rotate_left
        ·intro w' hSw;go_simp
         try with_reducible rfl
        try simp only[Act.put,aB,aC,aD,ax,ay,aA]
        refine iK [20,21,29,30] 19 ?_ rfl (Or.inl ⟨by rfl,?_⟩) hHeld ?_;rotate_left
        ·intro w' hSw;obtain ⟨hS1,hS2,fU⟩:=hSw;go_simp
         try with_reducible rfl
        try simp only[Act.put,aB,aC,aD,ax,ay,aA]
        refine aT 20 ?_ rfl (Or.inl ⟨by rfl,?_⟩) hHeld ?_;rotate_left
        ·intro w' hSw;go_simp
         try with_reducible rfl
        try simp only[Act.put,aB,aC,aD,ax,ay,aA]
        refine aQ (i:=14) rfl (by kernel_rfl) (by rfl) (fun K hK=> ?_);go_simp;refine NJ.out.mono ?_;rintro e1 w4 ⟨rfl,rfl⟩;refine hK _ _ ⟨z0,z1,z2⟩ ?_;clear hK K hHeld;have hHeld:=(show (fun w':World=>w'.cell? ⟨b,0,none⟩=some (.slice (some ⟨gf,0,none⟩) p.fl.length cf)∧w'.cell? ⟨b,1,none⟩=some (.slice (some ⟨gd,0,none⟩) p.fl.length cd)∧w'.cell? ⟨b,2,none⟩=some (.int .i64 (N:Int))) wb.drew from ⟨z0,z1,z2⟩)
        try simp only[Act.put,aB,aC,aD,ax,ay,aA]
        refine aT 21 ?_ rfl (Or.inl ⟨by rfl,?_⟩) hHeld ?_;rotate_left
        ·intro w' hSw;go_simp
         try with_reducible rfl
        try simp only[Act.put,aB,aC,aD,ax,ay,aA]
        refine aT 22 ?_ rfl (Or.inl ⟨by rfl,?_⟩) hHeld ?_;rotate_left
        ·intro w' hSw;go_simp
         try with_reducible rfl
        try simp only[Act.put,aB,aC,aD,ax,ay,aA]
        refine aT 23 ?_ rfl (Or.inl ⟨by rfl,?_⟩) hHeld ?_;rotate_left
        ·intro w' hSw;go_simp
         try with_reducible rfl
        try simp only[Act.put,aB,aC,aD,ax,ay,aA]
        refine aT 24 ?_ rfl (Or.inl ⟨by rfl,?_⟩) hHeld ?_;rotate_left
        ·intro w' hSw;go_simp
         try with_reducible rfl
        try simp only[Act.put,aB,aC,aD,ax,ay,aA]
        refine iK [28,29,30] 25 ?_ rfl (Or.inl ⟨by rfl,?_⟩) hHeld ?_;rotate_left
        ·intro w' hSw;obtain ⟨hS1,hS2,fU⟩:=hSw;go_simp
         try with_reducible rfl
        try simp only[Act.put,aB,aC,aD,ax,ay,aA]
        refine aT 26 ?_ rfl (Or.inl ⟨by rfl,?_⟩) hHeld ?_;rotate_left
        ·intro w' hSw;go_simp
         try with_reducible rfl
        try simp only[Act.put,aB,aC,aD,ax,ay,aA]
        refine aT 27 ?_ rfl (Or.inl ⟨by rfl,?_⟩) hHeld ?_;rotate_left
        ·intro w' hSw;go_simp
         try with_reducible rfl
        try simp only[Act.put,aB,aC,aD,ax,ay,aA]
        refine aQ (i:=28) rfl (by kernel_rfl) (by rfl) (fun K hK=> ?_);go_simp;refine Zo.out.mono ?_;rintro e1 w4 ⟨rfl,rfl⟩;refine hK _ _ ⟨z0,z1,z2⟩ ?_;clear hK K hHeld;have hHeld:=(show (fun w':World=>w'.cell? ⟨b,0,none⟩=some (.slice (some ⟨gf,0,none⟩) p.fl.length cf)∧w'.cell? ⟨b,1,none⟩=some (.slice (some ⟨gd,0,none⟩) p.fl.length cd)∧w'.cell? ⟨b,2,none⟩=some (.int .i64 (N:Int))) wb.drew from ⟨z0,z1,z2⟩)
        try simp only[Act.put,aB,aC,aD,ax,ay,aA]
        refine aT 29 ?_ rfl (Or.inl ⟨by rfl,?_⟩) hHeld ?_;rotate_left
        ·intro w' hSw;go_simp
         try with_reducible rfl
        try simp only[Act.put,aB,aC,aD,ax,ay,aA]
        refine bH (i:=30) rfl (by kernel_rfl) (by kernel_rfl) (by rfl) (fun K hK=> ?_);go_simp;refine HP2.out.mono ?_;rintro e1 w4 ⟨T4,Sk,vr,rfl,zG,FL,hK4,hq4⟩;refine hK _ _ ?_;clear hK K
        try simp only[Act.put,aB,aC,aD,ax,ay,aA]
        refine jo 31 ?_ rfl (Or.inl ⟨by rfl,?_⟩) ?_;rotate_left
        ·intro w' hSw;go_simp
         try with_reducible rfl
        try simp only[Act.put,aB,aC,aD,ax,ay,aA]
        refine jo 32 ?_ rfl (Or.inl ⟨by rfl,?_⟩) ?_;rotate_left
        ·intro w' hSw;go_simp
         try with_reducible rfl
        try simp only[Act.put,aB,aC,aD,ax,ay,aA]
        refine jo 33 ?_ rfl (Or.inl ⟨by rfl,?_⟩) ?_;rotate_left
        ·intro w' hSw;go_simp
         try with_reducible rfl
        try simp only[Act.put,aB,aC,aD,ax,ay,aA]
        refine jo 34 ?_ rfl (Or.inl ⟨by rfl,?_⟩) ?_;rotate_left
        ·intro w' hSw;go_simp
         try with_reducible rfl
        try simp only[Act.put,aB,aC,aD,ax,ay,aA]
        refine jo 35 ?_ rfl (Or.inl ⟨by rfl,?_⟩) ?_;rotate_left
        ·intro w' hSw;go_simp
         try with_reducible rfl
        try simp only[Act.put,aB,aC,aD,ax,ay,aA]
        refine aX (by kernel_rfl) ?_ _;simp only[NoPanic];go_wp2_with fail;go_meet;exact ⟨T4,Sk,rfl,zG,FL,(Kept.refl _ wb).drew.trans hK4,hq4⟩
      case rest=>
      obtain ⟨T4,Sk,hs7,zG,FL,hK4,hq4⟩:=hcut;have hkeep:∀k,k≠g→k<wb.heap.size→wc.heap[k]? =wb.heap[k]? :=fun k hk hlt=>by
       obtain ⟨o,ho⟩:∃o,wb.heap[k]? =some o:=⟨_,Array.getElem?_eq_getElem hlt⟩
       rw[ho];exact hK4.same k o ho hk
      have hg3:=HR3.out.tg;have hKm:Kept (MT T3) wb wc:=hK4.mono fun k o e=>by rw[e];unfold MT;omega
      have hwb:=lJ.out.size;have hs5:nX wc b p (.slice (some ⟨gf,0,none⟩) p.fl.length cf) (.slice (some ⟨gd,0,none⟩) p.fl.length cd):=zJ.out.stay (hkeep b Zk.out zJ.out.blk.lt) (fun k hk=>hkeep k (fun e=>by have:=HA2.out k hk;rw[e] at this;omega) (zJ.out.fr.lt k hk).2) (fun k hk=>hkeep k (fun e=>by have:=vk.out k hk;rw[e] at this;omega) (zJ.out.dr.lt k hk).2);have DY:=M9.out.stay hKm FL;have K6:=jf.trans lJ.out hKm HT3.out;have zK:∀k,k<w.heap.size→T4 k=T k:=fun k hk=>(FL k (by omega)).trans (HT3.out k hk)
      have Zq:T4 b=3*st1.next+4:=(FL b zJ.out.blk.lt).trans HA1.out
      have Zr:∀j,(Value.slice (some ⟨gf,0,none⟩) p.fl.length cf).ownBlock=some j→T4 j=3*st1.next+5:=fun j hj=>(FL j (zJ.out.fr.lt j hj).2).trans (HA2.out j hj)
      have Zs:∀j,(Value.slice (some ⟨gd,0,none⟩) p.fl.length cd).ownBlock=some j→T4 j=3*st1.next+6:=fun j hj=>(FL j (zJ.out.dr.lt j hj).2).trans (vk.out j hj)
      have adN:w1.heap.size≤wc.heap.size:=Nat.le_trans U7 hK4.size;have vN:=Lib.hid zG;have Sm:=Lib.hid hs5;have Zc:=Lib.hid DY;have rW:=Lib.hid K6;have DZ:=Lib.hid zK;have HB1:=Lib.hid Zq;have HB2:=Lib.hid Zr;have HB3:=Lib.hid Zs;have lZ:=Il.out;subst hs7;clear zG FL hK4 hkeep hKm hs5 DY K6 zK Zq Zr Zs HR3 zJ M9 lJ HT3 HA1 HA2 vk NJ Il;cases hro:RP.2.2 with
      |nil=>
       rw[hro] at lZ;rw[List.nil_append] at lZ;have Ie:=Lib.hid lZ;clear lZ hq4 hro JW;generalize RP.1=op9 at*;generalize RP.2.1=sm9 at*;rw[show (!([]:List (List UInt8)).isEmpty)=false from rfl];go_wp2_with fail
       go_roundg Zm
       case measure=>omega
       case rel=>
        exact ⟨i+1,i,op9,sm9,nu,T4,Sk,_,rfl,rfl,by go_num,by have:=HKI.out;omega,by omega,by omega,vN.out,TL,DZ.out,rW.out,Zc.out,Ie.out,by have:=HOB.out;omega,Sm.out,HB1.out,Zk.out,HB2.out,HB3.out,adN⟩
      |cons q r=>
       have hr0:r= []:=by
        rw[hro] at JW;simp at JW;exact JW
       subst hr0;obtain ⟨hqr,Gi⟩:=hq4 q hro;rw[hro] at lZ;rw[←List.append_assoc] at lZ;obtain ⟨Aq,cq,rfl,YE,-⟩:=aZ hqr;obtain ⟨Wh,Js,NK,NM⟩:=Zc.out;obtain ⟨j0,hj0,hm0,hm1,hm2⟩:=info_parts sD;have Ie:=Lib.hid lZ;have HQR:=Lib.hid hqr;have HQT:=Lib.hid Gi;clear lZ hq4 hro JW hqr Gi YE;generalize RP.1=op9 at*;generalize RP.2.1=sm9 at*;rw[show (![q].isEmpty)=true from rfl];go_wp2_with (at_builtin;refine jH _ rfl (.tmp 86) (.tmp 88) 37 rfl w.heap.size 31 j0 (.slice none 0 0) 24 vK hj0 hm0 hm1 hm2 rfl _ nu.length Wh rfl (Js.alloc _) _ (some ⟨wc.heap.size,0,none⟩) 1 1 [.slice Aq q.length cq] rfl (uF (xs:= [.slice Aq q.length cq]) (mR wc _) rfl (by simp)) (by simp[Value.oneCell']) ?c2 ?c3 ?c4 ?_)
       case c2=>unfold maxLen;omega
       case c3=>omega
       case c4=>have:=rW.out.size;simp;omega
       intro v6 w6 hown6 qc hv6;have hfr:∀k,wc.heap.size≤k→T4 k=0:=fun k hk=>by
        rcases Nat.eq_zero_or_pos (T4 k) with e|e
        ·exact e
        ·have:=vN.out.lt k (by omega);omega
       have Zt:∀k,v6.ownBlock=some k→T4 k=0:=fun k hk=>by
        rcases hv6 with e|e
        ·exact NK k (e ▸ hk)
        ·rw[e] at hk;cases hk;exact hfr _ (by simp)
       have Gj:=fK.push Js NK NM (aR HQR.out hwb) HQT.out hown6 qc Zt;have Ex:=(vN.out.alloc (.cells #[.slice Aq q.length cq] 31)).grown qc NK;have hsA:=Sm.out.stay (w':=wc.alloc (.cells #[.slice Aq q.length cq] 31)) (Below.heap_alloc wc _ b Sm.out.blk.lt) (fun k hk=>Below.heap_alloc wc _ k (Sm.out.fr.lt k hk).2) (fun k hk=>Below.heap_alloc wc _ k (Sm.out.dr.lt k hk).2);have hne:∀k,T4 k≠0→some k≠(Value.slice Av2 nu.length cv2).ownBlock:=fun k hk e=>hk (NK k e.symm)
       have hs6:=hsA.stay (w':=w6) (qc.block b hsA.blk.lt (hne b (by rw[HB1.out];omega))) (fun k hk=>qc.block k (hsA.fr.lt k hk).2 (hne k (by rw[HB2.out k hk];omega))) (fun k hk=>qc.block k (hsA.dr.lt k hk).2 (hne k (by rw[HB3.out k hk];omega)));have Rz:=(rW.out.alloc (.cells #[.slice Aq q.length cq] 31)).grown qc (fun k e o ho=>by have:=(Js.lt k e).1;have:=lt_of_heap ho;omega);have adQ:w1.heap.size≤w6.heap.size:=by have:=qc.size;simp at this;omega
       have HO6:=Lib.hid Gj;have RD:=Lib.hid Ex;have HS6:=Lib.hid hs6;have rX:=Lib.hid Rz;obtain ⟨A6,c6,rfl,-,-⟩:=aZ hown6;clear hfr Zt Gj Ex hsA hne hs6 Rz hown6 qc hv6 Js NK NM vN Sm Zc rW;go_wp2_with fail
       go_roundg Zm
       case measure=>omega
       case rel=>
        refine ⟨i+1,i,op9,sm9,nu++ [q],T4,Sk,_,rfl,rfl,by go_num,by have:=HKI.out;omega,by omega,by omega,RD.out,TL,DZ.out,rX.out,HO6.out,Ie.out,?_,HS6.out,HB1.out,Zk.out,HB2.out,HB3.out,adQ⟩;have:=HOB.out;rw[List.length_append,List.length_singleton];omega
    ·have Jr:gk=0:=by omega
     subst Jr;have FJ:¬(i:Int)≤(N:Int):=by omega
     have lZ:=hfin;unfold uU at lZ;dsimp only at lZ;rw[List.append_nil] at lZ;have Kw:=Fu.out;rw[lZ] at Kw;simp only[Prod.mk.injEq] at Kw;obtain ⟨he1,he2,Yx⟩:=Kw;obtain ⟨y3,y4,y7,y8,y9,Dm,Nf,uk,y13,Bt,Gg,vS,MG,Da⟩:=hR.cells;have TW:=Lib.hid he1;have HE2:=Lib.hid he2;have HE3:=Lib.hid Yx;obtain ⟨F,hF1,hF2⟩:=hR.drew.mp;have OX:=Lib.hid hF1;have HFM:=Lib.hid hF2;have hn9:st1.next≤1023:=hn2
     clear hfin lZ he1 he2 Yx hR U6 hK hs t1 t2 t3 hol hki hrow Wn BU hsv hF1 hF2 y3 y4 y9 Dm Nf uk y13 Bt Gg vS MG Da hfi hi1 U7;go_upto_region 13 with (fail)
     refine wp_region_still_tail 8 jQ (by kernel_rfl) ?_;simp only[List.take_succ_cons,List.take_zero,List.drop_succ_cons,List.drop_zero]
     repeat still_step
     refine wpStill_nil ?_;change wpList _ _ _ _ _ wr.drew;refine sQ _ rfl _ _ 128 3 rfl 161 sS wT M n F rfl OX.out st1.next rfl (by omega) ?_
     intro w5 R3 hg5;have hm5:=HM.out;have oU:fV w5 T3 g M n c {{st1 with op:=op,sm:=sm} with m:=j6 st1.m st1.next none} vo3:=HR3.out.drew.QT hg5 R3 fun k=>by
      have hkk:=HFM.out k;unfold j6 CZ;by_cases e:k=st1.next
      ·rw[if_pos e,if_pos e];exact ⟨fun _=>rfl,fun _ hh=>by cases hh⟩
      ·rw[if_neg e,if_neg e];exact hkk
     have Ex:=oU.put 8 (.int .i64 (fD st1.next:Nat)) (st':= {st1 with op:=op,sm:=sm,m:=j6 st1.m st1.next none,next:=fD st1.next}) rfl rfl rfl;have Wo:=HR3.out.tM;have hTG:=HR3.out.tg;have Rz:Kept (MT T) w w5:=jf.trans lJ.out ((Kept.refl _ wr).drew.grown hg5 (fun k e o ho=>by cases e;unfold MT;omega)) HT3.out;have hTg:T g=1:=HH.out.tg;have L5:=Rz.setCell (p:=⟨g,8,none⟩) (fun o _=>by unfold MT;show T g≠0;omega) (.int .i64 (fD st1.next:Nat));have DY:fK w5 w.heap.size T3 (.slice Av2 nu.length cv2) nu:=M9.out.stay ((Kept.refl _ wr).drew.grown hg5 (fun k e o ho=>by cases e;show T3 M≠0;omega)) (fun k _=>rfl);have Jn:fK (w5.setCell ⟨g,8,none⟩ (.int .i64 (fD st1.next:Nat))) w.heap.size T3 (.slice Av2 nu.length cv2) nu:=DY.stay ((Kept.refl _ w5).setCell (p:=⟨g,8,none⟩) (fun o _=>by show T3 g≠0;omega) (.int .i64 (fD st1.next:Nat))) (fun k _=>rfl);have hand:bits BinOp.and IntKind.i64 ((st1.next:Int)+1) 1023=((fD st1.next:Nat):Int):=by rw[pQ];unfold fD;omega
     have y8':w5.cell? ⟨g,8,none⟩=some (.int .i64 (st1.next:Nat)):=oU.cells.2.2.2.1;have f8:=oU.blk.frozen 8;have Wm:=Lib.hid Ex;have HO7:=Lib.hid Jn;have K8:=Lib.hid L5;clear y7 y8 oU Rz L5 DY Jn Ex Wo hTG hTg hm5 R3 hg5 M9 lJ HR3 OX HFM hiN FJ;go_upto_region 3 with (fail)
     generalize w5.setCell ⟨g,8,none⟩ (.int .i64 (fD st1.next:Nat))=w7 at*;have hs7:({st1 with op:=op,sm:=sm,m:=j6 st1.m st1.next none,next:=fD st1.next}:Rc)=yB st1 p:=by rw[TW.out,HE2.out];rfl
     have Gl:=Wm.out;rw[hs7] at Gl;have Va:dH (yB st1 p):=AR.out.one HM.out;have hfn:=L6.out;rw[←List.append_assoc,←HE3.out] at hfn;have hn7:=Va.n1;obtain ⟨v7,hl7,hv7⟩:=Gl.drew.look hn7;obtain ⟨_,_,y7,y8,_⟩:=Gl.cells;have HR8:=Lib.hid Gl;have adS:=Lib.hid Va;have adT:=Lib.hid hfn;have HV8:=Lib.hid hv7;clear hs7 Gl Va hfn hv7 f8 y8' hand Wm AR L6;refine wp_region_still_tail 8 jQ (by kernel_rfl) ?_;simp only[List.take_succ_cons,List.take_zero,List.drop_succ_cons,List.drop_zero]
     repeat still_step
     refine wpStill_nil ?_;change wpList _ _ _ _ _ w7.drew;generalize yB st1 p=st2 at*;go_wp2_with fail
     go_roundg f
     case measure=>omega
     case rel=>
      refine ⟨j-1,st2,nu,T3,vo3,_,rfl,HR8.out.drew,adS.out,HT3.out,K8.out.drew,HO7.out.drew,adT.out,?_,?_,adF.out,?_⟩
      ·have h1:=HOB.out;have h2:=Zl.out;omega
      ·have h1:=HJ.out;have h2:=XH.out;omega
      ·exact HV8.out
end
end
section
theorem IC {bs:List UInt8} {m:Bool} {q er:Nat} (h:qO bs m q= .inl er):er≠0:=by
 unfold qO jI at h;split at h
 ·rename_i er' hr;cases h;exact sI bs _ _ _ _ _ hr
 ·split at h
  ·cases h
  ·cases h;omega
theorem tQ {bs:List UInt8} {m:Bool} {q er:Nat} (h:iM bs m q= .inl er):er≠0:=by
 unfold iM at h;split at h
 ·rename_i er' hl;cases h;exact IC hl
 ·unfold jX at h;split at h
  ·cases h;omega
  ·split at h
   ·cases h;omega
   ·cases h
theorem NN (bs:List UInt8) (er:Nat) (h:Ab bs= .inl er):er≠0:=by
 unfold Ab at h;split at h
 ·cases h;omega
 split at h
 ·cases h;omega
 split at h
 ·split at h
  ·cases h;omega
  ·split at h
   ·rename_i hc;cases h;exact tQ hc
   ·split at h
    ·cases h
    ·cases h;omega
 ·split at h
  ·rename_i hc;cases h;exact tQ hc
  ·split at h
   ·cases h
   ·cases h;omega
end
section
open Go.RowKit Go.Shelf
theorem ID (bo be:Nat) (w:World):
 CallsD Tryz.prog 94 #[.pointer (some ⟨bo,0,none⟩),.pointer (some ⟨be,0,none⟩)] .returning w fun e u' w'=>e= .returned (.tuple #[])∧u'= .returning∧w=w':=by
 have hnn:=run_eql_nil_nil (P:=Tryz.prog) w (t:=20) (by kernel_rfl);refine callsD_of_wpS Tryz.func94 rfl fun c₀ cs hu=> ?_
 apply wpS_seq;apply wpS_region;generalize hQ:Exit.thenS _ _=Q;simp[wpOpsS,go_sem,recoverD,hu,Tryz.ntmps94];subst hQ;simp only[Exit.thenS];refine wpS_of_wp ?_;change Code.wp _ _ (iR Tryz.prog Tryz.f94 c₀ cs (c₀::cs) _) {tmps:= #[.pointer (some ⟨bo,0,none⟩),.pointer (some ⟨be,0,none⟩),.nilIface,undef,undef,.nilIface,undef,undef,undef,undef,undef,undef,undef,undef,undef,undef,undef],defers:= []} w;go_wp2;cases c₀
 simp_all [iR,bodyPostS,results,Tryz.results94]
set_option maxHeartbeats 800000 in
set_option maxRecDepth 100000 in
theorem Dz (bo be:Nat) (er:Int) (v0 v1:Value) (w:World) (hp:au w bo 37 #[v0]) (he:au w be 53 #[v1]) (hne:be≠bo):
 CallsD Tryz.prog 94 #[.pointer (some ⟨bo,0,none⟩),.pointer (some ⟨be,0,none⟩)] (.panicking [{v:= .iface 53 (.int .i64 er),recovered:=false}]) w fun e u' w'=>e= .returned (.tuple #[])∧u'= .panicking [{v:= .iface 53 (.int .i64 er),recovered:=true}]∧
  au w' bo 37 #[.slice none 0 0]∧au w' be 53 #[.int .i64 er]∧Kept (fun k _=>k=bo∨k=be) w w':=by
 have hnn:=run_eql_held_nil (P:=Tryz.prog) w 20 53 (.int .i64 er) (by kernel_rfl);have hta:=kL er w;refine callsD_of_wpS Tryz.func94 rfl fun c₀ cs hu=> ?_
 apply wpS_seq;apply wpS_region;generalize hQ:Exit.thenS _ _=Q;simp[wpOpsS,go_sem,recoverD,hu,Tryz.ntmps94];subst hQ;simp only[Exit.thenS];refine wpS_of_wp ?_;change Code.wp _ _ (iR Tryz.prog Tryz.f94 c₀ cs _ _) {tmps:= #[.pointer (some ⟨bo,0,none⟩),.pointer (some ⟨be,0,none⟩),.iface 53 (.int .i64 er),undef,undef,.iface 53 (.int .i64 er),undef,undef,undef,undef,undef,undef,undef,undef,undef,undef,undef],defers:= []} w;have c0:=hp.cell 0;have f0:=hp.frozen 0;have c1:=he.cell 0;have f1:=he.frozen 0;simp at c0 c1;go_wp2;refine ⟨rfl,_,rfl,.tuple #[],by simp[results,Tryz.results94],rfl,rfl,?_,?_,?_⟩
 ·have:=(hp.av 0 (.slice none 0 0)).far (p:=⟨be,0,none⟩) (fun e=>hne e.symm) (.int .i64 er);simpa using this
 ·have:=(he.far (p:=⟨bo,0,none⟩) hne (.slice none 0 0)).av 0 (.int .i64 er);simpa using this
 ·exact ((Kept.refl _ w).setCell (p:=⟨bo,0,none⟩) (fun _ _=> .inl rfl) _).setCell (p:=⟨be,0,none⟩) (fun _ _=> .inr rfl) _
theorem zk {Q:Ending→World→Prop} (a b:Nat) (er:Int) (W:World) (T:Array Value) (v0 v1:Value) (h6:T[6]? =some (.pointer (some ⟨a,0,none⟩))) (h7:T[7]? =some (.pointer (some ⟨b,0,none⟩))) (hne:b≠a)
 (hp:au W a 37 #[v0]) (he:au W b 53 #[v1]) (hQ:∀W',Kept (fun k _=>k=a∨k=b) W W'→Q (.returned (.tuple #[.slice none 0 0,.int .i64 er])) W'):
 bodyPostD Tryz.prog Tryz.f57 Q (.panic [{v:= .iface 53 (.int .i64 er),recovered:=false}]) {tmps:=T,defers:= [{target:= .fn (.func 94) #[.pointer (some ⟨a,0,none⟩),.pointer (some ⟨b,0,none⟩)],args:= #[]}]} W:=by
 refine leaves_cons (f:=94) (args:= #[.pointer (some ⟨a,0,none⟩),.pointer (some ⟨b,0,none⟩)]) (by simp) (by simp[go_sem]) ?_;refine (Dz _ _ er _ _ W hp he hne).mono ?_;rintro e u' w'' ⟨rfl,rfl,hp',he',hk⟩;have c0:=hp'.cell 0;have c1:=he'.cell 0;simp at c0 c1;refine ⟨.tuple #[.slice none 0 0,.int .i64 er],?_,hQ _ hk⟩;simp[results,Tryz.results57,go_sem,h6,h7,c0,c1]
theorem ny {Q:Ending→World→Prop} (a b:Nat) (W:World) (T:Array Value) (v0 v1:Value) (h6:T[6]? =some (.pointer (some ⟨a,0,none⟩))) (h7:T[7]? =some (.pointer (some ⟨b,0,none⟩)))
 (hp:au W a 37 #[v0]) (he:au W b 53 #[v1]) (hQ:Q (.returned (.tuple #[v0,v1])) W):
 bodyPostD Tryz.prog Tryz.f57 Q .ret {tmps:=T,defers:= [{target:= .fn (.func 94) #[.pointer (some ⟨a,0,none⟩),.pointer (some ⟨b,0,none⟩)],args:= #[]}]} W:=by
 refine leaves_cons (f:=94) (args:= #[.pointer (some ⟨a,0,none⟩),.pointer (some ⟨b,0,none⟩)]) (by simp) (by simp[go_sem]) ?_;refine (ID _ _ _).mono ?_;rintro e9 u9 w9 ⟨rfl,rfl,rfl⟩;have c0:=hp.cell 0;have c1:=he.cell 0;simp at c0 c1;refine ⟨.tuple #[v0,v1],?_,hQ⟩;simp[results,Tryz.results57,go_sem,h6,h7,c0,c1]
structure QU (x:kE):Prop where
 sn:x.sn≤1023
 len:x.ps.length≤64
 pos:1≤x.ps.length
 sum:x.off+ah x.ps≤32767
theorem BV {x:kE} (h:gK (x.sn:Nat) x.sg x.la (x.off:Nat) x.ps=true) (h0:x.sg=false→x.off=0):QU x:=by
 unfold gK mg at h;simp only[List.all_cons,List.all_nil,Bool.and_true,id,Bool.and_eq_true,decide_eq_true_eq] at h;obtain ⟨h1,h2,h3⟩:=h;unfold l7 kV at h2;simp only[List.all_cons,List.all_nil,Bool.and_true,id,Bool.and_eq_true,decide_eq_true_eq] at h2;obtain ⟨⟨h4,h5⟩,_,_,h6⟩:=h2;refine ⟨by omega,h5,h4,?_⟩;cases hs:x.sg with
 |false=>rw[h0 hs];omega
 |true=>
  rw[hs] at h3;simp only[if_true,decide_eq_true_eq] at h3;omega
theorem Jt {bs:List UInt8} {x:kE} (h:Ab bs= .inr x):QU x:=by
 unfold Ab at h;split at h
 ·cases h
 ·split at h
  ·cases h
  ·split at h
   ·split at h
    ·cases h
    ·split at h
     ·cases h
     ·split at h
      ·rename_i hv;cases h;exact BV hv (fun e=>by cases e)
      ·cases h
   ·split at h
    ·cases h
    ·split at h
     ·rename_i hv;cases h;exact BV hv (fun _=>rfl)
     ·cases h
theorem KJ (p:Sp) (x:kE) (hl:p.da.length=p.fl.length):(iw p x).da.length=(iw p x).fl.length∧(iw p x).fl.length=max p.fl.length (mW x):=by
 unfold iw;dsimp only;have h:=qm (gL x.s x.e x.ps.length 0 x.ps) x.off (jP (mW x) p.fl,nW (mW x) p.da);rw[h.1,h.2];dsimp only;unfold jP nW;simp only[List.length_append,List.length_replicate];omega
theorem wF.take {p:Sp} (h:wF p) {x:kE} (hx:QU x):wF (iw p x):=by
 have hl:=KJ p x h.ll;have he:mW x≤32767:=hx.sum;have h1:=h.le;refine ⟨hl.1,by omega,fun k hk=> ?_⟩;have hk2:(if EC x=true then some (mW x) else p.size)=some k:=hk;split at hk2
 ·cases hk2;exact he
 ·exact h.sz k hk2
theorem Zu:wF EB:=⟨rfl,by simp[EB],fun k hk=>by simp[EB] at hk⟩
theorem dH.get {st:Rc} (ho:dH st) (k:Nat):wF (jq st k):=by
 unfold jq;cases hm:st.m k with
 |none=>exact Zu
 |some p=>exact (ho.m k p hm).2.2
theorem dH.QV {st:Rc} (ho:dH st) {x:kE} (hx:QU x) (hp:bX st x.sn<512):dH (pP st x (jq st x.sn)):=by
 have h1:=hx.sn;have hg:=(ho.get x.sn).take hx;refine ⟨ho.n1,sU _ _ _ ho.n2,?_,ho.n4,fun k q hk=> ?_,ho.op,ho.t1,ho.t2⟩
 ·unfold pP;dsimp only;split
  ·unfold fD;omega
  ·exact ho.n3
 ·have hk2:(if k=x.sn then some (iw (jq st x.sn) x) else st.m k)=some q:=hk;split at hk2
  ·rename_i e;cases hk2;subst e;exact ⟨h1,hp,hg⟩
  ·exact ho.m k q hk2
theorem dH.BZ:∀(f:Nat) {st:Rc},dH st→dH (eY f st).1
 |0,_,ho=>ho
 |f+1,st,ho=>by
  unfold eY;cases hm:st.m st.next with
  |none=>exact ho
  |some p=>
   dsimp only;split
   ·exact dH.BZ f (ho.one hm)
   ·exact ho
theorem dH.adU {st:Rc} (ho:dH st) (c:Cf):dH (JX c st):=by
 unfold JX;dsimp only;have h1:dH {st with ro:=false}:=⟨ho.n1,ho.n2,ho.n3,ho.n4,ho.m,ho.op,ho.t1,ho.t2⟩;generalize hs:(if bX st st.jB=0∨512<bX st st.jB then {st with ro:=false} else st)=s1;have h2:dH s1:=by
  rw[←hs];split
  ·exact h1
  ·exact ho
 split
 ·exact h2.waits c
 ·exact h2
theorem dH.due {st:Rc} (ho:dH st) (b:Bool):dH {st with due:=b}:=⟨ho.n1,ho.n2,ho.n3,ho.n4,ho.m,ho.op,ho.t1,ho.t2⟩
theorem dH.recv {st:Rc} (ho:dH st) (c:Cf) {now:Int} (hn:now≤9223372036854775807) (bs:List UInt8):dH (jr c st now bs).1:=by
 have hg:=ho.goes c hn;unfold jr;cases hd:Ab bs with
 |inl er=>exact hg
 |inr x=>
  have hx:=Jt hd;unfold JY;dsimp only;split
  ·exact hg.due _
  ·rename_i hp;split
   ·exact hg
   ·exact ((hg.QV hx (by omega)).BZ 1024).adU c
section
variable {w w' W W' W2:World} {T T':Nat→Nat} {g M n:Nat} {c:Cf} {st:Rc} {vo v:Value}
theorem fV.stored {sp':Sp} {vf vd kG ku:Value} {b sn n2:Nat} {F:Nat→Option Value} (h:fV W T g M n c st vo) (hbl:b<W.heap.size)
 (hb:T b=0∨T b=3*sn+4) (hf:∀k,vf.ownBlock=some k→T k=3*sn+5) (hd:∀k,vd.ownBlock=some k→T k=3*sn+6)
 (hS:nX W' b sp' kG ku) (hf':∀k,kG.ownBlock=some k→vf.ownBlock=some k∨W.heap.size≤k) (hd':∀k,ku.ownBlock=some k→vd.ownBlock=some k∨W.heap.size≤k)
 (hk:Kept (RO b vf vd) W W') (Zv:∀k,(st.m k=none→F k=none)∧∀p,st.m k=some p→∃b vf vd,F k=some (.pointer (some ⟨b,0,none⟩))∧nX W b p vf vd∧T b=3*k+4∧(∀j,vf.ownBlock=some j→T j=3*k+5)∧(∀j,vd.ownBlock=some j→T j=3*k+6))
 (hF2:gN Tryz.prog 3 W2 M n2 (CZ F sn (some (.pointer (some ⟨b,0,none⟩))))) (hg:W'.grownBy W2 (some M)):
 ∃T',fV W2 T' g M n2 c {st with m:=j6 st.m sn (some sp')} vo∧(∀k,k<W.heap.size→k≠b→T' k=T k)∧(T b≠0→T' b=T b):=by
 have hz:=hk.size;have hz2:=hg.size;have Wo:=h.tM;have hrow:=qo hS.fr hS.dr (by decide);have hzero:∀k,W.heap.size≤k→T k=0:=fun k hk=>by
  rcases Nat.eq_zero_or_pos (T k) with e|e
  ·exact e
  ·have:=h.lt k (by omega);omega
 have key:∀j,T j≠0→(T j<3*sn+4∨3*sn+6<T j)→T j≠2→W2.heap[j]? =W.heap[j]? :=fun j h0 h1 h2=>by
  have hl:=h.lt j h0;have e1:W2.heap[j]? =W'.heap[j]? :=hg.block j (by omega) (fun e=>by cases e;exact h2 Wo);have e2:W.heap[j]? =some W.heap[j]:=Array.getElem?_eq_getElem hl;rw[e1,e2];refine hk.same j _ e2 fun hm=> ?_
  rcases hm with rfl|e|e
  ·omega
  ·have:=hf j e;omega
  ·have:=hd j e;omega
 have Vb:∀j,j<W'.heap.size→j≠M→W2.heap[j]? =W'.heap[j]? :=fun j hl hM=>hg.block j hl (fun e=>by cases e;exact hM rfl)
 have hbT:∀j,j=b∨kG.ownBlock=some j∨ku.ownBlock=some j→j≠M:=fun j hj e=>by
  subst e;rcases hj with rfl|e|e
  ·omega
  ·rcases hf' _ e with e|e
   ·have:=hf _ e;omega
   ·have:=hzero _ e;omega
  ·rcases hd' _ e with e|e
   ·have:=hd _ e;omega
   ·have:=hzero _ e;omega
 refine ⟨fun k=>if T k≠0 then T k else if k=b then 3*sn+4 else if W.heap.size≤k∧kG.ownBlock=some k then 3*sn+5 else if W.heap.size≤k∧ku.ownBlock=some k then 3*sn+6 else 0,?_,?_,?_⟩
 ·have hT:∀k,T k≠0→(if T k≠0 then T k else if k=b then 3*sn+4 else if W.heap.size≤k∧kG.ownBlock=some k then 3*sn+5 else if W.heap.size≤k∧ku.ownBlock=some k then 3*sn+6 else 0)=T k:=fun k hh=>if_pos hh
  refine ⟨?_,(hT g (by rw[h.tg];omega)).trans h.tg,(hT M (by omega)).trans Wo,fun k hh=> ?_,?_,fun k e=> ?_,CZ F sn (some (.pointer (some ⟨b,0,none⟩))),hF2,fun k=>⟨fun hm=> ?_,fun q hq=> ?_⟩⟩
  ·exact (key g (by rw[h.tg];omega) (by rw[h.tg];omega) (by rw[h.tg];omega)).trans h.blk
  ·by_cases h0:T k≠0
   ·have:=h.lt k h0;omega
   ·rw[if_neg h0] at hh;by_cases hkb:k=b
    ·omega
    ·rw[if_neg hkb] at hh;by_cases h1:W.heap.size≤k∧kG.ownBlock=some k
     ·have:=(hS.fr.lt k h1.2).2;omega
     ·rw[if_neg h1] at hh;by_cases h2:W.heap.size≤k∧ku.ownBlock=some k
      ·have:=(hS.dr.lt k h2.2).2;omega
      ·rw[if_neg h2] at hh;exact absurd rfl hh
  ·exact cO h.qU fun k e=>by
    have h3:=h.od k e;exact key k (by omega) (by omega) (by omega)
  ·have h3:=h.od k e;exact (hT k (by omega)).trans h3
  ·have hm2:(if k=sn then some sp' else st.m k)=none:=hm;split at hm2
   ·cases hm2
   ·rename_i hne;show (if k=sn then _ else F k)=none
    rw[if_neg hne];exact (Zv k).1 hm2
  ·have hq2:(if k=sn then some sp' else st.m k)=some q:=hq;split at hq2
   ·rename_i he;cases hq2;subst he;refine ⟨b,kG,ku,if_pos rfl,hS.stay (Vb b (by omega) (hbT b (.inl rfl))) (fun j hj=>Vb j (hS.fr.lt j hj).2 (hbT j (.inr (.inl hj)))) (fun j hj=>Vb j (hS.dr.lt j hj).2 (hbT j (.inr (.inr hj)))),?_,fun j hj=> ?_,fun j hj=> ?_⟩
    ·rcases hb with e|e
     ·rw[if_neg (by omega),if_pos rfl]
     ·exact (hT b (by omega)).trans e
    ·rcases hf' j hj with e|e
     ·have h5:=hf j e;exact (hT j (by omega)).trans h5
     ·rw[if_neg (by have:=hzero j e;omega),if_neg (by omega),if_pos ⟨e,hj⟩]
    ·rcases hd' j hj with e|e
     ·have h5:=hd j e;exact (hT j (by omega)).trans h5
     ·rw[if_neg (by have:=hzero j e;omega),if_neg (by omega),if_neg,if_pos ⟨e,hj⟩];rintro ⟨_,e2⟩;rcases hrow with e3|e3
      ·rw[e3] at e2;cases e2
      ·exact e3 (e2.trans hj.symm)
   ·rename_i hne;obtain ⟨b2,vf2,vd2,e1,hs2,t1,t2,t3⟩:=(Zv k).2 q hq2;refine ⟨b2,vf2,vd2,(if_neg hne).trans e1,hs2.stay (key b2 (by omega) (by omega) (by omega)) (fun j hj=> ?_) (fun j hj=> ?_),(hT b2 (by omega)).trans t1,fun j hj=> ?_,fun j hj=> ?_⟩
    ·have:=t2 j hj;exact key j (by omega) (by omega) (by omega)
    ·have:=t3 j hj;exact key j (by omega) (by omega) (by omega)
    ·have:=t2 j hj;exact (hT j (by omega)).trans this
    ·have:=t3 j hj;exact (hT j (by omega)).trans this
 ·intro k hl hkb;by_cases h0:T k≠0
  ·exact if_pos h0
  ·show (if T k≠0 then T k else _)=T k
   rw[if_neg h0,if_neg hkb,if_neg (by omega),if_neg (by omega)];omega
 ·intro h0;exact if_pos h0
end
end
end Go.Proofs.YtbhiklnljiehiaaGreat
