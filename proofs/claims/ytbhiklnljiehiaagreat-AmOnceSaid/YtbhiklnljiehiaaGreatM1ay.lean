/- amrecv: deliver. -/
import Derived.Test.YtbhiklnljiehiaaGreatM1ar
import Derived.Test.YtbhiklnljiehiaaGreatM1aw
namespace Go.Proofs.YtbhiklnljiehiaaGreat
section
open Go.RowKit Go.Shelf
attribute [local go_sem] Oper.semAt_some
section
variable {w w' W W':World} {T T':Nat→Nat} {g M n:Nat} {c:Cf} {st:Rc} {vo v:Value} {base:Nat} {outs:List (List UInt8)}
def ahm (w:World) (T:Nat→Nat) (g M n:Nat) (c:Cf) (R:Rc × List (List UInt8)) (e:Ending) (w':World):Prop:=
 ∃T' CW v,e= .returned v∧iC w' T' g M n c R.1 CW∧(∀k,k<w.heap.size→T' k=T k)∧Kept (MT T) w w'∧gN w' w.heap.size T' v R.2
theorem jU.trans {T2:Nat→Nat} (h:Kept (MT T) w W) (h2:Kept (MT T2) W W') (hT:∀k,k<w.heap.size→T2 k=T k):Kept (MT T) w W':=
 ⟨h2.os.trans h.os,h2.tape.trans h.tape,h2.output.trans h.output,Nat.le_trans h.size h2.size,fun i o hi hn=>h2.same i o (h.same i o hi hn) (fun hm=>hn (by unfold MT at*;rw[←hT i (lt_of_heap hi)];exact hm))⟩
def DlI (w:World) (T:Nat→Nat) (g M n:Nat) (c:Cf) (st:Rc) (p:Sp) (b:Nat) (vf vd:Value) (N:Nat) (W0:World) (FIN:List UInt8 × Bool × List (List UInt8)) (ob:Nat) (gk:Nat) (s2 s4 s5:Value) (W:World):Prop:=
 ∃(i fr:Nat) (op:List UInt8) (sm:Bool) (outs:List (List UInt8)) (T2:Nat→Nat) (Xk v2:Value),s2=v2∧s4= .int .i64 (fr:Nat)∧s5= .int .i64 (i:Nat)∧gk+i=N+1∧1≤i∧fr<i∧iC W T2 g M n c {st with op:=op,sm:=sm} Xk∧op.length≤9000∧
  (∀k,k<w.heap.size→T2 k=T k)∧Kept (MT T) w W∧gN W w.heap.size T2 v2 outs∧FIN=((oG p.fl p.da N gk i fr op sm).1,(oG p.fl p.da N gk i fr op sm).2.1,outs++(oG p.fl p.da N gk i fr op sm).2.2)∧outs.length+gk≤ob∧
  qw W b p vf vd∧T2 b=3*st.next+4∧b≠g∧(∀j,vf.ownBlock=some j→T2 j=3*st.next+5)∧(∀j,vd.ownBlock=some j→T2 j=3*st.next+6)∧W0.heap.size≤W.heap.size
def DlO (w:World) (T:Nat→Nat) (g M n:Nat) (c:Cf) (FIN:Rc × List (List UInt8)) (gk:Nat) (s2 s3:Value) (W:World):Prop:=
 ∃(j:Nat) (st:Rc) (outs:List (List UInt8)) (T2:Nat→Nat) (Xk v2:Value),s2=v2∧iC W T2 g M n c st Xk∧eF st∧(∀k,k<w.heap.size→T2 k=T k)∧Kept (MT T) w W∧gN W w.heap.size T2 v2 outs∧
  FIN=((cK gk st).1,outs++(cK gk st).2)∧outs.length+40000*gk≤40000*1024∧j<gk∧dB (st.m ((st.next+j)%1024))=false∧
  ((st.m st.next=none∧s3= .pointer none)∨∃p b vf vd,st.m st.next=some p∧s3= .pointer (some ⟨b,0,none⟩)∧qw W b p vf vd∧T2 b=3*st.next+4∧(∀j,vf.ownBlock=some j→T2 j=3*st.next+5)∧(∀j,vd.ownBlock=some j→T2 j=3*st.next+6))
theorem I6 {f:Nat} {st:Rc} (h:dB (st.m st.next)=false):cK f st=(st,[]):=by
 cases f with
 |zero=>rfl
 |succ f=>
  unfold cK;cases hm:st.m st.next with
  |none=>rfl
  |some p=>
   rw[hm] at h;have h2:fE p=false:=h;dsimp only;rw[if_neg (by rw[h2];simp)]
theorem NF {f:Nat} {st:Rc} {p:Sp} (hm:st.m st.next=some p) (hc:fE p=true):cK (f+1) st=((cK f (zl st p)).1,(xL st p).2.2++(cK f (zl st p)).2):=by
 rw[cK,hm];dsimp only;rw[if_pos hc]
theorem QM {W:World} {gd L cd fr i:Nat} {da:List UInt8} (h:W.ownsRow 0 5 1 (.slice (some ⟨gd,0,none⟩) L cd) L (bQ da)) (hl:da.length=L) (hfi:fr≤i) (hi:i≤L) (hL:L≤100000):Sl W W.heap.size (some ⟨gd,fr,none⟩) (i-fr) (i-fr) (bQ ((da.take i).drop fr)):=by
 have hg:=(h.lt gd rfl).2;refine ⟨by rw[pY,List.length_drop,List.length_take];omega,aN,by omega,fun _=>⟨_,rfl,hg,fun j u hu=> ?_⟩⟩;rw[Addr.add_lit];have hj:=(List.getElem?_eq_some_iff.1 hu).1;rw[pY,List.length_drop,List.length_take] at hj;rw[h.cellAt _ (by omega)];unfold bQ at hu ⊢;rw[List.getElem?_map] at hu ⊢;rw[List.getElem?_drop,List.getElem?_take,if_pos (by omega)] at hu;exact hu
set_option maxRecDepth 100000 in
set_option maxHeartbeats 8000000 in
theorem Gf (h:iC w T g M n c st vo) (ho:eF st):Calls Tryz.prog 100 #[.pointer (some ⟨g,0,none⟩)] w (ahm w T g M n c (cK 1024 st)):=by
 obtain ⟨FIN,hF⟩:∃FIN,FIN=cK 1024 st:=⟨_,rfl⟩
 rw[←hF];have HH:=ah h;have HO:=ah ho;have HF:=ah hF;have hstop:=ho.stops (sn:=st.next) ho.n1;have HST:=ah hstop;have kW:Tryz.prog.follows .mixedOrders=true:=by kernel_rfl
 have hn1:=ho.n1;obtain ⟨x3,x4,x7,x8,x9,x10,xO,Hl,RX,Eg,Tx,RY,Py,x18⟩:=h.cells;obtain ⟨v,hl,hv⟩:=h.drew.look hn1;have HV:=ah hv;clear h ho hF hstop hv x3 x4 x9 x10 xO Hl RX Eg Tx RY Py x18;go_enter Tryz.func100,Tryz.ntmps100;go_upto_region 1 with (fail)
 go_cut [3] (fun s3 wx=>s3=v∧wx=w.drew)
 case first=>
  refine wp_region_still_tail 8 kW (by kernel_rfl) ?_;simp only[List.take_succ_cons,List.take_zero,List.drop_succ_cons,List.drop_zero]
  repeat still_step
  refine wpStill_nil ?_;change wpList _ _ _ _ _ w.drew;go_wp2;go_meet;exact ⟨rfl,rfl⟩
 case rest=>
 obtain ⟨rfl,rfl⟩:=hcut;have H0:=ah HH.out.drew;clear hl x7 x8;go_wp2_with fail;go_loopg [2,3] 1024 (fun gk s2 s3 wr=>DlO w T g M n c FIN gk s2 s3 wr)
 case atStart=>
  obtain ⟨j,h1,h2⟩:=HST.out;refine ⟨j,st,[],T,vo,_,rfl,H0.out,HO.out,fun _ _=>rfl,(Kept.refl _ w).drew,gN.nil _ _ _,by rw[HF.out];rfl,by simp,h1,h2,?_⟩;exact HV.out
 case round=>
  obtain ⟨j,st1,outs,T2,Xk,v2,rfl,hR,hok,hT2,hK,hO,hfin,hol,hj,hst,hp⟩:=hrel;have hn2:=hok.n1;have hcm:Calls Tryz.prog 117 #[u3] wr fun e w'=>e= .returned (.bool (dB (st1.m st1.next)))∧Below wr.heap.size wr w':=by
   rcases hp with ⟨hm,rfl⟩|⟨p,b,vf,vd,hm,rfl,hs,_⟩
   ·rw[hm];exact uF wr
   ·rw[hm];exact uG hs (hok.m _ p hm).2.2
  obtain ⟨f,rfl⟩:∃f,gk=f+1:=⟨gk-1,by omega⟩
  obtain ⟨vs,hrow,ZU,EF⟩:=hO;obtain ⟨Av,cv,rfl,hsv,-⟩:=aS hrow;have R9:=ah (show gN wr w.heap.size T2 (.slice Av outs.length cv) outs from ⟨vs,hrow,ZU,EF⟩);have HR:=ah hR;have DN:=ah hok;have HT2:=ah hT2;have HK:=ah hK;clear hrow ZU EF hsv hR hT2 hK HST HV H0;cases hcc:dB (st1.m st1.next) with
  |false=>
   rw[hcc] at hcm;rw[I6 hcc,List.append_nil] at hfin;have IV:=ah hfin;have HCM:=ah hcm;clear hfin hcm hcc hst hp hok;go_wp2_with (go_at_call 117;refine HCM.out.mono ?_;rintro e1 w1 ⟨rfl,hb1⟩);go_ret;rw[IV.out];exact ⟨T2,Xk,_,rfl,HR.out.below hb1,HT2.out,jU.trans HK.out (rG hb1) HT2.out,R9.out.below hb1⟩
  |true=>
   rw[hcc] at hcm;obtain ⟨p,b,vf,vd,hm,rfl,hs,t1,t2,t3⟩:∃p b vf vd,st1.m st1.next=some p∧u3= .pointer (some ⟨b,0,none⟩)∧qw wr b p vf vd∧T2 b=3*st1.next+4∧(∀j,vf.ownBlock=some j→T2 j=3*st1.next+5)∧(∀j,vd.ownBlock=some j→T2 j=3*st1.next+6):=by
    rcases hp with ⟨hm,_⟩|h9
    ·rw[hm] at hcc;cases hcc
    ·exact h9
   have hcs:fE p=true:=by rw[hm] at hcc;exact hcc
   rw[NF hm hcs] at hfin;obtain ⟨_,_,hsp⟩:=hok.m _ p hm;obtain ⟨N,hN,hN0,hgN⟩:∃N,p.size=some N∧0<N∧lJ p.fl=N:=by
    unfold fE at hcs;cases hsz:p.size with
    |none=>rw[hsz] at hcs;cases hcs
    |some k=>
     rw[hsz] at hcs;simp only[Bool.and_eq_true,decide_eq_true_eq] at hcs;exact ⟨k,rfl,hcs.1,hcs.2⟩
   have hgl:=sG p.fl;have hNL:N≤p.fl.length:=by omega
   have hLb:=hsp.le;have hsI:dA p=(N:Int):=by unfold dA;rw[hN]
   have hsS:yE p=N:=by unfold yE;rw[hN];rfl
   have hj0:j≠0:=fun e=>by
    rw[e,Nat.add_zero,Nat.mod_eq_of_lt (by omega),hcc] at hst;cases hst
   have Ia:dB ((zl st1 p).m (((zl st1 p).next+(j-1))%1024))=false:=by
    show dB (fJ st1.m st1.next none ((d9 st1.next+(j-1))%1024))=false
    unfold d9 fJ;rw[show ((st1.next+1)%1024+(j-1))%1024=(st1.next+j)%1024 by omega];split
    ·rfl
    ·exact hst
   have hbg:b≠g:=fun e=>by
    have h8:=HR.out.tg;rw[←e,t1] at h8;omega
   have hbl:=hs.blk.lt;obtain ⟨FI,hFI⟩:∃FI,FI=((xL st1 p).1,(xL st1 p).2.1,outs++(xL st1 p).2.2):=⟨_,rfl⟩
   have IV:=ah hFI;have Ps:=ah hfin;have HCM:=ah hcm;have HM:=ah hm;have HS:=ah hs;have Oo:=ah hsp;have ahn:=ah Ia;have HJ0:=ah hj0;have HJ:=ah hj;have HT1:=ah t1;have HTF:=ah t2;have HTD:=ah t3;have HSI:=ah hsI;have RJ:=ah hsS;have HBG:=ah hbg;have acR:=ah hol;have hop1:=hok.op;have HOP:=ah hop1;clear hFI hfin hcm hcc hst hp hok hm hs hsp Ia hj0 hj t1 t2 t3 hsI hsS hbg hgN hgl hN hcs hol hop1
   go_upto_block 2 with (go_at_call 117;refine HCM.out.mono ?_;rintro e1 w1 ⟨rfl,hb1⟩)
   have hs1:qw w1 b p vf vd:=HS.out.stay (hb1.block b hbl) (fun k hk=>hb1.block k (HS.out.fr.lt k hk).2) (fun k hk=>hb1.block k (HS.out.dr.lt k hk).2);have qJ:=HR.out.below hb1;have hK1:=jU.trans HK.out (rG hb1) HT2.out;have Nq:=R9.out.below hb1;have hwz:=hb1.size;have DR:=ah hs1;have HR1:=ah qJ;have wL:=ah hK1;have HO1:=ah Nq;clear hs1 qJ hK1 Nq hb1 HCM HS HR HK R9;go_wp2_with fail;go_loopg [2,4,5] N (fun gk s2 s4 s5 wq=>DlI w T g M n c st1 p b vf vd N w1 FI (outs.length+N) gk s2 s4 s5 wq)
   case atStart=>
    refine ⟨1,0,st1.op,st1.sm,outs,T2,Xk,_,rfl,rfl,rfl,rfl,aN,by omega,HR1.out,HOP.out,HT2.out,wL.out,HO1.out,?_,aN,DR.out,HT1.out,HBG.out,HTF.out,HTD.out,aN⟩;rw[IV.out];unfold xL;rw[RJ.out]
   case round=>
    obtain ⟨i,fr,op,sm,pK,T3,vo3,v3,rfl,rfl,rfl,hki,hi1,hfi,hR,hop,YC,hK,hO,hfin,hol,hs,t1,_,t2,t3,YD⟩:=hrel;obtain ⟨z0,z1,z2⟩:wr.cell? ⟨b,0,none⟩=some vf∧wr.cell? ⟨b,1,none⟩=some vd∧wr.cell? ⟨b,2,none⟩=some (.int .i64 (dA p)):=⟨hs.blk.cell 0,hs.blk.cell 1,hs.blk.cell 2⟩;rw[HSI.out] at z2;have aob:pK.length≤40000*1024+40000:=by have:=acR.out;omega
    obtain ⟨vs,hrow,ZU,EF⟩:=hO;obtain ⟨Av2,cv2,rfl,hsv,-⟩:=aS hrow;have Qk:=ah (show gN wr w.heap.size T3 (.slice Av2 pK.length cv2) pK from ⟨vs,hrow,ZU,EF⟩);have HR3:=ah hR;have HT3:=ah YC;have nJ:=ah hK;have CX:=ah hs;have HA1:=ah t1;have HA2:=ah t2;have yh:=ah t3;have HOB:=ah hol;have HKI:=ah hki;by_cases hiN:i≤N
    ·obtain ⟨gk',rfl⟩:∃gk',gk=gk'+1:=⟨gk-1,by omega⟩
     have hL0:0<p.fl.length:=by omega
     obtain ⟨gf,cf,rfl,ahp,ahq,hgf⟩:=wD hs.fr hL0;have hdl:p.da.length=p.fl.length:=Oo.out.ll;have hdr:=hs.dr;rw[hdl] at hdr;obtain ⟨gd,cd,rfl,ahr,ahs,hgd⟩:=wD hdr hL0;obtain ⟨A',c',e',hfs⟩:=nH.dH hs.fr;cases e';have hhas:=fun (X:World) (hX:Below wr.heap.size wr X) (a which:Nat) (ha:a≤100000) (hw:which<3)=>Bu (hfs.below hX) a ha which hw
     have DC:Calls Tryz.prog 156 #[.slice (some ⟨gf,0,none⟩) p.fl.length cf,.int .i64 (i:Nat),.int .i64 1] wr fun e w'=>e= .returned (.bool (eP p.fl i).2.1)∧wr=w':=hhas wr (Below.refl _ _) i 1 (by omega) (by omega)
     have Ia:Calls Tryz.prog 156 #[.slice (some ⟨gf,0,none⟩) p.fl.length cf,.int .i64 (fr:Nat),.int .i64 1] wr.drew fun e w'=>e= .returned (.bool (eP p.fl fr).2.1)∧wr.drew=w':=hhas wr.drew (Below.refl _ _).drew fr 1 (by omega) (by omega)
     have acT:Calls Tryz.prog 156 #[.slice (some ⟨gf,0,none⟩) p.fl.length cf,.int .i64 ((i:Int)-1),.int .i64 2] wr.drew fun e w'=>e= .returned (.bool (eP p.fl (i-1)).2.2)∧wr.drew=w':=by
      have:=hhas wr.drew (Below.refl _ _).drew (i-1) 2 (by omega) (by omega);rw[show ((i-1:Nat):Int)=(i:Int)-1 by omega] at this;exact this
     have QN:=ah DC;have QO:=ah Ia;have acU:=ah acT;have jJ:=ah hfin;clear hR YC hK hs t1 t2 t3 hol hki hhas DC Ia acT hfs hdr hfin hrow ZU EF hsv;by_cases yL:i<N∧(eP p.fl i).2.1=false
     ·obtain ⟨hs1,hs2⟩:=yL;have hfin:=jJ.out;rw[oG,if_pos ⟨hs1,hs2⟩] at hfin;have DC:=QN.out;rw[hs2] at DC;have YE:=ah DC;have KJ:=ah hfin;clear hs2 DC hfin QN jJ;go_wp2_with (go_at_call 156;refine YE.out.mono ?_;rintro e1 w4 ⟨rfl,rfl⟩)
      go_roundg gk'
      case measure=>omega
      case rel=>
       exact ⟨i+1,fr,op,sm,pK,T3,vo3,_,rfl,rfl,by go_num,by have:=HKI.out;omega,by omega,by omega,HR3.out,hop,HT3.out,nJ.out,Qk.out,KJ.out,by have:=HOB.out;omega,CX.out,HA1.out,HBG.out,HA2.out,yh.out,YD⟩
     ·have hfin:=jJ.out;rw[oG,if_neg yL] at hfin;obtain ⟨RP,hRP⟩:∃RP,RP=qK ((p.da.take i).drop fr) (eP p.fl fr).2.1 (decide (i<N)||(eP p.fl (i-1)).2.2) op sm:=⟨_,rfl⟩
      dsimp only at hfin;rw[←hRP] at hfin;have KJ:=ah hfin;have Qe:=ED (b:=(p.da.take i).drop fr) (begins:=(eP p.fl fr).2.1) (last:=decide (i<N)||(eP p.fl (i-1)).2.2) (sm:=sm) hop;rw[←hRP] at Qe;obtain ⟨Xa,MI⟩:=Qe;have LA:=ah hRP;have HSK:=ah yL;clear hfin hRP yL jJ;go_upto_region 8 with (fail)
      go_cut [50] (fun s50 wx=>s50= .bool false∧wx=wr)
      case first=>
       by_cases I7:i<N
       ·have hfl:(eP p.fl i).2.1=true:=by
         cases hh:(eP p.fl i).2.1 with
         |true=>rfl
         |false=>exact absurd ⟨I7,hh⟩ HSK.out
        have DC:=QN.out;rw[hfl] at DC;have YE:=ah DC;clear hfl DC QN;go_wp2_with (go_at_call 156;refine YE.out.mono ?_;rintro e1 w4 ⟨rfl,rfl⟩);go_meet;exact ⟨rfl,rfl⟩
       ·have aoe:¬(i:Int)<(N:Int):=by omega
        go_wp2_with fail;go_meet;exact ⟨rfl,rfl⟩
      case rest=>
      obtain ⟨rfl,rfl⟩:=hcut;generalize wc=wb at*;have hsl:=QM (CX.out.dr |> fun h9=>by rw[Oo.out.ll] at h9;exact h9) Oo.out.ll (fr:=fr) (i:=i) (by omega) (by omega) (by omega);have VS:∀X,Kept (fun k _=>k=g) wb.drew X→Sl X X.heap.size (some ⟨gd,fr,none⟩) (i-fr) (i-fr) (bQ ((p.da.take i).drop fr)):=fun X hX=>by
       have h9:=CX.out.dr;rw[Oo.out.ll] at h9;refine QM (bT h9 fun k hk=> ?_) Oo.out.ll (by omega) (by omega) (by omega);obtain ⟨o,ho⟩:∃o,wb.heap[k]? =some o:=⟨_,Array.getElem?_eq_getElem (h9.lt k hk).2⟩
       rw[ho];refine hX.same k o ho (fun ek=> ?_);have h8:=yh.out k hk;rw[ek] at h8;have h7:=HR3.out.tg;omega
      have acV:eF {st1 with op:=op,sm:=sm}:=⟨DN.out.n1,DN.out.n2,DN.out.n3,DN.out.n4,DN.out.m,hop,DN.out.t1,DN.out.t2⟩;have hpt:=NE HR3.out.drew acV (some ⟨gd,fr,none⟩) (i-fr) (i-fr) ((p.da.take i).drop fr) (by omega) VS (eP p.fl fr).2.1 (decide (i<N)||(eP p.fl (i-1)).2.2);dsimp only at hpt;rw[←LA.out] at hpt;have Xi:=ah hpt;have aof:¬cd=fr:=by omega
      have aog:¬i=fr:=by omega
      have hq1:(fr:Int)≤(i:Int):=by omega
      have hq2:(i:Int)≤(cd:Int):=by omega
      have hq3:(0:Int)≤(fr:Int):=by omega
      clear hsl VS acV hpt LA HSK QN;go_upto_region 9 with (fail)
      go_cut [6,7] (fun s6 s7 wx=>∃(T4:Nat→Nat) (VT:Value),s7= .bool (!RP.2.2.isEmpty)∧iC wx T4 g M n c {st1 with op:=RP.1,sm:=RP.2.1} VT∧(∀k,k<wb.heap.size→T4 k=T3 k)∧Kept (fun k _=>k=g) wb wx∧(∀q,RP.2.2= [q]→wx.ownsRow wb.heap.size 5 1 s6 q.length (bQ q)∧∀k,s6.ownBlock=some k→T4 k=0))
      case first=>
       by_cases I7:i<N
       ·have hpt:=Xi.out;rw[decide_eq_true I7,Bool.true_or] at hpt;have HP2:=ah hpt;have d1:decide (i<N)=true:=decide_eq_true I7;clear hpt Xi acU;refine wp_region_noPanic ?_;refine bJ (fun w'=>w'.cell? ⟨b,0,none⟩=some (.slice (some ⟨gf,0,none⟩) p.fl.length cf)∧w'.cell? ⟨b,1,none⟩=some (.slice (some ⟨gd,0,none⟩) p.fl.length cd)∧w'.cell? ⟨b,2,none⟩=some (.int .i64 (N:Int))) [30] (by kernel_rfl) ?_;have hHeld:=(show (fun w':World=>w'.cell? ⟨b,0,none⟩=some (.slice (some ⟨gf,0,none⟩) p.fl.length cf)∧w'.cell? ⟨b,1,none⟩=some (.slice (some ⟨gd,0,none⟩) p.fl.length cd)∧w'.cell? ⟨b,2,none⟩=some (.int .i64 (N:Int))) wb.drew from ⟨z0,z1,z2⟩);refine aT 0 rfl hHeld ?_
        try simp only[Act.put,aD,aF,ay,aA,aB]
        refine aT 1 rfl hHeld ?_
        try simp only[Act.put,aD,aF,aG,ay,aA,aB]
        refine aT 2 rfl hHeld ?_
        try simp only[Act.put,aD,aF,aG,ay,aA,aB]
        refine aT 3 rfl hHeld ?_
        try simp only[Act.put,aD,aF,aG,ay,aA,aB]
        refine iw [8,30] 4 ?_ rfl (Or.inl ⟨by rfl,?_⟩) hHeld ?_;rotate_left
        ·intro w' hSw;obtain ⟨hS1,hS2,gK⟩:=hSw;go_simp
         try with_reducible rfl
        try simp only[Act.put,aD,aF,aG,ay,aA,aB]
        refine aT 5 rfl hHeld ?_
        try simp only[Act.put,aD,aF,aG,ay,aA,aB]
        refine aT 6 rfl hHeld ?_
        try simp only[Act.put,aD,aF,aG,ay,aA,aB]
        refine aT 7 rfl hHeld ?_
        try simp only[Act.put,aD,aF,aG,ay,aA,aB]
        refine aT 8 rfl hHeld ?_
        try simp only[Act.put,aD,aF,aG,ay,aA,aB]
        refine aT 9 rfl hHeld ?_
        try simp only[Act.put,aD,aF,aG,ay,aA,aB]
        refine aT 10 rfl hHeld ?_
        try simp only[Act.put,aD,aF,aG,ay,aA,aB]
        refine aT 11 rfl hHeld ?_
        try simp only[Act.put,aD,aF,aG,ay,aA,aB]
        refine iw [14,30] 12 ?_ rfl (Or.inl ⟨by rfl,?_⟩) hHeld ?_;rotate_left
        ·intro w' hSw;obtain ⟨hS1,hS2,gK⟩:=hSw;go_simp
         try with_reducible rfl
        try simp only[Act.put,aD,aF,aG,ay,aA,aB]
        refine aT 13 rfl hHeld ?_
        try simp only[Act.put,aD,aF,aG,ay,aA,aB]
        refine aT 15 rfl hHeld ?_
        try simp only[Act.put,aD,aF,aG,ay,aA,aB]
        refine aT 16 rfl hHeld ?_
        try simp only[Act.put,aD,aF,aG,ay,aA,aB]
        refine aT 17 rfl hHeld ?_
        try simp only[Act.put,aD,aF,aG,ay,aA,aB]
        refine aT 18 rfl hHeld ?_
        try simp only[Act.put,aD,aF,aG,ay,aA,aB]
        refine iw [20,21,29,30] 19 ?_ rfl (Or.inl ⟨by rfl,?_⟩) hHeld ?_;rotate_left
        ·intro w' hSw;obtain ⟨hS1,hS2,gK⟩:=hSw;go_simp
         try with_reducible rfl
        try simp only[Act.put,aD,aF,aG,ay,aA,aB]
        refine aT 20 rfl hHeld ?_
        try simp only[Act.put,aD,aF,aG,ay,aA,aB]
        refine aR (i:=14) rfl (by kernel_rfl) (by rfl) (fun K hK=> ?_);go_simp;refine QO.out.mono ?_;rintro e1 w4 ⟨rfl,rfl⟩;refine hK _ _ ⟨z0,z1,z2⟩ ?_;clear hK K hHeld;have hHeld:=(show (fun w':World=>w'.cell? ⟨b,0,none⟩=some (.slice (some ⟨gf,0,none⟩) p.fl.length cf)∧w'.cell? ⟨b,1,none⟩=some (.slice (some ⟨gd,0,none⟩) p.fl.length cd)∧w'.cell? ⟨b,2,none⟩=some (.int .i64 (N:Int))) wb.drew from ⟨z0,z1,z2⟩)
        try simp only[Act.put,aD,aF,aG,ay,aA,aB]
        refine aT 21 rfl hHeld ?_
        try simp only[Act.put,aD,aF,aG,ay,aA,aB]
        refine kz 22 rfl hHeld ?_
        try simp only[Act.put,aD,aF,aG,ay,aA,aB]
        refine kz 23 rfl hHeld ?_
        try simp only[Act.put,aD,aF,aG,ay,aA,aB]
        refine kz 24 rfl hHeld ?_
        try simp only[Act.put,aD,aF,aG,ay,aA,aB]
        refine kz 25 rfl hHeld ?_
        try simp only[Act.put,aD,aF,aG,ay,aA,aB]
        refine kz 26 rfl hHeld ?_
        try simp only[Act.put,aD,aF,aG,ay,aA,aB]
        refine kz 27 rfl hHeld ?_
        try simp only[Act.put,aD,aF,aG,ay,aA,aB]
        refine kz 28 rfl hHeld ?_
        try simp only[Act.put,aD,aF,aG,ay,aA,aB]
        refine aT 29 rfl hHeld ?_
        try simp only[Act.put,aD,aF,aG,ay,aA,aB]
        refine bW (i:=30) rfl (by kernel_rfl) (by kernel_rfl) (by rfl) (fun K hK=> ?_);go_simp;refine HP2.out.mono ?_;rintro e1 w4 ⟨T4,VT,vr,rfl,CO,I8,hK4,hq4⟩;refine hK _ _ ?_;clear hK K
        try simp only[Act.put,aD,aF,aG,ay,aA,aB]
        refine sU 31 rfl ?_
        try simp only[Act.put,aD,aF,aG,ay,aA,aB]
        refine sU 32 rfl ?_
        try simp only[Act.put,aD,aF,aG,ay,aA,aB]
        refine sU 33 rfl ?_
        try simp only[Act.put,aD,aF,aG,ay,aA,aB]
        refine sU 34 rfl ?_
        try simp only[Act.put,aD,aF,aG,ay,aA,aB]
        refine sU 35 rfl ?_
        try simp only[Act.put,aD,aF,aG,ay,aA,aB]
        refine bI (by kernel_rfl) ?_ _;simp only[NoPanic];go_wp2_with fail;go_meet;exact ⟨T4,VT,rfl,CO,I8,(Kept.refl _ wb).drew.trans hK4,hq4⟩
       ·have hiE:i=N:=by omega
        have hpt:=Xi.out;rw[decide_eq_false I7,Bool.false_or] at hpt;have HP2:=ah hpt;have d1:decide (i<N)=false:=decide_eq_false I7;have hwi:IntKind.i64.wrap ((i:Int)-1)=(i:Int)-1:=IntWalk.i64_in _ (by omega);clear hpt Xi hiE;refine wp_region_noPanic ?_;refine bJ (fun w'=>w'.cell? ⟨b,0,none⟩=some (.slice (some ⟨gf,0,none⟩) p.fl.length cf)∧w'.cell? ⟨b,1,none⟩=some (.slice (some ⟨gd,0,none⟩) p.fl.length cd)∧w'.cell? ⟨b,2,none⟩=some (.int .i64 (N:Int))) [30] (by kernel_rfl) ?_;have hHeld:=(show (fun w':World=>w'.cell? ⟨b,0,none⟩=some (.slice (some ⟨gf,0,none⟩) p.fl.length cf)∧w'.cell? ⟨b,1,none⟩=some (.slice (some ⟨gd,0,none⟩) p.fl.length cd)∧w'.cell? ⟨b,2,none⟩=some (.int .i64 (N:Int))) wb.drew from ⟨z0,z1,z2⟩);refine aT 0 rfl hHeld ?_
        try simp only[Act.put,aD,aF,ay,aA,aB]
        refine aT 1 rfl hHeld ?_
        try simp only[Act.put,aD,aF,aG,ay,aA,aB]
        refine aT 2 rfl hHeld ?_
        try simp only[Act.put,aD,aF,aG,ay,aA,aB]
        refine aT 3 rfl hHeld ?_
        try simp only[Act.put,aD,aF,aG,ay,aA,aB]
        refine iw [8,30] 4 ?_ rfl (Or.inl ⟨by rfl,?_⟩) hHeld ?_;rotate_left
        ·intro w' hSw;obtain ⟨hS1,hS2,gK⟩:=hSw;go_simp
         try with_reducible rfl
        try simp only[Act.put,aD,aF,aG,ay,aA,aB]
        refine aT 5 rfl hHeld ?_
        try simp only[Act.put,aD,aF,aG,ay,aA,aB]
        refine aT 6 rfl hHeld ?_
        try simp only[Act.put,aD,aF,aG,ay,aA,aB]
        refine aT 7 rfl hHeld ?_
        try simp only[Act.put,aD,aF,aG,ay,aA,aB]
        refine aT 8 rfl hHeld ?_
        try simp only[Act.put,aD,aF,aG,ay,aA,aB]
        refine aT 9 rfl hHeld ?_
        try simp only[Act.put,aD,aF,aG,ay,aA,aB]
        refine aT 10 rfl hHeld ?_
        try simp only[Act.put,aD,aF,aG,ay,aA,aB]
        refine aT 11 rfl hHeld ?_
        try simp only[Act.put,aD,aF,aG,ay,aA,aB]
        refine iw [14,30] 12 ?_ rfl (Or.inl ⟨by rfl,?_⟩) hHeld ?_;rotate_left
        ·intro w' hSw;obtain ⟨hS1,hS2,gK⟩:=hSw;go_simp
         try with_reducible rfl
        try simp only[Act.put,aD,aF,aG,ay,aA,aB]
        refine aT 13 rfl hHeld ?_
        try simp only[Act.put,aD,aF,aG,ay,aA,aB]
        refine aT 15 rfl hHeld ?_
        try simp only[Act.put,aD,aF,aG,ay,aA,aB]
        refine aT 16 rfl hHeld ?_
        try simp only[Act.put,aD,aF,aG,ay,aA,aB]
        refine aT 17 rfl hHeld ?_
        try simp only[Act.put,aD,aF,aG,ay,aA,aB]
        refine aT 18 rfl hHeld ?_
        try simp only[Act.put,aD,aF,aG,ay,aA,aB]
        refine iw [20,21,29,30] 19 ?_ rfl (Or.inl ⟨by rfl,?_⟩) hHeld ?_;rotate_left
        ·intro w' hSw;obtain ⟨hS1,hS2,gK⟩:=hSw;go_simp
         try with_reducible rfl
        try simp only[Act.put,aD,aF,aG,ay,aA,aB]
        refine aT 20 rfl hHeld ?_
        try simp only[Act.put,aD,aF,aG,ay,aA,aB]
        refine aR (i:=14) rfl (by kernel_rfl) (by rfl) (fun K hK=> ?_);go_simp;refine QO.out.mono ?_;rintro e1 w4 ⟨rfl,rfl⟩;refine hK _ _ ⟨z0,z1,z2⟩ ?_;clear hK K hHeld;have hHeld:=(show (fun w':World=>w'.cell? ⟨b,0,none⟩=some (.slice (some ⟨gf,0,none⟩) p.fl.length cf)∧w'.cell? ⟨b,1,none⟩=some (.slice (some ⟨gd,0,none⟩) p.fl.length cd)∧w'.cell? ⟨b,2,none⟩=some (.int .i64 (N:Int))) wb.drew from ⟨z0,z1,z2⟩)
        try simp only[Act.put,aD,aF,aG,ay,aA,aB]
        refine aT 21 rfl hHeld ?_
        try simp only[Act.put,aD,aF,aG,ay,aA,aB]
        refine aT 22 rfl hHeld ?_
        try simp only[Act.put,aD,aF,aG,ay,aA,aB]
        refine aT 23 rfl hHeld ?_
        try simp only[Act.put,aD,aF,aG,ay,aA,aB]
        refine aT 24 rfl hHeld ?_
        try simp only[Act.put,aD,aF,aG,ay,aA,aB]
        refine iw [28,29,30] 25 ?_ rfl (Or.inl ⟨by rfl,?_⟩) hHeld ?_;rotate_left
        ·intro w' hSw;obtain ⟨hS1,hS2,gK⟩:=hSw;go_simp
         try with_reducible rfl
        try simp only[Act.put,aD,aF,aG,ay,aA,aB]
        refine aT 26 rfl hHeld ?_
        try simp only[Act.put,aD,aF,aG,ay,aA,aB]
        refine aT 27 rfl hHeld ?_
        try simp only[Act.put,aD,aF,aG,ay,aA,aB]
        refine aR (i:=28) rfl (by kernel_rfl) (by rfl) (fun K hK=> ?_);go_simp;refine acU.out.mono ?_;rintro e1 w4 ⟨rfl,rfl⟩;refine hK _ _ ⟨z0,z1,z2⟩ ?_;clear hK K hHeld;have hHeld:=(show (fun w':World=>w'.cell? ⟨b,0,none⟩=some (.slice (some ⟨gf,0,none⟩) p.fl.length cf)∧w'.cell? ⟨b,1,none⟩=some (.slice (some ⟨gd,0,none⟩) p.fl.length cd)∧w'.cell? ⟨b,2,none⟩=some (.int .i64 (N:Int))) wb.drew from ⟨z0,z1,z2⟩)
        try simp only[Act.put,aD,aF,aG,ay,aA,aB]
        refine aT 29 rfl hHeld ?_
        try simp only[Act.put,aD,aF,aG,ay,aA,aB]
        refine bW (i:=30) rfl (by kernel_rfl) (by kernel_rfl) (by rfl) (fun K hK=> ?_);go_simp;refine HP2.out.mono ?_;rintro e1 w4 ⟨T4,VT,vr,rfl,CO,I8,hK4,hq4⟩;refine hK _ _ ?_;clear hK K
        try simp only[Act.put,aD,aF,aG,ay,aA,aB]
        refine sU 31 rfl ?_
        try simp only[Act.put,aD,aF,aG,ay,aA,aB]
        refine sU 32 rfl ?_
        try simp only[Act.put,aD,aF,aG,ay,aA,aB]
        refine sU 33 rfl ?_
        try simp only[Act.put,aD,aF,aG,ay,aA,aB]
        refine sU 34 rfl ?_
        try simp only[Act.put,aD,aF,aG,ay,aA,aB]
        refine sU 35 rfl ?_
        try simp only[Act.put,aD,aF,aG,ay,aA,aB]
        refine bI (by kernel_rfl) ?_ _;simp only[NoPanic];go_wp2_with fail;go_meet;exact ⟨T4,VT,rfl,CO,I8,(Kept.refl _ wb).drew.trans hK4,hq4⟩
      case rest=>
      obtain ⟨T4,VT,hs7,CO,I8,hK4,hq4⟩:=hcut;have hkeep:∀k,k≠g→k<wb.heap.size→wc.heap[k]? =wb.heap[k]? :=fun k hk hlt=>by
       obtain ⟨o,ho⟩:∃o,wb.heap[k]? =some o:=⟨_,Array.getElem?_eq_getElem hlt⟩
       rw[ho];exact hK4.same k o ho hk
      have hg3:=HR3.out.tg;have hKm:Kept (MT T3) wb wc:=hK4.mono fun k o e=>by rw[e];unfold MT;omega
      have hwb:=nJ.out.size;have hs5:qw wc b p (.slice (some ⟨gf,0,none⟩) p.fl.length cf) (.slice (some ⟨gd,0,none⟩) p.fl.length cd):=CX.out.stay (hkeep b HBG.out CX.out.blk.lt) (fun k hk=>hkeep k (fun e=>by have:=HA2.out k hk;rw[e] at this;omega) (CX.out.fr.lt k hk).2) (fun k hk=>hkeep k (fun e=>by have:=yh.out k hk;rw[e] at this;omega) (CX.out.dr.lt k hk).2);have Gz:=Qk.out.stay hKm I8;have Oi:=jU.trans nJ.out hKm HT3.out;have CY:∀k,k<w.heap.size→T4 k=T k:=fun k hk=>(I8 k (by omega)).trans (HT3.out k hk)
      have acW:T4 b=3*st1.next+4:=(I8 b CX.out.blk.lt).trans HA1.out
      have acX:∀j,(Value.slice (some ⟨gf,0,none⟩) p.fl.length cf).ownBlock=some j→T4 j=3*st1.next+5:=fun j hj=>(I8 j (CX.out.fr.lt j hj).2).trans (HA2.out j hj)
      have acY:∀j,(Value.slice (some ⟨gd,0,none⟩) p.fl.length cd).ownBlock=some j→T4 j=3*st1.next+6:=fun j hj=>(I8 j (CX.out.dr.lt j hj).2).trans (yh.out j hj)
      have ahv:w1.heap.size≤wc.heap.size:=Nat.le_trans YD hK4.size;have yD:=ah CO;have VU:=ah hs5;have HO5:=ah Gz;have ve:=ah Oi;have GA:=ah CY;have HB1:=ah acW;have HB2:=ah acX;have HB3:=ah acY;have nX:=KJ.out;subst hs7;clear CO I8 hK4 hkeep hKm hs5 Gz Oi CY acW acX acY HR3 CX Qk nJ HT3 HA1 HA2 yh QO KJ;cases hro:RP.2.2 with
      |nil=>
       rw[hro] at nX;rw[List.nil_append] at nX;have KD:=ah nX;clear nX hq4 hro MI;generalize RP.1=op9 at*;generalize RP.2.1=sm9 at*;rw[show (!([]:List (List UInt8)).isEmpty)=false from rfl];go_wp2_with fail
       go_roundg gk'
       case measure=>omega
       case rel=>
        exact ⟨i+1,i,op9,sm9,pK,T4,VT,_,rfl,rfl,by go_num,by have:=HKI.out;omega,by omega,by omega,yD.out,Xa,GA.out,ve.out,HO5.out,KD.out,by have:=HOB.out;omega,VU.out,HB1.out,HBG.out,HB2.out,HB3.out,ahv⟩
      |cons q r=>
       have hr0:r= []:=by
        rw[hro] at MI;simp at MI;exact MI
       subst hr0;obtain ⟨hqr,JD⟩:=hq4 q hro;rw[hro] at nX;rw[←List.append_assoc] at nX;obtain ⟨Aq,cq,rfl,hsq,-⟩:=aS hqr;obtain ⟨ZO,Me,QR,QS⟩:=HO5.out;obtain ⟨j0,hj0,hm0,hm1,hm2⟩:=info_parts nN;have KD:=ah nX;have HQR:=ah hqr;have HQT:=ah JD;clear nX hq4 hro MI hqr JD hsq;generalize RP.1=op9 at*;generalize RP.2.1=sm9 at*;rw[show (![q].isEmpty)=true from rfl];go_wp2_with (at_builtin;refine kQ _ rfl (.tmp 86) (.tmp 88) 37 rfl w.heap.size 31 j0 (.slice none 0 0) 24 qH hj0 hm0 hm1 hm2 rfl _ pK.length ZO rfl (Me.alloc _) _ (some ⟨wc.heap.size,0,none⟩) 1 1 [.slice Aq q.length cq] rfl (xC (xs:= [.slice Aq q.length cq]) (oP wc _) rfl (by simp)) (by simp[Value.oneCell']) ?c2 ?c3 ?c4 ?_)
       case c2=>unfold maxLen;omega
       case c3=>omega
       case c4=>have:=ve.out.size;simp;omega
       intro v6 w6 hown6 rW hv6;have hfr:∀k,wc.heap.size≤k→T4 k=0:=fun k hk=>by
        rcases Nat.eq_zero_or_pos (T4 k) with e|e
        ·exact e
        ·have:=yD.out.lt k (by omega);omega
       have acZ:∀k,v6.ownBlock=some k→T4 k=0:=fun k hk=>by
        rcases hv6 with e|e
        ·exact QR k (e ▸ hk)
        ·rw[e] at hk;cases hk;exact hfr _ (by simp)
       have JE:=gN.push Me QR QS (aU HQR.out hwb) HQT.out hown6 rW acZ;have GZ:=(yD.out.alloc (.cells #[.slice Aq q.length cq] 31)).grown rW QR;have hsA:=VU.out.stay (w':=wc.alloc (.cells #[.slice Aq q.length cq] 31)) (Below.heap_alloc wc _ b VU.out.blk.lt) (fun k hk=>Below.heap_alloc wc _ k (VU.out.fr.lt k hk).2) (fun k hk=>Below.heap_alloc wc _ k (VU.out.dr.lt k hk).2);have hne:∀k,T4 k≠0→some k≠(Value.slice Av2 pK.length cv2).ownBlock:=fun k hk e=>hk (QR k e.symm)
       have hs6:=hsA.stay (w':=w6) (rW.block b hsA.blk.lt (hne b (by rw[HB1.out];omega))) (fun k hk=>rW.block k (hsA.fr.lt k hk).2 (hne k (by rw[HB2.out k hk];omega))) (fun k hk=>rW.block k (hsA.dr.lt k hk).2 (hne k (by rw[HB3.out k hk];omega)));have Vu:=(ve.out.alloc (.cells #[.slice Aq q.length cq] 31)).grown rW (fun k e o ho=>by have:=(Me.lt k e).1;have:=lt_of_heap ho;omega);have ahy:w1.heap.size≤w6.heap.size:=by have:=rW.size;simp at this;omega
       have HO6:=ah JE;have Vj:=ah GZ;have HS6:=ah hs6;have vg:=ah Vu;obtain ⟨A6,c6,rfl,-,-⟩:=aS hown6;clear hfr acZ JE GZ hsA hne hs6 Vu hown6 rW hv6 Me QR QS yD VU HO5 ve;go_wp2_with fail
       go_roundg gk'
       case measure=>omega
       case rel=>
        refine ⟨i+1,i,op9,sm9,pK++ [q],T4,VT,_,rfl,rfl,by go_num,by have:=HKI.out;omega,by omega,by omega,Vj.out,Xa,GA.out,vg.out,HO6.out,KD.out,?_,HS6.out,HB1.out,HBG.out,HB2.out,HB3.out,ahy⟩;have:=HOB.out;rw[List.length_append,List.length_singleton];omega
    ·have NB:gk=0:=by omega
     subst NB;have I7:¬(i:Int)≤(N:Int):=by omega
     have nX:=hfin;unfold oG at nX;dsimp only at nX;rw[List.append_nil] at nX;have Ns:=IV.out;rw[nX] at Ns;simp only[Prod.mk.injEq] at Ns;obtain ⟨he1,he2,he3⟩:=Ns;obtain ⟨y3,y4,y7,y8,y9,FU,Qo,xh,y13,Ej,JB,yP,PS,FE⟩:=hR.cells;have Xy:=ah he1;have HE2:=ah he2;have HE3:=ah he3;obtain ⟨F,hF1,hF2⟩:=hR.drew.mp;have Sw:=ah hF1;have HFM:=ah hF2;have hn9:st1.next≤1023:=hn2
     clear hfin nX he1 he2 he3 hR YC hK hs t1 t2 t3 hol hki hrow ZU EF hsv hF1 hF2 y3 y4 y9 FU Qo xh y13 Ej JB yP PS FE hfi hi1 YD;go_upto_region 13 with (fail)
     refine wp_region_still_tail 8 kW (by kernel_rfl) ?_;simp only[List.take_succ_cons,List.take_zero,List.drop_succ_cons,List.drop_zero]
     repeat still_step
     refine wpStill_nil ?_;change wpList _ _ _ _ _ wr.drew;refine vY _ rfl _ _ 128 3 rfl 161 vZ zG M n F rfl Sw.out st1.next rfl (by omega) ?_
     intro w5 VE hg5;have hm5:=HM.out;have qU:iC w5 T3 g M n c {{st1 with op:=op,sm:=sm} with m:=fJ st1.m st1.next none} vo3:=HR3.out.drew.UA hg5 VE fun k=>by
      have hkk:=HFM.out k;unfold fJ Fx;by_cases e:k=st1.next
      ·rw[if_pos e,if_pos e];exact ⟨fun _=>rfl,fun _ hh=>by cases hh⟩
      ·rw[if_neg e,if_neg e];exact hkk
     have GZ:=qU.put 8 (.int .i64 (d9 st1.next:Nat)) (st':= {st1 with op:=op,sm:=sm,m:=fJ st1.m st1.next none,next:=d9 st1.next}) rfl rfl rfl;have ZV:=HR3.out.tM;have hTG:=HR3.out.tg;have Vu:Kept (MT T) w w5:=jU.trans nJ.out ((Kept.refl _ wr).drew.grown hg5 (fun k e o ho=>by cases e;unfold MT;omega)) HT3.out;have hTg:T g=1:=HH.out.tg;have Pq:=Vu.setCell (p:=⟨g,8,none⟩) (fun o _=>by unfold MT;show T g≠0;omega) (.int .i64 (d9 st1.next:Nat));have Gz:gN w5 w.heap.size T3 (.slice Av2 pK.length cv2) pK:=Qk.out.stay ((Kept.refl _ wr).drew.grown hg5 (fun k e o ho=>by cases e;show T3 M≠0;omega)) (fun k _=>rfl);have Ma:gN (w5.setCell ⟨g,8,none⟩ (.int .i64 (d9 st1.next:Nat))) w.heap.size T3 (.slice Av2 pK.length cv2) pK:=Gz.stay ((Kept.refl _ w5).setCell (p:=⟨g,8,none⟩) (fun o _=>by show T3 g≠0;omega) (.int .i64 (d9 st1.next:Nat))) (fun k _=>rfl);have hand:bits BinOp.and IntKind.i64 ((st1.next:Int)+1) 1023=((d9 st1.next:Nat):Int):=by rw[rF];unfold d9;omega
     have y8':w5.cell? ⟨g,8,none⟩=some (.int .i64 (st1.next:Nat)):=qU.cells.2.2.2.1;have f8:=qU.blk.frozen 8;have ZT:=ah GZ;have HO7:=ah Ma;have Oj:=ah Pq;clear y7 y8 qU Vu Pq Gz Ma GZ ZV hTG hTg hm5 VE hg5 Qk nJ HR3 Sw HFM hiN I7;go_upto_region 3 with (fail)
     generalize w5.setCell ⟨g,8,none⟩ (.int .i64 (d9 st1.next:Nat))=w7 at*;have hs7:({st1 with op:=op,sm:=sm,m:=fJ st1.m st1.next none,next:=d9 st1.next}:Rc)=zl st1 p:=by rw[Xy.out,HE2.out];rfl
     have JF:=ZT.out;rw[hs7] at JF;have YF:eF (zl st1 p):=DN.out.one HM.out;have hfn:=Ps.out;rw[←List.append_assoc,←HE3.out] at hfn;have hn7:=YF.n1;obtain ⟨v7,hl7,hv7⟩:=JF.drew.look hn7;obtain ⟨_,_,y7,y8,_⟩:=JF.cells;have HR8:=ah JF;have ahz:=ah YF;have ahA:=ah hfn;have HV8:=ah hv7;clear hs7 JF YF hfn hv7 f8 y8' hand ZT DN Ps;refine wp_region_still_tail 8 kW (by kernel_rfl) ?_;simp only[List.take_succ_cons,List.take_zero,List.drop_succ_cons,List.drop_zero]
     repeat still_step
     refine wpStill_nil ?_;change wpList _ _ _ _ _ w7.drew;generalize zl st1 p=st2 at*;go_wp2_with fail
     go_roundg f
     case measure=>omega
     case rel=>
      refine ⟨j-1,st2,pK,T3,vo3,_,rfl,HR8.out.drew,ahz.out,HT3.out,Oj.out.drew,HO7.out.drew,ahA.out,?_,?_,ahn.out,?_⟩
      ·have h1:=HOB.out;have h2:=acR.out;omega
      ·have h1:=HJ.out;have h2:=HJ0.out;omega
      ·exact HV8.out
end
end
section
open Go.RowKit Go.Shelf
structure Kq (B:Nat) (J:Nat→World→Prop):Prop where
 own:OwnFrom B J
 fresh:∀k A A',J k A→Below A.heap.size A A'→J k A'
theorem Kq.mono {B B':Nat} {J:Nat→World→Prop} (h:Kq B J) (hB:B≤B'):Kq B' J:=
 ⟨fun s A A' row hs hg hr=>h.own s A A' row hs hg (fun r e=>⟨Nat.le_trans hB (hr r e).1,(hr r e).2⟩),h.fresh⟩
def PU (n:Nat) (P:Program) (g:Nat) (lb:Array Value) (vals:Nat→Array Value) (N:Nat) (Kp:World→World→Prop) (w:World):Prop:=
 ∀(l:Nat) (J:Nat→World→Prop) (W:World),Below w.heap.size w W→w.heap.size+2≤W.heap.size→Kq W.heap.size J→
  (∀k W1,k<N→J k W1→YieldAt Fence.wide (n-1) P l (vals k) W1 fun e W'=>e= .returned (.bool true)∧J (k+1) W'∧Kp W1 W')→J 0 W→
  CallsIn Fence.wide n P g (#[.func (.yield l) #[] #[]]++lb) W fun e W'=>(∃v,e= .returned v)∧J N W'
def Kr (B:Nat) (Kp:World→World→Prop) (I:Nat→World→Prop) (k:Nat) (W0 W:World):Exit→Act→World→Prop
 | .normal,_,W'=>KeepsFrom B W W'∧Kp W0 W'∧I k W'
 |_,_,_=>False
theorem TI (k:Nat):Fence.wide.room k:=fun d h=>by cases h
variable {n:Nat} {P:Program}
theorem RoundIn.ix {m m':Nat} {P:Program} {l l':Nat} {f:FuncId} {tmps:Array Value} {assign body:Code} {w:World} {R:Ending→World→Prop}
 (h:RoundIn Fence.wide m P l f tmps assign body w R):RoundIn (Fence.wide.inRound l') m' P l f tmps assign body w R:=⟨h.1,fun c cs _=>h.2 c cs (TI _)⟩
theorem tT {g:Operand} {ps:Array Tmp} {assign body:Code} {Q:Exit→Act→World→Prop} {a:Act} {w:World}
 {gf:Nat} {lb:Array Value} (hg:a.eval g= .func (.func gf) #[] lb) (eg:∀args w,(callFunc gf args).run P w= .ok (.enter gf args) w)
 {vals:Nat→Array Value} {N:Nat} {Kp:World→World→Prop} {w0:World} (hseq:PU (n-1) P gf lb vals N Kp w0)
 (hKt:∀{A B C:World},Kp A B→Kp B C→Kp A C) (hKb:∀(W:World) (o o':Obj),W.heap[w.heap.size+1]? =some o→o.isCells=false→Kp W (W.putObj (w.heap.size+1) o')) (hb0:Below w0.heap.size w0 w)
 (hps:∀k,(vals k).size=ps.size) (I:Nat→World→Prop) (hI:Kq w.heap.size I) (h0:I 0 w)
 (XC:∀(l k:Nat) (W:World),k<N→I k W→(∃o,W.heap[w.heap.size+1]? =some o∧o.isCells=false)→
  assign.wpIn (Fence.wide.inRound l) (n-1-1) P (Exit.then (fun a' W'=>KeepsFrom w.heap.size W W'∧
   ∀W2 o',W2=W'.putObj (w.heap.size+1) o'→body.wpIn (Fence.wide.inRound l) (n-1-1) P (Kr w.heap.size Kp I (k+1) W W2) a' W2) (fun _ _ _=>False))
   {tmps:=(ps.zip (vals k)).foldl (fun t (p,v)=>t.setIfInBounds p v) a.tmps,defers:= []} W)
 (hdone:∀(D:Nat) (W:World),w.heap.size≤D→I N W→W.heap[D]? =some (.deferred (some []))→Q .normal {a with defers:= {target:= .collected D,args:= #[]}::a.defers} W):
 (Code.rangeFunc g ps assign body).wpIn Fence.wide n P Q a w:=by
 refine wpIn_rangeFunc fun fn hfn=> ?_
 rw[show Fence.wide.round=none from rfl]
 let R:LoopState→Loop:=fun st=> {state:=st,pending:=none,fn,tmps:=a.tmps,params:=ps,assign,body,defers:=w.heap.size}
 let W1:=(w.alloc (.deferred (some []))).alloc (.loop (R .ready))
 have hsz:W1.heap.size=w.heap.size+2:=by simp[W1]
 have hL1:W1.heap[w.heap.size+1]? =some (.loop (R .ready)):=by
  have:=World.alloc_heap_new (w.alloc (.deferred (some []))) (.loop (R .ready));rwa [World.size_alloc] at this
 have hD1:W1.heap[w.heap.size]? =some (.deferred (some [])):=(Below.heap_alloc _ _ _ (by simp)).trans (World.alloc_heap_new w _);have hBW:Below w0.heap.size w0 W1:=hb0.trans ((((Below.refl _ w).alloc (aN) _).alloc (by simp) _).mono hb0.size)
 let J:Nat→World→Prop:=fun k W=>I k W∧W.heap[w.heap.size+1]? =some (.loop (R .ready))∧W.heap[w.heap.size]? =some (.deferred (some []))
 have hJ:Kq W1.heap.size J:=by
  refine ⟨fun k A B row hs hgr hr=> ?_,fun k A A' hs hb=> ?_⟩
  ·refine ⟨hI.own k A B row hs.1 hgr (fun r e=>⟨by have:=(hr r e).1;omega,(hr r e).2⟩),?_,?_⟩
   ·exact (hgr.block _ (Array.getElem?_eq_some_iff.1 hs.2.1).1 (fun e=>by have:=(hr _ e.symm).1;omega)).trans hs.2.1
   ·exact (hgr.block _ (Array.getElem?_eq_some_iff.1 hs.2.2).1 (fun e=>by have:=(hr _ e.symm).1;omega)).trans hs.2.2
  ·exact ⟨hI.fresh k A A' hs.1 hb,(hb.block _ (Array.getElem?_eq_some_iff.1 hs.2.1).1).trans hs.2.1,(hb.block _ (Array.getElem?_eq_some_iff.1 hs.2.2).1).trans hs.2.2⟩
 refine ⟨w.heap.size+1,[{target:= .collected w.heap.size,args:= #[]}],W1,{target:= .fn (.func gf) lb,args:= #[.func (.yield (w.heap.size+1)) #[] #[]]},W1,gf,
  #[.func (.yield (w.heap.size+1)) #[] #[]]++lb,W1,run_enterLoop_outer _ _ _ _ _,?_,?_,?_,(fun hh=>(by cases hh)),?_⟩
 ·simp only[resolve,hg];simp[go_sem]
 ·intro f' hf';simp[Target.leads] at hf';subst hf';exact trivial
 ·simp[invoke,go_sem,eg]
 refine (hseq (w.heap.size+1) J W1 hBW (by have:=hb0.size;omega) hJ (fun k W hk hjk=> ?_) ⟨hI.fresh _ _ _ h0 (((Below.refl _ w).alloc (aN) _).alloc (by simp) _),hL1,hD1⟩).mono ?_
 ·
  obtain ⟨hi,hl,hd⟩:=hjk;refine ⟨fn,_,assign,body,run_yield (P:=P) (args:=vals k) hl (hps k),roundIn_of_wpIn hfn ?_⟩;refine wpIn_mono (XC _ k W hk hi ⟨_,hl,rfl⟩) ?_;rintro ex a2 W2 hp;cases ex with
  |normal=>
   obtain ⟨hk2,hbd⟩:=hp;have hl2:=hk2.same _ _ (by omega) hl rfl;have hd2:=hk2.same _ _ (aN) hd rfl;refine ⟨_,run_beginRound hl2 rfl,?_⟩;have hlb:(W2.putObj (w.heap.size+1) (.loop (R .busy))).heap[w.heap.size+1]? =some (.loop (R .busy)):=World.putObj_heap_same (Array.getElem?_eq_some_iff.1 hl2).1;have hdb:(W2.putObj (w.heap.size+1) (.loop (R .busy))).heap[w.heap.size]? =some (.deferred (some [])):=(World.putObj_heap_other (by omega)).trans hd2;refine wpIn_mono (hbd _ _ rfl) ?_;rintro ex a3 W3 hp;cases ex with
   |normal=>
    obtain ⟨hk3,hkp,hi3⟩:=hp;have hl3:=hk3.same _ _ (by omega) hlb rfl;have hd3:=hk3.same _ _ (aN) hdb rfl;refine ⟨_,_,run_endRound (P:=P) none hl3,rfl,⟨hI.own.putObj _ hi3 (by omega) hl3 rfl,World.putObj_heap_same (Array.getElem?_eq_some_iff.1 hl3).1,(World.putObj_heap_other (by omega)).trans hd3⟩,?_⟩;exact hKt hkp (hKb _ _ _ hl3 rfl)
   |ret=>exact hp.elim
   |exit id=>exact hp.elim
   |goto t=>exact hp.elim
   |panic ch=>exact hp.elim
   |outgrown=>exact hp.elim
  |ret=>exact hp.elim
  |exit id=>exact hp.elim
  |goto t=>exact hp.elim
  |panic ch=>exact hp.elim
  |outgrown=>exact hp.elim
 ·rintro e W2 ⟨⟨v,rfl⟩,hi,hl,hd⟩;exact ⟨none,_,run_endLoop (P:=P) hl (by simp[R]),hdone _ _ (aN) (hI.own.putObj _ hi (by omega) hl rfl) ((World.putObj_heap_other (by omega)).trans hd)⟩
end
section
open Go.RowKit Go.Shelf
attribute [local go_sem] Oper.semAt_some
theorem cell_of_heap {w w':World} {b:Nat} (h:w'.heap[b]? =w.heap[b]?) (off:Nat) (x:Option Nat):w'.cell? ⟨b,off,x⟩=w.cell? ⟨b,off,x⟩:=World.cell?_of_block (a:=⟨b,off,x⟩) h
theorem bX.same {w w':World} {A:Option Addr} {n c:Nat} {l:List Nk} (h:bX w A n c l) (hs:w.heap.size≤w'.heap.size) (hb:∀ad,A=some ad→w'.heap[ad.block]? =w.heap[ad.block]?):bX w' A n c l:=
 ⟨h.len,h.cap,h.mx,fun hn=>by
  obtain ⟨ad,e,hlt,hc⟩:=h.at_ hn;refine ⟨ad,e,Nat.lt_of_lt_of_le hlt hs,fun j r hr=> ?_⟩;obtain ⟨k0,k1,k2,k3⟩:=hc j r hr;have hbk:w'.heap[(ad.add (j*4)).block]? =w.heap[(ad.add (j*4)).block]? :=by rw[block_add];exact hb ad e
  exact ⟨(World.cell?_of_block (a:=ad.add (j*4)) hbk).trans k0,(cell_of_heap hbk _ _).trans k1,(cell_of_heap hbk _ _).trans k2,(cell_of_heap hbk _ _).trans k3⟩⟩
theorem bX.kept {w w':World} {A:Option Addr} {n c:Nat} {l:List Nk} {M:Nat→Obj→Prop} (h:bX w A n c l) (hk:Kept M w w') (hM:∀ad,A=some ad→∀o,¬M ad.block o) (hlt:∀ad,A=some ad→ad.block<w.heap.size):bX w' A n c l:=
 h.same hk.size fun ad e=>by
  have hl:=hlt ad e;have h1:=Array.getElem?_eq_getElem hl;rw[hk.same _ _ h1 (hM ad e _),h1]
theorem Kept.dP {M:Nat→Obj→Prop} {w w':World} (h:Below w.heap.size w w'):Kept M w w':=
 ⟨h.os,h.tape,h.output,h.size,fun k _o hk _=>(h.block k (Array.getElem?_eq_some_iff.1 hk).1).trans hk⟩
def zJ (l:List Nk) (k:Nat):Array Value:= #[.int .i64 (k:Int),match l[k]? with
 |some x=> .agg (lq x)
 |none=>undef]
set_option maxRecDepth 100000 in
set_option maxHeartbeats 2000000 in
theorem TJ (n:Nat) (g:Nat) (A:Option Addr) (N c:Nat) (l:List Nk) (M:Nat→Obj→Prop) (w:World)
 (hg:au w g 131 #[.slice A N c]) (hv:bX w A N c l) (hlo:∀ad,A=some ad→ad.block<w.heap.size) (hMg:¬M g (.cells #[.slice A N c] 131 (0,0))) (Sr:∀ad,A=some ad→∀o,¬M ad.block o):
 PU n Tryz.prog 222 #[.pointer (some ⟨g,0,none⟩)] (zJ l) N (Kept M) w:=fun p J W hW _ hJ hY h0=>by
 have hg':=hg.below hW hg.lt;have hv':=hv.below hW;have hlt':∀ad,A=some ad→ad.block<W.heap.size:=fun ad e=>Nat.lt_of_lt_of_le (hlo ad e) hW.size
 have hvk:∀wr,Kept M W wr→bX wr A N c l:=fun wr hk=>hv'.kept hk Sr hlt'
 have WK:=ah hvk;have HY:=ah hY;have HJ:=ah hJ;have hlen:=hv.len;have hcap:=hv.cap;have hmx:=hv.mx;have HL:=ah hlen;clear hvk hY hJ hlen;refine callsIn_of_wp Tryz.func222 rfl trivial ?_ rfl;simp only[Tryz.ntmps222,List.size_toArray,List.length_cons,List.length_nil,Nat.reduceAdd,Nat.reduceSub,Array.replicate_succ,Array.replicate_zero,List.push_toArray,List.append_toArray,List.nil_append,List.cons_append];have hcw:=hg'.cell 0;simp at hcw
 gi_wp2
 gi_loopw [7] (fun i wr=>∃k:Nat,k≤N∧i= .int .i64 k∧J k wr∧Kept M W wr) (fun i _=>N-(intOf i).toNat)
 case atStart=>exact ⟨0,Nat.zero_le _,by simp,h0,Kept.refl _ _⟩
 case round=>
  obtain ⟨k,hk,rfl,hJs,hnx⟩:=hrel;by_cases hlt:k<N
  ·obtain ⟨x,hx⟩:∃x,l[k]? =some x:=⟨_,List.getElem?_eq_getElem (by have:=HL.out;omega)⟩
   have U9:=WK.out wr hnx;obtain ⟨ad,rfl,Bh,hcl⟩:=U9.at_ (by omega);obtain ⟨k0,k1,k2,k3⟩:=hcl k x hx;clear hcl U9;have b1:=au.new wr 197 (lq x);have y0:(wr.alloc (.cells (lq x) 197)).cell? ⟨wr.heap.size,0,none⟩=some (.int .i64 x.sn):=b1.cell 0;have y1:(wr.alloc (.cells (lq x) 197)).cell? ⟨wr.heap.size,1,none⟩=some (.bool x.part):=b1.cell 1;have y2:(wr.alloc (.cells (lq x) 197)).cell? ⟨wr.heap.size,2,none⟩=some (.int .i64 x.fr):=b1.cell 2;have y3:(wr.alloc (.cells (lq x) 197)).cell? ⟨wr.heap.size,3,none⟩=some (.int .i64 x.lt):=b1.cell 3;have hbw:Below wr.heap.size wr (wr.alloc (.cells (lq x) 197)):=(Below.refl _ wr).alloc (aN) _;have Lp:=HY.out k _ hlt (HJ.out.fresh k wr _ hJs hbw);have hnx2:Kept M W (wr.alloc (.cells (lq x) 197)):=hnx.trans (Kept.dP hbw);have El:=ah hnx2;have HX:=ah hx;unfold zJ at Lp;rw[hx] at Lp;unfold lq at*;obtain ⟨fn,tmps,assign,body,hy,hR⟩:=Lp;simp only[] at hy;clear b1 hx hnx2 hbw hnx
   gi_wp2
   refine ⟨fun hh=>(by cases hh),hR.mono ?_⟩;rintro e W3 ⟨rfl,hJ3,hk3⟩
   gi_wp2
   go_roundw
   case rel=>exact ⟨k+1,by omega,by go_num,hJ3,El.out.trans hk3⟩
   case measure=>simp[intOf];omega
  ·have e:k=N:=by omega
   have JK:J N wr:=by rw[e] at hJs;exact hJs
   clear e hJs
   gi_wp2
   go_end0
   exact ⟨⟨_,rfl⟩,JK⟩
end
section
open Go.RowKit Go.Shelf
attribute [local go_sem] Oper.semAt_some
def oM (l:List Nk):List Value:=l.flatMap (fun r=> [.int .i64 r.sn,.bool r.part,.int .i64 r.fr,.int .i64 r.lt])
theorem BH (l:List Nk):(oM l).length=l.length*4:=by
 induction l with
 |nil=>rfl
 |cons r t ih=>
  simp only[oM,List.flatMap_cons,List.length_append,List.length_cons,List.length_nil] at ih ⊢;omega
theorem Im (r:Nk) (t:List Nk):oM (r::t)= .int .i64 r.sn:: .bool r.part:: .int .i64 r.fr:: .int .i64 r.lt::oM t:=by simp[oM]
theorem FH:∀(l:List Nk) (j:Nat) (r:Nk),l[j]? =some r→(oM l)[j*4]? =some (.int .i64 r.sn)∧(oM l)[j*4+1]? =some (.bool r.part)∧(oM l)[j*4+2]? =some (.int .i64 r.fr)∧(oM l)[j*4+3]? =some (.int .i64 r.lt)
 | [],j,r,h=>by simp at h
 |x::t,0,r,h=>by
  simp at h;subst h;rw[Im];exact ⟨rfl,rfl,rfl,rfl⟩
 |x::t,j+1,r,h=>by
  have ih:=FH t j r (by simpa using h);rw[Im];rw[show (j+1)*4=j*4+1+1+1+1 by omega];exact ih
theorem TN (l:List Nk):∀u∈oM l,u.oneCell'=true:=by
 intro u hu;simp only[oM,List.mem_flatMap,List.mem_cons,List.not_mem_nil,or_false] at hu;obtain ⟨r,_,rfl|rfl|rfl|rfl⟩:=hu<;>rfl
theorem bX.cells {w:World} {ad:Addr} {n c:Nat} {l:List Nk} (h:bX w (some ad) n c l):∀j u,(oM l)[j]? =some u→w.cell? (ad.add j)=some u:=by
 intro j u hu;have hj:=(List.getElem?_eq_some_iff.1 hu).1;rw[BH] at hj;have hn:=h.len;obtain ⟨zR,e,hb,hc⟩:=h.at_ (by omega);cases e;obtain ⟨r,hr⟩:∃r,l[j/4]? =some r:=⟨_,List.getElem?_eq_getElem (by omega)⟩
 obtain ⟨g1,g2,g3,g4⟩:=FH l _ r hr;obtain ⟨k1,k2,k3,k4⟩:=hc _ r hr;have hm:j%4=0∨j%4=1∨j%4=2∨j%4=3:=by omega
 rcases hm with hm|hm|hm|hm
 ·have e2:j/4*4=j:=by omega
  rw[e2] at g1 k1;rw[g1] at hu;cases hu;exact k1
 ·have e2:j/4*4+1=j:=by omega
  rw[e2] at g2;rw[g2] at hu;cases hu;rw[←e2,←add_add];exact k2
 ·have e2:j/4*4+2=j:=by omega
  rw[e2] at g3;rw[g3] at hu;cases hu;rw[←e2,←add_add];exact k3
 ·have e2:j/4*4+3=j:=by omega
  rw[e2] at g4;rw[g4] at hu;cases hu;rw[←e2,←add_add];exact k4
theorem bX.dH {w:World} {l:List Nk} {base:Nat} {v:Value} (h:w.ownsRow base 197 4 v l.length (oM l)):
 ∃A c,v= .slice A l.length c∧bX w A l.length c l∧(∀ad,A=some ad→base≤ad.block∧ad.block<w.heap.size):=by
 rcases h.2 with ⟨rfl,hn⟩|⟨g,cap,cur,rfl,hb,hg,hnc,hcm,hcs,ht⟩
 ·have:=List.eq_nil_of_length_eq_zero hn;subst this;exact ⟨none,0,rfl,⟨rfl,aN,by omega,fun hn=>by simp at hn⟩,fun ad e=>by cases e⟩
 ·refine ⟨_,_,rfl,⟨rfl,hnc,by unfold maxLen at hcm;omega,fun _=>⟨_,rfl,lt_of_heap hg,fun j r hr=> ?_⟩⟩,fun ad e=>by cases e;exact ⟨hb,lt_of_heap hg⟩⟩;have hc:=fun j u (hu:(oM l)[j]? =some u)=>h.cells (g:=g) rfl j u hu
  obtain ⟨g1,g2,g3,g4⟩:=FH l j r hr;refine ⟨hc _ _ g1,?_,?_,?_⟩
  ·have:=hc _ _ g2;rw[←add_add] at this;exact this
  ·have:=hc _ _ g3;rw[←add_add] at this;exact this
  ·have:=hc _ _ g4;rw[←add_add] at this;exact this
theorem TP:(Tryz.prog.info? 197).map (fun i=>(i.zero,i.size,i.bytes))=some (some (.agg #[.int .i64 0,.bool false,.int .i64 0,.int .i64 0]),4,32):=by kernel_rfl
theorem rM:∃i,Tryz.prog.info? 197=some i∧i.zero=some (.agg #[.int .i64 0,.bool false,.int .i64 0,.int .i64 0])∧i.size=4∧i.bytes=32:=by
 have h:=TP;cases hi:Tryz.prog.info? 197 with
 |none=>rw[hi] at h;cases h
 |some i=>
  rw[hi] at h;simp only[Option.map_some,Option.some.injEq,Prod.mk.injEq] at h;exact ⟨i,rfl,h.1,h.2.1,h.2.2⟩
theorem uK:Tryz.prog.underlying 131=some (.slice 197):=by kernel_rfl
section
variable {P:Program} (w:World)
theorem Dq (base:Nat) (t ty e:TypeId) (i:TypeInfo) (z:Value) (bytes:Nat) (ht:P.underlying t=some (.slice e)) (hi:P.info? e=some i) (hz:i.zero=some z)
 (hsize:i.size=4) (hby:i.bytes=bytes) (hzs:z.cells.size=4)
 (v:Value) (n:Nat) (xs:List Value) (hown:w.ownsRow base e 4 v n xs)
 (A:Option Addr) (m c:Nat) (l:List Nk) (hr:bX w A m c l)
 (h63:n+m≤maxLen) (hbytes:(n+m)*bytes≤140737488355328) (hbase:base≤w.heap.size):
 ∃v' w',(Builtin.append_ #[t,t] ty #[v,.slice A m c]).run P w= .ok v' w'∧w'.ownsRow base e 4 v' (n+m) (xs++oM l)∧w.grownBy w' v.ownBlock:=by
 rcases A with _|ad
 ·have hm:m=0:=by
   rcases Nat.eq_zero_or_pos m with h0|h0
   ·exact h0
   ·obtain ⟨ad,h,_⟩:=hr.at_ h0;cases h
  subst hm;have hn:l= []:=List.eq_nil_of_length_eq_zero hr.len;subst hn;exact ⟨v,w,jX w base t ty e i 4 ht hi v n xs hown c,by simpa[oM] using hown,World.grownBy.refl w _⟩
 ·obtain ⟨v',w',hrun,h2,h3,_,h5⟩:=run_append_own_at (P:=P) w base t ty e i z 4 bytes ht hi hz hsize hby hzs (by omega) v n xs hown ad m c (oM l) (by rw[BH,hr.len]) hr.cells (TN l) h63 hbytes hbase;exact ⟨v',w',hrun,h2,h3⟩
theorem wF {o:Oper} {a:Act} {K:Act→World→Prop} {Q:Exit→Act→World→Prop} (s x:Operand) (t:TypeId)
 (ho:o.op= .call {callee:= .builtin .append,args:= #[s,x],argTypes:= #[t,t]})
 (base:Nat) (e:TypeId) (i:TypeInfo) (z:Value) (bytes:Nat) (ht:P.underlying t=some (.slice e)) (hi:P.info? e=some i) (hz:i.zero=some z)
 (hsize:i.size=4) (hby:i.bytes=bytes) (hzs:z.cells.size=4)
 (v:Value) (n:Nat) (xs:List Value) (hs:a.eval s=v) (hown:w.ownsRow base e 4 v n xs)
 (A:Option Addr) (m c:Nat) (l:List Nk) (hx:a.eval x= .slice A m c) (hr:bX w A m c l)
 (h63:n+m≤maxLen) (hbytes:(n+m)*bytes≤140737488355328) (hbase:base≤w.heap.size)
 (h:∀v' w',w'.ownsRow base e 4 v' (n+m) (xs++oM l)→w.grownBy w' v.ownBlock→K (a.put o.dst v') w'):o.wp P a w K Q:=by
 obtain ⟨v',w',hrun,h2,h3⟩:=Dq (P:=P) w base t o.type e i z bytes ht hi hz hsize hby hzs v n xs hown A m c l hr h63 hbytes hbase;unfold Oper.wp execOp;simp only[ho,resolve,invoke,builtin,Sem.run_bind,Sem.run_pure,Result.andThen_ok,List.map_toArray,List.map_cons,List.map_nil,hs,hx,hrun];exact h v' w' h2 h3
theorem gZ {ops:Array Oper} {rest:List Oper} {o:Oper} {a:Act} {Q:Exit→Act→World→Prop} (hgd:o.guard=none) (s x:Operand) (t:TypeId)
 (ho:o.op= .call {callee:= .builtin .append,args:= #[s,x],argTypes:= #[t,t]})
 (base:Nat) (e:TypeId) (i:TypeInfo) (z:Value) (bytes:Nat) (ht:P.underlying t=some (.slice e)) (hi:P.info? e=some i) (hz:i.zero=some z)
 (hsize:i.size=4) (hby:i.bytes=bytes) (hzs:z.cells.size=4)
 (v:Value) (n:Nat) (xs:List Value) (hs:a.eval s=v) (hown:w.ownsRow base e 4 v n xs)
 (A:Option Addr) (m c:Nat) (l:List Nk) (hx:a.eval x= .slice A m c) (hr:bX w A m c l)
 (h63:n+m≤maxLen) (hbytes:(n+m)*bytes≤140737488355328) (hbase:base≤w.heap.size)
 (h:∀v' w',w'.ownsRow base e 4 v' (n+m) (xs++oM l)→w.grownBy w' v.ownBlock→wpList P ops Q rest (a.put o.dst v') w'):wpList P ops Q (o::rest) a w:=
 wpList_plain hgd fun _ hK=>wF w s x t ho base e i z bytes ht hi hz hsize hby hzs v n xs hs hown A m c l hx hr h63 hbytes hbase fun v' w' h2 h3=>hK _ _ (h v' w' h2 h3)
end
set_option maxRecDepth 3000 in
set_option maxHeartbeats 400000 in
theorem yR (A:Option Addr) (n c:Nat) (l:List Nk) (w:World) (h:bX w A n c l) (hsm:n≤1000000):
 Calls Tryz.prog 120 #[.slice A n c] w fun e w'=>∃A' c',e= .returned (.slice A' n c')∧bX w' A' n c' l∧(∀ad,A'=some ad→w.heap.size≤ad.block∧ad.block<w'.heap.size)∧Below w.heap.size w w':=by
 have hnil:=fun (W:World)=>Lib.run_eql_slice_nil (P:=Tryz.prog) W 131 197 A n c 0 0 uK
 obtain ⟨i0,hi,hz0,hz1,hz2⟩:=rM;have hl:=h.len;subst hl;have hs1:=h.alloc (.cells #[] 197);rcases A with _|ad
 ·have hl:l= []:=by
   rcases Nat.eq_zero_or_pos l.length with h0|h0
   ·exact List.eq_nil_of_length_eq_zero h0
   ·obtain ⟨_,e,_⟩:=h.at_ h0;cases e
  subst hl;simp only[List.length_nil] at hnil ⊢;clear hs1 h;go_enter Tryz.func120,Tryz.ntmps120;go_wp2;go_ret;exact ⟨none,0,rfl,⟨rfl,aN,by omega,fun hn=>by simp at hn⟩,fun ad e=>(by cases e),Below.refl _ _⟩
 ·go_enter Tryz.func120,Tryz.ntmps120;go_wp2_with (at_builtin;refine gZ _ rfl _ _ 131 rfl w.heap.size 197 i0 (.agg #[.int .i64 0,.bool false,.int .i64 0,.int .i64 0]) 32 uK hi hz0 hz1 hz2 rfl (.slice (some ⟨w.heap.size,0,none⟩) 0 0) 0 [] rfl ?c0 (some ad) l.length c l rfl hs1 ?c3 ?c4 ?c5 ?_)
  case c0=>exact World.ownsRow_lit w #[] 0 (aN) (by unfold maxLen;omega) rfl
  case c3=>unfold maxLen;omega
  case c4=>omega
  case c5=>simp
  intro v' w1 hown' hgrow;go_wp2;go_ret;have hb:Below w.heap.size w w1:=((Below.refl _ w).alloc (aN) _).grown hgrow (by simp) (by simp[Value.ownBlock]);obtain ⟨A',c',rfl,h1,h2⟩:=bX.dH (l:=l) (by simpa using hown');exact ⟨A',c',rfl,h1,h2,hb⟩
set_option maxRecDepth 3000 in
set_option maxHeartbeats 400000 in
theorem PV (F:Fence) (n:Nat) (hF:F.fn 209) (hro:F.round=none) (A:Option Addr) (N c:Nat) (w:World):
 CallsIn F n Tryz.prog 209 #[.slice A N c] w fun e w'=>e= .returned (.func (.func 222) #[] #[.pointer (some ⟨w.heap.size,0,none⟩)])∧w'=w.alloc (.cells #[.slice A N c] 131):=by
 refine callsIn_of_wp Tryz.func209 rfl hF ?_ hro;simp only[Tryz.ntmps209,List.size_toArray,List.length_cons,List.length_nil,Nat.reduceAdd,Nat.reduceSub,Array.replicate_succ,Array.replicate_zero,List.push_toArray,List.append_toArray,List.nil_append,List.cons_append]
 gi_wp2
 go_ret;exact ⟨rfl,rfl⟩
set_option maxRecDepth 3000 in
set_option maxHeartbeats 400000 in
theorem Io (aJ sn:Int) (A:Option Addr) (n c:Nat) (l:List Nk) (w:World) (h:bX w A n c l) (hsm:n≤1000000):
 Calls Tryz.prog 185 #[.agg #[.int .i64 aJ,.slice A n c],.int .i64 sn] w fun e w'=>∃g b A' c',e= .returned (.func (.func 208) #[] #[.pointer (some ⟨g,0,none⟩),.pointer (some ⟨b,0,none⟩)])∧
  au w' g 131 #[.slice A' n c']∧au w' b 3 #[.int .i64 sn]∧bX w' A' n c' l∧(∀ad,A'=some ad→w.heap.size≤ad.block∧ad.block<w'.heap.size)∧w.heap.size≤g∧w.heap.size≤b∧Below w.heap.size w w':=by
 have b0:=au.new w 133 #[.int .i64 aJ,.slice A n c];have b1:=au.new (w.alloc (.cells #[.int .i64 aJ,.slice A n c] 133)) 3 #[.int .i64 sn];have Zx:=b0.alloc (.cells #[.int .i64 sn] 3);have hz:(w.alloc (.cells #[.int .i64 aJ,.slice A n c] 133)).heap.size=w.heap.size+1:=World.size_alloc _ _;rw[hz] at b1;have z0:=Zx.cell 0;have z1:=Zx.cell 1;simp at z0 z1;have hN:=(h.alloc (.cells #[.int .i64 aJ,.slice A n c] 133)).alloc (.cells #[.int .i64 sn] 3);have hB:Below w.heap.size w ((w.alloc (.cells #[.int .i64 aJ,.slice A n c] 133)).alloc (.cells #[.int .i64 sn] 3)):=((Below.refl _ w).alloc (aN) _).alloc (by simp) _;have hcl:=yR A n c l _ hN hsm;have HB:=ah hB;have B1:=ah b1;have ug:=ah hcl;clear b0 b1 Zx hN hB hcl h;go_enter Tryz.func185,Tryz.ntmps185;go_wp2_with fail;refine ug.out.mono ?_;rintro e w1 ⟨A',c',rfl,hN1,hf1,hb1⟩;go_wp2_with fail;go_ret;have hs1:=HB.out.size;refine ⟨w1.heap.size,w.heap.size+1,A',c',rfl,au.new w1 _ _,((B1.out.below hb1 B1.out.lt).alloc _),hN1.alloc _,fun ad e=> ?_,by have:=hb1.size;omega,by omega,(HB.out.trans (hb1.mono hs1)).alloc (by have:=hb1.size;omega) _⟩;have:=hf1 ad e;simp;omega
end
end Go.Proofs.YtbhiklnljiehiaaGreat
