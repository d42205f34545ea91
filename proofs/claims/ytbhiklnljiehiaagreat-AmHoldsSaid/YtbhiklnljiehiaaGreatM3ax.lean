/- amrecv: deliver. -/
import Derived.Test.YtbhiklnljiehiaaGreatM3ar
import Derived.Test.YtbhiklnljiehiaaGreatM3aw
set_option maxHeartbeats 8000000
set_option maxRecDepth 100000
namespace Go.Proofs.YtbhiklnljiehiaaGreat
open RowKit Shelf Tryz
attribute [local go_sem] Oper.semAt_some
section
variable {w w' W W':World} {T T':Nat->Nat} {g M n:Nat} {c:Cf} {st:Rc} {vo v:Value} {base:Nat} {outs:List (List UInt8)}
def amc (w:World) (T:Nat->Nat) (g M n:Nat) (c:Cf) (R:Rc × List (List UInt8)) (e:Ending) (w':World):Prop:=
 ∃T' GR v,e= .returned v/\jo w' T' g M n c R.1 GR/\(∀k,k<w.heap.size->T' k=T k)/\Kept (MT T) w w'/\iO w' w T' v R.2
theorem lX.trans {T2:Nat->Nat} (h:Kept (MT T) w W) (h2:Kept (MT T2) W W') (hT:∀k,k<w.heap.size->T2 k=T k):Kept (MT T) w W':=
 ⟨h2.os.trans h.os,h2.tape.trans h.tape,h2.output.trans h.output,gG h.size h2.size,fun i o hi hn=>h2.same i o (h.same i o hi hn) (fun hm=>hn (by unfold MT at*;rw[<-hT i (lt_of_heap hi)];exact hm))⟩
def DlI (w:World) (T:Nat->Nat) (g M n:Nat) (c:Cf) (st:Rc) (p:Sp) (b:Nat) (vf vd:Value) (N:Nat) (W0:World) (FIN:List UInt8 × Bool × List (List UInt8)) (ob:Nat) (gk:Nat) (s2 s4 s5:Value) (W:World):Prop:=
 ∃(i fr:Nat) (op:List UInt8) (sm:Bool) (outs:List (List UInt8)) (T2:Nat->Nat) (vo2 v2:Value),s2=v2/\s4= .int .i64 (fr:Nat)/\s5= .int .i64 (i:Nat)/\gk+i=N+1/\1<=i/\fr<i/\jo W T2 g M n c {st with op:=op,sm:=sm} vo2/\op.length<=9000/\
  (∀k,k<w.heap.size->T2 k=T k)/\Kept (MT T) w W/\iO W w T2 v2 outs/\FIN=((rU p.fl p.da N gk i fr op sm).1,(rU p.fl p.da N gk i fr op sm).2.1,outs++(rU p.fl p.da N gk i fr op sm).2.2)/\outs.length+gk<=ob/\
  uG W b p vf vd/\T2 b=3*st.next+4/\b≠g/\(∀j,vf.ownBlock=some j->T2 j=3*st.next+5)/\(∀j,vd.ownBlock=some j->T2 j=3*st.next+6)/\W0.heap.size<=W.heap.size
def DlO (w:World) (T:Nat->Nat) (g M n:Nat) (c:Cf) (FIN:Rc × List (List UInt8)) (gk:Nat) (s2 s3:Value) (W:World):Prop:=
 ∃(j:Nat) (st:Rc) (outs:List (List UInt8)) (T2:Nat->Nat) (vo2 v2:Value),s2=v2/\jo W T2 g M n c st vo2/\fM st/\(∀k,k<w.heap.size->T2 k=T k)/\Kept (MT T) w W/\iO W w T2 v2 outs/\
  FIN=((bK gk st).1,outs++(bK gk st).2)/\outs.length+40000*gk<=40000*1024/\j<gk/\dW (st.m ((st.next+j)%1024))=false/\
  ((st.m st.next=none/\s3= .pointer none)\/∃p b vf vd,st.m st.next=some p/\s3= .pointer (some ⟨b,0,none⟩)/\uG W b p vf vd/\T2 b=3*st.next+4/\(∀j,vf.ownBlock=some j->T2 j=3*st.next+5)/\(∀j,vd.ownBlock=some j->T2 j=3*st.next+6))
theorem NM {f:Nat} {st:Rc} (h:dW (st.m st.next)=false):bK f st=(st,[]):=by
 cases f with
 |zero=>rfl
 |succ f=>
  unfold bK;cases hm:st.m st.next with
  |none=>rfl
  |some p=>
   rw[hm] at h;have h2:fP p=false:=h;dsimp only;rw[aP (by rw[h2];simp)]
theorem S8 {f:Nat} {st:Rc} {p:Sp} (hm:st.m st.next=some p) (hc:fP p=true):bK (f+1) st=((bK f (Ah st p)).1,(BQ st p).2.2++(bK f (Ah st p)).2):=by
 rw[bK,hm];dsimp only;rw[bD hc]
theorem V7 {W:World} {gd L cd fr i:Nat} {da:List UInt8} (h:W.ownsRow 0 5 1 (.slice (some ⟨gd,0,none⟩) L cd) L (dz da)) (hl:da.length=L) (hfi:fr<=i) (hi:i<=L) (hL:L<=100000):Sl W W (some ⟨gd,fr,none⟩) (i-fr) (i-fr) (dz ((da.take i).drop fr)):=by
 have hg:=(h.lt gd rfl).2;refine ⟨by rw[ug,kC,kz];omega,aL,by omega,fun _=>⟨_,rfl,hg,fun j u hu=> ?_⟩⟩;rw[Addr.add_lit];have hj:=(pN.1 hu).1;rw[ug,kC,kz] at hj;rw[h.cellAt _ (by omega)];unfold dz at hu ⊢;rw[oW] at hu ⊢;rw[vg,pW,bD (by omega)] at hu;exact hu
theorem Ll (h:jo w T g M n c st vo) (ho:fM st):Calls prog 100 #[.pointer (some g)] w (amc w T g M n c (bK 1024 st)):=by
 obtain ⟨FIN,hF⟩:∃FIN,FIN=bK 1024 st:=⟨_,rfl⟩
 rw[<-hF];have HH:=ah h;have HO:=ah ho;have HF:=ah hF;have hstop:=ho.stops (sn:=st.next) ho.n1;have HST:=ah hstop;have nK:prog.follows .mixedOrders=true:=by kernel_rfl
 have hn1:=ho.n1;obtain ⟨x3,x4,x7,x8,x9,x10,Cb,MC,Xh,Js,Yz,Xi,U3,x18⟩:=h.cells;obtain ⟨v,hl,hv⟩:=h.drew.look hn1;have HV:=ah hv;clear h ho hF hstop hv x3 x4 x9 x10 Cb MC Xh Js Yz Xi U3 x18;go_enter func100,ntmps100;go_upto_region 1 with (fail)
 go_cut [3] (fun s3 wx=>s3=v/\wx=w.drew)
 case first=>
  refine wp_region_still_tail 8 nK (by kernel_rfl) ?_;simp only[kJ,nu,pV,ny]
  repeat still_step
  refine oK ?_;change wpList _ _ _ _ _ w.drew;go_wp2;go_meet;exact ⟨rfl,rfl⟩
 case rest=>
 obtain ⟨rfl,rfl⟩:=hcut;have H0:=ah HH.out.drew;clear hl x7 x8;go_wp2_with fail;go_loopg [2,3] 1024 (fun gk s2 s3 wr=>DlO w T g M n c FIN gk s2 s3 wr)
 case atStart=>
  obtain ⟨j,h1,h2⟩:=HST.out;refine ⟨j,st,[],T,vo,_,rfl,H0.out,HO.out,fun _ _=>rfl,(Kept.refl _ w).drew,iO.nil _ _ _,by rw[HF.out];rfl,by simp,h1,h2,?_⟩;exact HV.out
 case round=>
  obtain ⟨j,st1,outs,T2,vo2,v2,rfl,hR,hok,hT2,hK,hO,hfin,hol,hj,hst,hp⟩:=hrel;have hn2:=hok.n1;have hcm:Calls prog 117 #[u3] wr fun e w'=>e= .returned (.bool (dW (st1.m st1.next)))/\Below wr wr w':=by
   rcases hp with ⟨hm,rfl⟩|⟨p,b,vf,vd,hm,rfl,hs,_⟩
   ·rw[hm];exact yS wr
   ·rw[hm];exact yT hs (hok.m _ p hm).2.2
  obtain ⟨f,rfl⟩:∃f,gk=f+1:=⟨gk-1,by omega⟩
  obtain ⟨vs,hrow,hvt,JO⟩:=hO;obtain ⟨Av,cv,rfl,hsv,-⟩:=aY hrow;have Xb:=ah (show iO wr w T2 (.slice Av outs.length cv) outs from ⟨vs,hrow,hvt,JO⟩);have HR:=ah hR;have IP:=ah hok;have HT2:=ah hT2;have HK:=ah hK;clear hrow hvt JO hsv hR hT2 hK HST HV H0;cases hcc:dW (st1.m st1.next) with
  |false=>
   rw[hcc] at hcm;rw[NM hcc,CB] at hfin;have MN:=ah hfin;have HCM:=ah hcm;clear hfin hcm hcc hst hp hok;go_wp2_with (go_at_call 117;refine HCM.out.mono ?_;rintro e1 w1 ⟨rfl,hb1⟩);go_ret;rw[MN.out];exact ⟨T2,vo2,_,rfl,HR.out.below hb1,HT2.out,lX.trans HK.out (wL hb1) HT2.out,Xb.out.below hb1⟩
  |true=>
   rw[hcc] at hcm;obtain ⟨p,b,vf,vd,hm,rfl,hs,t1,t2,t3⟩:∃p b vf vd,st1.m st1.next=some p/\u3= .pointer (some ⟨b,0,none⟩)/\uG wr b p vf vd/\T2 b=3*st1.next+4/\(∀j,vf.ownBlock=some j->T2 j=3*st1.next+5)/\(∀j,vd.ownBlock=some j->T2 j=3*st1.next+6):=by
    rcases hp with ⟨hm,_⟩|h9
    ·rw[hm] at hcc;cases hcc
    ·exact h9
   have hcs:fP p=true:=by rw[hm] at hcc;exact hcc
   rw[S8 hm hcs] at hfin;obtain ⟨_,_,hsp⟩:=hok.m _ p hm;obtain ⟨N,hN,hN0,hgN⟩:∃N,p.size=some N/\0<N/\om p.fl=N:=by
    unfold fP at hcs;cases hsz:p.size with
    |none=>rw[hsz] at hcs;cases hcs
    |some k=>
     rw[hsz] at hcs;simp only[gD,gY] at hcs;exact ⟨k,rfl,hcs.1,hcs.2⟩
   have hgl:=xu p.fl;have hNL:N<=p.fl.length:=by omega
   have hLb:=hsp.le;have hsI:dY p=(N:Int):=by unfold dY;rw[hN]
   have hsS:CQ p=N:=by unfold CQ;rw[hN];rfl
   have hj0:j≠0:=fun e=>by
    rw[e,uf,ID (by omega),hcc] at hst;cases hst
   have M0:dW ((Ah st1 p).m (((Ah st1 p).next+(j-1))%1024))=false:=by
    show dW (fK st1.m st1.next none ((eD st1.next+(j-1))%1024))=false
    unfold eD fK;rw[show ((st1.next+1)%1024+(j-1))%1024=(st1.next+j)%1024 by omega];split
    ·rfl
    ·exact hst
   have hbg:b≠g:=fun e=>by
    have h8:=HR.out.tg;rw[<-e,t1] at h8;omega
   have hbl:=hs.blk.lt;obtain ⟨FI,hFI⟩:∃FI,FI=((BQ st1 p).1,(BQ st1 p).2.1,outs++(BQ st1 p).2.2):=⟨_,rfl⟩
   have MN:=ah hFI;have UF:=ah hfin;have HCM:=ah hcm;have HM:=ah hm;have HS:=ah hs;have TK:=ah hsp;have amd:=ah M0;have HJ0:=ah hj0;have HJ:=ah hj;have HT1:=ah t1;have HTF:=ah t2;have HTD:=ah t3;have HSI:=ah hsI;have WT:=ah hsS;have HBG:=ah hbg;have ahI:=ah hol;have hop1:=hok.op;have HOP:=ah hop1;clear hFI hfin hcm hcc hst hp hok hm hs hsp M0 hj0 hj t1 t2 t3 hsI hsS hbg hgN hgl hN hcs hol hop1
   go_upto_block 2 with (go_at_call 117;refine HCM.out.mono ?_;rintro e1 w1 ⟨rfl,hb1⟩)
   have hs1:uG w1 b p vf vd:=HS.out.stay (hb1.block b hbl) (fun k hk=>hb1.block k (HS.out.fr.lt k hk).2) (fun k hk=>hb1.block k (HS.out.dr.lt k hk).2);have tY:=HR.out.below hb1;have hK1:=lX.trans HK.out (wL hb1) HT2.out;have RZ:=Xb.out.below hb1;have hwz:=hb1.size;have IQ:=ah hs1;have HR1:=ah tY;have yN:=ah hK1;have HO1:=ah RZ;clear hs1 tY hK1 RZ hb1 HCM HS HR HK Xb;go_wp2_with fail;go_loopg [2,4,5] N (fun gk s2 s4 s5 wq=>DlI w T g M n c st1 p b vf vd N w1 FI (outs.length+N) gk s2 s4 s5 wq)
   case atStart=>
    refine ⟨1,0,st1.op,st1.sm,outs,T2,vo2,_,rfl,rfl,rfl,rfl,aL,by omega,HR1.out,HOP.out,HT2.out,yN.out,HO1.out,?_,aL,IQ.out,HT1.out,HBG.out,HTF.out,HTD.out,aL⟩;rw[MN.out];unfold BQ;rw[WT.out]
   case round=>
    obtain ⟨i,fr,op,sm,tK,T3,vo3,v3,rfl,rfl,rfl,hki,hi1,hfi,hR,hop,hT3,hK,hO,hfin,hol,hs,t1,_,t2,t3,adk⟩:=hrel;obtain ⟨z0,z1,z2⟩:wr.cell? ⟨b,0,none⟩=some vf/\wr.cell? ⟨b,1,none⟩=some vd/\wr.cell? ⟨b,2,none⟩=some (.int .i64 (dY p)):=⟨hs.blk.cell 0,hs.blk.cell 1,hs.blk.cell 2⟩;rw[HSI.out] at z2;have ato:tK.length<=40000*1024+40000:=by have:=ahI.out;omega
    obtain ⟨vs,hrow,hvt,JO⟩:=hO;obtain ⟨Av2,cv2,rfl,hsv,-⟩:=aY hrow;have Vw:=ah (show iO wr w T3 (.slice Av2 tK.length cv2) tK from ⟨vs,hrow,hvt,JO⟩);have HR3:=ah hR;have HT3:=ah hT3;have qR:=ah hK;have GQ:=ah hs;have HA1:=ah t1;have HA2:=ah t2;have Cg:=ah t3;have HOB:=ah hol;have HKI:=ah hki;by_cases hiN:i<=N
    ·obtain ⟨gk',rfl⟩:∃gk',gk=gk'+1:=⟨gk-1,by omega⟩
     have hL0:0<p.fl.length:=by omega
     obtain ⟨gf,cf,rfl,amf,amg,hgf⟩:=AZ hs.fr hL0;have hdl:p.da.length=p.fl.length:=TK.out.ll;have hdr:=hs.dr;rw[hdl] at hdr;obtain ⟨gd,cd,rfl,amh,ami,hgd⟩:=AZ hdr hL0;obtain ⟨A',c',e',hfs⟩:=qV.eu hs.fr;cases e';have hhas:=fun (X:World) (hX:Below wr wr X) (a which:Nat) (ha:a<=100000) (hw:which<3)=>FM (hfs.below hX) a ha which hw
     have Ir:Calls prog 156 #[.slice (some ⟨gf,0,none⟩) p.fl.length cf,.int .i64 (i:Nat),.int .i64 1] wr fun e w'=>e= .returned (.bool (dZ p.fl i).2.1)/\wr=w':=hhas wr (bS _ _) i 1 (by omega) (by omega)
     have M0:Calls prog 156 #[.slice (some ⟨gf,0,none⟩) p.fl.length cf,.int .i64 (fr:Nat),.int .i64 1] wr.drew fun e w'=>e= .returned (.bool (dZ p.fl fr).2.1)/\wr.drew=w':=hhas wr.drew (bS _ _).drew fr 1 (by omega) (by omega)
     have ahK:Calls prog 156 #[.slice (some ⟨gf,0,none⟩) p.fl.length cf,.int .i64 ((i:Int)-1),.int .i64 2] wr.drew fun e w'=>e= .returned (.bool (dZ p.fl (i-1)).2.2)/\wr.drew=w':=by
      have:=hhas wr.drew (bS _ _).drew (i-1) 2 (by omega) (by omega);rw[show ((i-1:Nat):Int)=(i:Int)-1 by omega] at this;exact this
     have V8:=ah Ir;have V9:=ah M0;have ahL:=ah ahK;have lz:=ah hfin;clear hR hT3 hK hs t1 t2 t3 hol hki hhas Ir M0 ahK hfs hdr hfin hrow hvt JO hsv;by_cases CU:i<N/\(dZ p.fl i).2.1=false
     ·obtain ⟨hs1,hs2⟩:=CU;have hfin:=lz.out;rw[rU,bD ⟨hs1,hs2⟩] at hfin;have Ir:=V8.out;rw[hs2] at Ir;have adm:=ah Ir;have Qb:=ah hfin;clear hs2 Ir hfin V8 lz;go_wp2_with (go_at_call 156;refine adm.out.mono ?_;rintro e1 w4 ⟨rfl,rfl⟩)
      go_roundg gk'
      case measure=>omega
      case rel=>
       exact ⟨i+1,fr,op,sm,tK,T3,vo3,_,rfl,rfl,by go_num,by have:=HKI.out;omega,by omega,by omega,HR3.out,hop,HT3.out,qR.out,Vw.out,Qb.out,by have:=HOB.out;omega,GQ.out,HA1.out,HBG.out,HA2.out,Cg.out,adk⟩
     ·have hfin:=lz.out;rw[rU,aP CU] at hfin;obtain ⟨RP,hRP⟩:∃RP,RP=uU ((p.da.take i).drop fr) (dZ p.fl fr).2.1 (decide (i<N)||(dZ p.fl (i-1)).2.2) op sm:=⟨_,rfl⟩
      dsimp only at hfin;rw[<-hRP] at hfin;have Qb:=ah hfin;have Vn:=JN (b:=(p.da.take i).drop fr) (begins:=(dZ p.fl fr).2.1) (last:=decide (i<N)||(dZ p.fl (i-1)).2.2) (sm:=sm) hop;rw[<-hRP] at Vn;obtain ⟨abJ,RI⟩:=Vn;have QH:=ah hRP;have HSK:=ah CU;clear hfin hRP CU lz;go_upto_region 8 with (fail)
      go_cut [50] (fun s50 wx=>s50= .bool false/\wx=wr)
      case first=>
       by_cases NN:i<N
       ·have hfl:(dZ p.fl i).2.1=true:=by
         cases hh:(dZ p.fl i).2.1 with
         |true=>rfl
         |false=>exact absurd ⟨NN,hh⟩ HSK.out
        have Ir:=V8.out;rw[hfl] at Ir;have adm:=ah Ir;clear hfl Ir V8;go_wp2_with (go_at_call 156;refine adm.out.mono ?_;rintro e1 w4 ⟨rfl,rfl⟩);go_meet;exact ⟨rfl,rfl⟩
       ·have atr:¬(i:Int)<(N:Int):=by omega
        go_wp2_with fail;go_meet;exact ⟨rfl,rfl⟩
      case rest=>
      obtain ⟨rfl,rfl⟩:=hcut;generalize wc=wb at*;have hsl:=V7 (GQ.out.dr |> fun h9=>by rw[TK.out.ll] at h9;exact h9) TK.out.ll (fr:=fr) (i:=i) (by omega) (by omega) (by omega);have aaK:∀X,Kept (fun k _=>k=g) wb.drew X->Sl X X.heap.size (some ⟨gd,fr,none⟩) (i-fr) (i-fr) (dz ((p.da.take i).drop fr)):=fun X hX=>by
       have h9:=GQ.out.dr;rw[TK.out.ll] at h9;refine V7 (dw h9 fun k hk=> ?_) TK.out.ll (by omega) (by omega) (by omega);obtain ⟨o,ho⟩:∃o,wb.heap[k]? =some o:=⟨_,rH (h9.lt k hk).2⟩
       rw[ho];refine hX.same k o ho (fun ek=> ?_);have h8:=Cg.out k hk;rw[ek] at h8;have h7:=HR3.out.tg;omega
      have ahM:fM {st1 with op:=op,sm:=sm}:=⟨IP.out.n1,IP.out.n2,IP.out.n3,IP.out.n4,IP.out.m,hop,IP.out.t1,IP.out.t2⟩;have hpt:=S7 HR3.out.drew ahM (some ⟨gd,fr,none⟩) (i-fr) (i-fr) ((p.da.take i).drop fr) (by omega) aaK (dZ p.fl fr).2.1 (decide (i<N)||(dZ p.fl (i-1)).2.2);dsimp only at hpt;rw[<-QH.out] at hpt;have HPT:=ah hpt;have att:¬cd=fr:=by omega
      have atu:¬i=fr:=by omega
      have hq1:(fr:Int)<=(i:Int):=by omega
      have hq2:(i:Int)<=(cd:Int):=by omega
      have hq3:(0:Int)<=(fr:Int):=by omega
      clear hsl aaK ahM hpt QH HSK V8;go_upto_region 9 with (fail)
      go_cut [6,7] (fun s6 s7 wx=>∃(T4:Nat->Nat) (vo4:Value),s7= .bool (!RP.2.2.isEmpty)/\jo wx T4 g M n c {st1 with op:=RP.1,sm:=RP.2.1} vo4/\(∀k,k<wb.heap.size->T4 k=T3 k)/\Kept (fun k _=>k=g) wb wx/\(∀q,RP.2.2= [q]->wx.ownsRow wb 5 1 s6 q.length (dz q)/\∀k,s6.ownBlock=some k->T4 k=0))
      case first=>
       by_cases NN:i<N
       ·have hpt:=HPT.out;rw[iK NN,Bool.true_or] at hpt;have HP2:=ah hpt;have d1:decide (i<N)=true:=iK NN;clear hpt HPT ahL;refine wp_region_noPanic ?_;refine bX (fun w'=>w'.cell? ⟨b,0,none⟩=some (.slice (some ⟨gf,0,none⟩) p.fl.length cf)/\w'.cell? ⟨b,1,none⟩=some (.slice (some ⟨gd,0,none⟩) p.fl.length cd)/\w'.cell? ⟨b,2,none⟩=some (.int .i64 (N:Int))) [30] (by kernel_rfl) ?_;have hHeld:=(show (fun w':World=>w'.cell? ⟨b,0,none⟩=some (.slice (some ⟨gf,0,none⟩) p.fl.length cf)/\w'.cell? ⟨b,1,none⟩=some (.slice (some ⟨gd,0,none⟩) p.fl.length cd)/\w'.cell? ⟨b,2,none⟩=some (.int .i64 (N:Int))) wb.drew from ⟨z0,z1,z2⟩);refine aW 0 ?_;refine aW 1 ?_;refine aW 2 ?_;refine aW 3 ?_;refine jq [8,30] 4 ?_;refine aW 5 ?_;refine aW 6 ?_;refine aW 7 ?_;refine aW 8 ?_;refine aW 9 ?_;refine aW 10 ?_;refine aW 11 ?_;refine jq [14,30] 12 ?_;refine aW 13 ?_;refine aW 15 ?_;refine aW 16 ?_;refine aW 17 ?_;refine aW 18 ?_;refine jq [20,21,29,30] 19 ?_;refine aW 20 ?_;refine aU (i:=14) rfl (by kernel_rfl) (by rfl) (fun K hK=> ?_);go_simp;refine V9.out.mono ?_;rintro e1 w4 ⟨rfl,rfl⟩;refine hK _ _ ⟨z0,z1,z2⟩ ?_;clear hK K hHeld;have hHeld:=(show (fun w':World=>w'.cell? ⟨b,0,none⟩=some (.slice (some ⟨gf,0,none⟩) p.fl.length cf)/\w'.cell? ⟨b,1,none⟩=some (.slice (some ⟨gd,0,none⟩) p.fl.length cd)/\w'.cell? ⟨b,2,none⟩=some (.int .i64 (N:Int))) wb.drew from ⟨z0,z1,z2⟩)
        try simp only[Act.put,gJ]
        refine aW 21 ?_;refine jU 22 ?_;refine jU 23 ?_;refine jU 24 ?_;refine jU 25 ?_;refine jU 26 ?_;refine jU 27 ?_;refine jU 28 ?_;refine aW 29 ?_;refine dB (i:=30) rfl (by kernel_rfl) (by kernel_rfl) (by rfl) (fun K hK=> ?_);go_simp;refine HP2.out.mono ?_;rintro e1 w4 ⟨T4,vo4,vr,rfl,GK,NP,hK4,hq4⟩;refine hK _ _ ?_;clear hK K
        try simp only[Act.put,gJ]
        refine xL 31 ?_;refine xL 32 ?_;refine xL 33 ?_;refine xL 34 ?_;refine xL 35 ?_;refine bW (by kernel_rfl) ?_ _;simp only[NoPanic];go_wp2_with fail;go_meet;exact ⟨T4,vo4,rfl,GK,NP,(Kept.refl _ wb).drew.trans hK4,hq4⟩
       ·have hiE:i=N:=by omega
        have hpt:=HPT.out;rw[iP NN,uP] at hpt;have HP2:=ah hpt;have d1:decide (i<N)=false:=iP NN;have hwi:IntKind.i64.wrap ((i:Int)-1)=(i:Int)-1:=iG _ (by omega);clear hpt HPT hiE;refine wp_region_noPanic ?_;refine bX (fun w'=>w'.cell? ⟨b,0,none⟩=some (.slice (some ⟨gf,0,none⟩) p.fl.length cf)/\w'.cell? ⟨b,1,none⟩=some (.slice (some ⟨gd,0,none⟩) p.fl.length cd)/\w'.cell? ⟨b,2,none⟩=some (.int .i64 (N:Int))) [30] (by kernel_rfl) ?_;have hHeld:=(show (fun w':World=>w'.cell? ⟨b,0,none⟩=some (.slice (some ⟨gf,0,none⟩) p.fl.length cf)/\w'.cell? ⟨b,1,none⟩=some (.slice (some ⟨gd,0,none⟩) p.fl.length cd)/\w'.cell? ⟨b,2,none⟩=some (.int .i64 (N:Int))) wb.drew from ⟨z0,z1,z2⟩);refine aW 0 ?_;refine aW 1 ?_;refine aW 2 ?_;refine aW 3 ?_;refine jq [8,30] 4 ?_;refine aW 5 ?_;refine aW 6 ?_;refine aW 7 ?_;refine aW 8 ?_;refine aW 9 ?_;refine aW 10 ?_;refine aW 11 ?_;refine jq [14,30] 12 ?_;refine aW 13 ?_;refine aW 15 ?_;refine aW 16 ?_;refine aW 17 ?_;refine aW 18 ?_;refine jq [20,21,29,30] 19 ?_;refine aW 20 ?_;refine aU (i:=14) rfl (by kernel_rfl) (by rfl) (fun K hK=> ?_);go_simp;refine V9.out.mono ?_;rintro e1 w4 ⟨rfl,rfl⟩;refine hK _ _ ⟨z0,z1,z2⟩ ?_;clear hK K hHeld;have hHeld:=(show (fun w':World=>w'.cell? ⟨b,0,none⟩=some (.slice (some ⟨gf,0,none⟩) p.fl.length cf)/\w'.cell? ⟨b,1,none⟩=some (.slice (some ⟨gd,0,none⟩) p.fl.length cd)/\w'.cell? ⟨b,2,none⟩=some (.int .i64 (N:Int))) wb.drew from ⟨z0,z1,z2⟩)
        try simp only[Act.put,gJ]
        refine aW 21 ?_;refine aW 22 ?_;refine aW 23 ?_;refine aW 24 ?_;refine jq [28,29,30] 25 ?_;refine aW 26 ?_;refine aW 27 ?_;refine aU (i:=28) rfl (by kernel_rfl) (by rfl) (fun K hK=> ?_);go_simp;refine ahL.out.mono ?_;rintro e1 w4 ⟨rfl,rfl⟩;refine hK _ _ ⟨z0,z1,z2⟩ ?_;clear hK K hHeld;have hHeld:=(show (fun w':World=>w'.cell? ⟨b,0,none⟩=some (.slice (some ⟨gf,0,none⟩) p.fl.length cf)/\w'.cell? ⟨b,1,none⟩=some (.slice (some ⟨gd,0,none⟩) p.fl.length cd)/\w'.cell? ⟨b,2,none⟩=some (.int .i64 (N:Int))) wb.drew from ⟨z0,z1,z2⟩)
        try simp only[Act.put,gJ]
        refine aW 29 ?_;refine dB (i:=30) rfl (by kernel_rfl) (by kernel_rfl) (by rfl) (fun K hK=> ?_);go_simp;refine HP2.out.mono ?_;rintro e1 w4 ⟨T4,vo4,vr,rfl,GK,NP,hK4,hq4⟩;refine hK _ _ ?_;clear hK K
        try simp only[Act.put,gJ]
        refine xL 31 ?_;refine xL 32 ?_;refine xL 33 ?_;refine xL 34 ?_;refine xL 35 ?_;refine bW (by kernel_rfl) ?_ _;simp only[NoPanic];go_wp2_with fail;go_meet;exact ⟨T4,vo4,rfl,GK,NP,(Kept.refl _ wb).drew.trans hK4,hq4⟩
      case rest=>
      obtain ⟨T4,vo4,hs7,GK,NP,hK4,hq4⟩:=hcut;have hkeep:∀k,k≠g->k<wb.heap.size->wc.heap[k]? =wb.heap[k]? :=fun k hk hlt=>by
       obtain ⟨o,ho⟩:∃o,wb.heap[k]? =some o:=⟨_,rH hlt⟩
       rw[ho];exact hK4.same k o ho hk
      have hg3:=HR3.out.tg;have hKm:Kept (MT T3) wb wc:=hK4.mono fun k o e=>by rw[e];unfold MT;omega
      have hwb:=qR.out.size;have hs5:uG wc b p (.slice (some ⟨gf,0,none⟩) p.fl.length cf) (.slice (some ⟨gd,0,none⟩) p.fl.length cd):=GQ.out.stay (hkeep b HBG.out GQ.out.blk.lt) (fun k hk=>hkeep k (fun e=>by have:=HA2.out k hk;rw[e] at this;omega) (GQ.out.fr.lt k hk).2) (fun k hk=>hkeep k (fun e=>by have:=Cg.out k hk;rw[e] at this;omega) (GQ.out.dr.lt k hk).2);have LH:=Vw.out.stay hKm NP;have TI:=lX.trans qR.out hKm HT3.out;have GV:∀k,k<w.heap.size->T4 k=T k:=fun k hk=>(NP k (by omega)).trans (HT3.out k hk)
      have ahN:T4 b=3*st1.next+4:=(NP b GQ.out.blk.lt).trans HA1.out
      have ahO:∀j,(Value.slice (some ⟨gf,0,none⟩) p.fl.length cf).ownBlock=some j->T4 j=3*st1.next+5:=fun j hj=>(NP j (GQ.out.fr.lt j hj).2).trans (HA2.out j hj)
      have ahP:∀j,(Value.slice (some ⟨gd,0,none⟩) p.fl.length cd).ownBlock=some j->T4 j=3*st1.next+6:=fun j hj=>(NP j (GQ.out.dr.lt j hj).2).trans (Cg.out j hj)
      have aml:w1.heap.size<=wc.heap.size:=gG adk hK4.size;have CO:=ah GK;have HS5:=ah hs5;have HO5:=ah LH;have zw:=ah TI;have LM:=ah GV;have HB1:=ah ahN;have HB2:=ah ahO;have HB3:=ah ahP;have rE:=Qb.out;subst hs7;clear GK NP hK4 hkeep hKm hs5 LH TI GV ahN ahO ahP HR3 GQ Vw qR HT3 HA1 HA2 Cg V9 Qb;cases hro:RP.2.2 with
      |nil=>
       rw[hro] at rE;rw[pY] at rE;have PS:=ah rE;clear rE hq4 hro RI;generalize RP.1=op9 at*;generalize RP.2.1=sm9 at*;rw[show (!([]:List (List UInt8)).isEmpty)=false from rfl];go_wp2_with fail
       go_roundg gk'
       case measure=>omega
       case rel=>
        exact ⟨i+1,i,op9,sm9,tK,T4,vo4,_,rfl,rfl,by go_num,by have:=HKI.out;omega,by omega,by omega,CO.out,abJ,LM.out,zw.out,HO5.out,PS.out,by have:=HOB.out;omega,HS5.out,HB1.out,HBG.out,HB2.out,HB3.out,aml⟩
      |cons q r=>
       have hr0:r= []:=by
        rw[hro] at RI;simp at RI;exact RI
       subst hr0;obtain ⟨hqr,Ot⟩:=hq4 q hro;rw[hro] at rE;rw[<-oJ] at rE;obtain ⟨Aq,cq,rfl,hsq,-⟩:=aY hqr;obtain ⟨vs9,Rk,Wd,Wh⟩:=HO5.out;obtain ⟨j0,hj0,hm0,hm1,hm2⟩:=vz uq;have PS:=ah rE;have HQR:=ah hqr;have HQT:=ah Ot;clear rE hq4 hro RI hqr Ot hsq;generalize RP.1=op9 at*;generalize RP.2.1=sm9 at*;rw[show (![q].isEmpty)=true from rfl];go_wp2_with (at_builtin;refine nG _ rfl (.tmp 86) (.tmp 88) 37 rfl w 31 j0 (.slice none 0 0) 24 wE hj0 hm0 hm1 hm2 rfl _ tK.length vs9 rfl (Rk.alloc _) _ (some ⟨wc,0,none⟩) 1 1 [.slice Aq q.length cq] rfl (BK (xs:= [.slice Aq q.length cq]) (sN wc _) rfl (by simp)) (by simp[Value.oneCell']) ?c2 ?c3 ?c4 ?_)
       case c2=>unfold maxLen;omega
       case c3=>omega
       case c4=>have:=zw.out.size;simp;omega
       intro v6 w6 hown6 wU hv6;have hfr:∀k,wc.heap.size<=k->T4 k=0:=fun k hk=>by
        rcases oV (T4 k) with e|e
        ·exact e
        ·have:=CO.out.lt k (by omega);omega
       have ahQ:∀k,v6.ownBlock=some k->T4 k=0:=fun k hk=>by
        rcases hv6 with e|e
        ·exact Wd k (e ▸ hk)
        ·rw[e] at hk;cases hk;exact hfr _ (by simp)
       have Oj:=iO.push Rk Wd Wh (bF HQR.out hwb) HQT.out hown6 wU ahQ;have Mj:=(CO.out.alloc (.cells #[.slice Aq q.length cq] 31)).grown wU Wd;have hsA:=HS5.out.stay (w':=wc.alloc (.cells #[.slice Aq q.length cq] 31)) (yA wc _ b HS5.out.blk.lt) (fun k hk=>yA wc _ k (HS5.out.fr.lt k hk).2) (fun k hk=>yA wc _ k (HS5.out.dr.lt k hk).2);have hne:∀k,T4 k≠0->some k≠(Value.slice Av2 tK.length cv2).ownBlock:=fun k hk e=>hk (Wd k e.symm)
       have hs6:=hsA.stay (w':=w6) (wU.block b hsA.blk.lt (hne b (by rw[HB1.out];omega))) (fun k hk=>wU.block k (hsA.fr.lt k hk).2 (hne k (by rw[HB2.out k hk];omega))) (fun k hk=>wU.block k (hsA.dr.lt k hk).2 (hne k (by rw[HB3.out k hk];omega)));have hK6:=(zw.out.alloc (.cells #[.slice Aq q.length cq] 31)).grown wU (fun k e o ho=>by have:=(Rk.lt k e).1;have:=lt_of_heap ho;omega);have amo:w1.heap.size<=w6.heap.size:=by have:=wU.size;simp at this;omega
       have HO6:=ah Oj;have ZZ:=ah Mj;have HS6:=ah hs6;have zu:=ah hK6;obtain ⟨A6,c6,rfl,-,-⟩:=aY hown6;clear hfr ahQ Oj Mj hsA hne hs6 hK6 hown6 wU hv6 Rk Wd Wh CO HS5 HO5 zw;go_wp2_with fail
       go_roundg gk'
       case measure=>omega
       case rel=>
        refine ⟨i+1,i,op9,sm9,tK++ [q],T4,vo4,_,rfl,rfl,by go_num,by have:=HKI.out;omega,by omega,by omega,ZZ.out,abJ,LM.out,zu.out,HO6.out,PS.out,?_,HS6.out,HB1.out,HBG.out,HB2.out,HB3.out,amo⟩;have:=HOB.out;rw[l8,Ep];omega
    ·have Sr:gk=0:=by omega
     subst Sr;have NN:¬(i:Int)<=(N:Int):=by omega
     have rE:=hfin;unfold rU at rE;dsimp only at rE;rw[CB] at rE;have SY:=MN.out;rw[rE] at SY;simp only[BA] at SY;obtain ⟨he1,he2,he3⟩:=SY;obtain ⟨y3,y4,y7,y8,y9,KQ,Vk,Bt,y13,Jg,Oo,CZ,UH,Ku⟩:=hR.cells;have HE1:=ah he1;have HE2:=ah he2;have HE3:=ah he3;obtain ⟨F,hF1,hF2⟩:=hR.drew.mp;have XE:=ah hF1;have HFM:=ah hF2;have hn9:st1.next<=1023:=hn2
     clear hfin rE he1 he2 he3 hR hT3 hK hs t1 t2 t3 hol hki hrow hvt JO hsv hF1 hF2 y3 y4 y9 KQ Vk Bt y13 Jg Oo CZ UH Ku hfi hi1 adk;go_upto_region 13 with (fail)
     refine wp_region_still_tail 8 nK (by kernel_rfl) ?_;simp only[kJ,nu,pV,ny]
     repeat still_step
     refine oK ?_;change wpList _ _ _ _ _ wr.drew;refine AV _ rfl _ _ 128 3 rfl 161 AX Ea M n F rfl XE.out st1.next rfl (by omega) ?_
     intro w5 hF5 hg5;have hm5:=HM.out;have vJ:jo w5 T3 g M n c {{st1 with op:=op,sm:=sm} with m:=fK st1.m st1.next none} vo3:=HR3.out.drew.Zp hg5 hF5 fun k=>by
      have hkk:=HFM.out k;unfold fK KF;by_cases e:k=st1.next
      ·rw[bD e,bD e];exact ⟨fun _=>rfl,fun _ hh=>by cases hh⟩
      ·rw[aP e,aP e];exact hkk
     have Mj:=vJ.put 8 (.int .i64 (eD st1.next:Nat)) (st':= {st1 with op:=op,sm:=sm,m:=fK st1.m st1.next none,next:=eD st1.next}) rfl rfl rfl;have hTM:=HR3.out.tM;have hTG:=HR3.out.tg;have hK6:Kept (MT T) w w5:=lX.trans qR.out ((Kept.refl _ wr).drew.grown hg5 (fun k e o ho=>by cases e;unfold MT;omega)) HT3.out;have hTg:T g=1:=HH.out.tg;have UI:=hK6.setCell (p:=⟨g,8,none⟩) (fun o _=>by unfold MT;show T g≠0;omega) (.int .i64 (eD st1.next:Nat));have LH:iO w5 w T3 (.slice Av2 tK.length cv2) tK:=Vw.out.stay ((Kept.refl _ wr).drew.grown hg5 (fun k e o ho=>by cases e;show T3 M≠0;omega)) (fun k _=>rfl);have QT:iO (w5.setCell ⟨g,8,none⟩ (.int .i64 (eD st1.next:Nat))) w T3 (.slice Av2 tK.length cv2) tK:=LH.stay ((Kept.refl _ w5).setCell (p:=⟨g,8,none⟩) (fun o _=>by show T3 g≠0;omega) (.int .i64 (eD st1.next:Nat))) (fun k _=>rfl);have hand:bits BinOp.and IntKind.i64 ((st1.next:Int)+1) 1023=((eD st1.next:Nat):Int):=by rw[wK];unfold eD;omega
     have y8':w5.cell? ⟨g,8,none⟩=some (.int .i64 (st1.next:Nat)):=vJ.cells.2.2.2.1;have f8:=vJ.blk.frozen 8;have HR7:=ah Mj;have HO7:=ah QT;have TJ:=ah UI;clear y7 y8 vJ hK6 UI LH QT Mj hTM hTG hTg hm5 hF5 hg5 Vw qR HR3 XE HFM hiN NN;go_upto_region 3 with (fail)
     generalize w5.setCell ⟨g,8,none⟩ (.int .i64 (eD st1.next:Nat))=w7 at*;have hs7:({st1 with op:=op,sm:=sm,m:=fK st1.m st1.next none,next:=eD st1.next}:Rc)=Ah st1 p:=by rw[HE1.out,HE2.out];rfl
     have Oq:=HR7.out;rw[hs7] at Oq;have adn:fM (Ah st1 p):=IP.out.one HM.out;have hfn:=UF.out;rw[<-oJ,<-HE3.out] at hfn;have hn7:=adn.n1;obtain ⟨v7,hl7,hv7⟩:=Oq.drew.look hn7;obtain ⟨_,_,y7,y8,_⟩:=Oq.cells;have HR8:=ah Oq;have amq:=ah adn;have amr:=ah hfn;have HV8:=ah hv7;clear hs7 Oq adn hfn hv7 f8 y8' hand HR7 IP UF;refine wp_region_still_tail 8 nK (by kernel_rfl) ?_;simp only[kJ,nu,pV,ny]
     repeat still_step
     refine oK ?_;change wpList _ _ _ _ _ w7.drew;generalize Ah st1 p=st2 at*;go_wp2_with fail
     go_roundg f
     case measure=>omega
     case rel=>
      refine ⟨j-1,st2,tK,T3,vo3,_,rfl,HR8.out.drew,amq.out,HT3.out,TJ.out.drew,HO7.out.drew,amr.out,?_,?_,amd.out,?_⟩
      ·have h1:=HOB.out;have h2:=ahI.out;omega
      ·have h1:=HJ.out;have h2:=HJ0.out;omega
      ·exact HV8.out
end
section
structure PD (B:Nat) (J:Nat->World->Prop):Prop where
 own:OwnFrom B J
 fresh:∀k A A',J k A->Below A.heap.size A A'->J k A'
theorem PD.mono {B B':Nat} {J:Nat->World->Prop} (h:PD B J) (hB:B<=B'):PD B' J:=
 ⟨fun s A A' row hs hg hr=>h.own s A A' row hs hg (fun r e=>⟨gG hB (hr r e).1,(hr r e).2⟩),h.fresh⟩
def Ve (n:Nat) (P:Program) (g:Nat) (lb:Array Value) (vals:Nat->Array Value) (N:Nat) (Kp:World->World->Prop) (w:World):Prop:=
 ∀(l:Nat) (J:Nat->World->Prop) (W:World),Below w w W->w.heap.size+2<=W.heap.size->PD W J->
  (∀k W1,k<N->J k W1->YieldAt Fence.wide (n-1) P l (vals k) W1 fun e W'=>e= .returned (.bool true)/\J (k+1) W'/\Kp W1 W')->J 0 W->
  CallsIn Fence.wide n P g (#[.func (.yield l) #[] #[]]++lb) W fun e W'=>(∃v,e= .returned v)/\J N W'
def PE (B:Nat) (Kp:World->World->Prop) (I:Nat->World->Prop) (k:Nat) (W0 W:World):Exit->Act->World->Prop
 | .normal,_,W'=>KeepsFrom B W W'/\Kp W0 W'/\I k W'
 |_,_,_=>False
theorem YE (k:Nat):Fence.wide.room k:=fun d h=>by cases h
variable {n:Nat} {P:Program}
theorem RoundIn.ix {m m':Nat} {P:Program} {l l':Nat} {f:FuncId} {tmps:Array Value} {assign body:Code} {w:World} {R:Ending->World->Prop}
 (h:RoundIn Fence.wide m P l f tmps assign body w R):RoundIn (Fence.wide.inRound l') m' P l f tmps assign body w R:=⟨h.1,fun c cs _=>h.2 c cs (YE _)⟩
theorem yo {g:Operand} {ps:Array Tmp} {assign body:Code} {Q:Exit->Act->World->Prop} {a:Act} {w:World}
 {gf:Nat} {lb:Array Value} (hg:a.eval g= .func (.func gf) #[] lb) (eg:∀args w,(callFunc gf args).run P w= .ok (.enter gf args) w)
 {vals:Nat->Array Value} {N:Nat} {Kp:World->World->Prop} {w0:World} (hseq:Ve (n-1) P gf lb vals N Kp w0)
 (hKt:∀{A B C:World},Kp A B->Kp B C->Kp A C) (hKb:∀(W:World) (o o':Obj),W.heap[w.heap.size+1]? =some o->o.isCells=false->Kp W (W.putObj (w.heap.size+1) o')) (hb0:Below w0 w0 w)
 (hps:∀k,(vals k).size=ps.size) (I:Nat->World->Prop) (hI:PD w.heap.size I) (h0:I 0 w)
 (acf:∀(l k:Nat) (W:World),k<N->I k W->(∃o,W.heap[w.heap.size+1]? =some o/\o.isCells=false)->
  assign.wpIn (Fence.wide.inRound l) (n-1-1) P (Exit.then (fun a' W'=>KeepsFrom w.heap.size W W'/\
   ∀W2 o',W2=W'.putObj (w.heap.size+1) o'->body.wpIn (Fence.wide.inRound l) (n-1-1) P (PE w.heap.size Kp I (k+1) W W2) a' W2) (fun _ _ _=>False))
   {tmps:=(ps.zip (vals k)).foldl (fun t (p,v)=>t.setIfInBounds p v) a.tmps,defers:= []} W)
 (hdone:∀(D:Nat) (W:World),w.heap.size<=D->I N W->W.heap[D]? =some (.deferred (some []))->Q .normal {a with defers:= {target:= .collected D,args:= #[]}::a.defers} W):
 (Code.rangeFunc g ps assign body).wpIn Fence.wide n P Q a w:=by
 refine wpIn_rangeFunc fun fn hfn=> ?_
 rw[show Fence.wide.round=none from rfl]
 let R:LoopState->Loop:=fun st=> {state:=st,pending:=none,fn,tmps:=a.tmps,params:=ps,assign,body,defers:=w.heap.size}
 let W1:=(w.alloc (.deferred (some []))).alloc (.loop (R .ready))
 have hsz:W1.heap.size=w.heap.size+2:=by simp[W1]
 have hL1:W1.heap[w.heap.size+1]? =some (.loop (R .ready)):=by
  have:=World.alloc_heap_new (w.alloc (.deferred (some []))) (.loop (R .ready));rwa [mZ] at this
 have hD1:W1.heap[w.heap.size]? =some (.deferred (some [])):=(yA _ _ _ (by simp)).trans (World.alloc_heap_new w _);have hBW:Below w0 w0 W1:=hb0.trans ((((bS _ w).alloc (aL) _).alloc (by simp) _).mono hb0.size)
 let J:Nat->World->Prop:=fun k W=>I k W/\W.heap[w.heap.size+1]? =some (.loop (R .ready))/\W.heap[w.heap.size]? =some (.deferred (some []))
 have hJ:PD W1 J:=by
  refine ⟨fun k A B row hs hgr hr=> ?_,fun k A A' hs hb=> ?_⟩
  ·refine ⟨hI.own k A B row hs.1 hgr (fun r e=>⟨by have:=(hr r e).1;omega,(hr r e).2⟩),?_,?_⟩
   ·exact (hgr.block _ (uZ.1 hs.2.1).1 (fun e=>by have:=(hr _ e.symm).1;omega)).trans hs.2.1
   ·exact (hgr.block _ (uZ.1 hs.2.2).1 (fun e=>by have:=(hr _ e.symm).1;omega)).trans hs.2.2
  ·exact ⟨hI.fresh k A A' hs.1 hb,(hb.block _ (uZ.1 hs.2.1).1).trans hs.2.1,(hb.block _ (uZ.1 hs.2.2).1).trans hs.2.2⟩
 refine ⟨w.heap.size+1,[{target:= .collected w.heap.size,args:= #[]}],W1,{target:= .fn (.func gf) lb,args:= #[.func (.yield (w.heap.size+1)) #[] #[]]},W1,gf,
  #[.func (.yield (w.heap.size+1)) #[] #[]]++lb,W1,run_enterLoop_outer _ _ _ _ _,?_,?_,?_,(fun hh=>(by cases hh)),?_⟩
 ·simp only[resolve,hg];simp[go_sem]
 ·intro f' hf';simp[Target.leads] at hf';subst hf';exact trivial
 ·simp[invoke,go_sem,eg]
 refine (hseq (w.heap.size+1) J W1 hBW (by have:=hb0.size;omega) hJ (fun k W hk hjk=> ?_) ⟨hI.fresh _ _ _ h0 (((bS _ w).alloc (aL) _).alloc (by simp) _),hL1,hD1⟩).mono ?_
 ·
  obtain ⟨hi,hl,hd⟩:=hjk;refine ⟨fn,_,assign,body,run_yield (P:=P) (args:=vals k) hl (hps k),roundIn_of_wpIn hfn ?_⟩;refine wpIn_mono (acf _ k W hk hi ⟨_,hl,rfl⟩) ?_;rintro ex a2 W2 hp;cases ex with
  |normal=>
   obtain ⟨hk2,hbd⟩:=hp;have hl2:=hk2.same _ _ (by omega) hl rfl;have hd2:=hk2.same _ _ (aL) hd rfl;refine ⟨_,run_beginRound hl2 rfl,?_⟩;have hlb:(W2.putObj (w.heap.size+1) (.loop (R .busy))).heap[w.heap.size+1]? =some (.loop (R .busy)):=Iw (uZ.1 hl2).1;have hdb:(W2.putObj (w.heap.size+1) (.loop (R .busy))).heap[w.heap.size]? =some (.deferred (some [])):=(GX (by omega)).trans hd2;refine wpIn_mono (hbd _ _ rfl) ?_;rintro ex a3 W3 hp;cases ex with
   |normal=>
    obtain ⟨hk3,hkp,hi3⟩:=hp;have hl3:=hk3.same _ _ (by omega) hlb rfl;have hd3:=hk3.same _ _ (aL) hdb rfl;refine ⟨_,_,run_endRound (P:=P) none hl3,rfl,⟨hI.own.putObj _ hi3 (by omega) hl3 rfl,Iw (uZ.1 hl3).1,(GX (by omega)).trans hd3⟩,?_⟩;exact hKt hkp (hKb _ _ _ hl3 rfl)
   |ret=>exact hp.elim
   |exit id=>exact hp.elim
   |goto t=>exact hp.elim
   |panic ch=>exact hp.elim
   |outgrown=>exact hp.elim
  |ret=>exact hp.elim
  |exit id=>exact hp.elim
  |goto t=>exact hp.elim
  |panic ch=>exact hp.elim
  |outgrown=>exact hp.elim
 ·rintro e W2 ⟨⟨v,rfl⟩,hi,hl,hd⟩;exact ⟨none,_,run_endLoop (P:=P) hl (by simp[R]),hdone _ _ (aL) (hI.own.putObj _ hi (by omega) hl rfl) ((GX (by omega)).trans hd)⟩
end
theorem cell_of_heap {w w':World} {b:Nat} (h:w'.heap[b]? =w.heap[b]?) (off:Nat) (x:Option Nat):w'.cell? ⟨b,off,x⟩=w.cell? ⟨b,off,x⟩:=Ei (a:=⟨b,off,x⟩) h
theorem dD.same {w w':World} {A:Option Addr} {n c:Nat} {l:List Nk} (h:dD w A n c l) (hs:w.heap.size<=w'.heap.size) (hb:∀ad,A=some ad->w'.heap[ad.block]? =w.heap[ad.block]?):dD w' A n c l:=
 ⟨h.len,h.cap,h.mx,fun hn=>by
  obtain ⟨ad,e,hlt,hc⟩:=h.at_ hn;refine ⟨ad,e,zD hlt hs,fun j r hr=> ?_⟩;obtain ⟨k0,k1,k2,k3⟩:=hc j r hr;have hbk:w'.heap[(ad.add (j*4)).block]? =w.heap[(ad.add (j*4)).block]? :=by rw[block_add];exact hb ad e
  exact ⟨(Ei (a:=ad.add (j*4)) hbk).trans k0,(cell_of_heap hbk _ _).trans k1,(cell_of_heap hbk _ _).trans k2,(cell_of_heap hbk _ _).trans k3⟩⟩
theorem dD.kept {w w':World} {A:Option Addr} {n c:Nat} {l:List Nk} {M:Nat->Obj->Prop} (h:dD w A n c l) (hk:Kept M w w') (hM:∀ad,A=some ad->∀o,¬M ad.block o) (hlt:∀ad,A=some ad->ad.block<w.heap.size):dD w' A n c l:=
 h.same hk.size fun ad e=>by
  have hl:=hlt ad e;have h1:=rH hl;rw[hk.same _ _ h1 (hM ad e _),h1]
theorem Kept.eZ {M:Nat->Obj->Prop} {w w':World} (h:Below w w w'):Kept M w w':=
 ⟨h.os,h.tape,h.output,h.size,fun k _o hk _=>(h.block k (uZ.1 hk).1).trans hk⟩
def Ed (l:List Nk) (k:Nat):Array Value:= #[.int .i64 (k:Int),match l[k]? with
 |some x=> .agg (nU x)
 |none=>undef]
theorem YF (n:Nat) (g:Nat) (A:Option Addr) (N c:Nat) (l:List Nk) (M:Nat->Obj->Prop) (w:World)
 (hg:av w g 131 #[.slice A N c]) (hv:dD w A N c l) (hlo:∀ad,A=some ad->ad.block<w.heap.size) (hMg:¬M g (.cells #[.slice A N c] 131 (0,0))) (XB:∀ad,A=some ad->∀o,¬M ad.block o):
 Ve n prog 222 #[.pointer (some g)] (Ed l) N (Kept M) w:=fun p J W hW _ hJ hY h0=>by
 have hg':=hg.below hW hg.lt;have hv':=hv.below hW;have hlt':∀ad,A=some ad->ad.block<W.heap.size:=fun ad e=>zD (hlo ad e) hW.size
 have hvk:∀wr,Kept M W wr->dD wr A N c l:=fun wr hk=>hv'.kept hk XB hlt'
 have HVK:=ah hvk;have HY:=ah hY;have HJ:=ah hJ;have hlen:=hv.len;have hcap:=hv.cap;have hmx:=hv.mx;have HL:=ah hlen;clear hvk hY hJ hlen;refine Ev func222 rfl trivial ?_ rfl;simp only[ntmps222,vP,jh,gQ,Nat.reduceAdd,Nat.reduceSub,zA,zz,zF,zB,pY,qJ];have hcw:=hg'.cell 0;simp at hcw
 gi_wp2
 gi_loopw [7] (fun i wr=>∃k:Nat,k<=N/\i= .int .i64 k/\J k wr/\Kept M W wr) (fun i _=>N-(intOf i).toNat)
 case atStart=>exact ⟨0,eH _,by simp,h0,Kept.refl _ _⟩
 case round=>
  obtain ⟨k,hk,rfl,hJs,hnx⟩:=hrel;by_cases hlt:k<N
  ·obtain ⟨x,hx⟩:∃x,l[k]? =some x:=⟨_,gX (by have:=HL.out;omega)⟩
   have ZR:=HVK.out wr hnx;obtain ⟨ad,rfl,FC,hcl⟩:=ZR.at_ (by omega);obtain ⟨k0,k1,k2,k3⟩:=hcl k x hx;clear hcl ZR;have b1:=av.new wr 197 (nU x);have y0:(wr.alloc (.cells (nU x) 197)).cell? ⟨wr.heap.size,0,none⟩=some (.int .i64 x.sn):=b1.cell 0;have y1:(wr.alloc (.cells (nU x) 197)).cell? ⟨wr.heap.size,1,none⟩=some (.bool x.part):=b1.cell 1;have y2:(wr.alloc (.cells (nU x) 197)).cell? ⟨wr.heap.size,2,none⟩=some (.int .i64 x.fr):=b1.cell 2;have y3:(wr.alloc (.cells (nU x) 197)).cell? ⟨wr.heap.size,3,none⟩=some (.int .i64 x.lt):=b1.cell 3;have hbw:Below wr.heap.size wr (wr.alloc (.cells (nU x) 197)):=(bS _ wr).alloc (aL) _;have Qz:=HY.out k _ hlt (HJ.out.fresh k wr _ hJs hbw);have hnx2:Kept M W (wr.alloc (.cells (nU x) 197)):=hnx.trans (Kept.eZ hbw);have Jh:=ah hnx2;have HX:=ah hx;unfold Ed at Qz;rw[hx] at Qz;unfold nU at*;obtain ⟨fn,tmps,assign,body,hy,hR⟩:=Qz;simp only[] at hy;clear b1 hx hnx2 hbw hnx
   gi_wp2
   refine ⟨fun hh=>(by cases hh),hR.mono ?_⟩;rintro e W3 ⟨rfl,hJ3,hk3⟩
   gi_wp2
   go_roundw
   case rel=>exact ⟨k+1,by omega,by go_num,hJ3,Jh.out.trans hk3⟩
   case measure=>simp[intOf];omega
  ·have e:k=N:=by omega
   have OA:J N wr:=by rw[e] at hJs;exact hJs
   clear e hJs
   gi_wp2
   go_end0
   exact ⟨⟨_,rfl⟩,OA⟩
def si (l:List Nk):List Value:=l.flatMap (fun r=> [.int .i64 r.sn,.bool r.part,.int .i64 r.fr,.int .i64 r.lt])
theorem FT (l:List Nk):(si l).length=l.length*4:=by
 induction l with
 |nil=>rfl
 |cons r t ih=>
  simp only[si,List.flatMap_cons,l8,jh,gQ] at ih ⊢;omega
theorem M7 (r:Nk) (t:List Nk):si (r::t)= .int .i64 r.sn:: .bool r.part:: .int .i64 r.fr:: .int .i64 r.lt::si t:=by simp[si]
theorem KJ:∀(l:List Nk) (j:Nat) (r:Nk),l[j]? =some r->(si l)[j*4]? =some (.int .i64 r.sn)/\(si l)[j*4+1]? =some (.bool r.part)/\(si l)[j*4+2]? =some (.int .i64 r.fr)/\(si l)[j*4+3]? =some (.int .i64 r.lt)
 | [],j,r,h=>by simp at h
 |x::t,0,r,h=>by
  simp at h;subst h;rw[M7];exact ⟨rfl,rfl,rfl,rfl⟩
 |x::t,j+1,r,h=>by
  have ih:=KJ t j r (by simpa using h);rw[M7];rw[show (j+1)*4=j*4+1+1+1+1 by omega];exact ih
theorem YG (l:List Nk):∀u∈si l,u.oneCell'=true:=by
 intro u hu;simp only[si,List.mem_flatMap,nE,Dp,uQ] at hu;obtain ⟨r,_,rfl|rfl|rfl|rfl⟩:=hu<;>rfl
theorem dD.cells {w:World} {ad:Addr} {n c:Nat} {l:List Nk} (h:dD w (some ad) n c l):∀j u,(si l)[j]? =some u->w.cell? (ad.add j)=some u:=by
 intro j u hu;have hj:=(pN.1 hu).1;rw[FT] at hj;have hn:=h.len;obtain ⟨Ew,e,hb,hc⟩:=h.at_ (by omega);cases e;obtain ⟨r,hr⟩:∃r,l[j/4]? =some r:=⟨_,gX (by omega)⟩
 obtain ⟨g1,g2,g3,g4⟩:=KJ l _ r hr;obtain ⟨k1,k2,k3,k4⟩:=hc _ r hr;have hm:j%4=0\/j%4=1\/j%4=2\/j%4=3:=by omega
 rcases hm with hm|hm|hm|hm
 ·have e2:j/4*4=j:=by omega
  rw[e2] at g1 k1;rw[g1] at hu;cases hu;exact k1
 ·have e2:j/4*4+1=j:=by omega
  rw[e2] at g2;rw[g2] at hu;cases hu;rw[<-e2,<-add_add];exact k2
 ·have e2:j/4*4+2=j:=by omega
  rw[e2] at g3;rw[g3] at hu;cases hu;rw[<-e2,<-add_add];exact k3
 ·have e2:j/4*4+3=j:=by omega
  rw[e2] at g4;rw[g4] at hu;cases hu;rw[<-e2,<-add_add];exact k4
theorem dD.eu {w:World} {l:List Nk} {base:Nat} {v:Value} (h:w.ownsRow base 197 4 v l.length (si l)):
 ∃A c,v= .slice A l.length c/\dD w A l.length c l/\(∀ad,A=some ad->base<=ad.block/\ad.block<w.heap.size):=by
 rcases h.2 with ⟨rfl,hn⟩|⟨g,cap,cur,rfl,hb,hg,hnc,hcm,hcs,ht⟩
 ·have:=nV hn;subst this;exact ⟨none,0,rfl,⟨rfl,aL,by omega,fun hn=>by simp at hn⟩,fun ad e=>by cases e⟩
 ·refine ⟨_,_,rfl,⟨rfl,hnc,by unfold maxLen at hcm;omega,fun _=>⟨_,rfl,lt_of_heap hg,fun j r hr=> ?_⟩⟩,fun ad e=>by cases e;exact ⟨hb,lt_of_heap hg⟩⟩;have hc:=fun j u (hu:(si l)[j]? =some u)=>h.cells (g:=g) rfl j u hu
  obtain ⟨g1,g2,g3,g4⟩:=KJ l j r hr;refine ⟨hc _ _ g1,?_,?_,?_⟩
  ·have:=hc _ _ g2;rw[<-add_add] at this;exact this
  ·have:=hc _ _ g3;rw[<-add_add] at this;exact this
  ·have:=hc _ _ g4;rw[<-add_add] at this;exact this
theorem YH:(prog.info? 197).map (fun i=>(i.zero,i.size,i.bytes))=some (some (.agg #[.int .i64 0,.bool false,.int .i64 0,.int .i64 0]),4,32):=by kernel_rfl
theorem wN:∃i,prog.info? 197=some i/\i.zero=some (.agg #[.int .i64 0,.bool false,.int .i64 0,.int .i64 0])/\i.size=4/\i.bytes=32:=by
 have h:=YH;cases hi:prog.info? 197 with
 |none=>rw[hi] at h;cases h
 |some i=>
  rw[hi] at h;simp only[G8,sj,BA] at h;exact ⟨i,rfl,h.1,h.2.1,h.2.2⟩
theorem yV:prog.underlying 131=some (.slice 197):=by kernel_rfl
section
variable {P:Program} (w:World)
theorem Ii (base:Nat) (t ty e:TypeId) (i:TypeInfo) (z:Value) (bytes:Nat) (ht:P.underlying t=some (.slice e)) (hi:P.info? e=some i) (hz:i.zero=some z)
 (hsize:i.size=4) (hby:i.bytes=bytes) (hzs:z.cells.size=4)
 (v:Value) (n:Nat) (xs:List Value) (hown:w.ownsRow base e 4 v n xs)
 (A:Option Addr) (m c:Nat) (l:List Nk) (hr:dD w A m c l)
 (h63:n+m<=maxLen) (hbytes:(n+m)*bytes<=140737488355328) (hbase:base<=w):
 ∃v' w',(Builtin.append_ #[t,t] ty #[v,.slice A m c]).run P w= .ok v' w'/\w'.ownsRow base e 4 v' (n+m) (xs++si l)/\w.grownBy w' v.ownBlock:=by
 rcases A with _|ad
 ·have hm:m=0:=by
   rcases oV m with h0|h0
   ·exact h0
   ·obtain ⟨ad,h,_⟩:=hr.at_ h0;cases h
  subst hm;have hn:l= []:=nV hr.len;subst hn;exact ⟨v,w,mD w base t ty e i 4 ht hi v n xs hown c,by simpa[si] using hown,World.grownBy.refl w _⟩
 ·obtain ⟨v',w',hrun,h2,h3,_,h5⟩:=run_append_own_at (P:=P) w base t ty e i z 4 bytes ht hi hz hsize hby hzs (by omega) v n xs hown ad m c (si l) (by rw[FT,hr.len]) hr.cells (YG l) h63 hbytes hbase;exact ⟨v',w',hrun,h2,h3⟩
theorem Ba {o:Oper} {a:Act} {K:Act->World->Prop} {Q:Exit->Act->World->Prop} (s x:Operand) (t:TypeId)
 (ho:o.op= .call {callee:= .builtin .append,args:= #[s,x],argTypes:= #[t,t]})
 (base:Nat) (e:TypeId) (i:TypeInfo) (z:Value) (bytes:Nat) (ht:P.underlying t=some (.slice e)) (hi:P.info? e=some i) (hz:i.zero=some z)
 (hsize:i.size=4) (hby:i.bytes=bytes) (hzs:z.cells.size=4)
 (v:Value) (n:Nat) (xs:List Value) (hs:a.eval s=v) (hown:w.ownsRow base e 4 v n xs)
 (A:Option Addr) (m c:Nat) (l:List Nk) (hx:a.eval x= .slice A m c) (hr:dD w A m c l)
 (h63:n+m<=maxLen) (hbytes:(n+m)*bytes<=140737488355328) (hbase:base<=w)
 (h:∀v' w',w'.ownsRow base e 4 v' (n+m) (xs++si l)->w.grownBy w' v.ownBlock->K (a.put o.dst v') w'):o.wp P a w K Q:=by
 obtain ⟨v',w',hrun,h2,h3⟩:=Ii (P:=P) w base t o.type e i z bytes ht hi hz hsize hby hzs v n xs hown A m c l hr h63 hbytes hbase;unfold Oper.wp execOp;simp only[ho,resolve,invoke,builtin,Sem.run_bind,Sem.run_pure,Result.andThen_ok,List.map_toArray,vw,xS,hs,hx,hrun];exact h v' w' h2 h3
theorem jc {ops:Array Oper} {rest:List Oper} {o:Oper} {a:Act} {Q:Exit->Act->World->Prop} (hgd:o.guard=none) (s x:Operand) (t:TypeId)
 (ho:o.op= .call {callee:= .builtin .append,args:= #[s,x],argTypes:= #[t,t]})
 (base:Nat) (e:TypeId) (i:TypeInfo) (z:Value) (bytes:Nat) (ht:P.underlying t=some (.slice e)) (hi:P.info? e=some i) (hz:i.zero=some z)
 (hsize:i.size=4) (hby:i.bytes=bytes) (hzs:z.cells.size=4)
 (v:Value) (n:Nat) (xs:List Value) (hs:a.eval s=v) (hown:w.ownsRow base e 4 v n xs)
 (A:Option Addr) (m c:Nat) (l:List Nk) (hx:a.eval x= .slice A m c) (hr:dD w A m c l)
 (h63:n+m<=maxLen) (hbytes:(n+m)*bytes<=140737488355328) (hbase:base<=w)
 (h:∀v' w',w'.ownsRow base e 4 v' (n+m) (xs++si l)->w.grownBy w' v.ownBlock->wpList P ops Q rest (a.put o.dst v') w'):wpList P ops Q (o::rest) a w:=
 wpList_plain hgd fun _ hK=>Ba w s x t ho base e i z bytes ht hi hz hsize hby hzs v n xs hs hown A m c l hx hr h63 hbytes hbase fun v' w' h2 h3=>hK _ _ (h v' w' h2 h3)
end
theorem Df (A:Option Addr) (n c:Nat) (l:List Nk) (w:World) (h:dD w A n c l) (hsm:n<=1000000):
 Calls prog 120 #[.slice A n c] w fun e w'=>∃A' c',e= .returned (.slice A' n c')/\dD w' A' n c' l/\(∀ad,A'=some ad->w.heap.size<=ad.block/\ad.block<w'.heap.size)/\Below w w w':=by
 have hnil:=fun (W:World)=>Lib.run_eql_slice_nil (P:=prog) W 131 197 A n c 0 0 yV
 obtain ⟨i0,hi,hz0,hz1,hz2⟩:=wN;have hl:=h.len;subst hl;have hs1:=h.alloc (.cells #[] 197);rcases A with _|ad
 ·have hl:l= []:=by
   rcases oV l.length with h0|h0
   ·exact nV h0
   ·obtain ⟨_,e,_⟩:=h.at_ h0;cases e
  subst hl;simp only[gQ] at hnil ⊢;clear hs1 h;go_enter func120,ntmps120;go_wp2;go_ret;exact ⟨none,0,rfl,⟨rfl,aL,by omega,fun hn=>by simp at hn⟩,fun ad e=>(by cases e),bS _ _⟩
 ·go_enter func120,ntmps120;go_wp2_with (at_builtin;refine jc _ rfl _ _ 131 rfl w 197 i0 (.agg #[.int .i64 0,.bool false,.int .i64 0,.int .i64 0]) 32 yV hi hz0 hz1 hz2 rfl (.slice (some ⟨w,0,none⟩) 0 0) 0 [] rfl ?c0 (some ad) l.length c l rfl hs1 ?c3 ?c4 ?c5 ?_)
  case c0=>exact World.ownsRow_lit w #[] 0 (aL) (by unfold maxLen;omega) rfl
  case c3=>unfold maxLen;omega
  case c4=>omega
  case c5=>simp
  intro v' w1 hown' hgrow;go_wp2;go_ret;have hb:Below w w w1:=((bS _ w).alloc (aL) _).grown hgrow (by simp) (by simp[Value.ownBlock]);obtain ⟨A',c',rfl,h1,h2⟩:=dD.eu (l:=l) (by simpa using hown');exact ⟨A',c',rfl,h1,h2,hb⟩
theorem Vf (F:Fence) (n:Nat) (hF:F.fn 209) (hro:F.round=none) (A:Option Addr) (N c:Nat) (w:World):
 CallsIn F n prog 209 #[.slice A N c] w fun e w'=>e= .returned (.func (.func 222) #[] #[.pointer (some w)])/\w'=w.alloc (.cells #[.slice A N c] 131):=by
 refine Ev func209 rfl hF ?_ hro;simp only[ntmps209,vP,jh,gQ,Nat.reduceAdd,Nat.reduceSub,zA,zz,zF,zB,pY,qJ]
 gi_wp2
 go_ret;exact ⟨rfl,rfl⟩
theorem M8 (aA sn:Int) (A:Option Addr) (n c:Nat) (l:List Nk) (w:World) (h:dD w A n c l) (hsm:n<=1000000):
 Calls prog 185 #[.agg #[aA,.slice A n c],sn] w fun e w'=>∃g b A' c',e= .returned (.func (.func 208) #[] #[.pointer (some ⟨g,0,none⟩),.pointer (some ⟨b,0,none⟩)])/\
  av w' g 131 #[.slice A' n c']/\av w' b 3 #[sn]/\dD w' A' n c' l/\(∀ad,A'=some ad->w.heap.size<=ad.block/\ad.block<w'.heap.size)/\w.heap.size<=g/\w.heap.size<=b/\Below w w w':=by
 have b0:=av.new w 133 #[aA,.slice A n c];have b1:=av.new (w.alloc (.cells #[aA,.slice A n c] 133)) 3 #[sn];have b0':=b0.alloc (.cells #[sn] 3);have hz:(w.alloc (.cells #[aA,.slice A n c] 133)).heap.size=w.heap.size+1:=mZ _ _;rw[hz] at b1;have z0:=b0'.cell 0;have z1:=b0'.cell 1;simp at z0 z1;have hN:=(h.alloc (.cells #[aA,.slice A n c] 133)).alloc (.cells #[sn] 3);have hB:Below w w ((w.alloc (.cells #[aA,.slice A n c] 133)).alloc (.cells #[sn] 3)):=((bS _ w).alloc (aL) _).alloc (by simp) _;have hcl:=Df A n c l _ hN hsm;have HB:=ah hB;have B1:=ah b1;have yB:=ah hcl;clear b0 b1 b0' hN hB hcl h;go_enter func185,ntmps185;go_wp2_with fail;refine yB.out.mono ?_;rintro e w1 ⟨A',c',rfl,hN1,hf1,hb1⟩;go_wp2_with fail;go_ret;have hs1:=HB.out.size;refine ⟨w1,w+1,A',c',rfl,av.new w1 _ _,((B1.out.below hb1 B1.out.lt).alloc _),hN1.alloc _,fun ad e=> ?_,by have:=hb1.size;omega,by omega,(HB.out.trans (hb1.mono hs1)).alloc (by have:=hb1.size;omega) _⟩;have:=hf1 ad e;simp;omega
def Ss (x:Nk):Int × Int:=if x.part=true then (x.fr,x.lt) else (0,32767)
def gI (sn:Int) (x:Nk):Bool:=decide (x.sn=sn)
def Bc (l:List Nk) (k:Nat):Array Value:=match l[k]? with
 |some x=> #[.int .i64 (Ss x).1,.int .i64 (Ss x).2]
 |none=> #[undef,undef]
def nk (p:Nk->Bool) (l:List Nk) (k:Nat):Nat:=((l.take k).filter p).length
theorem yX (p:Nk->Bool):∀(l:List Nk) (k:Nat) (x:Nk),l[k]? =some x->nk p l (k+1)=nk p l k+(if p x=true then 1 else 0)
 | [],k,x,h=>by simp at h
 |y::t,0,x,h=>by
  simp at h;subst h;unfold nk;cases hp:p y<;>simp[hp]
 |y::t,k+1,x,h=>by
  have ih:=yX p t k x (by simpa using h);unfold nk at*;simp only[kJ,List.filter_cons];split
  ·simp only[jh];omega
  ·exact ih
theorem Jw (p:Nk->Bool):∀(l:List Nk) (k:Nat) (x:Nk),l[k]? =some x->p x=true->(l.filter p)[nk p l k]? =some x
 | [],k,x,h,_=>by simp at h
 |y::t,0,x,h,hp=>by
  simp at h;subst h;unfold nk;simp[hp]
 |y::t,k+1,x,h,hp=>by
  have ih:=Jw p t k x (by simpa using h) hp;unfold nk at*;simp only[kJ,List.filter_cons];split
  ·simpa using ih
  ·exact ih
theorem PI (p:Nk->Bool) (l:List Nk):nk p l 0=0:=by simp[nk]
theorem Sv (p:Nk->Bool) (l:List Nk):nk p l l.length=(l.filter p).length:=by simp[nk]
theorem av.putObj {w:World} {b k:Nat} {t:TypeId} {cs:Array Value} (h:av w b t cs) (hne:b≠k) (o:Obj):av (w.putObj k o) b t cs:=(GX (by omega)).trans h
theorem Below.putObj {B k:Nat} {w:World} (hk:B<=k) (o:Obj):Below B w (w.putObj k o):=by
 have h:=nX w k o;exact ⟨h.os,h.tape,h.output,h.size,fun j hj=>GX (by omega)⟩
theorem KeepsFrom.aco {B:Nat} {M:Nat->Obj->Prop} {w w':World} (h:Kept M w w') (hM:∀k o,B<=k->o.isCells=false->¬M k o):KeepsFrom B w w':=⟨h.size,fun k o hk ho hc=>h.same k o ho (hM k o hk hc)⟩
theorem KeepsFrom.tr {B:Nat} {a b c:World} (h:KeepsFrom B a b) (k:KeepsFrom B b c):KeepsFrom B a c:=⟨gG h.size k.size,fun i o hi ho hc=>k.same i o hi (h.same i o hi ho hc) hc⟩
theorem KeepsFrom.PK {B b i:Nat} {w:World} {t:TypeId} {cs:Array Value} (h:av w b t cs) (u:Value):KeepsFrom B w (w.setCell ⟨b,i,none⟩ u):=by
 refine ⟨by simp[World.setCell],fun k o _ ho hc=> ?_⟩;rw[lZ w ⟨b,i,none⟩ u k ?_]
 ·exact ho
 ·intro e;have e2:k=b:=e;subst e2;unfold av at h;rw[h] at ho;cases ho;cases hc
theorem KeepsFrom.eZ {B:Nat} {w w':World} (h:Below w w w'):KeepsFrom B w w':=⟨h.size,fun k _o _ ho _=>(h.block k (uZ.1 ho).1).trans ho⟩
theorem DJ {w:World} {r:Nat} (hr:r<w) (c o:Obj):Below w (w.putObj r o) ((w.alloc c).putObj r o):=by
 have h1:=nX w r o;have h2:=nX (w.alloc c) r o;have h3:=(bS w w).alloc (aL) c;have hz:(w.putObj r o).heap.size=w.heap.size:=by simp[World.putObj]
 refine ⟨(h2.os.trans h3.os).trans h1.os.symm,(h2.tape.trans h3.tape).trans h1.tape.symm,(h2.output.trans h3.output).trans h1.output.symm,?_,fun j hj=> ?_⟩
 ·have:=h2.size;have:=h3.size;omega
 ·by_cases e:j=r
  ·subst e;rw[Iw (by have:=h3.size;omega),Iw hj]
  ·rw[GX (by omega),GX (by omega)];exact h3.block j hj
theorem PL (n:Nat) (g b:Nat) (A:Option Addr) (N c:Nat) (l:List Nk) (sn:Int) (M:Nat->Obj->Prop) (w:World)
 (hg:av w g 131 #[.slice A N c]) (hb:av w b 3 #[sn]) (hv:dD w A N c l) (hlo:∀ad,A=some ad->ad.block<w.heap.size)
 (_hMg:∀o,¬M g o) (hMb:∀o,¬M b o) (XB:∀ad,A=some ad->∀o,¬M ad.block o) (hMo:∀k o,w.heap.size+2<=k->M k o->∃cs r,o= .cells cs 39 r):
 Ve n prog 208 #[.pointer (some g),.pointer (some b)] (Bc (l.filter (gI sn))) (l.filter (gI sn)).length (Kept M) w:=fun p J W hW hW2 hJ hY h0=>by
 have hg':=(hg.below hW hg.lt).alloc (.cells #[.func (.yield p) #[] #[]] 42);have hb':=(hb.below hW hb.lt).alloc (.cells #[.func (.yield p) #[] #[]] 42);have hy':=av.new W 42 #[.func (.yield p) #[] #[]];have hv':=(hv.below hW).alloc (.cells #[.func (.yield p) #[] #[]] 42);have hc0:=hg'.cell 0;simp at hc0;have HW1:Below W W (W.alloc (.cells #[.func (.yield p) #[] #[]] 42)):=(bS _ W).alloc (aL) _;have hsz:(W.alloc (.cells #[.func (.yield p) #[] #[]] 42)).heap.size=W.heap.size+1:=mZ _ _;have ae2:=hg.lt;have hblt:=hb.lt;have hlen:=ah hv.len;have qM:=Vf Fence.wide (n-1) trivial rfl A N c;have yE:=ah qM;have HY:=ah hY;have HG:=ah hg';have HB:=ah hb';have HYB:=ah hy';have HV:=ah hv';have HS:=ah hsz;clear qM hY hg' hb' hy' hv' hsz;have h0':=hJ.fresh _ _ _ h0 HW1;generalize hWg:W.alloc (.cells #[.func (.yield p) #[] #[]] 42)=W1 at*;refine Em func208 rfl trivial ?_ rfl;simp only[ntmps208,vP,jh,gQ,Nat.reduceAdd,Nat.reduceSub,zA,zz,zF,zB,pY,qJ]
 gi_wp2
 refine nZ ?_
 gi_wp2
 refine wpIn_label ?_
 gi_wp2_with fail
 refine ⟨trivial,(fun hh=>(by cases hh)),(yE.out W1).mono ?_⟩;rintro e w' ⟨rfl,rfl⟩;have HX:=ah (av.new W1 131 #[.slice A N c]);have HG2:=ah (HG.out.alloc (.cells #[.slice A N c] 131));have HB2:=ah (HB.out.alloc (.cells #[.slice A N c] 131));have HY2:=ah (HYB.out.alloc (.cells #[.slice A N c] 131));have Vh:=ah (HV.out.alloc (.cells #[.slice A N c] 131));have h02:=hJ.fresh _ _ _ h0' ((bS _ W1).alloc (aL) (.cells #[.slice A N c] 131));have HS2:=ah (mZ W1 (.cells #[.slice A N c] 131));generalize W1.alloc (.cells #[.slice A N c] 131)=W2 at*;clear HG HB HYB HV h0' hc0 HW1 hWg
 gi_wp2_with fail
 have hs2:=HS2.out;have hs1:=HS.out;have hWs:=hW.size;refine yo (gf:=222) (lb:= #[.pointer (some W1)]) rfl (enters_of func222 (by kernel_rfl) rfl)
  (YF (n-1) W1 A N c l (fun k o=>M k o\/k=W2.heap.size+1) W2 HX.out Vh.out (fun ad e=>by have:=hlo ad e;omega) ?a1 ?a2)
  Kept.trans ?a3 (bS _ _) (fun _=>rfl)
  (fun k Wk=>J (nk (gI sn) l k) Wk/\Kept (fun k o=>M k o\/k=W2.heap.size+1) W2 Wk) ?a4 ?a5 ?a6 ?a7
 case a1=>
  rintro (h|h)
  ·obtain ⟨cs,r,e⟩:=hMo _ _ (by omega) h;injection e with _ e2
   exact absurd e2 (by decide)
  ·omega
 case a2=>
  rintro ad e o (h|h)
  ·exact XB ad e o h
  ·have:=hlo ad e;omega
 case a3=>
  intro Wk o o' ho hc;exact (Kept.refl _ Wk).grown (nX Wk _ o') (fun j e _ _=>by cases e;exact .inr rfl)
 case a4=>
  refine ⟨fun k Wa Wb row hs hgr hr=>⟨(hJ.mono (by omega)).own _ Wa Wb row hs.1 hgr hr,hs.2.grown hgr (fun j e o ho=> ?_)⟩,fun k Wa Wb hs hbw=>⟨hJ.fresh _ _ _ hs.1 hbw,hs.2.trans (Kept.eZ hbw)⟩⟩;have h1:=(hr j e).1;have h2:=(uZ.1 ho).1;omega
 case a5=>exact ⟨by rw[PI];exact h02,Kept.refl _ _⟩
 case a7=>
  rintro D Wk hD ⟨hI,_⟩ hDk;have hJN:J (l.filter (gI sn)).length Wk:=by
   rw[<-Sv];have e:l.length=N:=hlen.out;rw[e];exact hI
  have HJN:=ah (hJ.own _ Wk _ (some D) hJN (nX Wk D (.deferred none)) (fun r e=>by cases e;exact ⟨by omega,_,hDk,rfl⟩));clear hI hJN
  gi_wp2_with fail
  rw[Eo];refine ⟨by simp,.inl ⟨_,_,rfl,Cx hDk,?_⟩⟩;exact ⟨_,zJ rfl _ _ _,⟨_,rfl⟩,HJN.out⟩
 case a6=>
  rintro l' k Wk hk ⟨hIJ,hIK⟩ ⟨oR,hoR,hoC⟩;obtain ⟨x,hx⟩:∃x,l[k]? =some x:=⟨_,gX (by have:=hlen.out;omega)⟩
  have hav:Ed l k= #[.int .i64 (k:Int),.agg #[.int .i64 x.sn,.bool x.part,.int .i64 x.fr,.int .i64 x.lt]]:=by unfold Ed;rw[hx];rfl
  rw[hav];have HXK:=ah hx;clear hav hx;have hbn:=av.new Wk 197 #[.int .i64 x.sn,.bool x.part,.int .i64 x.fr,.int .i64 x.lt];have HBN:=ah hbn;clear hbn
  gi_wp2
  refine ⟨?_,?_⟩
  ·exact KeepsFrom.eZ ((bS _ Wk).alloc (aL) _)
  intro W3 o' hW3;have hrl:=(uZ.1 hoR).1;have hKA:Kept (fun k o=>M k o\/k=W2.heap.size+1) Wk (Wk.putObj (W2+1) o'):=(Kept.refl _ Wk).grown (nX Wk _ o') (fun j e _ _=>by cases e;exact .inr rfl);have hJA:J (nk (gI sn) l k) (Wk.putObj (W2+1) o'):=hJ.own _ Wk _ (some (W2.heap.size+1)) hIJ (nX Wk _ o') (fun r e=>by cases e;exact ⟨by omega,oR,hoR,hoC⟩);have hBA:Below Wk (Wk.putObj (W2+1) o') W3:=by rw[hW3];exact DJ hrl _ _
  have hzA:(Wk.putObj (W2+1) o').heap.size=Wk.heap.size:=by simp[World.putObj]
  have Ur:=hIK.size;have gb:av W3 b 3 #[sn]:=by
   rw[hW3];exact ((HB2.out.kept hIK (by rintro (h|h);exact hMb _ h;omega)).alloc _).putObj (by omega) _
  have gy:av W3 W 42 #[.func (.yield p) #[] #[]]:=by
   rw[hW3];refine ((HY2.out.kept hIK ?_).alloc _).putObj (by omega) _;rintro (h|h)
   ·obtain ⟨cs,r,e⟩:=hMo _ _ (by omega) h;injection e with _ e2
    exact absurd e2 (by decide)
   ·omega
  have gn:av W3 Wk 197 #[.int .i64 x.sn,.bool x.part,.int .i64 x.fr,.int .i64 x.lt]:=by
   rw[hW3];exact HBN.out.putObj (by omega) _
  have hKF:∀k o,W2.heap.size<=k->o.isCells=false->¬M k o:=fun k o hk hc hm=>by
   obtain ⟨cs,r,e⟩:=hMo _ _ (by omega) hm;subst e;cases hc
  generalize Wk.putObj (W2+1) o'=WA at*;have z0:=gb.cell 0;have z1:=gy.cell 0;obtain ⟨y0,y1,y2,y3⟩:=gn.jP;simp at z0 z1;have HW3:=ah hW3;have HIK:=ah hIK;clear hW3 hIJ;have hend:∀W4 W5,Below Wk WA W4->KeepsFrom W2 W3 W4->Kept M W4 W5->KeepsFrom W2 W3 W5/\Kept (fun k o=>M k o\/k=W2.heap.size+1) Wk W5/\Kept (fun k o=>M k o\/k=W2.heap.size+1) W2 W5:=fun W4 W5 h4 hk4 h5=>by
   have e1:Kept (fun k o=>M k o\/k=W2.heap.size+1) Wk W5:=(hKA.trans (Kept.eZ (by rw[hzA];exact h4))).trans (h5.mono fun _ _ hm=> .inl hm);exact ⟨KeepsFrom.tr hk4 (KeepsFrom.aco h5 hKF),e1,HIK.out.trans e1⟩
  by_cases hs:x.sn=sn
  ·have hp:gI sn x=true:=by unfold gI;exact iK hs
   have hget:=Jw (gI sn) l k x HXK.out hp;have hcs:=yX (gI sn) l k x HXK.out;rw[bD hp] at hcs;have hlt2:nk (gI sn) l k<(l.filter (gI sn)).length:=(pN.1 hget).1;have YK:=fun W4 hj=>HY.out (nk (gI sn) l k) W4 hlt2 hj
   unfold Bc at YK;rw[hget] at YK;simp only[Ss] at YK;cases hpt:x.part with
   |true=>
    simp only[hpt,kE] at YK y1;obtain ⟨fn,tmps,assign,body,hy,hR⟩:=YK W3 (hJ.fresh _ _ _ hJA (by rw[hzA];exact hBA));have HR:=ah (RoundIn.ix (m':=n-1-1-1) (l':=l') hR);have HE:=ah hend;have HCS:=ah hcs;have Vl:=ah hBA;clear hR YK hget hcs hlt2 hend gb gy gn hBA hKA hJA hp
    gi_wp2_with fail
    refine ⟨fun hh=>(by cases hh),HR.out.mono ?_⟩;rintro e W5 ⟨rfl,hJ5,TI⟩
    gi_wp2_with fail
    obtain ⟨e1,e2,e3⟩:=HE.out W3 W5 Vl.out ⟨aL,fun _ _ _ h _=>h⟩ TI;rw[<-HCS.out] at hJ5;exact ⟨e1,e2,hJ5,e3⟩
   |false=>
    simp only[hpt,mq,l7] at YK y1;have g4:=(gn.ay 2 (.int .i64 0)).ay 3 (.int .i64 32767);simp at g4;obtain ⟨u0,u1,u2,u3⟩:=g4.jP;have f2:=gn.frozen 2;have f3:=(gn.ay 2 (.int .i64 0)).frozen 3;have hB4:Below Wk WA ((W3.setCell ⟨Wk,2,none⟩ (.int .i64 0)).setCell ⟨Wk,3,none⟩ (.int .i64 32767)):=(hBA.setCell (p:=⟨Wk,2,none⟩) (aL) _).setCell (p:=⟨Wk,3,none⟩) (aL) _;have hK4:KeepsFrom W2 W3 ((W3.setCell ⟨Wk,2,none⟩ (.int .i64 0)).setCell ⟨Wk,3,none⟩ (.int .i64 32767)):=KeepsFrom.tr (KeepsFrom.PK gn _) (KeepsFrom.PK (gn.ay 2 (.int .i64 0)) _);have v1:=((gy.far (p:=⟨Wk,2,none⟩) (by simp;omega) (.int .i64 0)).far (p:=⟨Wk,3,none⟩) (by simp;omega) (.int .i64 32767)).cell 0;simp at v1;obtain ⟨fn,tmps,assign,body,hy,hR⟩:=YK _ (hJ.fresh _ _ _ hJA (by rw[hzA];exact hB4));have HR:=ah (RoundIn.ix (m':=n-1-1-1) (l':=l') hR);have HE:=ah hend;have HCS:=ah hcs;have Ij:=ah hB4;have GL:=ah hK4;clear hR YK hget hcs hlt2 hend gb gy gn hBA hKA hJA hp hB4 hK4 g4
    gi_wp2_with fail
    refine ⟨fun hh=>(by cases hh),HR.out.mono ?_⟩;rintro e W5 ⟨rfl,hJ5,TI⟩
    gi_wp2_with fail
    obtain ⟨e1,e2,e3⟩:=HE.out _ W5 Ij.out GL.out TI;rw[<-HCS.out] at hJ5;exact ⟨e1,e2,hJ5,e3⟩
  ·have hp:gI sn x=false:=by unfold gI;exact iP hs
   have hcs:=yX (gI sn) l k x HXK.out;rw[aP (by rw[hp];decide)] at hcs
   replace hcs:nk (gI sn) l (k+1)=nk (gI sn) l k:=hcs
   have hJ3:=hJ.fresh _ _ _ hJA (by rw[hzA];exact hBA);obtain ⟨e1,e2,e3⟩:=hend W3 W3 hBA ⟨aL,fun _ _ _ h _=>h⟩ (Kept.refl _ _);rw[<-hcs] at hJ3;have HF:=ah (show KeepsFrom W2 W3 W3/\Kept (fun k o=>M k o\/k=W2.heap.size+1) Wk W3/\J (nk (gI sn) l (k+1)) W3/\Kept (fun k o=>M k o\/k=W2.heap.size+1) W2 W3 from ⟨e1,e2,hJ3,e3⟩);clear hcs hJ3 e1 e2 e3 hend hp gb gy gn hBA hKA hJA
   gi_wp2_with fail
   exact HF.out
end Go.Proofs.YtbhiklnljiehiaaGreat
