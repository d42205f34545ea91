/- amrecv: deliver. amrecv: Receive: errors are recovered; bounds of what is received. -/
import Derived.Test.YtiecgfahidpldaaGreatM3aj
import Derived.Test.YtiecgfahidpldaaGreatM3ao
import Derived.Test.YtiecgfahidpldaaGreatM3ar
import Derived.Test.YtiecgfahidpldaaGreatM3au
import Derived.Test.YtiecgfahidpldaaGreatM3av
import Derived.StillTailTactics
import Derived.WideLaws
namespace Go.Proofs.YtiecgfahidpldaaGreat
section
open Go.RowKit Go.Shelf
attribute [local go_sem] Oper.semAt_some
section
variable {w w' W W':World} {T T':Nat→Nat} {g M n:Nat} {c:Cf} {st:Rc} {vo v:Value} {base:Nat} {outs:List (List UInt8)}
def afq (w:World) (T:Nat→Nat) (g M n:Nat) (c:Cf) (R:Rc × List (List UInt8)) (e:Ending) (w':World):Prop:=
 ∃T' kX v,e= .returned v∧gH w' T' g M n c R.1 kX∧(∀k,k<w.heap.size→T' k=T k)∧Kept (MT T) w w'∧dG w' w.heap.size T' v R.2
theorem jr.trans {T2:Nat→Nat} (h:Kept (MT T) w W) (h2:Kept (MT T2) W W') (hT:∀k,k<w.heap.size→T2 k=T k):Kept (MT T) w W':=
 ⟨h2.os.trans h.os,h2.tape.trans h.tape,h2.output.trans h.output,Nat.le_trans h.size h2.size,fun i o hi hn=>h2.same i o (h.same i o hi hn) (fun hm=>hn (by unfold MT at*;rw[←hT i (lt_of_heap hi)];exact hm))⟩
def DlI (w:World) (T:Nat→Nat) (g M n:Nat) (c:Cf) (st:Rc) (p:Sp) (b:Nat) (vf vd:Value) (N:Nat) (W0:World) (FIN:List UInt8 × Bool × List (List UInt8)) (ob:Nat) (gk:Nat) (s2 s4 s5:Value) (W:World):Prop:=
 ∃(i fr:Nat) (op:List UInt8) (sm:Bool) (outs:List (List UInt8)) (T2:Nat→Nat) (Ud v2:Value),s2=v2∧s4= .int .i64 (fr:Nat)∧s5= .int .i64 (i:Nat)∧gk+i=N+1∧1≤i∧fr<i∧gH W T2 g M n c {st with op:=op,sm:=sm} Ud∧op.length≤9000∧
  (∀k,k<w.heap.size→T2 k=T k)∧Kept (MT T) w W∧dG W w.heap.size T2 v2 outs∧FIN=((nH p.fl p.da N gk i fr op sm).1,(nH p.fl p.da N gk i fr op sm).2.1,outs++(nH p.fl p.da N gk i fr op sm).2.2)∧outs.length+gk≤ob∧
  pE W b p vf vd∧T2 b=3*st.next+4∧b≠g∧(∀j,vf.ownBlock=some j→T2 j=3*st.next+5)∧(∀j,vd.ownBlock=some j→T2 j=3*st.next+6)∧W0.heap.size≤W.heap.size
def DlO (w:World) (T:Nat→Nat) (g M n:Nat) (c:Cf) (FIN:Rc × List (List UInt8)) (gk:Nat) (s2 s3:Value) (W:World):Prop:=
 ∃(j:Nat) (st:Rc) (outs:List (List UInt8)) (T2:Nat→Nat) (Ud v2:Value),s2=v2∧gH W T2 g M n c st Ud∧dL st∧(∀k,k<w.heap.size→T2 k=T k)∧Kept (MT T) w W∧dG W w.heap.size T2 v2 outs∧
  FIN=((bR gk st).1,outs++(bR gk st).2)∧outs.length+40000*gk≤40000*1024∧j<gk∧bZ (st.m ((st.next+j)%1024))=false∧
  ((st.m st.next=none∧s3= .pointer none)∨∃p b vf vd,st.m st.next=some p∧s3= .pointer (some ⟨b,0,none⟩)∧pE W b p vf vd∧T2 b=3*st.next+4∧(∀j,vf.ownBlock=some j→T2 j=3*st.next+5)∧(∀j,vd.ownBlock=some j→T2 j=3*st.next+6))
theorem GJ {f:Nat} {st:Rc} (h:bZ (st.m st.next)=false):bR f st=(st,[]):=by
 cases f with
 |zero=>rfl
 |succ f=>
  unfold bR;cases hm:st.m st.next with
  |none=>rfl
  |some p=>
   rw[hm] at h;have h2:eT p=false:=h;dsimp only;rw[if_neg (by rw[h2];simp)]
theorem L9 {f:Nat} {st:Rc} {p:Sp} (hm:st.m st.next=some p) (hc:eT p=true):bR (f+1) st=((bR f (wV st p)).1,(vH st p).2.2++(bR f (wV st p)).2):=by
 rw[bR,hm];dsimp only;rw[if_pos hc]
theorem Pf {W:World} {gd L cd fr i:Nat} {da:List UInt8} (h:W.ownsRow 0 5 1 (.slice (some ⟨gd,0,none⟩) L cd) L (cu da)) (hl:da.length=L) (hfi:fr≤i) (hi:i≤L) (hL:L≤100000):Sl W W.heap.size (some ⟨gd,fr,none⟩) (i-fr) (i-fr) (cu ((da.take i).drop fr)):=by
 have hg:=(h.lt gd rfl).2;refine ⟨by rw[oH,List.length_drop,List.length_take];omega,Nat.le_refl _,by omega,fun _=>⟨_,rfl,hg,fun j u hu=> ?_⟩⟩;rw[Addr.add_lit];have hj:=(List.getElem?_eq_some_iff.1 hu).1;rw[oH,List.length_drop,List.length_take] at hj;rw[h.cellAt _ (by omega)];unfold cu at hu ⊢;rw[List.getElem?_map] at hu ⊢;rw[List.getElem?_drop,List.getElem?_take,if_pos (by omega)] at hu;exact hu
set_option maxRecDepth 100000 in
set_option maxHeartbeats 8000000 in
theorem Et (h:gH w T g M n c st vo) (ho:dL st):Calls Tryz.prog 38 #[.pointer (some ⟨g,0,none⟩)] w (afq w T g M n c (bR 1024 st)):=by
 obtain ⟨FIN,hF⟩:∃FIN,FIN=bR 1024 st:=⟨_,rfl⟩
 rw[←hF];have HH:=Lib.hid h;have HO:=Lib.hid ho;have HF:=Lib.hid hF;have hstop:=ho.stops (sn:=st.next) ho.n1;have HST:=Lib.hid hstop;have lG:Tryz.prog.follows .mixedOrders=true:=by kernel_rfl
 have hn1:=ho.n1;obtain ⟨x3,x4,x7,x8,x9,x10,uZ,EG,OT,Ej,Qd,OU,OV,x18⟩:=h.cells;obtain ⟨v,hl,hv⟩:=h.drew.look hn1;have HV:=Lib.hid hv;clear h ho hF hstop hv x3 x4 x9 x10 uZ EG OT Ej Qd OU OV x18;go_enter Tryz.func38,Tryz.ntmps38;go_upto_region 1 with (fail)
 go_cut [3] (fun s3 wx=>s3=v∧wx=w.drew)
 case first=>
  refine wp_region_still_tail 8 lG (by kernel_rfl) ?_;simp only[List.take_succ_cons,List.take_zero,List.drop_succ_cons,List.drop_zero]
  repeat still_step
  refine wpStill_nil ?_;change wpList _ _ _ _ _ w.drew;go_wp2;go_meet;exact ⟨rfl,rfl⟩
 case rest=>
 obtain ⟨rfl,rfl⟩:=hcut;have H0:=Lib.hid HH.out.drew;clear hl x7 x8;go_wp2_with fail;go_loopg [2,3] 1024 (fun gk s2 s3 wr=>DlO w T g M n c FIN gk s2 s3 wr)
 case atStart=>
  obtain ⟨j,h1,h2⟩:=HST.out;refine ⟨j,st,[],T,vo,_,rfl,H0.out,HO.out,fun _ _=>rfl,(Kept.refl _ w).drew,dG.nil _ _ _,by rw[HF.out];rfl,by simp,h1,h2,?_⟩;exact HV.out
 case round=>
  obtain ⟨j,st1,outs,T2,Ud,v2,rfl,hR,hok,hT2,hK,hO,hfin,hol,hj,hst,hp⟩:=hrel;have hn2:=hok.n1;have hcm:Calls Tryz.prog 42 #[u3] wr fun e w'=>e= .returned (.bool (bZ (st1.m st1.next)))∧Below wr.heap.size wr w':=by
   rcases hp with ⟨hm,rfl⟩|⟨p,b,vf,vd,hm,rfl,hs,_⟩
   ·rw[hm];exact su wr
   ·rw[hm];exact sw hs (hok.m _ p hm).2.2
  obtain ⟨f,rfl⟩:∃f,gk=f+1:=⟨gk-1,by omega⟩
  obtain ⟨vs,hrow,XT,C9⟩:=hO;obtain ⟨Av,cv,rfl,hsv,-⟩:=aP hrow;have NK:=Lib.hid (show dG wr w.heap.size T2 (.slice Av outs.length cv) outs from ⟨vs,hrow,XT,C9⟩);have HR:=Lib.hid hR;have BM:=Lib.hid hok;have HT2:=Lib.hid hT2;have HK:=Lib.hid hK;clear hrow XT C9 hsv hR hT2 hK HST HV H0;cases hcc:bZ (st1.m st1.next) with
  |false=>
   rw[hcc] at hcm;rw[GJ hcc,List.append_nil] at hfin;have FD:=Lib.hid hfin;have HCM:=Lib.hid hcm;clear hfin hcm hcc hst hp hok;go_wp2_with (go_at_call 42;refine HCM.out.mono ?_;rintro e1 w1 ⟨rfl,hb1⟩);go_ret;rw[FD.out];exact ⟨T2,Ud,_,rfl,HR.out.below hb1,HT2.out,jr.trans HK.out (qL hb1) HT2.out,NK.out.below hb1⟩
  |true=>
   rw[hcc] at hcm;obtain ⟨p,b,vf,vd,hm,rfl,hs,t1,t2,t3⟩:∃p b vf vd,st1.m st1.next=some p∧u3= .pointer (some ⟨b,0,none⟩)∧pE wr b p vf vd∧T2 b=3*st1.next+4∧(∀j,vf.ownBlock=some j→T2 j=3*st1.next+5)∧(∀j,vd.ownBlock=some j→T2 j=3*st1.next+6):=by
    rcases hp with ⟨hm,_⟩|h9
    ·rw[hm] at hcc;cases hcc
    ·exact h9
   have hcs:eT p=true:=by rw[hm] at hcc;exact hcc
   rw[L9 hm hcs] at hfin;obtain ⟨_,_,hsp⟩:=hok.m _ p hm;obtain ⟨N,hN,hN0,hgN⟩:∃N,p.size=some N∧0<N∧kK p.fl=N:=by
    unfold eT at hcs;cases hsz:p.size with
    |none=>rw[hsz] at hcs;cases hcs
    |some k=>
     rw[hsz] at hcs;simp only[Bool.and_eq_true,decide_eq_true_eq] at hcs;exact ⟨k,rfl,hcs.1,hcs.2⟩
   have hgl:=qW p.fl;have hNL:N≤p.fl.length:=by omega
   have hLb:=hsp.le;have hsI:bY p=(N:Int):=by unfold bY;rw[hN]
   have hsS:wG p=N:=by unfold wG;rw[hN];rfl
   have hj0:j≠0:=fun e=>by
    rw[e,Nat.add_zero,Nat.mod_eq_of_lt (by omega),hcc] at hst;cases hst
   have Gs:bZ ((wV st1 p).m (((wV st1 p).next+(j-1))%1024))=false:=by
    show bZ (eZ st1.m st1.next none ((dN st1.next+(j-1))%1024))=false
    unfold dN eZ;rw[show ((st1.next+1)%1024+(j-1))%1024=(st1.next+j)%1024 by omega];split
    ·rfl
    ·exact hst
   have hbg:b≠g:=fun e=>by
    have h8:=HR.out.tg;rw[←e,t1] at h8;omega
   have hbl:=hs.blk.lt;obtain ⟨FI,hFI⟩:∃FI,FI=((vH st1 p).1,(vH st1 p).2.1,outs++(vH st1 p).2.2):=⟨_,rfl⟩
   have FD:=Lib.hid hFI;have NF:=Lib.hid hfin;have HCM:=Lib.hid hcm;have HM:=Lib.hid hm;have HS:=Lib.hid hs;have Hy:=Lib.hid hsp;have afr:=Lib.hid Gs;have ZR:=Lib.hid hj0;have HJ:=Lib.hid hj;have HT1:=Lib.hid t1;have HTF:=Lib.hid t2;have GK:=Lib.hid t3;have HSI:=Lib.hid hsI;have PX:=Lib.hid hsS;have HBG:=Lib.hid hbg;have aas:=Lib.hid hol;have hop1:=hok.op;have HOP:=Lib.hid hop1;clear hFI hfin hcm hcc hst hp hok hm hs hsp Gs hj0 hj t1 t2 t3 hsI hsS hbg hgN hgl hN hcs hol hop1
   go_upto_block 2 with (go_at_call 42;refine HCM.out.mono ?_;rintro e1 w1 ⟨rfl,hb1⟩)
   have hs1:pE w1 b p vf vd:=HS.out.stay (hb1.block b hbl) (fun k hk=>hb1.block k (HS.out.fr.lt k hk).2) (fun k hk=>hb1.block k (HS.out.dr.lt k hk).2);have vG:=HR.out.below hb1;have hK1:=jr.trans HK.out (qL hb1) HT2.out;have K9:=NK.out.below hb1;have hwz:=hb1.size;have BN:=Lib.hid hs1;have HR1:=Lib.hid vG;have sH:=Lib.hid hK1;have HO1:=Lib.hid K9;clear hs1 vG hK1 K9 hb1 HCM HS HR HK NK;go_wp2_with fail;go_loopg [2,4,5] N (fun gk s2 s4 s5 wq=>DlI w T g M n c st1 p b vf vd N w1 FI (outs.length+N) gk s2 s4 s5 wq)
   case atStart=>
    refine ⟨1,0,st1.op,st1.sm,outs,T2,Ud,_,rfl,rfl,rfl,rfl,Nat.le_refl _,by omega,HR1.out,HOP.out,HT2.out,sH.out,HO1.out,?_,Nat.le_refl _,BN.out,HT1.out,HBG.out,HTF.out,GK.out,Nat.le_refl _⟩;rw[FD.out];unfold vH;rw[PX.out]
   case round=>
    obtain ⟨i,fr,op,sm,ol,T3,vo3,v3,rfl,rfl,rfl,hki,hi1,hfi,hR,hop,hT3,hK,hO,hfin,hol,hs,t1,_,t2,t3,Wp⟩:=hrel;obtain ⟨z0,z1,z2⟩:wr.cell? ⟨b,0,none⟩=some vf∧wr.cell? ⟨b,1,none⟩=some vd∧wr.cell? ⟨b,2,none⟩=some (.int .i64 (bY p)):=⟨hs.blk.cell 0,hs.blk.cell 1,hs.blk.cell 2⟩;rw[HSI.out] at z2;have alZ:ol.length≤40000*1024+40000:=by have:=aas.out;omega
    obtain ⟨vs,hrow,XT,C9⟩:=hO;obtain ⟨Av2,cv2,rfl,hsv,-⟩:=aP hrow;have P8:=Lib.hid (show dG wr w.heap.size T3 (.slice Av2 ol.length cv2) ol from ⟨vs,hrow,XT,C9⟩);have HR3:=Lib.hid hR;have HT3:=Lib.hid hT3;have lI:=Lib.hid hK;have Au:=Lib.hid hs;have HA1:=Lib.hid t1;have HA2:=Lib.hid t2;have vw:=Lib.hid t3;have HOB:=Lib.hid hol;have HKI:=Lib.hid hki;by_cases hiN:i≤N
    ·obtain ⟨gk',rfl⟩:∃gk',gk=gk'+1:=⟨gk-1,by omega⟩
     have hL0:0<p.fl.length:=by omega
     obtain ⟨gf,cf,rfl,afu,afv,hgf⟩:=uE hs.fr hL0;have hdl:p.da.length=p.fl.length:=Hy.out.ll;have hdr:=hs.dr;rw[hdl] at hdr;obtain ⟨gd,cd,rfl,afw,afx,hgd⟩:=uE hdr hL0;obtain ⟨A',c',e',hfs⟩:=mJ.cO hs.fr;cases e';have hhas:=fun (X:World) (hX:Below wr.heap.size wr X) (a which:Nat) (ha:a≤100000) (hw:which<3)=>zA (hfs.below hX) a ha which hw
     have BD:Calls Tryz.prog 85 #[.slice (some ⟨gf,0,none⟩) p.fl.length cf,.int .i64 (i:Nat),.int .i64 1] wr fun e w'=>e= .returned (.bool (dW p.fl i).2.1)∧wr=w':=hhas wr (Below.refl _ _) i 1 (by omega) (by omega)
     have Gs:Calls Tryz.prog 85 #[.slice (some ⟨gf,0,none⟩) p.fl.length cf,.int .i64 (fr:Nat),.int .i64 1] wr.drew fun e w'=>e= .returned (.bool (dW p.fl fr).2.1)∧wr.drew=w':=hhas wr.drew (Below.refl _ _).drew fr 1 (by omega) (by omega)
     have aau:Calls Tryz.prog 85 #[.slice (some ⟨gf,0,none⟩) p.fl.length cf,.int .i64 ((i:Int)-1),.int .i64 2] wr.drew fun e w'=>e= .returned (.bool (dW p.fl (i-1)).2.2)∧wr.drew=w':=by
      have:=hhas wr.drew (Below.refl _ _).drew (i-1) 2 (by omega) (by omega);rw[show ((i-1:Nat):Int)=(i:Int)-1 by omega] at this;exact this
     have Pg:=Lib.hid BD;have Ph:=Lib.hid Gs;have aav:=Lib.hid aau;have jH:=Lib.hid hfin;clear hR hT3 hK hs t1 t2 t3 hol hki hhas BD Gs aau hfs hdr hfin hrow XT C9 hsv;by_cases vX:i<N∧(dW p.fl i).2.1=false
     ·obtain ⟨hs1,hs2⟩:=vX;have hfin:=jH.out;rw[nH,if_pos ⟨hs1,hs2⟩] at hfin;have BD:=Pg.out;rw[hs2] at BD;have Wq:=Lib.hid BD;have IZ:=Lib.hid hfin;clear hs2 BD hfin Pg jH;go_wp2_with (go_at_call 85;refine Wq.out.mono ?_;rintro e1 w4 ⟨rfl,rfl⟩)
      go_roundg gk'
      case measure=>omega
      case rel=>
       exact ⟨i+1,fr,op,sm,ol,T3,vo3,_,rfl,rfl,by go_num,by have:=HKI.out;omega,by omega,by omega,HR3.out,hop,HT3.out,lI.out,P8.out,IZ.out,by have:=HOB.out;omega,Au.out,HA1.out,HBG.out,HA2.out,vw.out,Wp⟩
     ·have hfin:=jH.out;rw[nH,if_neg vX] at hfin;obtain ⟨RP,hRP⟩:∃RP,RP=pR ((p.da.take i).drop fr) (dW p.fl fr).2.1 (decide (i<N)||(dW p.fl (i-1)).2.2) op sm:=⟨_,rfl⟩
      dsimp only at hfin;rw[←hRP] at hfin;have IZ:=Lib.hid hfin;have Og:=C8 (b:=(p.da.take i).drop fr) (begins:=(dW p.fl fr).2.1) (last:=decide (i<N)||(dW p.fl (i-1)).2.2) (sm:=sm) hop;rw[←hRP] at Og;obtain ⟨VN,Lu⟩:=Og;have Hu:=Lib.hid hRP;have Zk:=Lib.hid vX;clear hfin hRP vX jH;go_upto_region 8 with (fail)
      go_cut [50] (fun s50 wx=>s50= .bool false∧wx=wr)
      case first=>
       by_cases GL:i<N
       ·have hfl:(dW p.fl i).2.1=true:=by
         cases hh:(dW p.fl i).2.1 with
         |true=>rfl
         |false=>exact absurd ⟨GL,hh⟩ Zk.out
        have BD:=Pg.out;rw[hfl] at BD;have Wq:=Lib.hid BD;clear hfl BD Pg;go_wp2_with (go_at_call 85;refine Wq.out.mono ?_;rintro e1 w4 ⟨rfl,rfl⟩);go_meet;exact ⟨rfl,rfl⟩
       ·have al2:¬(i:Int)<(N:Int):=by omega
        go_wp2_with fail;go_meet;exact ⟨rfl,rfl⟩
      case rest=>
      obtain ⟨rfl,rfl⟩:=hcut;generalize wc=wb at*;have hsl:=Pf (Au.out.dr |> fun h9=>by rw[Hy.out.ll] at h9;exact h9) Hy.out.ll (fr:=fr) (i:=i) (by omega) (by omega) (by omega);have Uj:∀X,Kept (fun k _=>k=g) wb.drew X→Sl X X.heap.size (some ⟨gd,fr,none⟩) (i-fr) (i-fr) (cu ((p.da.take i).drop fr)):=fun X hX=>by
       have h9:=Au.out.dr;rw[Hy.out.ll] at h9;refine Pf (bT h9 fun k hk=> ?_) Hy.out.ll (by omega) (by omega) (by omega);obtain ⟨o,ho⟩:∃o,wb.heap[k]? =some o:=⟨_,Array.getElem?_eq_getElem (h9.lt k hk).2⟩
       rw[ho];refine hX.same k o ho (fun ek=> ?_);have h8:=vw.out k hk;rw[ek] at h8;have h7:=HR3.out.tg;omega
      have aaw:dL {st1 with op:=op,sm:=sm}:=⟨BM.out.n1,BM.out.n2,BM.out.n3,BM.out.n4,BM.out.m,hop,BM.out.t1,BM.out.t2⟩;have hpt:=L8 HR3.out.drew aaw (some ⟨gd,fr,none⟩) (i-fr) (i-fr) ((p.da.take i).drop fr) (by omega) Uj (dW p.fl fr).2.1 (decide (i<N)||(dW p.fl (i-1)).2.2);dsimp only at hpt;rw[←Hu.out] at hpt;have VF:=Lib.hid hpt;have al3:¬cd=fr:=by omega
      have al4:¬i=fr:=by omega
      have hq1:(fr:Int)≤(i:Int):=by omega
      have hq2:(i:Int)≤(cd:Int):=by omega
      have hq3:(0:Int)≤(fr:Int):=by omega
      clear hsl Uj aaw hpt Hu Zk Pg;go_upto_region 9 with (fail)
      go_cut [6,7] (fun s6 s7 wx=>∃(T4:Nat→Nat) (Uk:Value),s7= .bool (!RP.2.2.isEmpty)∧gH wx T4 g M n c {st1 with op:=RP.1,sm:=RP.2.1} Uk∧(∀k,k<wb.heap.size→T4 k=T3 k)∧Kept (fun k _=>k=g) wb wx∧(∀q,RP.2.2= [q]→wx.ownsRow wb.heap.size 5 1 s6 q.length (cu q)∧∀k,s6.ownBlock=some k→T4 k=0))
      case first=>
       by_cases GL:i<N
       ·have hpt:=VF.out;rw[decide_eq_true GL,Bool.true_or] at hpt;have HP2:=Lib.hid hpt;have d1:decide (i<N)=true:=decide_eq_true GL;clear hpt VF aav;refine wp_region_noPanic ?_;refine bM (fun w'=>w'.cell? ⟨b,0,none⟩=some (.slice (some ⟨gf,0,none⟩) p.fl.length cf)∧w'.cell? ⟨b,1,none⟩=some (.slice (some ⟨gd,0,none⟩) p.fl.length cd)∧w'.cell? ⟨b,2,none⟩=some (.int .i64 (N:Int))) [30] (by kernel_rfl) ?_;have hHeld:=(show (fun w':World=>w'.cell? ⟨b,0,none⟩=some (.slice (some ⟨gf,0,none⟩) p.fl.length cf)∧w'.cell? ⟨b,1,none⟩=some (.slice (some ⟨gd,0,none⟩) p.fl.length cd)∧w'.cell? ⟨b,2,none⟩=some (.int .i64 (N:Int))) wb.drew from ⟨z0,z1,z2⟩);refine tkY 0 ?_ rfl (Or.inl ⟨by rfl,?_⟩) hHeld ?_;rotate_left
        ·intro w' hSw;go_simp
         try with_reducible rfl
        try simp only[Act.put,zzA,zzE,yo,UM,zzD]
        refine tkY 1 ?_ rfl (Or.inl ⟨by rfl,?_⟩) hHeld ?_;rotate_left
        ·intro w' hSw;go_simp
         try with_reducible rfl
        try simp only[Act.put,zzA,zzE,zzF,yo,UM,zzD]
        refine tkY 2 ?_ rfl (Or.inl ⟨by rfl,?_⟩) hHeld ?_;rotate_left
        ·intro w' hSw;go_simp
         try with_reducible rfl
        try simp only[Act.put,zzA,zzE,zzF,yo,UM,zzD]
        refine tkY 3 ?_ rfl (Or.inl ⟨by rfl,?_⟩) hHeld ?_;rotate_left
        ·intro w' hSw;go_simp
         try with_reducible rfl
        try simp only[Act.put,zzA,zzE,zzF,yo,UM,zzD]
        refine tkX [8,30] 4 ?_ rfl (Or.inl ⟨by rfl,?_⟩) hHeld ?_;rotate_left
        ·intro w' hSw;obtain ⟨hS1,hS2,ig⟩:=hSw;go_simp
         try with_reducible rfl
        try simp only[Act.put,zzA,zzE,zzF,yo,UM,zzD]
        refine tkY 5 ?_ rfl (Or.inl ⟨by rfl,?_⟩) hHeld ?_;rotate_left
        ·intro w' hSw;go_simp
         try with_reducible rfl
        try simp only[Act.put,zzA,zzE,zzF,yo,UM,zzD]
        refine tkY 6 ?_ rfl (Or.inl ⟨by rfl,?_⟩) hHeld ?_;rotate_left
        ·intro w' hSw;go_simp
         try with_reducible rfl
        try simp only[Act.put,zzA,zzE,zzF,yo,UM,zzD]
        refine tkY 7 ?_ rfl (Or.inl ⟨by rfl,?_⟩) hHeld ?_;rotate_left
        ·intro w' hSw;go_simp
         try with_reducible rfl
        try simp only[Act.put,zzA,zzE,zzF,yo,UM,zzD]
        refine tkY 8 ?_ rfl (Or.inl ⟨by rfl,?_⟩) hHeld ?_;rotate_left
        ·intro w' hSw;go_simp
         try with_reducible rfl
        try simp only[Act.put,zzA,zzE,zzF,yo,UM,zzD]
        refine tkY 9 ?_ rfl (Or.inl ⟨by rfl,?_⟩) hHeld ?_;rotate_left
        ·intro w' hSw;go_simp
         try with_reducible rfl
        try simp only[Act.put,zzA,zzE,zzF,yo,UM,zzD]
        refine tkY 10 ?_ rfl (Or.inl ⟨by rfl,?_⟩) hHeld ?_;rotate_left
        ·intro w' hSw;go_simp
         try with_reducible rfl
        try simp only[Act.put,zzA,zzE,zzF,yo,UM,zzD]
        refine tkY 11 ?_ rfl (Or.inl ⟨by rfl,?_⟩) hHeld ?_;rotate_left
        ·intro w' hSw;go_simp
         try with_reducible rfl
        try simp only[Act.put,zzA,zzE,zzF,yo,UM,zzD]
        refine tkX [14,30] 12 ?_ rfl (Or.inl ⟨by rfl,?_⟩) hHeld ?_;rotate_left
        ·intro w' hSw;obtain ⟨hS1,hS2,ig⟩:=hSw;go_simp
         try with_reducible rfl
        try simp only[Act.put,zzA,zzE,zzF,yo,UM,zzD]
        refine tkY 13 ?_ rfl (Or.inl ⟨by rfl,?_⟩) hHeld ?_;rotate_left
        ·intro w' hSw;go_simp
         try with_reducible rfl
        try simp only[Act.put,zzA,zzE,zzF,yo,UM,zzD]
        refine tkY 15 ?_ rfl (Or.inl ⟨by rfl,?_⟩) hHeld ?_;rotate_left
        ·intro w' hSw;go_simp
         try with_reducible rfl
        try simp only[Act.put,zzA,zzE,zzF,yo,UM,zzD]
        refine tkY 16 ?_ rfl (Or.inl ⟨by rfl,?_⟩) hHeld ?_;rotate_left
        ·intro w' hSw;go_simp
         try with_reducible rfl
        try simp only[Act.put,zzA,zzE,zzF,yo,UM,zzD]
        refine tkY 17 ?_ rfl (Or.inl ⟨by rfl,?_⟩) hHeld ?_;rotate_left
        ·intro w' hSw;go_simp
         try with_reducible rfl
        try simp only[Act.put,zzA,zzE,zzF,yo,UM,zzD]
        refine tkY 18 ?_ rfl (Or.inl ⟨by rfl,?_⟩) hHeld ?_;rotate_left
        ·intro w' hSw;go_simp
         try with_reducible rfl
        try simp only[Act.put,zzA,zzE,zzF,yo,UM,zzD]
        refine tkX [20,21,29,30] 19 ?_ rfl (Or.inl ⟨by rfl,?_⟩) hHeld ?_;rotate_left
        ·intro w' hSw;obtain ⟨hS1,hS2,ig⟩:=hSw;go_simp
         try with_reducible rfl
        try simp only[Act.put,zzA,zzE,zzF,yo,UM,zzD]
        refine tkY 20 ?_ rfl (Or.inl ⟨by rfl,?_⟩) hHeld ?_;rotate_left
        ·intro w' hSw;go_simp
         try with_reducible rfl
        try simp only[Act.put,zzA,zzE,zzF,yo,UM,zzD]
        refine bu (i:=14) rfl (by kernel_rfl) (by rfl) (fun K hK=> ?_);go_simp;refine Ph.out.mono ?_;rintro e1 w4 ⟨rfl,rfl⟩;refine hK _ _ ⟨z0,z1,z2⟩ ?_;clear hK K hHeld;have hHeld:=(show (fun w':World=>w'.cell? ⟨b,0,none⟩=some (.slice (some ⟨gf,0,none⟩) p.fl.length cf)∧w'.cell? ⟨b,1,none⟩=some (.slice (some ⟨gd,0,none⟩) p.fl.length cd)∧w'.cell? ⟨b,2,none⟩=some (.int .i64 (N:Int))) wb.drew from ⟨z0,z1,z2⟩)
        try simp only[Act.put,zzA,zzE,zzF,yo,UM,zzD]
        refine tkY 21 ?_ rfl (Or.inl ⟨by rfl,?_⟩) hHeld ?_;rotate_left
        ·intro w' hSw;go_simp
         try with_reducible rfl
        try simp only[Act.put,zzA,zzE,zzF,yo,UM,zzD]
        refine tkY 22 undef rfl (Or.inr ⟨by rfl,rfl⟩) hHeld ?_
        try simp only[Act.put,zzA,zzE,zzF,yo,UM,zzD]
        refine tkY 23 undef rfl (Or.inr ⟨by rfl,rfl⟩) hHeld ?_
        try simp only[Act.put,zzA,zzE,zzF,yo,UM,zzD]
        refine tkY 24 undef rfl (Or.inr ⟨by rfl,rfl⟩) hHeld ?_
        try simp only[Act.put,zzA,zzE,zzF,yo,UM,zzD]
        refine tkY 25 undef rfl (Or.inr ⟨by rfl,rfl⟩) hHeld ?_
        try simp only[Act.put,zzA,zzE,zzF,yo,UM,zzD]
        refine tkY 26 undef rfl (Or.inr ⟨by rfl,rfl⟩) hHeld ?_
        try simp only[Act.put,zzA,zzE,zzF,yo,UM,zzD]
        refine tkY 27 undef rfl (Or.inr ⟨by rfl,rfl⟩) hHeld ?_
        try simp only[Act.put,zzA,zzE,zzF,yo,UM,zzD]
        refine tkY 28 undef rfl (Or.inr ⟨by rfl,rfl⟩) hHeld ?_
        try simp only[Act.put,zzA,zzE,zzF,yo,UM,zzD]
        refine tkY 29 ?_ rfl (Or.inl ⟨by rfl,?_⟩) hHeld ?_;rotate_left
        ·intro w' hSw;go_simp
         try with_reducible rfl
        try simp only[Act.put,zzA,zzE,zzF,yo,UM,zzD]
        refine aQ (i:=30) rfl (by kernel_rfl) (by kernel_rfl) (by rfl) (fun K hK=> ?_);go_simp;refine HP2.out.mono ?_;rintro e1 w4 ⟨T4,Uk,vr,rfl,D7,Ma,hK4,hq4⟩;refine hK _ _ ?_;clear hK K
        try simp only[Act.put,zzA,zzE,zzF,yo,UM,zzD]
        refine tkZ 31 ?_ rfl (Or.inl ⟨by rfl,?_⟩) ?_;rotate_left
        ·intro w' hSw;go_simp
         try with_reducible rfl
        try simp only[Act.put,zzA,zzE,zzF,yo,UM,zzD]
        refine tkZ 32 ?_ rfl (Or.inl ⟨by rfl,?_⟩) ?_;rotate_left
        ·intro w' hSw;go_simp
         try with_reducible rfl
        try simp only[Act.put,zzA,zzE,zzF,yo,UM,zzD]
        refine tkZ 33 ?_ rfl (Or.inl ⟨by rfl,?_⟩) ?_;rotate_left
        ·intro w' hSw;go_simp
         try with_reducible rfl
        try simp only[Act.put,zzA,zzE,zzF,yo,UM,zzD]
        refine tkZ 34 ?_ rfl (Or.inl ⟨by rfl,?_⟩) ?_;rotate_left
        ·intro w' hSw;go_simp
         try with_reducible rfl
        try simp only[Act.put,zzA,zzE,zzF,yo,UM,zzD]
        refine tkZ 35 ?_ rfl (Or.inl ⟨by rfl,?_⟩) ?_;rotate_left
        ·intro w' hSw;go_simp
         try with_reducible rfl
        try simp only[Act.put,zzA,zzE,zzF,yo,UM,zzD]
        refine aU (by kernel_rfl) ?_ _;simp only[NoPanic];go_wp2_with fail;go_meet;exact ⟨T4,Uk,rfl,D7,Ma,(Kept.refl _ wb).drew.trans hK4,hq4⟩
       ·have hiE:i=N:=by omega
        have hpt:=VF.out;rw[decide_eq_false GL,Bool.false_or] at hpt;have HP2:=Lib.hid hpt;have d1:decide (i<N)=false:=decide_eq_false GL;have hwi:IntKind.i64.wrap ((i:Int)-1)=(i:Int)-1:=IntWalk.i64_in _ (by omega);clear hpt VF hiE;refine wp_region_noPanic ?_;refine bM (fun w'=>w'.cell? ⟨b,0,none⟩=some (.slice (some ⟨gf,0,none⟩) p.fl.length cf)∧w'.cell? ⟨b,1,none⟩=some (.slice (some ⟨gd,0,none⟩) p.fl.length cd)∧w'.cell? ⟨b,2,none⟩=some (.int .i64 (N:Int))) [30] (by kernel_rfl) ?_;have hHeld:=(show (fun w':World=>w'.cell? ⟨b,0,none⟩=some (.slice (some ⟨gf,0,none⟩) p.fl.length cf)∧w'.cell? ⟨b,1,none⟩=some (.slice (some ⟨gd,0,none⟩) p.fl.length cd)∧w'.cell? ⟨b,2,none⟩=some (.int .i64 (N:Int))) wb.drew from ⟨z0,z1,z2⟩);refine tkY 0 ?_ rfl (Or.inl ⟨by rfl,?_⟩) hHeld ?_;rotate_left
        ·intro w' hSw;go_simp
         try with_reducible rfl
        try simp only[Act.put,zzA,zzE,yo,UM,zzD]
        refine tkY 1 ?_ rfl (Or.inl ⟨by rfl,?_⟩) hHeld ?_;rotate_left
        ·intro w' hSw;go_simp
         try with_reducible rfl
        try simp only[Act.put,zzA,zzE,zzF,yo,UM,zzD]
        refine tkY 2 ?_ rfl (Or.inl ⟨by rfl,?_⟩) hHeld ?_;rotate_left
        ·intro w' hSw;go_simp
         try with_reducible rfl
        try simp only[Act.put,zzA,zzE,zzF,yo,UM,zzD]
        refine tkY 3 ?_ rfl (Or.inl ⟨by rfl,?_⟩) hHeld ?_;rotate_left
        ·intro w' hSw;go_simp
         try with_reducible rfl
        try simp only[Act.put,zzA,zzE,zzF,yo,UM,zzD]
        refine tkX [8,30] 4 ?_ rfl (Or.inl ⟨by rfl,?_⟩) hHeld ?_;rotate_left
        ·intro w' hSw;obtain ⟨hS1,hS2,ig⟩:=hSw;go_simp
         try with_reducible rfl
        try simp only[Act.put,zzA,zzE,zzF,yo,UM,zzD]
        refine tkY 5 ?_ rfl (Or.inl ⟨by rfl,?_⟩) hHeld ?_;rotate_left
        ·intro w' hSw;go_simp
         try with_reducible rfl
        try simp only[Act.put,zzA,zzE,zzF,yo,UM,zzD]
        refine tkY 6 ?_ rfl (Or.inl ⟨by rfl,?_⟩) hHeld ?_;rotate_left
        ·intro w' hSw;go_simp
         try with_reducible rfl
        try simp only[Act.put,zzA,zzE,zzF,yo,UM,zzD]
        refine tkY 7 ?_ rfl (Or.inl ⟨by rfl,?_⟩) hHeld ?_;rotate_left
        ·intro w' hSw;go_simp
         try with_reducible rfl
        try simp only[Act.put,zzA,zzE,zzF,yo,UM,zzD]
        refine tkY 8 ?_ rfl (Or.inl ⟨by rfl,?_⟩) hHeld ?_;rotate_left
        ·intro w' hSw;go_simp
         try with_reducible rfl
        try simp only[Act.put,zzA,zzE,zzF,yo,UM,zzD]
        refine tkY 9 ?_ rfl (Or.inl ⟨by rfl,?_⟩) hHeld ?_;rotate_left
        ·intro w' hSw;go_simp
         try with_reducible rfl
        try simp only[Act.put,zzA,zzE,zzF,yo,UM,zzD]
        refine tkY 10 ?_ rfl (Or.inl ⟨by rfl,?_⟩) hHeld ?_;rotate_left
        ·intro w' hSw;go_simp
         try with_reducible rfl
        try simp only[Act.put,zzA,zzE,zzF,yo,UM,zzD]
        refine tkY 11 ?_ rfl (Or.inl ⟨by rfl,?_⟩) hHeld ?_;rotate_left
        ·intro w' hSw;go_simp
         try with_reducible rfl
        try simp only[Act.put,zzA,zzE,zzF,yo,UM,zzD]
        refine tkX [14,30] 12 ?_ rfl (Or.inl ⟨by rfl,?_⟩) hHeld ?_;rotate_left
        ·intro w' hSw;obtain ⟨hS1,hS2,ig⟩:=hSw;go_simp
         try with_reducible rfl
        try simp only[Act.put,zzA,zzE,zzF,yo,UM,zzD]
        refine tkY 13 ?_ rfl (Or.inl ⟨by rfl,?_⟩) hHeld ?_;rotate_left
        ·intro w' hSw;go_simp
         try with_reducible rfl
        try simp only[Act.put,zzA,zzE,zzF,yo,UM,zzD]
        refine tkY 15 ?_ rfl (Or.inl ⟨by rfl,?_⟩) hHeld ?_;rotate_left
        ·intro w' hSw;go_simp
         try with_reducible rfl
        try simp only[Act.put,zzA,zzE,zzF,yo,UM,zzD]
        refine tkY 16 ?_ rfl (Or.inl ⟨by rfl,?_⟩) hHeld ?_;rotate_left
        ·intro w' hSw;go_simp
         try with_reducible rfl
        try simp only[Act.put,zzA,zzE,zzF,yo,UM,zzD]
        refine tkY 17 ?_ rfl (Or.inl ⟨by rfl,?_⟩) hHeld ?_;rotate_left
        ·intro w' hSw;go_simp
         try with_reducible rfl
        try simp only[Act.put,zzA,zzE,zzF,yo,UM,zzD]
        refine tkY 18 ?_ rfl (Or.inl ⟨by rfl,?_⟩) hHeld ?_;rotate_left
        ·intro w' hSw;go_simp
         try with_reducible rfl
        try simp only[Act.put,zzA,zzE,zzF,yo,UM,zzD]
        refine tkX [20,21,29,30] 19 ?_ rfl (Or.inl ⟨by rfl,?_⟩) hHeld ?_;rotate_left
        ·intro w' hSw;obtain ⟨hS1,hS2,ig⟩:=hSw;go_simp
         try with_reducible rfl
        try simp only[Act.put,zzA,zzE,zzF,yo,UM,zzD]
        refine tkY 20 ?_ rfl (Or.inl ⟨by rfl,?_⟩) hHeld ?_;rotate_left
        ·intro w' hSw;go_simp
         try with_reducible rfl
        try simp only[Act.put,zzA,zzE,zzF,yo,UM,zzD]
        refine bu (i:=14) rfl (by kernel_rfl) (by rfl) (fun K hK=> ?_);go_simp;refine Ph.out.mono ?_;rintro e1 w4 ⟨rfl,rfl⟩;refine hK _ _ ⟨z0,z1,z2⟩ ?_;clear hK K hHeld;have hHeld:=(show (fun w':World=>w'.cell? ⟨b,0,none⟩=some (.slice (some ⟨gf,0,none⟩) p.fl.length cf)∧w'.cell? ⟨b,1,none⟩=some (.slice (some ⟨gd,0,none⟩) p.fl.length cd)∧w'.cell? ⟨b,2,none⟩=some (.int .i64 (N:Int))) wb.drew from ⟨z0,z1,z2⟩)
        try simp only[Act.put,zzA,zzE,zzF,yo,UM,zzD]
        refine tkY 21 ?_ rfl (Or.inl ⟨by rfl,?_⟩) hHeld ?_;rotate_left
        ·intro w' hSw;go_simp
         try with_reducible rfl
        try simp only[Act.put,zzA,zzE,zzF,yo,UM,zzD]
        refine tkY 22 ?_ rfl (Or.inl ⟨by rfl,?_⟩) hHeld ?_;rotate_left
        ·intro w' hSw;go_simp
         try with_reducible rfl
        try simp only[Act.put,zzA,zzE,zzF,yo,UM,zzD]
        refine tkY 23 ?_ rfl (Or.inl ⟨by rfl,?_⟩) hHeld ?_;rotate_left
        ·intro w' hSw;go_simp
         try with_reducible rfl
        try simp only[Act.put,zzA,zzE,zzF,yo,UM,zzD]
        refine tkY 24 ?_ rfl (Or.inl ⟨by rfl,?_⟩) hHeld ?_;rotate_left
        ·intro w' hSw;go_simp
         try with_reducible rfl
        try simp only[Act.put,zzA,zzE,zzF,yo,UM,zzD]
        refine tkX [28,29,30] 25 ?_ rfl (Or.inl ⟨by rfl,?_⟩) hHeld ?_;rotate_left
        ·intro w' hSw;obtain ⟨hS1,hS2,ig⟩:=hSw;go_simp
         try with_reducible rfl
        try simp only[Act.put,zzA,zzE,zzF,yo,UM,zzD]
        refine tkY 26 ?_ rfl (Or.inl ⟨by rfl,?_⟩) hHeld ?_;rotate_left
        ·intro w' hSw;go_simp
         try with_reducible rfl
        try simp only[Act.put,zzA,zzE,zzF,yo,UM,zzD]
        refine tkY 27 ?_ rfl (Or.inl ⟨by rfl,?_⟩) hHeld ?_;rotate_left
        ·intro w' hSw;go_simp
         try with_reducible rfl
        try simp only[Act.put,zzA,zzE,zzF,yo,UM,zzD]
        refine bu (i:=28) rfl (by kernel_rfl) (by rfl) (fun K hK=> ?_);go_simp;refine aav.out.mono ?_;rintro e1 w4 ⟨rfl,rfl⟩;refine hK _ _ ⟨z0,z1,z2⟩ ?_;clear hK K hHeld;have hHeld:=(show (fun w':World=>w'.cell? ⟨b,0,none⟩=some (.slice (some ⟨gf,0,none⟩) p.fl.length cf)∧w'.cell? ⟨b,1,none⟩=some (.slice (some ⟨gd,0,none⟩) p.fl.length cd)∧w'.cell? ⟨b,2,none⟩=some (.int .i64 (N:Int))) wb.drew from ⟨z0,z1,z2⟩)
        try simp only[Act.put,zzA,zzE,zzF,yo,UM,zzD]
        refine tkY 29 ?_ rfl (Or.inl ⟨by rfl,?_⟩) hHeld ?_;rotate_left
        ·intro w' hSw;go_simp
         try with_reducible rfl
        try simp only[Act.put,zzA,zzE,zzF,yo,UM,zzD]
        refine aQ (i:=30) rfl (by kernel_rfl) (by kernel_rfl) (by rfl) (fun K hK=> ?_);go_simp;refine HP2.out.mono ?_;rintro e1 w4 ⟨T4,Uk,vr,rfl,D7,Ma,hK4,hq4⟩;refine hK _ _ ?_;clear hK K
        try simp only[Act.put,zzA,zzE,zzF,yo,UM,zzD]
        refine tkZ 31 ?_ rfl (Or.inl ⟨by rfl,?_⟩) ?_;rotate_left
        ·intro w' hSw;go_simp
         try with_reducible rfl
        try simp only[Act.put,zzA,zzE,zzF,yo,UM,zzD]
        refine tkZ 32 ?_ rfl (Or.inl ⟨by rfl,?_⟩) ?_;rotate_left
        ·intro w' hSw;go_simp
         try with_reducible rfl
        try simp only[Act.put,zzA,zzE,zzF,yo,UM,zzD]
        refine tkZ 33 ?_ rfl (Or.inl ⟨by rfl,?_⟩) ?_;rotate_left
        ·intro w' hSw;go_simp
         try with_reducible rfl
        try simp only[Act.put,zzA,zzE,zzF,yo,UM,zzD]
        refine tkZ 34 ?_ rfl (Or.inl ⟨by rfl,?_⟩) ?_;rotate_left
        ·intro w' hSw;go_simp
         try with_reducible rfl
        try simp only[Act.put,zzA,zzE,zzF,yo,UM,zzD]
        refine tkZ 35 ?_ rfl (Or.inl ⟨by rfl,?_⟩) ?_;rotate_left
        ·intro w' hSw;go_simp
         try with_reducible rfl
        try simp only[Act.put,zzA,zzE,zzF,yo,UM,zzD]
        refine aU (by kernel_rfl) ?_ _;simp only[NoPanic];go_wp2_with fail;go_meet;exact ⟨T4,Uk,rfl,D7,Ma,(Kept.refl _ wb).drew.trans hK4,hq4⟩
      case rest=>
      obtain ⟨T4,Uk,hs7,D7,Ma,hK4,hq4⟩:=hcut;have hkeep:∀k,k≠g→k<wb.heap.size→wc.heap[k]? =wb.heap[k]? :=fun k hk hlt=>by
       obtain ⟨o,ho⟩:∃o,wb.heap[k]? =some o:=⟨_,Array.getElem?_eq_getElem hlt⟩
       rw[ho];exact hK4.same k o ho hk
      have hg3:=HR3.out.tg;have hKm:Kept (MT T3) wb wc:=hK4.mono fun k o e=>by rw[e];unfold MT;omega
      have hwb:=lI.out.size;have hs5:pE wc b p (.slice (some ⟨gf,0,none⟩) p.fl.length cf) (.slice (some ⟨gd,0,none⟩) p.fl.length cd):=Au.out.stay (hkeep b HBG.out Au.out.blk.lt) (fun k hk=>hkeep k (fun e=>by have:=HA2.out k hk;rw[e] at this;omega) (Au.out.fr.lt k hk).2) (fun k hk=>hkeep k (fun e=>by have:=vw.out k hk;rw[e] at this;omega) (Au.out.dr.lt k hk).2);have uf:=P8.out.stay hKm Ma;have Km:=jr.trans lI.out hKm HT3.out;have Aw:∀k,k<w.heap.size→T4 k=T k:=fun k hk=>(Ma k (by omega)).trans (HT3.out k hk)
      have aax:T4 b=3*st1.next+4:=(Ma b Au.out.blk.lt).trans HA1.out
      have aay:∀j,(Value.slice (some ⟨gf,0,none⟩) p.fl.length cf).ownBlock=some j→T4 j=3*st1.next+5:=fun j hj=>(Ma j (Au.out.fr.lt j hj).2).trans (HA2.out j hj)
      have aaz:∀j,(Value.slice (some ⟨gd,0,none⟩) p.fl.length cd).ownBlock=some j→T4 j=3*st1.next+6:=fun j hj=>(Ma j (Au.out.dr.lt j hj).2).trans (vw.out j hj)
      have afA:w1.heap.size≤wc.heap.size:=Nat.le_trans Wp hK4.size;have Bq:=Lib.hid D7;have Qh:=Lib.hid hs5;have Pb:=Lib.hid uf;have sI:=Lib.hid Km;have Ii:=Lib.hid Aw;have HB1:=Lib.hid aax;have HB2:=Lib.hid aay;have HB3:=Lib.hid aaz;have ni:=IZ.out;subst hs7;clear D7 Ma hK4 hkeep hKm hs5 uf Km Aw aax aay aaz HR3 Au P8 lI HT3 HA1 HA2 vw Ph IZ;cases hro:RP.2.2 with
      |nil=>
       rw[hro] at ni;rw[List.nil_append] at ni;have NR:=Lib.hid ni;clear ni hq4 hro Lu;generalize RP.1=op9 at*;generalize RP.2.1=sm9 at*;rw[show (!([]:List (List UInt8)).isEmpty)=false from rfl];go_wp2_with fail
       go_roundg gk'
       case measure=>omega
       case rel=>
        exact ⟨i+1,i,op9,sm9,ol,T4,Uk,_,rfl,rfl,by go_num,by have:=HKI.out;omega,by omega,by omega,Bq.out,VN,Ii.out,sI.out,Pb.out,NR.out,by have:=HOB.out;omega,Qh.out,HB1.out,HBG.out,HB2.out,HB3.out,afA⟩
      |cons q r=>
       have hr0:r= []:=by
        rw[hro] at Lu;simp at Lu;exact Lu
       subst hr0;obtain ⟨hqr,Ie⟩:=hq4 q hro;rw[hro] at ni;rw[←List.append_assoc] at ni;obtain ⟨Aq,cq,rfl,Tq,-⟩:=aP hqr;obtain ⟨ZL,zL,Pj,Pk⟩:=Pb.out;obtain ⟨j0,hj0,hm0,hm1,hm2⟩:=info_parts lD;have NR:=Lib.hid ni;have HQR:=Lib.hid hqr;have HQT:=Lib.hid Ie;clear ni hq4 hro Lu hqr Ie Tq;generalize RP.1=op9 at*;generalize RP.2.1=sm9 at*;rw[show (![q].isEmpty)=true from rfl];go_wp2_with (at_builtin;refine dM _ rfl (.tmp 86) (.tmp 88) 34 rfl w.heap.size 22 j0 (.slice none 0 0) 24 und22 hj0 hm0 hm1 hm2 rfl _ ol.length ZL rfl (zL.alloc _) _ (some ⟨wc.heap.size,0,none⟩) 1 1 [.slice Aq q.length cq] rfl (rH (xs:= [.slice Aq q.length cq]) (lY wc _) rfl (by simp)) (by simp[Value.oneCell']) ?c2 ?c3 ?c4 ?_)
       case c2=>unfold maxLen;omega
       case c3=>omega
       case c4=>have:=sI.out.size;simp;omega
       intro v6 w6 hown6 jg hv6;have hfr:∀k,wc.heap.size≤k→T4 k=0:=fun k hk=>by
        rcases Nat.eq_zero_or_pos (T4 k) with e|e
        ·exact e
        ·have:=Bq.out.lt k (by omega);omega
       have aaA:∀k,v6.ownBlock=some k→T4 k=0:=fun k hk=>by
        rcases hv6 with e|e
        ·exact Pj k (e ▸ hk)
        ·rw[e] at hk;cases hk;exact hfr _ (by simp)
       have yS:=dG.push zL Pj Pk (aW HQR.out hwb) HQT.out hown6 jg aaA;have Ia:=(Bq.out.alloc (.cells #[.slice Aq q.length cq] 22)).grown jg Pj;have hsA:=Qh.out.stay (w':=wc.alloc (.cells #[.slice Aq q.length cq] 22)) (Below.heap_alloc wc _ b Qh.out.blk.lt) (fun k hk=>Below.heap_alloc wc _ k (Qh.out.fr.lt k hk).2) (fun k hk=>Below.heap_alloc wc _ k (Qh.out.dr.lt k hk).2);have hne:∀k,T4 k≠0→some k≠(Value.slice Av2 ol.length cv2).ownBlock:=fun k hk e=>hk (Pj k e.symm)
       have hs6:=hsA.stay (w':=w6) (jg.block b hsA.blk.lt (hne b (by rw[HB1.out];omega))) (fun k hk=>jg.block k (hsA.fr.lt k hk).2 (hne k (by rw[HB2.out k hk];omega))) (fun k hk=>jg.block k (hsA.dr.lt k hk).2 (hne k (by rw[HB3.out k hk];omega)));have Uh:=(sI.out.alloc (.cells #[.slice Aq q.length cq] 22)).grown jg (fun k e o ho=>by have:=(zL.lt k e).1;have:=lt_of_heap ho;omega);have afD:w1.heap.size≤w6.heap.size:=by have:=jg.size;simp at this;omega
       have HO6:=Lib.hid yS;have Ov:=Lib.hid Ia;have HS6:=Lib.hid hs6;have wm:=Lib.hid Uh;obtain ⟨A6,c6,rfl,-,-⟩:=aP hown6;clear hfr aaA yS Ia hsA hne hs6 Uh hown6 jg hv6 zL Pj Pk Bq Qh Pb sI;go_wp2_with fail
       go_roundg gk'
       case measure=>omega
       case rel=>
        refine ⟨i+1,i,op9,sm9,ol++ [q],T4,Uk,_,rfl,rfl,by go_num,by have:=HKI.out;omega,by omega,by omega,Ov.out,VN,Ii.out,wm.out,HO6.out,NR.out,?_,HS6.out,HB1.out,HBG.out,HB2.out,HB3.out,afD⟩;have:=HOB.out;rw[List.length_append,List.length_singleton];omega
    ·have uQ:gk=0:=by omega
     subst uQ;have GL:¬(i:Int)≤(N:Int):=by omega
     have ni:=hfin;unfold nH at ni;dsimp only at ni;rw[List.append_nil] at ni;have Ld:=FD.out;rw[ni] at Ld;simp only[Prod.mk.injEq] at Ld;obtain ⟨he1,he2,ZI⟩:=Ld;obtain ⟨y3,y4,y7,y8,y9,Ah,OB,rP,y13,Ci,Hz,vZ,NI,DI⟩:=hR.cells;have U7:=Lib.hid he1;have HE2:=Lib.hid he2;have HE3:=Lib.hid ZI;obtain ⟨F,hF1,hF2⟩:=hR.drew.mp;have Qq:=Lib.hid hF1;have HFM:=Lib.hid hF2;have hn9:st1.next≤1023:=hn2
     clear hfin ni he1 he2 ZI hR hT3 hK hs t1 t2 t3 hol hki hrow XT C9 hsv hF1 hF2 y3 y4 y9 Ah OB rP y13 Ci Hz vZ NI DI hfi hi1 Wp;go_upto_region 13 with (fail)
     refine wp_region_still_tail 8 lG (by kernel_rfl) ?_;simp only[List.take_succ_cons,List.take_zero,List.drop_succ_cons,List.drop_zero]
     repeat still_step
     refine wpStill_nil ?_;change wpList _ _ _ _ _ wr.drew;refine uy _ rfl _ _ 31 3 rfl 86 uz xM M n F rfl Qq.out st1.next rfl (by omega) ?_
     intro w5 TP hg5;have hm5:=HM.out;have Ls:gH w5 T3 g M n c {{st1 with op:=op,sm:=sm} with m:=eZ st1.m st1.next none} vo3:=HR3.out.drew.Sg hg5 TP fun k=>by
      have hkk:=HFM.out k;unfold eZ Eg;by_cases e:k=st1.next
      ·rw[if_pos e,if_pos e];exact ⟨fun _=>rfl,fun _ hh=>by cases hh⟩
      ·rw[if_neg e,if_neg e];exact hkk
     have Ia:=Ls.put 8 (.int .i64 (dN st1.next:Nat)) (st':= {st1 with op:=op,sm:=sm,m:=eZ st1.m st1.next none,next:=dN st1.next}) rfl rfl rfl;have XU:=HR3.out.tM;have hTG:=HR3.out.tg;have Uh:Kept (MT T) w w5:=jr.trans lI.out ((Kept.refl _ wr).drew.grown hg5 (fun k e o ho=>by cases e;unfold MT;omega)) HT3.out;have hTg:T g=1:=HH.out.tg;have Nv:=Uh.setCell (p:=⟨g,8,none⟩) (fun o _=>by unfold MT;show T g≠0;omega) (.int .i64 (dN st1.next:Nat));have uf:dG w5 w.heap.size T3 (.slice Av2 ol.length cv2) ol:=P8.out.stay ((Kept.refl _ wr).drew.grown hg5 (fun k e o ho=>by cases e;show T3 M≠0;omega)) (fun k _=>rfl);have Kj:dG (w5.setCell ⟨g,8,none⟩ (.int .i64 (dN st1.next:Nat))) w.heap.size T3 (.slice Av2 ol.length cv2) ol:=uf.stay ((Kept.refl _ w5).setCell (p:=⟨g,8,none⟩) (fun o _=>by show T3 g≠0;omega) (.int .i64 (dN st1.next:Nat))) (fun k _=>rfl);have hand:bits BinOp.and IntKind.i64 ((st1.next:Int)+1) 1023=((dN st1.next:Nat):Int):=by rw[qK];unfold dN;omega
     have y8':w5.cell? ⟨g,8,none⟩=some (.int .i64 (st1.next:Nat)):=Ls.cells.2.2.2.1;have f8:=Ls.blk.frozen 8;have Se:=Lib.hid Ia;have HO7:=Lib.hid Kj;have MN:=Lib.hid Nv;clear y7 y8 Ls Uh Nv uf Kj Ia XU hTG hTg hm5 TP hg5 P8 lI HR3 Qq HFM hiN GL;go_upto_region 3 with (fail)
     generalize w5.setCell ⟨g,8,none⟩ (.int .i64 (dN st1.next:Nat))=w7 at*;have hs7:({st1 with op:=op,sm:=sm,m:=eZ st1.m st1.next none,next:=dN st1.next}:Rc)=wV st1 p:=by rw[U7.out,HE2.out];rfl
     have KD:=Se.out;rw[hs7] at KD;have Ws:dL (wV st1 p):=BM.out.one HM.out;have hfn:=NF.out;rw[←List.append_assoc,←HE3.out] at hfn;have hn7:=Ws.n1;obtain ⟨v7,hl7,hv7⟩:=KD.drew.look hn7;obtain ⟨_,_,y7,y8,_⟩:=KD.cells;have MP:=Lib.hid KD;have afE:=Lib.hid Ws;have afF:=Lib.hid hfn;have HV8:=Lib.hid hv7;clear hs7 KD Ws hfn hv7 f8 y8' hand Se BM NF;refine wp_region_still_tail 8 lG (by kernel_rfl) ?_;simp only[List.take_succ_cons,List.take_zero,List.drop_succ_cons,List.drop_zero]
     repeat still_step
     refine wpStill_nil ?_;change wpList _ _ _ _ _ w7.drew;generalize wV st1 p=st2 at*;go_wp2_with fail
     go_roundg f
     case measure=>omega
     case rel=>
      refine ⟨j-1,st2,ol,T3,vo3,_,rfl,MP.out.drew,afE.out,HT3.out,MN.out.drew,HO7.out.drew,afF.out,?_,?_,afr.out,?_⟩
      ·have h1:=HOB.out;have h2:=aas.out;omega
      ·have h1:=HJ.out;have h2:=ZR.out;omega
      ·exact HV8.out
end
end
section
open Go.RowKit Go.Shelf
theorem JK (bo be:Nat) (w:World):
 CallsD Tryz.prog 32 #[.pointer (some ⟨bo,0,none⟩),.pointer (some ⟨be,0,none⟩)] .returning w fun e u' w'=>e= .returned (.tuple #[])∧u'= .returning∧w=w':=by
 have hnn:=run_eql_nil_nil (P:=Tryz.prog) w (t:=20) (by kernel_rfl);refine callsD_of_wpS Tryz.func32 rfl fun c₀ cs hu=> ?_
 apply wpS_seq;apply wpS_region;generalize hQ:Exit.thenS _ _=Q;simp[wpOpsS,go_sem,recoverD,hu,Tryz.ntmps32];subst hQ;simp only[Exit.thenS];refine wpS_of_wp ?_;change Code.wp _ _ (qQ Tryz.prog Tryz.f32 c₀ cs (c₀::cs) _) {tmps:= #[.pointer (some ⟨bo,0,none⟩),.pointer (some ⟨be,0,none⟩),.nilIface,undef,undef,.nilIface,undef,undef,undef,undef,undef,undef,undef,undef,undef,undef,undef],defers:= []} w;go_wp2;cases c₀
 simp_all [qQ,bodyPostS,results,Tryz.results32]
set_option maxHeartbeats 800000 in
set_option maxRecDepth 100000 in
theorem Eu (bo be:Nat) (er:Int) (v0 v1:Value) (w:World) (hp:aA w bo 34 #[v0]) (he:aA w be 35 #[v1]) (hne:be≠bo):
 CallsD Tryz.prog 32 #[.pointer (some ⟨bo,0,none⟩),.pointer (some ⟨be,0,none⟩)] (.panicking [{v:= .iface 35 (.int .i64 er),recovered:=false}]) w fun e u' w'=>e= .returned (.tuple #[])∧u'= .panicking [{v:= .iface 35 (.int .i64 er),recovered:=true}]∧
  aA w' bo 34 #[.slice none 0 0]∧aA w' be 35 #[.int .i64 er]∧Kept (fun k _=>k=bo∨k=be) w w':=by
 have hnn:=run_eql_held_nil (P:=Tryz.prog) w 20 35 (.int .i64 er) (by kernel_rfl);have hta:=sW er w;refine callsD_of_wpS Tryz.func32 rfl fun c₀ cs hu=> ?_
 apply wpS_seq;apply wpS_region;generalize hQ:Exit.thenS _ _=Q;simp[wpOpsS,go_sem,recoverD,hu,Tryz.ntmps32];subst hQ;simp only[Exit.thenS];refine wpS_of_wp ?_;change Code.wp _ _ (qQ Tryz.prog Tryz.f32 c₀ cs _ _) {tmps:= #[.pointer (some ⟨bo,0,none⟩),.pointer (some ⟨be,0,none⟩),.iface 35 (.int .i64 er),undef,undef,.iface 35 (.int .i64 er),undef,undef,undef,undef,undef,undef,undef,undef,undef,undef,undef],defers:= []} w;have c0:=hp.cell 0;have f0:=hp.frozen 0;have c1:=he.cell 0;have f1:=he.frozen 0;simp at c0 c1;go_wp2;refine ⟨rfl,_,rfl,.tuple #[],by simp[results,Tryz.results32],rfl,rfl,?_,?_,?_⟩
 ·have:=(hp.aC 0 (.slice none 0 0)).far (p:=⟨be,0,none⟩) (fun e=>hne e.symm) (.int .i64 er);simpa using this
 ·have:=(he.far (p:=⟨bo,0,none⟩) hne (.slice none 0 0)).aC 0 (.int .i64 er);simpa using this
 ·exact ((Kept.refl _ w).setCell (p:=⟨bo,0,none⟩) (fun _ _=> .inl rfl) _).setCell (p:=⟨be,0,none⟩) (fun _ _=> .inr rfl) _
theorem zM {Q:Ending→World→Prop} (a b:Nat) (er:Int) (W:World) (T:Array Value) (v0 v1:Value) (h6:T[6]? =some (.pointer (some ⟨a,0,none⟩))) (h7:T[7]? =some (.pointer (some ⟨b,0,none⟩))) (hne:b≠a)
 (hp:aA W a 34 #[v0]) (he:aA W b 35 #[v1]) (hQ:∀W',Kept (fun k _=>k=a∨k=b) W W'→Q (.returned (.tuple #[.slice none 0 0,.int .i64 er])) W'):
 bodyPostD Tryz.prog Tryz.f8 Q (.panic [{v:= .iface 35 (.int .i64 er),recovered:=false}]) {tmps:=T,defers:= [{target:= .fn (.func 32) #[.pointer (some ⟨a,0,none⟩),.pointer (some ⟨b,0,none⟩)],args:= #[]}]} W:=by
 refine leaves_cons (f:=32) (args:= #[.pointer (some ⟨a,0,none⟩),.pointer (some ⟨b,0,none⟩)]) (by simp) (by simp[go_sem]) ?_;refine (Eu _ _ er _ _ W hp he hne).mono ?_;rintro e u' w'' ⟨rfl,rfl,hp',he',hk⟩;have c0:=hp'.cell 0;have c1:=he'.cell 0;simp at c0 c1;refine ⟨.tuple #[.slice none 0 0,.int .i64 er],?_,hQ _ hk⟩;simp[results,Tryz.results8,go_sem,h6,h7,c0,c1]
theorem om {Q:Ending→World→Prop} (a b:Nat) (W:World) (T:Array Value) (v0 v1:Value) (h6:T[6]? =some (.pointer (some ⟨a,0,none⟩))) (h7:T[7]? =some (.pointer (some ⟨b,0,none⟩)))
 (hp:aA W a 34 #[v0]) (he:aA W b 35 #[v1]) (hQ:Q (.returned (.tuple #[v0,v1])) W):
 bodyPostD Tryz.prog Tryz.f8 Q .ret {tmps:=T,defers:= [{target:= .fn (.func 32) #[.pointer (some ⟨a,0,none⟩),.pointer (some ⟨b,0,none⟩)],args:= #[]}]} W:=by
 refine leaves_cons (f:=32) (args:= #[.pointer (some ⟨a,0,none⟩),.pointer (some ⟨b,0,none⟩)]) (by simp) (by simp[go_sem]) ?_;refine (JK _ _ _).mono ?_;rintro e9 u9 w9 ⟨rfl,rfl,rfl⟩;have c0:=hp.cell 0;have c1:=he.cell 0;simp at c0 c1;refine ⟨.tuple #[v0,v1],?_,hQ⟩;simp[results,Tryz.results8,go_sem,h6,h7,c0,c1]
structure Si (x:iN):Prop where
 sn:x.sn≤1023
 len:x.ps.length≤64
 pos:1≤x.ps.length
 sum:x.off+au x.ps≤32767
theorem Da {x:iN} (h:eP (x.sn:Nat) x.sg x.la (x.off:Nat) x.ps=true) (h0:x.sg=false→x.off=0):Si x:=by
 unfold eP l8 at h;simp only[List.all_cons,List.all_nil,Bool.and_true,id,Bool.and_eq_true,decide_eq_true_eq] at h;obtain ⟨h1,h2,h3⟩:=h;unfold nk lS at h2;simp only[List.all_cons,List.all_nil,Bool.and_true,id,Bool.and_eq_true,decide_eq_true_eq] at h2;obtain ⟨⟨h4,h5⟩,_,_,h6⟩:=h2;refine ⟨by omega,h5,h4,?_⟩;cases hs:x.sg with
 |false=>rw[h0 hs];omega
 |true=>
  rw[hs] at h3;simp only[if_true,decide_eq_true_eq] at h3;omega
theorem KE {bs:List UInt8} {x:iN} (h:oZ bs= .inr x):Si x:=by
 unfold oZ at h;split at h
 ·cases h
 ·split at h
  ·cases h
  ·split at h
   ·split at h
    ·cases h
    ·split at h
     ·cases h
     ·split at h
      ·rename_i hv;cases h;exact Da hv (fun e=>by cases e)
      ·cases h
   ·split at h
    ·cases h
    ·split at h
     ·rename_i hv;cases h;exact Da hv (fun _=>rfl)
     ·cases h
theorem Mb (p:Sp) (x:iN) (hl:p.da.length=p.fl.length):(dO p x).da.length=(dO p x).fl.length∧(dO p x).fl.length=max p.fl.length (jy x):=by
 unfold dO;dsimp only;have h:=mY (dB x.s x.e x.ps.length 0 x.ps) x.off (iw (jy x) p.fl,nG (jy x) p.da);rw[h.1,h.2];dsimp only;unfold iw nG;simp only[List.length_append,List.length_replicate];omega
theorem wX.take {p:Sp} (h:wX p) {x:iN} (hx:Si x):wX (dO p x):=by
 have hl:=Mb p x h.ll;have he:jy x≤32767:=hx.sum;have h1:=h.le;refine ⟨hl.1,by omega,fun k hk=> ?_⟩;have hk2:(if uk x=true then some (jy x) else p.size)=some k:=hk;split at hk2
 ·cases hk2;exact he
 ·exact h.sz k hk2
theorem aaB:wX zm:=⟨rfl,by simp[zm],fun k hk=>by simp[zm] at hk⟩
theorem dL.get {st:Rc} (ho:dL st) (k:Nat):wX (fE st k):=by
 unfold fE;cases hm:st.m k with
 |none=>exact aaB
 |some p=>exact (ho.m k p hm).2.2
theorem dL.Sj {st:Rc} (ho:dL st) {x:iN} (hx:Si x) (hp:bD st x.sn<512):dL (kL st x (fE st x.sn)):=by
 have h1:=hx.sn;have hg:=(ho.get x.sn).take hx;refine ⟨ho.n1,uD _ _ _ ho.n2,?_,ho.n4,fun k q hk=> ?_,ho.op,ho.t1,ho.t2⟩
 ·unfold kL;dsimp only;split
  ·unfold dN;omega
  ·exact ho.n3
 ·have hk2:(if k=x.sn then some (dO (fE st x.sn) x) else st.m k)=some q:=hk;split at hk2
  ·rename_i e;cases hk2;subst e;exact ⟨h1,hp,hg⟩
  ·exact ho.m k q hk2
theorem dL.uq:∀(f:Nat) {st:Rc},dL st→dL (bR f st).1
 |0,_,ho=>ho
 |f+1,st,ho=>by
  unfold bR;cases hm:st.m st.next with
  |none=>exact ho
  |some p=>
   dsimp only;split
   ·exact dL.uq f (ho.one hm)
   ·exact ho
theorem dL.afG {st:Rc} (ho:dL st) (c:Cf):dL (zn c st):=by
 unfold zn;dsimp only;have h1:dL {st with ro:=false}:=⟨ho.n1,ho.n2,ho.n3,ho.n4,ho.m,ho.op,ho.t1,ho.t2⟩;generalize hs:(if bD st st.gu=0∨512<bD st st.gu then {st with ro:=false} else st)=s1;have h2:dL s1:=by
  rw[←hs];split
  ·exact h1
  ·exact ho
 split
 ·exact h2.waits c
 ·exact h2
theorem dL.due {st:Rc} (ho:dL st) (b:Bool):dL {st with due:=b}:=⟨ho.n1,ho.n2,ho.n3,ho.n4,ho.m,ho.op,ho.t1,ho.t2⟩
theorem dL.recv {st:Rc} (ho:dL st) (c:Cf) {now:Int} (hn:now≤9223372036854775807) (bs:List UInt8):dL (bX c st now bs).1:=by
 have hg:=ho.goes c hn;unfold bX;cases hd:oZ bs with
 |inl er=>exact hg
 |inr x=>
  have hx:=KE hd;unfold ul;dsimp only;split
  ·exact hg.due _
  ·rename_i hp;split
   ·exact hg
   ·exact ((hg.Sj hx (by omega)).uq 1024).afG c
section
variable {w w' W W' W2:World} {T T':Nat→Nat} {g M n:Nat} {c:Cf} {st:Rc} {vo v:Value}
theorem gH.stored {sp':Sp} {vf vd kY kS:Value} {b sn n2:Nat} {F:Nat→Option Value} (h:gH W T g M n c st vo) (hbl:b<W.heap.size)
 (hb:T b=0∨T b=3*sn+4) (hf:∀k,vf.ownBlock=some k→T k=3*sn+5) (hd:∀k,vd.ownBlock=some k→T k=3*sn+6)
 (hS:pE W' b sp' kY kS) (hf':∀k,kY.ownBlock=some k→vf.ownBlock=some k∨W.heap.size≤k) (hd':∀k,kS.ownBlock=some k→vd.ownBlock=some k∨W.heap.size≤k)
 (hk:Kept (Ug b vf vd) W W') (hFm:∀k,(st.m k=none→F k=none)∧∀p,st.m k=some p→∃b vf vd,F k=some (.pointer (some ⟨b,0,none⟩))∧pE W b p vf vd∧T b=3*k+4∧(∀j,vf.ownBlock=some j→T j=3*k+5)∧(∀j,vd.ownBlock=some j→T j=3*k+6))
 (hF2:iP Tryz.prog 3 W2 M n2 (Eg F sn (some (.pointer (some ⟨b,0,none⟩))))) (hg:W'.grownBy W2 (some M)):
 ∃T',gH W2 T' g M n2 c {st with m:=eZ st.m sn (some sp')} vo∧(∀k,k<W.heap.size→k≠b→T' k=T k)∧(T b≠0→T' b=T b):=by
 have hz:=hk.size;have hz2:=hg.size;have XU:=h.tM;have hrow:=qX hS.fr hS.dr (by decide);have hzero:∀k,W.heap.size≤k→T k=0:=fun k hk=>by
  rcases Nat.eq_zero_or_pos (T k) with e|e
  ·exact e
  ·have:=h.lt k (by omega);omega
 have key:∀j,T j≠0→(T j<3*sn+4∨3*sn+6<T j)→T j≠2→W2.heap[j]? =W.heap[j]? :=fun j h0 h1 h2=>by
  have hl:=h.lt j h0;have e1:W2.heap[j]? =W'.heap[j]? :=hg.block j (by omega) (fun e=>by cases e;exact h2 XU);have e2:W.heap[j]? =some W.heap[j]:=Array.getElem?_eq_getElem hl;rw[e1,e2];refine hk.same j _ e2 fun hm=> ?_
  rcases hm with rfl|e|e
  ·omega
  ·have:=hf j e;omega
  ·have:=hd j e;omega
 have Wt:∀j,j<W'.heap.size→j≠M→W2.heap[j]? =W'.heap[j]? :=fun j hl hM=>hg.block j hl (fun e=>by cases e;exact hM rfl)
 have hbT:∀j,j=b∨kY.ownBlock=some j∨kS.ownBlock=some j→j≠M:=fun j hj e=>by
  subst e;rcases hj with rfl|e|e
  ·omega
  ·rcases hf' _ e with e|e
   ·have:=hf _ e;omega
   ·have:=hzero _ e;omega
  ·rcases hd' _ e with e|e
   ·have:=hd _ e;omega
   ·have:=hzero _ e;omega
 refine ⟨fun k=>if T k≠0 then T k else if k=b then 3*sn+4 else if W.heap.size≤k∧kY.ownBlock=some k then 3*sn+5 else if W.heap.size≤k∧kS.ownBlock=some k then 3*sn+6 else 0,?_,?_,?_⟩
 ·have hT:∀k,T k≠0→(if T k≠0 then T k else if k=b then 3*sn+4 else if W.heap.size≤k∧kY.ownBlock=some k then 3*sn+5 else if W.heap.size≤k∧kS.ownBlock=some k then 3*sn+6 else 0)=T k:=fun k hh=>if_pos hh
  refine ⟨?_,(hT g (by rw[h.tg];omega)).trans h.tg,(hT M (by omega)).trans XU,fun k hh=> ?_,?_,fun k e=> ?_,Eg F sn (some (.pointer (some ⟨b,0,none⟩))),hF2,fun k=>⟨fun hm=> ?_,fun q hq=> ?_⟩⟩
  ·exact (key g (by rw[h.tg];omega) (by rw[h.tg];omega) (by rw[h.tg];omega)).trans h.blk
  ·by_cases h0:T k≠0
   ·have:=h.lt k h0;omega
   ·rw[if_neg h0] at hh;by_cases hkb:k=b
    ·omega
    ·rw[if_neg hkb] at hh;by_cases h1:W.heap.size≤k∧kY.ownBlock=some k
     ·have:=(hS.fr.lt k h1.2).2;omega
     ·rw[if_neg h1] at hh;by_cases h2:W.heap.size≤k∧kS.ownBlock=some k
      ·have:=(hS.dr.lt k h2.2).2;omega
      ·rw[if_neg h2] at hh;exact absurd rfl hh
  ·exact bT h.nR fun k e=>by
    have h3:=h.od k e;exact key k (by omega) (by omega) (by omega)
  ·have h3:=h.od k e;exact (hT k (by omega)).trans h3
  ·have hm2:(if k=sn then some sp' else st.m k)=none:=hm;split at hm2
   ·cases hm2
   ·rename_i hne;show (if k=sn then _ else F k)=none
    rw[if_neg hne];exact (hFm k).1 hm2
  ·have hq2:(if k=sn then some sp' else st.m k)=some q:=hq;split at hq2
   ·rename_i he;cases hq2;subst he;refine ⟨b,kY,kS,if_pos rfl,hS.stay (Wt b (by omega) (hbT b (.inl rfl))) (fun j hj=>Wt j (hS.fr.lt j hj).2 (hbT j (.inr (.inl hj)))) (fun j hj=>Wt j (hS.dr.lt j hj).2 (hbT j (.inr (.inr hj)))),?_,fun j hj=> ?_,fun j hj=> ?_⟩
    ·rcases hb with e|e
     ·rw[if_neg (by omega),if_pos rfl]
     ·exact (hT b (by omega)).trans e
    ·rcases hf' j hj with e|e
     ·have h5:=hf j e;exact (hT j (by omega)).trans h5
     ·rw[if_neg (by have:=hzero j e;omega),if_neg (by omega),if_pos ⟨e,hj⟩]
    ·rcases hd' j hj with e|e
     ·have h5:=hd j e;exact (hT j (by omega)).trans h5
     ·rw[if_neg (by have:=hzero j e;omega),if_neg (by omega),if_neg,if_pos ⟨e,hj⟩];rintro ⟨_,e2⟩;rcases hrow with e3|e3
      ·rw[e3] at e2;cases e2
      ·exact e3 (e2.trans hj.symm)
   ·rename_i hne;obtain ⟨b2,vf2,vd2,e1,hs2,t1,t2,t3⟩:=(hFm k).2 q hq2;refine ⟨b2,vf2,vd2,(if_neg hne).trans e1,hs2.stay (key b2 (by omega) (by omega) (by omega)) (fun j hj=> ?_) (fun j hj=> ?_),(hT b2 (by omega)).trans t1,fun j hj=> ?_,fun j hj=> ?_⟩
    ·have:=t2 j hj;exact key j (by omega) (by omega) (by omega)
    ·have:=t3 j hj;exact key j (by omega) (by omega) (by omega)
    ·have:=t2 j hj;exact (hT j (by omega)).trans this
    ·have:=t3 j hj;exact (hT j (by omega)).trans this
 ·intro k hl hkb;by_cases h0:T k≠0
  ·exact if_pos h0
  ·show (if T k≠0 then T k else _)=T k
   rw[if_neg h0,if_neg hkb,if_neg (by omega),if_neg (by omega)];omega
 ·intro h0;exact if_pos h0
end
end
end Go.Proofs.YtiecgfahidpldaaGreat
