/- amrecv: deliver. -/
import Derived.Test.YtbhiklnljiehiaaGreatM2ar
import Derived.Test.YtbhiklnljiehiaaGreatM2aw
namespace Go.Proofs.YtbhiklnljiehiaaGreat
section
open Go.RowKit Go.Shelf
attribute [local go_sem] Oper.semAt_some
section
variable {w w' W W':World} {T T':Nat→Nat} {g M n:Nat} {c:Cf} {st:Rc} {vo v:Value} {base:Nat} {outs:List (List UInt8)}
def af2 (w:World) (T:Nat→Nat) (g M n:Nat) (c:Cf) (R:Rc × List (List UInt8)) (e:Ending) (w':World):Prop:=
 ∃T' AV v,e= .returned v∧gI w' T' g M n c R.1 AV∧(∀k,k<w.heap.size→T' k=T k)∧Kept (MT T) w w'∧fT w' w.heap.size T' v R.2
theorem jr.trans {T2:Nat→Nat} (h:Kept (MT T) w W) (h2:Kept (MT T2) W W') (hT:∀k,k<w.heap.size→T2 k=T k):Kept (MT T) w W':=
 ⟨h2.os.trans h.os,h2.tape.trans h.tape,h2.output.trans h.output,Nat.le_trans h.size h2.size,fun i o hi hn=>h2.same i o (h.same i o hi hn) (fun hm=>hn (by unfold MT at*;rw[←hT i (lt_of_heap hi)];exact hm))⟩
def DlI (w:World) (T:Nat→Nat) (g M n:Nat) (c:Cf) (st:Rc) (p:Sp) (b:Nat) (vf vd:Value) (N:Nat) (W0:World) (FIN:List UInt8 × Bool × List (List UInt8)) (ob:Nat) (gk:Nat) (s2 s4 s5:Value) (W:World):Prop:=
 ∃(i fr:Nat) (op:List UInt8) (sm:Bool) (outs:List (List UInt8)) (T2:Nat→Nat) (UG v2:Value),s2=v2∧s4= .int .i64 (fr:Nat)∧s5= .int .i64 (i:Nat)∧gk+i=N+1∧1≤i∧fr<i∧gI W T2 g M n c {st with op:=op,sm:=sm} UG∧op.length≤9000∧
  (∀k,k<w.heap.size→T2 k=T k)∧Kept (MT T) w W∧fT W w.heap.size T2 v2 outs∧FIN=((vS p.fl p.da N gk i fr op sm).1,(vS p.fl p.da N gk i fr op sm).2.1,outs++(vS p.fl p.da N gk i fr op sm).2.2)∧outs.length+gk≤ob∧
  oD W b p vf vd∧T2 b=3*st.next+4∧b≠g∧(∀j,vf.ownBlock=some j→T2 j=3*st.next+5)∧(∀j,vd.ownBlock=some j→T2 j=3*st.next+6)∧W0.heap.size≤W.heap.size
def DlO (w:World) (T:Nat→Nat) (g M n:Nat) (c:Cf) (FIN:Rc × List (List UInt8)) (gk:Nat) (s2 s3:Value) (W:World):Prop:=
 ∃(j:Nat) (st:Rc) (outs:List (List UInt8)) (T2:Nat→Nat) (UG v2:Value),s2=v2∧gI W T2 g M n c st UG∧dP st∧(∀k,k<w.heap.size→T2 k=T k)∧Kept (MT T) w W∧fT W w.heap.size T2 v2 outs∧
  FIN=((fB gk st).1,outs++(fB gk st).2)∧outs.length+40000*gk≤40000*1024∧j<gk∧gB (st.m ((st.next+j)%1024))=false∧
  ((st.m st.next=none∧s3= .pointer none)∨∃p b vf vd,st.m st.next=some p∧s3= .pointer (some ⟨b,0,none⟩)∧oD W b p vf vd∧T2 b=3*st.next+4∧(∀j,vf.ownBlock=some j→T2 j=3*st.next+5)∧(∀j,vd.ownBlock=some j→T2 j=3*st.next+6))
theorem Hf {f:Nat} {st:Rc} (h:gB (st.m st.next)=false):fB f st=(st,[]):=by
 cases f with
 |zero=>rfl
 |succ f=>
  unfold fB;cases hm:st.m st.next with
  |none=>rfl
  |some p=>
   rw[hm] at h;have h2:lK p=false:=h;dsimp only;rw[if_neg (by rw[h2];simp)]
theorem M0 {f:Nat} {st:Rc} {p:Sp} (hm:st.m st.next=some p) (hc:lK p=true):fB (f+1) st=((fB f (zq st p)).1,(FW st p).2.2++(fB f (zq st p)).2):=by
 rw[fB,hm];dsimp only;rw[if_pos hc]
theorem Qo {W:World} {gd L cd fr i:Nat} {da:List UInt8} (h:W.ownsRow 0 5 1 (.slice (some ⟨gd,0,none⟩) L cd) L (bO da)) (hl:da.length=L) (hfi:fr≤i) (hi:i≤L) (hL:L≤100000):Sl W W.heap.size (some ⟨gd,fr,none⟩) (i-fr) (i-fr) (bO ((da.take i).drop fr)):=by
 have hg:=(h.lt gd rfl).2;refine ⟨by rw[ja,List.length_drop,List.length_take];omega,aN,by omega,fun _=>⟨_,rfl,hg,fun j u hu=> ?_⟩⟩;rw[Addr.add_lit];have hj:=(List.getElem?_eq_some_iff.1 hu).1;rw[ja,List.length_drop,List.length_take] at hj;rw[h.cellAt _ (by omega)];unfold bO at hu ⊢;rw[List.getElem?_map] at hu ⊢;rw[List.getElem?_drop,List.getElem?_take,if_pos (by omega)] at hu;exact hu
set_option maxRecDepth 100000 in
set_option maxHeartbeats 8000000 in
theorem EF (h:gI w T g M n c st vo) (ho:dP st):Calls Tryz.prog 100 #[.pointer (some ⟨g,0,none⟩)] w (af2 w T g M n c (fB 1024 st)):=by
 obtain ⟨FIN,hF⟩:∃FIN,FIN=fB 1024 st:=⟨_,rfl⟩
 rw[←hF];have HH:=ah h;have HO:=ah ho;have HF:=ah hF;have hstop:=ho.stops (sn:=st.next) ho.n1;have HST:=ah hstop;have jZ:Tryz.prog.follows .mixedOrders=true:=by kernel_rfl
 have hn1:=ho.n1;obtain ⟨x3,x4,x7,x8,x9,x10,vF,FB,Q8,CB,Sv,Q9,OZ,x18⟩:=h.cells;obtain ⟨v,hl,hv⟩:=h.drew.look hn1;have HV:=ah hv;clear h ho hF hstop hv x3 x4 x9 x10 vF FB Q8 CB Sv Q9 OZ x18;go_enter Tryz.func100,Tryz.ntmps100;go_upto_region 1 with (fail)
 go_cut [3] (fun s3 wx=>s3=v∧wx=w.drew)
 case first=>
  refine wp_region_still_tail 8 jZ (by kernel_rfl) ?_;simp only[List.take_succ_cons,List.take_zero,List.drop_succ_cons,List.drop_zero]
  repeat still_step
  refine wpStill_nil ?_;change wpList _ _ _ _ _ w.drew;go_wp2;go_meet;exact ⟨rfl,rfl⟩
 case rest=>
 obtain ⟨rfl,rfl⟩:=hcut;have H0:=ah HH.out.drew;clear hl x7 x8;go_wp2_with fail;go_loopg [2,3] 1024 (fun gk s2 s3 wr=>DlO w T g M n c FIN gk s2 s3 wr)
 case atStart=>
  obtain ⟨j,h1,h2⟩:=HST.out;refine ⟨j,st,[],T,vo,_,rfl,H0.out,HO.out,fun _ _=>rfl,(Kept.refl _ w).drew,fT.nil _ _ _,by rw[HF.out];rfl,by simp,h1,h2,?_⟩;exact HV.out
 case round=>
  obtain ⟨j,st1,outs,T2,UG,v2,rfl,hR,hok,hT2,hK,hO,hfin,hol,hj,hst,hp⟩:=hrel;have hn2:=hok.n1;have hcm:Calls Tryz.prog 117 #[u3] wr fun e w'=>e= .returned (.bool (gB (st1.m st1.next)))∧Below wr.heap.size wr w':=by
   rcases hp with ⟨hm,rfl⟩|⟨p,b,vf,vd,hm,rfl,hs,_⟩
   ·rw[hm];exact sH wr
   ·rw[hm];exact sI hs (hok.m _ p hm).2.2
  obtain ⟨f,rfl⟩:∃f,gk=f+1:=⟨gk-1,by omega⟩
  obtain ⟨vs,hrow,NM,Df⟩:=hO;obtain ⟨Av,cv,rfl,hsv,-⟩:=bq hrow;have C8:=ah (show fT wr w.heap.size T2 (.slice Av outs.length cv) outs from ⟨vs,hrow,NM,Df⟩);have HR:=ah hR;have Cg:=ah hok;have HT2:=ah hT2;have HK:=ah hK;clear hrow NM Df hsv hR hT2 hK HST HV H0;cases hcc:gB (st1.m st1.next) with
  |false=>
   rw[hcc] at hcm;rw[Hf hcc,List.append_nil] at hfin;have GQ:=ah hfin;have HCM:=ah hcm;clear hfin hcm hcc hst hp hok;go_wp2_with (go_at_call 117;refine HCM.out.mono ?_;rintro e1 w1 ⟨rfl,hb1⟩);go_ret;rw[GQ.out];exact ⟨T2,UG,_,rfl,HR.out.below hb1,HT2.out,jr.trans HK.out (qm hb1) HT2.out,C8.out.below hb1⟩
  |true=>
   rw[hcc] at hcm;obtain ⟨p,b,vf,vd,hm,rfl,hs,t1,t2,t3⟩:∃p b vf vd,st1.m st1.next=some p∧u3= .pointer (some ⟨b,0,none⟩)∧oD wr b p vf vd∧T2 b=3*st1.next+4∧(∀j,vf.ownBlock=some j→T2 j=3*st1.next+5)∧(∀j,vd.ownBlock=some j→T2 j=3*st1.next+6):=by
    rcases hp with ⟨hm,_⟩|h9
    ·rw[hm] at hcc;cases hcc
    ·exact h9
   have hcs:lK p=true:=by rw[hm] at hcc;exact hcc
   rw[M0 hm hcs] at hfin;obtain ⟨_,_,hsp⟩:=hok.m _ p hm;obtain ⟨N,hN,hN0,hgN⟩:∃N,p.size=some N∧0<N∧qg p.fl=N:=by
    unfold lK at hcs;cases hsz:p.size with
    |none=>rw[hsz] at hcs;cases hcs
    |some k=>
     rw[hsz] at hcs;simp only[Bool.and_eq_true,decide_eq_true_eq] at hcs;exact ⟨k,rfl,hcs.1,hcs.2⟩
   have hgl:=xX p.fl;have hNL:N≤p.fl.length:=by omega
   have hLb:=hsp.le;have hsI:dx p=(N:Int):=by unfold dx;rw[hN]
   have hsS:Cx p=N:=by unfold Cx;rw[hN];rfl
   have hj0:j≠0:=fun e=>by
    rw[e,Nat.add_zero,Nat.mod_eq_of_lt (by omega),hcc] at hst;cases hst
   have FX:gB ((zq st1 p).m (((zq st1 p).next+(j-1))%1024))=false:=by
    show gB (kG st1.m st1.next none ((fJ st1.next+(j-1))%1024))=false
    unfold fJ kG;rw[show ((st1.next+1)%1024+(j-1))%1024=(st1.next+j)%1024 by omega];split
    ·rfl
    ·exact hst
   have hbg:b≠g:=fun e=>by
    have h8:=HR.out.tg;rw[←e,t1] at h8;omega
   have hbl:=hs.blk.lt;obtain ⟨FI,hFI⟩:∃FI,FI=((FW st1 p).1,(FW st1 p).2.1,outs++(FW st1 p).2.2):=⟨_,rfl⟩
   have GQ:=ah hFI;have OB:=ah hfin;have HCM:=ah hcm;have HM:=ah hm;have HS:=ah hs;have KQ:=ah hsp;have af3:=ah FX;have Z4:=ah hj0;have HJ:=ah hj;have HT1:=ah t1;have HTF:=ah t2;have HTD:=ah t3;have HSI:=ah hsI;have QT:=ah hsS;have HBG:=ah hbg;have abH:=ah hol;have hop1:=hok.op;have HOP:=ah hop1;clear hFI hfin hcm hcc hst hp hok hm hs hsp FX hj0 hj t1 t2 t3 hsI hsS hbg hgN hgl hN hcs hol hop1
   go_upto_block 2 with (go_at_call 117;refine HCM.out.mono ?_;rintro e1 w1 ⟨rfl,hb1⟩)
   have hs1:oD w1 b p vf vd:=HS.out.stay (hb1.block b hbl) (fun k hk=>hb1.block k (HS.out.fr.lt k hk).2) (fun k hk=>hb1.block k (HS.out.dr.lt k hk).2);have oV:=HR.out.below hb1;have hK1:=jr.trans HK.out (qm hb1) HT2.out;have ML:=C8.out.below hb1;have hwz:=hb1.size;have rU:=ah hs1;have HR1:=ah oV;have tJ:=ah hK1;have HO1:=ah ML;clear hs1 oV hK1 ML hb1 HCM HS HR HK C8;go_wp2_with fail;go_loopg [2,4,5] N (fun gk s2 s4 s5 wq=>DlI w T g M n c st1 p b vf vd N w1 FI (outs.length+N) gk s2 s4 s5 wq)
   case atStart=>
    refine ⟨1,0,st1.op,st1.sm,outs,T2,UG,_,rfl,rfl,rfl,rfl,aN,by omega,HR1.out,HOP.out,HT2.out,tJ.out,HO1.out,?_,aN,rU.out,HT1.out,HBG.out,HTF.out,HTD.out,aN⟩;rw[GQ.out];unfold FW;rw[QT.out]
   case round=>
    obtain ⟨i,fr,op,sm,nN,T3,vo3,v3,rfl,rfl,rfl,hki,hi1,hfi,hR,hop,Y1,hK,hO,hfin,hol,hs,t1,_,t2,t3,XV⟩:=hrel;obtain ⟨z0,z1,z2⟩:wr.cell? ⟨b,0,none⟩=some vf∧wr.cell? ⟨b,1,none⟩=some vd∧wr.cell? ⟨b,2,none⟩=some (.int .i64 (dx p)):=⟨hs.blk.cell 0,hs.blk.cell 1,hs.blk.cell 2⟩;rw[HSI.out] at z2;have amE:nN.length≤40000*1024+40000:=by have:=abH.out;omega
    obtain ⟨vs,hrow,NM,Df⟩:=hO;obtain ⟨Av2,cv2,rfl,hsv,-⟩:=bq hrow;have PN:=ah (show fT wr w.heap.size T3 (.slice Av2 nN.length cv2) nN from ⟨vs,hrow,NM,Df⟩);have HR3:=ah hR;have HT3:=ah Y1;have lX:=ah hK;have xM:=ah hs;have HA1:=ah t1;have HA2:=ah t2;have wh:=ah t3;have HOB:=ah hol;have HKI:=ah hki;by_cases hiN:i≤N
    ·obtain ⟨gk',rfl⟩:∃gk',gk=gk'+1:=⟨gk-1,by omega⟩
     have hL0:0<p.fl.length:=by omega
     obtain ⟨gf,cf,rfl,af5,af6,hgf⟩:=uF hs.fr hL0;have hdl:p.da.length=p.fl.length:=KQ.out.ll;have hdr:=hs.dr;rw[hdl] at hdr;obtain ⟨gd,cd,rfl,af7,af8,hgd⟩:=uF hdr hL0;obtain ⟨A',c',e',hfs⟩:=lV.cB hs.fr;cases e';have hhas:=fun (X:World) (hX:Below wr.heap.size wr X) (a which:Nat) (ha:a≤100000) (hw:which<3)=>zw (hfs.below hX) a ha which hw
     have BP:Calls Tryz.prog 156 #[.slice (some ⟨gf,0,none⟩) p.fl.length cf,.int .i64 (i:Nat),.int .i64 1] wr fun e w'=>e= .returned (.bool (fQ p.fl i).2.1)∧wr=w':=hhas wr (Below.refl _ _) i 1 (by omega) (by omega)
     have FX:Calls Tryz.prog 156 #[.slice (some ⟨gf,0,none⟩) p.fl.length cf,.int .i64 (fr:Nat),.int .i64 1] wr.drew fun e w'=>e= .returned (.bool (fQ p.fl fr).2.1)∧wr.drew=w':=hhas wr.drew (Below.refl _ _).drew fr 1 (by omega) (by omega)
     have abJ:Calls Tryz.prog 156 #[.slice (some ⟨gf,0,none⟩) p.fl.length cf,.int .i64 ((i:Int)-1),.int .i64 2] wr.drew fun e w'=>e= .returned (.bool (fQ p.fl (i-1)).2.2)∧wr.drew=w':=by
      have:=hhas wr.drew (Below.refl _ _).drew (i-1) 2 (by omega) (by omega);rw[show ((i-1:Nat):Int)=(i:Int)-1 by omega] at this;exact this
     have Qp:=ah BP;have Qq:=ah FX;have abK:=ah abJ;have je:=ah hfin;clear hR Y1 hK hs t1 t2 t3 hol hki hhas BP FX abJ hfs hdr hfin hrow NM Df hsv;by_cases GN:i<N∧(fQ p.fl i).2.1=false
     ·obtain ⟨hs1,hs2⟩:=GN;have hfin:=je.out;rw[vS,if_pos ⟨hs1,hs2⟩] at hfin;have BP:=Qp.out;rw[hs2] at BP;have XW:=ah BP;have JN:=ah hfin;clear hs2 BP hfin Qp je;go_wp2_with (go_at_call 156;refine XW.out.mono ?_;rintro e1 w4 ⟨rfl,rfl⟩)
      go_roundg gk'
      case measure=>omega
      case rel=>
       exact ⟨i+1,fr,op,sm,nN,T3,vo3,_,rfl,rfl,by go_num,by have:=HKI.out;omega,by omega,by omega,HR3.out,hop,HT3.out,lX.out,PN.out,JN.out,by have:=HOB.out;omega,xM.out,HA1.out,HBG.out,HA2.out,wh.out,XV⟩
     ·have hfin:=je.out;rw[vS,if_neg GN] at hfin;obtain ⟨RP,hRP⟩:∃RP,RP=ul ((p.da.take i).drop fr) (fQ p.fl fr).2.1 (decide (i<N)||(fQ p.fl (i-1)).2.2) op sm:=⟨_,rfl⟩
      dsimp only at hfin;rw[←hRP] at hfin;have JN:=ah hfin;have Py:=De (b:=(p.da.take i).drop fr) (begins:=(fQ p.fl fr).2.1) (last:=decide (i<N)||(fQ p.fl (i-1)).2.2) (sm:=sm) hop;rw[←hRP] at Py;obtain ⟨Wz,L5⟩:=Py;have KJ:=ah hRP;have HSK:=ah GN;clear hfin hRP GN je;go_upto_region 8 with (fail)
      go_cut [50] (fun s50 wx=>s50= .bool false∧wx=wr)
      case first=>
       by_cases Hg:i<N
       ·have hfl:(fQ p.fl i).2.1=true:=by
         cases hh:(fQ p.fl i).2.1 with
         |true=>rfl
         |false=>exact absurd ⟨Hg,hh⟩ HSK.out
        have BP:=Qp.out;rw[hfl] at BP;have XW:=ah BP;clear hfl BP Qp;go_wp2_with (go_at_call 156;refine XW.out.mono ?_;rintro e1 w4 ⟨rfl,rfl⟩);go_meet;exact ⟨rfl,rfl⟩
       ·have amH:¬(i:Int)<(N:Int):=by omega
        go_wp2_with fail;go_meet;exact ⟨rfl,rfl⟩
      case rest=>
      obtain ⟨rfl,rfl⟩:=hcut;generalize wc=wb at*;have hsl:=Qo (xM.out.dr |> fun h9=>by rw[KQ.out.ll] at h9;exact h9) KQ.out.ll (fr:=fr) (i:=i) (by omega) (by omega) (by omega);have Vl:∀X,Kept (fun k _=>k=g) wb.drew X→Sl X X.heap.size (some ⟨gd,fr,none⟩) (i-fr) (i-fr) (bO ((p.da.take i).drop fr)):=fun X hX=>by
       have h9:=xM.out.dr;rw[KQ.out.ll] at h9;refine Qo (bX h9 fun k hk=> ?_) KQ.out.ll (by omega) (by omega) (by omega);obtain ⟨o,ho⟩:∃o,wb.heap[k]? =some o:=⟨_,Array.getElem?_eq_getElem (h9.lt k hk).2⟩
       rw[ho];refine hX.same k o ho (fun ek=> ?_);have h8:=wh.out k hk;rw[ek] at h8;have h7:=HR3.out.tg;omega
      have abL:dP {st1 with op:=op,sm:=sm}:=⟨Cg.out.n1,Cg.out.n2,Cg.out.n3,Cg.out.n4,Cg.out.m,hop,Cg.out.t1,Cg.out.t2⟩;have hpt:=MZ HR3.out.drew abL (some ⟨gd,fr,none⟩) (i-fr) (i-fr) ((p.da.take i).drop fr) (by omega) Vl (fQ p.fl fr).2.1 (decide (i<N)||(fQ p.fl (i-1)).2.2);dsimp only at hpt;rw[←KJ.out] at hpt;have QZ:=ah hpt;have amI:¬cd=fr:=by omega
      have amJ:¬i=fr:=by omega
      have hq1:(fr:Int)≤(i:Int):=by omega
      have hq2:(i:Int)≤(cd:Int):=by omega
      have hq3:(0:Int)≤(fr:Int):=by omega
      clear hsl Vl abL hpt KJ HSK Qp;go_upto_region 9 with (fail)
      go_cut [6,7] (fun s6 s7 wx=>∃(T4:Nat→Nat) (Vm:Value),s7= .bool (!RP.2.2.isEmpty)∧gI wx T4 g M n c {st1 with op:=RP.1,sm:=RP.2.1} Vm∧(∀k,k<wb.heap.size→T4 k=T3 k)∧Kept (fun k _=>k=g) wb wx∧(∀q,RP.2.2= [q]→wx.ownsRow wb.heap.size 5 1 s6 q.length (bO q)∧∀k,s6.ownBlock=some k→T4 k=0))
      case first=>
       by_cases Hg:i<N
       ·have hpt:=QZ.out;rw[decide_eq_true Hg,Bool.true_or] at hpt;have HP2:=ah hpt;have d1:decide (i<N)=true:=decide_eq_true Hg;clear hpt QZ abK;refine wp_region_noPanic ?_;refine aZ (fun w'=>w'.cell? ⟨b,0,none⟩=some (.slice (some ⟨gf,0,none⟩) p.fl.length cf)∧w'.cell? ⟨b,1,none⟩=some (.slice (some ⟨gd,0,none⟩) p.fl.length cd)∧w'.cell? ⟨b,2,none⟩=some (.int .i64 (N:Int))) [30] (by kernel_rfl) ?_;have hHeld:=(show (fun w':World=>w'.cell? ⟨b,0,none⟩=some (.slice (some ⟨gf,0,none⟩) p.fl.length cf)∧w'.cell? ⟨b,1,none⟩=some (.slice (some ⟨gd,0,none⟩) p.fl.length cd)∧w'.cell? ⟨b,2,none⟩=some (.int .i64 (N:Int))) wb.drew from ⟨z0,z1,z2⟩);refine aY 0 rfl hHeld ?_
        try simp only[Act.put,aB,aC,ax,ay,aA]
        refine aY 1 rfl hHeld ?_
        try simp only[Act.put,aB,aC,aD,ax,ay,aA]
        refine aY 2 rfl hHeld ?_
        try simp only[Act.put,aB,aC,aD,ax,ay,aA]
        refine aY 3 rfl hHeld ?_
        try simp only[Act.put,aB,aC,aD,ax,ay,aA]
        refine gV [8,30] 4 ?_ rfl (Or.inl ⟨by rfl,?_⟩) hHeld ?_;rotate_left
        ·intro w' hSw;obtain ⟨hS1,hS2,gH⟩:=hSw;go_simp
         try with_reducible rfl
        try simp only[Act.put,aB,aC,aD,ax,ay,aA]
        refine aY 5 rfl hHeld ?_
        try simp only[Act.put,aB,aC,aD,ax,ay,aA]
        refine aY 6 rfl hHeld ?_
        try simp only[Act.put,aB,aC,aD,ax,ay,aA]
        refine aY 7 rfl hHeld ?_
        try simp only[Act.put,aB,aC,aD,ax,ay,aA]
        refine aY 8 rfl hHeld ?_
        try simp only[Act.put,aB,aC,aD,ax,ay,aA]
        refine aY 9 rfl hHeld ?_
        try simp only[Act.put,aB,aC,aD,ax,ay,aA]
        refine aY 10 rfl hHeld ?_
        try simp only[Act.put,aB,aC,aD,ax,ay,aA]
        refine aY 11 rfl hHeld ?_
        try simp only[Act.put,aB,aC,aD,ax,ay,aA]
        refine gV [14,30] 12 ?_ rfl (Or.inl ⟨by rfl,?_⟩) hHeld ?_;rotate_left
        ·intro w' hSw;obtain ⟨hS1,hS2,gH⟩:=hSw;go_simp
         try with_reducible rfl
        try simp only[Act.put,aB,aC,aD,ax,ay,aA]
        refine aY 13 rfl hHeld ?_
        try simp only[Act.put,aB,aC,aD,ax,ay,aA]
        refine aY 15 rfl hHeld ?_
        try simp only[Act.put,aB,aC,aD,ax,ay,aA]
        refine aY 16 rfl hHeld ?_
        try simp only[Act.put,aB,aC,aD,ax,ay,aA]
        refine aY 17 rfl hHeld ?_
        try simp only[Act.put,aB,aC,aD,ax,ay,aA]
        refine aY 18 rfl hHeld ?_
        try simp only[Act.put,aB,aC,aD,ax,ay,aA]
        refine gV [20,21,29,30] 19 ?_ rfl (Or.inl ⟨by rfl,?_⟩) hHeld ?_;rotate_left
        ·intro w' hSw;obtain ⟨hS1,hS2,gH⟩:=hSw;go_simp
         try with_reducible rfl
        try simp only[Act.put,aB,aC,aD,ax,ay,aA]
        refine aY 20 rfl hHeld ?_
        try simp only[Act.put,aB,aC,aD,ax,ay,aA]
        refine aR (i:=14) rfl (by kernel_rfl) (by rfl) (fun K hK=> ?_);go_simp;refine Qq.out.mono ?_;rintro e1 w4 ⟨rfl,rfl⟩;refine hK _ _ ⟨z0,z1,z2⟩ ?_;clear hK K hHeld;have hHeld:=(show (fun w':World=>w'.cell? ⟨b,0,none⟩=some (.slice (some ⟨gf,0,none⟩) p.fl.length cf)∧w'.cell? ⟨b,1,none⟩=some (.slice (some ⟨gd,0,none⟩) p.fl.length cd)∧w'.cell? ⟨b,2,none⟩=some (.int .i64 (N:Int))) wb.drew from ⟨z0,z1,z2⟩)
        try simp only[Act.put,aB,aC,aD,ax,ay,aA]
        refine aY 21 rfl hHeld ?_
        try simp only[Act.put,aB,aC,aD,ax,ay,aA]
        refine jL 22 rfl hHeld ?_
        try simp only[Act.put,aB,aC,aD,ax,ay,aA]
        refine jL 23 rfl hHeld ?_
        try simp only[Act.put,aB,aC,aD,ax,ay,aA]
        refine jL 24 rfl hHeld ?_
        try simp only[Act.put,aB,aC,aD,ax,ay,aA]
        refine jL 25 rfl hHeld ?_
        try simp only[Act.put,aB,aC,aD,ax,ay,aA]
        refine jL 26 rfl hHeld ?_
        try simp only[Act.put,aB,aC,aD,ax,ay,aA]
        refine jL 27 rfl hHeld ?_
        try simp only[Act.put,aB,aC,aD,ax,ay,aA]
        refine jL 28 rfl hHeld ?_
        try simp only[Act.put,aB,aC,aD,ax,ay,aA]
        refine aY 29 rfl hHeld ?_
        try simp only[Act.put,aB,aC,aD,ax,ay,aA]
        refine bD (i:=30) rfl (by kernel_rfl) (by kernel_rfl) (by rfl) (fun K hK=> ?_);go_simp;refine HP2.out.mono ?_;rintro e1 w4 ⟨T4,Vm,vr,rfl,D5,M3,hK4,hq4⟩;refine hK _ _ ?_;clear hK K
        try simp only[Act.put,aB,aC,aD,ax,ay,aA]
        refine qT 31 rfl ?_
        try simp only[Act.put,aB,aC,aD,ax,ay,aA]
        refine qT 32 rfl ?_
        try simp only[Act.put,aB,aC,aD,ax,ay,aA]
        refine qT 33 rfl ?_
        try simp only[Act.put,aB,aC,aD,ax,ay,aA]
        refine qT 34 rfl ?_
        try simp only[Act.put,aB,aC,aD,ax,ay,aA]
        refine qT 35 rfl ?_
        try simp only[Act.put,aB,aC,aD,ax,ay,aA]
        refine bu (by kernel_rfl) ?_ _;simp only[NoPanic];go_wp2_with fail;go_meet;exact ⟨T4,Vm,rfl,D5,M3,(Kept.refl _ wb).drew.trans hK4,hq4⟩
       ·have hiE:i=N:=by omega
        have hpt:=QZ.out;rw[decide_eq_false Hg,Bool.false_or] at hpt;have HP2:=ah hpt;have d1:decide (i<N)=false:=decide_eq_false Hg;have hwi:IntKind.i64.wrap ((i:Int)-1)=(i:Int)-1:=IntWalk.i64_in _ (by omega);clear hpt QZ hiE;refine wp_region_noPanic ?_;refine aZ (fun w'=>w'.cell? ⟨b,0,none⟩=some (.slice (some ⟨gf,0,none⟩) p.fl.length cf)∧w'.cell? ⟨b,1,none⟩=some (.slice (some ⟨gd,0,none⟩) p.fl.length cd)∧w'.cell? ⟨b,2,none⟩=some (.int .i64 (N:Int))) [30] (by kernel_rfl) ?_;have hHeld:=(show (fun w':World=>w'.cell? ⟨b,0,none⟩=some (.slice (some ⟨gf,0,none⟩) p.fl.length cf)∧w'.cell? ⟨b,1,none⟩=some (.slice (some ⟨gd,0,none⟩) p.fl.length cd)∧w'.cell? ⟨b,2,none⟩=some (.int .i64 (N:Int))) wb.drew from ⟨z0,z1,z2⟩);refine aY 0 rfl hHeld ?_
        try simp only[Act.put,aB,aC,ax,ay,aA]
        refine aY 1 rfl hHeld ?_
        try simp only[Act.put,aB,aC,aD,ax,ay,aA]
        refine aY 2 rfl hHeld ?_
        try simp only[Act.put,aB,aC,aD,ax,ay,aA]
        refine aY 3 rfl hHeld ?_
        try simp only[Act.put,aB,aC,aD,ax,ay,aA]
        refine gV [8,30] 4 ?_ rfl (Or.inl ⟨by rfl,?_⟩) hHeld ?_;rotate_left
        ·intro w' hSw;obtain ⟨hS1,hS2,gH⟩:=hSw;go_simp
         try with_reducible rfl
        try simp only[Act.put,aB,aC,aD,ax,ay,aA]
        refine aY 5 rfl hHeld ?_
        try simp only[Act.put,aB,aC,aD,ax,ay,aA]
        refine aY 6 rfl hHeld ?_
        try simp only[Act.put,aB,aC,aD,ax,ay,aA]
        refine aY 7 rfl hHeld ?_
        try simp only[Act.put,aB,aC,aD,ax,ay,aA]
        refine aY 8 rfl hHeld ?_
        try simp only[Act.put,aB,aC,aD,ax,ay,aA]
        refine aY 9 rfl hHeld ?_
        try simp only[Act.put,aB,aC,aD,ax,ay,aA]
        refine aY 10 rfl hHeld ?_
        try simp only[Act.put,aB,aC,aD,ax,ay,aA]
        refine aY 11 rfl hHeld ?_
        try simp only[Act.put,aB,aC,aD,ax,ay,aA]
        refine gV [14,30] 12 ?_ rfl (Or.inl ⟨by rfl,?_⟩) hHeld ?_;rotate_left
        ·intro w' hSw;obtain ⟨hS1,hS2,gH⟩:=hSw;go_simp
         try with_reducible rfl
        try simp only[Act.put,aB,aC,aD,ax,ay,aA]
        refine aY 13 rfl hHeld ?_
        try simp only[Act.put,aB,aC,aD,ax,ay,aA]
        refine aY 15 rfl hHeld ?_
        try simp only[Act.put,aB,aC,aD,ax,ay,aA]
        refine aY 16 rfl hHeld ?_
        try simp only[Act.put,aB,aC,aD,ax,ay,aA]
        refine aY 17 rfl hHeld ?_
        try simp only[Act.put,aB,aC,aD,ax,ay,aA]
        refine aY 18 rfl hHeld ?_
        try simp only[Act.put,aB,aC,aD,ax,ay,aA]
        refine gV [20,21,29,30] 19 ?_ rfl (Or.inl ⟨by rfl,?_⟩) hHeld ?_;rotate_left
        ·intro w' hSw;obtain ⟨hS1,hS2,gH⟩:=hSw;go_simp
         try with_reducible rfl
        try simp only[Act.put,aB,aC,aD,ax,ay,aA]
        refine aY 20 rfl hHeld ?_
        try simp only[Act.put,aB,aC,aD,ax,ay,aA]
        refine aR (i:=14) rfl (by kernel_rfl) (by rfl) (fun K hK=> ?_);go_simp;refine Qq.out.mono ?_;rintro e1 w4 ⟨rfl,rfl⟩;refine hK _ _ ⟨z0,z1,z2⟩ ?_;clear hK K hHeld;have hHeld:=(show (fun w':World=>w'.cell? ⟨b,0,none⟩=some (.slice (some ⟨gf,0,none⟩) p.fl.length cf)∧w'.cell? ⟨b,1,none⟩=some (.slice (some ⟨gd,0,none⟩) p.fl.length cd)∧w'.cell? ⟨b,2,none⟩=some (.int .i64 (N:Int))) wb.drew from ⟨z0,z1,z2⟩)
        try simp only[Act.put,aB,aC,aD,ax,ay,aA]
        refine aY 21 rfl hHeld ?_
        try simp only[Act.put,aB,aC,aD,ax,ay,aA]
        refine aY 22 rfl hHeld ?_
        try simp only[Act.put,aB,aC,aD,ax,ay,aA]
        refine aY 23 rfl hHeld ?_
        try simp only[Act.put,aB,aC,aD,ax,ay,aA]
        refine aY 24 rfl hHeld ?_
        try simp only[Act.put,aB,aC,aD,ax,ay,aA]
        refine gV [28,29,30] 25 ?_ rfl (Or.inl ⟨by rfl,?_⟩) hHeld ?_;rotate_left
        ·intro w' hSw;obtain ⟨hS1,hS2,gH⟩:=hSw;go_simp
         try with_reducible rfl
        try simp only[Act.put,aB,aC,aD,ax,ay,aA]
        refine aY 26 rfl hHeld ?_
        try simp only[Act.put,aB,aC,aD,ax,ay,aA]
        refine aY 27 rfl hHeld ?_
        try simp only[Act.put,aB,aC,aD,ax,ay,aA]
        refine aR (i:=28) rfl (by kernel_rfl) (by rfl) (fun K hK=> ?_);go_simp;refine abK.out.mono ?_;rintro e1 w4 ⟨rfl,rfl⟩;refine hK _ _ ⟨z0,z1,z2⟩ ?_;clear hK K hHeld;have hHeld:=(show (fun w':World=>w'.cell? ⟨b,0,none⟩=some (.slice (some ⟨gf,0,none⟩) p.fl.length cf)∧w'.cell? ⟨b,1,none⟩=some (.slice (some ⟨gd,0,none⟩) p.fl.length cd)∧w'.cell? ⟨b,2,none⟩=some (.int .i64 (N:Int))) wb.drew from ⟨z0,z1,z2⟩)
        try simp only[Act.put,aB,aC,aD,ax,ay,aA]
        refine aY 29 rfl hHeld ?_
        try simp only[Act.put,aB,aC,aD,ax,ay,aA]
        refine bD (i:=30) rfl (by kernel_rfl) (by kernel_rfl) (by rfl) (fun K hK=> ?_);go_simp;refine HP2.out.mono ?_;rintro e1 w4 ⟨T4,Vm,vr,rfl,D5,M3,hK4,hq4⟩;refine hK _ _ ?_;clear hK K
        try simp only[Act.put,aB,aC,aD,ax,ay,aA]
        refine qT 31 rfl ?_
        try simp only[Act.put,aB,aC,aD,ax,ay,aA]
        refine qT 32 rfl ?_
        try simp only[Act.put,aB,aC,aD,ax,ay,aA]
        refine qT 33 rfl ?_
        try simp only[Act.put,aB,aC,aD,ax,ay,aA]
        refine qT 34 rfl ?_
        try simp only[Act.put,aB,aC,aD,ax,ay,aA]
        refine qT 35 rfl ?_
        try simp only[Act.put,aB,aC,aD,ax,ay,aA]
        refine bu (by kernel_rfl) ?_ _;simp only[NoPanic];go_wp2_with fail;go_meet;exact ⟨T4,Vm,rfl,D5,M3,(Kept.refl _ wb).drew.trans hK4,hq4⟩
      case rest=>
      obtain ⟨T4,Vm,hs7,D5,M3,hK4,hq4⟩:=hcut;have hkeep:∀k,k≠g→k<wb.heap.size→wc.heap[k]? =wb.heap[k]? :=fun k hk hlt=>by
       obtain ⟨o,ho⟩:∃o,wb.heap[k]? =some o:=⟨_,Array.getElem?_eq_getElem hlt⟩
       rw[ho];exact hK4.same k o ho hk
      have hg3:=HR3.out.tg;have hKm:Kept (MT T3) wb wc:=hK4.mono fun k o e=>by rw[e];unfold MT;omega
      have hwb:=lX.out.size;have hs5:oD wc b p (.slice (some ⟨gf,0,none⟩) p.fl.length cf) (.slice (some ⟨gd,0,none⟩) p.fl.length cd):=xM.out.stay (hkeep b HBG.out xM.out.blk.lt) (fun k hk=>hkeep k (fun e=>by have:=HA2.out k hk;rw[e] at this;omega) (xM.out.fr.lt k hk).2) (fun k hk=>hkeep k (fun e=>by have:=wh.out k hk;rw[e] at this;omega) (xM.out.dr.lt k hk).2);have E8:=PN.out.stay hKm M3;have KF:=jr.trans lX.out hKm HT3.out;have E9:∀k,k<w.heap.size→T4 k=T k:=fun k hk=>(M3 k (by omega)).trans (HT3.out k hk)
      have abM:T4 b=3*st1.next+4:=(M3 b xM.out.blk.lt).trans HA1.out
      have abN:∀j,(Value.slice (some ⟨gf,0,none⟩) p.fl.length cf).ownBlock=some j→T4 j=3*st1.next+5:=fun j hj=>(M3 j (xM.out.fr.lt j hj).2).trans (HA2.out j hj)
      have abO:∀j,(Value.slice (some ⟨gd,0,none⟩) p.fl.length cd).ownBlock=some j→T4 j=3*st1.next+6:=fun j hj=>(M3 j (xM.out.dr.lt j hj).2).trans (wh.out j hj)
      have agb:w1.heap.size≤wc.heap.size:=Nat.le_trans XV hK4.size;have wN:=ah D5;have Vn:=ah hs5;have HO5:=ah E8;have rD:=ah KF;have Lb:=ah E9;have HB1:=ah abM;have HB2:=ah abN;have HB3:=ah abO;have mF:=JN.out;subst hs7;clear D5 M3 hK4 hkeep hKm hs5 E8 KF E9 abM abN abO HR3 xM PN lX HT3 HA1 HA2 wh Qq JN;cases hro:RP.2.2 with
      |nil=>
       rw[hro] at mF;rw[List.nil_append] at mF;have JG:=ah mF;clear mF hq4 hro L5;generalize RP.1=op9 at*;generalize RP.2.1=sm9 at*;rw[show (!([]:List (List UInt8)).isEmpty)=false from rfl];go_wp2_with fail
       go_roundg gk'
       case measure=>omega
       case rel=>
        exact ⟨i+1,i,op9,sm9,nN,T4,Vm,_,rfl,rfl,by go_num,by have:=HKI.out;omega,by omega,by omega,wN.out,Wz,Lb.out,rD.out,HO5.out,JG.out,by have:=HOB.out;omega,Vn.out,HB1.out,HBG.out,HB2.out,HB3.out,agb⟩
      |cons q r=>
       have hr0:r= []:=by
        rw[hro] at L5;simp at L5;exact L5
       subst hr0;obtain ⟨hqr,ID⟩:=hq4 q hro;rw[hro] at mF;rw[←List.append_assoc] at mF;obtain ⟨Aq,cq,rfl,hsq,-⟩:=bq hqr;obtain ⟨vs9,Lc,Qr,Qs⟩:=HO5.out;obtain ⟨j0,hj0,hm0,hm1,hm2⟩:=info_parts nV;have JG:=ah mF;have HQR:=ah hqr;have HQT:=ah ID;clear mF hq4 hro L5 hqr ID hsq;generalize RP.1=op9 at*;generalize RP.2.1=sm9 at*;rw[show (![q].isEmpty)=true from rfl];go_wp2_with (at_builtin;refine jS _ rfl (.tmp 86) (.tmp 88) 37 rfl w.heap.size 31 j0 (.slice none 0 0) 24 l7 hj0 hm0 hm1 hm2 rfl _ nN.length vs9 rfl (Lc.alloc _) _ (some ⟨wc.heap.size,0,none⟩) 1 1 [.slice Aq q.length cq] rfl (vB (xs:= [.slice Aq q.length cq]) (jC wc _) rfl (by simp)) (by simp[Value.oneCell']) ?c2 ?c3 ?c4 ?_)
       case c2=>unfold maxLen;omega
       case c3=>omega
       case c4=>have:=rD.out.size;simp;omega
       intro v6 w6 hown6 qC hv6;have hfr:∀k,wc.heap.size≤k→T4 k=0:=fun k hk=>by
        rcases Nat.eq_zero_or_pos (T4 k) with e|e
        ·exact e
        ·have:=wN.out.lt k (by omega);omega
       have abP:∀k,v6.ownBlock=some k→T4 k=0:=fun k hk=>by
        rcases hv6 with e|e
        ·exact Qr k (e ▸ hk)
        ·rw[e] at hk;cases hk;exact hfr _ (by simp)
       have IE:=fT.push Lc Qr Qs (aU HQR.out hwb) HQT.out hown6 qC abP;have pJ:=(wN.out.alloc (.cells #[.slice Aq q.length cq] 31)).grown qC Qr;have hsA:=Vn.out.stay (w':=wc.alloc (.cells #[.slice Aq q.length cq] 31)) (Below.heap_alloc wc _ b Vn.out.blk.lt) (fun k hk=>Below.heap_alloc wc _ k (Vn.out.fr.lt k hk).2) (fun k hk=>Below.heap_alloc wc _ k (Vn.out.dr.lt k hk).2);have hne:∀k,T4 k≠0→some k≠(Value.slice Av2 nN.length cv2).ownBlock:=fun k hk e=>hk (Qr k e.symm)
       have hs6:=hsA.stay (w':=w6) (qC.block b hsA.blk.lt (hne b (by rw[HB1.out];omega))) (fun k hk=>qC.block k (hsA.fr.lt k hk).2 (hne k (by rw[HB2.out k hk];omega))) (fun k hk=>qC.block k (hsA.dr.lt k hk).2 (hne k (by rw[HB3.out k hk];omega)));have QX:=(rD.out.alloc (.cells #[.slice Aq q.length cq] 31)).grown qC (fun k e o ho=>by have:=(Lc.lt k e).1;have:=lt_of_heap ho;omega);have age:w1.heap.size≤w6.heap.size:=by have:=qC.size;simp at this;omega
       have HO6:=ah IE;have UI:=ah pJ;have HS6:=ah hs6;have tF:=ah QX;obtain ⟨A6,c6,rfl,-,-⟩:=bq hown6;clear hfr abP IE pJ hsA hne hs6 QX hown6 qC hv6 Lc Qr Qs wN Vn HO5 rD;go_wp2_with fail
       go_roundg gk'
       case measure=>omega
       case rel=>
        refine ⟨i+1,i,op9,sm9,nN++ [q],T4,Vm,_,rfl,rfl,by go_num,by have:=HKI.out;omega,by omega,by omega,UI.out,Wz,Lb.out,tF.out,HO6.out,JG.out,?_,HS6.out,HB1.out,HBG.out,HB2.out,HB3.out,age⟩;have:=HOB.out;rw[List.length_append,List.length_singleton];omega
    ·have Rl:gk=0:=by omega
     subst Rl;have Hg:¬(i:Int)≤(N:Int):=by omega
     have mF:=hfin;unfold vS at mF;dsimp only at mF;rw[List.append_nil] at mF;have MO:=GQ.out;rw[mF] at MO;simp only[Prod.mk.injEq] at MO;obtain ⟨he1,he2,he3⟩:=MO;obtain ⟨y3,y4,y7,y8,y9,AU,PU,sP,y13,CG,IA,wS,Pf,Eg⟩:=hR.cells;have WK:=ah he1;have HE2:=ah he2;have HE3:=ah he3;obtain ⟨F,hF1,hF2⟩:=hR.drew.mp;have RA:=ah hF1;have HFM:=ah hF2;have hn9:st1.next≤1023:=hn2
     clear hfin mF he1 he2 he3 hR Y1 hK hs t1 t2 t3 hol hki hrow NM Df hsv hF1 hF2 y3 y4 y9 AU PU sP y13 CG IA wS Pf Eg hfi hi1 XV;go_upto_region 13 with (fail)
     refine wp_region_still_tail 8 jZ (by kernel_rfl) ?_;simp only[List.take_succ_cons,List.take_zero,List.drop_succ_cons,List.drop_zero]
     repeat still_step
     refine wpStill_nil ?_;change wpList _ _ _ _ _ wr.drew;refine uq _ rfl _ _ 128 3 rfl 161 uw xY M n F rfl RA.out st1.next rfl (by omega) ?_
     intro w5 U5 hg5;have hm5:=HM.out;have rE:gI w5 T3 g M n c {{st1 with op:=op,sm:=sm} with m:=kG st1.m st1.next none} vo3:=HR3.out.drew.TX hg5 U5 fun k=>by
      have hkk:=HFM.out k;unfold kG Eb;by_cases e:k=st1.next
      ·rw[if_pos e,if_pos e];exact ⟨fun _=>rfl,fun _ hh=>by cases hh⟩
      ·rw[if_neg e,if_neg e];exact hkk
     have pJ:=rE.put 8 (.int .i64 (fJ st1.next:Nat)) (st':= {st1 with op:=op,sm:=sm,m:=kG st1.m st1.next none,next:=fJ st1.next}) rfl rfl rfl;have Y2:=HR3.out.tM;have hTG:=HR3.out.tg;have QX:Kept (MT T) w w5:=jr.trans lX.out ((Kept.refl _ wr).drew.grown hg5 (fun k e o ho=>by cases e;unfold MT;omega)) HT3.out;have hTg:T g=1:=HH.out.tg;have OA:=QX.setCell (p:=⟨g,8,none⟩) (fun o _=>by unfold MT;show T g≠0;omega) (.int .i64 (fJ st1.next:Nat));have E8:fT w5 w.heap.size T3 (.slice Av2 nN.length cv2) nN:=PN.out.stay ((Kept.refl _ wr).drew.grown hg5 (fun k e o ho=>by cases e;show T3 M≠0;omega)) (fun k _=>rfl);have K6:fT (w5.setCell ⟨g,8,none⟩ (.int .i64 (fJ st1.next:Nat))) w.heap.size T3 (.slice Av2 nN.length cv2) nN:=E8.stay ((Kept.refl _ w5).setCell (p:=⟨g,8,none⟩) (fun o _=>by show T3 g≠0;omega) (.int .i64 (fJ st1.next:Nat))) (fun k _=>rfl);have hand:bits BinOp.and IntKind.i64 ((st1.next:Int)+1) 1023=((fJ st1.next:Nat):Int):=by rw[qj];unfold fJ;omega
     have y8':w5.cell? ⟨g,8,none⟩=some (.int .i64 (st1.next:Nat)):=rE.cells.2.2.2.1;have f8:=rE.blk.frozen 8;have Y0:=ah pJ;have HO7:=ah K6;have NA:=ah OA;clear y7 y8 rE QX OA E8 K6 pJ Y2 hTG hTg hm5 U5 hg5 PN lX HR3 RA HFM hiN Hg;go_upto_region 3 with (fail)
     generalize w5.setCell ⟨g,8,none⟩ (.int .i64 (fJ st1.next:Nat))=w7 at*;have hs7:({st1 with op:=op,sm:=sm,m:=kG st1.m st1.next none,next:=fJ st1.next}:Rc)=zq st1 p:=by rw[WK.out,HE2.out];rfl
     have uQ:=Y0.out;rw[hs7] at uQ;have XX:dP (zq st1 p):=Cg.out.one HM.out;have hfn:=OB.out;rw[←List.append_assoc,←HE3.out] at hfn;have hn7:=XX.n1;obtain ⟨v7,hl7,hv7⟩:=uQ.drew.look hn7;obtain ⟨_,_,y7,y8,_⟩:=uQ.cells;have HR8:=ah uQ;have agf:=ah XX;have agh:=ah hfn;have HV8:=ah hv7;clear hs7 uQ XX hfn hv7 f8 y8' hand Y0 Cg OB;refine wp_region_still_tail 8 jZ (by kernel_rfl) ?_;simp only[List.take_succ_cons,List.take_zero,List.drop_succ_cons,List.drop_zero]
     repeat still_step
     refine wpStill_nil ?_;change wpList _ _ _ _ _ w7.drew;generalize zq st1 p=st2 at*;go_wp2_with fail
     go_roundg f
     case measure=>omega
     case rel=>
      refine ⟨j-1,st2,nN,T3,vo3,_,rfl,HR8.out.drew,agf.out,HT3.out,NA.out.drew,HO7.out.drew,agh.out,?_,?_,af3.out,?_⟩
      ·have h1:=HOB.out;have h2:=abH.out;omega
      ·have h1:=HJ.out;have h2:=Z4.out;omega
      ·exact HV8.out
end
end
section
open Go.RowKit Go.Shelf
structure Gg (B:Nat) (J:Nat→World→Prop):Prop where
 own:OwnFrom B J
 fresh:∀k A A',J k A→Below A.heap.size A A'→J k A'
theorem Gg.mono {B B':Nat} {J:Nat→World→Prop} (h:Gg B J) (hB:B≤B'):Gg B' J:=
 ⟨fun s A A' row hs hg hr=>h.own s A A' row hs hg (fun r e=>⟨Nat.le_trans hB (hr r e).1,(hr r e).2⟩),h.fresh⟩
def KN (n:Nat) (P:Program) (g:Nat) (lb:Array Value) (vals:Nat→Array Value) (N:Nat) (Kp:World→World→Prop) (w:World):Prop:=
 ∀(l:Nat) (J:Nat→World→Prop) (W:World),Below w.heap.size w W→w.heap.size+2≤W.heap.size→Gg W.heap.size J→
  (∀k W1,k<N→J k W1→YieldAt Fence.wide (n-1) P l (vals k) W1 fun e W'=>e= .returned (.bool true)∧J (k+1) W'∧Kp W1 W')→J 0 W→
  CallsIn Fence.wide n P g (#[.func (.yield l) #[] #[]]++lb) W fun e W'=>(∃v,e= .returned v)∧J N W'
def Jr (B:Nat) (Kp:World→World→Prop) (I:Nat→World→Prop) (k:Nat) (W0 W:World):Exit→Act→World→Prop
 | .normal,_,W'=>KeepsFrom B W W'∧Kp W0 W'∧I k W'
 |_,_,_=>False
theorem SK (k:Nat):Fence.wide.room k:=fun d h=>by cases h
variable {n:Nat} {P:Program}
theorem RoundIn.ix {m m':Nat} {P:Program} {l l':Nat} {f:FuncId} {tmps:Array Value} {assign body:Code} {w:World} {R:Ending→World→Prop}
 (h:RoundIn Fence.wide m P l f tmps assign body w R):RoundIn (Fence.wide.inRound l') m' P l f tmps assign body w R:=⟨h.1,fun c cs _=>h.2 c cs (SK _)⟩
theorem mP {g:Operand} {ps:Array Tmp} {assign body:Code} {Q:Exit→Act→World→Prop} {a:Act} {w:World}
 {gf:Nat} {lb:Array Value} (hg:a.eval g= .func (.func gf) #[] lb) (eg:∀args w,(callFunc gf args).run P w= .ok (.enter gf args) w)
 {vals:Nat→Array Value} {N:Nat} {Kp:World→World→Prop} {w0:World} (hseq:KN (n-1) P gf lb vals N Kp w0)
 (hKt:∀{A B C:World},Kp A B→Kp B C→Kp A C) (hKb:∀(W:World) (o o':Obj),W.heap[w.heap.size+1]? =some o→o.isCells=false→Kp W (W.putObj (w.heap.size+1) o')) (hb0:Below w0.heap.size w0 w)
 (hps:∀k,(vals k).size=ps.size) (I:Nat→World→Prop) (hI:Gg w.heap.size I) (h0:I 0 w)
 (WO:∀(l k:Nat) (W:World),k<N→I k W→(∃o,W.heap[w.heap.size+1]? =some o∧o.isCells=false)→
  assign.wpIn (Fence.wide.inRound l) (n-1-1) P (Exit.then (fun a' W'=>KeepsFrom w.heap.size W W'∧
   ∀W2 o',W2=W'.putObj (w.heap.size+1) o'→body.wpIn (Fence.wide.inRound l) (n-1-1) P (Jr w.heap.size Kp I (k+1) W W2) a' W2) (fun _ _ _=>False))
   {tmps:=(ps.zip (vals k)).foldl (fun t (p,v)=>t.setIfInBounds p v) a.tmps,defers:= []} W)
 (hdone:∀(D:Nat) (W:World),w.heap.size≤D→I N W→W.heap[D]? =some (.deferred (some []))→Q .normal {a with defers:= {target:= .collected D,args:= #[]}::a.defers} W):
 (Code.rangeFunc g ps assign body).wpIn Fence.wide n P Q a w:=by
 refine wpIn_rangeFunc fun fn hfn=> ?_
 rw[show Fence.wide.round=none from rfl]
 let R:LoopState→Loop:=fun st=> {state:=st,pending:=none,fn,tmps:=a.tmps,params:=ps,assign,body,defers:=w.heap.size}
 let W1:=(w.alloc (.deferred (some []))).alloc (.loop (R .ready))
 have hsz:W1.heap.size=w.heap.size+2:=by simp[W1]
 have hL1:W1.heap[w.heap.size+1]? =some (.loop (R .ready)):=by
  have:=World.alloc_heap_new (w.alloc (.deferred (some []))) (.loop (R .ready));rwa [World.size_alloc] at this
 have hD1:W1.heap[w.heap.size]? =some (.deferred (some [])):=(Below.heap_alloc _ _ _ (by simp)).trans (World.alloc_heap_new w _);have hBW:Below w0.heap.size w0 W1:=hb0.trans ((((Below.refl _ w).alloc (aN) _).alloc (by simp) _).mono hb0.size)
 let J:Nat→World→Prop:=fun k W=>I k W∧W.heap[w.heap.size+1]? =some (.loop (R .ready))∧W.heap[w.heap.size]? =some (.deferred (some []))
 have hJ:Gg W1.heap.size J:=by
  refine ⟨fun k A B row hs hgr hr=> ?_,fun k A A' hs hb=> ?_⟩
  ·refine ⟨hI.own k A B row hs.1 hgr (fun r e=>⟨by have:=(hr r e).1;omega,(hr r e).2⟩),?_,?_⟩
   ·exact (hgr.block _ (Array.getElem?_eq_some_iff.1 hs.2.1).1 (fun e=>by have:=(hr _ e.symm).1;omega)).trans hs.2.1
   ·exact (hgr.block _ (Array.getElem?_eq_some_iff.1 hs.2.2).1 (fun e=>by have:=(hr _ e.symm).1;omega)).trans hs.2.2
  ·exact ⟨hI.fresh k A A' hs.1 hb,(hb.block _ (Array.getElem?_eq_some_iff.1 hs.2.1).1).trans hs.2.1,(hb.block _ (Array.getElem?_eq_some_iff.1 hs.2.2).1).trans hs.2.2⟩
 refine ⟨w.heap.size+1,[{target:= .collected w.heap.size,args:= #[]}],W1,{target:= .fn (.func gf) lb,args:= #[.func (.yield (w.heap.size+1)) #[] #[]]},W1,gf,
  #[.func (.yield (w.heap.size+1)) #[] #[]]++lb,W1,run_enterLoop_outer _ _ _ _ _,?_,?_,?_,(fun hh=>(by cases hh)),?_⟩
 ·simp only[resolve,hg];simp[go_sem]
 ·intro f' hf';simp[Target.leads] at hf';subst hf';exact trivial
 ·simp[invoke,go_sem,eg]
 refine (hseq (w.heap.size+1) J W1 hBW (by have:=hb0.size;omega) hJ (fun k W hk hjk=> ?_) ⟨hI.fresh _ _ _ h0 (((Below.refl _ w).alloc (aN) _).alloc (by simp) _),hL1,hD1⟩).mono ?_
 ·
  obtain ⟨hi,hl,hd⟩:=hjk;refine ⟨fn,_,assign,body,run_yield (P:=P) (args:=vals k) hl (hps k),roundIn_of_wpIn hfn ?_⟩;refine wpIn_mono (WO _ k W hk hi ⟨_,hl,rfl⟩) ?_;rintro ex a2 W2 hp;cases ex with
  |normal=>
   obtain ⟨hk2,hbd⟩:=hp;have hl2:=hk2.same _ _ (by omega) hl rfl;have hd2:=hk2.same _ _ (aN) hd rfl;refine ⟨_,run_beginRound hl2 rfl,?_⟩;have hlb:(W2.putObj (w.heap.size+1) (.loop (R .busy))).heap[w.heap.size+1]? =some (.loop (R .busy)):=World.putObj_heap_same (Array.getElem?_eq_some_iff.1 hl2).1;have hdb:(W2.putObj (w.heap.size+1) (.loop (R .busy))).heap[w.heap.size]? =some (.deferred (some [])):=(World.putObj_heap_other (by omega)).trans hd2;refine wpIn_mono (hbd _ _ rfl) ?_;rintro ex a3 W3 hp;cases ex with
   |normal=>
    obtain ⟨hk3,hkp,hi3⟩:=hp;have hl3:=hk3.same _ _ (by omega) hlb rfl;have hd3:=hk3.same _ _ (aN) hdb rfl;refine ⟨_,_,run_endRound (P:=P) none hl3,rfl,⟨hI.own.putObj _ hi3 (by omega) hl3 rfl,World.putObj_heap_same (Array.getElem?_eq_some_iff.1 hl3).1,(World.putObj_heap_other (by omega)).trans hd3⟩,?_⟩;exact hKt hkp (hKb _ _ _ hl3 rfl)
   |ret=>exact hp.elim
   |exit id=>exact hp.elim
   |goto t=>exact hp.elim
   |panic ch=>exact hp.elim
   |outgrown=>exact hp.elim
  |ret=>exact hp.elim
  |exit id=>exact hp.elim
  |goto t=>exact hp.elim
  |panic ch=>exact hp.elim
  |outgrown=>exact hp.elim
 ·rintro e W2 ⟨⟨v,rfl⟩,hi,hl,hd⟩;exact ⟨none,_,run_endLoop (P:=P) hl (by simp[R]),hdone _ _ (aN) (hI.own.putObj _ hi (by omega) hl rfl) ((World.putObj_heap_other (by omega)).trans hd)⟩
end
section
open Go.RowKit Go.Shelf
attribute [local go_sem] Oper.semAt_some
theorem cell_of_heap {w w':World} {b:Nat} (h:w'.heap[b]? =w.heap[b]?) (off:Nat) (x:Option Nat):w'.cell? ⟨b,off,x⟩=w.cell? ⟨b,off,x⟩:=World.cell?_of_block (a:=⟨b,off,x⟩) h
theorem bM.same {w w':World} {A:Option Addr} {n c:Nat} {l:List Nk} (h:bM w A n c l) (hs:w.heap.size≤w'.heap.size) (hb:∀ad,A=some ad→w'.heap[ad.block]? =w.heap[ad.block]?):bM w' A n c l:=
 ⟨h.len,h.cap,h.mx,fun hn=>by
  obtain ⟨ad,e,hlt,hc⟩:=h.at_ hn;refine ⟨ad,e,Nat.lt_of_lt_of_le hlt hs,fun j r hr=> ?_⟩;obtain ⟨k0,k1,k2,k3⟩:=hc j r hr;have hbk:w'.heap[(ad.add (j*4)).block]? =w.heap[(ad.add (j*4)).block]? :=by rw[block_add];exact hb ad e
  exact ⟨(World.cell?_of_block (a:=ad.add (j*4)) hbk).trans k0,(cell_of_heap hbk _ _).trans k1,(cell_of_heap hbk _ _).trans k2,(cell_of_heap hbk _ _).trans k3⟩⟩
theorem bM.kept {w w':World} {A:Option Addr} {n c:Nat} {l:List Nk} {M:Nat→Obj→Prop} (h:bM w A n c l) (hk:Kept M w w') (hM:∀ad,A=some ad→∀o,¬M ad.block o) (hlt:∀ad,A=some ad→ad.block<w.heap.size):bM w' A n c l:=
 h.same hk.size fun ad e=>by
  have hl:=hlt ad e;have h1:=Array.getElem?_eq_getElem hl;rw[hk.same _ _ h1 (hM ad e _),h1]
theorem Kept.dD {M:Nat→Obj→Prop} {w w':World} (h:Below w.heap.size w w'):Kept M w w':=
 ⟨h.os,h.tape,h.output,h.size,fun k _o hk _=>(h.block k (Array.getElem?_eq_some_iff.1 hk).1).trans hk⟩
def yg (l:List Nk) (k:Nat):Array Value:= #[.int .i64 (k:Int),match l[k]? with
 |some x=> .agg (j6 x)
 |none=>undef]
set_option maxRecDepth 100000 in
set_option maxHeartbeats 2000000 in
theorem SL (n:Nat) (g:Nat) (A:Option Addr) (N c:Nat) (l:List Nk) (M:Nat→Obj→Prop) (w:World)
 (hg:au w g 131 #[.slice A N c]) (hv:bM w A N c l) (hlo:∀ad,A=some ad→ad.block<w.heap.size) (hMg:¬M g (.cells #[.slice A N c] 131 (0,0))) (N5:∀ad,A=some ad→∀o,¬M ad.block o):
 KN n Tryz.prog 222 #[.pointer (some ⟨g,0,none⟩)] (yg l) N (Kept M) w:=fun p J W hW _ hJ hY h0=>by
 have hg':=hg.below hW hg.lt;have hv':=hv.below hW;have hlt':∀ad,A=some ad→ad.block<W.heap.size:=fun ad e=>Nat.lt_of_lt_of_le (hlo ad e) hW.size
 have hvk:∀wr,Kept M W wr→bM wr A N c l:=fun wr hk=>hv'.kept hk N5 hlt'
 have VF:=ah hvk;have HY:=ah hY;have HJ:=ah hJ;have hlen:=hv.len;have hcap:=hv.cap;have hmx:=hv.mx;have HL:=ah hlen;clear hvk hY hJ hlen;refine callsIn_of_wp Tryz.func222 rfl trivial ?_ rfl;simp only[Tryz.ntmps222,List.size_toArray,List.length_cons,List.length_nil,Nat.reduceAdd,Nat.reduceSub,Array.replicate_succ,Array.replicate_zero,List.push_toArray,List.append_toArray,List.nil_append,List.cons_append];have hcw:=hg'.cell 0;simp at hcw
 gi_wp2
 gi_loopw [7] (fun i wr=>∃k:Nat,k≤N∧i= .int .i64 k∧J k wr∧Kept M W wr) (fun i _=>N-(intOf i).toNat)
 case atStart=>exact ⟨0,Nat.zero_le _,by simp,h0,Kept.refl _ _⟩
 case round=>
  obtain ⟨k,hk,rfl,hJs,hnx⟩:=hrel;by_cases hlt:k<N
  ·obtain ⟨x,hx⟩:∃x,l[k]? =some x:=⟨_,List.getElem?_eq_getElem (by have:=HL.out;omega)⟩
   have N6:=VF.out wr hnx;obtain ⟨ad,rfl,Bh,hcl⟩:=N6.at_ (by omega);obtain ⟨k0,k1,k2,k3⟩:=hcl k x hx;clear hcl N6;have b1:=au.new wr 197 (j6 x);have y0:(wr.alloc (.cells (j6 x) 197)).cell? ⟨wr.heap.size,0,none⟩=some (.int .i64 x.sn):=b1.cell 0;have y1:(wr.alloc (.cells (j6 x) 197)).cell? ⟨wr.heap.size,1,none⟩=some (.bool x.part):=b1.cell 1;have y2:(wr.alloc (.cells (j6 x) 197)).cell? ⟨wr.heap.size,2,none⟩=some (.int .i64 x.fr):=b1.cell 2;have y3:(wr.alloc (.cells (j6 x) 197)).cell? ⟨wr.heap.size,3,none⟩=some (.int .i64 x.lt):=b1.cell 3;have hbw:Below wr.heap.size wr (wr.alloc (.cells (j6 x) 197)):=(Below.refl _ wr).alloc (aN) _;have EW:=HY.out k _ hlt (HJ.out.fresh k wr _ hJs hbw);have hnx2:Kept M W (wr.alloc (.cells (j6 x) 197)):=hnx.trans (Kept.dD hbw);have AQ:=ah hnx2;have HX:=ah hx;unfold yg at EW;rw[hx] at EW;unfold j6 at*;obtain ⟨fn,tmps,assign,body,hy,hR⟩:=EW;simp only[] at hy;clear b1 hx hnx2 hbw hnx
   gi_wp2
   refine ⟨fun hh=>(by cases hh),hR.mono ?_⟩;rintro e W3 ⟨rfl,hJ3,hk3⟩
   gi_wp2
   go_roundw
   case rel=>exact ⟨k+1,by omega,by go_num,hJ3,AQ.out.trans hk3⟩
   case measure=>simp[intOf];omega
  ·have e:k=N:=by omega
   have Dz:J N wr:=by rw[e] at hJs;exact hJs
   clear e hJs
   gi_wp2
   go_end0
   exact ⟨⟨_,rfl⟩,Dz⟩
end
section
open Go.RowKit Go.Shelf
attribute [local go_sem] Oper.semAt_some
def mW (l:List Nk):List Value:=l.flatMap (fun r=> [.int .i64 r.sn,.bool r.part,.int .i64 r.fr,.int .i64 r.lt])
theorem zC (l:List Nk):(mW l).length=l.length*4:=by
 induction l with
 |nil=>rfl
 |cons r t ih=>
  simp only[mW,List.flatMap_cons,List.length_append,List.length_cons,List.length_nil] at ih ⊢;omega
theorem Gj (r:Nk) (t:List Nk):mW (r::t)= .int .i64 r.sn:: .bool r.part:: .int .i64 r.fr:: .int .i64 r.lt::mW t:=by simp[mW]
theorem Eh:∀(l:List Nk) (j:Nat) (r:Nk),l[j]? =some r→(mW l)[j*4]? =some (.int .i64 r.sn)∧(mW l)[j*4+1]? =some (.bool r.part)∧(mW l)[j*4+2]? =some (.int .i64 r.fr)∧(mW l)[j*4+3]? =some (.int .i64 r.lt)
 | [],j,r,h=>by simp at h
 |x::t,0,r,h=>by
  simp at h;subst h;rw[Gj];exact ⟨rfl,rfl,rfl,rfl⟩
 |x::t,j+1,r,h=>by
  have ih:=Eh t j r (by simpa using h);rw[Gj];rw[show (j+1)*4=j*4+1+1+1+1 by omega];exact ih
theorem SX (l:List Nk):∀u∈mW l,u.oneCell'=true:=by
 intro u hu;simp only[mW,List.mem_flatMap,List.mem_cons,List.not_mem_nil,or_false] at hu;obtain ⟨r,_,rfl|rfl|rfl|rfl⟩:=hu<;>rfl
theorem bM.cells {w:World} {ad:Addr} {n c:Nat} {l:List Nk} (h:bM w (some ad) n c l):∀j u,(mW l)[j]? =some u→w.cell? (ad.add j)=some u:=by
 intro j u hu;have hj:=(List.getElem?_eq_some_iff.1 hu).1;rw[zC] at hj;have hn:=h.len;obtain ⟨yu,e,hb,hc⟩:=h.at_ (by omega);cases e;obtain ⟨r,hr⟩:∃r,l[j/4]? =some r:=⟨_,List.getElem?_eq_getElem (by omega)⟩
 obtain ⟨g1,g2,g3,g4⟩:=Eh l _ r hr;obtain ⟨k1,k2,k3,k4⟩:=hc _ r hr;have hm:j%4=0∨j%4=1∨j%4=2∨j%4=3:=by omega
 rcases hm with hm|hm|hm|hm
 ·have e2:j/4*4=j:=by omega
  rw[e2] at g1 k1;rw[g1] at hu;cases hu;exact k1
 ·have e2:j/4*4+1=j:=by omega
  rw[e2] at g2;rw[g2] at hu;cases hu;rw[←e2,←add_add];exact k2
 ·have e2:j/4*4+2=j:=by omega
  rw[e2] at g3;rw[g3] at hu;cases hu;rw[←e2,←add_add];exact k3
 ·have e2:j/4*4+3=j:=by omega
  rw[e2] at g4;rw[g4] at hu;cases hu;rw[←e2,←add_add];exact k4
theorem bM.cB {w:World} {l:List Nk} {base:Nat} {v:Value} (h:w.ownsRow base 197 4 v l.length (mW l)):
 ∃A c,v= .slice A l.length c∧bM w A l.length c l∧(∀ad,A=some ad→base≤ad.block∧ad.block<w.heap.size):=by
 rcases h.2 with ⟨rfl,hn⟩|⟨g,cap,cur,rfl,hb,hg,hnc,hcm,hcs,ht⟩
 ·have:=List.eq_nil_of_length_eq_zero hn;subst this;exact ⟨none,0,rfl,⟨rfl,aN,by omega,fun hn=>by simp at hn⟩,fun ad e=>by cases e⟩
 ·refine ⟨_,_,rfl,⟨rfl,hnc,by unfold maxLen at hcm;omega,fun _=>⟨_,rfl,lt_of_heap hg,fun j r hr=> ?_⟩⟩,fun ad e=>by cases e;exact ⟨hb,lt_of_heap hg⟩⟩;have hc:=fun j u (hu:(mW l)[j]? =some u)=>h.cells (g:=g) rfl j u hu
  obtain ⟨g1,g2,g3,g4⟩:=Eh l j r hr;refine ⟨hc _ _ g1,?_,?_,?_⟩
  ·have:=hc _ _ g2;rw[←add_add] at this;exact this
  ·have:=hc _ _ g3;rw[←add_add] at this;exact this
  ·have:=hc _ _ g4;rw[←add_add] at this;exact this
theorem SY:(Tryz.prog.info? 197).map (fun i=>(i.zero,i.size,i.bytes))=some (some (.agg #[.int .i64 0,.bool false,.int .i64 0,.int .i64 0]),4,32):=by kernel_rfl
theorem qw:∃i,Tryz.prog.info? 197=some i∧i.zero=some (.agg #[.int .i64 0,.bool false,.int .i64 0,.int .i64 0])∧i.size=4∧i.bytes=32:=by
 have h:=SY;cases hi:Tryz.prog.info? 197 with
 |none=>rw[hi] at h;cases h
 |some i=>
  rw[hi] at h;simp only[Option.map_some,Option.some.injEq,Prod.mk.injEq] at h;exact ⟨i,rfl,h.1,h.2.1,h.2.2⟩
theorem sM:Tryz.prog.underlying 131=some (.slice 197):=by kernel_rfl
section
variable {P:Program} (w:World)
theorem BF (base:Nat) (t ty e:TypeId) (i:TypeInfo) (z:Value) (bytes:Nat) (ht:P.underlying t=some (.slice e)) (hi:P.info? e=some i) (hz:i.zero=some z)
 (hsize:i.size=4) (hby:i.bytes=bytes) (hzs:z.cells.size=4)
 (v:Value) (n:Nat) (xs:List Value) (hown:w.ownsRow base e 4 v n xs)
 (A:Option Addr) (m c:Nat) (l:List Nk) (hr:bM w A m c l)
 (h63:n+m≤maxLen) (hbytes:(n+m)*bytes≤140737488355328) (hbase:base≤w.heap.size):
 ∃v' w',(Builtin.append_ #[t,t] ty #[v,.slice A m c]).run P w= .ok v' w'∧w'.ownsRow base e 4 v' (n+m) (xs++mW l)∧w.grownBy w' v.ownBlock:=by
 rcases A with _|ad
 ·have hm:m=0:=by
   rcases Nat.eq_zero_or_pos m with h0|h0
   ·exact h0
   ·obtain ⟨ad,h,_⟩:=hr.at_ h0;cases h
  subst hm;have hn:l= []:=List.eq_nil_of_length_eq_zero hr.len;subst hn;exact ⟨v,w,jy w base t ty e i 4 ht hi v n xs hown c,by simpa[mW] using hown,World.grownBy.refl w _⟩
 ·obtain ⟨v',w',hrun,h2,h3,_,h5⟩:=run_append_own_at (P:=P) w base t ty e i z 4 bytes ht hi hz hsize hby hzs (by omega) v n xs hown ad m c (mW l) (by rw[zC,hr.len]) hr.cells (SX l) h63 hbytes hbase;exact ⟨v',w',hrun,h2,h3⟩
theorem uJ {o:Oper} {a:Act} {K:Act→World→Prop} {Q:Exit→Act→World→Prop} (s x:Operand) (t:TypeId)
 (ho:o.op= .call {callee:= .builtin .append,args:= #[s,x],argTypes:= #[t,t]})
 (base:Nat) (e:TypeId) (i:TypeInfo) (z:Value) (bytes:Nat) (ht:P.underlying t=some (.slice e)) (hi:P.info? e=some i) (hz:i.zero=some z)
 (hsize:i.size=4) (hby:i.bytes=bytes) (hzs:z.cells.size=4)
 (v:Value) (n:Nat) (xs:List Value) (hs:a.eval s=v) (hown:w.ownsRow base e 4 v n xs)
 (A:Option Addr) (m c:Nat) (l:List Nk) (hx:a.eval x= .slice A m c) (hr:bM w A m c l)
 (h63:n+m≤maxLen) (hbytes:(n+m)*bytes≤140737488355328) (hbase:base≤w.heap.size)
 (h:∀v' w',w'.ownsRow base e 4 v' (n+m) (xs++mW l)→w.grownBy w' v.ownBlock→K (a.put o.dst v') w'):o.wp P a w K Q:=by
 obtain ⟨v',w',hrun,h2,h3⟩:=BF (P:=P) w base t o.type e i z bytes ht hi hz hsize hby hzs v n xs hown A m c l hr h63 hbytes hbase;unfold Oper.wp execOp;simp only[ho,resolve,invoke,builtin,Sem.run_bind,Sem.run_pure,Result.andThen_ok,List.map_toArray,List.map_cons,List.map_nil,hs,hx,hrun];exact h v' w' h2 h3
theorem gF {ops:Array Oper} {rest:List Oper} {o:Oper} {a:Act} {Q:Exit→Act→World→Prop} (hgd:o.guard=none) (s x:Operand) (t:TypeId)
 (ho:o.op= .call {callee:= .builtin .append,args:= #[s,x],argTypes:= #[t,t]})
 (base:Nat) (e:TypeId) (i:TypeInfo) (z:Value) (bytes:Nat) (ht:P.underlying t=some (.slice e)) (hi:P.info? e=some i) (hz:i.zero=some z)
 (hsize:i.size=4) (hby:i.bytes=bytes) (hzs:z.cells.size=4)
 (v:Value) (n:Nat) (xs:List Value) (hs:a.eval s=v) (hown:w.ownsRow base e 4 v n xs)
 (A:Option Addr) (m c:Nat) (l:List Nk) (hx:a.eval x= .slice A m c) (hr:bM w A m c l)
 (h63:n+m≤maxLen) (hbytes:(n+m)*bytes≤140737488355328) (hbase:base≤w.heap.size)
 (h:∀v' w',w'.ownsRow base e 4 v' (n+m) (xs++mW l)→w.grownBy w' v.ownBlock→wpList P ops Q rest (a.put o.dst v') w'):wpList P ops Q (o::rest) a w:=
 wpList_plain hgd fun _ hK=>uJ w s x t ho base e i z bytes ht hi hz hsize hby hzs v n xs hs hown A m c l hx hr h63 hbytes hbase fun v' w' h2 h3=>hK _ _ (h v' w' h2 h3)
end
set_option maxRecDepth 3000 in
set_option maxHeartbeats 400000 in
theorem wU (A:Option Addr) (n c:Nat) (l:List Nk) (w:World) (h:bM w A n c l) (hsm:n≤1000000):
 Calls Tryz.prog 120 #[.slice A n c] w fun e w'=>∃A' c',e= .returned (.slice A' n c')∧bM w' A' n c' l∧(∀ad,A'=some ad→w.heap.size≤ad.block∧ad.block<w'.heap.size)∧Below w.heap.size w w':=by
 have hnil:=fun (W:World)=>Lib.run_eql_slice_nil (P:=Tryz.prog) W 131 197 A n c 0 0 sM
 obtain ⟨i0,hi,hz0,hz1,hz2⟩:=qw;have hl:=h.len;subst hl;have hs1:=h.alloc (.cells #[] 197);rcases A with _|ad
 ·have hl:l= []:=by
   rcases Nat.eq_zero_or_pos l.length with h0|h0
   ·exact List.eq_nil_of_length_eq_zero h0
   ·obtain ⟨_,e,_⟩:=h.at_ h0;cases e
  subst hl;simp only[List.length_nil] at hnil ⊢;clear hs1 h;go_enter Tryz.func120,Tryz.ntmps120;go_wp2;go_ret;exact ⟨none,0,rfl,⟨rfl,aN,by omega,fun hn=>by simp at hn⟩,fun ad e=>(by cases e),Below.refl _ _⟩
 ·go_enter Tryz.func120,Tryz.ntmps120;go_wp2_with (at_builtin;refine gF _ rfl _ _ 131 rfl w.heap.size 197 i0 (.agg #[.int .i64 0,.bool false,.int .i64 0,.int .i64 0]) 32 sM hi hz0 hz1 hz2 rfl (.slice (some ⟨w.heap.size,0,none⟩) 0 0) 0 [] rfl ?c0 (some ad) l.length c l rfl hs1 ?c3 ?c4 ?c5 ?_)
  case c0=>exact World.ownsRow_lit w #[] 0 (aN) (by unfold maxLen;omega) rfl
  case c3=>unfold maxLen;omega
  case c4=>omega
  case c5=>simp
  intro v' w1 hown' hgrow;go_wp2;go_ret;have hb:Below w.heap.size w w1:=((Below.refl _ w).alloc (aN) _).grown hgrow (by simp) (by simp[Value.ownBlock]);obtain ⟨A',c',rfl,h1,h2⟩:=bM.cB (l:=l) (by simpa using hown');exact ⟨A',c',rfl,h1,h2,hb⟩
set_option maxRecDepth 3000 in
set_option maxHeartbeats 400000 in
theorem Ph (F:Fence) (n:Nat) (hF:F.fn 209) (hro:F.round=none) (A:Option Addr) (N c:Nat) (w:World):
 CallsIn F n Tryz.prog 209 #[.slice A N c] w fun e w'=>e= .returned (.func (.func 222) #[] #[.pointer (some ⟨w.heap.size,0,none⟩)])∧w'=w.alloc (.cells #[.slice A N c] 131):=by
 refine callsIn_of_wp Tryz.func209 rfl hF ?_ hro;simp only[Tryz.ntmps209,List.size_toArray,List.length_cons,List.length_nil,Nat.reduceAdd,Nat.reduceSub,Array.replicate_succ,Array.replicate_zero,List.push_toArray,List.append_toArray,List.nil_append,List.cons_append]
 gi_wp2
 go_ret;exact ⟨rfl,rfl⟩
set_option maxRecDepth 3000 in
set_option maxHeartbeats 400000 in
theorem Gl (aL sn:Int) (A:Option Addr) (n c:Nat) (l:List Nk) (w:World) (h:bM w A n c l) (hsm:n≤1000000):
 Calls Tryz.prog 185 #[.agg #[.int .i64 aL,.slice A n c],.int .i64 sn] w fun e w'=>∃g b A' c',e= .returned (.func (.func 208) #[] #[.pointer (some ⟨g,0,none⟩),.pointer (some ⟨b,0,none⟩)])∧
  au w' g 131 #[.slice A' n c']∧au w' b 3 #[.int .i64 sn]∧bM w' A' n c' l∧(∀ad,A'=some ad→w.heap.size≤ad.block∧ad.block<w'.heap.size)∧w.heap.size≤g∧w.heap.size≤b∧Below w.heap.size w w':=by
 have b0:=au.new w 133 #[.int .i64 aL,.slice A n c];have b1:=au.new (w.alloc (.cells #[.int .i64 aL,.slice A n c] 133)) 3 #[.int .i64 sn];have YG:=b0.alloc (.cells #[.int .i64 sn] 3);have hz:(w.alloc (.cells #[.int .i64 aL,.slice A n c] 133)).heap.size=w.heap.size+1:=World.size_alloc _ _;rw[hz] at b1;have z0:=YG.cell 0;have z1:=YG.cell 1;simp at z0 z1;have hN:=(h.alloc (.cells #[.int .i64 aL,.slice A n c] 133)).alloc (.cells #[.int .i64 sn] 3);have hB:Below w.heap.size w ((w.alloc (.cells #[.int .i64 aL,.slice A n c] 133)).alloc (.cells #[.int .i64 sn] 3)):=((Below.refl _ w).alloc (aN) _).alloc (by simp) _;have hcl:=wU A n c l _ hN hsm;have HB:=ah hB;have B1:=ah b1;have pV:=ah hcl;clear b0 b1 YG hN hB hcl h;go_enter Tryz.func185,Tryz.ntmps185;go_wp2_with fail;refine pV.out.mono ?_;rintro e w1 ⟨A',c',rfl,hN1,hf1,hb1⟩;go_wp2_with fail;go_ret;have hs1:=HB.out.size;refine ⟨w1.heap.size,w.heap.size+1,A',c',rfl,au.new w1 _ _,((B1.out.below hb1 B1.out.lt).alloc _),hN1.alloc _,fun ad e=> ?_,by have:=hb1.size;omega,by omega,(HB.out.trans (hb1.mono hs1)).alloc (by have:=hb1.size;omega) _⟩;have:=hf1 ad e;simp;omega
end
end Go.Proofs.YtbhiklnljiehiaaGreat
