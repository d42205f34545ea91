/- amrecv: deliver. Plain mathematics: decoding undoes encoding of acknowledged mode PDUs, and encoding undoes decoding. -/
import Derived.Test.YtiecgfahidpldaaGreatM0ad
import Derived.Test.YtiecgfahidpldaaGreatM0af
import Derived.Test.YtiecgfahidpldaaGreatM0ag
import Derived.Test.YtiecgfahidpldaaGreatM0ak
import Derived.StillTailTactics
namespace Go.Proofs.YtiecgfahidpldaaGreat
section
open Go.RowKit Go.Shelf
attribute [local go_sem] Oper.semAt_some
section
variable {w w' W W':World} {T T':Nat→Nat} {g M n:Nat} {c:Cf} {st:Rc} {vo v:Value} {base:Nat} {outs:List (List UInt8)}
def Kl (w:World) (T:Nat→Nat) (g M n:Nat) (c:Cf) (R:Rc × List (List UInt8)) (e:Ending) (w':World):Prop:=
 ∃T' Di v,e= .returned v∧bO w' T' g M n c R.1 Di∧(∀k,k<w.heap.size→T' k=T k)∧Kept (MT T) w w'∧bQ w' w.heap.size T' v R.2
theorem dm.trans {T2:Nat→Nat} (h:Kept (MT T) w W) (h2:Kept (MT T2) W W') (hT:∀k,k<w.heap.size→T2 k=T k):Kept (MT T) w W':=
 ⟨h2.os.trans h.os,h2.tape.trans h.tape,h2.output.trans h.output,Nat.le_trans h.size h2.size,fun i o hi hn=>h2.same i o (h.same i o hi hn) (fun hm=>hn (by unfold MT at*;rw[←hT i (lt_of_heap hi)];exact hm))⟩
def P5 (w:World) (T:Nat→Nat) (g M n:Nat) (c:Cf) (st:Rc) (p:Sp) (b:Nat) (vf vd:Value) (N:Nat) (W0:World) (FIN:List UInt8 × Bool × List (List UInt8)) (ob:Nat) (gk:Nat) (s2 s4 s5:Value) (W:World):Prop:=
 ∃(i fr:Nat) (op:List UInt8) (sm:Bool) (outs:List (List UInt8)) (T2:Nat→Nat) (Ec v2:Value),s2=v2∧s4= .int .i64 (fr:Nat)∧s5= .int .i64 (i:Nat)∧gk+i=N+1∧1≤i∧fr<i∧bO W T2 g M n c {st with op:=op,sm:=sm} Ec∧op.length≤9000∧
  (∀k,k<w.heap.size→T2 k=T k)∧Kept (MT T) w W∧bQ W w.heap.size T2 v2 outs∧FIN=((j5 p.fl p.da N gk i fr op sm).1,(j5 p.fl p.da N gk i fr op sm).2.1,outs++(j5 p.fl p.da N gk i fr op sm).2.2)∧outs.length+gk≤ob∧
  gG W b p vf vd∧T2 b=3*st.next+4∧b≠g∧(∀j,vf.ownBlock=some j→T2 j=3*st.next+5)∧(∀j,vd.ownBlock=some j→T2 j=3*st.next+6)∧W0.heap.size≤W.heap.size
def P6 (w:World) (T:Nat→Nat) (g M n:Nat) (c:Cf) (FIN:Rc × List (List UInt8)) (gk:Nat) (s2 s3:Value) (W:World):Prop:=
 ∃(j:Nat) (st:Rc) (outs:List (List UInt8)) (T2:Nat→Nat) (Ec v2:Value),s2=v2∧bO W T2 g M n c st Ec∧aM st∧(∀k,k<w.heap.size→T2 k=T k)∧Kept (MT T) w W∧bQ W w.heap.size T2 v2 outs∧
  FIN=((bu gk st).1,outs++(bu gk st).2)∧outs.length+40000*gk≤40000*1024∧j<gk∧bP (st.m ((st.next+j)%1024))=false∧
  ((st.m st.next=none∧s3= .pointer none)∨∃p b vf vd,st.m st.next=some p∧s3= .pointer (some ⟨b,0,none⟩)∧gG W b p vf vd∧T2 b=3*st.next+4∧(∀j,vf.ownBlock=some j→T2 j=3*st.next+5)∧(∀j,vd.ownBlock=some j→T2 j=3*st.next+6))
theorem rP {f:Nat} {st:Rc} (h:bP (st.m st.next)=false):bu f st=(st,[]):=by
 cases f with
 |zero=>rfl
 |succ f=>
  unfold bu;cases hm:st.m st.next with
  |none=>rfl
  |some p=>
   rw[hm] at h;have h2:eU p=false:=h;dsimp only;rw[if_neg (by rw[h2];simp)]
theorem wu {f:Nat} {st:Rc} {p:Sp} (hm:st.m st.next=some p) (hc:eU p=true):bu (f+1) st=((bu f (lY st p)).1,(qX st p).2.2++(bu f (lY st p)).2):=by
 rw[bu,hm];dsimp only;rw[if_pos hc]
theorem yF {W:World} {gd L cd fr i:Nat} {da:List UInt8} (h:W.ownsRow 0 5 1 (.slice (some ⟨gd,0,none⟩) L cd) L (bE da)) (hl:da.length=L) (hfi:fr≤i) (hi:i≤L) (hL:L≤100000):Sl W W.heap.size (some ⟨gd,fr,none⟩) (i-fr) (i-fr) (bE ((da.take i).drop fr)):=by
 have hg:=(h.lt gd rfl).2;refine ⟨by rw[gD,List.length_drop,List.length_take];omega,Nat.le_refl _,by omega,fun _=>⟨_,rfl,hg,fun j u hu=> ?_⟩⟩;rw[Addr.add_lit];have hj:=(List.getElem?_eq_some_iff.1 hu).1;rw[gD,List.length_drop,List.length_take] at hj;rw[h.cellAt _ (by omega)];unfold bE at hu ⊢;rw[List.getElem?_map] at hu ⊢;rw[List.getElem?_drop,List.getElem?_take,if_pos (by omega)] at hu;exact hu
set_option maxRecDepth 100000 in
set_option maxHeartbeats 8000000 in
theorem qb (h:bO w T g M n c st vo) (ho:aM st):Calls Tryz.prog 38 #[.pointer (some ⟨g,0,none⟩)] w (Kl w T g M n c (bu 1024 st)):=by
 obtain ⟨FIN,hF⟩:∃FIN,FIN=bu 1024 st:=⟨_,rfl⟩
 rw[←hF];have HH:=Lib.hid h;have HO:=Lib.hid ho;have HF:=Lib.hid hF;have hstop:=ho.stops (sn:=st.next) ho.n1;have HST:=Lib.hid hstop;have fq:Tryz.prog.follows .mixedOrders=true:=by kernel_rfl
 have hn1:=ho.n1;obtain ⟨x3,x4,x7,x8,x9,x10,wN,wO,xM,pP,zf,xN,xO,x18⟩:=h.cells;obtain ⟨v,hl,hv⟩:=h.drew.look hn1;have HV:=Lib.hid hv;clear h ho hF hstop hv x3 x4 x9 x10 wN wO xM pP zf xN xO x18;go_enter Tryz.func38,Tryz.ntmps38;go_upto_region 1 with (fail)
 go_cut [3] (fun s3 wx=>s3=v∧wx=w.drew)
 case first=>
  refine wp_region_still_tail 8 fq (by kernel_rfl) ?_;simp only[List.take_succ_cons,List.take_zero,List.drop_succ_cons,List.drop_zero]
  repeat still_step
  refine wpStill_nil ?_;change wpList _ _ _ _ _ w.drew;go_wp2;go_meet;exact ⟨rfl,rfl⟩
 case rest=>
 obtain ⟨rfl,rfl⟩:=hcut;have H0:=Lib.hid HH.out.drew;clear hl x7 x8;go_wp2_with fail;go_loopg [2,3] 1024 (fun gk s2 s3 wr=>P6 w T g M n c FIN gk s2 s3 wr)
 case atStart=>
  obtain ⟨j,h1,h2⟩:=HST.out;refine ⟨j,st,[],T,vo,_,rfl,H0.out,HO.out,fun _ _=>rfl,(Kept.refl _ w).drew,bQ.nil _ _ _,by rw[HF.out];rfl,by simp,h1,h2,?_⟩;exact HV.out
 case round=>
  obtain ⟨j,st1,outs,T2,Ec,v2,rfl,hR,hok,Nn,hK,hO,hfin,hol,hj,hst,hp⟩:=hrel;have hn2:=hok.n1;have hcm:Calls Tryz.prog 42 #[u3] wr fun e w'=>e= .returned (.bool (bP (st1.m st1.next)))∧Below wr.heap.size wr w':=by
   rcases hp with ⟨hm,rfl⟩|⟨p,b,vf,vd,hm,rfl,hs,_⟩
   ·rw[hm];exact jb wr
   ·rw[hm];exact jc hs (hok.m _ p hm).2.2
  obtain ⟨f,rfl⟩:∃f,gk=f+1:=⟨gk-1,by omega⟩
  obtain ⟨vs,hrow,Ed,oJ⟩:=hO;obtain ⟨Av,cv,rfl,hsv,-⟩:=aK hrow;have Km:=Lib.hid (show bQ wr w.heap.size T2 (.slice Av outs.length cv) outs from ⟨vs,hrow,Ed,oJ⟩);have HR:=Lib.hid hR;have uV:=Lib.hid hok;have HT2:=Lib.hid Nn;have HK:=Lib.hid hK;clear hrow Ed oJ hsv hR Nn hK HST HV H0;cases hcc:bP (st1.m st1.next) with
  |false=>
   rw[hcc] at hcm;rw[rP hcc,List.append_nil] at hfin;have Ip:=Lib.hid hfin;have HCM:=Lib.hid hcm;clear hfin hcm hcc hst hp hok;go_wp2_with (go_at_call 42;refine HCM.out.mono ?_;rintro e1 w1 ⟨rfl,hb1⟩);go_ret;rw[Ip.out];exact ⟨T2,Ec,_,rfl,HR.out.below hb1,HT2.out,dm.trans HK.out (iD hb1) HT2.out,Km.out.below hb1⟩
  |true=>
   rw[hcc] at hcm;obtain ⟨p,b,vf,vd,hm,rfl,hs,t1,t2,t3⟩:∃p b vf vd,st1.m st1.next=some p∧u3= .pointer (some ⟨b,0,none⟩)∧gG wr b p vf vd∧T2 b=3*st1.next+4∧(∀j,vf.ownBlock=some j→T2 j=3*st1.next+5)∧(∀j,vd.ownBlock=some j→T2 j=3*st1.next+6):=by
    rcases hp with ⟨hm,_⟩|h9
    ·rw[hm] at hcc;cases hcc
    ·exact h9
   have hcs:eU p=true:=by rw[hm] at hcc;exact hcc
   rw[wu hm hcs] at hfin;obtain ⟨_,_,hsp⟩:=hok.m _ p hm;obtain ⟨N,hN,hN0,hgN⟩:∃N,p.size=some N∧0<N∧iy p.fl=N:=by
    unfold eU at hcs;cases hsz:p.size with
    |none=>rw[hsz] at hcs;cases hcs
    |some k=>
     rw[hsz] at hcs;simp only[Bool.and_eq_true,decide_eq_true_eq] at hcs;exact ⟨k,rfl,hcs.1,hcs.2⟩
   have hgl:=kW p.fl;have Ih:N≤p.fl.length:=by omega
   have P7:=hsp.le;have hsI:aJ p=(N:Int):=by unfold aJ;rw[hN]
   have Np:oq p=N:=by unfold oq;rw[hN];rfl
   have hj0:j≠0:=fun e=>by
    rw[e,Nat.add_zero,Nat.mod_eq_of_lt (by omega),hcc] at hst;cases hst
   have qY:bP ((lY st1 p).m (((lY st1 p).next+(j-1))%1024))=false:=by
    show bP (dZ st1.m st1.next none ((bH st1.next+(j-1))%1024))=false
    unfold bH dZ;rw[show ((st1.next+1)%1024+(j-1))%1024=(st1.next+j)%1024 by omega];split
    ·rfl
    ·exact hst
   have hbg:b≠g:=fun e=>by
    have h8:=HR.out.tg;rw[←e,t1] at h8;omega
   have hbl:=hs.blk.lt;obtain ⟨FI,Nq⟩:∃FI,FI=((qX st1 p).1,(qX st1 p).2.1,outs++(qX st1 p).2.2):=⟨_,rfl⟩
   have Ip:=Lib.hid Nq;have D9:=Lib.hid hfin;have HCM:=Lib.hid hcm;have HM:=Lib.hid hm;have HS:=Lib.hid hs;have FR:=Lib.hid hsp;have Kn:=Lib.hid qY;have EK:=Lib.hid hj0;have HJ:=Lib.hid hj;have HT1:=Lib.hid t1;have P8:=Lib.hid t2;have P9:=Lib.hid t3;have Qa:=Lib.hid hsI;have Bf:=Lib.hid Np;have FT:=Lib.hid hbg;have FU:=Lib.hid hol;have hop1:=hok.op;have FM:=Lib.hid hop1;clear Nq hfin hcm hcc hst hp hok hm hs hsp qY hj0 hj t1 t2 t3 hsI Np hbg hgN hgl hN hcs hol hop1
   go_upto_block 2 with (go_at_call 42;refine HCM.out.mono ?_;rintro e1 w1 ⟨rfl,hb1⟩)
   have hs1:gG w1 b p vf vd:=HS.out.stay (hb1.block b hbl) (fun k hk=>hb1.block k (HS.out.fr.lt k hk).2) (fun k hk=>hb1.block k (HS.out.dr.lt k hk).2);have kU:=HR.out.below hb1;have hK1:=dm.trans HK.out (iD hb1) HT2.out;have Nr:=Km.out.below hb1;have hwz:=hb1.size;have rZ:=Lib.hid hs1;have HR1:=Lib.hid kU;have sF:=Lib.hid hK1;have Qb:=Lib.hid Nr;clear hs1 kU hK1 Nr hb1 HCM HS HR HK Km;go_wp2_with fail;go_loopg [2,4,5] N (fun gk s2 s4 s5 wq=>P5 w T g M n c st1 p b vf vd N w1 FI (outs.length+N) gk s2 s4 s5 wq)
   case atStart=>
    refine ⟨1,0,st1.op,st1.sm,outs,T2,Ec,_,rfl,rfl,rfl,rfl,Nat.le_refl _,by omega,HR1.out,FM.out,HT2.out,sF.out,Qb.out,?_,Nat.le_refl _,rZ.out,HT1.out,FT.out,P8.out,P9.out,Nat.le_refl _⟩;rw[Ip.out];unfold qX;rw[Bf.out]
   case round=>
    obtain ⟨i,fr,op,sm,gq,T3,Ko,v3,rfl,rfl,rfl,hki,hi1,hfi,hR,hop,Kq,hK,hO,hfin,hol,hs,t1,_,t2,t3,Dl⟩:=hrel;obtain ⟨z0,z1,z2⟩:wr.cell? ⟨b,0,none⟩=some vf∧wr.cell? ⟨b,1,none⟩=some vd∧wr.cell? ⟨b,2,none⟩=some (.int .i64 (aJ p)):=⟨hs.blk.cell 0,hs.blk.cell 1,hs.blk.cell 2⟩;rw[Qa.out] at z2;have Qc:gq.length≤40000*1024+40000:=by have:=FU.out;omega
    obtain ⟨vs,hrow,Ed,oJ⟩:=hO;obtain ⟨Iq,Ir,rfl,hsv,-⟩:=aK hrow;have FV:=Lib.hid (show bQ wr w.heap.size T3 (.slice Iq gq.length Ir) gq from ⟨vs,hrow,Ed,oJ⟩);have HR3:=Lib.hid hR;have HT3:=Lib.hid Kq;have sD:=Lib.hid hK;have nk:=Lib.hid hs;have HA1:=Lib.hid t1;have HA2:=Lib.hid t2;have FW:=Lib.hid t3;have Iu:=Lib.hid hol;have Kr:=Lib.hid hki;by_cases Qd:i≤N
    ·obtain ⟨FX,rfl⟩:∃FX,gk=FX+1:=⟨gk-1,by omega⟩
     have hL0:0<p.fl.length:=by omega
     obtain ⟨gf,cf,rfl,Ks,Kt,hgf⟩:=jK hs.fr hL0;have hdl:p.da.length=p.fl.length:=FR.out.ll;have hdr:=hs.dr;rw[hdl] at hdr;obtain ⟨gd,cd,rfl,Ku,Kv,hgd⟩:=jK hdr hL0;obtain ⟨A',c',e',hfs⟩:=fA.cr hs.fr;cases e';have hhas:=fun (X:World) (hX:Below wr.heap.size wr X) (a which:Nat) (ha:a≤100000) (hw:which<3)=>l8 (hfs.below hX) a ha which hw
     have nU:Calls Tryz.prog 85 #[.slice (some ⟨gf,0,none⟩) p.fl.length cf,.int .i64 (i:Nat),.int .i64 1] wr fun e w'=>e= .returned (.bool (bK p.fl i).2.1)∧wr=w':=hhas wr (Below.refl _ _) i 1 (by omega) (by omega)
     have qY:Calls Tryz.prog 85 #[.slice (some ⟨gf,0,none⟩) p.fl.length cf,.int .i64 (fr:Nat),.int .i64 1] wr.drew fun e w'=>e= .returned (.bool (bK p.fl fr).2.1)∧wr.drew=w':=hhas wr.drew (Below.refl _ _).drew fr 1 (by omega) (by omega)
     have FY:Calls Tryz.prog 85 #[.slice (some ⟨gf,0,none⟩) p.fl.length cf,.int .i64 ((i:Int)-1),.int .i64 2] wr.drew fun e w'=>e= .returned (.bool (bK p.fl (i-1)).2.2)∧wr.drew=w':=by
      have:=hhas wr.drew (Below.refl _ _).drew (i-1) 2 (by omega) (by omega);rw[show ((i-1:Nat):Int)=(i:Int)-1 by omega] at this;exact this
     have yG:=Lib.hid nU;have yH:=Lib.hid qY;have FZ:=Lib.hid FY;have tX:=Lib.hid hfin;clear hR Kq hK hs t1 t2 t3 hol hki hhas nU qY FY hfs hdr hfin hrow Ed oJ hsv;by_cases uG:i<N∧(bK p.fl i).2.1=false
     ·obtain ⟨hs1,hs2⟩:=uG;have hfin:=tX.out;rw[j5,if_pos ⟨hs1,hs2⟩] at hfin;have nU:=yG.out;rw[hs2] at nU;have Dm:=Lib.hid nU;have Iv:=Lib.hid hfin;clear hs2 nU hfin yG tX;go_wp2_with (go_at_call 85;refine Dm.out.mono ?_;rintro e1 w4 ⟨rfl,rfl⟩)
      go_roundg FX
      case measure=>omega
      case rel=>
       exact ⟨i+1,fr,op,sm,gq,T3,Ko,_,rfl,rfl,by go_num,by have:=Kr.out;omega,by omega,by omega,HR3.out,hop,HT3.out,sD.out,FV.out,Iv.out,by have:=Iu.out;omega,nk.out,HA1.out,FT.out,HA2.out,FW.out,Dl⟩
     ·have hfin:=tX.out;rw[j5,if_neg uG] at hfin;obtain ⟨RP,Iw⟩:∃RP,RP=jC ((p.da.take i).drop fr) (bK p.fl fr).2.1 (decide (i<N)||(bK p.fl (i-1)).2.2) op sm:=⟨_,rfl⟩
      dsimp only at hfin;rw[←Iw] at hfin;have Iv:=Lib.hid hfin;have BI:=oI (b:=(p.da.take i).drop fr) (begins:=(bK p.fl fr).2.1) (last:=decide (i<N)||(bK p.fl (i-1)).2.2) (sm:=sm) hop;rw[←Iw] at BI;obtain ⟨CO,vE⟩:=BI;have uz:=Lib.hid Iw;have Ns:=Lib.hid uG;clear hfin Iw uG tX;go_upto_region 8 with (fail)
      go_cut [50] (fun Qe wx=>Qe= .bool false∧wx=wr)
      case first=>
       by_cases rQ:i<N
       ·have hfl:(bK p.fl i).2.1=true:=by
         cases hh:(bK p.fl i).2.1 with
         |true=>rfl
         |false=>exact absurd ⟨rQ,hh⟩ Ns.out
        have nU:=yG.out;rw[hfl] at nU;have Dm:=Lib.hid nU;clear hfl nU yG;go_wp2_with (go_at_call 85;refine Dm.out.mono ?_;rintro e1 w4 ⟨rfl,rfl⟩);go_meet;exact ⟨rfl,rfl⟩
       ·have Qf:¬(i:Int)<(N:Int):=by omega
        go_wp2_with fail;go_meet;exact ⟨rfl,rfl⟩
      case rest=>
      obtain ⟨rfl,rfl⟩:=hcut;generalize wc=wb at*;have hsl:=yF (nk.out.dr |> fun h9=>by rw[FR.out.ll] at h9;exact h9) FR.out.ll (fr:=fr) (i:=i) (by omega) (by omega) (by omega);have BJ:∀X,Kept (fun k _=>k=g) wb.drew X→Sl X X.heap.size (some ⟨gd,fr,none⟩) (i-fr) (i-fr) (bE ((p.da.take i).drop fr)):=fun X hX=>by
       have h9:=nk.out.dr;rw[FR.out.ll] at h9;refine yF (aN h9 fun k hk=> ?_) FR.out.ll (by omega) (by omega) (by omega);obtain ⟨o,ho⟩:∃o,wb.heap[k]? =some o:=⟨_,Array.getElem?_eq_getElem (h9.lt k hk).2⟩
       rw[ho];refine hX.same k o ho (fun ek=> ?_);have h8:=FW.out k hk;rw[ek] at h8;have h7:=HR3.out.tg;omega
      have F5:aM {st1 with op:=op,sm:=sm}:=⟨uV.out.n1,uV.out.n2,uV.out.n3,uV.out.n4,uV.out.m,hop,uV.out.t1,uV.out.t2⟩;have hpt:=wo HR3.out.drew F5 (some ⟨gd,fr,none⟩) (i-fr) (i-fr) ((p.da.take i).drop fr) (by omega) BJ (bK p.fl fr).2.1 (decide (i<N)||(bK p.fl (i-1)).2.2);dsimp only at hpt;rw[←uz.out] at hpt;have Iy:=Lib.hid hpt;have Qg:¬cd=fr:=by omega
      have Qh:¬i=fr:=by omega
      have hq1:(fr:Int)≤(i:Int):=by omega
      have hq2:(i:Int)≤(cd:Int):=by omega
      have hq3:(0:Int)≤(fr:Int):=by omega
      clear hsl BJ F5 hpt uz Ns yG;go_upto_region 9 with (fail)
      go_cut [6,7] (fun s6 s7 wx=>∃(T4:Nat→Nat) (BK:Value),s7= .bool (!RP.2.2.isEmpty)∧bO wx T4 g M n c {st1 with op:=RP.1,sm:=RP.2.1} BK∧(∀k,k<wb.heap.size→T4 k=T3 k)∧Kept (fun k _=>k=g) wb wx∧(∀q,RP.2.2= [q]→wx.ownsRow wb.heap.size 5 1 s6 q.length (bE q)∧∀k,s6.ownBlock=some k→T4 k=0))
      case first=>
       by_cases rQ:i<N
       ·have hpt:=Iy.out;rw[decide_eq_true rQ,Bool.true_or] at hpt;have Kw:=Lib.hid hpt;have d1:decide (i<N)=true:=decide_eq_true rQ;clear hpt Iy FZ;refine wp_region_noPanic ?_;refine bJ (fun w'=>w'.cell? ⟨b,0,none⟩=some (.slice (some ⟨gf,0,none⟩) p.fl.length cf)∧w'.cell? ⟨b,1,none⟩=some (.slice (some ⟨gd,0,none⟩) p.fl.length cd)∧w'.cell? ⟨b,2,none⟩=some (.int .i64 (N:Int))) [30] (by kernel_rfl) ?_;have hHeld:=(show (fun w':World=>w'.cell? ⟨b,0,none⟩=some (.slice (some ⟨gf,0,none⟩) p.fl.length cf)∧w'.cell? ⟨b,1,none⟩=some (.slice (some ⟨gd,0,none⟩) p.fl.length cd)∧w'.cell? ⟨b,2,none⟩=some (.int .i64 (N:Int))) wb.drew from ⟨z0,z1,z2⟩);refine ah (i:=0) (v:= ?_) rfl (by kernel_rfl) (by kernel_rfl) (by kernel_rfl) (by kernel_rfl) (fun _ _ _ h=>h) (Or.inl ⟨by rfl,?_⟩) hHeld ?_;rotate_left
        ·intro w' hSw;go_simp
         try with_reducible rfl
        try simp only[Act.put,List.getElem_toArray,List.getElem_cons_zero,List.setIfInBounds_toArray,List.set_cons_zero,List.set_cons_succ]
        refine ah (i:=1) (v:= ?_) rfl (by kernel_rfl) (by kernel_rfl) (by kernel_rfl) (by kernel_rfl) (fun _ _ _ h=>h) (Or.inl ⟨by rfl,?_⟩) hHeld ?_;rotate_left
        ·intro w' hSw;go_simp
         try with_reducible rfl
        try simp only[Act.put,List.getElem_toArray,List.getElem_cons_zero,List.getElem_cons_succ,List.setIfInBounds_toArray,List.set_cons_zero,List.set_cons_succ]
        refine ah (i:=2) (v:= ?_) rfl (by kernel_rfl) (by kernel_rfl) (by kernel_rfl) (by kernel_rfl) (fun _ _ _ h=>h) (Or.inl ⟨by rfl,?_⟩) hHeld ?_;rotate_left
        ·intro w' hSw;go_simp
         try with_reducible rfl
        try simp only[Act.put,List.getElem_toArray,List.getElem_cons_zero,List.getElem_cons_succ,List.setIfInBounds_toArray,List.set_cons_zero,List.set_cons_succ]
        refine ah (i:=3) (v:= ?_) rfl (by kernel_rfl) (by kernel_rfl) (by kernel_rfl) (by kernel_rfl) (fun _ _ _ h=>h) (Or.inl ⟨by rfl,?_⟩) hHeld ?_;rotate_left
        ·intro w' hSw;go_simp
         try with_reducible rfl
        try simp only[Act.put,List.getElem_toArray,List.getElem_cons_zero,List.getElem_cons_succ,List.setIfInBounds_toArray,List.set_cons_zero,List.set_cons_succ]
        refine ax [8,30] (i:=4) (v:= ?_) rfl (by kernel_rfl) (by kernel_rfl) (by kernel_rfl) (by kernel_rfl) (fun _ _ _ h=>h) (Or.inl ⟨by rfl,?_⟩) hHeld ?_;rotate_left
        ·intro w' hSw;obtain ⟨hS1,hS2,ni⟩:=hSw;go_simp
         try with_reducible rfl
        try simp only[Act.put,List.getElem_toArray,List.getElem_cons_zero,List.getElem_cons_succ,List.setIfInBounds_toArray,List.set_cons_zero,List.set_cons_succ]
        refine ah (i:=5) (v:= ?_) rfl (by kernel_rfl) (by kernel_rfl) (by kernel_rfl) (by kernel_rfl) (fun _ _ _ h=>h) (Or.inl ⟨by rfl,?_⟩) hHeld ?_;rotate_left
        ·intro w' hSw;go_simp
         try with_reducible rfl
        try simp only[Act.put,List.getElem_toArray,List.getElem_cons_zero,List.getElem_cons_succ,List.setIfInBounds_toArray,List.set_cons_zero,List.set_cons_succ]
        refine ah (i:=6) (v:= ?_) rfl (by kernel_rfl) (by kernel_rfl) (by kernel_rfl) (by kernel_rfl) (fun _ _ _ h=>h) (Or.inl ⟨by rfl,?_⟩) hHeld ?_;rotate_left
        ·intro w' hSw;go_simp
         try with_reducible rfl
        try simp only[Act.put,List.getElem_toArray,List.getElem_cons_zero,List.getElem_cons_succ,List.setIfInBounds_toArray,List.set_cons_zero,List.set_cons_succ]
        refine ah (i:=7) (v:= ?_) rfl (by kernel_rfl) (by kernel_rfl) (by kernel_rfl) (by kernel_rfl) (fun _ _ _ h=>h) (Or.inl ⟨by rfl,?_⟩) hHeld ?_;rotate_left
        ·intro w' hSw;go_simp
         try with_reducible rfl
        try simp only[Act.put,List.getElem_toArray,List.getElem_cons_zero,List.getElem_cons_succ,List.setIfInBounds_toArray,List.set_cons_zero,List.set_cons_succ]
        refine ah (i:=8) (v:= ?_) rfl (by kernel_rfl) (by kernel_rfl) (by kernel_rfl) (by kernel_rfl) (fun _ _ _ h=>h) (Or.inl ⟨by rfl,?_⟩) hHeld ?_;rotate_left
        ·intro w' hSw;go_simp
         try with_reducible rfl
        try simp only[Act.put,List.getElem_toArray,List.getElem_cons_zero,List.getElem_cons_succ,List.setIfInBounds_toArray,List.set_cons_zero,List.set_cons_succ]
        refine ah (i:=9) (v:= ?_) rfl (by kernel_rfl) (by kernel_rfl) (by kernel_rfl) (by kernel_rfl) (fun _ _ _ h=>h) (Or.inl ⟨by rfl,?_⟩) hHeld ?_;rotate_left
        ·intro w' hSw;go_simp
         try with_reducible rfl
        try simp only[Act.put,List.getElem_toArray,List.getElem_cons_zero,List.getElem_cons_succ,List.setIfInBounds_toArray,List.set_cons_zero,List.set_cons_succ]
        refine ah (i:=10) (v:= ?_) rfl (by kernel_rfl) (by kernel_rfl) (by kernel_rfl) (by kernel_rfl) (fun _ _ _ h=>h) (Or.inl ⟨by rfl,?_⟩) hHeld ?_;rotate_left
        ·intro w' hSw;go_simp
         try with_reducible rfl
        try simp only[Act.put,List.getElem_toArray,List.getElem_cons_zero,List.getElem_cons_succ,List.setIfInBounds_toArray,List.set_cons_zero,List.set_cons_succ]
        refine ah (i:=11) (v:= ?_) rfl (by kernel_rfl) (by kernel_rfl) (by kernel_rfl) (by kernel_rfl) (fun _ _ _ h=>h) (Or.inl ⟨by rfl,?_⟩) hHeld ?_;rotate_left
        ·intro w' hSw;go_simp
         try with_reducible rfl
        try simp only[Act.put,List.getElem_toArray,List.getElem_cons_zero,List.getElem_cons_succ,List.setIfInBounds_toArray,List.set_cons_zero,List.set_cons_succ]
        refine ax [14,30] (i:=12) (v:= ?_) rfl (by kernel_rfl) (by kernel_rfl) (by kernel_rfl) (by kernel_rfl) (fun _ _ _ h=>h) (Or.inl ⟨by rfl,?_⟩) hHeld ?_;rotate_left
        ·intro w' hSw;obtain ⟨hS1,hS2,ni⟩:=hSw;go_simp
         try with_reducible rfl
        try simp only[Act.put,List.getElem_toArray,List.getElem_cons_zero,List.getElem_cons_succ,List.setIfInBounds_toArray,List.set_cons_zero,List.set_cons_succ]
        refine ah (i:=13) (v:= ?_) rfl (by kernel_rfl) (by kernel_rfl) (by kernel_rfl) (by kernel_rfl) (fun _ _ _ h=>h) (Or.inl ⟨by rfl,?_⟩) hHeld ?_;rotate_left
        ·intro w' hSw;go_simp
         try with_reducible rfl
        try simp only[Act.put,List.getElem_toArray,List.getElem_cons_zero,List.getElem_cons_succ,List.setIfInBounds_toArray,List.set_cons_zero,List.set_cons_succ]
        refine ah (i:=15) (v:= ?_) rfl (by kernel_rfl) (by kernel_rfl) (by kernel_rfl) (by kernel_rfl) (fun _ _ _ h=>h) (Or.inl ⟨by rfl,?_⟩) hHeld ?_;rotate_left
        ·intro w' hSw;go_simp
         try with_reducible rfl
        try simp only[Act.put,List.getElem_toArray,List.getElem_cons_zero,List.getElem_cons_succ,List.setIfInBounds_toArray,List.set_cons_zero,List.set_cons_succ]
        refine ah (i:=16) (v:= ?_) rfl (by kernel_rfl) (by kernel_rfl) (by kernel_rfl) (by kernel_rfl) (fun _ _ _ h=>h) (Or.inl ⟨by rfl,?_⟩) hHeld ?_;rotate_left
        ·intro w' hSw;go_simp
         try with_reducible rfl
        try simp only[Act.put,List.getElem_toArray,List.getElem_cons_zero,List.getElem_cons_succ,List.setIfInBounds_toArray,List.set_cons_zero,List.set_cons_succ]
        refine ah (i:=17) (v:= ?_) rfl (by kernel_rfl) (by kernel_rfl) (by kernel_rfl) (by kernel_rfl) (fun _ _ _ h=>h) (Or.inl ⟨by rfl,?_⟩) hHeld ?_;rotate_left
        ·intro w' hSw;go_simp
         try with_reducible rfl
        try simp only[Act.put,List.getElem_toArray,List.getElem_cons_zero,List.getElem_cons_succ,List.setIfInBounds_toArray,List.set_cons_zero,List.set_cons_succ]
        refine ah (i:=18) (v:= ?_) rfl (by kernel_rfl) (by kernel_rfl) (by kernel_rfl) (by kernel_rfl) (fun _ _ _ h=>h) (Or.inl ⟨by rfl,?_⟩) hHeld ?_;rotate_left
        ·intro w' hSw;go_simp
         try with_reducible rfl
        try simp only[Act.put,List.getElem_toArray,List.getElem_cons_zero,List.getElem_cons_succ,List.setIfInBounds_toArray,List.set_cons_zero,List.set_cons_succ]
        refine ax [20,21,29,30] (i:=19) (v:= ?_) rfl (by kernel_rfl) (by kernel_rfl) (by kernel_rfl) (by kernel_rfl) (fun _ _ _ h=>h) (Or.inl ⟨by rfl,?_⟩) hHeld ?_;rotate_left
        ·intro w' hSw;obtain ⟨hS1,hS2,ni⟩:=hSw;go_simp
         try with_reducible rfl
        try simp only[Act.put,List.getElem_toArray,List.getElem_cons_zero,List.getElem_cons_succ,List.setIfInBounds_toArray,List.set_cons_zero,List.set_cons_succ]
        refine ah (i:=20) (v:= ?_) rfl (by kernel_rfl) (by kernel_rfl) (by kernel_rfl) (by kernel_rfl) (fun _ _ _ h=>h) (Or.inl ⟨by rfl,?_⟩) hHeld ?_;rotate_left
        ·intro w' hSw;go_simp
         try with_reducible rfl
        try simp only[Act.put,List.getElem_toArray,List.getElem_cons_zero,List.getElem_cons_succ,List.setIfInBounds_toArray,List.set_cons_zero,List.set_cons_succ]
        refine aO (i:=14) rfl (by kernel_rfl) (by rfl) (fun K hK=> ?_);go_simp;refine yH.out.mono ?_;rintro e1 w4 ⟨rfl,rfl⟩;refine hK _ _ ⟨z0,z1,z2⟩ ?_;clear hK K hHeld;have hHeld:=(show (fun w':World=>w'.cell? ⟨b,0,none⟩=some (.slice (some ⟨gf,0,none⟩) p.fl.length cf)∧w'.cell? ⟨b,1,none⟩=some (.slice (some ⟨gd,0,none⟩) p.fl.length cd)∧w'.cell? ⟨b,2,none⟩=some (.int .i64 (N:Int))) wb.drew from ⟨z0,z1,z2⟩)
        try simp only[Act.put,List.getElem_toArray,List.getElem_cons_zero,List.getElem_cons_succ,List.setIfInBounds_toArray,List.set_cons_zero,List.set_cons_succ]
        refine ah (i:=21) (v:= ?_) rfl (by kernel_rfl) (by kernel_rfl) (by kernel_rfl) (by kernel_rfl) (fun _ _ _ h=>h) (Or.inl ⟨by rfl,?_⟩) hHeld ?_;rotate_left
        ·intro w' hSw;go_simp
         try with_reducible rfl
        try simp only[Act.put,List.getElem_toArray,List.getElem_cons_zero,List.getElem_cons_succ,List.setIfInBounds_toArray,List.set_cons_zero,List.set_cons_succ]
        refine ah (i:=22) (v:=undef) rfl (by kernel_rfl) (by kernel_rfl) (by kernel_rfl) (by kernel_rfl) (fun _ _ _ h=>h) (Or.inr ⟨by rfl,rfl⟩) hHeld ?_
        try simp only[Act.put,List.getElem_toArray,List.getElem_cons_zero,List.getElem_cons_succ,List.setIfInBounds_toArray,List.set_cons_zero,List.set_cons_succ]
        refine ah (i:=23) (v:=undef) rfl (by kernel_rfl) (by kernel_rfl) (by kernel_rfl) (by kernel_rfl) (fun _ _ _ h=>h) (Or.inr ⟨by rfl,rfl⟩) hHeld ?_
        try simp only[Act.put,List.getElem_toArray,List.getElem_cons_zero,List.getElem_cons_succ,List.setIfInBounds_toArray,List.set_cons_zero,List.set_cons_succ]
        refine ah (i:=24) (v:=undef) rfl (by kernel_rfl) (by kernel_rfl) (by kernel_rfl) (by kernel_rfl) (fun _ _ _ h=>h) (Or.inr ⟨by rfl,rfl⟩) hHeld ?_
        try simp only[Act.put,List.getElem_toArray,List.getElem_cons_zero,List.getElem_cons_succ,List.setIfInBounds_toArray,List.set_cons_zero,List.set_cons_succ]
        refine ah (i:=25) (v:=undef) rfl (by kernel_rfl) (by kernel_rfl) (by kernel_rfl) (by kernel_rfl) (fun _ _ _ h=>h) (Or.inr ⟨by rfl,rfl⟩) hHeld ?_
        try simp only[Act.put,List.getElem_toArray,List.getElem_cons_zero,List.getElem_cons_succ,List.setIfInBounds_toArray,List.set_cons_zero,List.set_cons_succ]
        refine ah (i:=26) (v:=undef) rfl (by kernel_rfl) (by kernel_rfl) (by kernel_rfl) (by kernel_rfl) (fun _ _ _ h=>h) (Or.inr ⟨by rfl,rfl⟩) hHeld ?_
        try simp only[Act.put,List.getElem_toArray,List.getElem_cons_zero,List.getElem_cons_succ,List.setIfInBounds_toArray,List.set_cons_zero,List.set_cons_succ]
        refine ah (i:=27) (v:=undef) rfl (by kernel_rfl) (by kernel_rfl) (by kernel_rfl) (by kernel_rfl) (fun _ _ _ h=>h) (Or.inr ⟨by rfl,rfl⟩) hHeld ?_
        try simp only[Act.put,List.getElem_toArray,List.getElem_cons_zero,List.getElem_cons_succ,List.setIfInBounds_toArray,List.set_cons_zero,List.set_cons_succ]
        refine ah (i:=28) (v:=undef) rfl (by kernel_rfl) (by kernel_rfl) (by kernel_rfl) (by kernel_rfl) (fun _ _ _ h=>h) (Or.inr ⟨by rfl,rfl⟩) hHeld ?_
        try simp only[Act.put,List.getElem_toArray,List.getElem_cons_zero,List.getElem_cons_succ,List.setIfInBounds_toArray,List.set_cons_zero,List.set_cons_succ]
        refine ah (i:=29) (v:= ?_) rfl (by kernel_rfl) (by kernel_rfl) (by kernel_rfl) (by kernel_rfl) (fun _ _ _ h=>h) (Or.inl ⟨by rfl,?_⟩) hHeld ?_;rotate_left
        ·intro w' hSw;go_simp
         try with_reducible rfl
        try simp only[Act.put,List.getElem_toArray,List.getElem_cons_zero,List.getElem_cons_succ,List.setIfInBounds_toArray,List.set_cons_zero,List.set_cons_succ]
        refine bB (i:=30) rfl (by kernel_rfl) (by kernel_rfl) (by rfl) (fun K hK=> ?_);go_simp;refine Kw.out.mono ?_;rintro e1 w4 ⟨T4,BK,vr,rfl,pG,wB,hK4,hq4⟩;refine hK _ _ ?_;clear hK K
        try simp only[Act.put,List.getElem_toArray,List.getElem_cons_zero,List.getElem_cons_succ,List.setIfInBounds_toArray,List.set_cons_zero,List.set_cons_succ]
        refine aj (i:=31) (v:= ?_) rfl (by kernel_rfl) (by kernel_rfl) (by kernel_rfl) (by kernel_rfl) (fun _ _ _ h=>h) (Or.inl ⟨by rfl,?_⟩) ?_;rotate_left
        ·intro w' hSw;go_simp
         try with_reducible rfl
        try simp only[Act.put,List.getElem_toArray,List.getElem_cons_zero,List.getElem_cons_succ,List.setIfInBounds_toArray,List.set_cons_zero,List.set_cons_succ]
        refine aj (i:=32) (v:= ?_) rfl (by kernel_rfl) (by kernel_rfl) (by kernel_rfl) (by kernel_rfl) (fun _ _ _ h=>h) (Or.inl ⟨by rfl,?_⟩) ?_;rotate_left
        ·intro w' hSw;go_simp
         try with_reducible rfl
        try simp only[Act.put,List.getElem_toArray,List.getElem_cons_zero,List.getElem_cons_succ,List.setIfInBounds_toArray,List.set_cons_zero,List.set_cons_succ]
        refine aj (i:=33) (v:= ?_) rfl (by kernel_rfl) (by kernel_rfl) (by kernel_rfl) (by kernel_rfl) (fun _ _ _ h=>h) (Or.inl ⟨by rfl,?_⟩) ?_;rotate_left
        ·intro w' hSw;go_simp
         try with_reducible rfl
        try simp only[Act.put,List.getElem_toArray,List.getElem_cons_zero,List.getElem_cons_succ,List.setIfInBounds_toArray,List.set_cons_zero,List.set_cons_succ]
        refine aj (i:=34) (v:= ?_) rfl (by kernel_rfl) (by kernel_rfl) (by kernel_rfl) (by kernel_rfl) (fun _ _ _ h=>h) (Or.inl ⟨by rfl,?_⟩) ?_;rotate_left
        ·intro w' hSw;go_simp
         try with_reducible rfl
        try simp only[Act.put,List.getElem_toArray,List.getElem_cons_zero,List.getElem_cons_succ,List.setIfInBounds_toArray,List.set_cons_zero,List.set_cons_succ]
        refine aj (i:=35) (v:= ?_) rfl (by kernel_rfl) (by kernel_rfl) (by kernel_rfl) (by kernel_rfl) (fun _ _ _ h=>h) (Or.inl ⟨by rfl,?_⟩) ?_;rotate_left
        ·intro w' hSw;go_simp
         try with_reducible rfl
        try simp only[Act.put,List.getElem_toArray,List.getElem_cons_zero,List.getElem_cons_succ,List.setIfInBounds_toArray,List.set_cons_zero,List.set_cons_succ]
        refine aS (by kernel_rfl) ?_ _;simp only[NoPanic];go_wp2_with fail;go_meet;exact ⟨T4,BK,rfl,pG,wB,(Kept.refl _ wb).drew.trans hK4,hq4⟩
       ·have Qi:i=N:=by omega
        have hpt:=Iy.out;rw[decide_eq_false rQ,Bool.false_or] at hpt;have Kw:=Lib.hid hpt;have d1:decide (i<N)=false:=decide_eq_false rQ;have hwi:IntKind.i64.wrap ((i:Int)-1)=(i:Int)-1:=IntWalk.i64_in _ (by omega);clear hpt Iy Qi;refine wp_region_noPanic ?_;refine bJ (fun w'=>w'.cell? ⟨b,0,none⟩=some (.slice (some ⟨gf,0,none⟩) p.fl.length cf)∧w'.cell? ⟨b,1,none⟩=some (.slice (some ⟨gd,0,none⟩) p.fl.length cd)∧w'.cell? ⟨b,2,none⟩=some (.int .i64 (N:Int))) [30] (by kernel_rfl) ?_;have hHeld:=(show (fun w':World=>w'.cell? ⟨b,0,none⟩=some (.slice (some ⟨gf,0,none⟩) p.fl.length cf)∧w'.cell? ⟨b,1,none⟩=some (.slice (some ⟨gd,0,none⟩) p.fl.length cd)∧w'.cell? ⟨b,2,none⟩=some (.int .i64 (N:Int))) wb.drew from ⟨z0,z1,z2⟩);refine ah (i:=0) (v:= ?_) rfl (by kernel_rfl) (by kernel_rfl) (by kernel_rfl) (by kernel_rfl) (fun _ _ _ h=>h) (Or.inl ⟨by rfl,?_⟩) hHeld ?_;rotate_left
        ·intro w' hSw;go_simp
         try with_reducible rfl
        try simp only[Act.put,List.getElem_toArray,List.getElem_cons_zero,List.setIfInBounds_toArray,List.set_cons_zero,List.set_cons_succ]
        refine ah (i:=1) (v:= ?_) rfl (by kernel_rfl) (by kernel_rfl) (by kernel_rfl) (by kernel_rfl) (fun _ _ _ h=>h) (Or.inl ⟨by rfl,?_⟩) hHeld ?_;rotate_left
        ·intro w' hSw;go_simp
         try with_reducible rfl
        try simp only[Act.put,List.getElem_toArray,List.getElem_cons_zero,List.getElem_cons_succ,List.setIfInBounds_toArray,List.set_cons_zero,List.set_cons_succ]
        refine ah (i:=2) (v:= ?_) rfl (by kernel_rfl) (by kernel_rfl) (by kernel_rfl) (by kernel_rfl) (fun _ _ _ h=>h) (Or.inl ⟨by rfl,?_⟩) hHeld ?_;rotate_left
        ·intro w' hSw;go_simp
         try with_reducible rfl
        try simp only[Act.put,List.getElem_toArray,List.getElem_cons_zero,List.getElem_cons_succ,List.setIfInBounds_toArray,List.set_cons_zero,List.set_cons_succ]
        refine ah (i:=3) (v:= ?_) rfl (by kernel_rfl) (by kernel_rfl) (by kernel_rfl) (by kernel_rfl) (fun _ _ _ h=>h) (Or.inl ⟨by rfl,?_⟩) hHeld ?_;rotate_left
        ·intro w' hSw;go_simp
         try with_reducible rfl
        try simp only[Act.put,List.getElem_toArray,List.getElem_cons_zero,List.getElem_cons_succ,List.setIfInBounds_toArray,List.set_cons_zero,List.set_cons_succ]
        refine ax [8,30] (i:=4) (v:= ?_) rfl (by kernel_rfl) (by kernel_rfl) (by kernel_rfl) (by kernel_rfl) (fun _ _ _ h=>h) (Or.inl ⟨by rfl,?_⟩) hHeld ?_;rotate_left
        ·intro w' hSw;obtain ⟨hS1,hS2,ni⟩:=hSw;go_simp
         try with_reducible rfl
        try simp only[Act.put,List.getElem_toArray,List.getElem_cons_zero,List.getElem_cons_succ,List.setIfInBounds_toArray,List.set_cons_zero,List.set_cons_succ]
        refine ah (i:=5) (v:= ?_) rfl (by kernel_rfl) (by kernel_rfl) (by kernel_rfl) (by kernel_rfl) (fun _ _ _ h=>h) (Or.inl ⟨by rfl,?_⟩) hHeld ?_;rotate_left
        ·intro w' hSw;go_simp
         try with_reducible rfl
        try simp only[Act.put,List.getElem_toArray,List.getElem_cons_zero,List.getElem_cons_succ,List.setIfInBounds_toArray,List.set_cons_zero,List.set_cons_succ]
        refine ah (i:=6) (v:= ?_) rfl (by kernel_rfl) (by kernel_rfl) (by kernel_rfl) (by kernel_rfl) (fun _ _ _ h=>h) (Or.inl ⟨by rfl,?_⟩) hHeld ?_;rotate_left
        ·intro w' hSw;go_simp
         try with_reducible rfl
        try simp only[Act.put,List.getElem_toArray,List.getElem_cons_zero,List.getElem_cons_succ,List.setIfInBounds_toArray,List.set_cons_zero,List.set_cons_succ]
        refine ah (i:=7) (v:= ?_) rfl (by kernel_rfl) (by kernel_rfl) (by kernel_rfl) (by kernel_rfl) (fun _ _ _ h=>h) (Or.inl ⟨by rfl,?_⟩) hHeld ?_;rotate_left
        ·intro w' hSw;go_simp
         try with_reducible rfl
        try simp only[Act.put,List.getElem_toArray,List.getElem_cons_zero,List.getElem_cons_succ,List.setIfInBounds_toArray,List.set_cons_zero,List.set_cons_succ]
        refine ah (i:=8) (v:= ?_) rfl (by kernel_rfl) (by kernel_rfl) (by kernel_rfl) (by kernel_rfl) (fun _ _ _ h=>h) (Or.inl ⟨by rfl,?_⟩) hHeld ?_;rotate_left
        ·intro w' hSw;go_simp
         try with_reducible rfl
        try simp only[Act.put,List.getElem_toArray,List.getElem_cons_zero,List.getElem_cons_succ,List.setIfInBounds_toArray,List.set_cons_zero,List.set_cons_succ]
        refine ah (i:=9) (v:= ?_) rfl (by kernel_rfl) (by kernel_rfl) (by kernel_rfl) (by kernel_rfl) (fun _ _ _ h=>h) (Or.inl ⟨by rfl,?_⟩) hHeld ?_;rotate_left
        ·intro w' hSw;go_simp
         try with_reducible rfl
        try simp only[Act.put,List.getElem_toArray,List.getElem_cons_zero,List.getElem_cons_succ,List.setIfInBounds_toArray,List.set_cons_zero,List.set_cons_succ]
        refine ah (i:=10) (v:= ?_) rfl (by kernel_rfl) (by kernel_rfl) (by kernel_rfl) (by kernel_rfl) (fun _ _ _ h=>h) (Or.inl ⟨by rfl,?_⟩) hHeld ?_;rotate_left
        ·intro w' hSw;go_simp
         try with_reducible rfl
        try simp only[Act.put,List.getElem_toArray,List.getElem_cons_zero,List.getElem_cons_succ,List.setIfInBounds_toArray,List.set_cons_zero,List.set_cons_succ]
        refine ah (i:=11) (v:= ?_) rfl (by kernel_rfl) (by kernel_rfl) (by kernel_rfl) (by kernel_rfl) (fun _ _ _ h=>h) (Or.inl ⟨by rfl,?_⟩) hHeld ?_;rotate_left
        ·intro w' hSw;go_simp
         try with_reducible rfl
        try simp only[Act.put,List.getElem_toArray,List.getElem_cons_zero,List.getElem_cons_succ,List.setIfInBounds_toArray,List.set_cons_zero,List.set_cons_succ]
        refine ax [14,30] (i:=12) (v:= ?_) rfl (by kernel_rfl) (by kernel_rfl) (by kernel_rfl) (by kernel_rfl) (fun _ _ _ h=>h) (Or.inl ⟨by rfl,?_⟩) hHeld ?_;rotate_left
        ·intro w' hSw;obtain ⟨hS1,hS2,ni⟩:=hSw;go_simp
         try with_reducible rfl
        try simp only[Act.put,List.getElem_toArray,List.getElem_cons_zero,List.getElem_cons_succ,List.setIfInBounds_toArray,List.set_cons_zero,List.set_cons_succ]
        refine ah (i:=13) (v:= ?_) rfl (by kernel_rfl) (by kernel_rfl) (by kernel_rfl) (by kernel_rfl) (fun _ _ _ h=>h) (Or.inl ⟨by rfl,?_⟩) hHeld ?_;rotate_left
        ·intro w' hSw;go_simp
         try with_reducible rfl
        try simp only[Act.put,List.getElem_toArray,List.getElem_cons_zero,List.getElem_cons_succ,List.setIfInBounds_toArray,List.set_cons_zero,List.set_cons_succ]
        refine ah (i:=15) (v:= ?_) rfl (by kernel_rfl) (by kernel_rfl) (by kernel_rfl) (by kernel_rfl) (fun _ _ _ h=>h) (Or.inl ⟨by rfl,?_⟩) hHeld ?_;rotate_left
        ·intro w' hSw;go_simp
         try with_reducible rfl
        try simp only[Act.put,List.getElem_toArray,List.getElem_cons_zero,List.getElem_cons_succ,List.setIfInBounds_toArray,List.set_cons_zero,List.set_cons_succ]
        refine ah (i:=16) (v:= ?_) rfl (by kernel_rfl) (by kernel_rfl) (by kernel_rfl) (by kernel_rfl) (fun _ _ _ h=>h) (Or.inl ⟨by rfl,?_⟩) hHeld ?_;rotate_left
        ·intro w' hSw;go_simp
         try with_reducible rfl
        try simp only[Act.put,List.getElem_toArray,List.getElem_cons_zero,List.getElem_cons_succ,List.setIfInBounds_toArray,List.set_cons_zero,List.set_cons_succ]
        refine ah (i:=17) (v:= ?_) rfl (by kernel_rfl) (by kernel_rfl) (by kernel_rfl) (by kernel_rfl) (fun _ _ _ h=>h) (Or.inl ⟨by rfl,?_⟩) hHeld ?_;rotate_left
        ·intro w' hSw;go_simp
         try with_reducible rfl
        try simp only[Act.put,List.getElem_toArray,List.getElem_cons_zero,List.getElem_cons_succ,List.setIfInBounds_toArray,List.set_cons_zero,List.set_cons_succ]
        refine ah (i:=18) (v:= ?_) rfl (by kernel_rfl) (by kernel_rfl) (by kernel_rfl) (by kernel_rfl) (fun _ _ _ h=>h) (Or.inl ⟨by rfl,?_⟩) hHeld ?_;rotate_left
        ·intro w' hSw;go_simp
         try with_reducible rfl
        try simp only[Act.put,List.getElem_toArray,List.getElem_cons_zero,List.getElem_cons_succ,List.setIfInBounds_toArray,List.set_cons_zero,List.set_cons_succ]
        refine ax [20,21,29,30] (i:=19) (v:= ?_) rfl (by kernel_rfl) (by kernel_rfl) (by kernel_rfl) (by kernel_rfl) (fun _ _ _ h=>h) (Or.inl ⟨by rfl,?_⟩) hHeld ?_;rotate_left
        ·intro w' hSw;obtain ⟨hS1,hS2,ni⟩:=hSw;go_simp
         try with_reducible rfl
        try simp only[Act.put,List.getElem_toArray,List.getElem_cons_zero,List.getElem_cons_succ,List.setIfInBounds_toArray,List.set_cons_zero,List.set_cons_succ]
        refine ah (i:=20) (v:= ?_) rfl (by kernel_rfl) (by kernel_rfl) (by kernel_rfl) (by kernel_rfl) (fun _ _ _ h=>h) (Or.inl ⟨by rfl,?_⟩) hHeld ?_;rotate_left
        ·intro w' hSw;go_simp
         try with_reducible rfl
        try simp only[Act.put,List.getElem_toArray,List.getElem_cons_zero,List.getElem_cons_succ,List.setIfInBounds_toArray,List.set_cons_zero,List.set_cons_succ]
        refine aO (i:=14) rfl (by kernel_rfl) (by rfl) (fun K hK=> ?_);go_simp;refine yH.out.mono ?_;rintro e1 w4 ⟨rfl,rfl⟩;refine hK _ _ ⟨z0,z1,z2⟩ ?_;clear hK K hHeld;have hHeld:=(show (fun w':World=>w'.cell? ⟨b,0,none⟩=some (.slice (some ⟨gf,0,none⟩) p.fl.length cf)∧w'.cell? ⟨b,1,none⟩=some (.slice (some ⟨gd,0,none⟩) p.fl.length cd)∧w'.cell? ⟨b,2,none⟩=some (.int .i64 (N:Int))) wb.drew from ⟨z0,z1,z2⟩)
        try simp only[Act.put,List.getElem_toArray,List.getElem_cons_zero,List.getElem_cons_succ,List.setIfInBounds_toArray,List.set_cons_zero,List.set_cons_succ]
        refine ah (i:=21) (v:= ?_) rfl (by kernel_rfl) (by kernel_rfl) (by kernel_rfl) (by kernel_rfl) (fun _ _ _ h=>h) (Or.inl ⟨by rfl,?_⟩) hHeld ?_;rotate_left
        ·intro w' hSw;go_simp
         try with_reducible rfl
        try simp only[Act.put,List.getElem_toArray,List.getElem_cons_zero,List.getElem_cons_succ,List.setIfInBounds_toArray,List.set_cons_zero,List.set_cons_succ]
        refine ah (i:=22) (v:= ?_) rfl (by kernel_rfl) (by kernel_rfl) (by kernel_rfl) (by kernel_rfl) (fun _ _ _ h=>h) (Or.inl ⟨by rfl,?_⟩) hHeld ?_;rotate_left
        ·intro w' hSw;go_simp
         try with_reducible rfl
        try simp only[Act.put,List.getElem_toArray,List.getElem_cons_zero,List.getElem_cons_succ,List.setIfInBounds_toArray,List.set_cons_zero,List.set_cons_succ]
        refine ah (i:=23) (v:= ?_) rfl (by kernel_rfl) (by kernel_rfl) (by kernel_rfl) (by kernel_rfl) (fun _ _ _ h=>h) (Or.inl ⟨by rfl,?_⟩) hHeld ?_;rotate_left
        ·intro w' hSw;go_simp
         try with_reducible rfl
        try simp only[Act.put,List.getElem_toArray,List.getElem_cons_zero,List.getElem_cons_succ,List.setIfInBounds_toArray,List.set_cons_zero,List.set_cons_succ]
        refine ah (i:=24) (v:= ?_) rfl (by kernel_rfl) (by kernel_rfl) (by kernel_rfl) (by kernel_rfl) (fun _ _ _ h=>h) (Or.inl ⟨by rfl,?_⟩) hHeld ?_;rotate_left
        ·intro w' hSw;go_simp
         try with_reducible rfl
        try simp only[Act.put,List.getElem_toArray,List.getElem_cons_zero,List.getElem_cons_succ,List.setIfInBounds_toArray,List.set_cons_zero,List.set_cons_succ]
        refine ax [28,29,30] (i:=25) (v:= ?_) rfl (by kernel_rfl) (by kernel_rfl) (by kernel_rfl) (by kernel_rfl) (fun _ _ _ h=>h) (Or.inl ⟨by rfl,?_⟩) hHeld ?_;rotate_left
        ·intro w' hSw;obtain ⟨hS1,hS2,ni⟩:=hSw;go_simp
         try with_reducible rfl
        try simp only[Act.put,List.getElem_toArray,List.getElem_cons_zero,List.getElem_cons_succ,List.setIfInBounds_toArray,List.set_cons_zero,List.set_cons_succ]
        refine ah (i:=26) (v:= ?_) rfl (by kernel_rfl) (by kernel_rfl) (by kernel_rfl) (by kernel_rfl) (fun _ _ _ h=>h) (Or.inl ⟨by rfl,?_⟩) hHeld ?_;rotate_left
        ·intro w' hSw;go_simp
         try with_reducible rfl
        try simp only[Act.put,List.getElem_toArray,List.getElem_cons_zero,List.getElem_cons_succ,List.setIfInBounds_toArray,List.set_cons_zero,List.set_cons_succ]
        refine ah (i:=27) (v:= ?_) rfl (by kernel_rfl) (by kernel_rfl) (by kernel_rfl) (by kernel_rfl) (fun _ _ _ h=>h) (Or.inl ⟨by rfl,?_⟩) hHeld ?_;rotate_left
        ·intro w' hSw;go_simp
         try with_reducible rfl
        try simp only[Act.put,List.getElem_toArray,List.getElem_cons_zero,List.getElem_cons_succ,List.setIfInBounds_toArray,List.set_cons_zero,List.set_cons_succ]
        refine aO (i:=28) rfl (by kernel_rfl) (by rfl) (fun K hK=> ?_);go_simp;refine FZ.out.mono ?_;rintro e1 w4 ⟨rfl,rfl⟩;refine hK _ _ ⟨z0,z1,z2⟩ ?_;clear hK K hHeld;have hHeld:=(show (fun w':World=>w'.cell? ⟨b,0,none⟩=some (.slice (some ⟨gf,0,none⟩) p.fl.length cf)∧w'.cell? ⟨b,1,none⟩=some (.slice (some ⟨gd,0,none⟩) p.fl.length cd)∧w'.cell? ⟨b,2,none⟩=some (.int .i64 (N:Int))) wb.drew from ⟨z0,z1,z2⟩)
        try simp only[Act.put,List.getElem_toArray,List.getElem_cons_zero,List.getElem_cons_succ,List.setIfInBounds_toArray,List.set_cons_zero,List.set_cons_succ]
        refine ah (i:=29) (v:= ?_) rfl (by kernel_rfl) (by kernel_rfl) (by kernel_rfl) (by kernel_rfl) (fun _ _ _ h=>h) (Or.inl ⟨by rfl,?_⟩) hHeld ?_;rotate_left
        ·intro w' hSw;go_simp
         try with_reducible rfl
        try simp only[Act.put,List.getElem_toArray,List.getElem_cons_zero,List.getElem_cons_succ,List.setIfInBounds_toArray,List.set_cons_zero,List.set_cons_succ]
        refine bB (i:=30) rfl (by kernel_rfl) (by kernel_rfl) (by rfl) (fun K hK=> ?_);go_simp;refine Kw.out.mono ?_;rintro e1 w4 ⟨T4,BK,vr,rfl,pG,wB,hK4,hq4⟩;refine hK _ _ ?_;clear hK K
        try simp only[Act.put,List.getElem_toArray,List.getElem_cons_zero,List.getElem_cons_succ,List.setIfInBounds_toArray,List.set_cons_zero,List.set_cons_succ]
        refine aj (i:=31) (v:= ?_) rfl (by kernel_rfl) (by kernel_rfl) (by kernel_rfl) (by kernel_rfl) (fun _ _ _ h=>h) (Or.inl ⟨by rfl,?_⟩) ?_;rotate_left
        ·intro w' hSw;go_simp
         try with_reducible rfl
        try simp only[Act.put,List.getElem_toArray,List.getElem_cons_zero,List.getElem_cons_succ,List.setIfInBounds_toArray,List.set_cons_zero,List.set_cons_succ]
        refine aj (i:=32) (v:= ?_) rfl (by kernel_rfl) (by kernel_rfl) (by kernel_rfl) (by kernel_rfl) (fun _ _ _ h=>h) (Or.inl ⟨by rfl,?_⟩) ?_;rotate_left
        ·intro w' hSw;go_simp
         try with_reducible rfl
        try simp only[Act.put,List.getElem_toArray,List.getElem_cons_zero,List.getElem_cons_succ,List.setIfInBounds_toArray,List.set_cons_zero,List.set_cons_succ]
        refine aj (i:=33) (v:= ?_) rfl (by kernel_rfl) (by kernel_rfl) (by kernel_rfl) (by kernel_rfl) (fun _ _ _ h=>h) (Or.inl ⟨by rfl,?_⟩) ?_;rotate_left
        ·intro w' hSw;go_simp
         try with_reducible rfl
        try simp only[Act.put,List.getElem_toArray,List.getElem_cons_zero,List.getElem_cons_succ,List.setIfInBounds_toArray,List.set_cons_zero,List.set_cons_succ]
        refine aj (i:=34) (v:= ?_) rfl (by kernel_rfl) (by kernel_rfl) (by kernel_rfl) (by kernel_rfl) (fun _ _ _ h=>h) (Or.inl ⟨by rfl,?_⟩) ?_;rotate_left
        ·intro w' hSw;go_simp
         try with_reducible rfl
        try simp only[Act.put,List.getElem_toArray,List.getElem_cons_zero,List.getElem_cons_succ,List.setIfInBounds_toArray,List.set_cons_zero,List.set_cons_succ]
        refine aj (i:=35) (v:= ?_) rfl (by kernel_rfl) (by kernel_rfl) (by kernel_rfl) (by kernel_rfl) (fun _ _ _ h=>h) (Or.inl ⟨by rfl,?_⟩) ?_;rotate_left
        ·intro w' hSw;go_simp
         try with_reducible rfl
        try simp only[Act.put,List.getElem_toArray,List.getElem_cons_zero,List.getElem_cons_succ,List.setIfInBounds_toArray,List.set_cons_zero,List.set_cons_succ]
        refine aS (by kernel_rfl) ?_ _;simp only[NoPanic];go_wp2_with fail;go_meet;exact ⟨T4,BK,rfl,pG,wB,(Kept.refl _ wb).drew.trans hK4,hq4⟩
      case rest=>
      obtain ⟨T4,BK,hs7,pG,wB,hK4,hq4⟩:=hcut;have hkeep:∀k,k≠g→k<wb.heap.size→wc.heap[k]? =wb.heap[k]? :=fun k hk hlt=>by
       obtain ⟨o,ho⟩:∃o,wb.heap[k]? =some o:=⟨_,Array.getElem?_eq_getElem hlt⟩
       rw[ho];exact hK4.same k o ho hk
      have hg3:=HR3.out.tg;have Ky:Kept (MT T3) wb wc:=hK4.mono fun k o e=>by rw[e];unfold MT;omega
      have hwb:=sD.out.size;have hs5:gG wc b p (.slice (some ⟨gf,0,none⟩) p.fl.length cf) (.slice (some ⟨gd,0,none⟩) p.fl.length cd):=nk.out.stay (hkeep b FT.out nk.out.blk.lt) (fun k hk=>hkeep k (fun e=>by have:=HA2.out k hk;rw[e] at this;omega) (nk.out.fr.lt k hk).2) (fun k hk=>hkeep k (fun e=>by have:=FW.out k hk;rw[e] at this;omega) (nk.out.dr.lt k hk).2);have BG:=FV.out.stay Ky wB;have Fs:=dm.trans sD.out Ky HT3.out;have uH:∀k,k<w.heap.size→T4 k=T k:=fun k hk=>(wB k (by omega)).trans (HT3.out k hk)
      have F6:T4 b=3*st1.next+4:=(wB b nk.out.blk.lt).trans HA1.out
      have F7:∀j,(Value.slice (some ⟨gf,0,none⟩) p.fl.length cf).ownBlock=some j→T4 j=3*st1.next+5:=fun j hj=>(wB j (nk.out.fr.lt j hj).2).trans (HA2.out j hj)
      have F8:∀j,(Value.slice (some ⟨gd,0,none⟩) p.fl.length cd).ownBlock=some j→T4 j=3*st1.next+6:=fun j hj=>(wB j (nk.out.dr.lt j hj).2).trans (FW.out j hj)
      have Kz:w1.heap.size≤wc.heap.size:=Nat.le_trans Dl hK4.size;have qm:=Lib.hid pG;have BL:=Lib.hid hs5;have FD:=Lib.hid BG;have qa:=Lib.hid Fs;have uI:=Lib.hid uH;have HB1:=Lib.hid F6;have HB2:=Lib.hid F7;have HB3:=Lib.hid F8;have fG:=Iv.out;subst hs7;clear pG wB hK4 hkeep Ky hs5 BG Fs uH F6 F7 F8 HR3 nk FV sD HT3 HA1 HA2 FW yH Iv;cases hro:RP.2.2 with
      |nil=>
       rw[hro] at fG;rw[List.nil_append] at fG;have KA:=Lib.hid fG;clear fG hq4 hro vE;generalize RP.1=KC at*;generalize RP.2.1=KD at*;rw[show (!([]:List (List UInt8)).isEmpty)=false from rfl];go_wp2_with fail
       go_roundg FX
       case measure=>omega
       case rel=>
        exact ⟨i+1,i,KC,KD,gq,T4,BK,_,rfl,rfl,by go_num,by have:=Kr.out;omega,by omega,by omega,qm.out,CO,uI.out,qa.out,FD.out,KA.out,by have:=Iu.out;omega,BL.out,HB1.out,FT.out,HB2.out,HB3.out,Kz⟩
      |cons q r=>
       have hr0:r= []:=by
        rw[hro] at vE;simp at vE;exact vE
       subst hr0;obtain ⟨hqr,Io⟩:=hq4 q hro;rw[hro] at fG;rw[←List.append_assoc] at fG;obtain ⟨Aq,cq,rfl,Qj,-⟩:=aK hqr;obtain ⟨KE,uJ,yI,yJ⟩:=FD.out;obtain ⟨j0,hj0,hm0,hm1,hm2⟩:=info_parts uq;have KA:=Lib.hid fG;have Qk:=Lib.hid hqr;have Ql:=Lib.hid Io;clear fG hq4 hro vE hqr Io Qj;generalize RP.1=KC at*;generalize RP.2.1=KD at*;rw[show (![q].isEmpty)=true from rfl];go_wp2_with (at_builtin;refine dI _ rfl (.tmp 86) (.tmp 88) 34 rfl w.heap.size 22 j0 (.slice none 0 0) 24 xC hj0 hm0 hm1 hm2 rfl _ gq.length KE rfl (uJ.alloc _) _ (some ⟨wc.heap.size,0,none⟩) 1 1 [.slice Aq q.length cq] rfl (pq (xs:= [.slice Aq q.length cq]) (jy wc _) rfl (by simp)) (by simp[Value.oneCell']) ?c2 ?c3 ?c4 ?_)
       case c2=>unfold maxLen;omega
       case c3=>omega
       case c4=>have:=qa.out.size;simp;omega
       intro v6 w6 hown6 iF hv6;have hfr:∀k,wc.heap.size≤k→T4 k=0:=fun k hk=>by
        rcases Nat.eq_zero_or_pos (T4 k) with e|e
        ·exact e
        ·have:=qm.out.lt k (by omega);omega
       have F9:∀k,v6.ownBlock=some k→T4 k=0:=fun k hk=>by
        rcases hv6 with e|e
        ·exact yI k (e ▸ hk)
        ·rw[e] at hk;cases hk;exact hfr _ (by simp)
       have Nt:=bQ.push uJ yI yJ (aW Qk.out hwb) Ql.out hown6 iF F9;have vC:=(qm.out.alloc (.cells #[.slice Aq q.length cq] 22)).grown iF yI;have hsA:=BL.out.stay (w':=wc.alloc (.cells #[.slice Aq q.length cq] 22)) (Below.heap_alloc wc _ b BL.out.blk.lt) (fun k hk=>Below.heap_alloc wc _ k (BL.out.fr.lt k hk).2) (fun k hk=>Below.heap_alloc wc _ k (BL.out.dr.lt k hk).2);have hne:∀k,T4 k≠0→some k≠(Value.slice Iq gq.length Ir).ownBlock:=fun k hk e=>hk (yI k e.symm)
       have hs6:=hsA.stay (w':=w6) (iF.block b hsA.blk.lt (hne b (by rw[HB1.out];omega))) (fun k hk=>iF.block k (hsA.fr.lt k hk).2 (hne k (by rw[HB2.out k hk];omega))) (fun k hk=>iF.block k (hsA.dr.lt k hk).2 (hne k (by rw[HB3.out k hk];omega)));have BA:=(qa.out.alloc (.cells #[.slice Aq q.length cq] 22)).grown iF (fun k e o ho=>by have:=(uJ.lt k e).1;have:=lt_of_heap ho;omega);have KF:w1.heap.size≤w6.heap.size:=by have:=iF.size;simp at this;omega
       have Qm:=Lib.hid Nt;have Bj:=Lib.hid vC;have Qn:=Lib.hid hs6;have Dc:=Lib.hid BA;obtain ⟨A6,c6,rfl,-,-⟩:=aK hown6;clear hfr F9 Nt vC hsA hne hs6 BA hown6 iF hv6 uJ yI yJ qm BL FD qa;go_wp2_with fail
       go_roundg FX
       case measure=>omega
       case rel=>
        refine ⟨i+1,i,KC,KD,gq++ [q],T4,BK,_,rfl,rfl,by go_num,by have:=Kr.out;omega,by omega,by omega,Bj.out,CO,uI.out,Dc.out,Qm.out,KA.out,?_,Qn.out,HB1.out,FT.out,HB2.out,HB3.out,KF⟩;have:=Iu.out;rw[List.length_append,List.length_singleton];omega
    ·have uF:gk=0:=by omega
     subst uF;have rQ:¬(i:Int)≤(N:Int):=by omega
     have fG:=hfin;unfold j5 at fG;dsimp only at fG;rw[List.append_nil] at fG;have Dn:=Ip.out;rw[fG] at Dn;simp only[Prod.mk.injEq] at Dn;obtain ⟨he1,he2,Nu⟩:=Dn;obtain ⟨y3,y4,y7,y8,y9,zl,C5,C6,y13,E4,E5,E6,E7,E8⟩:=hR.cells;have Ga:=Lib.hid he1;have HE2:=Lib.hid he2;have Qo:=Lib.hid Nu;obtain ⟨F,hF1,hF2⟩:=hR.drew.mp;have Hq:=Lib.hid hF1;have Nv:=Lib.hid hF2;have Sq:st1.next≤1023:=hn2
     clear hfin fG he1 he2 Nu hR Kq hK hs t1 t2 t3 hol hki hrow Ed oJ hsv hF1 hF2 y3 y4 y9 zl C5 C6 y13 E4 E5 E6 E7 E8 hfi hi1 Dl;go_upto_region 13 with (fail)
     refine wp_region_still_tail 8 fq (by kernel_rfl) ?_;simp only[List.take_succ_cons,List.take_zero,List.drop_succ_cons,List.drop_zero]
     repeat still_step
     refine wpStill_nil ?_;change wpList _ _ _ _ _ wr.drew;refine jG _ rfl _ _ 31 3 rfl 86 jI jH M n F rfl Hq.out st1.next rfl (by omega) ?_
     intro w5 Nw hg5;have Qp:=HM.out;have vB:bO w5 T3 g M n c {{st1 with op:=op,sm:=sm} with m:=dZ st1.m st1.next none} Ko:=HR3.out.drew.AB hg5 Nw fun k=>by
      have hkk:=Nv.out k;unfold dZ pM;by_cases e:k=st1.next
      ·rw[if_pos e,if_pos e];exact ⟨fun _=>rfl,fun _ hh=>by cases hh⟩
      ·rw[if_neg e,if_neg e];exact hkk
     have vC:=vB.put 8 (.int .i64 (bH st1.next:Nat)) (st':= {st1 with op:=op,sm:=sm,m:=dZ st1.m st1.next none,next:=bH st1.next}) rfl rfl rfl;have Ee:=HR3.out.tM;have Qq:=HR3.out.tg;have BA:Kept (MT T) w w5:=dm.trans sD.out ((Kept.refl _ wr).drew.grown hg5 (fun k e o ho=>by cases e;unfold MT;omega)) HT3.out;have Qr:T g=1:=HH.out.tg;have BD:=BA.setCell (p:=⟨g,8,none⟩) (fun o _=>by unfold MT;show T g≠0;omega) (.int .i64 (bH st1.next:Nat));have BG:bQ w5 w.heap.size T3 (.slice Iq gq.length Ir) gq:=FV.out.stay ((Kept.refl _ wr).drew.grown hg5 (fun k e o ho=>by cases e;show T3 M≠0;omega)) (fun k _=>rfl);have Ny:bQ (w5.setCell ⟨g,8,none⟩ (.int .i64 (bH st1.next:Nat))) w.heap.size T3 (.slice Iq gq.length Ir) gq:=BG.stay ((Kept.refl _ w5).setCell (p:=⟨g,8,none⟩) (fun o _=>by show T3 g≠0;omega) (.int .i64 (bH st1.next:Nat))) (fun k _=>rfl);have hand:bits BinOp.and IntKind.i64 ((st1.next:Int)+1) 1023=((bH st1.next:Nat):Int):=by rw[iC];unfold bH;omega
     have Qs:w5.cell? ⟨g,8,none⟩=some (.int .i64 (st1.next:Nat)):=vB.cells.2.2.2.1;have f8:=vB.blk.frozen 8;have Eb:=Lib.hid vC;have Qt:=Lib.hid Ny;have Ay:=Lib.hid BD;clear y7 y8 vB BA BD BG Ny vC Ee Qq Qr Qp Nw hg5 FV sD HR3 Hq Nv Qd rQ;go_upto_region 3 with (fail)
     generalize w5.setCell ⟨g,8,none⟩ (.int .i64 (bH st1.next:Nat))=w7 at*;have hs7:({st1 with op:=op,sm:=sm,m:=dZ st1.m st1.next none,next:=bH st1.next}:Rc)=lY st1 p:=by rw[Ga.out,HE2.out];rfl
     have yD:=Eb.out;rw[hs7] at yD;have Dp:aM (lY st1 p):=uV.out.one HM.out;have hfn:=D9.out;rw[←List.append_assoc,←Qo.out] at hfn;have Qu:=Dp.n1;obtain ⟨v7,PO,hv7⟩:=yD.drew.look Qu;obtain ⟨_,_,y7,y8,_⟩:=yD.cells;have Qv:=Lib.hid yD;have KG:=Lib.hid Dp;have KH:=Lib.hid hfn;have Qw:=Lib.hid hv7;clear hs7 yD Dp hfn hv7 f8 Qs hand Eb uV D9;refine wp_region_still_tail 8 fq (by kernel_rfl) ?_;simp only[List.take_succ_cons,List.take_zero,List.drop_succ_cons,List.drop_zero]
     repeat still_step
     refine wpStill_nil ?_;change wpList _ _ _ _ _ w7.drew;generalize lY st1 p=st2 at*;go_wp2_with fail
     go_roundg f
     case measure=>omega
     case rel=>
      refine ⟨j-1,st2,gq,T3,Ko,_,rfl,Qv.out.drew,KG.out,HT3.out,Ay.out.drew,Qt.out.drew,KH.out,?_,?_,Kn.out,?_⟩
      ·have h1:=Iu.out;have h2:=FU.out;omega
      ·have h1:=HJ.out;have h2:=EK.out;omega
      ·exact Qw.out
end
end
section
theorem tY {bs:List UInt8} {m:Bool} {q er:Nat} (h:iT bs m q= .inl er):er≠0:=by
 unfold iT dJ at h;split at h
 ·rename_i Qx hr;cases h;exact jA bs _ _ _ _ _ hr
 ·split at h
  ·cases h
  ·cases h;omega
theorem jQ {bs:List UInt8} {m:Bool} {q er:Nat} (h:cB bs m q= .inl er):er≠0:=by
 unfold cB at h;split at h
 ·rename_i Qx hl;cases h;exact tY hl
 ·unfold dV at h;split at h
  ·cases h;omega
  ·split at h
   ·cases h;omega
   ·cases h
theorem yK (bs:List UInt8) (er:Nat) (h:nO bs= .inl er):er≠0:=by
 unfold nO at h;split at h
 ·cases h;omega
 split at h
 ·cases h;omega
 split at h
 ·split at h
  ·cases h;omega
  ·split at h
   ·rename_i hc;cases h;exact jQ hc
   ·split at h
    ·cases h
    ·cases h;omega
 ·split at h
  ·rename_i hc;cases h;exact jQ hc
  ·split at h
   ·cases h
   ·cases h;omega
end
end Go.Proofs.YtiecgfahidpldaaGreat
