/- status.Decode. -/
import Derived.Test.YtbhiklnljiehiaaGreatM1bf
namespace Go.Proofs.YtbhiklnljiehiaaGreat
section
open Go.RowKit Go.Shelf
attribute [local go_sem] Oper.semAt_some
def dw (p q:Value) (ds:List Deferred) (S:Exit→World→Prop):Exit→Act→World→Prop
 | .panic c,a,w=>a.tmps[2]? =some p∧a.tmps[3]? =some q∧a.defers=ds∧S (.panic c) w
 |_,_,_=>False
theorem dw.put {p q v:Value} {ds:List Deferred} {S:Exit→World→Prop} {d:Nat} (h2:d≠2) (h3:d≠3):∀c a w,dw p q ds S (.panic c) (a.put (some d) v) w→dw p q ds S (.panic c) a w:=fun c a w h=>by
 obtain ⟨e2,e3,e4,e5⟩:=h;simp only[Act.put] at e2 e3 e4;rw[Array.getElem?_setIfInBounds_ne h2] at e2;rw[Array.getElem?_setIfInBounds_ne h3] at e3;exact ⟨e2,e3,e4,e5⟩
structure XF (w:World) (bs:List UInt8) (r d:Nat) (v:Value) (x1:Nat) (R2:Sum Nat (List Nk × Nat)) (acc:List Nk) (more:Bool) (q:Nat) (V:Value) (W:World):Prop where
 al:acc.length≤512
 go_:mW bs x1 (513-acc.length) more q acc=R2
 rd:kF W r v bs q
 ql:q≤8*bs.length
 bp:au W w.heap.size 133 #[.int .i64 x1,V]
 be:au W (w.heap.size+1) 53 #[.int .i64 0]
 bd:au W d 219 #[.pointer (some ⟨r,0,none⟩)]
 ow:W.ownsRow w.heap.size 197 4 V acc.length (oM acc)
 bl:Below w.heap.size w W
theorem Es {w:World} {b b' s s' n n':Nat} {e e':TypeId} {v v':Value} {xs xs':List Value} (h:w.ownsRow b e s v n xs) (h':w.ownsRow b' e' s' v' n' xs') (hne:e≠e') {k:Nat} (hk:v.ownBlock=some k):v'.ownBlock≠some k:=by
 intro hk';rcases h.2 with ⟨rfl,_⟩|⟨q,cap,cur,rfl,q1,q2,_⟩
 ·cases hk
 ·rcases h'.2 with ⟨rfl,_⟩|⟨q',cap',cur',rfl,q1',q2',_⟩
  ·cases hk'
  ·have e1:q=k:=by injection hk
   have e2:q'=k:=by injection hk'
   subst e1 e2;rw[q2] at q2';cases q2';exact hne rfl
theorem M7 (bs:List UInt8) {q p:Nat} {x:Nk} {m:Bool} (h:Dl bs q=some (x,m,p)):p≤8*bs.length:=by
 unfold Dl at h;split at h
 ·cases h
 split at h
 ·split at h
  ·cases h
  ·cases h;omega
 ·cases h;omega
set_option maxRecDepth 100000 in
set_option maxHeartbeats 8000000 in
theorem Ip (A:Option Addr) (n cc:Nat) (bs:List UInt8) (w:World) (h:Sl w w.heap.size A n cc (bQ bs)) (hsm:n≤1000000):
 Calls Tryz.prog 92 #[.slice A n cc] w (Kc w (kL bs)):=by
 have hlen:bs.length=n:=by simpa using h.len
 obtain ⟨i0,hi,hz0,hz1,hz2⟩:=rM;obtain ⟨R,hR⟩:∃R,kL bs=R:=⟨_,rfl⟩
 rw[hR];have HR:=ah hR;clear hR;have hB0:=((Below.refl w.heap.size w).alloc (aN) (.cells #[.int .i64 0,.slice none 0 0] 133)).alloc (by simp) (.cells #[.int .i64 0] 53);have hs0:=(h.below hB0).more hB0.size;have hnr:=tJ A n cc bs _ hs0 (by omega);have HNR:=ah hnr;have HB0:=ah hB0;have vE:=ah hsm;have jF:=ah hlen;clear hnr hB0 hs0 hsm hlen
 go_enter_defers Tryz.func92,Tryz.ntmps92
 go_wp2_with fail;refine HNR.out.mono ?_;rintro e1 w1 ⟨r,v,rfl,hr,hrd,hb1⟩;have Pb:au ((w.alloc (.cells #[.int .i64 0,.slice none 0 0] 133)).alloc (.cells #[.int .i64 0] 53)) w.heap.size 133 #[.int .i64 0,.slice none 0 0]:=(au.new w _ _).alloc _;have zi:au ((w.alloc (.cells #[.int .i64 0,.slice none 0 0] 133)).alloc (.cells #[.int .i64 0] 53)) (w.heap.size+1) 53 #[.int .i64 0]:=by simpa using au.new (w.alloc (.cells #[.int .i64 0,.slice none 0 0] 133)) 53 #[.int .i64 0]
 have bp1:=Pb.below hb1 Pb.lt;have uX:=zi.below hb1 zi.lt;have hB1:Below w.heap.size w w1:=HB0.out.trans (hb1.mono HB0.out.size);have afI:w.heap.size+1<r:=by simp at hr;omega
 have hrl:=hrd.1.lt;clear Pb zi hb1 hr HNR HB0;have hW2:∃w2,(w1.alloc (.cells #[.pointer (some ⟨r,0,none⟩)] 219)).alloc (.cells #[.int .i64 4,.int .i64 10,.int .i64 1] 3)=w2:=⟨_,rfl⟩
 obtain ⟨w2,hw2⟩:=hW2;have Oe:au w2 w.heap.size 133 #[.int .i64 0,.slice none 0 0]:=by rw[←hw2];exact (bp1.alloc _).alloc _
 have qV:au w2 (w.heap.size+1) 53 #[.int .i64 0]:=by rw[←hw2];exact (uX.alloc _).alloc _
 have hB2:Below w.heap.size w w2:=by rw[←hw2];exact (hB1.alloc hB1.size _).alloc (by have:=hB1.size;simp;omega) _
 have uq:kF w2 r v bs 0:=by rw[←hw2];exact ⟨(hrd.1.alloc _).alloc _,(hrd.2.alloc _).alloc _⟩
 have hd2:au w2 w1.heap.size 219 #[.pointer (some ⟨r,0,none⟩)]:=by rw[←hw2];exact (au.new w1 _ _).alloc _
 have hb2:au w2 (w1.heap.size+1) 3 (jq [4,10,1]).toArray:=by
  rw[←hw2];have:=au.new (w1.alloc (.cells #[.pointer (some ⟨r,0,none⟩)] 219)) 3 #[.int .i64 4,.int .i64 10,.int .i64 1];rw[World.size_alloc] at this;exact this
 have agd:w2.heap.size=w1.heap.size+2:=by rw[←hw2];simp
 go_wp2_with fail;clear hrd bp1 uX hB1 hw2;generalize w1.heap.size=d at*;have hbl:bs.length≤1000000:=by have:=jF.out;have:=vE.out;omega
 by_cases h2:8*bs.length<15
 ·have qU:R= .inl 5:=by rw[←HR.out];unfold kL;rw[if_pos h2]
  have yD:=ah qU;clear qU;have hga:=j4 r (d+1) v bs 0 [4,10,1] w2 uq (by omega) (by simp) (by simp) hb2 (by omega) (by simp;omega);simp only[List.length_cons,List.length_nil,Nat.zero_add,Nat.reduceAdd] at hga;refine hga.mono ?_;rintro e3 w3 ⟨rfl,nE,hk3⟩;have hB3:Below w.heap.size w w3:=hB2.trans (hk3.below (B:=w.heap.size) (fun k _ e=>by have:=hB2.size;omega) hB2.size);have xJ:=Oe.kept hk3 (by have:=Oe.lt;omega);have pX:=qV.kept hk3 (by have:=qV.lt;omega);clear hga h2 hbl;go_wp2_with (go_at_call 135;((with_reducible refine (xU _ _ _ _ rfl _).mono ?_);rintro e4 w4 ⟨rfl,rfl⟩));exact jK w _ R 5 _ _ _ _ rfl rfl xJ pX hB3 yD.out
 ·have hga:=oO r (d+1) v bs 0 [4,10,1] w2 uq (by omega) (by simp) (by simp) hb2 (by simp;omega);simp only[List.length_cons,List.length_nil,Nat.zero_add,Nat.reduceAdd] at hga;refine hga.mono ?_;rintro e3 w3 ⟨vo,rfl,jm,nE,hk3⟩;have hB3:Below w.heap.size w w3:=hB2.trans (hk3.below (B:=w.heap.size) (fun k _ e=>by have:=hB2.size;omega) hB2.size);have xJ:=Oe.kept hk3 (by have:=Oe.lt;omega);have pX:=qV.kept hk3 (by have:=qV.lt;omega);have hd3:=hd2.kept hk3 (by have:=hd2.lt;omega);have qJ:=HR.out;unfold kL at qJ;rw[if_neg h2] at qJ;have hgv:getAll bs 0 [4,10,1]= [val (ax bs 0 4),val (ax bs 4 10),val (ax bs 14 1)]:=rfl;rw[hgv] at jm;have hx1:val (ax bs 4 10)<1024:=by have:=qW (ax bs 4 10);rw[fu] at this;exact this
  have afJ:=hd2.lt;have Ff:15≤8*bs.length:=by omega
  clear hgv hga hb2 uq hB2 Oe qV hd2 hk3 h2;simp only[List.length_cons,List.length_nil,Nat.zero_add,Nat.reduceAdd] at jm;rw[show (0:Nat)+ [4,10,1].sum=15 from rfl] at nE;generalize val (ax bs 0 4)=x0 at*;generalize val (ax bs 4 10)=x1 at*;generalize val (ax bs 14 1)=x2 at*;obtain ⟨gl,Xb,rfl,hgl,lT⟩:=jm.form (by omega);have l0:w3.cell? ⟨gl,0,none⟩=some (.int .u64 x0):=by have:=jm.cellAt 0 (by omega);simpa[qa] using this
  have l1:w3.cell? ⟨gl,1,none⟩=some (.int .u64 x1):=by have:=jm.cellAt 1 (by omega);simpa[qa] using this
  have l2:w3.cell? ⟨gl,2,none⟩=some (.int .u64 x2):=by have:=jm.cellAt 2 (by omega);simpa[qa] using this
  by_cases h0:x0=0
  ·rw[if_neg (fun e=>e h0)] at qJ;have hx0:((x0:Int)==0)=true:=by simp[h0]
   have hxw:IntKind.i64.wrap (x1:Int)=(x1:Int):=by rw[IntKind.wrap_i64];omega
   have hm1:((x2:Int)==1)=decide (x2=1):=by rw[Bool.eq_iff_iff];simp;omega
   have p0:=xJ.cell 0;have pf:=xJ.frozen 0;simp at p0;have HR1:=ah qJ;have HH0:=ah h0;clear qJ h0;have amB:gl≠w.heap.size:=by have:=xJ.lt;have:=agd;have:=hB3.size;omega
   have oV:=aL (i:=0) jm xJ (by decide) (.int .i64 x1);have q1:(w3.setCell ⟨w.heap.size,0,none⟩ (.int .i64 x1)).cell? ⟨gl,2,none⟩=some (.int .u64 x2):=by have:=oV.cellAt 2 (by omega);simpa[qa] using this
   have Vn:=xJ.av 0 (.int .i64 x1);have RQ:=pX.far (p:=⟨w.heap.size,0,none⟩) (show w.heap.size+1≠w.heap.size by omega) (.int .i64 x1);have hd4:=hd3.far (p:=⟨w.heap.size,0,none⟩) (show d≠w.heap.size by omega) (.int .i64 x1);have Aw:kF (w3.setCell ⟨w.heap.size,0,none⟩ (.int .i64 x1)) r v bs 15:=⟨nE.1.far (p:=⟨w.heap.size,0,none⟩) (show r≠w.heap.size by omega) (.int .i64 x1),aL (i:=0) nE.2 xJ (by decide) (.int .i64 x1)⟩;have hB4:=hB3.setCell (p:=⟨w.heap.size,0,none⟩) (aN) (.int .i64 x1);simp at Vn;have HBP:=ah Vn;have JC:=ah RQ;have Ol:=ah hd4;have Vi:=ah Aw;have Dr:=ah hB4;clear Vn RQ hd4 Aw hB4 nE hB3 xJ pX hd3 oV jm;go_wp2_with (first|(go_at_call 135;((with_reducible refine (vX _ _ _ _).mono ?_);rintro e4 w4 ⟨rfl,rfl⟩))|(go_at_call 137;((with_reducible refine (mX _ _).mono ?_);rintro e4 w4 ⟨rfl,rfl⟩)));generalize w3.setCell ⟨w.heap.size,0,none⟩ (.int .i64 x1)=w4 at*;clear l0 l1 l2 p0 pf q1 hx0 hxw;obtain ⟨R2,hR2⟩:∃R2,mW bs x1 513 (decide (x2=1)) 15 []=R2:=⟨_,rfl⟩
   have Tc:=HR1.out;rw[hR2] at Tc;have HR2:=ah hR2;have HR3:=ah Tc;clear hR2 Tc HR1
   go_loopw [6] (fun m wr=>∃(acc:List Nk) (more:Bool) (q:Nat) (V:Value),m= .bool more∧XF w bs r d v x1 R2 acc more q V wr) (fun _ wr=>513-xB ((wr.cell? ⟨w.heap.size,1,none⟩).getD .nilIface))
   case atStart=>exact ⟨[],decide (x2=1),15,.slice none 0 0,rfl,by simp,by simpa using HR2.out,Vi.out,by omega,HBP.out,JC.out,Ol.out,World.ownsRow_nil _ _ _ _,Dr.out⟩
   case round=>
    obtain ⟨acc,more,q,V,rfl,hI⟩:=hrel;obtain ⟨Av,cv,hV,_,_⟩:=bX.dH (l:=acc) hI.ow;subst hV;have RO:=hI.bd.cell 0;simp at RO;have HI:=ah hI;cases more with
    |true=>
     obtain ⟨f,hf⟩:∃f,513-acc.length=f+1:=⟨512-acc.length,by have:=hI.al;omega⟩
     have hgo:=hI.go_;rw[hf] at hgo;simp only[mW] at hgo;have tV:=ah hgo;have HFF:=ah hf;have XG:kF (wr.alloc (.cells #[.int .i64 0,.bool false,.int .i64 0,.int .i64 0] 197)) r v bs q:=⟨hI.rd.1.alloc _,hI.rd.2.alloc _⟩;have Kl:=ah (Ka r v bs q _ XG hI.ql (by omega));have bn0:=au.new wr 197 #[.int .i64 0,.bool false,.int .i64 0,.int .i64 0];have bd0:=hI.bd.alloc (.cells #[.int .i64 0,.bool false,.int .i64 0,.int .i64 0] 197);have ed0:=bd0.cell 0;simp at ed0;have Pb:=hI.bp.alloc (.cells #[.int .i64 0,.bool false,.int .i64 0,.int .i64 0] 197);have zi:=hI.be.alloc (.cells #[.int .i64 0,.bool false,.int .i64 0,.int .i64 0] 197);have ow0:=hI.ow.alloc (.cells #[.int .i64 0,.bool false,.int .i64 0,.int .i64 0] 197);have hB0:=hI.bl.alloc hI.bl.size (.cells #[.int .i64 0,.bool false,.int .i64 0,.int .i64 0] 197);have abj:=ig ow0 XG.1 (by decide);have agh:=ah (fun k hk=>(hI.ow.lt k hk).2);have amC:=hI.rd.1.lt;have amD:=hI.bd.lt;have hsz:=World.size_alloc wr (.cells #[.int .i64 0,.bool false,.int .i64 0,.int .i64 0] 197);have XH:=ah bn0;have XI:=ah bd0;have PZ:=ah Pb;have P4:=ah zi;have XJ:=ah ow0;have HB0:=ah hB0;have abk:=ah abj;have FB:=ah hsz;clear hI hgo hf XG bn0 bd0 Pb zi ow0 hB0 abj hsz;go_wp2_with fail;clear ed0 RO;generalize wr.alloc (.cells #[.int .i64 0,.bool false,.int .i64 0,.int .i64 0] 197)=W0 at*;refine Kl.out.mono ?_;rintro e5 w5 ⟨hk5,⟨XK,rfl⟩|⟨x,m',p,hs5,rfl,uw⟩⟩
     ·have mR:Below w.heap.size w w5:=HB0.out.trans (hk5.below (B:=w.heap.size) (fun k _ e=>by have:=HB0.out.size;omega) HB0.out.size);have Ba:=PZ.out.kept hk5 (by have:=PZ.out.lt;omega);have vQ:=P4.out.kept hk5 (by have:=P4.out.lt;omega);have qU:R= .inl 5:=by
       have h1:=tV.out;rw[XK] at h1;have h2:=HR3.out;rw[←h1] at h2;exact h2.symm
      clear hk5 tV XK;go_wp2_with fail;exact jK w _ R 5 _ _ _ _ rfl rfl Ba vQ mR qU
     ·have hpl:=M7 bs hs5;have hg1:=tV.out;rw[hs5] at hg1;dsimp only at hg1;have mR:Below w.heap.size w w5:=HB0.out.trans (hk5.below (B:=w.heap.size) (fun k _ e=>by have:=HB0.out.size;omega) HB0.out.size);have Ba:=PZ.out.kept hk5 (by have:=PZ.out.lt;omega);have vQ:=P4.out.kept hk5 (by have:=P4.out.lt;omega);have Zu:=XI.out.kept hk5 (by have:=XI.out.lt;omega);have zF:=XH.out.kept hk5 (by have:=XH.out.lt;omega);have ow5:=j3 XJ.out hk5 (fun k o _ hk e=>by
       rcases e with e|e
       ·subst e;exact abk.out hk
       ·have:=(XJ.out.lt k hk).2;omega)
      have hrw:r≠wr.heap.size:=by omega
      have De:au ((((w5.setCell ⟨wr.heap.size,0,none⟩ (.int .i64 x.sn)).setCell ⟨wr.heap.size,1,none⟩ (.bool x.part)).setCell ⟨wr.heap.size,2,none⟩ (.int .i64 x.fr)).setCell ⟨wr.heap.size,3,none⟩ (.int .i64 x.lt)) w.heap.size 133 #[.int .i64 x1,.slice Av acc.length cv]:=(jg (by omega) _ _ _ _).trans Ba;have Og:au ((((w5.setCell ⟨wr.heap.size,0,none⟩ (.int .i64 x.sn)).setCell ⟨wr.heap.size,1,none⟩ (.bool x.part)).setCell ⟨wr.heap.size,2,none⟩ (.int .i64 x.fr)).setCell ⟨wr.heap.size,3,none⟩ (.int .i64 x.lt)) (w.heap.size+1) 53 #[.int .i64 0]:=(jg (by omega) _ _ _ _).trans vQ;have bd6:au ((((w5.setCell ⟨wr.heap.size,0,none⟩ (.int .i64 x.sn)).setCell ⟨wr.heap.size,1,none⟩ (.bool x.part)).setCell ⟨wr.heap.size,2,none⟩ (.int .i64 x.fr)).setCell ⟨wr.heap.size,3,none⟩ (.int .i64 x.lt)) d 219 #[.pointer (some ⟨r,0,none⟩)]:=(jg (by omega) _ _ _ _).trans Zu;have vR:kF ((((w5.setCell ⟨wr.heap.size,0,none⟩ (.int .i64 x.sn)).setCell ⟨wr.heap.size,1,none⟩ (.bool x.part)).setCell ⟨wr.heap.size,2,none⟩ (.int .i64 x.fr)).setCell ⟨wr.heap.size,3,none⟩ (.int .i64 x.lt)) r v bs p:=⟨(jg hrw _ _ _ _).trans uw.1,rE uw.2 zF (by decide) _ _ _ _⟩
      have S9:Below w.heap.size w ((((w5.setCell ⟨wr.heap.size,0,none⟩ (.int .i64 x.sn)).setCell ⟨wr.heap.size,1,none⟩ (.bool x.part)).setCell ⟨wr.heap.size,2,none⟩ (.int .i64 x.fr)).setCell ⟨wr.heap.size,3,none⟩ (.int .i64 x.lt)):=(((mR.setCell (p:=⟨wr.heap.size,0,none⟩) (by show w.heap.size≤wr.heap.size;omega) _).setCell (p:=⟨wr.heap.size,1,none⟩) (by show w.heap.size≤wr.heap.size;omega) _).setCell (p:=⟨wr.heap.size,2,none⟩) (by show w.heap.size≤wr.heap.size;omega) _).setCell (p:=⟨wr.heap.size,3,none⟩) (by show w.heap.size≤wr.heap.size;omega) _;have ow6:((((w5.setCell ⟨wr.heap.size,0,none⟩ (.int .i64 x.sn)).setCell ⟨wr.heap.size,1,none⟩ (.bool x.part)).setCell ⟨wr.heap.size,2,none⟩ (.int .i64 x.fr)).setCell ⟨wr.heap.size,3,none⟩ (.int .i64 x.lt)).ownsRow w.heap.size 197 4 (.slice Av acc.length cv) acc.length (oM acc):=bT ow5 fun k hk=>jg (by have:=agh.out k hk;omega) _ _ _ _
      have Tt:=zF.Tp (.int .i64 x.sn) (.bool x.part) (.int .i64 x.fr) (.int .i64 x.lt);obtain ⟨m0,m1,m2,m3⟩:=zF.iX;have f0:=zF.frozen 0;have f1:=zF.frozen 1;have f2:=zF.frozen 2;have f3:=zF.frozen 3;have z1:=De.cell 1;simp only[List.getElem?_toArray] at z1;have Kv:=ah S9;have sV:=ah De;have Dt:=ah Og;have TR:=ah bd6;have M8:=ah vR;have P5:=ah ow6;have Bn:=ah Tt;have HG1:=ah hg1;have E7:=ah hpl;have LF:w5.heap.size=((((w5.setCell ⟨wr.heap.size,0,none⟩ (.int .i64 x.sn)).setCell ⟨wr.heap.size,1,none⟩ (.bool x.part)).setCell ⟨wr.heap.size,2,none⟩ (.int .i64 x.fr)).setCell ⟨wr.heap.size,3,none⟩ (.int .i64 x.lt)).heap.size:=(Ec _ _ _ _).symm;clear hk5 hs5 uw hg1 mR Ba vQ Zu zF ow5 De Og bd6 vR S9 ow6 Tt hpl Kl tV XH XI PZ P4 XJ HB0 abk FB;unfold lq;go_upto_region 11 with fail
      clear m0 m1 m2 m3 f0 f1 f2 f3 z1;generalize (((w5.setCell ⟨wr.heap.size,0,none⟩ (.int .i64 x.sn)).setCell ⟨wr.heap.size,1,none⟩ (.bool x.part)).setCell ⟨wr.heap.size,2,none⟩ (.int .i64 x.fr)).setCell ⟨wr.heap.size,3,none⟩ (.int .i64 x.lt)=w6 at*;have hS:∀W,Below w6.heap.size w6 W→W.cell? ⟨w.heap.size,0,none⟩=some (.int .i64 x1)∧W.cell? ⟨w.heap.size,1,none⟩=some (.slice Av acc.length cv)∧W.cell? ⟨wr.heap.size,0,none⟩=some (.int .i64 x.sn)∧W.cell? ⟨wr.heap.size,1,none⟩=some (.bool x.part)∧W.cell? ⟨wr.heap.size,2,none⟩=some (.int .i64 x.fr)∧W.cell? ⟨wr.heap.size,3,none⟩=some (.int .i64 x.lt):=fun W hW=>by
       have b0:=sV.out.below hW sV.out.lt;have b1:=Bn.out.below hW Bn.out.lt;obtain ⟨y0,y1,y2,y3⟩:=b1.iX;exact ⟨b0.cell 0,b0.cell 1,y0,y1,y2,y3⟩
      have HS:=ah hS;have BK:=ah (fun (W:World) (hb:Below w6.drew.heap.size w6.drew W)=>hS W ((Below.refl _ w6).drew.trans hb));have hal:=fun (W:World)=>Bg W (x1:Int) x
      unfold lq at hal;have um:=ah hal;have ZA:=ah (Below.refl w6.heap.size w6).drew;have P6:=ah (fun (W:World) (hb:Below w6.drew.heap.size w6.drew W)=>(Below.refl w6.heap.size w6).drew.trans hb);clear hS hal;have amE:=HI.out.al;by_cases Kw:acc.length<512
      ·have abn:decide ((acc.length:Int)<512)=true:=decide_eq_true (by omega);cases hA:iB (x1:Int) x with
       |false=>
        rw[hA] at um;have xI:R= .inl 9:=by
         have h1:=HG1.out;rw[if_neg (by unfold rC;rw[hA];simp)] at h1;have h2:=HR3.out;rw[←h1] at h2;exact h2.symm
        have D7:=ah xI;clear xI hA;refine Code.wp_mono (Q:=dw (.pointer (some ⟨w.heap.size,0,none⟩)) (.pointer (some ⟨w.heap.size+1,0,none⟩)) [{target:= .fn (.func 133) #[.pointer (some ⟨w.heap.size,0,none⟩),.pointer (some ⟨w.heap.size+1,0,none⟩)],args:= #[]}] (fun e W=>e= .panic [{v:= .iface 53 (.int .i64 9),recovered:=false}]∧Below w6.heap.size w6 W)) (fun e a W h=> ?_) ?_
        ·cases e with
         |panic c8=>
          obtain ⟨h2,h3,hd,he,hb⟩:=h;cases he;obtain ⟨T,D⟩:=a;dsimp only at h2 h3 hd;subst hd;exact jK w W R 9 T _ _ _ h2 h3 (sV.out.below hb sV.out.lt) (Dt.out.below hb Dt.out.lt) (Kv.out.trans (hb.mono Kv.out.size)) D7.out
         |_=>exact (h:False).elim
        refine bJ (fun w'=>w'.cell? ⟨w.heap.size,0,none⟩=some (.int .i64 x1)∧w'.cell? ⟨w.heap.size,1,none⟩=some (.slice Av acc.length cv)∧w'.cell? ⟨wr.heap.size,0,none⟩=some (.int .i64 x.sn)∧w'.cell? ⟨wr.heap.size,1,none⟩=some (.bool x.part)∧w'.cell? ⟨wr.heap.size,2,none⟩=some (.int .i64 x.fr)∧w'.cell? ⟨wr.heap.size,3,none⟩=some (.int .i64 x.lt)) [] (by kernel_rfl) ?_;have hHeld:=HS.out _ ZA.out;refine aT 0 rfl hHeld ?_ (hQ:=dw.put (by decide) (by decide))
        try simp only[Act.put,aD,aF,ay,aA,aB]
        refine aT 1 rfl hHeld ?_ (hQ:=dw.put (by decide) (by decide))
        try simp only[Act.put,aD,aF,aG,ay,aA,aB]
        refine aT 2 rfl hHeld ?_ (hQ:=dw.put (by decide) (by decide))
        try simp only[Act.put,aD,aF,aG,ay,aA,aB]
        refine aT 3 rfl hHeld ?_ (hQ:=dw.put (by decide) (by decide))
        try simp only[Act.put,aD,aF,aG,ay,aA,aB]
        refine iw [] 4 ?_ rfl (Or.inl ⟨by rfl,?_⟩) hHeld ?_ (hQ:=dw.put (by decide) (by decide));rotate_left
        ·intro w' hSw;obtain ⟨hS1,hS2,gK,ku,hS5,oW⟩:=hSw;go_simp
         try with_reducible rfl
        try simp only[Act.put,aD,aF,aG,ay,aA,aB]
        refine iw [] 5 ?_ rfl (Or.inl ⟨by rfl,?_⟩) hHeld ?_ (hQ:=dw.put (by decide) (by decide));rotate_left
        ·intro w' hSw;obtain ⟨hS1,hS2,gK,ku,hS5,oW⟩:=hSw;go_simp
         try with_reducible rfl
        try simp only[Act.put,aD,aF,aG,ay,aA,aB]
        refine aR (i:=6) rfl (by kernel_rfl) (by rfl) (fun K hK=> ?_);go_simp;refine (um.out _).mono ?_;rintro e6 XL ⟨rfl,hb6⟩;refine hK _ _ (BK.out _ hb6) ?_;have hHeld:=(BK.out _ hb6);clear hK K
        try simp only[Act.put,aD,aF,aG,ay,aA,aB]
        refine aT 7 rfl hHeld ?_ (hQ:=dw.put (by decide) (by decide))
        try simp only[Act.put,aD,aF,aG,ay,aA,aB]
        refine aT 8 rfl hHeld ?_ (hQ:=dw.put (by decide) (by decide))
        try simp only[Act.put,aD,aF,aG,ay,aA,aB]
        refine kz 9 rfl hHeld ?_ (hQ:=dw.put (by decide) (by decide))
        try simp only[Act.put,aD,aF,aG,ay,aA,aB]
        refine kz 10 rfl hHeld ?_ (hQ:=dw.put (by decide) (by decide))
        try simp only[Act.put,aD,aF,aG,ay,aA,aB]
        refine kz 11 rfl hHeld ?_ (hQ:=dw.put (by decide) (by decide))
        try simp only[Act.put,aD,aF,aG,ay,aA,aB]
        refine kz 12 rfl hHeld ?_ (hQ:=dw.put (by decide) (by decide))
        try simp only[Act.put,aD,aF,aG,ay,aA,aB]
        refine kz 13 rfl hHeld ?_ (hQ:=dw.put (by decide) (by decide))
        try simp only[Act.put,aD,aF,aG,ay,aA,aB]
        refine kz 14 rfl hHeld ?_ (hQ:=dw.put (by decide) (by decide))
        try simp only[Act.put,aD,aF,aG,ay,aA,aB]
        refine kz 15 rfl hHeld ?_ (hQ:=dw.put (by decide) (by decide))
        try simp only[Act.put,aD,aF,aG,ay,aA,aB]
        refine kz 16 rfl hHeld ?_ (hQ:=dw.put (by decide) (by decide))
        try simp only[Act.put,aD,aF,aG,ay,aA,aB]
        refine kz 17 rfl hHeld ?_ (hQ:=dw.put (by decide) (by decide))
        try simp only[Act.put,aD,aF,aG,ay,aA,aB]
        refine kz 18 rfl hHeld ?_ (hQ:=dw.put (by decide) (by decide))
        try simp only[Act.put,aD,aF,aG,ay,aA,aB]
        refine kz 19 rfl hHeld ?_ (hQ:=dw.put (by decide) (by decide))
        try simp only[Act.put,aD,aF,aG,ay,aA,aB]
        refine kz 20 rfl hHeld ?_ (hQ:=dw.put (by decide) (by decide))
        try simp only[Act.put,aD,aF,aG,ay,aA,aB]
        refine kz 21 rfl hHeld ?_ (hQ:=dw.put (by decide) (by decide))
        try simp only[Act.put,aD,aF,aG,ay,aA,aB]
        refine kz 22 rfl hHeld ?_ (hQ:=dw.put (by decide) (by decide))
        try simp only[Act.put,aD,aF,aG,ay,aA,aB]
        refine aT 23 rfl hHeld ?_ (hQ:=dw.put (by decide) (by decide))
        try simp only[Act.put,aD,aF,aG,ay,aA,aB]
        refine aR (i:=24) rfl (by kernel_rfl) (by rfl) (fun K hK=> ?_);go_simp;refine (jR 9 _).mono ?_;rintro e8 w8 ⟨rfl,rfl⟩;exact ⟨rfl,rfl,rfl,rfl,P6.out _ hb6⟩
       |true=>
        rw[hA] at um;have HA:=ah hA;clear hA;rcases Nat.eq_zero_or_pos acc.length with hl0|hlp
        ·have hg2:mW bs x1 f m' p (acc++ [x])=R2:=by
          have h1:=HG1.out;rw[if_pos (by
           unfold rC;rw[HA.out,List.eq_nil_of_length_eq_zero hl0];rfl)] at h1
          exact h1
         have HGF:=ah hg2;clear hg2;rw[hl0] at sV P5 HS BK ⊢;refine wp_region_noPanic ?_;refine bJ (fun w'=>w'.cell? ⟨w.heap.size,0,none⟩=some (.int .i64 x1)∧w'.cell? ⟨w.heap.size,1,none⟩=some (.slice Av 0 cv)∧w'.cell? ⟨wr.heap.size,0,none⟩=some (.int .i64 x.sn)∧w'.cell? ⟨wr.heap.size,1,none⟩=some (.bool x.part)∧w'.cell? ⟨wr.heap.size,2,none⟩=some (.int .i64 x.fr)∧w'.cell? ⟨wr.heap.size,3,none⟩=some (.int .i64 x.lt)) [] (by kernel_rfl) ?_;have hHeld:=HS.out _ ZA.out;refine aT 0 rfl hHeld ?_
         try simp only[Act.put,aD,aF,ay,aA,aB]
         refine aT 1 rfl hHeld ?_
         try simp only[Act.put,aD,aF,aG,ay,aA,aB]
         refine aT 2 rfl hHeld ?_
         try simp only[Act.put,aD,aF,aG,ay,aA,aB]
         refine aT 3 rfl hHeld ?_
         try simp only[Act.put,aD,aF,aG,ay,aA,aB]
         refine iw [] 4 ?_ rfl (Or.inl ⟨by rfl,?_⟩) hHeld ?_;rotate_left
         ·intro w' hSw;obtain ⟨hS1,hS2,gK,ku,hS5,oW⟩:=hSw;go_simp
          try with_reducible rfl
         try simp only[Act.put,aD,aF,aG,ay,aA,aB]
         refine iw [] 5 ?_ rfl (Or.inl ⟨by rfl,?_⟩) hHeld ?_;rotate_left
         ·intro w' hSw;obtain ⟨hS1,hS2,gK,ku,hS5,oW⟩:=hSw;go_simp
          try with_reducible rfl
         try simp only[Act.put,aD,aF,aG,ay,aA,aB]
         refine aR (i:=6) rfl (by kernel_rfl) (by rfl) (fun K hK=> ?_);go_simp;refine (um.out _).mono ?_;rintro e6 XL ⟨rfl,hb6⟩;refine hK _ _ (BK.out _ hb6) ?_;have hHeld:=(BK.out _ hb6);clear hK K
         try simp only[Act.put,aD,aF,aG,ay,aA,aB]
         refine aT 7 rfl hHeld ?_
         try simp only[Act.put,aD,aF,aG,ay,aA,aB]
         refine aT 8 rfl hHeld ?_
         try simp only[Act.put,aD,aF,aG,ay,aA,aB]
         refine aT 9 rfl hHeld ?_
         try simp only[Act.put,aD,aF,aG,ay,aA,aB]
         refine aT 10 rfl hHeld ?_
         try simp only[Act.put,aD,aF,aG,ay,aA,aB]
         refine aT 11 rfl hHeld ?_
         try simp only[Act.put,aD,aF,aG,ay,aA,aB]
         refine kz 12 rfl hHeld ?_
         try simp only[Act.put,aD,aF,aG,ay,aA,aB]
         refine kz 13 rfl hHeld ?_
         try simp only[Act.put,aD,aF,aG,ay,aA,aB]
         refine kz 14 rfl hHeld ?_
         try simp only[Act.put,aD,aF,aG,ay,aA,aB]
         refine kz 15 rfl hHeld ?_
         try simp only[Act.put,aD,aF,aG,ay,aA,aB]
         refine kz 16 rfl hHeld ?_
         try simp only[Act.put,aD,aF,aG,ay,aA,aB]
         refine kz 17 rfl hHeld ?_
         try simp only[Act.put,aD,aF,aG,ay,aA,aB]
         refine kz 18 rfl hHeld ?_
         try simp only[Act.put,aD,aF,aG,ay,aA,aB]
         refine kz 19 rfl hHeld ?_
         try simp only[Act.put,aD,aF,aG,ay,aA,aB]
         refine kz 20 rfl hHeld ?_
         try simp only[Act.put,aD,aF,aG,ay,aA,aB]
         refine kz 21 rfl hHeld ?_
         try simp only[Act.put,aD,aF,aG,ay,aA,aB]
         refine aT 22 rfl hHeld ?_
         try simp only[Act.put,aD,aF,aG,ay,aA,aB]
         refine aT 23 rfl hHeld ?_
         try simp only[Act.put,aD,aF,aG,ay,aA,aB]
         refine aR (i:=24) rfl (by kernel_rfl) (by rfl) (fun K hK=> ?_);go_simp;refine (mX 9 _).mono ?_;rintro e8 w8 ⟨rfl,rfl⟩;refine hK _ _ hHeld ?_;have hHeld:=hHeld;clear hK K
         try simp only[Act.put,aD,aF,aG,ay,aA,aB]
         have CV:=ah (P6.out _ hb6);refine bI (by kernel_rfl) ?_ _;refine NoPanic.normal ?_;have XM:=ah (Kv.out.trans (CV.out.mono Kv.out.size));have P7:=ah (sV.out.below CV.out sV.out.lt);have XN:=ah (Dt.out.below CV.out Dt.out.lt);have XO:=ah (TR.out.below CV.out TR.out.lt);have Dm:Hid (kF XL r v bs p):=ah ⟨M8.out.1.below CV.out M8.out.1.lt,own_below M8.out.2 CV.out (aN)⟩;have BL:=ah ((own_below P5.out CV.out (aN)).alloc (.cells (Em x) 197));have XP:=ah (FJ XL x);obtain ⟨y0,y1,y2,y3⟩:=(Bn.out.below CV.out Bn.out.lt).iX;have z1:=P7.out.cell 1;simp only[List.getElem?_toArray] at z1;have HZS:=ah XM.out.size;clear hHeld CV;simp only[Em] at BL XP;go_wp2_with (at_builtin;refine gZ _ rfl _ _ 131 rfl w.heap.size 197 i0 (.agg #[.int .i64 0,.bool false,.int .i64 0,.int .i64 0]) 32 uK hi hz0 hz1 hz2 rfl (.slice Av 0 cv) 0 (oM acc) rfl BL.out (some ⟨XL.heap.size,0,none⟩) 1 1 [x] rfl XP.out ?c3 ?c4 ?c5 ?_)
         case c3=>unfold maxLen;omega
         case c4=>omega
         case c5=>have:=HZS.out;simp;omega
         intro v9 w9 BM qy;have P8:(acc++ [x]).length=1:=by rw[List.length_append];simp[hl0]
         rw[←wG] at BM;have uL:w9.ownsRow w.heap.size 197 4 v9 (acc++ [x]).length (oM (acc++ [x])):=by rw[P8];exact BM
         obtain ⟨A9,c9,Od,_,_⟩:=bX.dH (l:=acc++ [x]) uL;rw[P8] at Od;subst Od;have hnb:∀(g:Nat) (t:TypeId) (cs:Array Value),au (XL.alloc (.cells #[.int .i64 x.sn,.bool x.part,.int .i64 x.fr,.int .i64 x.lt] 197)) g t cs→197≠t→au w9 g t cs:=fun g t cs hb ht=>hb.grown qy (fun e=>ig BL.out hb ht e.symm)
         have J4:=hnb _ _ _ (P7.out.alloc _) (by decide);have Xc:=hnb _ _ _ (XN.out.alloc _) (by decide);have bd9:=hnb _ _ _ (XO.out.alloc _) (by decide);have XQ:kF w9 r v bs p:=by
          refine ⟨hnb _ _ _ (Dm.out.1.alloc _) (by decide),(Dm.out.2.alloc _).kept qy ?_⟩;rcases hq:v.ownBlock with _|j
          ·exact .inl rfl
          ·exact .inr (fun e=>Es BL.out (Dm.out.2.alloc (.cells #[.int .i64 x.sn,.bool x.part,.int .i64 x.fr,.int .i64 x.lt] 197)) (by decide) e.symm hq)
         have Td:Below w.heap.size w w9:=(XM.out.alloc XM.out.size _).grown qy (by have:=HZS.out;simp;omega) (fun j hj=>(BL.out.lt j hj).1);have p1:=J4.cell 1;have f1:=J4.frozen 1;have ow9:=gu (i:=1) uL J4 (by decide) (.slice A9 1 c9);have FM:=J4.av 1 (.slice A9 1 c9);have P9:=Xc.far (p:=⟨w.heap.size,1,none⟩) (show w.heap.size+1≠w.heap.size by omega) (.slice A9 1 c9);have Qa:=bd9.far (p:=⟨w.heap.size,1,none⟩) (show d≠w.heap.size by omega) (.slice A9 1 c9);have Qb:kF (w9.setCell ⟨w.heap.size,1,none⟩ (.slice A9 1 c9)) r v bs p:=⟨XQ.1.far (p:=⟨w.heap.size,1,none⟩) (show r≠w.heap.size by omega) _,aL (i:=1) XQ.2 J4 (by decide) _⟩;have Qc:=Td.setCell (p:=⟨w.heap.size,1,none⟩) (aN) (.slice A9 1 c9);have q1:=FM.cell 1;simp only[List.getElem?_toArray] at p1;simp at FM q1;have HF:Hid (XF w bs r d v x1 R2 (acc++ [x]) m' p (.slice A9 1 c9) (w9.setCell ⟨w.heap.size,1,none⟩ (.slice A9 1 c9))):=ah ⟨by omega,by rw[P8,show 513-1=f by have:=HFF.out;omega];exact HGF.out,Qb,E7.out,by simpa using FM,P9,Qa,ow9,Qc⟩;have HQ1:=ah q1;clear BM uL qy hnb J4 Xc bd9 XQ Td ow9 FM P9 Qa Qb Qc y0 y1 y2 y3 z1 q1;go_wp2_with fail
         go_roundw
         case rel=>exact ⟨_,_,_,_,rfl,HF.out⟩
         case measure=>
          have hm0:=HI.out.bp.cell 1;simp only[List.getElem?_toArray] at hm0;rw[HQ1.out,hm0];simp[xB];omega
        ·obtain ⟨k,hl0⟩:∃k,acc.length=k+1:=⟨acc.length-1,by omega⟩
         obtain ⟨m,hm⟩:∃m,acc[k]? =some m:=⟨_,List.getElem?_eq_getElem (by omega)⟩
         have hgl:acc.getLast? =some m:=by rw[List.getLast?_eq_getElem?,hl0];exact hm
         obtain ⟨A6,c6,hV6,abr,_⟩:=bX.dH (l:=acc) P5.out;cases hV6;obtain ⟨ad,hAd,Bh,hcl⟩:=abr.at_ (by omega);subst hAd;obtain ⟨n0,n1,n2,n3⟩:=hcl k m hm;rw[hl0] at sV P5 HS ⊢;have iY:∀W,Below w6.heap.size w6 W→W.cell? ⟨w.heap.size,0,none⟩=some (.int .i64 x1)∧W.cell? ⟨w.heap.size,1,none⟩=some (.slice (some ad) (k+1) cv)∧W.cell? ⟨wr.heap.size,0,none⟩=some (.int .i64 x.sn)∧W.cell? ⟨wr.heap.size,1,none⟩=some (.bool x.part)∧W.cell? ⟨wr.heap.size,2,none⟩=some (.int .i64 x.fr)∧W.cell? ⟨wr.heap.size,3,none⟩=some (.int .i64 x.lt)∧W.cell? (ad.add (k*4))=some (.int .i64 m.sn)∧W.cell? ⟨(ad.add (k*4)).block,(ad.add (k*4)).off+1,none⟩=some (.bool m.part)∧W.cell? ⟨(ad.add (k*4)).block,(ad.add (k*4)).off+2,none⟩=some (.int .i64 m.fr)∧W.cell? ⟨(ad.add (k*4)).block,(ad.add (k*4)).off+3,none⟩=some (.int .i64 m.lt):=fun W hW=>by
          have b0:=sV.out.below hW sV.out.lt;have b1:=Bn.out.below hW Bn.out.lt;obtain ⟨y0,y1,y2,y3⟩:=b1.iX;have hbk:(ad.add (k*4)).block<w6.heap.size:=by rw[block_add];exact Bh
          exact ⟨b0.cell 0,b0.cell 1,y0,y1,y2,y3,(hW.cell hbk).trans n0,(hW.cell (p:=⟨(ad.add (k*4)).block,_,none⟩) hbk).trans n1,(hW.cell (p:=⟨(ad.add (k*4)).block,_,none⟩) hbk).trans n2,(hW.cell (p:=⟨(ad.add (k*4)).block,_,none⟩) hbk).trans n3⟩
         have hfo:=fun (W:World)=>vW W (x1:Int) m x
         unfold lq at hfo;clear BK HS;have HS:=ah iY;have BK:=ah (fun (W:World) (hb:Below w6.drew.heap.size w6.drew W)=>iY W (P6.out W hb));have HBC:=ah (fun (W W':World) (hb:Below w6.drew.heap.size w6.drew W) (hb2:Below W.heap.size W W')=>(P6.out W hb).trans (hb2.mono (P6.out W hb).size));have TS:=ah (fun (W W':World) (hb:Below w6.drew.heap.size w6.drew W) (hb2:Below W.heap.size W W')=>iY W' ((P6.out W hb).trans (hb2.mono (P6.out W hb).size)));have RS:=ah hfo;have HM:=ah hgl;have hne0:((k:Int)+1==0)=false:=by simp;omega
         have abt:decide ((k:Int)+1<512)=true:=decide_eq_true (by omega);have abu:decide (k+1<512)=true:=decide_eq_true (by omega);have hwk:IntKind.i64.wrap (k:Int)=(k:Int):=IntWalk.i64_in _ (by omega);have hk0:(0:Int)≤k:=by omega
         have hk1:(k:Int)<k+1:=by omega
         clear iY hfo hgl hm abr hcl n0 n1 n2 n3 hlp abn;cases hF:mO (x1:Int) m x with
         |false=>
          rw[hF] at RS;have xI:R= .inl 9:=by
           have h1:=HG1.out;rw[if_neg (by unfold rC;rw[HM.out];dsimp only;rw[hF];simp)] at h1;have h2:=HR3.out;rw[←h1] at h2;exact h2.symm
          have D7:=ah xI;clear xI hF;refine Code.wp_mono (Q:=dw (.pointer (some ⟨w.heap.size,0,none⟩)) (.pointer (some ⟨w.heap.size+1,0,none⟩)) [{target:= .fn (.func 133) #[.pointer (some ⟨w.heap.size,0,none⟩),.pointer (some ⟨w.heap.size+1,0,none⟩)],args:= #[]}] (fun e W=>e= .panic [{v:= .iface 53 (.int .i64 9),recovered:=false}]∧Below w6.heap.size w6 W)) (fun e a W h=> ?_) ?_
          ·cases e with
           |panic c8=>
            obtain ⟨h2,h3,hd,he,hb⟩:=h;cases he;obtain ⟨T,D⟩:=a;dsimp only at h2 h3 hd;subst hd;exact jK w W R 9 T _ _ _ h2 h3 (sV.out.below hb sV.out.lt) (Dt.out.below hb Dt.out.lt) (Kv.out.trans (hb.mono Kv.out.size)) D7.out
           |_=>exact (h:False).elim
          refine bJ (fun w'=>w'.cell? ⟨w.heap.size,0,none⟩=some (.int .i64 x1)∧w'.cell? ⟨w.heap.size,1,none⟩=some (.slice (some ad) (k+1) cv)∧w'.cell? ⟨wr.heap.size,0,none⟩=some (.int .i64 x.sn)∧w'.cell? ⟨wr.heap.size,1,none⟩=some (.bool x.part)∧w'.cell? ⟨wr.heap.size,2,none⟩=some (.int .i64 x.fr)∧w'.cell? ⟨wr.heap.size,3,none⟩=some (.int .i64 x.lt)∧w'.cell? (ad.add (k*4))=some (.int .i64 m.sn)∧w'.cell? ⟨(ad.add (k*4)).block,(ad.add (k*4)).off+1,none⟩=some (.bool m.part)∧w'.cell? ⟨(ad.add (k*4)).block,(ad.add (k*4)).off+2,none⟩=some (.int .i64 m.fr)∧w'.cell? ⟨(ad.add (k*4)).block,(ad.add (k*4)).off+3,none⟩=some (.int .i64 m.lt)) [] (by kernel_rfl) ?_;have hHeld:=HS.out _ ZA.out;refine aT 0 rfl hHeld ?_ (hQ:=dw.put (by decide) (by decide))
          try simp only[Act.put,aD,aF,ay,aA,aB]
          refine aT 1 rfl hHeld ?_ (hQ:=dw.put (by decide) (by decide))
          try simp only[Act.put,aD,aF,aG,ay,aA,aB]
          refine aT 2 rfl hHeld ?_ (hQ:=dw.put (by decide) (by decide))
          try simp only[Act.put,aD,aF,aG,ay,aA,aB]
          refine aT 3 rfl hHeld ?_ (hQ:=dw.put (by decide) (by decide))
          try simp only[Act.put,aD,aF,aG,ay,aA,aB]
          refine iw [] 4 ?_ rfl (Or.inl ⟨by rfl,?_⟩) hHeld ?_ (hQ:=dw.put (by decide) (by decide));rotate_left
          ·intro w' hSw;obtain ⟨hS1,hS2,gK,ku,hS5,oW,tN,uY,uZ,iY⟩:=hSw;go_simp
           try with_reducible rfl
          try simp only[Act.put,aD,aF,aG,ay,aA,aB]
          refine iw [] 5 ?_ rfl (Or.inl ⟨by rfl,?_⟩) hHeld ?_ (hQ:=dw.put (by decide) (by decide));rotate_left
          ·intro w' hSw;obtain ⟨hS1,hS2,gK,ku,hS5,oW,tN,uY,uZ,iY⟩:=hSw;go_simp
           try with_reducible rfl
          try simp only[Act.put,aD,aF,aG,ay,aA,aB]
          refine aR (i:=6) rfl (by kernel_rfl) (by rfl) (fun K hK=> ?_);go_simp;refine (um.out _).mono ?_;rintro e6 XL ⟨rfl,hb6⟩;refine hK _ _ (BK.out _ hb6) ?_;have hHeld:=(BK.out _ hb6);clear hK K
          try simp only[Act.put,aD,aF,aG,ay,aA,aB]
          refine aT 7 rfl hHeld ?_ (hQ:=dw.put (by decide) (by decide))
          try simp only[Act.put,aD,aF,aG,ay,aA,aB]
          refine aT 8 rfl hHeld ?_ (hQ:=dw.put (by decide) (by decide))
          try simp only[Act.put,aD,aF,aG,ay,aA,aB]
          refine aT 9 rfl hHeld ?_ (hQ:=dw.put (by decide) (by decide))
          try simp only[Act.put,aD,aF,aG,ay,aA,aB]
          refine aT 10 rfl hHeld ?_ (hQ:=dw.put (by decide) (by decide))
          try simp only[Act.put,aD,aF,aG,ay,aA,aB]
          refine aT 11 rfl hHeld ?_ (hQ:=dw.put (by decide) (by decide))
          try simp only[Act.put,aD,aF,aG,ay,aA,aB]
          refine aT 12 rfl hHeld ?_ (hQ:=dw.put (by decide) (by decide))
          try simp only[Act.put,aD,aF,aG,ay,aA,aB]
          refine iw [] 13 ?_ rfl (Or.inl ⟨by rfl,?_⟩) hHeld ?_ (hQ:=dw.put (by decide) (by decide));rotate_left
          ·intro w' hSw;obtain ⟨hS1,hS2,gK,ku,hS5,oW,tN,uY,uZ,iY⟩:=hSw;go_simp
           try with_reducible rfl
          try simp only[Act.put,aD,aF,aG,ay,aA,aB]
          refine aT 14 rfl hHeld ?_ (hQ:=dw.put (by decide) (by decide))
          try simp only[Act.put,aD,aF,aG,ay,aA,aB]
          refine iw [] 15 ?_ rfl (Or.inl ⟨by rfl,?_⟩) hHeld ?_ (hQ:=dw.put (by decide) (by decide));rotate_left
          ·intro w' hSw;obtain ⟨hS1,hS2,gK,ku,hS5,oW,tN,uY,uZ,iY⟩:=hSw;go_simp
           try with_reducible rfl
          try simp only[Act.put,aD,aF,aG,ay,aA,aB]
          refine aT 16 rfl hHeld ?_ (hQ:=dw.put (by decide) (by decide))
          try simp only[Act.put,aD,aF,aG,ay,aA,aB]
          refine aT 17 rfl hHeld ?_ (hQ:=dw.put (by decide) (by decide))
          try simp only[Act.put,aD,aF,aG,ay,aA,aB]
          refine aT 18 rfl hHeld ?_ (hQ:=dw.put (by decide) (by decide))
          try simp only[Act.put,aD,aF,aG,ay,aA,aB]
          refine iw [] 19 ?_ rfl (Or.inl ⟨by rfl,?_⟩) hHeld ?_ (hQ:=dw.put (by decide) (by decide));rotate_left
          ·intro w' hSw;obtain ⟨hS1,hS2,gK,ku,hS5,oW,tN,uY,uZ,iY⟩:=hSw;go_simp
           try with_reducible rfl
          try simp only[Act.put,aD,aF,aG,ay,aA,aB]
          refine iw [] 20 ?_ rfl (Or.inl ⟨by rfl,?_⟩) hHeld ?_ (hQ:=dw.put (by decide) (by decide));rotate_left
          ·intro w' hSw;obtain ⟨hS1,hS2,gK,ku,hS5,oW,tN,uY,uZ,iY⟩:=hSw;go_simp
           try with_reducible rfl
          try simp only[Act.put,aD,aF,aG,ay,aA,aB]
          refine aR (i:=21) rfl (by kernel_rfl) (by rfl) (fun K hK=> ?_);go_simp;refine (RS.out _).mono ?_;rintro e7 w7b ⟨rfl,oZ⟩;refine hK _ _ (TS.out _ _ hb6 oZ) ?_;have hHeld:=(TS.out _ _ hb6 oZ);clear hK K
          try simp only[Act.put,aD,aF,aG,ay,aA,aB]
          refine aT 22 rfl hHeld ?_ (hQ:=dw.put (by decide) (by decide))
          try simp only[Act.put,aD,aF,aG,ay,aA,aB]
          refine aT 23 rfl hHeld ?_ (hQ:=dw.put (by decide) (by decide))
          try simp only[Act.put,aD,aF,aG,ay,aA,aB]
          refine aR (i:=24) rfl (by kernel_rfl) (by rfl) (fun K hK=> ?_);go_simp;refine (jR 9 _).mono ?_;rintro e8 w8 ⟨rfl,rfl⟩;exact ⟨rfl,rfl,rfl,rfl,HBC.out _ _ hb6 oZ⟩
         |true=>
          rw[hF] at RS;have hg2:mW bs x1 f m' p (acc++ [x])=R2:=by
           have h1:=HG1.out;rw[if_pos (by
            unfold rC;rw[HA.out,HM.out];dsimp only;rw[hF,decide_eq_true Kw];rfl)] at h1
           exact h1
          have HGF:=ah hg2;clear hg2 hF;refine wp_region_noPanic ?_;refine bJ (fun w'=>w'.cell? ⟨w.heap.size,0,none⟩=some (.int .i64 x1)∧w'.cell? ⟨w.heap.size,1,none⟩=some (.slice (some ad) (k+1) cv)∧w'.cell? ⟨wr.heap.size,0,none⟩=some (.int .i64 x.sn)∧w'.cell? ⟨wr.heap.size,1,none⟩=some (.bool x.part)∧w'.cell? ⟨wr.heap.size,2,none⟩=some (.int .i64 x.fr)∧w'.cell? ⟨wr.heap.size,3,none⟩=some (.int .i64 x.lt)∧w'.cell? (ad.add (k*4))=some (.int .i64 m.sn)∧w'.cell? ⟨(ad.add (k*4)).block,(ad.add (k*4)).off+1,none⟩=some (.bool m.part)∧w'.cell? ⟨(ad.add (k*4)).block,(ad.add (k*4)).off+2,none⟩=some (.int .i64 m.fr)∧w'.cell? ⟨(ad.add (k*4)).block,(ad.add (k*4)).off+3,none⟩=some (.int .i64 m.lt)) [] (by kernel_rfl) ?_;have hHeld:=HS.out _ ZA.out;refine aT 0 rfl hHeld ?_
          try simp only[Act.put,aD,aF,ay,aA,aB]
          refine aT 1 rfl hHeld ?_
          try simp only[Act.put,aD,aF,aG,ay,aA,aB]
          refine aT 2 rfl hHeld ?_
          try simp only[Act.put,aD,aF,aG,ay,aA,aB]
          refine aT 3 rfl hHeld ?_
          try simp only[Act.put,aD,aF,aG,ay,aA,aB]
          refine iw [] 4 ?_ rfl (Or.inl ⟨by rfl,?_⟩) hHeld ?_;rotate_left
          ·intro w' hSw;obtain ⟨hS1,hS2,gK,ku,hS5,oW,tN,uY,uZ,iY⟩:=hSw;go_simp
           try with_reducible rfl
          try simp only[Act.put,aD,aF,aG,ay,aA,aB]
          refine iw [] 5 ?_ rfl (Or.inl ⟨by rfl,?_⟩) hHeld ?_;rotate_left
          ·intro w' hSw;obtain ⟨hS1,hS2,gK,ku,hS5,oW,tN,uY,uZ,iY⟩:=hSw;go_simp
           try with_reducible rfl
          try simp only[Act.put,aD,aF,aG,ay,aA,aB]
          refine aR (i:=6) rfl (by kernel_rfl) (by rfl) (fun K hK=> ?_);go_simp;refine (um.out _).mono ?_;rintro e6 XL ⟨rfl,hb6⟩;refine hK _ _ (BK.out _ hb6) ?_;have hHeld:=(BK.out _ hb6);clear hK K
          try simp only[Act.put,aD,aF,aG,ay,aA,aB]
          refine aT 7 rfl hHeld ?_
          try simp only[Act.put,aD,aF,aG,ay,aA,aB]
          refine aT 8 rfl hHeld ?_
          try simp only[Act.put,aD,aF,aG,ay,aA,aB]
          refine aT 9 rfl hHeld ?_
          try simp only[Act.put,aD,aF,aG,ay,aA,aB]
          refine aT 10 rfl hHeld ?_
          try simp only[Act.put,aD,aF,aG,ay,aA,aB]
          refine aT 11 rfl hHeld ?_
          try simp only[Act.put,aD,aF,aG,ay,aA,aB]
          refine aT 12 rfl hHeld ?_
          try simp only[Act.put,aD,aF,aG,ay,aA,aB]
          refine iw [] 13 ?_ rfl (Or.inl ⟨by rfl,?_⟩) hHeld ?_;rotate_left
          ·intro w' hSw;obtain ⟨hS1,hS2,gK,ku,hS5,oW,tN,uY,uZ,iY⟩:=hSw;go_simp
           try with_reducible rfl
          try simp only[Act.put,aD,aF,aG,ay,aA,aB]
          refine aT 14 rfl hHeld ?_
          try simp only[Act.put,aD,aF,aG,ay,aA,aB]
          refine iw [] 15 ?_ rfl (Or.inl ⟨by rfl,?_⟩) hHeld ?_;rotate_left
          ·intro w' hSw;obtain ⟨hS1,hS2,gK,ku,hS5,oW,tN,uY,uZ,iY⟩:=hSw;go_simp
           try with_reducible rfl
          try simp only[Act.put,aD,aF,aG,ay,aA,aB]
          refine aT 16 rfl hHeld ?_
          try simp only[Act.put,aD,aF,aG,ay,aA,aB]
          refine aT 17 rfl hHeld ?_
          try simp only[Act.put,aD,aF,aG,ay,aA,aB]
          refine aT 18 rfl hHeld ?_
          try simp only[Act.put,aD,aF,aG,ay,aA,aB]
          refine iw [] 19 ?_ rfl (Or.inl ⟨by rfl,?_⟩) hHeld ?_;rotate_left
          ·intro w' hSw;obtain ⟨hS1,hS2,gK,ku,hS5,oW,tN,uY,uZ,iY⟩:=hSw;go_simp
           try with_reducible rfl
          try simp only[Act.put,aD,aF,aG,ay,aA,aB]
          refine iw [] 20 ?_ rfl (Or.inl ⟨by rfl,?_⟩) hHeld ?_;rotate_left
          ·intro w' hSw;obtain ⟨hS1,hS2,gK,ku,hS5,oW,tN,uY,uZ,iY⟩:=hSw;go_simp
           try with_reducible rfl
          try simp only[Act.put,aD,aF,aG,ay,aA,aB]
          refine aR (i:=21) rfl (by kernel_rfl) (by rfl) (fun K hK=> ?_);go_simp;refine (RS.out _).mono ?_;rintro e7 w7b ⟨rfl,oZ⟩;refine hK _ _ (TS.out _ _ hb6 oZ) ?_;have hHeld:=(TS.out _ _ hb6 oZ);clear hK K
          try simp only[Act.put,aD,aF,aG,ay,aA,aB]
          refine aT 22 rfl hHeld ?_
          try simp only[Act.put,aD,aF,aG,ay,aA,aB]
          refine aT 23 rfl hHeld ?_
          try simp only[Act.put,aD,aF,aG,ay,aA,aB]
          refine aR (i:=24) rfl (by kernel_rfl) (by rfl) (fun K hK=> ?_);go_simp;refine (mX 9 _).mono ?_;rintro e8 w8 ⟨rfl,rfl⟩;refine hK _ _ hHeld ?_;have hHeld:=hHeld;clear hK K
          try simp only[Act.put,aD,aF,aG,ay,aA,aB]
          have CV:=ah (HBC.out _ _ hb6 oZ);refine bI (by kernel_rfl) ?_ _;refine NoPanic.normal ?_;have XM:=ah (Kv.out.trans (CV.out.mono Kv.out.size));have P7:=ah (sV.out.below CV.out sV.out.lt);have XN:=ah (Dt.out.below CV.out Dt.out.lt);have XO:=ah (TR.out.below CV.out TR.out.lt);have Dm:Hid (kF w7b r v bs p):=ah ⟨M8.out.1.below CV.out M8.out.1.lt,own_below M8.out.2 CV.out (aN)⟩;have BL:=ah ((own_below P5.out CV.out (aN)).alloc (.cells (Em x) 197));have XP:=ah (FJ w7b x);obtain ⟨y0,y1,y2,y3⟩:=(Bn.out.below CV.out Bn.out.lt).iX;have z1:=P7.out.cell 1;simp only[List.getElem?_toArray] at z1;have HZS:=ah XM.out.size;clear hHeld CV;simp only[Em] at BL XP;go_wp2_with (at_builtin;refine gZ _ rfl _ _ 131 rfl w.heap.size 197 i0 (.agg #[.int .i64 0,.bool false,.int .i64 0,.int .i64 0]) 32 uK hi hz0 hz1 hz2 rfl (.slice (some ad) (k+1) cv) (k+1) (oM acc) rfl BL.out (some ⟨w7b.heap.size,0,none⟩) 1 1 [x] rfl XP.out ?c3 ?c4 ?c5 ?_)
          case c3=>unfold maxLen;omega
          case c4=>omega
          case c5=>have:=HZS.out;simp;omega
          intro v9 w9 BM qy;have P8:(acc++ [x]).length=k+1+1:=by rw[List.length_append];simp[hl0]
          rw[←wG] at BM;have uL:w9.ownsRow w.heap.size 197 4 v9 (acc++ [x]).length (oM (acc++ [x])):=by rw[P8];exact BM
          obtain ⟨A9,c9,Od,_,_⟩:=bX.dH (l:=acc++ [x]) uL;rw[P8] at Od;subst Od;have hnb:∀(g:Nat) (t:TypeId) (cs:Array Value),au (w7b.alloc (.cells #[.int .i64 x.sn,.bool x.part,.int .i64 x.fr,.int .i64 x.lt] 197)) g t cs→197≠t→au w9 g t cs:=fun g t cs hb ht=>hb.grown qy (fun e=>ig BL.out hb ht e.symm)
          have J4:=hnb _ _ _ (P7.out.alloc _) (by decide);have Xc:=hnb _ _ _ (XN.out.alloc _) (by decide);have bd9:=hnb _ _ _ (XO.out.alloc _) (by decide);have XQ:kF w9 r v bs p:=by
           refine ⟨hnb _ _ _ (Dm.out.1.alloc _) (by decide),(Dm.out.2.alloc _).kept qy ?_⟩;rcases hq:v.ownBlock with _|j
           ·exact .inl rfl
           ·exact .inr (fun e=>Es BL.out (Dm.out.2.alloc (.cells #[.int .i64 x.sn,.bool x.part,.int .i64 x.fr,.int .i64 x.lt] 197)) (by decide) e.symm hq)
          have Td:Below w.heap.size w w9:=(XM.out.alloc XM.out.size _).grown qy (by have:=HZS.out;simp;omega) (fun j hj=>(BL.out.lt j hj).1);have p1:=J4.cell 1;have f1:=J4.frozen 1;have ow9:=gu (i:=1) uL J4 (by decide) (.slice A9 (k+1+1) c9);have FM:=J4.av 1 (.slice A9 (k+1+1) c9);have P9:=Xc.far (p:=⟨w.heap.size,1,none⟩) (show w.heap.size+1≠w.heap.size by omega) (.slice A9 (k+1+1) c9);have Qa:=bd9.far (p:=⟨w.heap.size,1,none⟩) (show d≠w.heap.size by omega) (.slice A9 (k+1+1) c9);have Qb:kF (w9.setCell ⟨w.heap.size,1,none⟩ (.slice A9 (k+1+1) c9)) r v bs p:=⟨XQ.1.far (p:=⟨w.heap.size,1,none⟩) (show r≠w.heap.size by omega) _,aL (i:=1) XQ.2 J4 (by decide) _⟩;have Qc:=Td.setCell (p:=⟨w.heap.size,1,none⟩) (aN) (.slice A9 (k+1+1) c9);have q1:=FM.cell 1;simp only[List.getElem?_toArray] at p1;simp at FM q1;have HF:Hid (XF w bs r d v x1 R2 (acc++ [x]) m' p (.slice A9 (k+1+1) c9) (w9.setCell ⟨w.heap.size,1,none⟩ (.slice A9 (k+1+1) c9))):=ah ⟨by omega,by rw[P8,show 513-(k+1+1)=f by have:=HFF.out;omega];exact HGF.out,Qb,E7.out,by simpa using FM,P9,Qa,ow9,Qc⟩;have HQ1:=ah q1;clear BM uL qy hnb J4 Xc bd9 XQ Td ow9 FM P9 Qa Qb Qc y0 y1 y2 y3 z1 q1;go_wp2_with fail
          go_roundw
          case rel=>exact ⟨_,_,_,_,rfl,HF.out⟩
          case measure=>
           clear hne0 abt abu hwk;have hm0:=HI.out.bp.cell 1;simp only[List.getElem?_toArray] at hm0;rw[HQ1.out,hm0];simp[xB];omega
      ·have abn:decide ((acc.length:Int)<512)=false:=decide_eq_false (by omega);have xI:R= .inl 9:=by
        have h1:=HG1.out;rw[if_neg (by unfold rC;rw[decide_eq_false Kw];simp)] at h1;have h2:=HR3.out;rw[←h1] at h2;exact h2.symm
       have D7:=ah xI;clear xI;refine Code.wp_mono (Q:=dw (.pointer (some ⟨w.heap.size,0,none⟩)) (.pointer (some ⟨w.heap.size+1,0,none⟩)) [{target:= .fn (.func 133) #[.pointer (some ⟨w.heap.size,0,none⟩),.pointer (some ⟨w.heap.size+1,0,none⟩)],args:= #[]}] (fun e W=>e= .panic [{v:= .iface 53 (.int .i64 9),recovered:=false}]∧Below w6.heap.size w6 W)) (fun e a W h=> ?_) ?_
       ·cases e with
        |panic c8=>
         obtain ⟨h2,h3,hd,he,hb⟩:=h;cases he;obtain ⟨T,D⟩:=a;dsimp only at h2 h3 hd;subst hd;exact jK w W R 9 T _ _ _ h2 h3 (sV.out.below hb sV.out.lt) (Dt.out.below hb Dt.out.lt) (Kv.out.trans (hb.mono Kv.out.size)) D7.out
        |_=>exact (h:False).elim
       refine bJ (fun w'=>w'.cell? ⟨w.heap.size,0,none⟩=some (.int .i64 x1)∧w'.cell? ⟨w.heap.size,1,none⟩=some (.slice Av acc.length cv)∧w'.cell? ⟨wr.heap.size,0,none⟩=some (.int .i64 x.sn)∧w'.cell? ⟨wr.heap.size,1,none⟩=some (.bool x.part)∧w'.cell? ⟨wr.heap.size,2,none⟩=some (.int .i64 x.fr)∧w'.cell? ⟨wr.heap.size,3,none⟩=some (.int .i64 x.lt)) [] (by kernel_rfl) ?_;have hHeld:=HS.out _ ZA.out;refine aT 0 rfl hHeld ?_ (hQ:=dw.put (by decide) (by decide))
       try simp only[Act.put,aD,aF,ay,aA,aB]
       refine aT 1 rfl hHeld ?_ (hQ:=dw.put (by decide) (by decide))
       try simp only[Act.put,aD,aF,aG,ay,aA,aB]
       refine aT 2 rfl hHeld ?_ (hQ:=dw.put (by decide) (by decide))
       try simp only[Act.put,aD,aF,aG,ay,aA,aB]
       refine kz 3 rfl hHeld ?_ (hQ:=dw.put (by decide) (by decide))
       try simp only[Act.put,aD,aF,aG,ay,aA,aB]
       refine kz 4 rfl hHeld ?_ (hQ:=dw.put (by decide) (by decide))
       try simp only[Act.put,aD,aF,aG,ay,aA,aB]
       refine kz 5 rfl hHeld ?_ (hQ:=dw.put (by decide) (by decide))
       try simp only[Act.put,aD,aF,aG,ay,aA,aB]
       refine kz 6 rfl hHeld ?_ (hQ:=dw.put (by decide) (by decide))
       try simp only[Act.put,aD,aF,aG,ay,aA,aB]
       refine aT 7 rfl hHeld ?_ (hQ:=dw.put (by decide) (by decide))
       try simp only[Act.put,aD,aF,aG,ay,aA,aB]
       refine aT 8 rfl hHeld ?_ (hQ:=dw.put (by decide) (by decide))
       try simp only[Act.put,aD,aF,aG,ay,aA,aB]
       refine kz 9 rfl hHeld ?_ (hQ:=dw.put (by decide) (by decide))
       try simp only[Act.put,aD,aF,aG,ay,aA,aB]
       refine kz 10 rfl hHeld ?_ (hQ:=dw.put (by decide) (by decide))
       try simp only[Act.put,aD,aF,aG,ay,aA,aB]
       refine kz 11 rfl hHeld ?_ (hQ:=dw.put (by decide) (by decide))
       try simp only[Act.put,aD,aF,aG,ay,aA,aB]
       refine kz 12 rfl hHeld ?_ (hQ:=dw.put (by decide) (by decide))
       try simp only[Act.put,aD,aF,aG,ay,aA,aB]
       refine kz 13 rfl hHeld ?_ (hQ:=dw.put (by decide) (by decide))
       try simp only[Act.put,aD,aF,aG,ay,aA,aB]
       refine kz 14 rfl hHeld ?_ (hQ:=dw.put (by decide) (by decide))
       try simp only[Act.put,aD,aF,aG,ay,aA,aB]
       refine kz 15 rfl hHeld ?_ (hQ:=dw.put (by decide) (by decide))
       try simp only[Act.put,aD,aF,aG,ay,aA,aB]
       refine kz 16 rfl hHeld ?_ (hQ:=dw.put (by decide) (by decide))
       try simp only[Act.put,aD,aF,aG,ay,aA,aB]
       refine kz 17 rfl hHeld ?_ (hQ:=dw.put (by decide) (by decide))
       try simp only[Act.put,aD,aF,aG,ay,aA,aB]
       refine kz 18 rfl hHeld ?_ (hQ:=dw.put (by decide) (by decide))
       try simp only[Act.put,aD,aF,aG,ay,aA,aB]
       refine kz 19 rfl hHeld ?_ (hQ:=dw.put (by decide) (by decide))
       try simp only[Act.put,aD,aF,aG,ay,aA,aB]
       refine kz 20 rfl hHeld ?_ (hQ:=dw.put (by decide) (by decide))
       try simp only[Act.put,aD,aF,aG,ay,aA,aB]
       refine kz 21 rfl hHeld ?_ (hQ:=dw.put (by decide) (by decide))
       try simp only[Act.put,aD,aF,aG,ay,aA,aB]
       refine kz 22 rfl hHeld ?_ (hQ:=dw.put (by decide) (by decide))
       try simp only[Act.put,aD,aF,aG,ay,aA,aB]
       refine aT 23 rfl hHeld ?_ (hQ:=dw.put (by decide) (by decide))
       try simp only[Act.put,aD,aF,aG,ay,aA,aB]
       refine aR (i:=24) rfl (by kernel_rfl) (by rfl) (fun K hK=> ?_);go_simp;refine (jR 9 _).mono ?_;rintro e8 w8 ⟨rfl,rfl⟩;exact ⟨rfl,rfl,rfl,rfl,ZA.out⟩
    |false=>
     have GZ:R2= .inr (acc,q):=by
      rw[←hI.go_];cases 513-acc.length<;>rfl
     have Lx:=HR3.out;rw[GZ] at Lx;dsimp only at Lx;have hen:=Pv r v bs q wr hI.rd hI.ql (by omega);by_cases he:Bl bs q=true
     ·rw[if_pos he] at Lx hen;have Vk:=ah Lx;have Kl:=ah hen;clear hI Lx hen he GZ;go_wp2_with fail;refine Kl.out.mono ?_;rintro e5 w5 ⟨rfl,hb5⟩;have mR:=HI.out.bl.trans (hb5.mono HI.out.bl.size);have Ba:=HI.out.bp.below hb5 HI.out.bp.lt;have vQ:=HI.out.be.below hb5 HI.out.be.lt;have ow5:=own_below HI.out.ow hb5 (aN);have p0:=Ba.cell 0;have p1:=Ba.cell 1;have k4:=vQ.cell 0;have g0:=Ba.frozen 0;have g1:=Ba.frozen 1;have g4:=vQ.frozen 0;simp at p0 p1 k4;have JA:=ah mR;have XR:=ah Ba;have zu:=ah vQ;have agk:=ah ow5;clear hb5 mR Ba vQ ow5;go_wp2_with (go_at_call 137;((with_reducible refine (mX _ _).mono ?_);rintro e6 w6 ⟨rfl,rfl⟩));refine leaves_cons (f:=133) (args:= #[.pointer (some ⟨w.heap.size,0,none⟩),.pointer (some ⟨w.heap.size+1,0,none⟩)]) (by simp) (by simp[go_sem]) ?_;refine (Kb _ _ _).mono ?_;rintro e9 u9 w9 ⟨rfl,rfl,rfl⟩;have abw:=((XR.out.av 0 (.int .i64 x1)).av 1 (.slice Av acc.length cv)).far (p:=⟨w.heap.size+1,0,none⟩) (show w.heap.size≠w.heap.size+1 by omega) (.int .i64 0);have TT:=((zu.out.far (p:=⟨w.heap.size,0,none⟩) (show w.heap.size+1≠w.heap.size by omega) (.int .i64 x1)).far (p:=⟨w.heap.size,1,none⟩) (show w.heap.size+1≠w.heap.size by omega) (.slice Av acc.length cv)).av 0 (.int .i64 0)
      have Td:=((JA.out.setCell (p:=⟨w.heap.size,0,none⟩) (aN) (.int .i64 x1)).setCell (p:=⟨w.heap.size,1,none⟩) (aN) (.slice Av acc.length cv)).setCell (p:=⟨w.heap.size+1,0,none⟩) (show w.heap.size≤w.heap.size+1 by omega) (.int .i64 0);have agl:=gu (i:=0) (gu (i:=1) (gu (i:=0) agk.out XR.out (by decide) (.int .i64 x1)) (XR.out.av 0 (.int .i64 x1)) (by decide) (.slice Av acc.length cv)) (zu.out.far (p:=⟨w.heap.size,0,none⟩) (show w.heap.size+1≠w.heap.size by omega) (.int .i64 x1) |>.far (p:=⟨w.heap.size,1,none⟩) (show w.heap.size+1≠w.heap.size by omega) (.slice Av acc.length cv)) (by decide) (.int .i64 0);obtain ⟨A9,c9,hV9,hnk,hnb⟩:=bX.dH (l:=acc) agl;cases hV9;have q0:=abw.cell 0;have q1:=abw.cell 1;have q4:=TT.cell 0;simp at q0 q1 q4;refine ⟨.tuple #[.agg #[.int .i64 x1,.slice Av acc.length cv],.int .i64 0],by simp[results,Tryz.results92,go_sem,q0,q1,q4],Td,.inr ⟨x1,acc,Av,cv,Vk.out.symm,rfl,hnk,fun ad e=>(hnb ad e).1⟩⟩
     ·rw[if_neg he] at Lx hen;have Vk:=ah Lx.symm;have Kl:=ah hen;clear hI Lx hen he GZ;go_wp2_with fail;refine Kl.out.mono ?_;rintro e5 w5 ⟨rfl,hb5⟩;have mR:=HI.out.bl.trans (hb5.mono HI.out.bl.size);have Ba:=HI.out.bp.below hb5 HI.out.bp.lt;have vQ:=HI.out.be.below hb5 HI.out.be.lt;clear hb5;go_wp2_with (go_at_call 137;((with_reducible refine (jR _ _).mono ?_);rintro e6 w6 ⟨rfl,rfl⟩));exact jK w _ R 9 _ _ _ _ rfl rfl Ba vQ mR Vk.out
  ·rw[if_pos h0] at qJ;have HR1:=ah qJ.symm;have hx0:((x0:Int)==0)=false:=by simp;omega
   clear qJ h0;go_wp2_with (first|(go_at_call 135;((with_reducible refine (vX _ _ _ _).mono ?_);rintro e4 w4 ⟨rfl,rfl⟩))|(go_at_call 137;((with_reducible refine (jR _ _).mono ?_);rintro e4 w4 ⟨rfl,rfl⟩)));exact jK w _ R 9 _ _ _ _ rfl rfl xJ pX hB3 HR1.out
end
end Go.Proofs.YtbhiklnljiehiaaGreat
