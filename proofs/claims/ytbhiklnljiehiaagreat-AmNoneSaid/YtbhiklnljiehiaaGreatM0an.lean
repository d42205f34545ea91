/- status.Decode. -/
import Derived.Test.YtbhiklnljiehiaaGreatM0ag
import Derived.Test.YtbhiklnljiehiaaGreatM0am
import Derived.Deep.RegionHeld3
import Derived.BigRegion
namespace Go.Proofs.YtbhiklnljiehiaaGreat
section
open Go.RowKit Go.Shelf
attribute [local go_sem] Oper.semAt_some
def bY (p q:Value) (ds:List Deferred) (S:Exit→World→Prop):Exit→Act→World→Prop
 | .panic c,a,w=>a.tmps[2]? =some p∧a.tmps[3]? =some q∧a.defers=ds∧S (.panic c) w
 |_,_,_=>False
theorem bY.put {p q v:Value} {ds:List Deferred} {S:Exit→World→Prop} {d:Nat} (h2:d≠2) (h3:d≠3):∀c a w,bY p q ds S (.panic c) (a.put (some d) v) w→bY p q ds S (.panic c) a w:=fun c a w h=>by
 obtain ⟨e2,e3,e4,e5⟩:=h;simp only[Act.put] at e2 e3 e4;rw[Array.getElem?_setIfInBounds_ne h2] at e2;rw[Array.getElem?_setIfInBounds_ne h3] at e3;exact ⟨e2,e3,e4,e5⟩
structure Ub (w:World) (bs:List UInt8) (r d:Nat) (v:Value) (x1:Nat) (R2:Sum Nat (List Nk × Nat)) (acc:List Nk) (more:Bool) (q:Nat) (V:Value) (W:World):Prop where
 al:acc.length≤512
 go_:oC bs x1 (513-acc.length) more q acc=R2
 rd:jF W r v bs q
 ql:q≤8*bs.length
 bp:au W w.heap.size 133 #[.int .i64 x1,V]
 be:au W (w.heap.size+1) 53 #[.int .i64 0]
 bd:au W d 219 #[.pointer (some ⟨r,0,none⟩)]
 ow:W.ownsRow w.heap.size 197 4 V acc.length (mG acc)
 bl:Below w.heap.size w W
theorem BG {w:World} {b b' s s' n n':Nat} {e e':TypeId} {v v':Value} {xs xs':List Value} (h:w.ownsRow b e s v n xs) (h':w.ownsRow b' e' s' v' n' xs') (hne:e≠e') {k:Nat} (hk:v.ownBlock=some k):v'.ownBlock≠some k:=by
 intro hk';rcases h.2 with ⟨rfl,_⟩|⟨q,cap,cur,rfl,q1,q2,_⟩
 ·cases hk
 ·rcases h'.2 with ⟨rfl,_⟩|⟨q',cap',cur',rfl,q1',q2',_⟩
  ·cases hk'
  ·have e1:q=k:=by injection hk
   have e2:q'=k:=by injection hk'
   subst e1 e2;rw[q2] at q2';cases q2';exact hne rfl
theorem Kg (bs:List UInt8) {q p:Nat} {x:Nk} {m:Bool} (h:GH bs q=some (x,m,p)):p≤8*bs.length:=by
 unfold GH at h;split at h
 ·cases h
 split at h
 ·split at h
  ·cases h
  ·cases h;omega
 ·cases h;omega
set_option maxRecDepth 100000 in
set_option maxHeartbeats 8000000 in
theorem ES (A:Option Addr) (n cc:Nat) (bs:List UInt8) (w:World) (h:Sl w w.heap.size A n cc (bV bs)) (hsm:n≤1000000):
 Calls Tryz.prog 92 #[.slice A n cc] w (GK w (oD bs)):=by
 have hlen:bs.length=n:=by simpa using h.len
 obtain ⟨i0,hi,hz0,hz1,hz2⟩:=pW;obtain ⟨R,hR⟩:∃R,oD bs=R:=⟨_,rfl⟩
 rw[hR];have HR:=Lib.hid hR;clear hR;have hB0:=((Below.refl w.heap.size w).alloc (Nat.le_refl _) (.cells #[.int .i64 0,.slice none 0 0] 133)).alloc (by simp) (.cells #[.int .i64 0] 53);have hs0:=(h.below hB0).more hB0.size;have hnr:=qC A n cc bs _ hs0 (by omega);have Xz:=Lib.hid hnr;have HB0:=Lib.hid hB0;have um:=Lib.hid hsm;have jN:=Lib.hid hlen;clear hnr hB0 hs0 hsm hlen
 go_enter_defers Tryz.func92,Tryz.ntmps92
 go_wp2_with fail;refine Xz.out.mono ?_;rintro e1 w1 ⟨r,v,rfl,hr,hrd,hb1⟩;have Mj:au ((w.alloc (.cells #[.int .i64 0,.slice none 0 0] 133)).alloc (.cells #[.int .i64 0] 53)) w.heap.size 133 #[.int .i64 0,.slice none 0 0]:=(au.new w _ _).alloc _;have wD:au ((w.alloc (.cells #[.int .i64 0,.slice none 0 0] 133)).alloc (.cells #[.int .i64 0] 53)) (w.heap.size+1) 53 #[.int .i64 0]:=by simpa using au.new (w.alloc (.cells #[.int .i64 0,.slice none 0 0] 133)) 53 #[.int .i64 0]
 have XA:=Mj.below hb1 Mj.lt;have rT:=wD.below hb1 wD.lt;have hB1:Below w.heap.size w w1:=HB0.out.trans (hb1.mono HB0.out.size);have ab2:w.heap.size+1<r:=by simp at hr;omega
 have hrl:=hrd.1.lt;clear Mj wD hb1 hr Xz HB0;have hW2:∃w2,(w1.alloc (.cells #[.pointer (some ⟨r,0,none⟩)] 219)).alloc (.cells #[.int .i64 4,.int .i64 10,.int .i64 1] 3)=w2:=⟨_,rfl⟩
 obtain ⟨w2,hw2⟩:=hW2;have Ld:au w2 w.heap.size 133 #[.int .i64 0,.slice none 0 0]:=by rw[←hw2];exact (XA.alloc _).alloc _
 have oV:au w2 (w.heap.size+1) 53 #[.int .i64 0]:=by rw[←hw2];exact (rT.alloc _).alloc _
 have hB2:Below w.heap.size w w2:=by rw[←hw2];exact (hB1.alloc hB1.size _).alloc (by have:=hB1.size;simp;omega) _
 have qY:jF w2 r v bs 0:=by rw[←hw2];exact ⟨(hrd.1.alloc _).alloc _,(hrd.2.alloc _).alloc _⟩
 have hd2:au w2 w1.heap.size 219 #[.pointer (some ⟨r,0,none⟩)]:=by rw[←hw2];exact (au.new w1 _ _).alloc _
 have hb2:au w2 (w1.heap.size+1) 3 (iI [4,10,1]).toArray:=by
  rw[←hw2];have:=au.new (w1.alloc (.cells #[.pointer (some ⟨r,0,none⟩)] 219)) 3 #[.int .i64 4,.int .i64 10,.int .i64 1];rw[World.size_alloc] at this;exact this
 have acs:w2.heap.size=w1.heap.size+2:=by rw[←hw2];simp
 go_wp2_with fail;clear hrd XA rT hB1 hw2;generalize w1.heap.size=d at*;have hbl:bs.length≤1000000:=by have:=jN.out;have:=um.out;omega
 by_cases h2:8*bs.length<15
 ·have oU:R= .inl 5:=by rw[←HR.out];unfold oD;rw[if_pos h2]
  have vN:=Lib.hid oU;clear oU;have hga:=jm r (d+1) v bs 0 [4,10,1] w2 qY (by omega) (by simp) (by simp) hb2 (by omega) (by simp;omega);simp only[List.length_cons,List.length_nil,Nat.zero_add,Nat.reduceAdd] at hga;refine hga.mono ?_;rintro e3 w3 ⟨rfl,lF,hk3⟩;have hB3:Below w.heap.size w w3:=hB2.trans (hk3.below (B:=w.heap.size) (fun k _ e=>by have:=hB2.size;omega) hB2.size);have uR:=Ld.kept hk3 (by have:=Ld.lt;omega);have nK:=oV.kept hk3 (by have:=oV.lt;omega);clear hga h2 hbl;go_wp2_with (go_at_call 135;((with_reducible refine (uM _ _ _ _ rfl _).mono ?_);rintro e4 w4 ⟨rfl,rfl⟩));exact iX w _ R 5 _ _ _ _ rfl rfl uR nK hB3 vN.out
 ·have hga:=mQ r (d+1) v bs 0 [4,10,1] w2 qY (by omega) (by simp) (by simp) hb2 (by simp;omega);simp only[List.length_cons,List.length_nil,Nat.zero_add,Nat.reduceAdd] at hga;refine hga.mono ?_;rintro e3 w3 ⟨vo,rfl,iH,lF,hk3⟩;have hB3:Below w.heap.size w w3:=hB2.trans (hk3.below (B:=w.heap.size) (fun k _ e=>by have:=hB2.size;omega) hB2.size);have uR:=Ld.kept hk3 (by have:=Ld.lt;omega);have nK:=oV.kept hk3 (by have:=oV.lt;omega);have hd3:=hd2.kept hk3 (by have:=hd2.lt;omega);have oF:=HR.out;unfold oD at oF;rw[if_neg h2] at oF;have hgv:getAll bs 0 [4,10,1]= [val (aH bs 0 4),val (aH bs 4 10),val (aH bs 14 1)]:=rfl;rw[hgv] at iH;have hx1:val (aH bs 4 10)<1024:=by have:=oW (aH bs 4 10);rw[eT] at this;exact this
  have ab3:=hd2.lt;have CW:15≤8*bs.length:=by omega
  clear hgv hga hb2 qY hB2 Ld oV hd2 hk3 h2;simp only[List.length_cons,List.length_nil,Nat.zero_add,Nat.reduceAdd] at iH;rw[show (0:Nat)+ [4,10,1].sum=15 from rfl] at lF;generalize val (aH bs 0 4)=x0 at*;generalize val (aH bs 4 10)=x1 at*;generalize val (aH bs 14 1)=x2 at*;obtain ⟨gl,Tp,rfl,hgl,kz⟩:=iH.form (by omega);have l0:w3.cell? ⟨gl,0,none⟩=some (.int .u64 x0):=by have:=iH.cellAt 0 (by omega);simpa[nT] using this
  have l1:w3.cell? ⟨gl,1,none⟩=some (.int .u64 x1):=by have:=iH.cellAt 1 (by omega);simpa[nT] using this
  have l2:w3.cell? ⟨gl,2,none⟩=some (.int .u64 x2):=by have:=iH.cellAt 2 (by omega);simpa[nT] using this
  by_cases h0:x0=0
  ·rw[if_neg (fun e=>e h0)] at oF;have hx0:((x0:Int)==0)=true:=by simp[h0]
   have hxw:IntKind.i64.wrap (x1:Int)=(x1:Int):=by rw[IntKind.wrap_i64];omega
   have hm1:((x2:Int)==1)=decide (x2=1):=by rw[Bool.eq_iff_iff];simp;omega
   have p0:=uR.cell 0;have pf:=uR.frozen 0;simp at p0;have HR1:=Lib.hid oF;have HH0:=Lib.hid h0;clear oF h0;have aiK:gl≠w.heap.size:=by have:=uR.lt;have:=acs;have:=hB3.size;omega
   have mV:=aJ (i:=0) iH uR (by decide) (.int .i64 x1);have q1:(w3.setCell ⟨w.heap.size,0,none⟩ (.int .i64 x1)).cell? ⟨gl,2,none⟩=some (.int .u64 x2):=by have:=mV.cellAt 2 (by omega);simpa[nT] using this
   have RH:=uR.av 0 (.int .i64 x1);have Oq:=nK.far (p:=⟨w.heap.size,0,none⟩) (show w.heap.size+1≠w.heap.size by omega) (.int .i64 x1);have hd4:=hd3.far (p:=⟨w.heap.size,0,none⟩) (show d≠w.heap.size by omega) (.int .i64 x1);have xS:jF (w3.setCell ⟨w.heap.size,0,none⟩ (.int .i64 x1)) r v bs 15:=⟨lF.1.far (p:=⟨w.heap.size,0,none⟩) (show r≠w.heap.size by omega) (.int .i64 x1),aJ (i:=0) lF.2 uR (by decide) (.int .i64 x1)⟩;have hB4:=hB3.setCell (p:=⟨w.heap.size,0,none⟩) (Nat.le_refl _) (.int .i64 x1);simp at RH;have HBP:=Lib.hid RH;have Gh:=Lib.hid Oq;have K9:=Lib.hid hd4;have RA:=Lib.hid xS;have Ak:=Lib.hid hB4;clear RH Oq hd4 xS hB4 lF hB3 uR nK hd3 mV iH;go_wp2_with (first|(go_at_call 135;((with_reducible refine (sJ _ _ _ _).mono ?_);rintro e4 w4 ⟨rfl,rfl⟩))|(go_at_call 137;((with_reducible refine (kY _ _).mono ?_);rintro e4 w4 ⟨rfl,rfl⟩)));generalize w3.setCell ⟨w.heap.size,0,none⟩ (.int .i64 x1)=w4 at*;clear l0 l1 l2 p0 pf q1 hx0 hxw;obtain ⟨R2,hR2⟩:∃R2,oC bs x1 513 (decide (x2=1)) 15 []=R2:=⟨_,rfl⟩
   have PI:=HR1.out;rw[hR2] at PI;have HR2:=Lib.hid hR2;have HR3:=Lib.hid PI;clear hR2 PI HR1
   go_loopw [6] (fun m wr=>∃(acc:List Nk) (more:Bool) (q:Nat) (V:Value),m= .bool more∧Ub w bs r d v x1 R2 acc more q V wr) (fun _ wr=>513-uE ((wr.cell? ⟨w.heap.size,1,none⟩).getD .nilIface))
   case atStart=>exact ⟨[],decide (x2=1),15,.slice none 0 0,rfl,by simp,by simpa using HR2.out,RA.out,by omega,HBP.out,Gh.out,K9.out,World.ownsRow_nil _ _ _ _,Ak.out⟩
   case round=>
    obtain ⟨acc,more,q,V,rfl,hI⟩:=hrel;obtain ⟨Av,cv,hV,_,_⟩:=bI.cK (l:=acc) hI.ow;subst hV;have Oo:=hI.bd.cell 0;simp at Oo;have HI:=Lib.hid hI;cases more with
    |true=>
     obtain ⟨f,hf⟩:∃f,513-acc.length=f+1:=⟨512-acc.length,by have:=hI.al;omega⟩
     have hgo:=hI.go_;rw[hf] at hgo;simp only[oC] at hgo;have qI:=Lib.hid hgo;have HFF:=Lib.hid hf;have Uc:jF (wr.alloc (.cells #[.int .i64 0,.bool false,.int .i64 0,.int .i64 0] 197)) r v bs q:=⟨hI.rd.1.alloc _,hI.rd.2.alloc _⟩;have Hf:=Lib.hid (GI r v bs q _ Uc hI.ql (by omega));have bn0:=au.new wr 197 #[.int .i64 0,.bool false,.int .i64 0,.int .i64 0];have bd0:=hI.bd.alloc (.cells #[.int .i64 0,.bool false,.int .i64 0,.int .i64 0] 197);have ed0:=bd0.cell 0;simp at ed0;have Mj:=hI.bp.alloc (.cells #[.int .i64 0,.bool false,.int .i64 0,.int .i64 0] 197);have wD:=hI.be.alloc (.cells #[.int .i64 0,.bool false,.int .i64 0,.int .i64 0] 197);have ow0:=hI.ow.alloc (.cells #[.int .i64 0,.bool false,.int .i64 0,.int .i64 0] 197);have hB0:=hI.bl.alloc hI.bl.size (.cells #[.int .i64 0,.bool false,.int .i64 0,.int .i64 0] 197);have XV:=fT ow0 Uc.1 (by decide);have acw:=Lib.hid (fun k hk=>(hI.ow.lt k hk).2);have aiL:=hI.rd.1.lt;have aiM:=hI.bd.lt;have hsz:=World.size_alloc wr (.cells #[.int .i64 0,.bool false,.int .i64 0,.int .i64 0] 197);have Ud:=Lib.hid bn0;have Ue:=Lib.hid bd0;have MP:=Lib.hid Mj;have MQ:=Lib.hid wD;have Uf:=Lib.hid ow0;have HB0:=Lib.hid hB0;have XW:=Lib.hid XV;have C6:=Lib.hid hsz;clear hI hgo hf Uc bn0 bd0 Mj wD ow0 hB0 XV hsz;go_wp2_with fail;clear ed0 Oo;generalize wr.alloc (.cells #[.int .i64 0,.bool false,.int .i64 0,.int .i64 0] 197)=W0 at*;refine Hf.out.mono ?_
     rintro e5 w5 ⟨hk5,⟨Ug,rfl⟩|⟨x,m',p,hs5,rfl,qZ⟩⟩
     ·have lg:Below w.heap.size w w5:=HB0.out.trans (hk5.below (B:=w.heap.size) (fun k _ e=>by have:=HB0.out.size;omega) HB0.out.size);have yx:=MP.out.kept hk5 (by have:=MP.out.lt;omega);have sM:=MQ.out.kept hk5 (by have:=MQ.out.lt;omega);have oU:R= .inl 5:=by
       have h1:=qI.out;rw[Ug] at h1;have h2:=HR3.out;rw[←h1] at h2;exact h2.symm
      clear hk5 qI Ug;go_wp2_with fail;exact iX w _ R 5 _ _ _ _ rfl rfl yx sM lg oU
     ·have hpl:=Kg bs hs5;have hg1:=qI.out;rw[hs5] at hg1;dsimp only at hg1;have lg:Below w.heap.size w w5:=HB0.out.trans (hk5.below (B:=w.heap.size) (fun k _ e=>by have:=HB0.out.size;omega) HB0.out.size);have yx:=MP.out.kept hk5 (by have:=MP.out.lt;omega);have sM:=MQ.out.kept hk5 (by have:=MQ.out.lt;omega);have VJ:=Ue.out.kept hk5 (by have:=Ue.out.lt;omega);have wP:=Ud.out.kept hk5 (by have:=Ud.out.lt;omega);have XX:=jl Uf.out hk5 (fun k o _ hk e=>by
       rcases e with e|e
       ·subst e;exact XW.out hk
       ·have:=(Uf.out.lt k hk).2;omega)
      have hrw:r≠wr.heap.size:=by omega
      have Ae:au ((((w5.setCell ⟨wr.heap.size,0,none⟩ (.int .i64 x.sn)).setCell ⟨wr.heap.size,1,none⟩ (.bool x.part)).setCell ⟨wr.heap.size,2,none⟩ (.int .i64 x.fr)).setCell ⟨wr.heap.size,3,none⟩ (.int .i64 x.lt)) w.heap.size 133 #[.int .i64 x1,.slice Av acc.length cv]:=(iB (by omega) _ _ _ _).trans yx;have Le:au ((((w5.setCell ⟨wr.heap.size,0,none⟩ (.int .i64 x.sn)).setCell ⟨wr.heap.size,1,none⟩ (.bool x.part)).setCell ⟨wr.heap.size,2,none⟩ (.int .i64 x.fr)).setCell ⟨wr.heap.size,3,none⟩ (.int .i64 x.lt)) (w.heap.size+1) 53 #[.int .i64 0]:=(iB (by omega) _ _ _ _).trans sM;have bd6:au ((((w5.setCell ⟨wr.heap.size,0,none⟩ (.int .i64 x.sn)).setCell ⟨wr.heap.size,1,none⟩ (.bool x.part)).setCell ⟨wr.heap.size,2,none⟩ (.int .i64 x.fr)).setCell ⟨wr.heap.size,3,none⟩ (.int .i64 x.lt)) d 219 #[.pointer (some ⟨r,0,none⟩)]:=(iB (by omega) _ _ _ _).trans VJ;have sK:jF ((((w5.setCell ⟨wr.heap.size,0,none⟩ (.int .i64 x.sn)).setCell ⟨wr.heap.size,1,none⟩ (.bool x.part)).setCell ⟨wr.heap.size,2,none⟩ (.int .i64 x.fr)).setCell ⟨wr.heap.size,3,none⟩ (.int .i64 x.lt)) r v bs p:=⟨(iB hrw _ _ _ _).trans qZ.1,pM qZ.2 wP (by decide) _ _ _ _⟩
      have PG:Below w.heap.size w ((((w5.setCell ⟨wr.heap.size,0,none⟩ (.int .i64 x.sn)).setCell ⟨wr.heap.size,1,none⟩ (.bool x.part)).setCell ⟨wr.heap.size,2,none⟩ (.int .i64 x.fr)).setCell ⟨wr.heap.size,3,none⟩ (.int .i64 x.lt)):=(((lg.setCell (p:=⟨wr.heap.size,0,none⟩) (by show w.heap.size≤wr.heap.size;omega) _).setCell (p:=⟨wr.heap.size,1,none⟩) (by show w.heap.size≤wr.heap.size;omega) _).setCell (p:=⟨wr.heap.size,2,none⟩) (by show w.heap.size≤wr.heap.size;omega) _).setCell (p:=⟨wr.heap.size,3,none⟩) (by show w.heap.size≤wr.heap.size;omega) _;have ow6:((((w5.setCell ⟨wr.heap.size,0,none⟩ (.int .i64 x.sn)).setCell ⟨wr.heap.size,1,none⟩ (.bool x.part)).setCell ⟨wr.heap.size,2,none⟩ (.int .i64 x.fr)).setCell ⟨wr.heap.size,3,none⟩ (.int .i64 x.lt)).ownsRow w.heap.size 197 4 (.slice Av acc.length cv) acc.length (mG acc):=cO XX fun k hk=>iB (by have:=acw.out k hk;omega) _ _ _ _
      have Pn:=wP.Pk (.int .i64 x.sn) (.bool x.part) (.int .i64 x.fr) (.int .i64 x.lt);obtain ⟨m0,m1,m2,m3⟩:=wP.gZ;have f0:=wP.frozen 0;have f1:=wP.frozen 1;have f2:=wP.frozen 2;have f3:=wP.frozen 3;have z1:=Ae.cell 1;simp only[List.getElem?_toArray] at z1;have Hy:=Lib.hid PG;have qy:=Lib.hid Ae;have Am:=Lib.hid Le;have Qd:=Lib.hid bd6;have Kh:=Lib.hid sK;have MR:=Lib.hid ow6;have xW:=Lib.hid Pn;have XY:=Lib.hid hg1;have CO:=Lib.hid hpl;have I7:w5.heap.size=((((w5.setCell ⟨wr.heap.size,0,none⟩ (.int .i64 x.sn)).setCell ⟨wr.heap.size,1,none⟩ (.bool x.part)).setCell ⟨wr.heap.size,2,none⟩ (.int .i64 x.fr)).setCell ⟨wr.heap.size,3,none⟩ (.int .i64 x.lt)).heap.size:=(Bh _ _ _ _).symm;clear hk5 hs5 qZ hg1 lg yx sM VJ wP XX Ae Le bd6 sK PG ow6 Pn hpl Hf qI Ud Ue MP MQ Uf HB0 XW C6;unfold jU;go_upto_region 11 with fail
      clear m0 m1 m2 m3 f0 f1 f2 f3 z1;generalize (((w5.setCell ⟨wr.heap.size,0,none⟩ (.int .i64 x.sn)).setCell ⟨wr.heap.size,1,none⟩ (.bool x.part)).setCell ⟨wr.heap.size,2,none⟩ (.int .i64 x.fr)).setCell ⟨wr.heap.size,3,none⟩ (.int .i64 x.lt)=w6 at*;have hS:∀W,Below w6.heap.size w6 W→W.cell? ⟨w.heap.size,0,none⟩=some (.int .i64 x1)∧W.cell? ⟨w.heap.size,1,none⟩=some (.slice Av acc.length cv)∧W.cell? ⟨wr.heap.size,0,none⟩=some (.int .i64 x.sn)∧W.cell? ⟨wr.heap.size,1,none⟩=some (.bool x.part)∧W.cell? ⟨wr.heap.size,2,none⟩=some (.int .i64 x.fr)∧W.cell? ⟨wr.heap.size,3,none⟩=some (.int .i64 x.lt):=fun W hW=>by
       have b0:=qy.out.below hW qy.out.lt;have b1:=xW.out.below hW xW.out.lt;obtain ⟨y0,y1,y2,y3⟩:=b1.gZ;exact ⟨b0.cell 0,b0.cell 1,y0,y1,y2,y3⟩
      have HS:=Lib.hid hS;have yM:=Lib.hid (fun (W:World) (hb:Below w6.drew.heap.size w6.drew W)=>hS W ((Below.refl _ w6).drew.trans hb));have hal:=fun (W:World)=>xV W (x1:Int) x
      unfold jU at hal;have qX:=Lib.hid hal;have VT:=Lib.hid (Below.refl w6.heap.size w6).drew;have MS:=Lib.hid (fun (W:World) (hb:Below w6.drew.heap.size w6.drew W)=>(Below.refl w6.heap.size w6).drew.trans hb);clear hS hal;have aiN:=HI.out.al;by_cases Hz:acc.length<512
      ·have XZ:decide ((acc.length:Int)<512)=true:=decide_eq_true (by omega);cases hA:gY (x1:Int) x with
       |false=>
        rw[hA] at qX;have uQ:R= .inl 9:=by
         have h1:=XY.out;rw[if_neg (by unfold uL;rw[hA];simp)] at h1;have h2:=HR3.out;rw[←h1] at h2;exact h2.symm
        have Bj:=Lib.hid uQ;clear uQ hA;refine Code.wp_mono (Q:=bY (.pointer (some ⟨w.heap.size,0,none⟩)) (.pointer (some ⟨w.heap.size+1,0,none⟩)) [{target:= .fn (.func 133) #[.pointer (some ⟨w.heap.size,0,none⟩),.pointer (some ⟨w.heap.size+1,0,none⟩)],args:= #[]}] (fun e W=>e= .panic [{v:= .iface 53 (.int .i64 9),recovered:=false}]∧Below w6.heap.size w6 W)) (fun e a W h=> ?_) ?_
        ·cases e with
         |panic c8=>
          obtain ⟨h2,h3,hd,he,hb⟩:=h;cases he;obtain ⟨T,D⟩:=a;dsimp only at h2 h3 hd;subst hd;exact iX w W R 9 T _ _ _ h2 h3 (qy.out.below hb qy.out.lt) (Am.out.below hb Am.out.lt) (Hy.out.trans (hb.mono Hy.out.size)) Bj.out
         |_=>exact (h:False).elim
        refine aY (fun w'=>w'.cell? ⟨w.heap.size,0,none⟩=some (.int .i64 x1)∧w'.cell? ⟨w.heap.size,1,none⟩=some (.slice Av acc.length cv)∧w'.cell? ⟨wr.heap.size,0,none⟩=some (.int .i64 x.sn)∧w'.cell? ⟨wr.heap.size,1,none⟩=some (.bool x.part)∧w'.cell? ⟨wr.heap.size,2,none⟩=some (.int .i64 x.fr)∧w'.cell? ⟨wr.heap.size,3,none⟩=some (.int .i64 x.lt)) [] (by kernel_rfl) ?_;have hHeld:=HS.out _ VT.out;refine aj (i:=0) (v:= ?_) rfl (by kernel_rfl) (by kernel_rfl) (by kernel_rfl) (by kernel_rfl) (bY.put (by decide) (by decide)) (Or.inl ⟨by rfl,?_⟩) hHeld ?_;rotate_left
        ·intro w' hSw;go_simp
         try with_reducible rfl
        try simp only[Act.put,aB,aC,ax,ay,aA]
        refine aj (i:=1) (v:= ?_) rfl (by kernel_rfl) (by kernel_rfl) (by kernel_rfl) (by kernel_rfl) (bY.put (by decide) (by decide)) (Or.inl ⟨by rfl,?_⟩) hHeld ?_;rotate_left
        ·intro w' hSw;go_simp
         try with_reducible rfl
        try simp only[Act.put,aB,aC,aD,ax,ay,aA]
        refine aj (i:=2) (v:= ?_) rfl (by kernel_rfl) (by kernel_rfl) (by kernel_rfl) (by kernel_rfl) (bY.put (by decide) (by decide)) (Or.inl ⟨by rfl,?_⟩) hHeld ?_;rotate_left
        ·intro w' hSw;go_simp
         try with_reducible rfl
        try simp only[Act.put,aB,aC,aD,ax,ay,aA]
        refine aj (i:=3) (v:= ?_) rfl (by kernel_rfl) (by kernel_rfl) (by kernel_rfl) (by kernel_rfl) (bY.put (by decide) (by decide)) (Or.inl ⟨by rfl,?_⟩) hHeld ?_;rotate_left
        ·intro w' hSw;go_simp
         try with_reducible rfl
        try simp only[Act.put,aB,aC,aD,ax,ay,aA]
        refine fB [] (i:=4) (v:= ?_) rfl (by kernel_rfl) (by kernel_rfl) (by kernel_rfl) (by kernel_rfl) (bY.put (by decide) (by decide)) (Or.inl ⟨by rfl,?_⟩) hHeld ?_;rotate_left
        ·intro w' hSw;obtain ⟨hS1,hS2,fU,kI,hS5,mU⟩:=hSw;go_simp
         try with_reducible rfl
        try simp only[Act.put,aB,aC,aD,ax,ay,aA]
        refine fB [] (i:=5) (v:= ?_) rfl (by kernel_rfl) (by kernel_rfl) (by kernel_rfl) (by kernel_rfl) (bY.put (by decide) (by decide)) (Or.inl ⟨by rfl,?_⟩) hHeld ?_;rotate_left
        ·intro w' hSw;obtain ⟨hS1,hS2,fU,kI,hS5,mU⟩:=hSw;go_simp
         try with_reducible rfl
        try simp only[Act.put,aB,aC,aD,ax,ay,aA]
        refine aQ (i:=6) rfl (by kernel_rfl) (by rfl) (fun K hK=> ?_);go_simp;refine (qX.out _).mono ?_;rintro e6 Uh ⟨rfl,hb6⟩;refine hK _ _ (yM.out _ hb6) ?_;have hHeld:=(yM.out _ hb6);clear hK K
        try simp only[Act.put,aB,aC,aD,ax,ay,aA]
        refine aj (i:=7) (v:= ?_) rfl (by kernel_rfl) (by kernel_rfl) (by kernel_rfl) (by kernel_rfl) (bY.put (by decide) (by decide)) (Or.inl ⟨by rfl,?_⟩) hHeld ?_;rotate_left
        ·intro w' hSw;go_simp
         try with_reducible rfl
        try simp only[Act.put,aB,aC,aD,ax,ay,aA]
        refine aj (i:=8) (v:= ?_) rfl (by kernel_rfl) (by kernel_rfl) (by kernel_rfl) (by kernel_rfl) (bY.put (by decide) (by decide)) (Or.inl ⟨by rfl,?_⟩) hHeld ?_;rotate_left
        ·intro w' hSw;go_simp
         try with_reducible rfl
        try simp only[Act.put,aB,aC,aD,ax,ay,aA]
        refine aj (i:=9) (v:=undef) rfl (by kernel_rfl) (by kernel_rfl) (by kernel_rfl) (by kernel_rfl) (bY.put (by decide) (by decide)) (Or.inr ⟨by rfl,rfl⟩) hHeld ?_
        try simp only[Act.put,aB,aC,aD,ax,ay,aA]
        refine aj (i:=10) (v:=undef) rfl (by kernel_rfl) (by kernel_rfl) (by kernel_rfl) (by kernel_rfl) (bY.put (by decide) (by decide)) (Or.inr ⟨by rfl,rfl⟩) hHeld ?_
        try simp only[Act.put,aB,aC,aD,ax,ay,aA]
        refine aj (i:=11) (v:=undef) rfl (by kernel_rfl) (by kernel_rfl) (by kernel_rfl) (by kernel_rfl) (bY.put (by decide) (by decide)) (Or.inr ⟨by rfl,rfl⟩) hHeld ?_
        try simp only[Act.put,aB,aC,aD,ax,ay,aA]
        refine aj (i:=12) (v:=undef) rfl (by kernel_rfl) (by kernel_rfl) (by kernel_rfl) (by kernel_rfl) (bY.put (by decide) (by decide)) (Or.inr ⟨by rfl,rfl⟩) hHeld ?_
        try simp only[Act.put,aB,aC,aD,ax,ay,aA]
        refine aj (i:=13) (v:=undef) rfl (by kernel_rfl) (by kernel_rfl) (by kernel_rfl) (by kernel_rfl) (bY.put (by decide) (by decide)) (Or.inr ⟨by rfl,rfl⟩) hHeld ?_
        try simp only[Act.put,aB,aC,aD,ax,ay,aA]
        refine aj (i:=14) (v:=undef) rfl (by kernel_rfl) (by kernel_rfl) (by kernel_rfl) (by kernel_rfl) (bY.put (by decide) (by decide)) (Or.inr ⟨by rfl,rfl⟩) hHeld ?_
        try simp only[Act.put,aB,aC,aD,ax,ay,aA]
        refine aj (i:=15) (v:=undef) rfl (by kernel_rfl) (by kernel_rfl) (by kernel_rfl) (by kernel_rfl) (bY.put (by decide) (by decide)) (Or.inr ⟨by rfl,rfl⟩) hHeld ?_
        try simp only[Act.put,aB,aC,aD,ax,ay,aA]
        refine aj (i:=16) (v:=undef) rfl (by kernel_rfl) (by kernel_rfl) (by kernel_rfl) (by kernel_rfl) (bY.put (by decide) (by decide)) (Or.inr ⟨by rfl,rfl⟩) hHeld ?_
        try simp only[Act.put,aB,aC,aD,ax,ay,aA]
        refine aj (i:=17) (v:=undef) rfl (by kernel_rfl) (by kernel_rfl) (by kernel_rfl) (by kernel_rfl) (bY.put (by decide) (by decide)) (Or.inr ⟨by rfl,rfl⟩) hHeld ?_
        try simp only[Act.put,aB,aC,aD,ax,ay,aA]
        refine aj (i:=18) (v:=undef) rfl (by kernel_rfl) (by kernel_rfl) (by kernel_rfl) (by kernel_rfl) (bY.put (by decide) (by decide)) (Or.inr ⟨by rfl,rfl⟩) hHeld ?_
        try simp only[Act.put,aB,aC,aD,ax,ay,aA]
        refine aj (i:=19) (v:=undef) rfl (by kernel_rfl) (by kernel_rfl) (by kernel_rfl) (by kernel_rfl) (bY.put (by decide) (by decide)) (Or.inr ⟨by rfl,rfl⟩) hHeld ?_
        try simp only[Act.put,aB,aC,aD,ax,ay,aA]
        refine aj (i:=20) (v:=undef) rfl (by kernel_rfl) (by kernel_rfl) (by kernel_rfl) (by kernel_rfl) (bY.put (by decide) (by decide)) (Or.inr ⟨by rfl,rfl⟩) hHeld ?_
        try simp only[Act.put,aB,aC,aD,ax,ay,aA]
        refine aj (i:=21) (v:=undef) rfl (by kernel_rfl) (by kernel_rfl) (by kernel_rfl) (by kernel_rfl) (bY.put (by decide) (by decide)) (Or.inr ⟨by rfl,rfl⟩) hHeld ?_
        try simp only[Act.put,aB,aC,aD,ax,ay,aA]
        refine aj (i:=22) (v:=undef) rfl (by kernel_rfl) (by kernel_rfl) (by kernel_rfl) (by kernel_rfl) (bY.put (by decide) (by decide)) (Or.inr ⟨by rfl,rfl⟩) hHeld ?_
        try simp only[Act.put,aB,aC,aD,ax,ay,aA]
        refine aj (i:=23) (v:= ?_) rfl (by kernel_rfl) (by kernel_rfl) (by kernel_rfl) (by kernel_rfl) (bY.put (by decide) (by decide)) (Or.inl ⟨by rfl,?_⟩) hHeld ?_;rotate_left
        ·intro w' hSw;go_simp
         try with_reducible rfl
        try simp only[Act.put,aB,aC,aD,ax,ay,aA]
        refine aQ (i:=24) rfl (by kernel_rfl) (by rfl) (fun K hK=> ?_);go_simp;refine (jd 9 _).mono ?_;rintro e8 w8 ⟨rfl,rfl⟩;exact ⟨rfl,rfl,rfl,rfl,MS.out _ hb6⟩
       |true=>
        rw[hA] at qX;have HA:=Lib.hid hA;clear hA;rcases Nat.eq_zero_or_pos acc.length with hl0|hlp
        ·have hg2:oC bs x1 f m' p (acc++ [x])=R2:=by
          have h1:=XY.out;rw[if_pos (by
           unfold uL;rw[HA.out,List.eq_nil_of_length_eq_zero hl0];rfl)] at h1
          exact h1
         have HGF:=Lib.hid hg2;clear hg2;rw[hl0] at qy MR HS yM ⊢;refine wp_region_noPanic ?_;refine aY (fun w'=>w'.cell? ⟨w.heap.size,0,none⟩=some (.int .i64 x1)∧w'.cell? ⟨w.heap.size,1,none⟩=some (.slice Av 0 cv)∧w'.cell? ⟨wr.heap.size,0,none⟩=some (.int .i64 x.sn)∧w'.cell? ⟨wr.heap.size,1,none⟩=some (.bool x.part)∧w'.cell? ⟨wr.heap.size,2,none⟩=some (.int .i64 x.fr)∧w'.cell? ⟨wr.heap.size,3,none⟩=some (.int .i64 x.lt)) [] (by kernel_rfl) ?_;have hHeld:=HS.out _ VT.out;refine aT 0 ?_ rfl (Or.inl ⟨by rfl,?_⟩) hHeld ?_;rotate_left
         ·intro w' hSw;go_simp
          try with_reducible rfl
         try simp only[Act.put,aB,aC,ax,ay,aA]
         refine aT 1 ?_ rfl (Or.inl ⟨by rfl,?_⟩) hHeld ?_;rotate_left
         ·intro w' hSw;go_simp
          try with_reducible rfl
         try simp only[Act.put,aB,aC,aD,ax,ay,aA]
         refine aT 2 ?_ rfl (Or.inl ⟨by rfl,?_⟩) hHeld ?_;rotate_left
         ·intro w' hSw;go_simp
          try with_reducible rfl
         try simp only[Act.put,aB,aC,aD,ax,ay,aA]
         refine aT 3 ?_ rfl (Or.inl ⟨by rfl,?_⟩) hHeld ?_;rotate_left
         ·intro w' hSw;go_simp
          try with_reducible rfl
         try simp only[Act.put,aB,aC,aD,ax,ay,aA]
         refine iK [] 4 ?_ rfl (Or.inl ⟨by rfl,?_⟩) hHeld ?_;rotate_left
         ·intro w' hSw;obtain ⟨hS1,hS2,fU,kI,hS5,mU⟩:=hSw;go_simp
          try with_reducible rfl
         try simp only[Act.put,aB,aC,aD,ax,ay,aA]
         refine iK [] 5 ?_ rfl (Or.inl ⟨by rfl,?_⟩) hHeld ?_;rotate_left
         ·intro w' hSw;obtain ⟨hS1,hS2,fU,kI,hS5,mU⟩:=hSw;go_simp
          try with_reducible rfl
         try simp only[Act.put,aB,aC,aD,ax,ay,aA]
         refine aQ (i:=6) rfl (by kernel_rfl) (by rfl) (fun K hK=> ?_);go_simp;refine (qX.out _).mono ?_;rintro e6 Uh ⟨rfl,hb6⟩;refine hK _ _ (yM.out _ hb6) ?_;have hHeld:=(yM.out _ hb6);clear hK K
         try simp only[Act.put,aB,aC,aD,ax,ay,aA]
         refine aT 7 ?_ rfl (Or.inl ⟨by rfl,?_⟩) hHeld ?_;rotate_left
         ·intro w' hSw;go_simp
          try with_reducible rfl
         try simp only[Act.put,aB,aC,aD,ax,ay,aA]
         refine aT 8 ?_ rfl (Or.inl ⟨by rfl,?_⟩) hHeld ?_;rotate_left
         ·intro w' hSw;go_simp
          try with_reducible rfl
         try simp only[Act.put,aB,aC,aD,ax,ay,aA]
         refine aT 9 ?_ rfl (Or.inl ⟨by rfl,?_⟩) hHeld ?_;rotate_left
         ·intro w' hSw;go_simp
          try with_reducible rfl
         try simp only[Act.put,aB,aC,aD,ax,ay,aA]
         refine aT 10 ?_ rfl (Or.inl ⟨by rfl,?_⟩) hHeld ?_;rotate_left
         ·intro w' hSw;go_simp
          try with_reducible rfl
         try simp only[Act.put,aB,aC,aD,ax,ay,aA]
         refine aT 11 ?_ rfl (Or.inl ⟨by rfl,?_⟩) hHeld ?_;rotate_left
         ·intro w' hSw;go_simp
          try with_reducible rfl
         try simp only[Act.put,aB,aC,aD,ax,ay,aA]
         refine aT 12 undef rfl (Or.inr ⟨by rfl,rfl⟩) hHeld ?_
         try simp only[Act.put,aB,aC,aD,ax,ay,aA]
         refine aT 13 undef rfl (Or.inr ⟨by rfl,rfl⟩) hHeld ?_
         try simp only[Act.put,aB,aC,aD,ax,ay,aA]
         refine aT 14 undef rfl (Or.inr ⟨by rfl,rfl⟩) hHeld ?_
         try simp only[Act.put,aB,aC,aD,ax,ay,aA]
         refine aT 15 undef rfl (Or.inr ⟨by rfl,rfl⟩) hHeld ?_
         try simp only[Act.put,aB,aC,aD,ax,ay,aA]
         refine aT 16 undef rfl (Or.inr ⟨by rfl,rfl⟩) hHeld ?_
         try simp only[Act.put,aB,aC,aD,ax,ay,aA]
         refine aT 17 undef rfl (Or.inr ⟨by rfl,rfl⟩) hHeld ?_
         try simp only[Act.put,aB,aC,aD,ax,ay,aA]
         refine aT 18 undef rfl (Or.inr ⟨by rfl,rfl⟩) hHeld ?_
         try simp only[Act.put,aB,aC,aD,ax,ay,aA]
         refine aT 19 undef rfl (Or.inr ⟨by rfl,rfl⟩) hHeld ?_
         try simp only[Act.put,aB,aC,aD,ax,ay,aA]
         refine aT 20 undef rfl (Or.inr ⟨by rfl,rfl⟩) hHeld ?_
         try simp only[Act.put,aB,aC,aD,ax,ay,aA]
         refine aT 21 undef rfl (Or.inr ⟨by rfl,rfl⟩) hHeld ?_
         try simp only[Act.put,aB,aC,aD,ax,ay,aA]
         refine aT 22 ?_ rfl (Or.inl ⟨by rfl,?_⟩) hHeld ?_;rotate_left
         ·intro w' hSw;go_simp
          try with_reducible rfl
         try simp only[Act.put,aB,aC,aD,ax,ay,aA]
         refine aT 23 ?_ rfl (Or.inl ⟨by rfl,?_⟩) hHeld ?_;rotate_left
         ·intro w' hSw;go_simp
          try with_reducible rfl
         try simp only[Act.put,aB,aC,aD,ax,ay,aA]
         refine aQ (i:=24) rfl (by kernel_rfl) (by rfl) (fun K hK=> ?_);go_simp;refine (kY 9 _).mono ?_;rintro e8 w8 ⟨rfl,rfl⟩;refine hK _ _ hHeld ?_;have hHeld:=hHeld;clear hK K
         try simp only[Act.put,aB,aC,aD,ax,ay,aA]
         have uj:=Lib.hid (MS.out _ hb6);refine aX (by kernel_rfl) ?_ _;refine NoPanic.normal ?_;have Ui:=Lib.hid (Hy.out.trans (uj.out.mono Hy.out.size));have MU:=Lib.hid (qy.out.below uj.out qy.out.lt);have Uj:=Lib.hid (Am.out.below uj.out Am.out.lt);have Uk:=Lib.hid (Qd.out.below uj.out Qd.out.lt);have zW:Hid (jF Uh r v bs p):=Lib.hid ⟨Kh.out.1.below uj.out Kh.out.1.lt,own_below Kh.out.2 uj.out (Nat.le_refl _)⟩;have yN:=Lib.hid ((own_below MR.out uj.out (Nat.le_refl _)).alloc (.cells (Bz x) 197));have Ul:=Lib.hid (De Uh x);obtain ⟨y0,y1,y2,y3⟩:=(xW.out.below uj.out xW.out.lt).gZ;have z1:=MU.out.cell 1;simp only[List.getElem?_toArray] at z1;have X0:=Lib.hid Ui.out.size;clear hHeld uj;simp only[Bz] at yN Ul;go_wp2_with (at_builtin;refine fQ _ rfl _ _ 131 rfl w.heap.size 197 i0 (.agg #[.int .i64 0,.bool false,.int .i64 0,.int .i64 0]) 32 rH hi hz0 hz1 hz2 rfl (.slice Av 0 cv) 0 (mG acc) rfl yN.out (some ⟨Uh.heap.size,0,none⟩) 1 1 [x] rfl Ul.out ?c3 ?c4 ?c5 ?_)
         case c3=>unfold maxLen;omega
         case c4=>omega
         case c5=>have:=X0.out;simp;omega
         intro v9 w9 yO nZ;have MV:(acc++ [x]).length=1:=by rw[List.length_append];simp[hl0]
         rw[←tF] at yO;have rJ:w9.ownsRow w.heap.size 197 4 v9 (acc++ [x]).length (mG (acc++ [x])):=by rw[MV];exact yO
         obtain ⟨A9,c9,Lc,_,_⟩:=bI.cK (l:=acc++ [x]) rJ;rw[MV] at Lc;subst Lc;have hnb:∀(g:Nat) (t:TypeId) (cs:Array Value),au (Uh.alloc (.cells #[.int .i64 x.sn,.bool x.part,.int .i64 x.fr,.int .i64 x.lt] 197)) g t cs→197≠t→au w9 g t cs:=fun g t cs hb ht=>hb.grown nZ (fun e=>fT yN.out hb ht e.symm)
         have GX:=hnb _ _ _ (MU.out.alloc _) (by decide);have TM:=hnb _ _ _ (Uj.out.alloc _) (by decide);have X3:=hnb _ _ _ (Uk.out.alloc _) (by decide);have Um:jF w9 r v bs p:=by
          refine ⟨hnb _ _ _ (zW.out.1.alloc _) (by decide),(zW.out.2.alloc _).kept nZ ?_⟩;rcases hq:v.ownBlock with _|j
          ·exact .inl rfl
          ·exact .inr (fun e=>BG yN.out (zW.out.2.alloc (.cells #[.int .i64 x.sn,.bool x.part,.int .i64 x.fr,.int .i64 x.lt] 197)) (by decide) e.symm hq)
         have PK:Below w.heap.size w w9:=(Ui.out.alloc Ui.out.size _).grown nZ (by have:=X0.out;simp;omega) (fun j hj=>(yN.out.lt j hj).1);have p1:=GX.cell 1;have f1:=GX.frozen 1;have X4:=eZ (i:=1) rJ GX (by decide) (.slice A9 1 c9);have Dg:=GX.av 1 (.slice A9 1 c9);have MW:=TM.far (p:=⟨w.heap.size,1,none⟩) (show w.heap.size+1≠w.heap.size by omega) (.slice A9 1 c9);have MX:=X3.far (p:=⟨w.heap.size,1,none⟩) (show d≠w.heap.size by omega) (.slice A9 1 c9);have MY:jF (w9.setCell ⟨w.heap.size,1,none⟩ (.slice A9 1 c9)) r v bs p:=⟨Um.1.far (p:=⟨w.heap.size,1,none⟩) (show r≠w.heap.size by omega) _,aJ (i:=1) Um.2 GX (by decide) _⟩;have MZ:=PK.setCell (p:=⟨w.heap.size,1,none⟩) (Nat.le_refl _) (.slice A9 1 c9);have q1:=Dg.cell 1;simp only[List.getElem?_toArray] at p1;simp at Dg q1;have HF:Hid (Ub w bs r d v x1 R2 (acc++ [x]) m' p (.slice A9 1 c9) (w9.setCell ⟨w.heap.size,1,none⟩ (.slice A9 1 c9))):=Lib.hid ⟨by omega,by rw[MV,show 513-1=f by have:=HFF.out;omega];exact HGF.out,MY,CO.out,by simpa using Dg,MW,MX,X4,MZ⟩;have HQ1:=Lib.hid q1;clear yO rJ nZ hnb GX TM X3 Um PK X4 Dg MW MX MY MZ y0 y1 y2 y3 z1 q1;go_wp2_with fail
         go_roundw
         case rel=>exact ⟨_,_,_,_,rfl,HF.out⟩
         case measure=>
          have hm0:=HI.out.bp.cell 1;simp only[List.getElem?_toArray] at hm0;rw[HQ1.out,hm0];simp[uE];omega
        ·obtain ⟨k,hl0⟩:∃k,acc.length=k+1:=⟨acc.length-1,by omega⟩
         obtain ⟨m,hm⟩:∃m,acc[k]? =some m:=⟨_,List.getElem?_eq_getElem (by omega)⟩
         have hgl:acc.getLast? =some m:=by rw[List.getLast?_eq_getElem?,hl0];exact hm
         obtain ⟨A6,c6,hV6,X5,_⟩:=bI.cK (l:=acc) MR.out;cases hV6;obtain ⟨ad,hAd,Cy,hcl⟩:=X5.at_ (by omega);subst hAd;obtain ⟨n0,n1,n2,n3⟩:=hcl k m hm;rw[hl0] at qy MR HS ⊢;have ic:∀W,Below w6.heap.size w6 W→W.cell? ⟨w.heap.size,0,none⟩=some (.int .i64 x1)∧W.cell? ⟨w.heap.size,1,none⟩=some (.slice (some ad) (k+1) cv)∧W.cell? ⟨wr.heap.size,0,none⟩=some (.int .i64 x.sn)∧W.cell? ⟨wr.heap.size,1,none⟩=some (.bool x.part)∧W.cell? ⟨wr.heap.size,2,none⟩=some (.int .i64 x.fr)∧W.cell? ⟨wr.heap.size,3,none⟩=some (.int .i64 x.lt)∧W.cell? (ad.add (k*4))=some (.int .i64 m.sn)∧W.cell? ⟨(ad.add (k*4)).block,(ad.add (k*4)).off+1,none⟩=some (.bool m.part)∧W.cell? ⟨(ad.add (k*4)).block,(ad.add (k*4)).off+2,none⟩=some (.int .i64 m.fr)∧W.cell? ⟨(ad.add (k*4)).block,(ad.add (k*4)).off+3,none⟩=some (.int .i64 m.lt):=fun W hW=>by
          have b0:=qy.out.below hW qy.out.lt;have b1:=xW.out.below hW xW.out.lt;obtain ⟨y0,y1,y2,y3⟩:=b1.gZ;have hbk:(ad.add (k*4)).block<w6.heap.size:=by rw[block_add];exact Cy
          exact ⟨b0.cell 0,b0.cell 1,y0,y1,y2,y3,(hW.cell hbk).trans n0,(hW.cell (p:=⟨(ad.add (k*4)).block,_,none⟩) hbk).trans n1,(hW.cell (p:=⟨(ad.add (k*4)).block,_,none⟩) hbk).trans n2,(hW.cell (p:=⟨(ad.add (k*4)).block,_,none⟩) hbk).trans n3⟩
         have hfo:=fun (W:World)=>sH W (x1:Int) m x
         unfold jU at hfo;clear yM HS;have HS:=Lib.hid ic;have yM:=Lib.hid (fun (W:World) (hb:Below w6.drew.heap.size w6.drew W)=>ic W (MS.out W hb));have HBC:=Lib.hid (fun (W W':World) (hb:Below w6.drew.heap.size w6.drew W) (hb2:Below W.heap.size W W')=>(MS.out W hb).trans (hb2.mono (MS.out W hb).size));have Qe:=Lib.hid (fun (W W':World) (hb:Below w6.drew.heap.size w6.drew W) (hb2:Below W.heap.size W W')=>ic W' ((MS.out W hb).trans (hb2.mono (MS.out W hb).size)));have Oj:=Lib.hid hfo;have HM:=Lib.hid hgl;have hne0:((k:Int)+1==0)=false:=by simp;omega
         have X6:decide ((k:Int)+1<512)=true:=decide_eq_true (by omega);have X7:decide (k+1<512)=true:=decide_eq_true (by omega);have hwk:IntKind.i64.wrap (k:Int)=(k:Int):=IntWalk.i64_in _ (by omega);have hk0:(0:Int)≤k:=by omega
         have hk1:(k:Int)<k+1:=by omega
         clear ic hfo hgl hm X5 hcl n0 n1 n2 n3 hlp XZ;cases hF:kW (x1:Int) m x with
         |false=>
          rw[hF] at Oj;have uQ:R= .inl 9:=by
           have h1:=XY.out;rw[if_neg (by unfold uL;rw[HM.out];dsimp only;rw[hF];simp)] at h1;have h2:=HR3.out;rw[←h1] at h2;exact h2.symm
          have Bj:=Lib.hid uQ;clear uQ hF;refine Code.wp_mono (Q:=bY (.pointer (some ⟨w.heap.size,0,none⟩)) (.pointer (some ⟨w.heap.size+1,0,none⟩)) [{target:= .fn (.func 133) #[.pointer (some ⟨w.heap.size,0,none⟩),.pointer (some ⟨w.heap.size+1,0,none⟩)],args:= #[]}] (fun e W=>e= .panic [{v:= .iface 53 (.int .i64 9),recovered:=false}]∧Below w6.heap.size w6 W)) (fun e a W h=> ?_) ?_
          ·cases e with
           |panic c8=>
            obtain ⟨h2,h3,hd,he,hb⟩:=h;cases he;obtain ⟨T,D⟩:=a;dsimp only at h2 h3 hd;subst hd;exact iX w W R 9 T _ _ _ h2 h3 (qy.out.below hb qy.out.lt) (Am.out.below hb Am.out.lt) (Hy.out.trans (hb.mono Hy.out.size)) Bj.out
           |_=>exact (h:False).elim
          refine aY (fun w'=>w'.cell? ⟨w.heap.size,0,none⟩=some (.int .i64 x1)∧w'.cell? ⟨w.heap.size,1,none⟩=some (.slice (some ad) (k+1) cv)∧w'.cell? ⟨wr.heap.size,0,none⟩=some (.int .i64 x.sn)∧w'.cell? ⟨wr.heap.size,1,none⟩=some (.bool x.part)∧w'.cell? ⟨wr.heap.size,2,none⟩=some (.int .i64 x.fr)∧w'.cell? ⟨wr.heap.size,3,none⟩=some (.int .i64 x.lt)∧w'.cell? (ad.add (k*4))=some (.int .i64 m.sn)∧w'.cell? ⟨(ad.add (k*4)).block,(ad.add (k*4)).off+1,none⟩=some (.bool m.part)∧w'.cell? ⟨(ad.add (k*4)).block,(ad.add (k*4)).off+2,none⟩=some (.int .i64 m.fr)∧w'.cell? ⟨(ad.add (k*4)).block,(ad.add (k*4)).off+3,none⟩=some (.int .i64 m.lt)) [] (by kernel_rfl) ?_;have hHeld:=HS.out _ VT.out;refine aj (i:=0) (v:= ?_) rfl (by kernel_rfl) (by kernel_rfl) (by kernel_rfl) (by kernel_rfl) (bY.put (by decide) (by decide)) (Or.inl ⟨by rfl,?_⟩) hHeld ?_;rotate_left
          ·intro w' hSw;go_simp
           try with_reducible rfl
          try simp only[Act.put,aB,aC,ax,ay,aA]
          refine aj (i:=1) (v:= ?_) rfl (by kernel_rfl) (by kernel_rfl) (by kernel_rfl) (by kernel_rfl) (bY.put (by decide) (by decide)) (Or.inl ⟨by rfl,?_⟩) hHeld ?_;rotate_left
          ·intro w' hSw;go_simp
           try with_reducible rfl
          try simp only[Act.put,aB,aC,aD,ax,ay,aA]
          refine aj (i:=2) (v:= ?_) rfl (by kernel_rfl) (by kernel_rfl) (by kernel_rfl) (by kernel_rfl) (bY.put (by decide) (by decide)) (Or.inl ⟨by rfl,?_⟩) hHeld ?_;rotate_left
          ·intro w' hSw;go_simp
           try with_reducible rfl
          try simp only[Act.put,aB,aC,aD,ax,ay,aA]
          refine aj (i:=3) (v:= ?_) rfl (by kernel_rfl) (by kernel_rfl) (by kernel_rfl) (by kernel_rfl) (bY.put (by decide) (by decide)) (Or.inl ⟨by rfl,?_⟩) hHeld ?_;rotate_left
          ·intro w' hSw;go_simp
           try with_reducible rfl
          try simp only[Act.put,aB,aC,aD,ax,ay,aA]
          refine fB [] (i:=4) (v:= ?_) rfl (by kernel_rfl) (by kernel_rfl) (by kernel_rfl) (by kernel_rfl) (bY.put (by decide) (by decide)) (Or.inl ⟨by rfl,?_⟩) hHeld ?_;rotate_left
          ·intro w' hSw;obtain ⟨hS1,hS2,fU,kI,hS5,mU,qE,rU,rV,ic⟩:=hSw;go_simp
           try with_reducible rfl
          try simp only[Act.put,aB,aC,aD,ax,ay,aA]
          refine fB [] (i:=5) (v:= ?_) rfl (by kernel_rfl) (by kernel_rfl) (by kernel_rfl) (by kernel_rfl) (bY.put (by decide) (by decide)) (Or.inl ⟨by rfl,?_⟩) hHeld ?_;rotate_left
          ·intro w' hSw;obtain ⟨hS1,hS2,fU,kI,hS5,mU,qE,rU,rV,ic⟩:=hSw;go_simp
           try with_reducible rfl
          try simp only[Act.put,aB,aC,aD,ax,ay,aA]
          refine aQ (i:=6) rfl (by kernel_rfl) (by rfl) (fun K hK=> ?_);go_simp;refine (qX.out _).mono ?_;rintro e6 Uh ⟨rfl,hb6⟩;refine hK _ _ (yM.out _ hb6) ?_;have hHeld:=(yM.out _ hb6);clear hK K
          try simp only[Act.put,aB,aC,aD,ax,ay,aA]
          refine aj (i:=7) (v:= ?_) rfl (by kernel_rfl) (by kernel_rfl) (by kernel_rfl) (by kernel_rfl) (bY.put (by decide) (by decide)) (Or.inl ⟨by rfl,?_⟩) hHeld ?_;rotate_left
          ·intro w' hSw;go_simp
           try with_reducible rfl
          try simp only[Act.put,aB,aC,aD,ax,ay,aA]
          refine aj (i:=8) (v:= ?_) rfl (by kernel_rfl) (by kernel_rfl) (by kernel_rfl) (by kernel_rfl) (bY.put (by decide) (by decide)) (Or.inl ⟨by rfl,?_⟩) hHeld ?_;rotate_left
          ·intro w' hSw;go_simp
           try with_reducible rfl
          try simp only[Act.put,aB,aC,aD,ax,ay,aA]
          refine aj (i:=9) (v:= ?_) rfl (by kernel_rfl) (by kernel_rfl) (by kernel_rfl) (by kernel_rfl) (bY.put (by decide) (by decide)) (Or.inl ⟨by rfl,?_⟩) hHeld ?_;rotate_left
          ·intro w' hSw;go_simp
           try with_reducible rfl
          try simp only[Act.put,aB,aC,aD,ax,ay,aA]
          refine aj (i:=10) (v:= ?_) rfl (by kernel_rfl) (by kernel_rfl) (by kernel_rfl) (by kernel_rfl) (bY.put (by decide) (by decide)) (Or.inl ⟨by rfl,?_⟩) hHeld ?_;rotate_left
          ·intro w' hSw;go_simp
           try with_reducible rfl
          try simp only[Act.put,aB,aC,aD,ax,ay,aA]
          refine aj (i:=11) (v:= ?_) rfl (by kernel_rfl) (by kernel_rfl) (by kernel_rfl) (by kernel_rfl) (bY.put (by decide) (by decide)) (Or.inl ⟨by rfl,?_⟩) hHeld ?_;rotate_left
          ·intro w' hSw;go_simp
           try with_reducible rfl
          try simp only[Act.put,aB,aC,aD,ax,ay,aA]
          refine aj (i:=12) (v:= ?_) rfl (by kernel_rfl) (by kernel_rfl) (by kernel_rfl) (by kernel_rfl) (bY.put (by decide) (by decide)) (Or.inl ⟨by rfl,?_⟩) hHeld ?_;rotate_left
          ·intro w' hSw;go_simp
           try with_reducible rfl
          try simp only[Act.put,aB,aC,aD,ax,ay,aA]
          refine fB [] (i:=13) (v:= ?_) rfl (by kernel_rfl) (by kernel_rfl) (by kernel_rfl) (by kernel_rfl) (bY.put (by decide) (by decide)) (Or.inl ⟨by rfl,?_⟩) hHeld ?_;rotate_left
          ·intro w' hSw;obtain ⟨hS1,hS2,fU,kI,hS5,mU,qE,rU,rV,ic⟩:=hSw;go_simp
           try with_reducible rfl
          try simp only[Act.put,aB,aC,aD,ax,ay,aA]
          refine aj (i:=14) (v:= ?_) rfl (by kernel_rfl) (by kernel_rfl) (by kernel_rfl) (by kernel_rfl) (bY.put (by decide) (by decide)) (Or.inl ⟨by rfl,?_⟩) hHeld ?_;rotate_left
          ·intro w' hSw;go_simp
           try with_reducible rfl
          try simp only[Act.put,aB,aC,aD,ax,ay,aA]
          refine fB [] (i:=15) (v:= ?_) rfl (by kernel_rfl) (by kernel_rfl) (by kernel_rfl) (by kernel_rfl) (bY.put (by decide) (by decide)) (Or.inl ⟨by rfl,?_⟩) hHeld ?_;rotate_left
          ·intro w' hSw;obtain ⟨hS1,hS2,fU,kI,hS5,mU,qE,rU,rV,ic⟩:=hSw;go_simp
           try with_reducible rfl
          try simp only[Act.put,aB,aC,aD,ax,ay,aA]
          refine aj (i:=16) (v:= ?_) rfl (by kernel_rfl) (by kernel_rfl) (by kernel_rfl) (by kernel_rfl) (bY.put (by decide) (by decide)) (Or.inl ⟨by rfl,?_⟩) hHeld ?_;rotate_left
          ·intro w' hSw;go_simp
           try with_reducible rfl
          try simp only[Act.put,aB,aC,aD,ax,ay,aA]
          refine aj (i:=17) (v:= ?_) rfl (by kernel_rfl) (by kernel_rfl) (by kernel_rfl) (by kernel_rfl) (bY.put (by decide) (by decide)) (Or.inl ⟨by rfl,?_⟩) hHeld ?_;rotate_left
          ·intro w' hSw;go_simp
           try with_reducible rfl
          try simp only[Act.put,aB,aC,aD,ax,ay,aA]
          refine aj (i:=18) (v:= ?_) rfl (by kernel_rfl) (by kernel_rfl) (by kernel_rfl) (by kernel_rfl) (bY.put (by decide) (by decide)) (Or.inl ⟨by rfl,?_⟩) hHeld ?_;rotate_left
          ·intro w' hSw;go_simp
           try with_reducible rfl
          try simp only[Act.put,aB,aC,aD,ax,ay,aA]
          refine fB [] (i:=19) (v:= ?_) rfl (by kernel_rfl) (by kernel_rfl) (by kernel_rfl) (by kernel_rfl) (bY.put (by decide) (by decide)) (Or.inl ⟨by rfl,?_⟩) hHeld ?_;rotate_left
          ·intro w' hSw;obtain ⟨hS1,hS2,fU,kI,hS5,mU,qE,rU,rV,ic⟩:=hSw;go_simp
           try with_reducible rfl
          try simp only[Act.put,aB,aC,aD,ax,ay,aA]
          refine fB [] (i:=20) (v:= ?_) rfl (by kernel_rfl) (by kernel_rfl) (by kernel_rfl) (by kernel_rfl) (bY.put (by decide) (by decide)) (Or.inl ⟨by rfl,?_⟩) hHeld ?_;rotate_left
          ·intro w' hSw;obtain ⟨hS1,hS2,fU,kI,hS5,mU,qE,rU,rV,ic⟩:=hSw;go_simp
           try with_reducible rfl
          try simp only[Act.put,aB,aC,aD,ax,ay,aA]
          refine aQ (i:=21) rfl (by kernel_rfl) (by rfl) (fun K hK=> ?_);go_simp;refine (Oj.out _).mono ?_;rintro e7 X8 ⟨rfl,oN⟩;refine hK _ _ (Qe.out _ _ hb6 oN) ?_;have hHeld:=(Qe.out _ _ hb6 oN);clear hK K
          try simp only[Act.put,aB,aC,aD,ax,ay,aA]
          refine aj (i:=22) (v:= ?_) rfl (by kernel_rfl) (by kernel_rfl) (by kernel_rfl) (by kernel_rfl) (bY.put (by decide) (by decide)) (Or.inl ⟨by rfl,?_⟩) hHeld ?_;rotate_left
          ·intro w' hSw;go_simp
           try with_reducible rfl
          try simp only[Act.put,aB,aC,aD,ax,ay,aA]
          refine aj (i:=23) (v:= ?_) rfl (by kernel_rfl) (by kernel_rfl) (by kernel_rfl) (by kernel_rfl) (bY.put (by decide) (by decide)) (Or.inl ⟨by rfl,?_⟩) hHeld ?_;rotate_left
          ·intro w' hSw;go_simp
           try with_reducible rfl
          try simp only[Act.put,aB,aC,aD,ax,ay,aA]
          refine aQ (i:=24) rfl (by kernel_rfl) (by rfl) (fun K hK=> ?_);go_simp;refine (jd 9 _).mono ?_;rintro e8 w8 ⟨rfl,rfl⟩;exact ⟨rfl,rfl,rfl,rfl,HBC.out _ _ hb6 oN⟩
         |true=>
          rw[hF] at Oj;have hg2:oC bs x1 f m' p (acc++ [x])=R2:=by
           have h1:=XY.out;rw[if_pos (by
            unfold uL;rw[HA.out,HM.out];dsimp only;rw[hF,decide_eq_true Hz];rfl)] at h1
           exact h1
          have HGF:=Lib.hid hg2;clear hg2 hF;refine wp_region_noPanic ?_;refine aY (fun w'=>w'.cell? ⟨w.heap.size,0,none⟩=some (.int .i64 x1)∧w'.cell? ⟨w.heap.size,1,none⟩=some (.slice (some ad) (k+1) cv)∧w'.cell? ⟨wr.heap.size,0,none⟩=some (.int .i64 x.sn)∧w'.cell? ⟨wr.heap.size,1,none⟩=some (.bool x.part)∧w'.cell? ⟨wr.heap.size,2,none⟩=some (.int .i64 x.fr)∧w'.cell? ⟨wr.heap.size,3,none⟩=some (.int .i64 x.lt)∧w'.cell? (ad.add (k*4))=some (.int .i64 m.sn)∧w'.cell? ⟨(ad.add (k*4)).block,(ad.add (k*4)).off+1,none⟩=some (.bool m.part)∧w'.cell? ⟨(ad.add (k*4)).block,(ad.add (k*4)).off+2,none⟩=some (.int .i64 m.fr)∧w'.cell? ⟨(ad.add (k*4)).block,(ad.add (k*4)).off+3,none⟩=some (.int .i64 m.lt)) [] (by kernel_rfl) ?_;have hHeld:=HS.out _ VT.out;refine aT 0 ?_ rfl (Or.inl ⟨by rfl,?_⟩) hHeld ?_;rotate_left
          ·intro w' hSw;go_simp
           try with_reducible rfl
          try simp only[Act.put,aB,aC,ax,ay,aA]
          refine aT 1 ?_ rfl (Or.inl ⟨by rfl,?_⟩) hHeld ?_;rotate_left
          ·intro w' hSw;go_simp
           try with_reducible rfl
          try simp only[Act.put,aB,aC,aD,ax,ay,aA]
          refine aT 2 ?_ rfl (Or.inl ⟨by rfl,?_⟩) hHeld ?_;rotate_left
          ·intro w' hSw;go_simp
           try with_reducible rfl
          try simp only[Act.put,aB,aC,aD,ax,ay,aA]
          refine aT 3 ?_ rfl (Or.inl ⟨by rfl,?_⟩) hHeld ?_;rotate_left
          ·intro w' hSw;go_simp
           try with_reducible rfl
          try simp only[Act.put,aB,aC,aD,ax,ay,aA]
          refine iK [] 4 ?_ rfl (Or.inl ⟨by rfl,?_⟩) hHeld ?_;rotate_left
          ·intro w' hSw;obtain ⟨hS1,hS2,fU,kI,hS5,mU,qE,rU,rV,ic⟩:=hSw;go_simp
           try with_reducible rfl
          try simp only[Act.put,aB,aC,aD,ax,ay,aA]
          refine iK [] 5 ?_ rfl (Or.inl ⟨by rfl,?_⟩) hHeld ?_;rotate_left
          ·intro w' hSw;obtain ⟨hS1,hS2,fU,kI,hS5,mU,qE,rU,rV,ic⟩:=hSw;go_simp
           try with_reducible rfl
          try simp only[Act.put,aB,aC,aD,ax,ay,aA]
          refine aQ (i:=6) rfl (by kernel_rfl) (by rfl) (fun K hK=> ?_);go_simp;refine (qX.out _).mono ?_;rintro e6 Uh ⟨rfl,hb6⟩;refine hK _ _ (yM.out _ hb6) ?_;have hHeld:=(yM.out _ hb6);clear hK K
          try simp only[Act.put,aB,aC,aD,ax,ay,aA]
          refine aT 7 ?_ rfl (Or.inl ⟨by rfl,?_⟩) hHeld ?_;rotate_left
          ·intro w' hSw;go_simp
           try with_reducible rfl
          try simp only[Act.put,aB,aC,aD,ax,ay,aA]
          refine aT 8 ?_ rfl (Or.inl ⟨by rfl,?_⟩) hHeld ?_;rotate_left
          ·intro w' hSw;go_simp
           try with_reducible rfl
          try simp only[Act.put,aB,aC,aD,ax,ay,aA]
          refine aT 9 ?_ rfl (Or.inl ⟨by rfl,?_⟩) hHeld ?_;rotate_left
          ·intro w' hSw;go_simp
           try with_reducible rfl
          try simp only[Act.put,aB,aC,aD,ax,ay,aA]
          refine aT 10 ?_ rfl (Or.inl ⟨by rfl,?_⟩) hHeld ?_;rotate_left
          ·intro w' hSw;go_simp
           try with_reducible rfl
          try simp only[Act.put,aB,aC,aD,ax,ay,aA]
          refine aT 11 ?_ rfl (Or.inl ⟨by rfl,?_⟩) hHeld ?_;rotate_left
          ·intro w' hSw;go_simp
           try with_reducible rfl
          try simp only[Act.put,aB,aC,aD,ax,ay,aA]
          refine aT 12 ?_ rfl (Or.inl ⟨by rfl,?_⟩) hHeld ?_;rotate_left
          ·intro w' hSw;go_simp
           try with_reducible rfl
          try simp only[Act.put,aB,aC,aD,ax,ay,aA]
          refine iK [] 13 ?_ rfl (Or.inl ⟨by rfl,?_⟩) hHeld ?_;rotate_left
          ·intro w' hSw;obtain ⟨hS1,hS2,fU,kI,hS5,mU,qE,rU,rV,ic⟩:=hSw;go_simp
           try with_reducible rfl
          try simp only[Act.put,aB,aC,aD,ax,ay,aA]
          refine aT 14 ?_ rfl (Or.inl ⟨by rfl,?_⟩) hHeld ?_;rotate_left
          ·intro w' hSw;go_simp
           try with_reducible rfl
          try simp only[Act.put,aB,aC,aD,ax,ay,aA]
          refine iK [] 15 ?_ rfl (Or.inl ⟨by rfl,?_⟩) hHeld ?_;rotate_left
          ·intro w' hSw;obtain ⟨hS1,hS2,fU,kI,hS5,mU,qE,rU,rV,ic⟩:=hSw;go_simp
           try with_reducible rfl
          try simp only[Act.put,aB,aC,aD,ax,ay,aA]
          refine aT 16 ?_ rfl (Or.inl ⟨by rfl,?_⟩) hHeld ?_;rotate_left
          ·intro w' hSw;go_simp
           try with_reducible rfl
          try simp only[Act.put,aB,aC,aD,ax,ay,aA]
          refine aT 17 ?_ rfl (Or.inl ⟨by rfl,?_⟩) hHeld ?_;rotate_left
          ·intro w' hSw;go_simp
           try with_reducible rfl
          try simp only[Act.put,aB,aC,aD,ax,ay,aA]
          refine aT 18 ?_ rfl (Or.inl ⟨by rfl,?_⟩) hHeld ?_;rotate_left
          ·intro w' hSw;go_simp
           try with_reducible rfl
          try simp only[Act.put,aB,aC,aD,ax,ay,aA]
          refine iK [] 19 ?_ rfl (Or.inl ⟨by rfl,?_⟩) hHeld ?_;rotate_left
          ·intro w' hSw;obtain ⟨hS1,hS2,fU,kI,hS5,mU,qE,rU,rV,ic⟩:=hSw;go_simp
           try with_reducible rfl
          try simp only[Act.put,aB,aC,aD,ax,ay,aA]
          refine iK [] 20 ?_ rfl (Or.inl ⟨by rfl,?_⟩) hHeld ?_;rotate_left
          ·intro w' hSw;obtain ⟨hS1,hS2,fU,kI,hS5,mU,qE,rU,rV,ic⟩:=hSw;go_simp
           try with_reducible rfl
          try simp only[Act.put,aB,aC,aD,ax,ay,aA]
          refine aQ (i:=21) rfl (by kernel_rfl) (by rfl) (fun K hK=> ?_);go_simp;refine (Oj.out _).mono ?_;rintro e7 X8 ⟨rfl,oN⟩;refine hK _ _ (Qe.out _ _ hb6 oN) ?_;have hHeld:=(Qe.out _ _ hb6 oN);clear hK K
          try simp only[Act.put,aB,aC,aD,ax,ay,aA]
          refine aT 22 ?_ rfl (Or.inl ⟨by rfl,?_⟩) hHeld ?_;rotate_left
          ·intro w' hSw;go_simp
           try with_reducible rfl
          try simp only[Act.put,aB,aC,aD,ax,ay,aA]
          refine aT 23 ?_ rfl (Or.inl ⟨by rfl,?_⟩) hHeld ?_;rotate_left
          ·intro w' hSw;go_simp
           try with_reducible rfl
          try simp only[Act.put,aB,aC,aD,ax,ay,aA]
          refine aQ (i:=24) rfl (by kernel_rfl) (by rfl) (fun K hK=> ?_);go_simp;refine (kY 9 _).mono ?_;rintro e8 w8 ⟨rfl,rfl⟩;refine hK _ _ hHeld ?_;have hHeld:=hHeld;clear hK K
          try simp only[Act.put,aB,aC,aD,ax,ay,aA]
          have uj:=Lib.hid (HBC.out _ _ hb6 oN);refine aX (by kernel_rfl) ?_ _;refine NoPanic.normal ?_;have Ui:=Lib.hid (Hy.out.trans (uj.out.mono Hy.out.size));have MU:=Lib.hid (qy.out.below uj.out qy.out.lt);have Uj:=Lib.hid (Am.out.below uj.out Am.out.lt);have Uk:=Lib.hid (Qd.out.below uj.out Qd.out.lt);have zW:Hid (jF X8 r v bs p):=Lib.hid ⟨Kh.out.1.below uj.out Kh.out.1.lt,own_below Kh.out.2 uj.out (Nat.le_refl _)⟩;have yN:=Lib.hid ((own_below MR.out uj.out (Nat.le_refl _)).alloc (.cells (Bz x) 197));have Ul:=Lib.hid (De X8 x);obtain ⟨y0,y1,y2,y3⟩:=(xW.out.below uj.out xW.out.lt).gZ;have z1:=MU.out.cell 1;simp only[List.getElem?_toArray] at z1;have X0:=Lib.hid Ui.out.size;clear hHeld uj;simp only[Bz] at yN Ul;go_wp2_with (at_builtin;refine fQ _ rfl _ _ 131 rfl w.heap.size 197 i0 (.agg #[.int .i64 0,.bool false,.int .i64 0,.int .i64 0]) 32 rH hi hz0 hz1 hz2 rfl (.slice (some ad) (k+1) cv) (k+1) (mG acc) rfl yN.out (some ⟨X8.heap.size,0,none⟩) 1 1 [x] rfl Ul.out ?c3 ?c4 ?c5 ?_)
          case c3=>unfold maxLen;omega
          case c4=>omega
          case c5=>have:=X0.out;simp;omega
          intro v9 w9 yO nZ;have MV:(acc++ [x]).length=k+1+1:=by rw[List.length_append];simp[hl0]
          rw[←tF] at yO;have rJ:w9.ownsRow w.heap.size 197 4 v9 (acc++ [x]).length (mG (acc++ [x])):=by rw[MV];exact yO
          obtain ⟨A9,c9,Lc,_,_⟩:=bI.cK (l:=acc++ [x]) rJ;rw[MV] at Lc;subst Lc;have hnb:∀(g:Nat) (t:TypeId) (cs:Array Value),au (X8.alloc (.cells #[.int .i64 x.sn,.bool x.part,.int .i64 x.fr,.int .i64 x.lt] 197)) g t cs→197≠t→au w9 g t cs:=fun g t cs hb ht=>hb.grown nZ (fun e=>fT yN.out hb ht e.symm)
          have GX:=hnb _ _ _ (MU.out.alloc _) (by decide);have TM:=hnb _ _ _ (Uj.out.alloc _) (by decide);have X3:=hnb _ _ _ (Uk.out.alloc _) (by decide);have Um:jF w9 r v bs p:=by
           refine ⟨hnb _ _ _ (zW.out.1.alloc _) (by decide),(zW.out.2.alloc _).kept nZ ?_⟩;rcases hq:v.ownBlock with _|j
           ·exact .inl rfl
           ·exact .inr (fun e=>BG yN.out (zW.out.2.alloc (.cells #[.int .i64 x.sn,.bool x.part,.int .i64 x.fr,.int .i64 x.lt] 197)) (by decide) e.symm hq)
          have PK:Below w.heap.size w w9:=(Ui.out.alloc Ui.out.size _).grown nZ (by have:=X0.out;simp;omega) (fun j hj=>(yN.out.lt j hj).1);have p1:=GX.cell 1;have f1:=GX.frozen 1;have X4:=eZ (i:=1) rJ GX (by decide) (.slice A9 (k+1+1) c9);have Dg:=GX.av 1 (.slice A9 (k+1+1) c9);have MW:=TM.far (p:=⟨w.heap.size,1,none⟩) (show w.heap.size+1≠w.heap.size by omega) (.slice A9 (k+1+1) c9);have MX:=X3.far (p:=⟨w.heap.size,1,none⟩) (show d≠w.heap.size by omega) (.slice A9 (k+1+1) c9);have MY:jF (w9.setCell ⟨w.heap.size,1,none⟩ (.slice A9 (k+1+1) c9)) r v bs p:=⟨Um.1.far (p:=⟨w.heap.size,1,none⟩) (show r≠w.heap.size by omega) _,aJ (i:=1) Um.2 GX (by decide) _⟩;have MZ:=PK.setCell (p:=⟨w.heap.size,1,none⟩) (Nat.le_refl _) (.slice A9 (k+1+1) c9);have q1:=Dg.cell 1;simp only[List.getElem?_toArray] at p1;simp at Dg q1;have HF:Hid (Ub w bs r d v x1 R2 (acc++ [x]) m' p (.slice A9 (k+1+1) c9) (w9.setCell ⟨w.heap.size,1,none⟩ (.slice A9 (k+1+1) c9))):=Lib.hid ⟨by omega,by rw[MV,show 513-(k+1+1)=f by have:=HFF.out;omega];exact HGF.out,MY,CO.out,by simpa using Dg,MW,MX,X4,MZ⟩;have HQ1:=Lib.hid q1;clear yO rJ nZ hnb GX TM X3 Um PK X4 Dg MW MX MY MZ y0 y1 y2 y3 z1 q1;go_wp2_with fail
          go_roundw
          case rel=>exact ⟨_,_,_,_,rfl,HF.out⟩
          case measure=>
           clear hne0 X6 X7 hwk;have hm0:=HI.out.bp.cell 1;simp only[List.getElem?_toArray] at hm0;rw[HQ1.out,hm0];simp[uE];omega
      ·have XZ:decide ((acc.length:Int)<512)=false:=decide_eq_false (by omega);have uQ:R= .inl 9:=by
        have h1:=XY.out;rw[if_neg (by unfold uL;rw[decide_eq_false Hz];simp)] at h1;have h2:=HR3.out;rw[←h1] at h2;exact h2.symm
       have Bj:=Lib.hid uQ;clear uQ;refine Code.wp_mono (Q:=bY (.pointer (some ⟨w.heap.size,0,none⟩)) (.pointer (some ⟨w.heap.size+1,0,none⟩)) [{target:= .fn (.func 133) #[.pointer (some ⟨w.heap.size,0,none⟩),.pointer (some ⟨w.heap.size+1,0,none⟩)],args:= #[]}] (fun e W=>e= .panic [{v:= .iface 53 (.int .i64 9),recovered:=false}]∧Below w6.heap.size w6 W)) (fun e a W h=> ?_) ?_
       ·cases e with
        |panic c8=>
         obtain ⟨h2,h3,hd,he,hb⟩:=h;cases he;obtain ⟨T,D⟩:=a;dsimp only at h2 h3 hd;subst hd;exact iX w W R 9 T _ _ _ h2 h3 (qy.out.below hb qy.out.lt) (Am.out.below hb Am.out.lt) (Hy.out.trans (hb.mono Hy.out.size)) Bj.out
        |_=>exact (h:False).elim
       refine aY (fun w'=>w'.cell? ⟨w.heap.size,0,none⟩=some (.int .i64 x1)∧w'.cell? ⟨w.heap.size,1,none⟩=some (.slice Av acc.length cv)∧w'.cell? ⟨wr.heap.size,0,none⟩=some (.int .i64 x.sn)∧w'.cell? ⟨wr.heap.size,1,none⟩=some (.bool x.part)∧w'.cell? ⟨wr.heap.size,2,none⟩=some (.int .i64 x.fr)∧w'.cell? ⟨wr.heap.size,3,none⟩=some (.int .i64 x.lt)) [] (by kernel_rfl) ?_;have hHeld:=HS.out _ VT.out;refine aj (i:=0) (v:= ?_) rfl (by kernel_rfl) (by kernel_rfl) (by kernel_rfl) (by kernel_rfl) (bY.put (by decide) (by decide)) (Or.inl ⟨by rfl,?_⟩) hHeld ?_;rotate_left
       ·intro w' hSw;go_simp
        try with_reducible rfl
       try simp only[Act.put,aB,aC,ax,ay,aA]
       refine aj (i:=1) (v:= ?_) rfl (by kernel_rfl) (by kernel_rfl) (by kernel_rfl) (by kernel_rfl) (bY.put (by decide) (by decide)) (Or.inl ⟨by rfl,?_⟩) hHeld ?_;rotate_left
       ·intro w' hSw;go_simp
        try with_reducible rfl
       try simp only[Act.put,aB,aC,aD,ax,ay,aA]
       refine aj (i:=2) (v:= ?_) rfl (by kernel_rfl) (by kernel_rfl) (by kernel_rfl) (by kernel_rfl) (bY.put (by decide) (by decide)) (Or.inl ⟨by rfl,?_⟩) hHeld ?_;rotate_left
       ·intro w' hSw;go_simp
        try with_reducible rfl
       try simp only[Act.put,aB,aC,aD,ax,ay,aA]
       refine aj (i:=3) (v:=undef) rfl (by kernel_rfl) (by kernel_rfl) (by kernel_rfl) (by kernel_rfl) (bY.put (by decide) (by decide)) (Or.inr ⟨by rfl,rfl⟩) hHeld ?_
       try simp only[Act.put,aB,aC,aD,ax,ay,aA]
       refine aj (i:=4) (v:=undef) rfl (by kernel_rfl) (by kernel_rfl) (by kernel_rfl) (by kernel_rfl) (bY.put (by decide) (by decide)) (Or.inr ⟨by rfl,rfl⟩) hHeld ?_
       try simp only[Act.put,aB,aC,aD,ax,ay,aA]
       refine aj (i:=5) (v:=undef) rfl (by kernel_rfl) (by kernel_rfl) (by kernel_rfl) (by kernel_rfl) (bY.put (by decide) (by decide)) (Or.inr ⟨by rfl,rfl⟩) hHeld ?_
       try simp only[Act.put,aB,aC,aD,ax,ay,aA]
       refine aj (i:=6) (v:=undef) rfl (by kernel_rfl) (by kernel_rfl) (by kernel_rfl) (by kernel_rfl) (bY.put (by decide) (by decide)) (Or.inr ⟨by rfl,rfl⟩) hHeld ?_
       try simp only[Act.put,aB,aC,aD,ax,ay,aA]
       refine aj (i:=7) (v:= ?_) rfl (by kernel_rfl) (by kernel_rfl) (by kernel_rfl) (by kernel_rfl) (bY.put (by decide) (by decide)) (Or.inl ⟨by rfl,?_⟩) hHeld ?_;rotate_left
       ·intro w' hSw;go_simp
        try with_reducible rfl
       try simp only[Act.put,aB,aC,aD,ax,ay,aA]
       refine aj (i:=8) (v:= ?_) rfl (by kernel_rfl) (by kernel_rfl) (by kernel_rfl) (by kernel_rfl) (bY.put (by decide) (by decide)) (Or.inl ⟨by rfl,?_⟩) hHeld ?_;rotate_left
       ·intro w' hSw;go_simp
        try with_reducible rfl
       try simp only[Act.put,aB,aC,aD,ax,ay,aA]
       refine aj (i:=9) (v:=undef) rfl (by kernel_rfl) (by kernel_rfl) (by kernel_rfl) (by kernel_rfl) (bY.put (by decide) (by decide)) (Or.inr ⟨by rfl,rfl⟩) hHeld ?_
       try simp only[Act.put,aB,aC,aD,ax,ay,aA]
       refine aj (i:=10) (v:=undef) rfl (by kernel_rfl) (by kernel_rfl) (by kernel_rfl) (by kernel_rfl) (bY.put (by decide) (by decide)) (Or.inr ⟨by rfl,rfl⟩) hHeld ?_
       try simp only[Act.put,aB,aC,aD,ax,ay,aA]
       refine aj (i:=11) (v:=undef) rfl (by kernel_rfl) (by kernel_rfl) (by kernel_rfl) (by kernel_rfl) (bY.put (by decide) (by decide)) (Or.inr ⟨by rfl,rfl⟩) hHeld ?_
       try simp only[Act.put,aB,aC,aD,ax,ay,aA]
       refine aj (i:=12) (v:=undef) rfl (by kernel_rfl) (by kernel_rfl) (by kernel_rfl) (by kernel_rfl) (bY.put (by decide) (by decide)) (Or.inr ⟨by rfl,rfl⟩) hHeld ?_
       try simp only[Act.put,aB,aC,aD,ax,ay,aA]
       refine aj (i:=13) (v:=undef) rfl (by kernel_rfl) (by kernel_rfl) (by kernel_rfl) (by kernel_rfl) (bY.put (by decide) (by decide)) (Or.inr ⟨by rfl,rfl⟩) hHeld ?_
       try simp only[Act.put,aB,aC,aD,ax,ay,aA]
       refine aj (i:=14) (v:=undef) rfl (by kernel_rfl) (by kernel_rfl) (by kernel_rfl) (by kernel_rfl) (bY.put (by decide) (by decide)) (Or.inr ⟨by rfl,rfl⟩) hHeld ?_
       try simp only[Act.put,aB,aC,aD,ax,ay,aA]
       refine aj (i:=15) (v:=undef) rfl (by kernel_rfl) (by kernel_rfl) (by kernel_rfl) (by kernel_rfl) (bY.put (by decide) (by decide)) (Or.inr ⟨by rfl,rfl⟩) hHeld ?_
       try simp only[Act.put,aB,aC,aD,ax,ay,aA]
       refine aj (i:=16) (v:=undef) rfl (by kernel_rfl) (by kernel_rfl) (by kernel_rfl) (by kernel_rfl) (bY.put (by decide) (by decide)) (Or.inr ⟨by rfl,rfl⟩) hHeld ?_
       try simp only[Act.put,aB,aC,aD,ax,ay,aA]
       refine aj (i:=17) (v:=undef) rfl (by kernel_rfl) (by kernel_rfl) (by kernel_rfl) (by kernel_rfl) (bY.put (by decide) (by decide)) (Or.inr ⟨by rfl,rfl⟩) hHeld ?_
       try simp only[Act.put,aB,aC,aD,ax,ay,aA]
       refine aj (i:=18) (v:=undef) rfl (by kernel_rfl) (by kernel_rfl) (by kernel_rfl) (by kernel_rfl) (bY.put (by decide) (by decide)) (Or.inr ⟨by rfl,rfl⟩) hHeld ?_
       try simp only[Act.put,aB,aC,aD,ax,ay,aA]
       refine aj (i:=19) (v:=undef) rfl (by kernel_rfl) (by kernel_rfl) (by kernel_rfl) (by kernel_rfl) (bY.put (by decide) (by decide)) (Or.inr ⟨by rfl,rfl⟩) hHeld ?_
       try simp only[Act.put,aB,aC,aD,ax,ay,aA]
       refine aj (i:=20) (v:=undef) rfl (by kernel_rfl) (by kernel_rfl) (by kernel_rfl) (by kernel_rfl) (bY.put (by decide) (by decide)) (Or.inr ⟨by rfl,rfl⟩) hHeld ?_
       try simp only[Act.put,aB,aC,aD,ax,ay,aA]
       refine aj (i:=21) (v:=undef) rfl (by kernel_rfl) (by kernel_rfl) (by kernel_rfl) (by kernel_rfl) (bY.put (by decide) (by decide)) (Or.inr ⟨by rfl,rfl⟩) hHeld ?_
       try simp only[Act.put,aB,aC,aD,ax,ay,aA]
       refine aj (i:=22) (v:=undef) rfl (by kernel_rfl) (by kernel_rfl) (by kernel_rfl) (by kernel_rfl) (bY.put (by decide) (by decide)) (Or.inr ⟨by rfl,rfl⟩) hHeld ?_
       try simp only[Act.put,aB,aC,aD,ax,ay,aA]
       refine aj (i:=23) (v:= ?_) rfl (by kernel_rfl) (by kernel_rfl) (by kernel_rfl) (by kernel_rfl) (bY.put (by decide) (by decide)) (Or.inl ⟨by rfl,?_⟩) hHeld ?_;rotate_left
       ·intro w' hSw;go_simp
        try with_reducible rfl
       try simp only[Act.put,aB,aC,aD,ax,ay,aA]
       refine aQ (i:=24) rfl (by kernel_rfl) (by rfl) (fun K hK=> ?_);go_simp;refine (jd 9 _).mono ?_;rintro e8 w8 ⟨rfl,rfl⟩;exact ⟨rfl,rfl,rfl,rfl,VT.out⟩
    |false=>
     have Ex:R2= .inr (acc,q):=by
      rw[←hI.go_];cases 513-acc.length<;>rfl
     have Ja:=HR3.out;rw[Ex] at Ja;dsimp only at Ja;have hen:=L9 r v bs q wr hI.rd hI.ql (by omega);by_cases he:CB bs q=true
     ·rw[if_pos he] at Ja hen;have RE:=Lib.hid Ja;have Hf:=Lib.hid hen;clear hI Ja hen he Ex;go_wp2_with fail;refine Hf.out.mono ?_;rintro e5 w5 ⟨rfl,hb5⟩;have lg:=HI.out.bl.trans (hb5.mono HI.out.bl.size);have yx:=HI.out.bp.below hb5 HI.out.bp.lt;have sM:=HI.out.be.below hb5 HI.out.be.lt;have XX:=own_below HI.out.ow hb5 (Nat.le_refl _);have p0:=yx.cell 0;have p1:=yx.cell 1;have k4:=sM.cell 0;have g0:=yx.frozen 0;have g1:=yx.frozen 1;have g4:=sM.frozen 0;simp at p0 p1 k4;have Gf:=Lib.hid lg;have Un:=Lib.hid yx;have wH:=Lib.hid sM;have acA:=Lib.hid XX;clear hb5 lg yx sM XX;go_wp2_with (go_at_call 137;((with_reducible refine (kY _ _).mono ?_);rintro e6 w6 ⟨rfl,rfl⟩));refine leaves_cons (f:=133) (args:= #[.pointer (some ⟨w.heap.size,0,none⟩),.pointer (some ⟨w.heap.size+1,0,none⟩)]) (by simp) (by simp[go_sem]) ?_;refine (GJ _ _ _).mono ?_;rintro e9 u9 w9 ⟨rfl,rfl,rfl⟩;have X9:=((Un.out.av 0 (.int .i64 x1)).av 1 (.slice Av acc.length cv)).far (p:=⟨w.heap.size+1,0,none⟩) (show w.heap.size≠w.heap.size+1 by omega) (.int .i64 0);have Qf:=((wH.out.far (p:=⟨w.heap.size,0,none⟩) (show w.heap.size+1≠w.heap.size by omega) (.int .i64 x1)).far (p:=⟨w.heap.size,1,none⟩) (show w.heap.size+1≠w.heap.size by omega) (.slice Av acc.length cv)).av 0 (.int .i64 0)
      have PK:=((Gf.out.setCell (p:=⟨w.heap.size,0,none⟩) (Nat.le_refl _) (.int .i64 x1)).setCell (p:=⟨w.heap.size,1,none⟩) (Nat.le_refl _) (.slice Av acc.length cv)).setCell (p:=⟨w.heap.size+1,0,none⟩) (show w.heap.size≤w.heap.size+1 by omega) (.int .i64 0);have acB:=eZ (i:=0) (eZ (i:=1) (eZ (i:=0) acA.out Un.out (by decide) (.int .i64 x1)) (Un.out.av 0 (.int .i64 x1)) (by decide) (.slice Av acc.length cv)) (wH.out.far (p:=⟨w.heap.size,0,none⟩) (show w.heap.size+1≠w.heap.size by omega) (.int .i64 x1) |>.far (p:=⟨w.heap.size,1,none⟩) (show w.heap.size+1≠w.heap.size by omega) (.slice Av acc.length cv)) (by decide) (.int .i64 0);obtain ⟨A9,c9,hV9,hnk,hnb⟩:=bI.cK (l:=acc) acB;cases hV9;have q0:=X9.cell 0;have q1:=X9.cell 1;have q4:=Qf.cell 0;simp at q0 q1 q4;refine ⟨.tuple #[.agg #[.int .i64 x1,.slice Av acc.length cv],.int .i64 0],by simp[results,Tryz.results92,go_sem,q0,q1,q4],PK,.inr ⟨x1,acc,Av,cv,RE.out.symm,rfl,hnk,fun ad e=>(hnb ad e).1⟩⟩
     ·rw[if_neg he] at Ja hen;have RE:=Lib.hid Ja.symm;have Hf:=Lib.hid hen;clear hI Ja hen he Ex;go_wp2_with fail;refine Hf.out.mono ?_;rintro e5 w5 ⟨rfl,hb5⟩;have lg:=HI.out.bl.trans (hb5.mono HI.out.bl.size);have yx:=HI.out.bp.below hb5 HI.out.bp.lt;have sM:=HI.out.be.below hb5 HI.out.be.lt;clear hb5;go_wp2_with (go_at_call 137;((with_reducible refine (jd _ _).mono ?_);rintro e6 w6 ⟨rfl,rfl⟩));exact iX w _ R 9 _ _ _ _ rfl rfl yx sM lg RE.out
  ·rw[if_pos h0] at oF;have HR1:=Lib.hid oF.symm;have hx0:((x0:Int)==0)=false:=by simp;omega
   clear oF h0;go_wp2_with (first|(go_at_call 135;((with_reducible refine (sJ _ _ _ _).mono ?_);rintro e4 w4 ⟨rfl,rfl⟩))|(go_at_call 137;((with_reducible refine (jd _ _).mono ?_);rintro e4 w4 ⟨rfl,rfl⟩)));exact iX w _ R 9 _ _ _ _ rfl rfl uR nK hB3 HR1.out
end
end Go.Proofs.YtbhiklnljiehiaaGreat
