/- status.Decode. -/
import Derived.Test.YtbhiklnljiehiaaGreatM2be
namespace Go.Proofs.YtbhiklnljiehiaaGreat
section
open Go.RowKit Go.Shelf
attribute [local go_sem] Oper.semAt_some
def cZ (p q:Value) (ds:List Deferred) (S:Exit→World→Prop):Exit→Act→World→Prop
 | .panic c,a,w=>a.tmps[2]? =some p∧a.tmps[3]? =some q∧a.defers=ds∧S (.panic c) w
 |_,_,_=>False
theorem cZ.put {p q v:Value} {ds:List Deferred} {S:Exit→World→Prop} {d:Nat} (h2:d≠2) (h3:d≠3):∀c a w,cZ p q ds S (.panic c) (a.put (some d) v) w→cZ p q ds S (.panic c) a w:=fun c a w h=>by
 obtain ⟨e2,e3,e4,e5⟩:=h;simp only[Act.put] at e2 e3 e4;rw[Array.getElem?_setIfInBounds_ne h2] at e2;rw[Array.getElem?_setIfInBounds_ne h3] at e3;exact ⟨e2,e3,e4,e5⟩
structure WS (w:World) (bs:List UInt8) (r d:Nat) (v:Value) (x1:Nat) (R2:Sum Nat (List Nk × Nat)) (acc:List Nk) (more:Bool) (q:Nat) (V:Value) (W:World):Prop where
 al:acc.length≤512
 go_:oQ bs x1 (513-acc.length) more q acc=R2
 rd:jO W r v bs q
 ql:q≤8*bs.length
 bp:au W w.heap.size 133 #[.int .i64 x1,V]
 be:au W (w.heap.size+1) 53 #[.int .i64 0]
 bd:au W d 219 #[.pointer (some ⟨r,0,none⟩)]
 ow:W.ownsRow w.heap.size 197 4 V acc.length (mW acc)
 bl:Below w.heap.size w W
theorem CU {w:World} {b b' s s' n n':Nat} {e e':TypeId} {v v':Value} {xs xs':List Value} (h:w.ownsRow b e s v n xs) (h':w.ownsRow b' e' s' v' n' xs') (hne:e≠e') {k:Nat} (hk:v.ownBlock=some k):v'.ownBlock≠some k:=by
 intro hk';rcases h.2 with ⟨rfl,_⟩|⟨q,cap,cur,rfl,q1,q2,_⟩
 ·cases hk
 ·rcases h'.2 with ⟨rfl,_⟩|⟨q',cap',cur',rfl,q1',q2',_⟩
  ·cases hk'
  ·have e1:q=k:=by injection hk
   have e2:q'=k:=by injection hk'
   subst e1 e2;rw[q2] at q2';cases q2';exact hne rfl
theorem Mm (bs:List UInt8) {q p:Nat} {x:Nk} {m:Bool} (h:I6 bs q=some (x,m,p)):p≤8*bs.length:=by
 unfold I6 at h;split at h
 ·cases h
 split at h
 ·split at h
  ·cases h
  ·cases h;omega
 ·cases h;omega
set_option maxRecDepth 100000 in
set_option maxHeartbeats 8000000 in
theorem Gm (A:Option Addr) (n cc:Nat) (bs:List UInt8) (w:World) (h:Sl w w.heap.size A n cc (bO bs)) (hsm:n≤1000000):
 Calls Tryz.prog 92 #[.slice A n cc] w (I9 w (oU bs)):=by
 have hlen:bs.length=n:=by simpa using h.len
 obtain ⟨i0,hi,hz0,hz1,hz2⟩:=qw;obtain ⟨R,hR⟩:∃R,oU bs=R:=⟨_,rfl⟩
 rw[hR];have HR:=ah hR;clear hR;have hB0:=((Below.refl w.heap.size w).alloc (aN) (.cells #[.int .i64 0,.slice none 0 0] 133)).alloc (by simp) (.cells #[.int .i64 0] 53);have hs0:=(h.below hB0).more hB0.size;have hnr:=ru A n cc bs _ hs0 (by omega);have ZT:=ah hnr;have HB0:=ah hB0;have pG:=ah hsm;have jw:=ah hlen;clear hnr hB0 hs0 hsm hlen
 go_enter_defers Tryz.func92,Tryz.ntmps92
 go_wp2_with fail;refine ZT.out.mono ?_;rintro e1 w1 ⟨r,v,rfl,hr,hrd,hb1⟩;have OV:au ((w.alloc (.cells #[.int .i64 0,.slice none 0 0] 133)).alloc (.cells #[.int .i64 0] 53)) w.heap.size 133 #[.int .i64 0,.slice none 0 0]:=(au.new w _ _).alloc _;have xE:au ((w.alloc (.cells #[.int .i64 0,.slice none 0 0] 133)).alloc (.cells #[.int .i64 0] 53)) (w.heap.size+1) 53 #[.int .i64 0]:=by simpa using au.new (w.alloc (.cells #[.int .i64 0,.slice none 0 0] 133)) 53 #[.int .i64 0]
 have ZU:=OV.below hb1 OV.lt;have tq:=xE.below hb1 xE.lt;have hB1:Below w.heap.size w w1:=HB0.out.trans (hb1.mono HB0.out.size);have aeB:w.heap.size+1<r:=by simp at hr;omega
 have hrl:=hrd.1.lt;clear OV xE hb1 hr ZT HB0;have hW2:∃w2,(w1.alloc (.cells #[.pointer (some ⟨r,0,none⟩)] 219)).alloc (.cells #[.int .i64 4,.int .i64 10,.int .i64 1] 3)=w2:=⟨_,rfl⟩
 obtain ⟨w2,hw2⟩:=hW2;have NG:au w2 w.heap.size 133 #[.int .i64 0,.slice none 0 0]:=by rw[←hw2];exact (ZU.alloc _).alloc _
 have pK:au w2 (w.heap.size+1) 53 #[.int .i64 0]:=by rw[←hw2];exact (tq.alloc _).alloc _
 have hB2:Below w.heap.size w w2:=by rw[←hw2];exact (hB1.alloc hB1.size _).alloc (by have:=hB1.size;simp;omega) _
 have si:jO w2 r v bs 0:=by rw[←hw2];exact ⟨(hrd.1.alloc _).alloc _,(hrd.2.alloc _).alloc _⟩
 have hd2:au w2 w1.heap.size 219 #[.pointer (some ⟨r,0,none⟩)]:=by rw[←hw2];exact (au.new w1 _ _).alloc _
 have hb2:au w2 (w1.heap.size+1) 3 (iR [4,10,1]).toArray:=by
  rw[←hw2];have:=au.new (w1.alloc (.cells #[.pointer (some ⟨r,0,none⟩)] 219)) 3 #[.int .i64 4,.int .i64 10,.int .i64 1];rw[World.size_alloc] at this;exact this
 have aeT:w2.heap.size=w1.heap.size+2:=by rw[←hw2];simp
 go_wp2_with fail;clear hrd ZU tq hB1 hw2;generalize w1.heap.size=d at*;have hbl:bs.length≤1000000:=by have:=jw.out;have:=pG.out;omega
 by_cases h2:8*bs.length<15
 ·have rE:R= .inl 5:=by rw[←HR.out];unfold oU;rw[if_pos h2]
  have wN:=ah rE;clear rE;have hga:=jB r (d+1) v bs 0 [4,10,1] w2 si (by omega) (by simp) (by simp) hb2 (by omega) (by simp;omega);simp only[List.length_cons,List.length_nil,Nat.zero_add,Nat.reduceAdd] at hga;refine hga.mono ?_;rintro e3 w3 ⟨rfl,lU,hk3⟩;have hB3:Below w.heap.size w w3:=hB2.trans (hk3.below (B:=w.heap.size) (fun k _ e=>by have:=hB2.size;omega) hB2.size);have vP:=NG.kept hk3 (by have:=NG.lt;omega);have nS:=pK.kept hk3 (by have:=pK.lt;omega);clear hga h2 hbl;go_wp2_with (go_at_call 135;((with_reducible refine (vL _ _ _ _ rfl _).mono ?_);rintro e4 w4 ⟨rfl,rfl⟩));exact jf w _ R 5 _ _ _ _ rfl rfl vP nS hB3 wN.out
 ·have hga:=ni r (d+1) v bs 0 [4,10,1] w2 si (by omega) (by simp) (by simp) hb2 (by simp;omega);simp only[List.length_cons,List.length_nil,Nat.zero_add,Nat.reduceAdd] at hga;refine hga.mono ?_;rintro e3 w3 ⟨vo,rfl,gN,lU,hk3⟩;have hB3:Below w.heap.size w w3:=hB2.trans (hk3.below (B:=w.heap.size) (fun k _ e=>by have:=hB2.size;omega) hB2.size);have vP:=NG.kept hk3 (by have:=NG.lt;omega);have nS:=pK.kept hk3 (by have:=pK.lt;omega);have hd3:=hd2.kept hk3 (by have:=hd2.lt;omega);have oV:=HR.out;unfold oU at oV;rw[if_neg h2] at oV;have hgv:getAll bs 0 [4,10,1]= [val (aF bs 0 4),val (aF bs 4 10),val (aF bs 14 1)]:=rfl;rw[hgv] at gN;have hx1:val (aF bs 4 10)<1024:=by have:=pO (aF bs 4 10);rw[fq] at this;exact this
  have aeC:=hd2.lt;have D7:15≤8*bs.length:=by omega
  clear hgv hga hb2 si hB2 NG pK hd2 hk3 h2;simp only[List.length_cons,List.length_nil,Nat.zero_add,Nat.reduceAdd] at gN;rw[show (0:Nat)+ [4,10,1].sum=15 from rfl] at lU;generalize val (aF bs 0 4)=x0 at*;generalize val (aF bs 4 10)=x1 at*;generalize val (aF bs 14 1)=x2 at*;obtain ⟨gl,V9,rfl,hgl,kL⟩:=gN.form (by omega);have l0:w3.cell? ⟨gl,0,none⟩=some (.int .u64 x0):=by have:=gN.cellAt 0 (by omega);simpa[nU] using this
  have l1:w3.cell? ⟨gl,1,none⟩=some (.int .u64 x1):=by have:=gN.cellAt 1 (by omega);simpa[nU] using this
  have l2:w3.cell? ⟨gl,2,none⟩=some (.int .u64 x2):=by have:=gN.cellAt 2 (by omega);simpa[nU] using this
  by_cases h0:x0=0
  ·rw[if_neg (fun e=>e h0)] at oV;have hx0:((x0:Int)==0)=true:=by simp[h0]
   have hxw:IntKind.i64.wrap (x1:Int)=(x1:Int):=by rw[IntKind.wrap_i64];omega
   have hm1:((x2:Int)==1)=decide (x2=1):=by rw[Bool.eq_iff_iff];simp;omega
   have p0:=vP.cell 0;have pf:=vP.frozen 0;simp at p0;have HR1:=ah oV;have HH0:=ah h0;clear oV h0;have akV:gl≠w.heap.size:=by have:=vP.lt;have:=aeT;have:=hB3.size;omega
   have nC:=aI (i:=0) gN vP (by decide) (.int .i64 x1);have q1:(w3.setCell ⟨w.heap.size,0,none⟩ (.int .i64 x1)).cell? ⟨gl,2,none⟩=some (.int .u64 x2):=by have:=nC.cellAt 2 (by omega);simpa[nU] using this
   have UM:=vP.av 0 (.int .i64 x1);have Q7:=nS.far (p:=⟨w.heap.size,0,none⟩) (show w.heap.size+1≠w.heap.size by omega) (.int .i64 x1);have hd4:=hd3.far (p:=⟨w.heap.size,0,none⟩) (show d≠w.heap.size by omega) (.int .i64 x1);have yN:jO (w3.setCell ⟨w.heap.size,0,none⟩ (.int .i64 x1)) r v bs 15:=⟨lU.1.far (p:=⟨w.heap.size,0,none⟩) (show r≠w.heap.size by omega) (.int .i64 x1),aI (i:=0) lU.2 vP (by decide) (.int .i64 x1)⟩;have hB4:=hB3.setCell (p:=⟨w.heap.size,0,none⟩) (aN) (.int .i64 x1);simp at UM;have HBP:=ah UM;have IB:=ah Q7;have NB:=ah hd4;have UF:=ah yN;have BG:=ah hB4;clear UM Q7 hd4 yN hB4 lU hB3 vP nS hd3 nC gN;go_wp2_with (first|(go_at_call 135;((with_reducible refine (uh _ _ _ _).mono ?_);rintro e4 w4 ⟨rfl,rfl⟩))|(go_at_call 137;((with_reducible refine (lG _ _).mono ?_);rintro e4 w4 ⟨rfl,rfl⟩)));generalize w3.setCell ⟨w.heap.size,0,none⟩ (.int .i64 x1)=w4 at*;clear l0 l1 l2 p0 pf q1 hx0 hxw;obtain ⟨R2,hR2⟩:∃R2,oQ bs x1 513 (decide (x2=1)) 15 []=R2:=⟨_,rfl⟩
   have NI:=HR1.out;rw[hR2] at NI;have HR2:=ah hR2;have HR3:=ah NI;clear hR2 NI HR1
   go_loopw [6] (fun m wr=>∃(acc:List Nk) (more:Bool) (q:Nat) (V:Value),m= .bool more∧WS w bs r d v x1 R2 acc more q V wr) (fun _ wr=>513-vz ((wr.cell? ⟨w.heap.size,1,none⟩).getD .nilIface))
   case atStart=>exact ⟨[],decide (x2=1),15,.slice none 0 0,rfl,by simp,by simpa using HR2.out,UF.out,by omega,HBP.out,IB.out,NB.out,World.ownsRow_nil _ _ _ _,BG.out⟩
   case round=>
    obtain ⟨acc,more,q,V,rfl,hI⟩:=hrel;obtain ⟨Av,cv,hV,_,_⟩:=bM.cB (l:=acc) hI.ow;subst hV;have Q6:=hI.bd.cell 0;simp at Q6;have HI:=ah hI;cases more with
    |true=>
     obtain ⟨f,hf⟩:∃f,513-acc.length=f+1:=⟨512-acc.length,by have:=hI.al;omega⟩
     have hgo:=hI.go_;rw[hf] at hgo;simp only[oQ] at hgo;have rH:=ah hgo;have HFF:=ah hf;have WT:jO (wr.alloc (.cells #[.int .i64 0,.bool false,.int .i64 0,.int .i64 0] 197)) r v bs q:=⟨hI.rd.1.alloc _,hI.rd.2.alloc _⟩;have Jn:=ah (I7 r v bs q _ WT hI.ql (by omega));have bn0:=au.new wr 197 #[.int .i64 0,.bool false,.int .i64 0,.int .i64 0];have bd0:=hI.bd.alloc (.cells #[.int .i64 0,.bool false,.int .i64 0,.int .i64 0] 197);have ed0:=bd0.cell 0;simp at ed0;have OV:=hI.bp.alloc (.cells #[.int .i64 0,.bool false,.int .i64 0,.int .i64 0] 197);have xE:=hI.be.alloc (.cells #[.int .i64 0,.bool false,.int .i64 0,.int .i64 0] 197);have ow0:=hI.ow.alloc (.cells #[.int .i64 0,.bool false,.int .i64 0,.int .i64 0] 197);have hB0:=hI.bl.alloc hI.bl.size (.cells #[.int .i64 0,.bool false,.int .i64 0,.int .i64 0] 197);have aah:=gG ow0 WT.1 (by decide);have aeW:=ah (fun k hk=>(hI.ow.lt k hk).2);have akW:=hI.rd.1.lt;have akX:=hI.bd.lt;have hsz:=World.size_alloc wr (.cells #[.int .i64 0,.bool false,.int .i64 0,.int .i64 0] 197);have WU:=ah bn0;have WV:=ah bd0;have Pn:=ah OV;have Po:=ah xE;have WW:=ah ow0;have HB0:=ah hB0;have S7:=ah aah;have Bz:=ah hsz;clear hI hgo hf WT bn0 bd0 OV xE ow0 hB0 aah hsz;go_wp2_with fail;clear ed0 Q6;generalize wr.alloc (.cells #[.int .i64 0,.bool false,.int .i64 0,.int .i64 0] 197)=W0 at*;refine Jn.out.mono ?_;rintro e5 w5 ⟨hk5,⟨hn5,rfl⟩|⟨x,m',p,hs5,rfl,sj⟩⟩
     ·have lI:Below w.heap.size w w5:=HB0.out.trans (hk5.below (B:=w.heap.size) (fun k _ e=>by have:=HB0.out.size;omega) HB0.out.size);have zn:=Pn.out.kept hk5 (by have:=Pn.out.lt;omega);have uk:=Po.out.kept hk5 (by have:=Po.out.lt;omega);have rE:R= .inl 5:=by
       have h1:=rH.out;rw[hn5] at h1;have h2:=HR3.out;rw[←h1] at h2;exact h2.symm
      clear hk5 rH hn5;go_wp2_with fail;exact jf w _ R 5 _ _ _ _ rfl rfl zn uk lI rE
     ·have hpl:=Mm bs hs5;have hg1:=rH.out;rw[hs5] at hg1;dsimp only at hg1;have lI:Below w.heap.size w w5:=HB0.out.trans (hk5.below (B:=w.heap.size) (fun k _ e=>by have:=HB0.out.size;omega) HB0.out.size);have zn:=Pn.out.kept hk5 (by have:=Pn.out.lt;omega);have uk:=Po.out.kept hk5 (by have:=Po.out.lt;omega);have Yz:=WV.out.kept hk5 (by have:=WV.out.lt;omega);have xV:=WU.out.kept hk5 (by have:=WU.out.lt;omega);have ow5:=jA WW.out hk5 (fun k o _ hk e=>by
       rcases e with e|e
       ·subst e;exact S7.out hk
       ·have:=(WW.out.lt k hk).2;omega)
      have hrw:r≠wr.heap.size:=by omega
      have Bu:au ((((w5.setCell ⟨wr.heap.size,0,none⟩ (.int .i64 x.sn)).setCell ⟨wr.heap.size,1,none⟩ (.bool x.part)).setCell ⟨wr.heap.size,2,none⟩ (.int .i64 x.fr)).setCell ⟨wr.heap.size,3,none⟩ (.int .i64 x.lt)) w.heap.size 133 #[.int .i64 x1,.slice Av acc.length cv]:=(iK (by omega) _ _ _ _).trans zn;have NH:au ((((w5.setCell ⟨wr.heap.size,0,none⟩ (.int .i64 x.sn)).setCell ⟨wr.heap.size,1,none⟩ (.bool x.part)).setCell ⟨wr.heap.size,2,none⟩ (.int .i64 x.fr)).setCell ⟨wr.heap.size,3,none⟩ (.int .i64 x.lt)) (w.heap.size+1) 53 #[.int .i64 0]:=(iK (by omega) _ _ _ _).trans uk;have bd6:au ((((w5.setCell ⟨wr.heap.size,0,none⟩ (.int .i64 x.sn)).setCell ⟨wr.heap.size,1,none⟩ (.bool x.part)).setCell ⟨wr.heap.size,2,none⟩ (.int .i64 x.fr)).setCell ⟨wr.heap.size,3,none⟩ (.int .i64 x.lt)) d 219 #[.pointer (some ⟨r,0,none⟩)]:=(iK (by omega) _ _ _ _).trans Yz;have uj:jO ((((w5.setCell ⟨wr.heap.size,0,none⟩ (.int .i64 x.sn)).setCell ⟨wr.heap.size,1,none⟩ (.bool x.part)).setCell ⟨wr.heap.size,2,none⟩ (.int .i64 x.fr)).setCell ⟨wr.heap.size,3,none⟩ (.int .i64 x.lt)) r v bs p:=⟨(iK hrw _ _ _ _).trans sj.1,qf sj.2 xV (by decide) _ _ _ _⟩
      have Sq:Below w.heap.size w ((((w5.setCell ⟨wr.heap.size,0,none⟩ (.int .i64 x.sn)).setCell ⟨wr.heap.size,1,none⟩ (.bool x.part)).setCell ⟨wr.heap.size,2,none⟩ (.int .i64 x.fr)).setCell ⟨wr.heap.size,3,none⟩ (.int .i64 x.lt)):=(((lI.setCell (p:=⟨wr.heap.size,0,none⟩) (by show w.heap.size≤wr.heap.size;omega) _).setCell (p:=⟨wr.heap.size,1,none⟩) (by show w.heap.size≤wr.heap.size;omega) _).setCell (p:=⟨wr.heap.size,2,none⟩) (by show w.heap.size≤wr.heap.size;omega) _).setCell (p:=⟨wr.heap.size,3,none⟩) (by show w.heap.size≤wr.heap.size;omega) _;have ow6:((((w5.setCell ⟨wr.heap.size,0,none⟩ (.int .i64 x.sn)).setCell ⟨wr.heap.size,1,none⟩ (.bool x.part)).setCell ⟨wr.heap.size,2,none⟩ (.int .i64 x.fr)).setCell ⟨wr.heap.size,3,none⟩ (.int .i64 x.lt)).ownsRow w.heap.size 197 4 (.slice Av acc.length cv) acc.length (mW acc):=bX ow5 fun k hk=>iK (by have:=aeW.out k hk;omega) _ _ _ _
      have R7:=xV.R5 (.int .i64 x.sn) (.bool x.part) (.int .i64 x.fr) (.int .i64 x.lt);obtain ⟨m0,m1,m2,m3⟩:=xV.iE;have f0:=xV.frozen 0;have f1:=xV.frozen 1;have f2:=xV.frozen 2;have f3:=xV.frozen 3;have z1:=Bu.cell 1;simp only[List.getElem?_toArray] at z1;have Jw:=ah Sq;have qV:=ah Bu;have BH:=ah NH;have S8:=ah bd6;have Mq:=ah uj;have Pp:=ah ow6;have yX:=ah R7;have HG1:=ah hg1;have Bo:=ah hpl;have KG:w5.heap.size=((((w5.setCell ⟨wr.heap.size,0,none⟩ (.int .i64 x.sn)).setCell ⟨wr.heap.size,1,none⟩ (.bool x.part)).setCell ⟨wr.heap.size,2,none⟩ (.int .i64 x.fr)).setCell ⟨wr.heap.size,3,none⟩ (.int .i64 x.lt)).heap.size:=(Ct _ _ _ _).symm;clear hk5 hs5 sj hg1 lI zn uk Yz xV ow5 Bu NH bd6 uj Sq ow6 R7 hpl Jn rH WU WV Pn Po WW HB0 S7 Bz;unfold j6;go_upto_region 11 with fail
      clear m0 m1 m2 m3 f0 f1 f2 f3 z1;generalize (((w5.setCell ⟨wr.heap.size,0,none⟩ (.int .i64 x.sn)).setCell ⟨wr.heap.size,1,none⟩ (.bool x.part)).setCell ⟨wr.heap.size,2,none⟩ (.int .i64 x.fr)).setCell ⟨wr.heap.size,3,none⟩ (.int .i64 x.lt)=w6 at*;have hS:∀W,Below w6.heap.size w6 W→W.cell? ⟨w.heap.size,0,none⟩=some (.int .i64 x1)∧W.cell? ⟨w.heap.size,1,none⟩=some (.slice Av acc.length cv)∧W.cell? ⟨wr.heap.size,0,none⟩=some (.int .i64 x.sn)∧W.cell? ⟨wr.heap.size,1,none⟩=some (.bool x.part)∧W.cell? ⟨wr.heap.size,2,none⟩=some (.int .i64 x.fr)∧W.cell? ⟨wr.heap.size,3,none⟩=some (.int .i64 x.lt):=fun W hW=>by
       have b0:=qV.out.below hW qV.out.lt;have b1:=yX.out.below hW yX.out.lt;obtain ⟨y0,y1,y2,y3⟩:=b1.iE;exact ⟨b0.cell 0,b0.cell 1,y0,y1,y2,y3⟩
      have HS:=ah hS;have zG:=ah (fun (W:World) (hb:Below w6.drew.heap.size w6.drew W)=>hS W ((Below.refl _ w6).drew.trans hb));have hal:=fun (W:World)=>yU W (x1:Int) x
      unfold j6 at hal;have r9:=ah hal;have YJ:=ah (Below.refl w6.heap.size w6).drew;have Pq:=ah (fun (W:World) (hb:Below w6.drew.heap.size w6.drew W)=>(Below.refl w6.heap.size w6).drew.trans hb);clear hS hal;have akY:=HI.out.al;by_cases Jy:acc.length<512
      ·have aak:decide ((acc.length:Int)<512)=true:=decide_eq_true (by omega);cases hA:iD (x1:Int) x with
       |false=>
        rw[hA] at r9;have Bp:R= .inl 9:=by
         have h1:=HG1.out;rw[if_neg (by unfold vK;rw[hA];simp)] at h1;have h2:=HR3.out;rw[←h1] at h2;exact h2.symm
        have Cv:=ah Bp;clear Bp hA;refine Code.wp_mono (Q:=cZ (.pointer (some ⟨w.heap.size,0,none⟩)) (.pointer (some ⟨w.heap.size+1,0,none⟩)) [{target:= .fn (.func 133) #[.pointer (some ⟨w.heap.size,0,none⟩),.pointer (some ⟨w.heap.size+1,0,none⟩)],args:= #[]}] (fun e W=>e= .panic [{v:= .iface 53 (.int .i64 9),recovered:=false}]∧Below w6.heap.size w6 W)) (fun e a W h=> ?_) ?_
        ·cases e with
         |panic c8=>
          obtain ⟨h2,h3,hd,he,hb⟩:=h;cases he;obtain ⟨T,D⟩:=a;dsimp only at h2 h3 hd;subst hd;exact jf w W R 9 T _ _ _ h2 h3 (qV.out.below hb qV.out.lt) (BH.out.below hb BH.out.lt) (Jw.out.trans (hb.mono Jw.out.size)) Cv.out
         |_=>exact (h:False).elim
        refine aZ (fun w'=>w'.cell? ⟨w.heap.size,0,none⟩=some (.int .i64 x1)∧w'.cell? ⟨w.heap.size,1,none⟩=some (.slice Av acc.length cv)∧w'.cell? ⟨wr.heap.size,0,none⟩=some (.int .i64 x.sn)∧w'.cell? ⟨wr.heap.size,1,none⟩=some (.bool x.part)∧w'.cell? ⟨wr.heap.size,2,none⟩=some (.int .i64 x.fr)∧w'.cell? ⟨wr.heap.size,3,none⟩=some (.int .i64 x.lt)) [] (by kernel_rfl) ?_;have hHeld:=HS.out _ YJ.out;refine aY 0 rfl hHeld ?_ (hQ:=cZ.put (by decide) (by decide))
        try simp only[Act.put,aB,aC,ax,ay,aA]
        refine aY 1 rfl hHeld ?_ (hQ:=cZ.put (by decide) (by decide))
        try simp only[Act.put,aB,aC,aD,ax,ay,aA]
        refine aY 2 rfl hHeld ?_ (hQ:=cZ.put (by decide) (by decide))
        try simp only[Act.put,aB,aC,aD,ax,ay,aA]
        refine aY 3 rfl hHeld ?_ (hQ:=cZ.put (by decide) (by decide))
        try simp only[Act.put,aB,aC,aD,ax,ay,aA]
        refine gV [] 4 ?_ rfl (Or.inl ⟨by rfl,?_⟩) hHeld ?_ (hQ:=cZ.put (by decide) (by decide));rotate_left
        ·intro w' hSw;obtain ⟨hS1,hS2,gH,kS,hS5,nA⟩:=hSw;go_simp
         try with_reducible rfl
        try simp only[Act.put,aB,aC,aD,ax,ay,aA]
        refine gV [] 5 ?_ rfl (Or.inl ⟨by rfl,?_⟩) hHeld ?_ (hQ:=cZ.put (by decide) (by decide));rotate_left
        ·intro w' hSw;obtain ⟨hS1,hS2,gH,kS,hS5,nA⟩:=hSw;go_simp
         try with_reducible rfl
        try simp only[Act.put,aB,aC,aD,ax,ay,aA]
        refine aR (i:=6) rfl (by kernel_rfl) (by rfl) (fun K hK=> ?_);go_simp;refine (r9.out _).mono ?_;rintro e6 WX ⟨rfl,hb6⟩;refine hK _ _ (zG.out _ hb6) ?_;have hHeld:=(zG.out _ hb6);clear hK K
        try simp only[Act.put,aB,aC,aD,ax,ay,aA]
        refine aY 7 rfl hHeld ?_ (hQ:=cZ.put (by decide) (by decide))
        try simp only[Act.put,aB,aC,aD,ax,ay,aA]
        refine aY 8 rfl hHeld ?_ (hQ:=cZ.put (by decide) (by decide))
        try simp only[Act.put,aB,aC,aD,ax,ay,aA]
        refine jL 9 rfl hHeld ?_ (hQ:=cZ.put (by decide) (by decide))
        try simp only[Act.put,aB,aC,aD,ax,ay,aA]
        refine jL 10 rfl hHeld ?_ (hQ:=cZ.put (by decide) (by decide))
        try simp only[Act.put,aB,aC,aD,ax,ay,aA]
        refine jL 11 rfl hHeld ?_ (hQ:=cZ.put (by decide) (by decide))
        try simp only[Act.put,aB,aC,aD,ax,ay,aA]
        refine jL 12 rfl hHeld ?_ (hQ:=cZ.put (by decide) (by decide))
        try simp only[Act.put,aB,aC,aD,ax,ay,aA]
        refine jL 13 rfl hHeld ?_ (hQ:=cZ.put (by decide) (by decide))
        try simp only[Act.put,aB,aC,aD,ax,ay,aA]
        refine jL 14 rfl hHeld ?_ (hQ:=cZ.put (by decide) (by decide))
        try simp only[Act.put,aB,aC,aD,ax,ay,aA]
        refine jL 15 rfl hHeld ?_ (hQ:=cZ.put (by decide) (by decide))
        try simp only[Act.put,aB,aC,aD,ax,ay,aA]
        refine jL 16 rfl hHeld ?_ (hQ:=cZ.put (by decide) (by decide))
        try simp only[Act.put,aB,aC,aD,ax,ay,aA]
        refine jL 17 rfl hHeld ?_ (hQ:=cZ.put (by decide) (by decide))
        try simp only[Act.put,aB,aC,aD,ax,ay,aA]
        refine jL 18 rfl hHeld ?_ (hQ:=cZ.put (by decide) (by decide))
        try simp only[Act.put,aB,aC,aD,ax,ay,aA]
        refine jL 19 rfl hHeld ?_ (hQ:=cZ.put (by decide) (by decide))
        try simp only[Act.put,aB,aC,aD,ax,ay,aA]
        refine jL 20 rfl hHeld ?_ (hQ:=cZ.put (by decide) (by decide))
        try simp only[Act.put,aB,aC,aD,ax,ay,aA]
        refine jL 21 rfl hHeld ?_ (hQ:=cZ.put (by decide) (by decide))
        try simp only[Act.put,aB,aC,aD,ax,ay,aA]
        refine jL 22 rfl hHeld ?_ (hQ:=cZ.put (by decide) (by decide))
        try simp only[Act.put,aB,aC,aD,ax,ay,aA]
        refine aY 23 rfl hHeld ?_ (hQ:=cZ.put (by decide) (by decide))
        try simp only[Act.put,aB,aC,aD,ax,ay,aA]
        refine aR (i:=24) rfl (by kernel_rfl) (by rfl) (fun K hK=> ?_);go_simp;refine (jo 9 _).mono ?_;rintro e8 w8 ⟨rfl,rfl⟩;exact ⟨rfl,rfl,rfl,rfl,Pq.out _ hb6⟩
       |true=>
        rw[hA] at r9;have HA:=ah hA;clear hA;rcases Nat.eq_zero_or_pos acc.length with hl0|hlp
        ·have hg2:oQ bs x1 f m' p (acc++ [x])=R2:=by
          have h1:=HG1.out;rw[if_pos (by
           unfold vK;rw[HA.out,List.eq_nil_of_length_eq_zero hl0];rfl)] at h1
          exact h1
         have HGF:=ah hg2;clear hg2;rw[hl0] at qV Pp HS zG ⊢;refine wp_region_noPanic ?_;refine aZ (fun w'=>w'.cell? ⟨w.heap.size,0,none⟩=some (.int .i64 x1)∧w'.cell? ⟨w.heap.size,1,none⟩=some (.slice Av 0 cv)∧w'.cell? ⟨wr.heap.size,0,none⟩=some (.int .i64 x.sn)∧w'.cell? ⟨wr.heap.size,1,none⟩=some (.bool x.part)∧w'.cell? ⟨wr.heap.size,2,none⟩=some (.int .i64 x.fr)∧w'.cell? ⟨wr.heap.size,3,none⟩=some (.int .i64 x.lt)) [] (by kernel_rfl) ?_;have hHeld:=HS.out _ YJ.out;refine aY 0 rfl hHeld ?_
         try simp only[Act.put,aB,aC,ax,ay,aA]
         refine aY 1 rfl hHeld ?_
         try simp only[Act.put,aB,aC,aD,ax,ay,aA]
         refine aY 2 rfl hHeld ?_
         try simp only[Act.put,aB,aC,aD,ax,ay,aA]
         refine aY 3 rfl hHeld ?_
         try simp only[Act.put,aB,aC,aD,ax,ay,aA]
         refine gV [] 4 ?_ rfl (Or.inl ⟨by rfl,?_⟩) hHeld ?_;rotate_left
         ·intro w' hSw;obtain ⟨hS1,hS2,gH,kS,hS5,nA⟩:=hSw;go_simp
          try with_reducible rfl
         try simp only[Act.put,aB,aC,aD,ax,ay,aA]
         refine gV [] 5 ?_ rfl (Or.inl ⟨by rfl,?_⟩) hHeld ?_;rotate_left
         ·intro w' hSw;obtain ⟨hS1,hS2,gH,kS,hS5,nA⟩:=hSw;go_simp
          try with_reducible rfl
         try simp only[Act.put,aB,aC,aD,ax,ay,aA]
         refine aR (i:=6) rfl (by kernel_rfl) (by rfl) (fun K hK=> ?_);go_simp;refine (r9.out _).mono ?_;rintro e6 WX ⟨rfl,hb6⟩;refine hK _ _ (zG.out _ hb6) ?_;have hHeld:=(zG.out _ hb6);clear hK K
         try simp only[Act.put,aB,aC,aD,ax,ay,aA]
         refine aY 7 rfl hHeld ?_
         try simp only[Act.put,aB,aC,aD,ax,ay,aA]
         refine aY 8 rfl hHeld ?_
         try simp only[Act.put,aB,aC,aD,ax,ay,aA]
         refine aY 9 rfl hHeld ?_
         try simp only[Act.put,aB,aC,aD,ax,ay,aA]
         refine aY 10 rfl hHeld ?_
         try simp only[Act.put,aB,aC,aD,ax,ay,aA]
         refine aY 11 rfl hHeld ?_
         try simp only[Act.put,aB,aC,aD,ax,ay,aA]
         refine jL 12 rfl hHeld ?_
         try simp only[Act.put,aB,aC,aD,ax,ay,aA]
         refine jL 13 rfl hHeld ?_
         try simp only[Act.put,aB,aC,aD,ax,ay,aA]
         refine jL 14 rfl hHeld ?_
         try simp only[Act.put,aB,aC,aD,ax,ay,aA]
         refine jL 15 rfl hHeld ?_
         try simp only[Act.put,aB,aC,aD,ax,ay,aA]
         refine jL 16 rfl hHeld ?_
         try simp only[Act.put,aB,aC,aD,ax,ay,aA]
         refine jL 17 rfl hHeld ?_
         try simp only[Act.put,aB,aC,aD,ax,ay,aA]
         refine jL 18 rfl hHeld ?_
         try simp only[Act.put,aB,aC,aD,ax,ay,aA]
         refine jL 19 rfl hHeld ?_
         try simp only[Act.put,aB,aC,aD,ax,ay,aA]
         refine jL 20 rfl hHeld ?_
         try simp only[Act.put,aB,aC,aD,ax,ay,aA]
         refine jL 21 rfl hHeld ?_
         try simp only[Act.put,aB,aC,aD,ax,ay,aA]
         refine aY 22 rfl hHeld ?_
         try simp only[Act.put,aB,aC,aD,ax,ay,aA]
         refine aY 23 rfl hHeld ?_
         try simp only[Act.put,aB,aC,aD,ax,ay,aA]
         refine aR (i:=24) rfl (by kernel_rfl) (by rfl) (fun K hK=> ?_);go_simp;refine (lG 9 _).mono ?_;rintro e8 w8 ⟨rfl,rfl⟩;refine hK _ _ hHeld ?_;have hHeld:=hHeld;clear hK K
         try simp only[Act.put,aB,aC,aD,ax,ay,aA]
         have AR:=ah (Pq.out _ hb6);refine bu (by kernel_rfl) ?_ _;refine NoPanic.normal ?_;have WY:=ah (Jw.out.trans (AR.out.mono Jw.out.size));have Ps:=ah (qV.out.below AR.out qV.out.lt);have WZ:=ah (BH.out.below AR.out BH.out.lt);have W9:=ah (S8.out.below AR.out S8.out.lt);have Bj:Hid (jO WX r v bs p):=ah ⟨Mq.out.1.below AR.out Mq.out.1.lt,own_below Mq.out.2 AR.out (aN)⟩;have zH:=ah ((own_below Pp.out AR.out (aN)).alloc (.cells (CJ x) 197));have Xa:=ah (Ei WX x);obtain ⟨y0,y1,y2,y3⟩:=(yX.out.below AR.out yX.out.lt).iE;have z1:=Ps.out.cell 1;simp only[List.getElem?_toArray] at z1;have HZS:=ah WY.out.size;clear hHeld AR;simp only[CJ] at zH Xa;go_wp2_with (at_builtin;refine gF _ rfl _ _ 131 rfl w.heap.size 197 i0 (.agg #[.int .i64 0,.bool false,.int .i64 0,.int .i64 0]) 32 sM hi hz0 hz1 hz2 rfl (.slice Av 0 cv) 0 (mW acc) rfl zH.out (some ⟨WX.heap.size,0,none⟩) 1 1 [x] rfl Xa.out ?c3 ?c4 ?c5 ?_)
         case c3=>unfold maxLen;omega
         case c4=>omega
         case c5=>have:=HZS.out;simp;omega
         intro v9 w9 zI oG;have S9:(acc++ [x]).length=1:=by rw[List.length_append];simp[hl0]
         rw[←uK] at zI;have sN:w9.ownsRow w.heap.size 197 4 v9 (acc++ [x]).length (mW (acc++ [x])):=by rw[S9];exact zI
         obtain ⟨A9,c9,NF,_,_⟩:=bM.cB (l:=acc++ [x]) sN;rw[S9] at NF;subst NF;have hnb:∀(g:Nat) (t:TypeId) (cs:Array Value),au (WX.alloc (.cells #[.int .i64 x.sn,.bool x.part,.int .i64 x.fr,.int .i64 x.lt] 197)) g t cs→197≠t→au w9 g t cs:=fun g t cs hb ht=>hb.grown oG (fun e=>gG zH.out hb ht e.symm)
         have Jg:=hnb _ _ _ (Ps.out.alloc _) (by decide);have WB:=hnb _ _ _ (WZ.out.alloc _) (by decide);have bd9:=hnb _ _ _ (W9.out.alloc _) (by decide);have Xb:jO w9 r v bs p:=by
          refine ⟨hnb _ _ _ (Bj.out.1.alloc _) (by decide),(Bj.out.2.alloc _).kept oG ?_⟩;rcases hq:v.ownBlock with _|j
          ·exact .inl rfl
          ·exact .inr (fun e=>CU zH.out (Bj.out.2.alloc (.cells #[.int .i64 x.sn,.bool x.part,.int .i64 x.fr,.int .i64 x.lt] 197)) (by decide) e.symm hq)
         have Sr:Below w.heap.size w w9:=(WY.out.alloc WY.out.size _).grown oG (by have:=HZS.out;simp;omega) (fun j hj=>(zH.out.lt j hj).1);have p1:=Jg.cell 1;have f1:=Jg.frozen 1;have ow9:=fC (i:=1) sN Jg (by decide) (.slice A9 1 c9);have El:=Jg.av 1 (.slice A9 1 c9);have Pt:=WB.far (p:=⟨w.heap.size,1,none⟩) (show w.heap.size+1≠w.heap.size by omega) (.slice A9 1 c9);have Pv:=bd9.far (p:=⟨w.heap.size,1,none⟩) (show d≠w.heap.size by omega) (.slice A9 1 c9);have Pw:jO (w9.setCell ⟨w.heap.size,1,none⟩ (.slice A9 1 c9)) r v bs p:=⟨Xb.1.far (p:=⟨w.heap.size,1,none⟩) (show r≠w.heap.size by omega) _,aI (i:=1) Xb.2 Jg (by decide) _⟩;have Px:=Sr.setCell (p:=⟨w.heap.size,1,none⟩) (aN) (.slice A9 1 c9);have q1:=El.cell 1;simp only[List.getElem?_toArray] at p1;simp at El q1;have HF:Hid (WS w bs r d v x1 R2 (acc++ [x]) m' p (.slice A9 1 c9) (w9.setCell ⟨w.heap.size,1,none⟩ (.slice A9 1 c9))):=ah ⟨by omega,by rw[S9,show 513-1=f by have:=HFF.out;omega];exact HGF.out,Pw,Bo.out,by simpa using El,Pt,Pv,ow9,Px⟩;have HQ1:=ah q1;clear zI sN oG hnb Jg WB bd9 Xb Sr ow9 El Pt Pv Pw Px y0 y1 y2 y3 z1 q1;go_wp2_with fail
         go_roundw
         case rel=>exact ⟨_,_,_,_,rfl,HF.out⟩
         case measure=>
          have hm0:=HI.out.bp.cell 1;simp only[List.getElem?_toArray] at hm0;rw[HQ1.out,hm0];simp[vz];omega
        ·obtain ⟨k,hl0⟩:∃k,acc.length=k+1:=⟨acc.length-1,by omega⟩
         obtain ⟨m,hm⟩:∃m,acc[k]? =some m:=⟨_,List.getElem?_eq_getElem (by omega)⟩
         have hgl:acc.getLast? =some m:=by rw[List.getLast?_eq_getElem?,hl0];exact hm
         obtain ⟨A6,c6,hV6,aao,_⟩:=bM.cB (l:=acc) Pp.out;cases hV6;obtain ⟨ad,hAd,Bh,hcl⟩:=aao.at_ (by omega);subst hAd;obtain ⟨n0,n1,n2,n3⟩:=hcl k m hm;rw[hl0] at qV Pp HS ⊢;have iF:∀W,Below w6.heap.size w6 W→W.cell? ⟨w.heap.size,0,none⟩=some (.int .i64 x1)∧W.cell? ⟨w.heap.size,1,none⟩=some (.slice (some ad) (k+1) cv)∧W.cell? ⟨wr.heap.size,0,none⟩=some (.int .i64 x.sn)∧W.cell? ⟨wr.heap.size,1,none⟩=some (.bool x.part)∧W.cell? ⟨wr.heap.size,2,none⟩=some (.int .i64 x.fr)∧W.cell? ⟨wr.heap.size,3,none⟩=some (.int .i64 x.lt)∧W.cell? (ad.add (k*4))=some (.int .i64 m.sn)∧W.cell? ⟨(ad.add (k*4)).block,(ad.add (k*4)).off+1,none⟩=some (.bool m.part)∧W.cell? ⟨(ad.add (k*4)).block,(ad.add (k*4)).off+2,none⟩=some (.int .i64 m.fr)∧W.cell? ⟨(ad.add (k*4)).block,(ad.add (k*4)).off+3,none⟩=some (.int .i64 m.lt):=fun W hW=>by
          have b0:=qV.out.below hW qV.out.lt;have b1:=yX.out.below hW yX.out.lt;obtain ⟨y0,y1,y2,y3⟩:=b1.iE;have hbk:(ad.add (k*4)).block<w6.heap.size:=by rw[block_add];exact Bh
          exact ⟨b0.cell 0,b0.cell 1,y0,y1,y2,y3,(hW.cell hbk).trans n0,(hW.cell (p:=⟨(ad.add (k*4)).block,_,none⟩) hbk).trans n1,(hW.cell (p:=⟨(ad.add (k*4)).block,_,none⟩) hbk).trans n2,(hW.cell (p:=⟨(ad.add (k*4)).block,_,none⟩) hbk).trans n3⟩
         have hfo:=fun (W:World)=>ug W (x1:Int) m x
         unfold j6 at hfo;clear zG HS;have HS:=ah iF;have zG:=ah (fun (W:World) (hb:Below w6.drew.heap.size w6.drew W)=>iF W (Pq.out W hb));have HBC:=ah (fun (W W':World) (hb:Below w6.drew.heap.size w6.drew W) (hb2:Below W.heap.size W W')=>(Pq.out W hb).trans (hb2.mono (Pq.out W hb).size));have Ta:=ah (fun (W W':World) (hb:Below w6.drew.heap.size w6.drew W) (hb2:Below W.heap.size W W')=>iF W' ((Pq.out W hb).trans (hb2.mono (Pq.out W hb).size)));have QV:=ah hfo;have HM:=ah hgl;have hne0:((k:Int)+1==0)=false:=by simp;omega
         have aap:decide ((k:Int)+1<512)=true:=decide_eq_true (by omega);have aaq:decide (k+1<512)=true:=decide_eq_true (by omega);have hwk:IntKind.i64.wrap (k:Int)=(k:Int):=IntWalk.i64_in _ (by omega);have hk0:(0:Int)≤k:=by omega
         have hk1:(k:Int)<k+1:=by omega
         clear iF hfo hgl hm aao hcl n0 n1 n2 n3 hlp aak;cases hF:lD (x1:Int) m x with
         |false=>
          rw[hF] at QV;have Bp:R= .inl 9:=by
           have h1:=HG1.out;rw[if_neg (by unfold vK;rw[HM.out];dsimp only;rw[hF];simp)] at h1;have h2:=HR3.out;rw[←h1] at h2;exact h2.symm
          have Cv:=ah Bp;clear Bp hF;refine Code.wp_mono (Q:=cZ (.pointer (some ⟨w.heap.size,0,none⟩)) (.pointer (some ⟨w.heap.size+1,0,none⟩)) [{target:= .fn (.func 133) #[.pointer (some ⟨w.heap.size,0,none⟩),.pointer (some ⟨w.heap.size+1,0,none⟩)],args:= #[]}] (fun e W=>e= .panic [{v:= .iface 53 (.int .i64 9),recovered:=false}]∧Below w6.heap.size w6 W)) (fun e a W h=> ?_) ?_
          ·cases e with
           |panic c8=>
            obtain ⟨h2,h3,hd,he,hb⟩:=h;cases he;obtain ⟨T,D⟩:=a;dsimp only at h2 h3 hd;subst hd;exact jf w W R 9 T _ _ _ h2 h3 (qV.out.below hb qV.out.lt) (BH.out.below hb BH.out.lt) (Jw.out.trans (hb.mono Jw.out.size)) Cv.out
           |_=>exact (h:False).elim
          refine aZ (fun w'=>w'.cell? ⟨w.heap.size,0,none⟩=some (.int .i64 x1)∧w'.cell? ⟨w.heap.size,1,none⟩=some (.slice (some ad) (k+1) cv)∧w'.cell? ⟨wr.heap.size,0,none⟩=some (.int .i64 x.sn)∧w'.cell? ⟨wr.heap.size,1,none⟩=some (.bool x.part)∧w'.cell? ⟨wr.heap.size,2,none⟩=some (.int .i64 x.fr)∧w'.cell? ⟨wr.heap.size,3,none⟩=some (.int .i64 x.lt)∧w'.cell? (ad.add (k*4))=some (.int .i64 m.sn)∧w'.cell? ⟨(ad.add (k*4)).block,(ad.add (k*4)).off+1,none⟩=some (.bool m.part)∧w'.cell? ⟨(ad.add (k*4)).block,(ad.add (k*4)).off+2,none⟩=some (.int .i64 m.fr)∧w'.cell? ⟨(ad.add (k*4)).block,(ad.add (k*4)).off+3,none⟩=some (.int .i64 m.lt)) [] (by kernel_rfl) ?_;have hHeld:=HS.out _ YJ.out;refine aY 0 rfl hHeld ?_ (hQ:=cZ.put (by decide) (by decide))
          try simp only[Act.put,aB,aC,ax,ay,aA]
          refine aY 1 rfl hHeld ?_ (hQ:=cZ.put (by decide) (by decide))
          try simp only[Act.put,aB,aC,aD,ax,ay,aA]
          refine aY 2 rfl hHeld ?_ (hQ:=cZ.put (by decide) (by decide))
          try simp only[Act.put,aB,aC,aD,ax,ay,aA]
          refine aY 3 rfl hHeld ?_ (hQ:=cZ.put (by decide) (by decide))
          try simp only[Act.put,aB,aC,aD,ax,ay,aA]
          refine gV [] 4 ?_ rfl (Or.inl ⟨by rfl,?_⟩) hHeld ?_ (hQ:=cZ.put (by decide) (by decide));rotate_left
          ·intro w' hSw;obtain ⟨hS1,hS2,gH,kS,hS5,nA,rC,tu,tC,iF⟩:=hSw;go_simp
           try with_reducible rfl
          try simp only[Act.put,aB,aC,aD,ax,ay,aA]
          refine gV [] 5 ?_ rfl (Or.inl ⟨by rfl,?_⟩) hHeld ?_ (hQ:=cZ.put (by decide) (by decide));rotate_left
          ·intro w' hSw;obtain ⟨hS1,hS2,gH,kS,hS5,nA,rC,tu,tC,iF⟩:=hSw;go_simp
           try with_reducible rfl
          try simp only[Act.put,aB,aC,aD,ax,ay,aA]
          refine aR (i:=6) rfl (by kernel_rfl) (by rfl) (fun K hK=> ?_);go_simp;refine (r9.out _).mono ?_;rintro e6 WX ⟨rfl,hb6⟩;refine hK _ _ (zG.out _ hb6) ?_;have hHeld:=(zG.out _ hb6);clear hK K
          try simp only[Act.put,aB,aC,aD,ax,ay,aA]
          refine aY 7 rfl hHeld ?_ (hQ:=cZ.put (by decide) (by decide))
          try simp only[Act.put,aB,aC,aD,ax,ay,aA]
          refine aY 8 rfl hHeld ?_ (hQ:=cZ.put (by decide) (by decide))
          try simp only[Act.put,aB,aC,aD,ax,ay,aA]
          refine aY 9 rfl hHeld ?_ (hQ:=cZ.put (by decide) (by decide))
          try simp only[Act.put,aB,aC,aD,ax,ay,aA]
          refine aY 10 rfl hHeld ?_ (hQ:=cZ.put (by decide) (by decide))
          try simp only[Act.put,aB,aC,aD,ax,ay,aA]
          refine aY 11 rfl hHeld ?_ (hQ:=cZ.put (by decide) (by decide))
          try simp only[Act.put,aB,aC,aD,ax,ay,aA]
          refine aY 12 rfl hHeld ?_ (hQ:=cZ.put (by decide) (by decide))
          try simp only[Act.put,aB,aC,aD,ax,ay,aA]
          refine gV [] 13 ?_ rfl (Or.inl ⟨by rfl,?_⟩) hHeld ?_ (hQ:=cZ.put (by decide) (by decide));rotate_left
          ·intro w' hSw;obtain ⟨hS1,hS2,gH,kS,hS5,nA,rC,tu,tC,iF⟩:=hSw;go_simp
           try with_reducible rfl
          try simp only[Act.put,aB,aC,aD,ax,ay,aA]
          refine aY 14 rfl hHeld ?_ (hQ:=cZ.put (by decide) (by decide))
          try simp only[Act.put,aB,aC,aD,ax,ay,aA]
          refine gV [] 15 ?_ rfl (Or.inl ⟨by rfl,?_⟩) hHeld ?_ (hQ:=cZ.put (by decide) (by decide));rotate_left
          ·intro w' hSw;obtain ⟨hS1,hS2,gH,kS,hS5,nA,rC,tu,tC,iF⟩:=hSw;go_simp
           try with_reducible rfl
          try simp only[Act.put,aB,aC,aD,ax,ay,aA]
          refine aY 16 rfl hHeld ?_ (hQ:=cZ.put (by decide) (by decide))
          try simp only[Act.put,aB,aC,aD,ax,ay,aA]
          refine aY 17 rfl hHeld ?_ (hQ:=cZ.put (by decide) (by decide))
          try simp only[Act.put,aB,aC,aD,ax,ay,aA]
          refine aY 18 rfl hHeld ?_ (hQ:=cZ.put (by decide) (by decide))
          try simp only[Act.put,aB,aC,aD,ax,ay,aA]
          refine gV [] 19 ?_ rfl (Or.inl ⟨by rfl,?_⟩) hHeld ?_ (hQ:=cZ.put (by decide) (by decide));rotate_left
          ·intro w' hSw;obtain ⟨hS1,hS2,gH,kS,hS5,nA,rC,tu,tC,iF⟩:=hSw;go_simp
           try with_reducible rfl
          try simp only[Act.put,aB,aC,aD,ax,ay,aA]
          refine gV [] 20 ?_ rfl (Or.inl ⟨by rfl,?_⟩) hHeld ?_ (hQ:=cZ.put (by decide) (by decide));rotate_left
          ·intro w' hSw;obtain ⟨hS1,hS2,gH,kS,hS5,nA,rC,tu,tC,iF⟩:=hSw;go_simp
           try with_reducible rfl
          try simp only[Act.put,aB,aC,aD,ax,ay,aA]
          refine aR (i:=21) rfl (by kernel_rfl) (by rfl) (fun K hK=> ?_);go_simp;refine (QV.out _).mono ?_;rintro e7 w7b ⟨rfl,pz⟩;refine hK _ _ (Ta.out _ _ hb6 pz) ?_;have hHeld:=(Ta.out _ _ hb6 pz);clear hK K
          try simp only[Act.put,aB,aC,aD,ax,ay,aA]
          refine aY 22 rfl hHeld ?_ (hQ:=cZ.put (by decide) (by decide))
          try simp only[Act.put,aB,aC,aD,ax,ay,aA]
          refine aY 23 rfl hHeld ?_ (hQ:=cZ.put (by decide) (by decide))
          try simp only[Act.put,aB,aC,aD,ax,ay,aA]
          refine aR (i:=24) rfl (by kernel_rfl) (by rfl) (fun K hK=> ?_);go_simp;refine (jo 9 _).mono ?_;rintro e8 w8 ⟨rfl,rfl⟩;exact ⟨rfl,rfl,rfl,rfl,HBC.out _ _ hb6 pz⟩
         |true=>
          rw[hF] at QV;have hg2:oQ bs x1 f m' p (acc++ [x])=R2:=by
           have h1:=HG1.out;rw[if_pos (by
            unfold vK;rw[HA.out,HM.out];dsimp only;rw[hF,decide_eq_true Jy];rfl)] at h1
           exact h1
          have HGF:=ah hg2;clear hg2 hF;refine wp_region_noPanic ?_;refine aZ (fun w'=>w'.cell? ⟨w.heap.size,0,none⟩=some (.int .i64 x1)∧w'.cell? ⟨w.heap.size,1,none⟩=some (.slice (some ad) (k+1) cv)∧w'.cell? ⟨wr.heap.size,0,none⟩=some (.int .i64 x.sn)∧w'.cell? ⟨wr.heap.size,1,none⟩=some (.bool x.part)∧w'.cell? ⟨wr.heap.size,2,none⟩=some (.int .i64 x.fr)∧w'.cell? ⟨wr.heap.size,3,none⟩=some (.int .i64 x.lt)∧w'.cell? (ad.add (k*4))=some (.int .i64 m.sn)∧w'.cell? ⟨(ad.add (k*4)).block,(ad.add (k*4)).off+1,none⟩=some (.bool m.part)∧w'.cell? ⟨(ad.add (k*4)).block,(ad.add (k*4)).off+2,none⟩=some (.int .i64 m.fr)∧w'.cell? ⟨(ad.add (k*4)).block,(ad.add (k*4)).off+3,none⟩=some (.int .i64 m.lt)) [] (by kernel_rfl) ?_;have hHeld:=HS.out _ YJ.out;refine aY 0 rfl hHeld ?_
          try simp only[Act.put,aB,aC,ax,ay,aA]
          refine aY 1 rfl hHeld ?_
          try simp only[Act.put,aB,aC,aD,ax,ay,aA]
          refine aY 2 rfl hHeld ?_
          try simp only[Act.put,aB,aC,aD,ax,ay,aA]
          refine aY 3 rfl hHeld ?_
          try simp only[Act.put,aB,aC,aD,ax,ay,aA]
          refine gV [] 4 ?_ rfl (Or.inl ⟨by rfl,?_⟩) hHeld ?_;rotate_left
          ·intro w' hSw;obtain ⟨hS1,hS2,gH,kS,hS5,nA,rC,tu,tC,iF⟩:=hSw;go_simp
           try with_reducible rfl
          try simp only[Act.put,aB,aC,aD,ax,ay,aA]
          refine gV [] 5 ?_ rfl (Or.inl ⟨by rfl,?_⟩) hHeld ?_;rotate_left
          ·intro w' hSw;obtain ⟨hS1,hS2,gH,kS,hS5,nA,rC,tu,tC,iF⟩:=hSw;go_simp
           try with_reducible rfl
          try simp only[Act.put,aB,aC,aD,ax,ay,aA]
          refine aR (i:=6) rfl (by kernel_rfl) (by rfl) (fun K hK=> ?_);go_simp;refine (r9.out _).mono ?_;rintro e6 WX ⟨rfl,hb6⟩;refine hK _ _ (zG.out _ hb6) ?_;have hHeld:=(zG.out _ hb6);clear hK K
          try simp only[Act.put,aB,aC,aD,ax,ay,aA]
          refine aY 7 rfl hHeld ?_
          try simp only[Act.put,aB,aC,aD,ax,ay,aA]
          refine aY 8 rfl hHeld ?_
          try simp only[Act.put,aB,aC,aD,ax,ay,aA]
          refine aY 9 rfl hHeld ?_
          try simp only[Act.put,aB,aC,aD,ax,ay,aA]
          refine aY 10 rfl hHeld ?_
          try simp only[Act.put,aB,aC,aD,ax,ay,aA]
          refine aY 11 rfl hHeld ?_
          try simp only[Act.put,aB,aC,aD,ax,ay,aA]
          refine aY 12 rfl hHeld ?_
          try simp only[Act.put,aB,aC,aD,ax,ay,aA]
          refine gV [] 13 ?_ rfl (Or.inl ⟨by rfl,?_⟩) hHeld ?_;rotate_left
          ·intro w' hSw;obtain ⟨hS1,hS2,gH,kS,hS5,nA,rC,tu,tC,iF⟩:=hSw;go_simp
           try with_reducible rfl
          try simp only[Act.put,aB,aC,aD,ax,ay,aA]
          refine aY 14 rfl hHeld ?_
          try simp only[Act.put,aB,aC,aD,ax,ay,aA]
          refine gV [] 15 ?_ rfl (Or.inl ⟨by rfl,?_⟩) hHeld ?_;rotate_left
          ·intro w' hSw;obtain ⟨hS1,hS2,gH,kS,hS5,nA,rC,tu,tC,iF⟩:=hSw;go_simp
           try with_reducible rfl
          try simp only[Act.put,aB,aC,aD,ax,ay,aA]
          refine aY 16 rfl hHeld ?_
          try simp only[Act.put,aB,aC,aD,ax,ay,aA]
          refine aY 17 rfl hHeld ?_
          try simp only[Act.put,aB,aC,aD,ax,ay,aA]
          refine aY 18 rfl hHeld ?_
          try simp only[Act.put,aB,aC,aD,ax,ay,aA]
          refine gV [] 19 ?_ rfl (Or.inl ⟨by rfl,?_⟩) hHeld ?_;rotate_left
          ·intro w' hSw;obtain ⟨hS1,hS2,gH,kS,hS5,nA,rC,tu,tC,iF⟩:=hSw;go_simp
           try with_reducible rfl
          try simp only[Act.put,aB,aC,aD,ax,ay,aA]
          refine gV [] 20 ?_ rfl (Or.inl ⟨by rfl,?_⟩) hHeld ?_;rotate_left
          ·intro w' hSw;obtain ⟨hS1,hS2,gH,kS,hS5,nA,rC,tu,tC,iF⟩:=hSw;go_simp
           try with_reducible rfl
          try simp only[Act.put,aB,aC,aD,ax,ay,aA]
          refine aR (i:=21) rfl (by kernel_rfl) (by rfl) (fun K hK=> ?_);go_simp;refine (QV.out _).mono ?_;rintro e7 w7b ⟨rfl,pz⟩;refine hK _ _ (Ta.out _ _ hb6 pz) ?_;have hHeld:=(Ta.out _ _ hb6 pz);clear hK K
          try simp only[Act.put,aB,aC,aD,ax,ay,aA]
          refine aY 22 rfl hHeld ?_
          try simp only[Act.put,aB,aC,aD,ax,ay,aA]
          refine aY 23 rfl hHeld ?_
          try simp only[Act.put,aB,aC,aD,ax,ay,aA]
          refine aR (i:=24) rfl (by kernel_rfl) (by rfl) (fun K hK=> ?_);go_simp;refine (lG 9 _).mono ?_;rintro e8 w8 ⟨rfl,rfl⟩;refine hK _ _ hHeld ?_;have hHeld:=hHeld;clear hK K
          try simp only[Act.put,aB,aC,aD,ax,ay,aA]
          have AR:=ah (HBC.out _ _ hb6 pz);refine bu (by kernel_rfl) ?_ _;refine NoPanic.normal ?_;have WY:=ah (Jw.out.trans (AR.out.mono Jw.out.size));have Ps:=ah (qV.out.below AR.out qV.out.lt);have WZ:=ah (BH.out.below AR.out BH.out.lt);have W9:=ah (S8.out.below AR.out S8.out.lt);have Bj:Hid (jO w7b r v bs p):=ah ⟨Mq.out.1.below AR.out Mq.out.1.lt,own_below Mq.out.2 AR.out (aN)⟩;have zH:=ah ((own_below Pp.out AR.out (aN)).alloc (.cells (CJ x) 197));have Xa:=ah (Ei w7b x);obtain ⟨y0,y1,y2,y3⟩:=(yX.out.below AR.out yX.out.lt).iE;have z1:=Ps.out.cell 1;simp only[List.getElem?_toArray] at z1;have HZS:=ah WY.out.size;clear hHeld AR;simp only[CJ] at zH Xa;go_wp2_with (at_builtin;refine gF _ rfl _ _ 131 rfl w.heap.size 197 i0 (.agg #[.int .i64 0,.bool false,.int .i64 0,.int .i64 0]) 32 sM hi hz0 hz1 hz2 rfl (.slice (some ad) (k+1) cv) (k+1) (mW acc) rfl zH.out (some ⟨w7b.heap.size,0,none⟩) 1 1 [x] rfl Xa.out ?c3 ?c4 ?c5 ?_)
          case c3=>unfold maxLen;omega
          case c4=>omega
          case c5=>have:=HZS.out;simp;omega
          intro v9 w9 zI oG;have S9:(acc++ [x]).length=k+1+1:=by rw[List.length_append];simp[hl0]
          rw[←uK] at zI;have sN:w9.ownsRow w.heap.size 197 4 v9 (acc++ [x]).length (mW (acc++ [x])):=by rw[S9];exact zI
          obtain ⟨A9,c9,NF,_,_⟩:=bM.cB (l:=acc++ [x]) sN;rw[S9] at NF;subst NF;have hnb:∀(g:Nat) (t:TypeId) (cs:Array Value),au (w7b.alloc (.cells #[.int .i64 x.sn,.bool x.part,.int .i64 x.fr,.int .i64 x.lt] 197)) g t cs→197≠t→au w9 g t cs:=fun g t cs hb ht=>hb.grown oG (fun e=>gG zH.out hb ht e.symm)
          have Jg:=hnb _ _ _ (Ps.out.alloc _) (by decide);have WB:=hnb _ _ _ (WZ.out.alloc _) (by decide);have bd9:=hnb _ _ _ (W9.out.alloc _) (by decide);have Xb:jO w9 r v bs p:=by
           refine ⟨hnb _ _ _ (Bj.out.1.alloc _) (by decide),(Bj.out.2.alloc _).kept oG ?_⟩;rcases hq:v.ownBlock with _|j
           ·exact .inl rfl
           ·exact .inr (fun e=>CU zH.out (Bj.out.2.alloc (.cells #[.int .i64 x.sn,.bool x.part,.int .i64 x.fr,.int .i64 x.lt] 197)) (by decide) e.symm hq)
          have Sr:Below w.heap.size w w9:=(WY.out.alloc WY.out.size _).grown oG (by have:=HZS.out;simp;omega) (fun j hj=>(zH.out.lt j hj).1);have p1:=Jg.cell 1;have f1:=Jg.frozen 1;have ow9:=fC (i:=1) sN Jg (by decide) (.slice A9 (k+1+1) c9);have El:=Jg.av 1 (.slice A9 (k+1+1) c9);have Pt:=WB.far (p:=⟨w.heap.size,1,none⟩) (show w.heap.size+1≠w.heap.size by omega) (.slice A9 (k+1+1) c9);have Pv:=bd9.far (p:=⟨w.heap.size,1,none⟩) (show d≠w.heap.size by omega) (.slice A9 (k+1+1) c9);have Pw:jO (w9.setCell ⟨w.heap.size,1,none⟩ (.slice A9 (k+1+1) c9)) r v bs p:=⟨Xb.1.far (p:=⟨w.heap.size,1,none⟩) (show r≠w.heap.size by omega) _,aI (i:=1) Xb.2 Jg (by decide) _⟩;have Px:=Sr.setCell (p:=⟨w.heap.size,1,none⟩) (aN) (.slice A9 (k+1+1) c9);have q1:=El.cell 1;simp only[List.getElem?_toArray] at p1;simp at El q1;have HF:Hid (WS w bs r d v x1 R2 (acc++ [x]) m' p (.slice A9 (k+1+1) c9) (w9.setCell ⟨w.heap.size,1,none⟩ (.slice A9 (k+1+1) c9))):=ah ⟨by omega,by rw[S9,show 513-(k+1+1)=f by have:=HFF.out;omega];exact HGF.out,Pw,Bo.out,by simpa using El,Pt,Pv,ow9,Px⟩;have HQ1:=ah q1;clear zI sN oG hnb Jg WB bd9 Xb Sr ow9 El Pt Pv Pw Px y0 y1 y2 y3 z1 q1;go_wp2_with fail
          go_roundw
          case rel=>exact ⟨_,_,_,_,rfl,HF.out⟩
          case measure=>
           clear hne0 aap aaq hwk;have hm0:=HI.out.bp.cell 1;simp only[List.getElem?_toArray] at hm0;rw[HQ1.out,hm0];simp[vz];omega
      ·have aak:decide ((acc.length:Int)<512)=false:=decide_eq_false (by omega);have Bp:R= .inl 9:=by
        have h1:=HG1.out;rw[if_neg (by unfold vK;rw[decide_eq_false Jy];simp)] at h1;have h2:=HR3.out;rw[←h1] at h2;exact h2.symm
       have Cv:=ah Bp;clear Bp;refine Code.wp_mono (Q:=cZ (.pointer (some ⟨w.heap.size,0,none⟩)) (.pointer (some ⟨w.heap.size+1,0,none⟩)) [{target:= .fn (.func 133) #[.pointer (some ⟨w.heap.size,0,none⟩),.pointer (some ⟨w.heap.size+1,0,none⟩)],args:= #[]}] (fun e W=>e= .panic [{v:= .iface 53 (.int .i64 9),recovered:=false}]∧Below w6.heap.size w6 W)) (fun e a W h=> ?_) ?_
       ·cases e with
        |panic c8=>
         obtain ⟨h2,h3,hd,he,hb⟩:=h;cases he;obtain ⟨T,D⟩:=a;dsimp only at h2 h3 hd;subst hd;exact jf w W R 9 T _ _ _ h2 h3 (qV.out.below hb qV.out.lt) (BH.out.below hb BH.out.lt) (Jw.out.trans (hb.mono Jw.out.size)) Cv.out
        |_=>exact (h:False).elim
       refine aZ (fun w'=>w'.cell? ⟨w.heap.size,0,none⟩=some (.int .i64 x1)∧w'.cell? ⟨w.heap.size,1,none⟩=some (.slice Av acc.length cv)∧w'.cell? ⟨wr.heap.size,0,none⟩=some (.int .i64 x.sn)∧w'.cell? ⟨wr.heap.size,1,none⟩=some (.bool x.part)∧w'.cell? ⟨wr.heap.size,2,none⟩=some (.int .i64 x.fr)∧w'.cell? ⟨wr.heap.size,3,none⟩=some (.int .i64 x.lt)) [] (by kernel_rfl) ?_;have hHeld:=HS.out _ YJ.out;refine aY 0 rfl hHeld ?_ (hQ:=cZ.put (by decide) (by decide))
       try simp only[Act.put,aB,aC,ax,ay,aA]
       refine aY 1 rfl hHeld ?_ (hQ:=cZ.put (by decide) (by decide))
       try simp only[Act.put,aB,aC,aD,ax,ay,aA]
       refine aY 2 rfl hHeld ?_ (hQ:=cZ.put (by decide) (by decide))
       try simp only[Act.put,aB,aC,aD,ax,ay,aA]
       refine jL 3 rfl hHeld ?_ (hQ:=cZ.put (by decide) (by decide))
       try simp only[Act.put,aB,aC,aD,ax,ay,aA]
       refine jL 4 rfl hHeld ?_ (hQ:=cZ.put (by decide) (by decide))
       try simp only[Act.put,aB,aC,aD,ax,ay,aA]
       refine jL 5 rfl hHeld ?_ (hQ:=cZ.put (by decide) (by decide))
       try simp only[Act.put,aB,aC,aD,ax,ay,aA]
       refine jL 6 rfl hHeld ?_ (hQ:=cZ.put (by decide) (by decide))
       try simp only[Act.put,aB,aC,aD,ax,ay,aA]
       refine aY 7 rfl hHeld ?_ (hQ:=cZ.put (by decide) (by decide))
       try simp only[Act.put,aB,aC,aD,ax,ay,aA]
       refine aY 8 rfl hHeld ?_ (hQ:=cZ.put (by decide) (by decide))
       try simp only[Act.put,aB,aC,aD,ax,ay,aA]
       refine jL 9 rfl hHeld ?_ (hQ:=cZ.put (by decide) (by decide))
       try simp only[Act.put,aB,aC,aD,ax,ay,aA]
       refine jL 10 rfl hHeld ?_ (hQ:=cZ.put (by decide) (by decide))
       try simp only[Act.put,aB,aC,aD,ax,ay,aA]
       refine jL 11 rfl hHeld ?_ (hQ:=cZ.put (by decide) (by decide))
       try simp only[Act.put,aB,aC,aD,ax,ay,aA]
       refine jL 12 rfl hHeld ?_ (hQ:=cZ.put (by decide) (by decide))
       try simp only[Act.put,aB,aC,aD,ax,ay,aA]
       refine jL 13 rfl hHeld ?_ (hQ:=cZ.put (by decide) (by decide))
       try simp only[Act.put,aB,aC,aD,ax,ay,aA]
       refine jL 14 rfl hHeld ?_ (hQ:=cZ.put (by decide) (by decide))
       try simp only[Act.put,aB,aC,aD,ax,ay,aA]
       refine jL 15 rfl hHeld ?_ (hQ:=cZ.put (by decide) (by decide))
       try simp only[Act.put,aB,aC,aD,ax,ay,aA]
       refine jL 16 rfl hHeld ?_ (hQ:=cZ.put (by decide) (by decide))
       try simp only[Act.put,aB,aC,aD,ax,ay,aA]
       refine jL 17 rfl hHeld ?_ (hQ:=cZ.put (by decide) (by decide))
       try simp only[Act.put,aB,aC,aD,ax,ay,aA]
       refine jL 18 rfl hHeld ?_ (hQ:=cZ.put (by decide) (by decide))
       try simp only[Act.put,aB,aC,aD,ax,ay,aA]
       refine jL 19 rfl hHeld ?_ (hQ:=cZ.put (by decide) (by decide))
       try simp only[Act.put,aB,aC,aD,ax,ay,aA]
       refine jL 20 rfl hHeld ?_ (hQ:=cZ.put (by decide) (by decide))
       try simp only[Act.put,aB,aC,aD,ax,ay,aA]
       refine jL 21 rfl hHeld ?_ (hQ:=cZ.put (by decide) (by decide))
       try simp only[Act.put,aB,aC,aD,ax,ay,aA]
       refine jL 22 rfl hHeld ?_ (hQ:=cZ.put (by decide) (by decide))
       try simp only[Act.put,aB,aC,aD,ax,ay,aA]
       refine aY 23 rfl hHeld ?_ (hQ:=cZ.put (by decide) (by decide))
       try simp only[Act.put,aB,aC,aD,ax,ay,aA]
       refine aR (i:=24) rfl (by kernel_rfl) (by rfl) (fun K hK=> ?_);go_simp;refine (jo 9 _).mono ?_;rintro e8 w8 ⟨rfl,rfl⟩;exact ⟨rfl,rfl,rfl,rfl,YJ.out⟩
    |false=>
     have pJ:R2= .inr (acc,q):=by
      rw[←hI.go_];cases 513-acc.length<;>rfl
     have KI:=HR3.out;rw[pJ] at KI;dsimp only at KI;have hen:=OD r v bs q wr hI.rd hI.ql (by omega);by_cases he:DV bs q=true
     ·rw[if_pos he] at KI hen;have UJ:=ah KI;have Jn:=ah hen;clear hI KI hen he pJ;go_wp2_with fail;refine Jn.out.mono ?_;rintro e5 w5 ⟨rfl,hb5⟩;have lI:=HI.out.bl.trans (hb5.mono HI.out.bl.size);have zn:=HI.out.bp.below hb5 HI.out.bp.lt;have uk:=HI.out.be.below hb5 HI.out.be.lt;have ow5:=own_below HI.out.ow hb5 (aN);have p0:=zn.cell 0;have p1:=zn.cell 1;have k4:=uk.cell 0;have g0:=zn.frozen 0;have g1:=zn.frozen 1;have g4:=uk.frozen 0;simp at p0 p1 k4;have E4:=ah lI;have Xc:=ah zn;have xJ:=ah uk;have aeZ:=ah ow5;clear hb5 lI zn uk ow5;go_wp2_with (go_at_call 137;((with_reducible refine (lG _ _).mono ?_);rintro e6 w6 ⟨rfl,rfl⟩));refine leaves_cons (f:=133) (args:= #[.pointer (some ⟨w.heap.size,0,none⟩),.pointer (some ⟨w.heap.size+1,0,none⟩)]) (by simp) (by simp[go_sem]) ?_;refine (I8 _ _ _).mono ?_;rintro e9 u9 w9 ⟨rfl,rfl,rfl⟩;have aas:=((Xc.out.av 0 (.int .i64 x1)).av 1 (.slice Av acc.length cv)).far (p:=⟨w.heap.size+1,0,none⟩) (show w.heap.size≠w.heap.size+1 by omega) (.int .i64 0);have Tc:=((xJ.out.far (p:=⟨w.heap.size,0,none⟩) (show w.heap.size+1≠w.heap.size by omega) (.int .i64 x1)).far (p:=⟨w.heap.size,1,none⟩) (show w.heap.size+1≠w.heap.size by omega) (.slice Av acc.length cv)).av 0 (.int .i64 0)
      have Sr:=((E4.out.setCell (p:=⟨w.heap.size,0,none⟩) (aN) (.int .i64 x1)).setCell (p:=⟨w.heap.size,1,none⟩) (aN) (.slice Av acc.length cv)).setCell (p:=⟨w.heap.size+1,0,none⟩) (show w.heap.size≤w.heap.size+1 by omega) (.int .i64 0);have ae0:=fC (i:=0) (fC (i:=1) (fC (i:=0) aeZ.out Xc.out (by decide) (.int .i64 x1)) (Xc.out.av 0 (.int .i64 x1)) (by decide) (.slice Av acc.length cv)) (xJ.out.far (p:=⟨w.heap.size,0,none⟩) (show w.heap.size+1≠w.heap.size by omega) (.int .i64 x1) |>.far (p:=⟨w.heap.size,1,none⟩) (show w.heap.size+1≠w.heap.size by omega) (.slice Av acc.length cv)) (by decide) (.int .i64 0);obtain ⟨A9,c9,hV9,hnk,hnb⟩:=bM.cB (l:=acc) ae0;cases hV9;have q0:=aas.cell 0;have q1:=aas.cell 1;have q4:=Tc.cell 0;simp at q0 q1 q4;refine ⟨.tuple #[.agg #[.int .i64 x1,.slice Av acc.length cv],.int .i64 0],by simp[results,Tryz.results92,go_sem,q0,q1,q4],Sr,.inr ⟨x1,acc,Av,cv,UJ.out.symm,rfl,hnk,fun ad e=>(hnb ad e).1⟩⟩
     ·rw[if_neg he] at KI hen;have UJ:=ah KI.symm;have Jn:=ah hen;clear hI KI hen he pJ;go_wp2_with fail;refine Jn.out.mono ?_;rintro e5 w5 ⟨rfl,hb5⟩;have lI:=HI.out.bl.trans (hb5.mono HI.out.bl.size);have zn:=HI.out.bp.below hb5 HI.out.bp.lt;have uk:=HI.out.be.below hb5 HI.out.be.lt;clear hb5;go_wp2_with (go_at_call 137;((with_reducible refine (jo _ _).mono ?_);rintro e6 w6 ⟨rfl,rfl⟩));exact jf w _ R 9 _ _ _ _ rfl rfl zn uk lI UJ.out
  ·rw[if_pos h0] at oV;have HR1:=ah oV.symm;have hx0:((x0:Int)==0)=false:=by simp;omega
   clear oV h0;go_wp2_with (first|(go_at_call 135;((with_reducible refine (uh _ _ _ _).mono ?_);rintro e4 w4 ⟨rfl,rfl⟩))|(go_at_call 137;((with_reducible refine (jo _ _).mono ?_);rintro e4 w4 ⟨rfl,rfl⟩)));exact jf w _ R 9 _ _ _ _ rfl rfl vP nS hB3 HR1.out
end
end Go.Proofs.YtbhiklnljiehiaaGreat
