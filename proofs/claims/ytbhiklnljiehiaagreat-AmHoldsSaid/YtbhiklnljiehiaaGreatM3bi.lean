/- status.Decode. -/
import Derived.Test.YtbhiklnljiehiaaGreatM3be
set_option maxHeartbeats 8000000
set_option maxRecDepth 100000
namespace Go.Proofs.YtbhiklnljiehiaaGreat
open RowKit Shelf Tryz
attribute [local go_sem] Oper.semAt_some
def dX (p q:Value) (ds:List Deferred) (S:Exit->World->Prop):Exit->Act->World->Prop
 | .panic c,a,w=>a.tmps[2]? =some p/\a.tmps[3]? =some q/\a.defers=ds/\S (.panic c) w
 |_,_,_=>False
theorem dX.put {p q v:Value} {ds:List Deferred} {S:Exit->World->Prop} {d:Nat} (h2:d≠2) (h3:d≠3):∀c a w,dX p q ds S (.panic c) (a.put (some d) v) w->dX p q ds S (.panic c) a w:=fun c a w h=>by
 obtain ⟨e2,e3,e4,e5⟩:=h;simp only[Act.put] at e2 e3 e4;rw[Array.getElem?_setIfInBounds_ne h2] at e2;rw[Array.getElem?_setIfInBounds_ne h3] at e3;exact ⟨e2,e3,e4,e5⟩
structure acL (w:World) (bs:List UInt8) (r d:Nat) (v:Value) (x1:Nat) (R2:Sum Nat (List Nk × Nat)) (acc:List Nk) (more:Bool) (q:Nat) (V:Value) (W:World):Prop where
 al:acc.length<=512
 go_:qC bs x1 (513-acc.length) more q acc=R2
 rd:ni W r v bs q
 ql:q<=8*bs.length
 bp:av W w 133 #[x1,V]
 be:av W (w+1) 53 #[.int .i64 0]
 bd:av W d 219 #[.pointer (some r)]
 ow:W.ownsRow w 197 4 V acc.length (si acc)
 bl:Below w w W
theorem JL {w:World} {b b' s s' n n':Nat} {e e':TypeId} {v v':Value} {xs xs':List Value} (h:w.ownsRow b e s v n xs) (h':w.ownsRow b' e' s' v' n' xs') (hne:e≠e') {k:Nat} (hk:v.ownBlock=some k):v'.ownBlock≠some k:=by
 intro hk';rcases h.2 with ⟨rfl,_⟩|⟨q,cap,cur,rfl,q1,q2,_⟩
 ·cases hk
 ·rcases h'.2 with ⟨rfl,_⟩|⟨q',cap',cur',rfl,q1',q2',_⟩
  ·cases hk'
  ·have e1:q=k:=by injection hk
   have e2:q'=k:=by injection hk'
   subst e1 e2;rw[q2] at q2';cases q2';exact hne rfl
theorem SQ (bs:List UInt8) {q p:Nat} {x:Nk} {m:Bool} (h:Ig bs q=some (x,m,p)):p<=8*bs.length:=by
 unfold Ig at h;split at h
 ·cases h
 split at h
 ·split at h
  ·cases h
  ·cases h;omega
 ·cases h;omega
theorem ND (A:Option Addr) (n cc:Nat) (bs:List UInt8) (w:World) (h:Sl w w A n cc (dz bs)) (hsm:n<=1000000):
 Calls prog 92 #[.slice A n cc] w (P9 w (mO bs)):=by
 have hlen:bs.length=n:=by simpa using h.len
 obtain ⟨i0,hi,hz0,hz1,hz2⟩:=wN;obtain ⟨R,hR⟩:∃R,mO bs=R:=⟨_,rfl⟩
 rw[hR];have HR:=ah hR;clear hR;have hB0:=((bS w w).alloc (aL) (.cells #[.int .i64 0,.slice none 0 0] 133)).alloc (by simp) (.cells #[.int .i64 0] 53);have hs0:=(h.below hB0).more hB0.size;have hnr:=yc A n cc bs _ hs0 (by omega);have HNR:=ah hnr;have HB0:=ah hB0;have zP:=ah hsm;have kH:=ah hlen;clear hnr hB0 hs0 hsm hlen
 go_enter_defers func92,ntmps92
 go_wp2_with fail;refine HNR.out.mono ?_;rintro e1 w1 ⟨r,v,rfl,hr,hrd,hb1⟩;have Uw:av ((w.alloc (.cells #[.int .i64 0,.slice none 0 0] 133)).alloc (.cells #[.int .i64 0] 53)) w 133 #[.int .i64 0,.slice none 0 0]:=(av.new w _ _).alloc _;have Dy:av ((w.alloc (.cells #[.int .i64 0,.slice none 0 0] 133)).alloc (.cells #[.int .i64 0] 53)) (w+1) 53 #[.int .i64 0]:=by simpa using av.new (w.alloc (.cells #[.int .i64 0,.slice none 0 0] 133)) 53 #[.int .i64 0]
 have bp1:=Uw.below hb1 Uw.lt;have zq:=Dy.below hb1 Dy.lt;have hB1:Below w w w1:=HB0.out.trans (hb1.mono HB0.out.size);have aku:w.heap.size+1<r:=by simp at hr;omega
 have hrl:=hrd.1.lt;clear Uw Dy hb1 hr HNR HB0;have hW2:∃w2,(w1.alloc (.cells #[.pointer (some r)] 219)).alloc (.cells #[.int .i64 4,.int .i64 10,.int .i64 1] 3)=w2:=⟨_,rfl⟩
 obtain ⟨w2,hw2⟩:=hW2;have TD:av w2 w 133 #[.int .i64 0,.slice none 0 0]:=by rw[<-hw2];exact (bp1.alloc _).alloc _
 have vK:av w2 (w+1) 53 #[.int .i64 0]:=by rw[<-hw2];exact (zq.alloc _).alloc _
 have hB2:Below w w w2:=by rw[<-hw2];exact (hB1.alloc hB1.size _).alloc (by have:=hB1.size;simp;omega) _
 have yG:ni w2 r v bs 0:=by rw[<-hw2];exact ⟨(hrd.1.alloc _).alloc _,(hrd.2.alloc _).alloc _⟩
 have hd2:av w2 w1 219 #[.pointer (some r)]:=by rw[<-hw2];exact (av.new w1 _ _).alloc _
 have hb2:av w2 (w1+1) 3 (kM [4,10,1]).toArray:=by
  rw[<-hw2];have:=av.new (w1.alloc (.cells #[.pointer (some r)] 219)) 3 #[.int .i64 4,.int .i64 10,.int .i64 1];rw[mZ] at this;exact this
 have alK:w2.heap.size=w1.heap.size+2:=by rw[<-hw2];simp
 go_wp2_with fail;clear hrd bp1 zq hB1 hw2;generalize w1.heap.size=d at*;have hbl:bs.length<=1000000:=by have:=kH.out;have:=zP.out;omega
 by_cases h2:8*bs.length<15
 ·have vJ:R= .inl 5:=by rw[<-HR.out];unfold mO;rw[bD h2]
  have CO:=ah vJ;clear vJ;have hga:=mJ r (d+1) v bs 0 [4,10,1] w2 yG (by omega) (by simp) (by simp) hb2 (by omega) (by simp;omega);simp only[jh,gQ,jA,Nat.reduceAdd] at hga;refine hga.mono ?_;rintro e3 w3 ⟨rfl,qN,hk3⟩;have hB3:Below w w w3:=hB2.trans (hk3.below (B:=w.heap.size) (fun k _ e=>by have:=hB2.size;omega) hB2.size);have BO:=TD.kept hk3 (by have:=TD.lt;omega);have tX:=vK.kept hk3 (by have:=vK.lt;omega);clear hga h2 hbl;go_wp2_with (go_at_call 135;((with_reducible refine (Ct _ _ _ _ rfl _).mono ?_);rintro e4 w4 ⟨rfl,rfl⟩));exact lI w _ R 5 _ _ _ _ rfl rfl BO tX hB3 CO.out
 ·have hga:=sM r (d+1) v bs 0 [4,10,1] w2 yG (by omega) (by simp) (by simp) hb2 (by simp;omega);simp only[jh,gQ,jA,Nat.reduceAdd] at hga;refine hga.mono ?_;rintro e3 w3 ⟨vo,rfl,kG,qN,hk3⟩;have hB3:Below w w w3:=hB2.trans (hk3.below (B:=w.heap.size) (fun k _ e=>by have:=hB2.size;omega) hB2.size);have BO:=TD.kept hk3 (by have:=TD.lt;omega);have tX:=vK.kept hk3 (by have:=vK.lt;omega);have hd3:=hd2.kept hk3 (by have:=hd2.lt;omega);have tY:=HR.out;unfold mO at tY;rw[aP h2] at tY;have hgv:getAll bs 0 [4,10,1]= [val (ax bs 0 4),val (ax bs 4 10),val (ax bs 14 1)]:=rfl;rw[hgv] at kG;have hx1:val (ax bs 4 10)<1024:=by have:=vR (ax bs 4 10);rw[gF] at this;exact this
  have akv:=hd2.lt;have Ko:15<=8*bs.length:=by omega
  clear hgv hga hb2 yG hB2 TD vK hd2 hk3 h2;simp only[jh,gQ,jA,Nat.reduceAdd] at kG;rw[show (0:Nat)+ [4,10,1].sum=15 from rfl] at qN;generalize val (ax bs 0 4)=x0 at*;generalize val (ax bs 4 10)=x1 at*;generalize val (ax bs 14 1)=x2 at*;obtain ⟨gl,abK,rfl,hgl,oL⟩:=kG.form (by omega);have l0:w3.cell? gl=some (.int .u64 x0):=by have:=kG.cellAt 0 (by omega);simpa[uo] using this
  have l1:w3.cell? ⟨gl,1,none⟩=some (.int .u64 x1):=by have:=kG.cellAt 1 (by omega);simpa[uo] using this
  have l2:w3.cell? ⟨gl,2,none⟩=some (.int .u64 x2):=by have:=kG.cellAt 2 (by omega);simpa[uo] using this
  by_cases h0:x0=0
  ·rw[aP (fun e=>e h0)] at tY;have hx0:((x0:Int)==0)=true:=by simp[h0]
   have hxw:IntKind.i64.wrap (x1:Int)=(x1:Int):=by rw[vk];omega
   have hm1:((x2:Int)==1)=decide (x2=1):=by rw[mr];simp;omega
   have p0:=BO.cell 0;have pf:=BO.frozen 0;simp at p0;have HR1:=ah tY;have HH0:=ah h0;clear tY h0;have asI:gl≠w:=by have:=BO.lt;have:=alK;have:=hB3.size;omega
   have sO:=aN (i:=0) kG BO (by decide) x1;have q1:(w3.setCell w x1).cell? ⟨gl,2,none⟩=some (.int .u64 x2):=by have:=sO.cellAt 2 (by omega);simpa[uo] using this
   have Z6:=BO.ay 0 x1;have WZ:=tX.far (p:=⟨w,0,none⟩) (show w.heap.size+1≠w.heap.size by omega) x1;have hd4:=hd3.far (p:=⟨w,0,none⟩) (show d≠w.heap.size by omega) x1;have ET:ni (w3.setCell w x1) r v bs 15:=⟨qN.1.far (p:=⟨w,0,none⟩) (show r≠w.heap.size by omega) x1,aN (i:=0) qN.2 BO (by decide) x1⟩;have hB4:=hB3.setCell (p:=⟨w,0,none⟩) (aL) x1;simp at Z6;have HBP:=ah Z6;have Ol:=ah WZ;have TG:=ah hd4;have ZY:=ah ET;have Ij:=ah hB4;clear Z6 WZ hd4 ET hB4 qN hB3 BO tX hd3 sO kG;go_wp2_with (first|(go_at_call 135;((with_reducible refine (Bh _ _ _ _).mono ?_);rintro e4 w4 ⟨rfl,rfl⟩))|(go_at_call 137;((with_reducible refine (qG _ _).mono ?_);rintro e4 w4 ⟨rfl,rfl⟩)));generalize w3.setCell w x1=w4 at*;clear l0 l1 l2 p0 pf q1 hx0 hxw;obtain ⟨R2,hR2⟩:∃R2,qC bs x1 513 (decide (x2=1)) 15 []=R2:=⟨_,rfl⟩
   have X6:=HR1.out;rw[hR2] at X6;have HR2:=ah hR2;have HR3:=ah X6;clear hR2 X6 HR1
   go_loopw [6] (fun m wr=>∃(acc:List Nk) (more:Bool) (q:Nat) (V:Value),m= .bool more/\acL w bs r d v x1 R2 acc more q V wr) (fun _ wr=>513-BJ ((wr.cell? ⟨w,1,none⟩).getD .nilIface))
   case atStart=>exact ⟨[],decide (x2=1),15,.slice none 0 0,rfl,by simp,by simpa using HR2.out,ZY.out,by omega,HBP.out,Ol.out,TG.out,jl _ _ _ _,Ij.out⟩
   case round=>
    obtain ⟨acc,more,q,V,rfl,hI⟩:=hrel;obtain ⟨Av,cv,hV,_,_⟩:=dD.eu (l:=acc) hI.ow;subst hV;have WY:=hI.bd.cell 0;simp at WY;have HI:=ah hI;cases more with
    |true=>
     obtain ⟨f,hf⟩:∃f,513-acc.length=f+1:=⟨512-acc.length,by have:=hI.al;omega⟩
     have hgo:=hI.go_;rw[hf] at hgo;simp only[qC] at hgo;have yh:=ah hgo;have HFF:=ah hf;have acM:ni (wr.alloc (.cells #[.int .i64 0,.bool false,.int .i64 0,.int .i64 0] 197)) r v bs q:=⟨hI.rd.1.alloc _,hI.rd.2.alloc _⟩;have O8:=ah (P7 r v bs q _ acM hI.ql (by omega));have bn0:=av.new wr 197 #[.int .i64 0,.bool false,.int .i64 0,.int .i64 0];have bd0:=hI.bd.alloc (.cells #[.int .i64 0,.bool false,.int .i64 0,.int .i64 0] 197);have ed0:=bd0.cell 0;simp at ed0;have Uw:=hI.bp.alloc (.cells #[.int .i64 0,.bool false,.int .i64 0,.int .i64 0] 197);have Dy:=hI.be.alloc (.cells #[.int .i64 0,.bool false,.int .i64 0,.int .i64 0] 197);have ow0:=hI.ow.alloc (.cells #[.int .i64 0,.bool false,.int .i64 0,.int .i64 0] 197);have hB0:=hI.bl.alloc hI.bl.size (.cells #[.int .i64 0,.bool false,.int .i64 0,.int .i64 0] 197);have ag8:=jd ow0 acM.1 (by decide);have alN:=ah (fun k hk=>(hI.ow.lt k hk).2);have asJ:=hI.rd.1.lt;have asK:=hI.bd.lt;have hsz:=mZ wr (.cells #[.int .i64 0,.bool false,.int .i64 0,.int .i64 0] 197);have acN:=ah bn0;have acO:=ah bd0;have VN:=ah Uw;have VO:=ah Dy;have acP:=ah ow0;have HB0:=ah hB0;have ag9:=ah ag8;have KI:=ah hsz;clear hI hgo hf acM bn0 bd0 Uw Dy ow0 hB0 ag8 hsz;go_wp2_with fail;clear ed0 WY;generalize wr.alloc (.cells #[.int .i64 0,.bool false,.int .i64 0,.int .i64 0] 197)=W0 at*;refine O8.out.mono ?_;rintro e5 w5 ⟨hk5,⟨hn5,rfl⟩|⟨x,m',p,hs5,rfl,yH⟩⟩
     ·have qw:Below w w w5:=HB0.out.trans (hk5.below (B:=w.heap.size) (fun k _ e=>by have:=HB0.out.size;omega) HB0.out.size);have E9:=VN.out.kept hk5 (by have:=VN.out.lt;omega);have Ae:=VO.out.kept hk5 (by have:=VO.out.lt;omega);have vJ:R= .inl 5:=by
       have h1:=yh.out;rw[hn5] at h1;have h2:=HR3.out;rw[<-h1] at h2;exact h2.symm
      clear hk5 yh hn5;go_wp2_with fail;exact lI w _ R 5 _ _ _ _ rfl rfl E9 Ae qw vJ
     ·have hpl:=SQ bs hs5;have hg1:=yh.out;rw[hs5] at hg1;dsimp only at hg1;have qw:Below w w w5:=HB0.out.trans (hk5.below (B:=w.heap.size) (fun k _ e=>by have:=HB0.out.size;omega) HB0.out.size);have E9:=VN.out.kept hk5 (by have:=VN.out.lt;omega);have Ae:=VO.out.kept hk5 (by have:=VO.out.lt;omega);have bd5:=acO.out.kept hk5 (by have:=acO.out.lt;omega);have Ef:=acN.out.kept hk5 (by have:=acN.out.lt;omega);have ow5:=mI acP.out hk5 (fun k o _ hk e=>by
       rcases e with e|e
       ·subst e;exact ag9.out hk
       ·have:=(acP.out.lt k hk).2;omega)
      have hrw:r≠wr:=by omega
      have Hw:av ((((w5.setCell ⟨wr,0,none⟩ x.sn).setCell ⟨wr,1,none⟩ (.bool x.part)).setCell ⟨wr,2,none⟩ x.fr).setCell ⟨wr,3,none⟩ x.lt) w 133 #[x1,.slice Av acc.length cv]:=(j6 (by omega) _ _ _ _).trans E9;have TE:av ((((w5.setCell ⟨wr,0,none⟩ x.sn).setCell ⟨wr,1,none⟩ (.bool x.part)).setCell ⟨wr,2,none⟩ x.fr).setCell ⟨wr,3,none⟩ x.lt) (w+1) 53 #[.int .i64 0]:=(j6 (by omega) _ _ _ _).trans Ae;have bd6:av ((((w5.setCell ⟨wr,0,none⟩ x.sn).setCell ⟨wr,1,none⟩ (.bool x.part)).setCell ⟨wr,2,none⟩ x.fr).setCell ⟨wr,3,none⟩ x.lt) d 219 #[.pointer (some r)]:=(j6 (by omega) _ _ _ _).trans bd5;have Ag:ni ((((w5.setCell ⟨wr,0,none⟩ x.sn).setCell ⟨wr,1,none⟩ (.bool x.part)).setCell ⟨wr,2,none⟩ x.fr).setCell ⟨wr,3,none⟩ x.lt) r v bs p:=⟨(j6 hrw _ _ _ _).trans yH.1,wT yH.2 Ef (by decide) _ _ _ _⟩;have X4:Below w w ((((w5.setCell ⟨wr,0,none⟩ x.sn).setCell ⟨wr,1,none⟩ (.bool x.part)).setCell ⟨wr,2,none⟩ x.fr).setCell ⟨wr,3,none⟩ x.lt):=(((qw.setCell (p:=⟨wr,0,none⟩) (by show w.heap.size<=wr.heap.size;omega) _).setCell (p:=⟨wr,1,none⟩) (by show w.heap.size<=wr.heap.size;omega) _).setCell (p:=⟨wr,2,none⟩) (by show w.heap.size<=wr.heap.size;omega) _).setCell (p:=⟨wr,3,none⟩) (by show w.heap.size<=wr.heap.size;omega) _
      have ow6:((((w5.setCell ⟨wr,0,none⟩ x.sn).setCell ⟨wr,1,none⟩ (.bool x.part)).setCell ⟨wr,2,none⟩ x.fr).setCell ⟨wr,3,none⟩ x.lt).ownsRow w.heap.size 197 4 (.slice Av acc.length cv) acc.length (si acc):=dw ow5 fun k hk=>j6 (by have:=alN.out k hk;omega) _ _ _ _
      have Y5:=Ef.Y3 x.sn (.bool x.part) x.fr x.lt;obtain ⟨m0,m1,m2,m3⟩:=Ef.jP;have f0:=Ef.frozen 0;have f1:=Ef.frozen 1;have f2:=Ef.frozen 2;have f3:=Ef.frozen 3;have z1:=Hw.cell 1;simp only[nW] at z1;have KR:=ah X4;have xO:=ah Hw;have Ip:=ah TE;have Y6:=ah bd6;have SS:=ah Ag;have VP:=ah ow6;have Gm:=ah Y5;have HG1:=ah hg1;have Kk:=ah hpl;have QM:w5.heap.size=((((w5.setCell ⟨wr,0,none⟩ x.sn).setCell ⟨wr,1,none⟩ (.bool x.part)).setCell ⟨wr,2,none⟩ x.fr).setCell ⟨wr,3,none⟩ x.lt).heap.size:=(JK _ _ _ _).symm;clear hk5 hs5 yH hg1 qw E9 Ae bd5 Ef ow5 Hw TE bd6 Ag X4 ow6 Y5 hpl O8 yh acN acO VN VO acP HB0 ag9 KI;unfold nU;go_upto_region 11 with fail
      clear m0 m1 m2 m3 f0 f1 f2 f3 z1;generalize (((w5.setCell ⟨wr,0,none⟩ x.sn).setCell ⟨wr,1,none⟩ (.bool x.part)).setCell ⟨wr,2,none⟩ x.fr).setCell ⟨wr,3,none⟩ x.lt=w6 at*;have hS:∀W,Below w6 w6 W->W.cell? w=some (.int .i64 x1)/\W.cell? ⟨w,1,none⟩=some (.slice Av acc.length cv)/\W.cell? ⟨wr,0,none⟩=some (.int .i64 x.sn)/\W.cell? ⟨wr,1,none⟩=some (.bool x.part)/\W.cell? ⟨wr,2,none⟩=some (.int .i64 x.fr)/\W.cell? ⟨wr,3,none⟩=some (.int .i64 x.lt):=fun W hW=>by
       have b0:=xO.out.below hW xO.out.lt;have b1:=Gm.out.below hW Gm.out.lt;obtain ⟨y0,y1,y2,y3⟩:=b1.jP;exact ⟨b0.cell 0,b0.cell 1,y0,y1,y2,y3⟩
      have HS:=ah hS;have Gn:=ah (fun (W:World) (hb:Below w6.drew.heap.size w6.drew W)=>hS W ((bS _ w6).drew.trans hb));have hal:=fun (W:World)=>FB W (x1:Int) x
      unfold nU at hal;have yE:=ah hal;have HBR:=ah (bS w6 w6).drew;have Vl:=ah (fun (W:World) (hb:Below w6.drew.heap.size w6.drew W)=>(bS w6 w6).drew.trans hb);clear hS hal;have asL:=HI.out.al;by_cases Qa:acc.length<512
      ·have ahc:decide ((acc.length:Int)<512)=true:=iK (by omega);cases hA:iq (x1:Int) x with
       |false=>
        rw[hA] at yE;have BN:R= .inl 9:=by
         have h1:=HG1.out;rw[aP (by unfold wI;rw[hA];simp)] at h1;have h2:=HR3.out;rw[<-h1] at h2;exact h2.symm
        have I6:=ah BN;clear BN hA;refine Code.wp_mono (Q:=dX (.pointer (some w)) (.pointer (some ⟨w+1,0,none⟩)) [{target:= .fn (.func 133) #[.pointer (some w),.pointer (some ⟨w+1,0,none⟩)],args:= #[]}] (fun e W=>e= .panic [{v:= .iface 53 (.int .i64 9),recovered:=false}]/\Below w6 w6 W)) (fun e a W h=> ?_) ?_
        ·cases e with
         |panic c8=>
          obtain ⟨h2,h3,hd,he,hb⟩:=h;cases he;obtain ⟨T,D⟩:=a;dsimp only at h2 h3 hd;subst hd;exact lI w W R 9 T _ _ _ h2 h3 (xO.out.below hb xO.out.lt) (Ip.out.below hb Ip.out.lt) (KR.out.trans (hb.mono KR.out.size)) I6.out
         |_=>exact (h:False).elim
        refine bX (fun w'=>w'.cell? w=some (.int .i64 x1)/\w'.cell? ⟨w,1,none⟩=some (.slice Av acc.length cv)/\w'.cell? ⟨wr,0,none⟩=some (.int .i64 x.sn)/\w'.cell? ⟨wr,1,none⟩=some (.bool x.part)/\w'.cell? ⟨wr,2,none⟩=some (.int .i64 x.fr)/\w'.cell? ⟨wr,3,none⟩=some (.int .i64 x.lt)) [] (by kernel_rfl) ?_;have hHeld:=HS.out _ HBR.out;refine aW 0 ?_ (hi:=rfl) (hQ:=dX.put (by decide) (by decide));refine aW 1 ?_ (hi:=rfl) (hQ:=dX.put (by decide) (by decide));refine aW 2 ?_ (hi:=rfl) (hQ:=dX.put (by decide) (by decide));refine aW 3 ?_ (hi:=rfl) (hQ:=dX.put (by decide) (by decide));refine jq [] 4 ?_ (hi:=rfl) (hQ:=dX.put (by decide) (by decide));refine jq [] 5 ?_ (hi:=rfl) (hQ:=dX.put (by decide) (by decide));refine aU (i:=6) rfl (by kernel_rfl) (by rfl) (fun K hK=> ?_);go_simp;refine (yE.out _).mono ?_;rintro e6 w6b ⟨rfl,hb6⟩;refine hK _ _ (Gn.out _ hb6) ?_;have hHeld:=(Gn.out _ hb6);clear hK K
        try simp only[Act.put,gJ]
        refine aW 7 ?_ (hi:=rfl) (hQ:=dX.put (by decide) (by decide));refine aW 8 ?_ (hi:=rfl) (hQ:=dX.put (by decide) (by decide));refine jU 9 ?_ (hi:=rfl) (hQ:=dX.put (by decide) (by decide));refine jU 10 ?_ (hi:=rfl) (hQ:=dX.put (by decide) (by decide));refine jU 11 ?_ (hi:=rfl) (hQ:=dX.put (by decide) (by decide));refine jU 12 ?_ (hi:=rfl) (hQ:=dX.put (by decide) (by decide));refine jU 13 ?_ (hi:=rfl) (hQ:=dX.put (by decide) (by decide));refine jU 14 ?_ (hi:=rfl) (hQ:=dX.put (by decide) (by decide));refine jU 15 ?_ (hi:=rfl) (hQ:=dX.put (by decide) (by decide));refine jU 16 ?_ (hi:=rfl) (hQ:=dX.put (by decide) (by decide));refine jU 17 ?_ (hi:=rfl) (hQ:=dX.put (by decide) (by decide));refine jU 18 ?_ (hi:=rfl) (hQ:=dX.put (by decide) (by decide));refine jU 19 ?_ (hi:=rfl) (hQ:=dX.put (by decide) (by decide));refine jU 20 ?_ (hi:=rfl) (hQ:=dX.put (by decide) (by decide));refine jU 21 ?_ (hi:=rfl) (hQ:=dX.put (by decide) (by decide));refine jU 22 ?_ (hi:=rfl) (hQ:=dX.put (by decide) (by decide));refine aW 23 ?_ (hi:=rfl) (hQ:=dX.put (by decide) (by decide));refine aU (i:=24) rfl (by kernel_rfl) (by rfl) (fun K hK=> ?_);go_simp;refine (lW 9 _).mono ?_;rintro e8 w8 ⟨rfl,rfl⟩;exact ⟨rfl,rfl,rfl,rfl,Vl.out _ hb6⟩
       |true=>
        rw[hA] at yE;have HA:=ah hA;clear hA;rcases oV acc.length with hl0|hlp
        ·have hg2:qC bs x1 f m' p (acc++ [x])=R2:=by
          have h1:=HG1.out;rw[bD (by
           unfold wI;rw[HA.out,nV hl0];rfl)] at h1
          exact h1
         have HGF:=ah hg2;clear hg2;rw[hl0] at xO VP HS Gn ⊢;refine wp_region_noPanic ?_;refine bX (fun w'=>w'.cell? w=some (.int .i64 x1)/\w'.cell? ⟨w,1,none⟩=some (.slice Av 0 cv)/\w'.cell? ⟨wr,0,none⟩=some (.int .i64 x.sn)/\w'.cell? ⟨wr,1,none⟩=some (.bool x.part)/\w'.cell? ⟨wr,2,none⟩=some (.int .i64 x.fr)/\w'.cell? ⟨wr,3,none⟩=some (.int .i64 x.lt)) [] (by kernel_rfl) ?_;have hHeld:=HS.out _ HBR.out;refine aW 0 ?_;refine aW 1 ?_;refine aW 2 ?_;refine aW 3 ?_;refine jq [] 4 ?_;refine jq [] 5 ?_;refine aU (i:=6) rfl (by kernel_rfl) (by rfl) (fun K hK=> ?_);go_simp;refine (yE.out _).mono ?_;rintro e6 w6b ⟨rfl,hb6⟩;refine hK _ _ (Gn.out _ hb6) ?_;have hHeld:=(Gn.out _ hb6);clear hK K
         try simp only[Act.put,gJ]
         refine aW 7 ?_;refine aW 8 ?_;refine aW 9 ?_;refine aW 10 ?_;refine aW 11 ?_;refine jU 12 ?_;refine jU 13 ?_;refine jU 14 ?_;refine jU 15 ?_;refine jU 16 ?_;refine jU 17 ?_;refine jU 18 ?_;refine jU 19 ?_;refine jU 20 ?_;refine jU 21 ?_;refine aW 22 ?_;refine aW 23 ?_;refine aU (i:=24) rfl (by kernel_rfl) (by rfl) (fun K hK=> ?_);go_simp;refine (qG 9 _).mono ?_;rintro e8 w8 ⟨rfl,rfl⟩;refine hK _ _ hHeld ?_;have hHeld:=hHeld;clear hK K
         try simp only[Act.put,gJ]
         have GU:=ah (Vl.out _ hb6);refine bW (by kernel_rfl) ?_ _;refine NoPanic.normal ?_;have HB8:=ah (KR.out.trans (GU.out.mono KR.out.size));have VQ:=ah (xO.out.below GU.out xO.out.lt);have acT:=ah (Ip.out.below GU.out Ip.out.lt);have acU:=ah (Y6.out.below GU.out Y6.out.lt);have Io:Hid (ni w6b r v bs p):=ah ⟨SS.out.1.below GU.out SS.out.1.lt,own_below SS.out.2 GU.out (aL)⟩;have Gp:=ah ((own_below VP.out GU.out (aL)).alloc (.cells (Jt x) 197));have HNK:=ah (KM w6b x);obtain ⟨y0,y1,y2,y3⟩:=(Gm.out.below GU.out Gm.out.lt).jP;have z1:=VQ.out.cell 1;simp only[nW] at z1;have HZS:=ah HB8.out.size;clear hHeld GU;simp only[Jt] at Gp HNK;go_wp2_with (at_builtin;refine jc _ rfl _ _ 131 rfl w 197 i0 (.agg #[.int .i64 0,.bool false,.int .i64 0,.int .i64 0]) 32 yV hi hz0 hz1 hz2 rfl (.slice Av 0 cv) 0 (si acc) rfl Gp.out (some ⟨w6b,0,none⟩) 1 1 [x] rfl HNK.out ?c3 ?c4 ?c5 ?_)
         case c3=>unfold maxLen;omega
         case c4=>omega
         case c5=>have:=HZS.out;simp;omega
         intro v9 w9 Gq uJ;have VR:(acc++ [x]).length=1:=by rw[l8];simp[hl0]
         rw[<-Bb] at Gq;have zf:w9.ownsRow w 197 4 v9 (acc++ [x]).length (si (acc++ [x])):=by rw[VR];exact Gq
         obtain ⟨A9,c9,TC,_,_⟩:=dD.eu (l:=acc++ [x]) zf;rw[VR] at TC;subst TC;have hnb:∀(g:Nat) (t:TypeId) (cs:Array Value),av (w6b.alloc (.cells #[x.sn,.bool x.part,x.fr,x.lt] 197)) g t cs->197≠t->av w9 g t cs:=fun g t cs hb ht=>hb.grown uJ (fun e=>jd Gp.out hb ht e.symm)
         have OZ:=hnb _ _ _ (VQ.out.alloc _) (by decide);have be9:=hnb _ _ _ (acT.out.alloc _) (by decide);have bd9:=hnb _ _ _ (acU.out.alloc _) (by decide);have rd9:ni w9 r v bs p:=by
          refine ⟨hnb _ _ _ (Io.out.1.alloc _) (by decide),(Io.out.2.alloc _).kept uJ ?_⟩;rcases hq:v.ownBlock with _|j
          ·exact .inl rfl
          ·exact .inr (fun e=>JL Gp.out (Io.out.2.alloc (.cells #[x.sn,.bool x.part,x.fr,x.lt] 197)) (by decide) e.symm hq)
         have X7:Below w w w9:=(HB8.out.alloc HB8.out.size _).grown uJ (by have:=HZS.out;simp;omega) (fun j hj=>(Gp.out.lt j hj).1);have p1:=OZ.cell 1;have f1:=OZ.frozen 1;have ow9:=iF (i:=1) zf OZ (by decide) (.slice A9 1 c9);have Le:=OZ.ay 1 (.slice A9 1 c9);have VS:=be9.far (p:=⟨w,1,none⟩) (show w.heap.size+1≠w.heap.size by omega) (.slice A9 1 c9);have VT:=bd9.far (p:=⟨w,1,none⟩) (show d≠w.heap.size by omega) (.slice A9 1 c9);have VU:ni (w9.setCell ⟨w,1,none⟩ (.slice A9 1 c9)) r v bs p:=⟨rd9.1.far (p:=⟨w,1,none⟩) (show r≠w.heap.size by omega) _,aN (i:=1) rd9.2 OZ (by decide) _⟩;have VW:=X7.setCell (p:=⟨w,1,none⟩) (aL) (.slice A9 1 c9);have q1:=Le.cell 1;simp only[nW] at p1;simp at Le q1;have HF:Hid (acL w bs r d v x1 R2 (acc++ [x]) m' p (.slice A9 1 c9) (w9.setCell ⟨w,1,none⟩ (.slice A9 1 c9))):=ah ⟨by omega,by rw[VR,show 513-1=f by have:=HFF.out;omega];exact HGF.out,VU,Kk.out,by simpa using Le,VS,VT,ow9,VW⟩;have HQ1:=ah q1;clear Gq zf uJ hnb OZ be9 bd9 rd9 X7 ow9 Le VS VT VU VW y0 y1 y2 y3 z1 q1;go_wp2_with fail
         go_roundw
         case rel=>exact ⟨_,_,_,_,rfl,HF.out⟩
         case measure=>
          have hm0:=HI.out.bp.cell 1;simp only[nW] at hm0;rw[HQ1.out,hm0];simp[BJ];omega
        ·obtain ⟨k,hl0⟩:∃k,acc.length=k+1:=⟨acc.length-1,by omega⟩
         obtain ⟨m,hm⟩:∃m,acc[k]? =some m:=⟨_,gX (by omega)⟩
         have hgl:acc.getLast? =some m:=by rw[List.getLast?_eq_getElem?,hl0];exact hm
         obtain ⟨A6,c6,hV6,ahg,_⟩:=dD.eu (l:=acc) VP.out;cases hV6;obtain ⟨ad,hAd,FC,hcl⟩:=ahg.at_ (by omega);subst hAd;obtain ⟨n0,n1,n2,n3⟩:=hcl k m hm;rw[hl0] at xO VP HS ⊢;have Lf:∀W,Below w6 w6 W->W.cell? w=some (.int .i64 x1)/\W.cell? ⟨w,1,none⟩=some (.slice (some ad) (k+1) cv)/\W.cell? ⟨wr,0,none⟩=some (.int .i64 x.sn)/\W.cell? ⟨wr,1,none⟩=some (.bool x.part)/\W.cell? ⟨wr,2,none⟩=some (.int .i64 x.fr)/\W.cell? ⟨wr,3,none⟩=some (.int .i64 x.lt)/\W.cell? (ad.add (k*4))=some (.int .i64 m.sn)/\W.cell? ⟨(ad.add (k*4)).block,(ad.add (k*4)).off+1,none⟩=some (.bool m.part)/\W.cell? ⟨(ad.add (k*4)).block,(ad.add (k*4)).off+2,none⟩=some (.int .i64 m.fr)/\W.cell? ⟨(ad.add (k*4)).block,(ad.add (k*4)).off+3,none⟩=some (.int .i64 m.lt):=fun W hW=>by
          have b0:=xO.out.below hW xO.out.lt;have b1:=Gm.out.below hW Gm.out.lt;obtain ⟨y0,y1,y2,y3⟩:=b1.jP;have hbk:(ad.add (k*4)).block<w6.heap.size:=by rw[block_add];exact FC
          exact ⟨b0.cell 0,b0.cell 1,y0,y1,y2,y3,(hW.cell hbk).trans n0,(hW.cell (p:=⟨(ad.add (k*4)).block,_,none⟩) hbk).trans n1,(hW.cell (p:=⟨(ad.add (k*4)).block,_,none⟩) hbk).trans n2,(hW.cell (p:=⟨(ad.add (k*4)).block,_,none⟩) hbk).trans n3⟩
         have hfo:=fun (W:World)=>AR W (x1:Int) m x
         unfold nU at hfo;clear Gn HS;have HS:=ah Lf;have Gn:=ah (fun (W:World) (hb:Below w6.drew.heap.size w6.drew W)=>Lf W (Vl.out W hb));have HBC:=ah (fun (W W':World) (hb:Below w6.drew.heap.size w6.drew W) (hb2:Below W.heap.size W W')=>(Vl.out W hb).trans (hb2.mono (Vl.out W hb).size));have Y7:=ah (fun (W W':World) (hb:Below w6.drew.heap.size w6.drew W) (hb2:Below W.heap.size W W')=>Lf W' ((Vl.out W hb).trans (hb2.mono (Vl.out W hb).size)));have Xe:=ah hfo;have HM:=ah hgl;have hne0:((k:Int)+1==0)=false:=by simp;omega
         have ahh:decide ((k:Int)+1<512)=true:=iK (by omega);have ahi:decide (k+1<512)=true:=iK (by omega);have hwk:IntKind.i64.wrap (k:Int)=(k:Int):=iG _ (by omega);have hk0:(0:Int)<=k:=by omega
         have hk1:(k:Int)<k+1:=by omega
         clear Lf hfo hgl hm ahg hcl n0 n1 n2 n3 hlp ahc;cases hF:jL (x1:Int) m x with
         |false=>
          rw[hF] at Xe;have BN:R= .inl 9:=by
           have h1:=HG1.out;rw[if_neg (by unfold wI;rw[HM.out];dsimp only;rw[hF];simp)] at h1;have h2:=HR3.out;rw[<-h1] at h2;exact h2.symm
          have I6:=ah BN;clear BN hF;refine Code.wp_mono (Q:=dX (.pointer (some w)) (.pointer (some ⟨w+1,0,none⟩)) [{target:= .fn (.func 133) #[.pointer (some w),.pointer (some ⟨w+1,0,none⟩)],args:= #[]}] (fun e W=>e= .panic [{v:= .iface 53 (.int .i64 9),recovered:=false}]/\Below w6 w6 W)) (fun e a W h=> ?_) ?_
          ·cases e with
           |panic c8=>
            obtain ⟨h2,h3,hd,he,hb⟩:=h;cases he;obtain ⟨T,D⟩:=a;dsimp only at h2 h3 hd;subst hd;exact lI w W R 9 T _ _ _ h2 h3 (xO.out.below hb xO.out.lt) (Ip.out.below hb Ip.out.lt) (KR.out.trans (hb.mono KR.out.size)) I6.out
           |_=>exact (h:False).elim
          refine bX (fun w'=>w'.cell? w=some (.int .i64 x1)/\w'.cell? ⟨w,1,none⟩=some (.slice (some ad) (k+1) cv)/\w'.cell? ⟨wr,0,none⟩=some (.int .i64 x.sn)/\w'.cell? ⟨wr,1,none⟩=some (.bool x.part)/\w'.cell? ⟨wr,2,none⟩=some (.int .i64 x.fr)/\w'.cell? ⟨wr,3,none⟩=some (.int .i64 x.lt)/\w'.cell? (ad.add (k*4))=some (.int .i64 m.sn)/\w'.cell? ⟨(ad.add (k*4)).block,(ad.add (k*4)).off+1,none⟩=some (.bool m.part)/\w'.cell? ⟨(ad.add (k*4)).block,(ad.add (k*4)).off+2,none⟩=some (.int .i64 m.fr)/\w'.cell? ⟨(ad.add (k*4)).block,(ad.add (k*4)).off+3,none⟩=some (.int .i64 m.lt)) [] (by kernel_rfl) ?_;have hHeld:=HS.out _ HBR.out;refine aW 0 ?_ (hi:=rfl) (hQ:=dX.put (by decide) (by decide));refine aW 1 ?_ (hi:=rfl) (hQ:=dX.put (by decide) (by decide));refine aW 2 ?_ (hi:=rfl) (hQ:=dX.put (by decide) (by decide));refine aW 3 ?_ (hi:=rfl) (hQ:=dX.put (by decide) (by decide));refine jq [] 4 ?_ (hi:=rfl) (hQ:=dX.put (by decide) (by decide));refine jq [] 5 ?_ (hi:=rfl) (hQ:=dX.put (by decide) (by decide));refine aU (i:=6) rfl (by kernel_rfl) (by rfl) (fun K hK=> ?_);go_simp;refine (yE.out _).mono ?_;rintro e6 w6b ⟨rfl,hb6⟩;refine hK _ _ (Gn.out _ hb6) ?_;have hHeld:=(Gn.out _ hb6);clear hK K
          try simp only[Act.put,gJ]
          refine aW 7 ?_ (hi:=rfl) (hQ:=dX.put (by decide) (by decide));refine aW 8 ?_ (hi:=rfl) (hQ:=dX.put (by decide) (by decide));refine aW 9 ?_ (hi:=rfl) (hQ:=dX.put (by decide) (by decide));refine aW 10 ?_ (hi:=rfl) (hQ:=dX.put (by decide) (by decide));refine aW 11 ?_ (hi:=rfl) (hQ:=dX.put (by decide) (by decide));refine aW 12 ?_ (hi:=rfl) (hQ:=dX.put (by decide) (by decide));refine jq [] 13 ?_ (hi:=rfl) (hQ:=dX.put (by decide) (by decide));refine aW 14 ?_ (hi:=rfl) (hQ:=dX.put (by decide) (by decide));refine jq [] 15 ?_ (hi:=rfl) (hQ:=dX.put (by decide) (by decide));refine aW 16 ?_ (hi:=rfl) (hQ:=dX.put (by decide) (by decide));refine aW 17 ?_ (hi:=rfl) (hQ:=dX.put (by decide) (by decide));refine aW 18 ?_ (hi:=rfl) (hQ:=dX.put (by decide) (by decide));refine jq [] 19 ?_ (hi:=rfl) (hQ:=dX.put (by decide) (by decide));refine jq [] 20 ?_ (hi:=rfl) (hQ:=dX.put (by decide) (by decide));refine aU (i:=21) rfl (by kernel_rfl) (by rfl) (fun K hK=> ?_);go_simp;refine (Xe.out _).mono ?_;rintro e7 w7b ⟨rfl,qT⟩;refine hK _ _ (Y7.out _ _ hb6 qT) ?_;have hHeld:=(Y7.out _ _ hb6 qT);clear hK K
          try simp only[Act.put,gJ]
          refine aW 22 ?_ (hi:=rfl) (hQ:=dX.put (by decide) (by decide));refine aW 23 ?_ (hi:=rfl) (hQ:=dX.put (by decide) (by decide));refine aU (i:=24) rfl (by kernel_rfl) (by rfl) (fun K hK=> ?_);go_simp;refine (lW 9 _).mono ?_;rintro e8 w8 ⟨rfl,rfl⟩;exact ⟨rfl,rfl,rfl,rfl,HBC.out _ _ hb6 qT⟩
         |true=>
          rw[hF] at Xe;have hg2:qC bs x1 f m' p (acc++ [x])=R2:=by
           have h1:=HG1.out;rw[bD (by
            unfold wI;rw[HA.out,HM.out];dsimp only;rw[hF,iK Qa];rfl)] at h1
           exact h1
          have HGF:=ah hg2;clear hg2 hF;refine wp_region_noPanic ?_;refine bX (fun w'=>w'.cell? w=some (.int .i64 x1)/\w'.cell? ⟨w,1,none⟩=some (.slice (some ad) (k+1) cv)/\w'.cell? ⟨wr,0,none⟩=some (.int .i64 x.sn)/\w'.cell? ⟨wr,1,none⟩=some (.bool x.part)/\w'.cell? ⟨wr,2,none⟩=some (.int .i64 x.fr)/\w'.cell? ⟨wr,3,none⟩=some (.int .i64 x.lt)/\w'.cell? (ad.add (k*4))=some (.int .i64 m.sn)/\w'.cell? ⟨(ad.add (k*4)).block,(ad.add (k*4)).off+1,none⟩=some (.bool m.part)/\w'.cell? ⟨(ad.add (k*4)).block,(ad.add (k*4)).off+2,none⟩=some (.int .i64 m.fr)/\w'.cell? ⟨(ad.add (k*4)).block,(ad.add (k*4)).off+3,none⟩=some (.int .i64 m.lt)) [] (by kernel_rfl) ?_;have hHeld:=HS.out _ HBR.out;refine aW 0 ?_;refine aW 1 ?_;refine aW 2 ?_;refine aW 3 ?_;refine jq [] 4 ?_;refine jq [] 5 ?_;refine aU (i:=6) rfl (by kernel_rfl) (by rfl) (fun K hK=> ?_);go_simp;refine (yE.out _).mono ?_;rintro e6 w6b ⟨rfl,hb6⟩;refine hK _ _ (Gn.out _ hb6) ?_;have hHeld:=(Gn.out _ hb6);clear hK K
          try simp only[Act.put,gJ]
          refine aW 7 ?_;refine aW 8 ?_;refine aW 9 ?_;refine aW 10 ?_;refine aW 11 ?_;refine aW 12 ?_;refine jq [] 13 ?_;refine aW 14 ?_;refine jq [] 15 ?_;refine aW 16 ?_;refine aW 17 ?_;refine aW 18 ?_;refine jq [] 19 ?_;refine jq [] 20 ?_;refine aU (i:=21) rfl (by kernel_rfl) (by rfl) (fun K hK=> ?_);go_simp;refine (Xe.out _).mono ?_;rintro e7 w7b ⟨rfl,qT⟩;refine hK _ _ (Y7.out _ _ hb6 qT) ?_;have hHeld:=(Y7.out _ _ hb6 qT);clear hK K
          try simp only[Act.put,gJ]
          refine aW 22 ?_;refine aW 23 ?_;refine aU (i:=24) rfl (by kernel_rfl) (by rfl) (fun K hK=> ?_);go_simp;refine (qG 9 _).mono ?_;rintro e8 w8 ⟨rfl,rfl⟩;refine hK _ _ hHeld ?_;have hHeld:=hHeld;clear hK K
          try simp only[Act.put,gJ]
          have GU:=ah (HBC.out _ _ hb6 qT);refine bW (by kernel_rfl) ?_ _;refine NoPanic.normal ?_;have HB8:=ah (KR.out.trans (GU.out.mono KR.out.size));have VQ:=ah (xO.out.below GU.out xO.out.lt);have acT:=ah (Ip.out.below GU.out Ip.out.lt);have acU:=ah (Y6.out.below GU.out Y6.out.lt);have Io:Hid (ni w7b r v bs p):=ah ⟨SS.out.1.below GU.out SS.out.1.lt,own_below SS.out.2 GU.out (aL)⟩;have Gp:=ah ((own_below VP.out GU.out (aL)).alloc (.cells (Jt x) 197));have HNK:=ah (KM w7b x);obtain ⟨y0,y1,y2,y3⟩:=(Gm.out.below GU.out Gm.out.lt).jP;have z1:=VQ.out.cell 1;simp only[nW] at z1;have HZS:=ah HB8.out.size;clear hHeld GU;simp only[Jt] at Gp HNK;go_wp2_with (at_builtin;refine jc _ rfl _ _ 131 rfl w 197 i0 (.agg #[.int .i64 0,.bool false,.int .i64 0,.int .i64 0]) 32 yV hi hz0 hz1 hz2 rfl (.slice (some ad) (k+1) cv) (k+1) (si acc) rfl Gp.out (some ⟨w7b,0,none⟩) 1 1 [x] rfl HNK.out ?c3 ?c4 ?c5 ?_)
          case c3=>unfold maxLen;omega
          case c4=>omega
          case c5=>have:=HZS.out;simp;omega
          intro v9 w9 Gq uJ;have VR:(acc++ [x]).length=k+1+1:=by rw[l8];simp[hl0]
          rw[<-Bb] at Gq;have zf:w9.ownsRow w 197 4 v9 (acc++ [x]).length (si (acc++ [x])):=by rw[VR];exact Gq
          obtain ⟨A9,c9,TC,_,_⟩:=dD.eu (l:=acc++ [x]) zf;rw[VR] at TC;subst TC;have hnb:∀(g:Nat) (t:TypeId) (cs:Array Value),av (w7b.alloc (.cells #[x.sn,.bool x.part,x.fr,x.lt] 197)) g t cs->197≠t->av w9 g t cs:=fun g t cs hb ht=>hb.grown uJ (fun e=>jd Gp.out hb ht e.symm)
          have OZ:=hnb _ _ _ (VQ.out.alloc _) (by decide);have be9:=hnb _ _ _ (acT.out.alloc _) (by decide);have bd9:=hnb _ _ _ (acU.out.alloc _) (by decide);have rd9:ni w9 r v bs p:=by
           refine ⟨hnb _ _ _ (Io.out.1.alloc _) (by decide),(Io.out.2.alloc _).kept uJ ?_⟩;rcases hq:v.ownBlock with _|j
           ·exact .inl rfl
           ·exact .inr (fun e=>JL Gp.out (Io.out.2.alloc (.cells #[x.sn,.bool x.part,x.fr,x.lt] 197)) (by decide) e.symm hq)
          have X7:Below w w w9:=(HB8.out.alloc HB8.out.size _).grown uJ (by have:=HZS.out;simp;omega) (fun j hj=>(Gp.out.lt j hj).1);have p1:=OZ.cell 1;have f1:=OZ.frozen 1;have ow9:=iF (i:=1) zf OZ (by decide) (.slice A9 (k+1+1) c9);have Le:=OZ.ay 1 (.slice A9 (k+1+1) c9);have VS:=be9.far (p:=⟨w,1,none⟩) (show w.heap.size+1≠w.heap.size by omega) (.slice A9 (k+1+1) c9);have VT:=bd9.far (p:=⟨w,1,none⟩) (show d≠w.heap.size by omega) (.slice A9 (k+1+1) c9);have VU:ni (w9.setCell ⟨w,1,none⟩ (.slice A9 (k+1+1) c9)) r v bs p:=⟨rd9.1.far (p:=⟨w,1,none⟩) (show r≠w.heap.size by omega) _,aN (i:=1) rd9.2 OZ (by decide) _⟩;have VW:=X7.setCell (p:=⟨w,1,none⟩) (aL) (.slice A9 (k+1+1) c9);have q1:=Le.cell 1;simp only[nW] at p1;simp at Le q1;have HF:Hid (acL w bs r d v x1 R2 (acc++ [x]) m' p (.slice A9 (k+1+1) c9) (w9.setCell ⟨w,1,none⟩ (.slice A9 (k+1+1) c9))):=ah ⟨by omega,by rw[VR,show 513-(k+1+1)=f by have:=HFF.out;omega];exact HGF.out,VU,Kk.out,by simpa using Le,VS,VT,ow9,VW⟩;have HQ1:=ah q1;clear Gq zf uJ hnb OZ be9 bd9 rd9 X7 ow9 Le VS VT VU VW y0 y1 y2 y3 z1 q1;go_wp2_with fail
          go_roundw
          case rel=>exact ⟨_,_,_,_,rfl,HF.out⟩
          case measure=>
           clear hne0 ahh ahi hwk;have hm0:=HI.out.bp.cell 1;simp only[nW] at hm0;rw[HQ1.out,hm0];simp[BJ];omega
      ·have ahc:decide ((acc.length:Int)<512)=false:=iP (by omega);have BN:R= .inl 9:=by
        have h1:=HG1.out;rw[aP (by unfold wI;rw[iP Qa];simp)] at h1;have h2:=HR3.out;rw[<-h1] at h2;exact h2.symm
       have I6:=ah BN;clear BN;refine Code.wp_mono (Q:=dX (.pointer (some w)) (.pointer (some ⟨w+1,0,none⟩)) [{target:= .fn (.func 133) #[.pointer (some w),.pointer (some ⟨w+1,0,none⟩)],args:= #[]}] (fun e W=>e= .panic [{v:= .iface 53 (.int .i64 9),recovered:=false}]/\Below w6 w6 W)) (fun e a W h=> ?_) ?_
       ·cases e with
        |panic c8=>
         obtain ⟨h2,h3,hd,he,hb⟩:=h;cases he;obtain ⟨T,D⟩:=a;dsimp only at h2 h3 hd;subst hd;exact lI w W R 9 T _ _ _ h2 h3 (xO.out.below hb xO.out.lt) (Ip.out.below hb Ip.out.lt) (KR.out.trans (hb.mono KR.out.size)) I6.out
        |_=>exact (h:False).elim
       refine bX (fun w'=>w'.cell? w=some (.int .i64 x1)/\w'.cell? ⟨w,1,none⟩=some (.slice Av acc.length cv)/\w'.cell? ⟨wr,0,none⟩=some (.int .i64 x.sn)/\w'.cell? ⟨wr,1,none⟩=some (.bool x.part)/\w'.cell? ⟨wr,2,none⟩=some (.int .i64 x.fr)/\w'.cell? ⟨wr,3,none⟩=some (.int .i64 x.lt)) [] (by kernel_rfl) ?_;have hHeld:=HS.out _ HBR.out;refine aW 0 ?_ (hi:=rfl) (hQ:=dX.put (by decide) (by decide));refine aW 1 ?_ (hi:=rfl) (hQ:=dX.put (by decide) (by decide));refine aW 2 ?_ (hi:=rfl) (hQ:=dX.put (by decide) (by decide));refine jU 3 ?_ (hi:=rfl) (hQ:=dX.put (by decide) (by decide));refine jU 4 ?_ (hi:=rfl) (hQ:=dX.put (by decide) (by decide));refine jU 5 ?_ (hi:=rfl) (hQ:=dX.put (by decide) (by decide));refine jU 6 ?_ (hi:=rfl) (hQ:=dX.put (by decide) (by decide));refine aW 7 ?_ (hi:=rfl) (hQ:=dX.put (by decide) (by decide));refine aW 8 ?_ (hi:=rfl) (hQ:=dX.put (by decide) (by decide));refine jU 9 ?_ (hi:=rfl) (hQ:=dX.put (by decide) (by decide));refine jU 10 ?_ (hi:=rfl) (hQ:=dX.put (by decide) (by decide));refine jU 11 ?_ (hi:=rfl) (hQ:=dX.put (by decide) (by decide));refine jU 12 ?_ (hi:=rfl) (hQ:=dX.put (by decide) (by decide));refine jU 13 ?_ (hi:=rfl) (hQ:=dX.put (by decide) (by decide));refine jU 14 ?_ (hi:=rfl) (hQ:=dX.put (by decide) (by decide));refine jU 15 ?_ (hi:=rfl) (hQ:=dX.put (by decide) (by decide));refine jU 16 ?_ (hi:=rfl) (hQ:=dX.put (by decide) (by decide))
       refine jU 17 ?_ (hi:=rfl) (hQ:=dX.put (by decide) (by decide));refine jU 18 ?_ (hi:=rfl) (hQ:=dX.put (by decide) (by decide));refine jU 19 ?_ (hi:=rfl) (hQ:=dX.put (by decide) (by decide));refine jU 20 ?_ (hi:=rfl) (hQ:=dX.put (by decide) (by decide));refine jU 21 ?_ (hi:=rfl) (hQ:=dX.put (by decide) (by decide));refine jU 22 ?_ (hi:=rfl) (hQ:=dX.put (by decide) (by decide));refine aW 23 ?_ (hi:=rfl) (hQ:=dX.put (by decide) (by decide));refine aU (i:=24) rfl (by kernel_rfl) (by rfl) (fun K hK=> ?_);go_simp;refine (lW 9 _).mono ?_;rintro e8 w8 ⟨rfl,rfl⟩;exact ⟨rfl,rfl,rfl,rfl,HBR.out⟩
    |false=>
     have Mj:R2= .inr (acc,q):=by
      rw[<-hI.go_];cases 513-acc.length<;>rfl
     have QG:=HR3.out;rw[Mj] at QG;dsimp only at QG;have hen:=VL r v bs q wr hI.rd hI.ql (by omega);by_cases he:FE bs q=true
     ·rw[bD he] at QG hen;have Z0:=ah QG;have O8:=ah hen;clear hI QG hen he Mj;go_wp2_with fail;refine O8.out.mono ?_;rintro e5 w5 ⟨rfl,hb5⟩;have qw:=HI.out.bl.trans (hb5.mono HI.out.bl.size);have E9:=HI.out.bp.below hb5 HI.out.bp.lt;have Ae:=HI.out.be.below hb5 HI.out.be.lt;have ow5:=own_below HI.out.ow hb5 (aL);have p0:=E9.cell 0;have p1:=E9.cell 1;have k4:=Ae.cell 0;have g0:=E9.frozen 0;have g1:=E9.frozen 1;have g4:=Ae.frozen 0;simp at p0 p1 k4;have On:=ah qw;have acW:=ah E9;have DR:=ah Ae;have alQ:=ah ow5;clear hb5 qw E9 Ae ow5;go_wp2_with (go_at_call 137;((with_reducible refine (qG _ _).mono ?_);rintro e6 w6 ⟨rfl,rfl⟩));refine nD (f:=133) (args:= #[.pointer (some w),.pointer (some ⟨w+1,0,none⟩)]) (by simp) (by simp[go_sem]) ?_;refine (P8 _ _ _).mono ?_;rintro e9 u9 w9 ⟨rfl,rfl,rfl⟩;have ahk:=((acW.out.ay 0 x1).ay 1 (.slice Av acc.length cv)).far (p:=⟨w+1,0,none⟩) (show w.heap.size≠w.heap.size+1 by omega) (.int .i64 0);have Y8:=((DR.out.far (p:=⟨w,0,none⟩) (show w.heap.size+1≠w.heap.size by omega) x1).far (p:=⟨w,1,none⟩) (show w.heap.size+1≠w.heap.size by omega) (.slice Av acc.length cv)).ay 0 (.int .i64 0);have X7:=((On.out.setCell (p:=⟨w,0,none⟩) (aL) x1).setCell (p:=⟨w,1,none⟩) (aL) (.slice Av acc.length cv)).setCell (p:=⟨w+1,0,none⟩) (show w.heap.size<=w.heap.size+1 by omega) (.int .i64 0)
      have alR:=iF (i:=0) (iF (i:=1) (iF (i:=0) alQ.out acW.out (by decide) x1) (acW.out.ay 0 x1) (by decide) (.slice Av acc.length cv)) (DR.out.far (p:=⟨w,0,none⟩) (show w.heap.size+1≠w.heap.size by omega) x1 |>.far (p:=⟨w,1,none⟩) (show w.heap.size+1≠w.heap.size by omega) (.slice Av acc.length cv)) (by decide) (.int .i64 0);obtain ⟨A9,c9,hV9,hnk,hnb⟩:=dD.eu (l:=acc) alR;cases hV9;have q0:=ahk.cell 0;have q1:=ahk.cell 1;have q4:=Y8.cell 0;simp at q0 q1 q4;refine ⟨.tuple #[.agg #[x1,.slice Av acc.length cv],.int .i64 0],by simp[results,results92,go_sem,q0,q1,q4],X7,.inr ⟨x1,acc,Av,cv,Z0.out.symm,rfl,hnk,fun ad e=>(hnb ad e).1⟩⟩
     ·rw[aP he] at QG hen;have Z0:=ah QG.symm;have O8:=ah hen;clear hI QG hen he Mj;go_wp2_with fail;refine O8.out.mono ?_;rintro e5 w5 ⟨rfl,hb5⟩;have qw:=HI.out.bl.trans (hb5.mono HI.out.bl.size);have E9:=HI.out.bp.below hb5 HI.out.bp.lt;have Ae:=HI.out.be.below hb5 HI.out.be.lt;clear hb5;go_wp2_with (go_at_call 137;((with_reducible refine (lW _ _).mono ?_);rintro e6 w6 ⟨rfl,rfl⟩));exact lI w _ R 9 _ _ _ _ rfl rfl E9 Ae qw Z0.out
  ·rw[bD h0] at tY;have HR1:=ah tY.symm;have hx0:((x0:Int)==0)=false:=by simp;omega
   clear tY h0;go_wp2_with (first|(go_at_call 135;((with_reducible refine (Bh _ _ _ _).mono ?_);rintro e4 w4 ⟨rfl,rfl⟩))|(go_at_call 137;((with_reducible refine (lW _ _).mono ?_);rintro e4 w4 ⟨rfl,rfl⟩)));exact lI w _ R 9 _ _ _ _ rfl rfl BO tX hB3 HR1.out
end Go.Proofs.YtbhiklnljiehiaaGreat
