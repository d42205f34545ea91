/- status: the parts of Decode. -/
import Derived.Test.YtbhiklnljiehiaaGreatM3ba
set_option maxHeartbeats 2000000
set_option maxRecDepth 100000
namespace Go.Proofs.YtbhiklnljiehiaaGreat
open RowKit Shelf Tryz
attribute [local go_sem] Oper.semAt_some
theorem qG (er:Int) (w:World):Calls prog 137 #[.bool true,er] w fun e w'=>e= .returned (.tuple #[])/\w=w':=by
 go_enter func137,ntmps137;go_wp2
 go_end0
 exact ⟨rfl,rfl⟩
theorem lW (er:Int) (w:World):Calls prog 137 #[.bool false,er] w fun e w'=>e=raise er/\w=w':=by
 unfold raise;go_enter func137,ntmps137;go_wp2;exact ⟨rfl,rfl,rfl⟩
theorem Bh (A:Option Addr) (n c:Nat) (w:World):Calls prog 135 #[.slice A n c,.int .i64 0] w fun e w'=>e= .returned (.slice A n c)/\w=w':=by
 go_enter func135,ntmps135;go_wp2_with (go_at_call 137;refine (qG _ _).mono ?_;rintro e w' ⟨rfl,rfl⟩);go_ret;exact ⟨rfl,rfl⟩
theorem Ct (A:Option Addr) (n c:Nat) (er:Int) (TA:(er==0)=false) (w:World):Calls prog 135 #[.slice A n c,er] w fun e w'=>e=raise er/\w=w':=by
 go_enter func135,ntmps135;go_wp2_with (go_at_call 137;refine (lW _ _).mono ?_;rintro e w' ⟨rfl,rfl⟩);exact ⟨rfl,rfl,rfl⟩
theorem VL (r:Nat) (v:Value) (bs:List UInt8) (pos:Nat) (w:World) (h:ni w r v bs pos) (hp:pos<=8*bs.length) (hsm:bs.length<=1000000000):
 Calls prog 141 #[.pointer (some r)] w fun e w'=>e= .returned (.int .i64 (if FE bs pos=true then 0 else 9))/\Below w w w':=by
 obtain ⟨A,cc,rfl,_⟩:=aY h.2;have c0:=h.1.cell 0;have c1:=h.1.cell 1;simp at c0 c1;have hr1:ni (w.alloc (.cells #[.slice A bs.length cc,.int .i64 (pos:Nat)] 262)) w (.slice A bs.length cc) bs pos:=⟨av.new w _ _,h.2.alloc _⟩;have HL:=ah (EP w _ bs pos _ hr1 hp hsm);have HA:=ah (fun q=>ER w _ bs pos ((w.alloc (.cells #[.slice A bs.length cc,.int .i64 (pos:Nat)] 262)).drewN q) (hr1.drewN q) hsm hp);have HB:=ah (show Below w w (w.alloc (.cells #[.slice A bs.length cc,.int .i64 (pos:Nat)] 262)) from (bS _ w).alloc (aL) _);clear h hr1 hp;by_cases h8:8*bs.length-pos<8
 ·have d8:decide ((8:Int)<=((8*bs.length-pos:Nat):Int))=false:=iP (by omega);by_cases hv:val (ax bs pos (nH pos))=0
  ·have he:FE bs pos=true:=by unfold FE;rw[iK h8,iK hv];rfl
   rw[bD he];rw[bD hv,bD hv] at HA;go_enter func141,ntmps141;go_wp2_with (first
    |(go_at_call 182;refine HL.out.mono ?_;rintro e1 w1 ⟨rfl,q,rfl⟩)
    |(go_at_call 183;refine (HA.out q).mono ?_;rintro e2 w2 ⟨rfl,hr2,hk2⟩))
   go_ret;exact ⟨rfl,(HB.out.drewN q).trans (hk2.below (fun k _ e=>by omega) (HB.out.drewN q).size)⟩
  ·have he:¬FE bs pos=true:=by unfold FE;rw[iP hv];simp
   rw[aP he];rw[aP hv,aP hv] at HA;go_enter func141,ntmps141;go_wp2_with (first
    |(go_at_call 182;refine HL.out.mono ?_;rintro e1 w1 ⟨rfl,q,rfl⟩)
    |(go_at_call 183;refine (HA.out q).mono ?_;rintro e2 w2 ⟨rfl,hr2,hk2⟩))
   go_ret;exact ⟨rfl,(HB.out.drewN q).trans (hk2.below (fun k _ e=>by omega) (HB.out.drewN q).size)⟩
 ·have d8:decide ((8:Int)<=((8*bs.length-pos:Nat):Int))=true:=iK (by omega);have he:¬FE bs pos=true:=by unfold FE;rw[iP h8];simp
  rw[aP he];go_enter func141,ntmps141;go_wp2_with (go_at_call 182;refine HL.out.mono ?_;rintro e1 w1 ⟨rfl,q,rfl⟩);go_ret;exact ⟨rfl,HB.out.drewN q⟩
theorem av.Y3 {w:World} {g:Nat} {t:TypeId} {x0 x1 x2 x3:Value} (b:av w g t #[x0,x1,x2,x3]) (u0 u1 u2 u3:Value):
 av ((((w.setCell g u0).setCell ⟨g,1,none⟩ u1).setCell ⟨g,2,none⟩ u2).setCell ⟨g,3,none⟩ u3) g t #[u0,u1,u2,u3]:=by
 have:=(((b.ay 0 u0).ay 1 u1).ay 2 u2).ay 3 u3;simpa using this
theorem j6 {w:World} {g k:Nat} (hk:k≠g) (u0 u1 u2 u3:Value):((((w.setCell g u0).setCell ⟨g,1,none⟩ u1).setCell ⟨g,2,none⟩ u2).setCell ⟨g,3,none⟩ u3).heap[k]? =w.heap[k]? :=
 (lZ _ _ _ _ hk).trans ((lZ _ _ _ _ hk).trans ((lZ _ _ _ _ hk).trans (lZ _ _ _ _ hk)))
theorem JK {w:World} {g:Nat} (u0 u1 u2 u3:Value):((((w.setCell g u0).setCell ⟨g,1,none⟩ u1).setCell ⟨g,2,none⟩ u2).setCell ⟨g,3,none⟩ u3).heap.size=w.heap.size:=by simp[World.setCell]
theorem wT {w:World} {base n g:Nat} {e t:TypeId} {v:Value} {xs:List Value} {x0 x1 x2 x3:Value} (h:w.ownsRow base e 1 v n xs) (b:av w g t #[x0,x1,x2,x3]) (he:e≠t) (u0 u1 u2 u3:Value):
 ((((w.setCell g u0).setCell ⟨g,1,none⟩ u1).setCell ⟨g,2,none⟩ u2).setCell ⟨g,3,none⟩ u3).ownsRow base e 1 v n xs:=
 aN (aN (aN (aN h b he u0) (b.ay 0 u0) he u1) ((b.ay 0 u0).ay 1 u1) he u2) (((b.ay 0 u0).ay 1 u1).ay 2 u2) he u3
theorem Cu {w W:World} {M:Nat->Obj->Prop} (h:Kept M w W) {g:Nat} (hg:∀o,w.heap[g]? =some o->M g o) (u0 u1 u2 u3:Value):
 Kept M w ((((W.setCell g u0).setCell ⟨g,1,none⟩ u1).setCell ⟨g,2,none⟩ u2).setCell ⟨g,3,none⟩ u3):=
 (((h.setCell (p:=⟨g,0,none⟩) hg u0).setCell (p:=⟨g,1,none⟩) hg u1).setCell (p:=⟨g,2,none⟩) hg u2).setCell (p:=⟨g,3,none⟩) hg u3
def alJ (w:World) (r:Nat) (v:Value) (bs:List UInt8) (R:Option (Nk × Bool × Nat)) (e:Ending) (w':World):Prop:=
 Kept (fun k _=>k=r\/w<=k) w w'/\((R=none/\e=raise 5)\/∃x more p,R=some (x,more,p)/\e= .returned (.tuple #[.agg (nU x),.bool more])/\ni w' r v bs p)
theorem P7 (r:Nat) (v:Value) (bs:List UInt8) (pos:Nat) (w:World) (h:ni w r v bs pos) (hp:pos<=8*bs.length) (hsm:bs.length<=1000000000):
 Calls prog 138 #[.agg #[.pointer (some r)]] w (alJ w r v bs (Ig bs pos)):=by
 obtain ⟨R,hR⟩:∃R,Ig bs pos=R:=⟨_,rfl⟩
 rw[hR];have HR:=ah hR;clear hR;obtain ⟨w2,hw2⟩:∃w2,((w.alloc (.cells #[.pointer (some r)] 219)).alloc (.cells #[.int .i64 0,.bool false,.int .i64 0,.int .i64 0] 197)).alloc (.cells #[.int .i64 10,.int .i64 1,.int .i64 1] 3)=w2:=⟨_,rfl⟩
 have hk2:Kept (fun k _=>k=r\/w.heap.size<=k) w w2:=by rw[<-hw2];exact (((Kept.refl _ w).alloc _).alloc _).alloc _
 have yG:ni w2 r v bs pos:=by rw[<-hw2];exact ⟨((h.1.alloc _).alloc _).alloc _,((h.2.alloc _).alloc _).alloc _⟩
 have bd2:av w2 w 219 #[.pointer (some r)]:=by rw[<-hw2];exact ((av.new w _ _).alloc _).alloc _
 have bn2:av w2 (w+1) 197 #[.int .i64 0,.bool false,.int .i64 0,.int .i64 0]:=by
  rw[<-hw2];have:=av.new (w.alloc (.cells #[.pointer (some r)] 219)) 197 #[.int .i64 0,.bool false,.int .i64 0,.int .i64 0];rw[mZ] at this;exact this.alloc _
 have bi2:av w2 (w.heap.size+1+1) 3 (kM [10,1,1]).toArray:=by
  rw[<-hw2];have:=av.new ((w.alloc (.cells #[.pointer (some r)] 219)).alloc (.cells #[.int .i64 0,.bool false,.int .i64 0,.int .i64 0] 197)) 3 #[.int .i64 10,.int .i64 1,.int .i64 1];rw[mZ,mZ] at this;exact this
 have hz2:w2.heap.size=w.heap.size+3:=by rw[<-hw2];simp
 have hrl:=h.1.lt;have EQ:=ah hk2;have ZY:=ah yG;have TG:=ah bd2;have HBN:=ah bn2;have HBI:=ah bi2;have HZ2:=ah hz2;clear h hk2 yG bd2 bn2 bi2 hz2;go_enter func138,ntmps138;go_wp2_with fail;by_cases hs:8*bs.length<pos+12
 ·have vJ:R=none:=by rw[<-HR.out];unfold Ig;rw[bD hs]
  have CO:=ah vJ;clear vJ;have hga:=mJ r (w.heap.size+1+1) v bs pos [10,1,1] w2 ZY.out hsm (by simp) (by simp) HBI.out hp (by simp;omega);simp only[jh,gQ,jA,Nat.reduceAdd] at hga;refine hga.mono ?_;rintro e3 w3 ⟨rfl,qN,hk3⟩;have hk4:=EQ.out.trans (hk3.mono fun k _ e=>e.imp id fun e=>by have:=HZ2.out;omega);have GL:=ah hk4;clear hga hk3 hk4 qN;go_wp2_with (go_at_call 135;((with_reducible refine (Ct _ _ _ _ rfl _).mono ?_);rintro e4 w4 ⟨rfl,rfl⟩));exact ⟨rfl,GL.out,.inl ⟨CO.out,rfl⟩⟩
 ·have hga:=sM r (w.heap.size+1+1) v bs pos [10,1,1] w2 ZY.out hsm (by simp) (by simp) HBI.out (by simp;omega);simp only[jh,gQ,jA,Nat.reduceAdd] at hga;refine hga.mono ?_;rintro e3 w3 ⟨vo,rfl,kG,qN,hk3⟩;have hgv:getAll bs pos [10,1,1]= [val (ax bs pos 10),val (ax bs (pos+10) 1),val (ax bs (pos+11) 1)]:=rfl;rw[hgv] at kG;rw[show pos+ [10,1,1].sum=pos+12 from rfl] at qN;simp only[jh,gQ,jA,Nat.reduceAdd] at kG;have hx0:val (ax bs pos 10)<1024:=by have:=vR (ax bs pos 10);rw[gF] at this;exact this
  have tY:=HR.out;unfold Ig at tY;rw[aP hs] at tY;generalize val (ax bs pos 10)=x0 at*;generalize val (ax bs (pos+10) 1)=x1 at*;generalize val (ax bs (pos+11) 1)=x2 at*;have HR1:=ah tY;have hM:∀k,w.heap.size<=k->k<w.heap.size+3->¬(k=r\/w2.heap.size<=k):=fun k h1 h2 e=>by have:=HZ2.out;omega
  have bd3:=TG.out.kept hk3 (hM _ (by omega) (by omega));have TM:=HBN.out.kept hk3 (hM _ (by omega) (by omega));have hk4:=EQ.out.trans (hk3.mono fun k _ e=>e.imp id fun e=>by have:=HZ2.out;omega);have hz3:w.heap.size+3<=w3.heap.size:=by have:=hk3.size;have:=HZ2.out;omega
  obtain ⟨gl,abK,rfl,hgl,oL⟩:=kG.form (by omega);have asD:w.heap.size+3<=gl:=by have:=HZ2.out;omega
  have l0:w3.drew.cell? gl=some (.int .u64 x0):=by have:=kG.cellAt 0 (by omega);simpa[uo] using this
  have l2:w3.drew.cell? ⟨gl,2,none⟩=some (.int .u64 x2):=by have:=kG.cellAt 2 (by omega);simpa[uo] using this
  obtain ⟨n0,n1,n2,n3⟩:w3.drew.cell? ⟨w+1,0,none⟩=_/\w3.drew.cell? ⟨w+1,1,none⟩=_/\w3.drew.cell? ⟨w+1,2,none⟩=_/\w3.drew.cell? ⟨w+1,3,none⟩=_:=TM.jP;have f0:w3.drew.frozen? ⟨w+1,0,none⟩=false:=TM.frozen 0;have f1:w3.drew.frozen? ⟨w+1,1,none⟩=false:=TM.frozen 1;have f2:w3.drew.frozen? ⟨w+1,2,none⟩=false:=TM.frozen 2;have f3:w3.drew.frozen? ⟨w+1,3,none⟩=false:=TM.frozen 3;obtain ⟨m0,m1,m2,m3⟩:=TM.jP;have e0:=TM.frozen 0;have e1:=TM.frozen 1;have e2:=TM.frozen 2;have e3:=TM.frozen 3;have hpt:((x2:Int)==1)=decide (x2=1):=by rw[mr];simp;omega
  have hxw:IntKind.i64.wrap (x0:Int)=(x0:Int):=by rw[vk];omega
  obtain ⟨pt,acG⟩:∃pt,decide (x2=1)=pt:=⟨_,rfl⟩
  rw[acG] at hpt;have HPT:=ah acG;have HVO:=ah kG;have acI:=ah qN;have GL:=ah hk4;have agZ:=ah bd3;have Y4:=ah TM;clear hgv hga tY hM bd3 TM hk3 hk4 kG qN acG;go_upto_region 2 with (go_at_call 135;((with_reducible refine (Bh _ _ _ _).mono ?_);rintro e4 w4 ⟨rfl,rfl⟩))
  go_region
  have Ef:av ((((w3.setCell ⟨w+1,0,none⟩ x0).setCell ⟨w+1,1,none⟩ (.bool pt)).setCell ⟨w+1,2,none⟩ (.int .i64 0)).setCell ⟨w+1,3,none⟩ (.int .i64 0)).drew (w+1) 197 #[x0,.bool pt,.int .i64 0,.int .i64 0]:=Y4.out.Y3 _ _ _ _;have bd5:av ((((w3.setCell ⟨w+1,0,none⟩ x0).setCell ⟨w+1,1,none⟩ (.bool pt)).setCell ⟨w+1,2,none⟩ (.int .i64 0)).setCell ⟨w+1,3,none⟩ (.int .i64 0)).drew w.heap.size 219 #[.pointer (some r)]:=(j6 (by omega) _ _ _ _).trans agZ.out;have yH:ni ((((w3.setCell ⟨w+1,0,none⟩ x0).setCell ⟨w+1,1,none⟩ (.bool pt)).setCell ⟨w+1,2,none⟩ (.int .i64 0)).setCell ⟨w+1,3,none⟩ (.int .i64 0)).drew r v bs (pos+12):=⟨(j6 (by omega) _ _ _ _).trans acI.out.1,(wT acI.out.2 Y4.out (by decide) _ _ _ _).drew'⟩;have sO:=(wT HVO.out Y4.out (by decide) x0 (.bool pt) (.int .i64 0) (.int .i64 0)).drew';have hk5:=(Cu GL.out (g:=w.heap.size+1) (fun _ _=> .inr (by omega)) x0 (.bool pt) (.int .i64 0) (.int .i64 0)).drew;have QO:w.heap.size+3<=((((w3.setCell ⟨w+1,0,none⟩ x0).setCell ⟨w+1,1,none⟩ (.bool pt)).setCell ⟨w+1,2,none⟩ (.int .i64 0)).setCell ⟨w+1,3,none⟩ (.int .i64 0)).drew.heap.size:=gG hz3 (Nat.le_of_eq (JK (w:=w3) (g:=w.heap.size+1) x0 (.bool pt) (.int .i64 0) (.int .i64 0)).symm);generalize ((((w3.setCell ⟨w+1,0,none⟩ x0).setCell ⟨w+1,1,none⟩ (.bool pt)).setCell ⟨w+1,2,none⟩ (.int .i64 0)).setCell ⟨w+1,3,none⟩ (.int .i64 0)).drew=w5 at*
  clear l0 l2 n0 n1 n2 n3 f0 f1 f2 f3 m0 m1 m2 m3 e0 e1 e2 e3 HVO acI GL agZ Y4 hz3;have hb1:((x1:Int)==1)=decide (x1=1):=by rw[mr];simp;omega
  cases pt with
  |false=>
   have l1:w5.drew.cell? ⟨gl,1,none⟩=some (.int .u64 x1):=by have:=sO.cellAt 1 (by omega);simpa[uo] using this
   have l1':w5.cell? ⟨gl,1,none⟩=some (.int .u64 x1):=l1;obtain ⟨n0,n1,n2,n3⟩:w5.drew.cell? ⟨w+1,0,none⟩=_/\w5.drew.cell? ⟨w+1,1,none⟩=_/\w5.drew.cell? ⟨w+1,2,none⟩=_/\w5.drew.cell? ⟨w+1,3,none⟩=_:=Ef.jP;have f0:w5.drew.frozen? ⟨w+1,0,none⟩=false:=Ef.frozen 0;have f1:w5.drew.frozen? ⟨w+1,1,none⟩=false:=Ef.frozen 1;have f2:w5.drew.frozen? ⟨w+1,2,none⟩=false:=Ef.frozen 2;have f3:w5.drew.frozen? ⟨w+1,3,none⟩=false:=Ef.frozen 3;obtain ⟨m0,m1,m2,m3⟩:=Ef.jP;have e0:=Ef.frozen 0;have e1:=Ef.frozen 1;have e2:=Ef.frozen 2;have e3:=Ef.frozen 3;have ag0:=ah Ef;have ag1:=ah yH;have zw:=ah hk5;clear Ef yH hk5 sO bd5;go_upto_region 6 with fail
   go_region
   all_goals
    have Y5:=ag0.out.Y3 x0 (.bool false) (.int .i64 0) (.int .i64 0);have Ag:ni ((((w5.setCell ⟨w+1,0,none⟩ x0).setCell ⟨w+1,1,none⟩ (.bool false)).setCell ⟨w+1,2,none⟩ (.int .i64 0)).setCell ⟨w+1,3,none⟩ (.int .i64 0)).drew r v bs (pos+12):=⟨(j6 (by omega) _ _ _ _).trans ag1.out.1,(wT ag1.out.2 ag0.out (by decide) _ _ _ _).drew'⟩;have qP:=(Cu zw.out (g:=w.heap.size+1) (fun _ _=> .inr (by omega)) x0 (.bool false) (.int .i64 0) (.int .i64 0)).drew;obtain ⟨p0,p1,p2,p3⟩:=Y5.jP;have hfin:=HR1.out;rw[aP (of_decide_eq_false HPT.out)] at hfin;have lz:=ah hfin;go_wp2_with fail;refine oZ (v:= .tuple #[.agg #[x0,.bool false,.int .i64 0,.int .i64 0],.bool (decide (x1=1))]) ?_ rfl ?_
    ·simp[results,results138,go_sem,p0,p1,p2,p3]
    ·exact ⟨qP,.inr ⟨_,_,_,lz.out.symm,rfl,Ag⟩⟩
  |true=>
   have hR2:=HR1.out;rw[bD (of_decide_eq_true HPT.out)] at hR2;have HR2:=ah hR2;have d0:=bd5.cell 0;have m1:=Ef.cell 1;simp at d0 m1;have Ag:ni (w5.alloc (.cells #[.int .i64 15,.int .i64 15] 3)) r v bs (pos+12):=⟨yH.1.alloc _,yH.2.alloc _⟩;have bi6:av (w5.alloc (.cells #[.int .i64 15,.int .i64 15] 3)) w5 3 (kM [15,15]).toArray:=av.new w5 3 #[.int .i64 15,.int .i64 15];have Y5:=Ef.alloc (.cells #[.int .i64 15,.int .i64 15] 3);have X5:=sO.alloc (.cells #[.int .i64 15,.int .i64 15] 3);have qP:=hk5.alloc (.cells #[.int .i64 15,.int .i64 15] 3);have QM:(w5.alloc (.cells #[.int .i64 15,.int .i64 15] 3)).heap.size=w5.heap.size+1:=by simp
   have asE:gl<w5:=by
    have:=World.block_lt_of_cell? w5 _ (sO.cellAt 0 (by omega));simpa using this
   have Sb:=ah QM;have Gm:=ah Y5;have ag2:=ah X5;have zu:=ah qP;clear hR2 HR1 Ef bd5 yH sO hk5 Y5 X5 qP QM;go_wp2_with fail;by_cases hs2:8*bs.length<pos+42
   ·have vJ:=HR2.out;rw[bD hs2] at vJ;have CO:=ah vJ.symm;clear vJ;have hga:=mJ r w5 v bs (pos+12) [15,15] _ Ag hsm (by simp) (by simp) bi6 (by omega) (by simp;omega);simp only[jh,gQ,jA,Nat.reduceAdd] at hga;refine hga.mono ?_;rintro e7 w7 ⟨rfl,VM,DW⟩;have U1:=zu.out.trans (DW.mono fun k _ e=>e.imp id fun e=>by have:=Sb.out;omega);have Xg:=ah U1;clear hga DW U1 VM;go_wp2_with (go_at_call 135;((with_reducible refine (Ct _ _ _ _ rfl _).mono ?_);rintro e4 w4 ⟨rfl,rfl⟩));exact ⟨rfl,Xg.out,.inl ⟨CO.out,rfl⟩⟩
   ·have hga:=sM r w5 v bs (pos+12) [15,15] _ Ag hsm (by simp) (by simp) bi6 (by simp;omega);simp only[jh,gQ,jA,Nat.reduceAdd] at hga;refine hga.mono ?_;rintro e7 w7 ⟨vo2,rfl,SL,VM,DW⟩;have ag3:getAll bs (pos+12) [15,15]= [val (ax bs (pos+12) 15),val (ax bs (pos+12+15) 15)]:=rfl;rw[ag3,show pos+12+15=pos+27 by omega] at SL;rw[show pos+12+ [15,15].sum=pos+42 by simp] at VM;have vJ:=HR2.out;rw[aP hs2] at vJ;have hx3:val (ax bs (pos+12) 15)<32768:=by have:=vR (ax bs (pos+12) 15);rw[gF] at this;exact this
    have hx4:val (ax bs (pos+27) 15)<32768:=by have:=vR (ax bs (pos+27) 15);rw[gF] at this;exact this
    generalize val (ax bs (pos+12) 15)=x3 at*;generalize val (ax bs (pos+27) 15)=x4 at*;simp only[jh,gQ,jA,Nat.reduceAdd] at SL;obtain ⟨g2,cap2,rfl,hg2,asF⟩:=SL.form (by omega);have asG:w5<g2:=by have:=Sb.out;omega
    have hM:∀k,w.heap.size<=k->k<=w5.heap.size->¬(k=r\/(w5.alloc (.cells #[.int .i64 15,.int .i64 15] 3)).heap.size<=k):=fun k h1 h2 e=>by have:=Sb.out;omega
    have bn7:=Gm.out.kept DW (hM _ (by omega) (by omega));have abX:=mI ag2.out DW (fun k o _ hk=>by
     have e:gl=k:=by simpa[Value.ownBlock] using hk
     subst e;exact hM _ (by omega) (by omega))
    have U1:=zu.out.trans (DW.mono fun k _ e=>e.imp id fun e=>by have:=Sb.out;omega);have l0:w7.drew.cell? g2=some (.int .u64 x3):=by have:=SL.cellAt 0 (by omega);simpa[uo] using this
    have l1:w7.drew.cell? ⟨g2,1,none⟩=some (.int .u64 x4):=by have:=SL.cellAt 1 (by omega);simpa[uo] using this
    have l0':w7.cell? g2=some (.int .u64 x3):=l0;have l1':w7.cell? ⟨g2,1,none⟩=some (.int .u64 x4):=l1;obtain ⟨n0,n1,n2,n3⟩:w7.drew.cell? ⟨w+1,0,none⟩=_/\w7.drew.cell? ⟨w+1,1,none⟩=_/\w7.drew.cell? ⟨w+1,2,none⟩=_/\w7.drew.cell? ⟨w+1,3,none⟩=_:=bn7.jP;obtain ⟨m0,m1,m2,m3⟩:=bn7.jP;have f2:w7.drew.frozen? ⟨w+1,2,none⟩=false:=bn7.frozen 2;have f3:w7.drew.frozen? ⟨w+1,3,none⟩=false:=bn7.frozen 3;have e2:=bn7.frozen 2;have e3:=bn7.frozen 3;have hw3:IntKind.i64.wrap (x3:Int)=(x3:Int):=by rw[vk];omega
    have hw4:IntKind.i64.wrap (x4:Int)=(x4:Int):=by rw[vk];omega
    have CO:=ah vJ;have acK:=ah VM;have ag4:=ah abX;have Xg:=ah U1;have SN:=ah bn7;clear ag3 hga SL VM DW vJ abX U1 bn7 Gm ag2 zu HR2 hM;go_upto_region 5 with (go_at_call 135;((with_reducible refine (Bh _ _ _ _).mono ?_);rintro e4 w4 ⟨rfl,rfl⟩))
    go_region
    have TN:av ((w7.setCell ⟨w+1,2,none⟩ x3).setCell ⟨w+1,3,none⟩ x4).drew (w+1) 197 #[x0,.bool true,x3,x4]:=by
     have h8:av ((w7.setCell ⟨w+1,2,none⟩ x3).setCell ⟨w+1,3,none⟩ x4) (w+1) 197 #[x0,.bool true,x3,x4]:=by simpa using (SN.out.ay 2 x3).ay 3 x4
     exact h8
    have ag5:ni ((w7.setCell ⟨w+1,2,none⟩ x3).setCell ⟨w+1,3,none⟩ x4).drew r v bs (pos+42):=⟨(lZ _ _ _ _ (by show r≠w.heap.size+1;omega)).trans ((lZ _ _ _ _ (by show r≠w.heap.size+1;omega)).trans acK.out.1),(aN (aN acK.out.2 SN.out (by decide) x3) (SN.out.ay 2 x3) (by decide) x4).drew'⟩;have ag6:=(aN (i:=3) (aN (i:=2) ag4.out SN.out (by decide) x3) (SN.out.ay 2 x3) (by decide) x4).drew';have XR:=((Xg.out.setCell (p:=⟨w+1,2,none⟩) (fun _ _=> .inr (by show w.heap.size<=w.heap.size+1;omega)) x3).setCell (p:=⟨w+1,3,none⟩) (fun _ _=> .inr (by show w.heap.size<=w.heap.size+1;omega)) x4).drew;generalize ((w7.setCell ⟨w+1,2,none⟩ x3).setCell ⟨w+1,3,none⟩ x4).drew=w8 at*;clear l0 l1 l0' l1' n0 n1 n2 n3 m0 m1 m2 m3 f2 f3 e2 e3 ag4 acK Xg SN;have l1:w8.drew.cell? ⟨gl,1,none⟩=some (.int .u64 x1):=by have:=ag6.cellAt 1 (by omega);simpa[uo] using this
    have l1':w8.cell? ⟨gl,1,none⟩=some (.int .u64 x1):=l1;obtain ⟨n0,n1,n2,n3⟩:w8.drew.cell? ⟨w+1,0,none⟩=_/\w8.drew.cell? ⟨w+1,1,none⟩=_/\w8.drew.cell? ⟨w+1,2,none⟩=_/\w8.drew.cell? ⟨w+1,3,none⟩=_:=TN.jP;have f0:w8.drew.frozen? ⟨w+1,0,none⟩=false:=TN.frozen 0;have f1:w8.drew.frozen? ⟨w+1,1,none⟩=false:=TN.frozen 1;have f2:w8.drew.frozen? ⟨w+1,2,none⟩=false:=TN.frozen 2;have f3:w8.drew.frozen? ⟨w+1,3,none⟩=false:=TN.frozen 3;obtain ⟨m0,m1,m2,m3⟩:=TN.jP;have e0:=TN.frozen 0;have e1:=TN.frozen 1;have e2:=TN.frozen 2;have e3:=TN.frozen 3;have ag7:=ah TN;have Io:=ah ag5;have YW:=ah XR;clear TN ag5 XR ag6;go_upto_region 6 with fail
    go_region
    all_goals
     have Y5:=ag7.out.Y3 x0 (.bool true) x3 x4;have Ag:ni ((((w8.setCell ⟨w+1,0,none⟩ x0).setCell ⟨w+1,1,none⟩ (.bool true)).setCell ⟨w+1,2,none⟩ x3).setCell ⟨w+1,3,none⟩ x4).drew r v bs (pos+42):=⟨(j6 (by omega) _ _ _ _).trans Io.out.1,(wT Io.out.2 ag7.out (by decide) _ _ _ _).drew'⟩;have qP:=(Cu YW.out (g:=w.heap.size+1) (fun _ _=> .inr (by omega)) x0 (.bool true) x3 x4).drew;obtain ⟨p0,p1,p2,p3⟩:=Y5.jP;go_wp2_with fail;refine oZ (v:= .tuple #[.agg #[x0,.bool true,x3,x4],.bool (decide (x1=1))]) ?_ rfl ?_
     ·simp[results,results138,go_sem,p0,p1,p2,p3]
     ·exact ⟨qP,.inr ⟨_,_,_,CO.out.symm,rfl,Ag⟩⟩
theorem R4 (H:List Bool) (q:Nat) (hq:H.length=q) (l:List (List UInt8)) (x:List UInt8) (hv:qh (l++ [x])):
 jr (pack (H++(lb (l.map List.length)++ []))++(l.flatten++x)) (decide (0<l.length)) q= .inr (l++ [x]):=by
 subst hq;obtain ⟨hl63,hsh'⟩:=OU hv;have hx:1<=x.length:=hv.pos x (by simp);have hsh:∀n∈l.map List.length,1<=n/\n<=2047:=by
  intro n hn;rw[List.mem_map] at hn;obtain ⟨p,hp,rfl⟩:=hn;exact hsh' p hp
 have hsum:aj l+x.length<=32767:=by have:=hv.sum;simpa[aj] using this
 have rl:=zZ [] (l.flatten++x) (l.map List.length) H 64 [] hsh (by simp;omega) (by simpa using hl63);have abq:=uS (H++(lb (l.map List.length)++ [])) (l.flatten++x);have hlen:(H++(lb (l.map List.length)++ [])).length=H.length+12*l.length:=by simp[I4]
 rw[hlen] at abq;have hdrop:(pack (H++(lb (l.map List.length)++ []))++(l.flatten++x)).drop ((H.length+12*l.length+nH (H.length+12*l.length))/8)=l.flatten++x:=by
  rw[List.drop_left' (by rw[ji,hlen];unfold bI nH;omega)]
 generalize pack (H++(lb (l.map List.length)++ []))++(l.flatten++x)=b at*;have hlr:uh b (decide (0<l.length)) H.length= .inr (l.map List.length,H.length+12*l.length+nH (H.length+12*l.length)):=by
  unfold uh;rw[Ej] at rl;rw[rl];simp only[kZ,pY];rw[abq,xX,bD rfl]
 unfold jr;rw[hlr];simp only;rw[hdrop];unfold mE;have h1:(l.flatten++x).length=aj l+x.length:=by rw[l8,jH]
 have h2:(l.map List.length).sum=aj l:=rfl;rw[h1,h2,aP (by omega),aP (by omega),Aa]
theorem Yq (sn:Nat) (po sg la:Bool) (off:Nat) (s e:Bool) (n:Nat):mM sn po sg la off s e n=
 bitsOf 1 1++(bitsOf sg.toNat 1++(bitsOf po.toNat 1++(bitsOf (!s).toNat 1++(bitsOf (!e).toNat 1++(bitsOf (decide (1<n)).toNat 1++(bitsOf sn 10++(if sg then bitsOf la.toNat 1++bitsOf off 15 else []))))))):=by
 cases sg<;>simp[mM,aC,jD,mK,pF]
theorem R5 (a b c d e f sn:Nat) (T:List Bool) (D:List UInt8) (bs:List UInt8) (hbs:bs=pack (bitsOf a 1++(bitsOf b 1++(bitsOf c 1++(bitsOf d 1++(bitsOf e 1++(bitsOf f 1++(bitsOf sn 10++T)))))))++D):
 ax bs 0 1=bitsOf a 1/\ax bs 1 1=bitsOf b 1/\ax bs 2 1=bitsOf c 1/\ax bs 3 1=bitsOf d 1/\ax bs 4 1=bitsOf e 1/\ax bs 5 1=bitsOf f 1/\ax bs 6 10=bitsOf sn 10:=by
 subst hbs;refine ⟨?_,?_,?_,?_,?_,?_,?_⟩
 ·exact iC [] (bitsOf a 1) _ D 0 1 (by simp) (by simp)
 ·exact iC (bitsOf a 1) (bitsOf b 1) _ D 1 1 (by simp) (by simp)
 ·have:=iC (bitsOf a 1++bitsOf b 1) (bitsOf c 1) (bitsOf d 1++(bitsOf e 1++(bitsOf f 1++(bitsOf sn 10++T)))) D 2 1 (by simp) (by simp);simpa only[oJ] using this
 ·have:=iC (bitsOf a 1++bitsOf b 1++bitsOf c 1) (bitsOf d 1) (bitsOf e 1++(bitsOf f 1++(bitsOf sn 10++T))) D 3 1 (by simp) (by simp);simpa only[oJ] using this
 ·have:=iC (bitsOf a 1++bitsOf b 1++bitsOf c 1++bitsOf d 1) (bitsOf e 1) (bitsOf f 1++(bitsOf sn 10++T)) D 4 1 (by simp) (by simp);simpa only[oJ] using this
 ·have:=iC (bitsOf a 1++bitsOf b 1++bitsOf c 1++bitsOf d 1++bitsOf e 1) (bitsOf f 1) (bitsOf sn 10++T) D 5 1 (by simp) (by simp);simpa only[oJ] using this
 ·have:=iC (bitsOf a 1++bitsOf b 1++bitsOf c 1++bitsOf d 1++bitsOf e 1++bitsOf f 1) (bitsOf sn 10) T D 6 10 (by simp) (by simp);simpa only[oJ] using this
theorem Pk (H:List Bool) (hH:H.length=16) (la off:Nat) (T:List Bool) (D:List UInt8) (bs:List UInt8) (hbs:bs=pack (H++(bitsOf la 1++(bitsOf off 15++T)))++D):
 ax bs 16 1=bitsOf la 1/\ax bs 17 15=bitsOf off 15:=by
 subst hbs;refine ⟨iC H (bitsOf la 1) _ D 16 1 hH (by simp),?_⟩;have:=iC (H++bitsOf la 1) (bitsOf off 15) T D 17 15 (by simp[hH]) (by simp);simpa only[oJ] using this
theorem toNat_one (b:Bool):decide (b.toNat=1)=b:=by cases b<;>rfl
theorem toNat_not (b:Bool):decide ((!b).toNat=0)=b:=by cases b<;>rfl
theorem C6 (sn:Nat) (po sg la:Bool) (off:Nat) (s e:Bool) (ps:List (List UInt8)):(qO sn po sg la off s e ps).length=bI ((if sg then 32 else 16)+12*(ps.length-1))+aj ps:=by
 unfold qO;rw[l8,ji,l8,rR,qg,jH]
theorem MO (sn:Nat) (po sg la:Bool) (off:Nat) (s e:Bool) (ps:List (List UInt8)) (hv:iZ sn sg la off ps=true):
 qx (qO sn po sg la off s e ps)= .inr ⟨sn,po,sg,la,off,s,e,ps⟩:=by
 have hva:=(qo _ _ _ _ _).1 hv;have hvp:=(nI ps).1 hva.vp;have hsn:sn<1024:=by have:=hva.sn1;omega
 have hlen:=C6 sn po sg la off s e ps;obtain ⟨l,x,rfl⟩:=OT hvp.lo;have he:qO sn po sg la off s e (l++ [x])=pack (mM sn po sg la off s e (l.length+1)++(lb (l.map List.length)++ []))++(l.flatten++x):=by
  unfold qO;rw[OQ];simp
 have hch:=R4 (mM sn po sg la off s e (l.length+1)) (if sg then 32 else 16) (rR _ _ _ _ _ _ _ _) l x hvp;rw[<-he] at hch;rw[Yq] at he;generalize qO sn po sg la off s e (l++ [x])=bs at*;obtain ⟨f0,f1,f2,f3,f4,f5,f6⟩:=R5 1 sg.toNat po.toNat (!s).toNat (!e).toNat (decide (1<l.length+1)).toNat sn ((if sg then bitsOf la.toNat 1++bitsOf off 15 else [])++(lb (l.map List.length)++ [])) (l.flatten++x) bs (by rw[he];simp only[oJ]);have hmore:decide ((decide (1<l.length+1)).toNat=1)=decide (0<l.length):=by rw[toNat_one];simp
 have hn2:2<=bs.length:=by rw[hlen];unfold bI;split<;>omega
 unfold qx;rw[aP (by omega),f0,f1,f2,f3,f4,f5,f6,xq,xq,xq,xq,xq,iB 1 1 (by omega),iB 10 sn (by omega),aP (by simp),hmore];cases sg with
 |true=>
  obtain ⟨g0,g1⟩:=Pk (bitsOf 1 1++(bitsOf true.toNat 1++(bitsOf po.toNat 1++(bitsOf (!s).toNat 1++(bitsOf (!e).toNat 1++(bitsOf (decide (1<l.length+1)).toNat 1++bitsOf sn 10)))))) (by simp) la.toNat off (lb (l.map List.length)++ []) (l.flatten++x) bs (by rw[he];simp only[oJ,kE]);have hoff:off<32768:=by have:=hva.seg rfl;omega
  have TH:4<=bs.length:=by rw[hlen];unfold bI;simp;omega
  simp only[kE] at hch;rw[bD (by rfl),aP (by omega),hch,g0,g1,xq,iB 15 off (by omega)];simp only[toNat_one,toNat_not];rw[bD hv]
 |false=>
  obtain ⟨rfl,h0⟩:=hva.whole rfl;obtain rfl:off=0:=by omega
  simp only[mq,l7] at hch;rw[aP (by simp),hch];simp only[toNat_one,toNat_not];rw[bD hv]
theorem Pm {bs:List UInt8} {m:Bool} {q er:Nat} (h:uh bs m q= .inl er):er≠0:=by
 unfold uh kZ at h;split at h
 ·rename_i er' hr;cases h;exact Ab bs _ _ _ _ _ hr
 ·split at h
  ·cases h
  ·cases h;omega
theorem AP {bs:List UInt8} {m:Bool} {q er:Nat} (h:jr bs m q= .inl er):er≠0:=by
 unfold jr at h;split at h
 ·rename_i er' hl;cases h;exact Pm hl
 ·unfold mE at h;split at h
  ·cases h;omega
  ·split at h
   ·cases h;omega
   ·cases h
theorem UQ (bs:List UInt8) (er:Nat) (h:qx bs= .inl er):er≠0:=by
 unfold qx at h;split at h
 ·cases h;omega
 split at h
 ·cases h;omega
 split at h
 ·split at h
  ·cases h;omega
  ·split at h
   ·rename_i hc;cases h;exact AP hc
   ·split at h
    ·cases h
    ·cases h;omega
 ·split at h
  ·rename_i hc;cases h;exact AP hc
  ·split at h
   ·cases h
   ·cases h;omega
def Ec (l:List (Nat × Nat)) (k:Nat):Array Value:= #[.int .i64 ((l[k]?.getD (0,0)).1:Nat),.int .i64 ((l[k]?.getD (0,0)).2:Nat)]
def mQ (l:List Fl) (i fr k:Nat):Prop:=∃pre,dS l 0 0=pre++dS (l.drop i) i fr/\pre.length=k
theorem mQ.start (l:List Fl):mQ l 0 0 0:=⟨[],rfl,rfl⟩
theorem drop_cons {l:List Fl} {i:Nat} (h:i<l.length):l.drop i=dZ l i::l.drop (i+1):=by
 rw[List.drop_eq_getElem_cons h];unfold dZ;rw[gX h];rfl
theorem mQ.miss {l:List Fl} {i fr k:Nat} (h:mQ l i fr k) (hi:i<l.length) (hf:(dZ l i).1=false):mQ l (i+1) fr k:=by
 obtain ⟨pre,e,hk⟩:=h;rw[drop_cons hi,dS,bD hf] at e;exact ⟨pre,e,hk⟩
theorem mQ.pass {l:List Fl} {i fr k:Nat} (h:mQ l i fr k) (hi:i<l.length) (hf:(dZ l i).1=true) (hfr:¬fr<i):mQ l (i+1) (i+1) k:=by
 obtain ⟨pre,e,hk⟩:=h;rw[drop_cons hi,dS,aP (by rw[hf];simp),aP hfr] at e;exact ⟨pre,e,hk⟩
theorem mQ.give {l:List Fl} {i fr k:Nat} (h:mQ l i fr k) (hi:i<l.length) (hf:(dZ l i).1=true) (hfr:fr<i):mQ l (i+1) (i+1) (k+1)/\(dS l 0 0)[k]? =some (fr,i-1):=by
 obtain ⟨pre,e,hk⟩:=h;rw[drop_cons hi,dS,aP (by rw[hf];simp),bD hfr] at e;refine ⟨⟨pre++ [(fr,i-1)],by rw[e];simp,by simp[hk]⟩,?_⟩;rw[e,oI (by omega),hk,Nat.sub_self];rfl
theorem mQ.last {l:List Fl} {fr k:Nat} (h:mQ l l.length fr k) (hfr:fr<l.length):(dS l 0 0)[k]? =some (fr,l.length-1)/\(dS l 0 0).length=k+1:=by
 obtain ⟨pre,e,hk⟩:=h;rw[List.drop_length,dS,bD hfr] at e;constructor
 ·rw[e,oI (by omega),hk,Nat.sub_self];rfl
 ·rw[e,l8,hk];rfl
theorem mQ.none {l:List Fl} {fr k:Nat} (h:mQ l l.length fr k) (hfr:¬fr<l.length):(dS l 0 0).length=k:=by
 obtain ⟨pre,e,hk⟩:=h;rw[List.drop_length,dS,aP hfr,CB] at e;rw[e,hk]
theorem FR {L:List (Nat × Nat)} {k a b:Nat} (h:L[k]? =some (a,b)):Ec L k= #[.int .i64 (a:Nat),.int .i64 (b:Nat)]/\k<L.length:=by
 unfold Ec;rw[h];exact ⟨rfl,(pN.1 h).1⟩
theorem Sg (n:Nat) (hn:1<=n) (gv b:Nat) (A:Option Addr) (m c:Nat) (l:List Fl) (hm:m<=100000) (hlm:l.length=m) (Q:Nat->Obj->Prop) (w:World)
 (hg:av w gv 161 #[.pointer (some b)]) (_hbl:b<w) (hb:∀W,Below w w W->∀X,Kept Q W X->X.cell? b=some (.slice A m c)/\qV X A m c l) (hQ:¬Q gv (.cells #[.pointer (some b)] 161 (0,0))):
 OV Fence.wide n prog 201 #[.pointer (some gv)] (Ec (dS l 0 0)) (dS l 0 0).length (Kept Q) w:=fun lb J W hW _ hY h0=>by
 have hg':=hg.below hW hg.lt;have HB:=ah (hb W hW);have HY:=ah hY;clear hY hb;refine Ev func201 rfl trivial ?_ rfl;simp only[ntmps201,vP,jh,gQ,Nat.reduceAdd,Nat.reduceSub,zA,zz,zF,zB,pY,qJ];have hcw:=hg'.cell 0;simp at hcw;obtain ⟨hc0,acd⟩:=HB.out W (Kept.refl _ _);refine nZ ?_
 gi_wp2
 refine wpIn_label ?_
 gi_wp2
 gi_loopw [3,11] (fun s3 i wr=>∃i' fr k:Nat,i'<=m+1/\i= .int .i64 i'/\s3= .int .i64 fr/\fr<=i'/\((i'<=m/\mQ l i' fr k)\/(i'=m+1/\k=(dS l 0 0).length))/\J k wr/\Kept Q W wr) (fun _ i _=>m+1-(intOf i).toNat)
 case atStart=>exact ⟨0,0,0,eH _,by simp,by simp,aL,.inl ⟨eH _,mQ.start l⟩,h0,Kept.refl _ _⟩
 case round=>
  obtain ⟨i',fr,k,hi1,rfl,rfl,hfr,hat,hJs,hnx⟩:=hrel;clear hc0 acd;obtain ⟨hc0,acd⟩:=HB.out wr hnx;have hgr:=hg'.kept hnx hQ;have hcg:=hgr.cell 0;simp at hcg;rcases Nat.lt_trichotomy i' m with hlt|heq|hgt
  ·have DI:mQ l i' fr k:=by rcases hat with h|h;exact h.2;omega
   have hhas:Calls prog 156 #[.slice A m c,.int .i64 (i':Nat),.int .i64 0] wr fun e w'=>e= .returned (.bool (dZ l i').1)/\wr=w':=FM acd i' (by omega) 0 (by omega)
   clear hat;cases hf:(dZ l i').1 with
   |false=>
    rw[hf] at hhas;have Ih:=ah hhas;have HF:=ah hf;have HAT:=ah DI;clear hhas hf DI
    gi_wp2_with (refine ⟨trivial,?_⟩;refine ((xI (n:=n-1)).2 Ih.out).mono ?_;rintro e1 w1 ⟨rfl,rfl⟩)
    exact ⟨⟨i'+1,fr,k,by omega,by go_num,rfl,by omega,.inl ⟨by omega,HAT.out.miss (by omega) HF.out⟩,hJs,hnx⟩,by simp[intOf]<;>omega⟩
   |true=>
    rw[hf] at hhas;have Ih:=ah hhas;by_cases hfi:fr<i'
    ·obtain ⟨h5,h6⟩:=DI.give (by omega) hf hfi;obtain ⟨h7,h8⟩:=FR h6;have Qz:=HY.out k wr h8 hJs;rw[h7,show ((i'-1:Nat):Int)=(i':Int)-1 by omega] at Qz;obtain ⟨fn,tmps,assign,body,hy,hR⟩:=Qz;have H5:=ah h5;clear hhas hf DI h5 h6 h7 h8
     gi_wp2_with (refine ⟨trivial,?_⟩;refine ((xI (n:=n-1)).2 Ih.out).mono ?_;rintro e1 w1 ⟨rfl,rfl⟩)
     refine hR.mono ?_;rintro e W3 ⟨rfl,hJ3,hk3⟩
     gi_wp2_with fail
     exact ⟨⟨i'+1,i'+1,k+1,by omega,by go_num,by go_num,aL,.inl ⟨by omega,H5.out⟩,hJ3,hnx.trans hk3⟩,by simp[intOf]<;>omega⟩
    ·have h5:=DI.pass (by omega) hf hfi;have H5:=ah h5;clear hhas hf DI h5
     gi_wp2_with (refine ⟨trivial,?_⟩;refine ((xI (n:=n-1)).2 Ih.out).mono ?_;rintro e1 w1 ⟨rfl,rfl⟩)
     refine ⟨fun f h=>(by cases h),?_⟩
     gi_wp2_with fail
     exact ⟨⟨i'+1,i'+1,k,by omega,by go_num,by go_num,aL,.inl ⟨by omega,H5.out⟩,hJs,hnx⟩,by simp[intOf]<;>omega⟩
  ·subst heq;have DI:mQ l i' fr k:=by rcases hat with h|h;exact h.2;omega
   clear hat;rw[<-hlm] at DI;by_cases hfi:fr<i'
   ·obtain ⟨h5,h6⟩:=DI.last (by omega);obtain ⟨h7,h8⟩:=FR h5;have Qz:=HY.out k wr h8 hJs;rw[h7,show ((l.length-1:Nat):Int)=(i':Int)-1 by omega] at Qz;obtain ⟨fn,tmps,assign,body,hy,hR⟩:=Qz;have H6:=ah h6;clear DI h5 h6 h7 h8
    gi_wp2_with fail
    refine ⟨trivial,?_⟩
    gi_wp2_with fail
    refine hR.mono ?_;rintro e W3 ⟨rfl,hJ3,hk3⟩
    gi_wp2_with fail
    exact ⟨⟨i'+1,i'+1,k+1,by omega,by go_num,by go_num,aL,.inr ⟨rfl,H6.out.symm⟩,hJ3,hnx.trans hk3⟩,by simp[intOf]<;>omega⟩
   ·have h6:=DI.none (by omega);have H6:=ah h6;clear DI h6
    gi_wp2_with fail
    refine ⟨trivial,?_⟩
    gi_wp2_with fail
    refine ⟨fun f h=>(by cases h),?_⟩
    gi_wp2_with fail
    exact ⟨⟨i'+1,i'+1,k,by omega,by go_num,by go_num,aL,.inr ⟨rfl,H6.out.symm⟩,hJs,hnx⟩,by simp[intOf]<;>omega⟩
  ·have e:i'=m+1:=by omega
   have ek:k=(dS l 0 0).length:=by rcases hat with h|h;omega;exact h.2
   subst e;have OA:J (dS l 0 0).length wr:=by rw[<-ek];exact hJs
   clear ek hJs hat
   gi_wp2
   rw[Eo]
   go_end0
   exact ⟨⟨_,rfl⟩,OA⟩
theorem Qk (bo be:Nat) (w:World):
 CallsD prog 94 #[.pointer (some bo),.pointer (some be)] .returning w fun e u' w'=>e= .returned (.tuple #[])/\u'= .returning/\w=w':=by
 have hnn:=run_eql_nil_nil (P:=prog) w (t:=20) (by kernel_rfl);refine xP func94 rfl fun c₀ cs hu=> ?_
 apply wpS_seq;apply xU;generalize hQ:Exit.thenS _ _=Q;simp[wpOpsS,go_sem,recoverD,hu,ntmps94];subst hQ;simp only[Exit.thenS];refine xV ?_;change Code.wp _ _ (kT prog Tryz.f94 c₀ cs (c₀::cs) _) {tmps:= #[.pointer (some bo),.pointer (some be),.nilIface,undef,undef,.nilIface,undef,undef,undef,undef,undef,undef,undef,undef,undef,undef,undef],defers:= []} w;go_wp2;cases c₀
 simp_all [kT,bodyPostS,results,results94]
theorem Lm (bo be:Nat) (er:Int) (v0 v1:Value) (w:World) (hp:av w bo 37 #[v0]) (he:av w be 53 #[v1]) (hne:be≠bo):
 CallsD prog 94 #[.pointer (some bo),.pointer (some be)] (.panicking [{v:= .iface 53 er,recovered:=false}]) w fun e u' w'=>e= .returned (.tuple #[])/\u'= .panicking [{v:= .iface 53 er,recovered:=true}]/\
  av w' bo 37 #[.slice none 0 0]/\av w' be 53 #[er]/\Kept (fun k _=>k=bo\/k=be) w w':=by
 have hnn:=run_eql_held_nil (P:=prog) w 20 53 er (by kernel_rfl);have hta:=pE er w;refine xP func94 rfl fun c₀ cs hu=> ?_
 apply wpS_seq;apply xU;generalize hQ:Exit.thenS _ _=Q;simp[wpOpsS,go_sem,recoverD,hu,ntmps94];subst hQ;simp only[Exit.thenS];refine xV ?_;change Code.wp _ _ (kT prog Tryz.f94 c₀ cs _ _) {tmps:= #[.pointer (some bo),.pointer (some be),.iface 53 er,undef,undef,.iface 53 er,undef,undef,undef,undef,undef,undef,undef,undef,undef,undef,undef],defers:= []} w;have c0:=hp.cell 0;have f0:=hp.frozen 0;have c1:=he.cell 0;have f1:=he.frozen 0;simp at c0 c1;go_wp2;refine ⟨rfl,_,rfl,.tuple #[],by simp[results,results94],rfl,rfl,?_,?_,?_⟩
 ·have:=(hp.ay 0 (.slice none 0 0)).far (p:=⟨be,0,none⟩) (fun e=>hne e.symm) er;simpa using this
 ·have:=(he.far (p:=⟨bo,0,none⟩) hne (.slice none 0 0)).ay 0 er;simpa using this
 ·exact ((Kept.refl _ w).setCell (p:=⟨bo,0,none⟩) (fun _ _=> .inl rfl) _).setCell (p:=⟨be,0,none⟩) (fun _ _=> .inr rfl) _
theorem Gu {Q:Ending->World->Prop} (a b:Nat) (er:Int) (W:World) (T:Array Value) (v0 v1:Value) (h6:T[6]? =some (.pointer (some a))) (h7:T[7]? =some (.pointer (some b))) (hne:b≠a)
 (hp:av W a 37 #[v0]) (he:av W b 53 #[v1]) (hQ:∀W',Kept (fun k _=>k=a\/k=b) W W'->Q (.returned (.tuple #[.slice none 0 0,er])) W'):
 bodyPostD prog Tryz.f57 Q (.panic [{v:= .iface 53 er,recovered:=false}]) {tmps:=T,defers:= [{target:= .fn (.func 94) #[.pointer (some a),.pointer (some b)],args:= #[]}]} W:=by
 refine nD (f:=94) (args:= #[.pointer (some a),.pointer (some b)]) (by simp) (by simp[go_sem]) ?_;refine (Lm _ _ er _ _ W hp he hne).mono ?_;rintro e u' w'' ⟨rfl,rfl,hp',he',hk⟩;have c0:=hp'.cell 0;have c1:=he'.cell 0;simp at c0 c1;refine ⟨.tuple #[.slice none 0 0,er],?_,hQ _ hk⟩;simp[results,results57,go_sem,h6,h7,c0,c1]
theorem tL {Q:Ending->World->Prop} (a b:Nat) (W:World) (T:Array Value) (v0 v1:Value) (h6:T[6]? =some (.pointer (some a))) (h7:T[7]? =some (.pointer (some b)))
 (hp:av W a 37 #[v0]) (he:av W b 53 #[v1]) (hQ:Q (.returned (.tuple #[v0,v1])) W):
 bodyPostD prog Tryz.f57 Q .ret {tmps:=T,defers:= [{target:= .fn (.func 94) #[.pointer (some a),.pointer (some b)],args:= #[]}]} W:=by
 refine nD (f:=94) (args:= #[.pointer (some a),.pointer (some b)]) (by simp) (by simp[go_sem]) ?_;refine (Qk _ _ _).mono ?_;rintro e9 u9 w9 ⟨rfl,rfl,rfl⟩;have c0:=hp.cell 0;have c1:=he.cell 0;simp at c0 c1;refine ⟨.tuple #[v0,v1],?_,hQ⟩;simp[results,results57,go_sem,h6,h7,c0,c1]
structure Zq (x:jY):Prop where
 sn:x.sn<=1023
 len:x.ps.length<=64
 pos:1<=x.ps.length
 sum:x.off+aj x.ps<=32767
theorem JP {x:jY} (h:iZ (x.sn:Nat) x.sg x.la (x.off:Nat) x.ps=true) (h0:x.sg=false->x.off=0):Zq x:=by
 unfold iZ rQ at h;simp only[List.all_cons,List.all_nil,Bool.and_true,id,gD,gY] at h;obtain ⟨h1,h2,h3⟩:=h;unfold rM qf at h2;simp only[List.all_cons,List.all_nil,Bool.and_true,id,gD,gY] at h2;obtain ⟨⟨h4,h5⟩,_,_,h6⟩:=h2;refine ⟨by omega,h5,h4,?_⟩;cases hs:x.sg with
 |false=>rw[h0 hs];omega
 |true=>
  rw[hs] at h3;simp only[kE,gY] at h3;omega
theorem Rl {bs:List UInt8} {x:jY} (h:qx bs= .inr x):Zq x:=by
 unfold qx at h;split at h
 ·cases h
 ·split at h
  ·cases h
  ·split at h
   ·split at h
    ·cases h
    ·split at h
     ·cases h
     ·split at h
      ·rename_i hv;cases h;exact JP hv (fun e=>by cases e)
      ·cases h
   ·split at h
    ·cases h
    ·split at h
     ·rename_i hv;cases h;exact JP hv (fun _=>rfl)
     ·cases h
theorem S9 (p:Sp) (x:jY) (hl:p.da.length=p.fl.length):(eF p x).da.length=(eF p x).fl.length/\(eF p x).fl.length=max p.fl.length (jm x):=by
 unfold eF;dsimp only;have h:=pJ (eG x.s x.e x.ps.length 0 x.ps) x.off (je (jm x) p.fl,qQ (jm x) p.da);rw[h.1,h.2];dsimp only;unfold je qQ;simp only[l8,LQ];omega
theorem DF.take {p:Sp} (h:DF p) {x:jY} (hx:Zq x):DF (eF p x):=by
 have hl:=S9 p x h.ll;have he:jm x<=32767:=hx.sum;have h1:=h.le;refine ⟨hl.1,by omega,fun k hk=> ?_⟩;have hk2:(if BP x=true then some (jm x) else p.size)=some k:=hk;split at hk2
 ·cases hk2;exact he
 ·exact h.sz k hk2
theorem ahS:DF Ff:=⟨rfl,by simp[Ff],fun k hk=>by simp[Ff] at hk⟩
theorem fM.get {st:Rc} (ho:fM st) (k:Nat):DF (d9 st k):=by
 unfold d9;cases hm:st.m k with
 |none=>exact ahS
 |some p=>exact (ho.m k p hm).2.2
theorem fM.Zr {st:Rc} (ho:fM st) {x:jY} (hx:Zq x) (hp:bZ st x.sn<512):fM (iD st x (d9 st x.sn)):=by
 have h1:=hx.sn;have hg:=(ho.get x.sn).take hx;refine ⟨ho.n1,AY _ _ _ ho.n2,?_,ho.n4,fun k q hk=> ?_,ho.op,ho.t1,ho.t2⟩
 ·unfold iD;dsimp only;split
  ·unfold eD;omega
  ·exact ho.n3
 ·have hk2:(if k=x.sn then some (eF (d9 st x.sn) x) else st.m k)=some q:=hk;split at hk2
  ·rename_i e;cases hk2;subst e;exact ⟨h1,hp,hg⟩
  ·exact ho.m k q hk2
theorem fM.Am:∀(f:Nat) {st:Rc},fM st->fM (bK f st).1
 |0,_,ho=>ho
 |f+1,st,ho=>by
  unfold bK;cases hm:st.m st.next with
  |none=>exact ho
  |some p=>
   dsimp only;split
   ·exact fM.Am f (ho.one hm)
   ·exact ho
theorem fM.ams {st:Rc} (ho:fM st) (c:Cf):fM (rV c st):=by
 unfold rV;dsimp only;have h1:fM {st with ro:=false}:=⟨ho.n1,ho.n2,ho.n3,ho.n4,ho.m,ho.op,ho.t1,ho.t2⟩;generalize hs:(if bZ st st.gW=0\/512<bZ st st.gW then {st with ro:=false} else st)=s1;have h2:fM s1:=by
  rw[<-hs];split
  ·exact h1
  ·exact ho
 split
 ·exact h2.waits c
 ·exact h2
theorem fM.due {st:Rc} (ho:fM st) (b:Bool):fM {st with due:=b}:=⟨ho.n1,ho.n2,ho.n3,ho.n4,ho.m,ho.op,ho.t1,ho.t2⟩
theorem fM.recv {st:Rc} (ho:fM st) (c:Cf) {now:Int} (hn:now<=9223372036854775807) (bs:List UInt8):fM (fZ c st now bs).1:=by
 have hg:=ho.goes c hn;unfold fZ;cases hd:qx bs with
 |inl er=>exact hg
 |inr x=>
  have hx:=Rl hd;unfold iM;dsimp only;split
  ·exact hg.due _
  ·rename_i hp;split
   ·exact hg
   ·exact ((hg.Zr hx (by omega)).Am 1024).ams c
section
variable {w w' W W' W2:World} {T T':Nat->Nat} {g M n:Nat} {c:Cf} {st:Rc} {vo v:Value}
theorem jo.stored {sp':Sp} {vf vd oP oG:Value} {b sn n2:Nat} {F:Nat->Option Value} (h:jo W T g M n c st vo) (hbl:b<W.heap.size)
 (hb:T b=0\/T b=3*sn+4) (hf:∀k,vf.ownBlock=some k->T k=3*sn+5) (hd:∀k,vd.ownBlock=some k->T k=3*sn+6)
 (hS:uG W' b sp' oP oG) (hf':∀k,oP.ownBlock=some k->vf.ownBlock=some k\/W.heap.size<=k) (hd':∀k,oG.ownBlock=some k->vd.ownBlock=some k\/W.heap.size<=k)
 (hk:Kept (TkM b vf vd) W W') (hFm:∀k,(st.m k=none->F k=none)/\∀p,st.m k=some p->∃b vf vd,F k=some (.pointer (some ⟨b,0,none⟩))/\uG W b p vf vd/\T b=3*k+4/\(∀j,vf.ownBlock=some j->T j=3*k+5)/\(∀j,vd.ownBlock=some j->T j=3*k+6))
 (hF2:ku prog 3 W2 M n2 (KF F sn (some (.pointer (some ⟨b,0,none⟩))))) (hg:W'.grownBy W2 (some M)):
 ∃T',jo W2 T' g M n2 c {st with m:=fK st.m sn (some sp')} vo/\(∀k,k<W.heap.size->k≠b->T' k=T k)/\(T b≠0->T' b=T b):=by
 have hz:=hk.size;have hz2:=hg.size;have hTM:=h.tM;have hrow:=xD hS.fr hS.dr (by decide);have hzero:∀k,W.heap.size<=k->T k=0:=fun k hk=>by
  rcases oV (T k) with e|e
  ·exact e
  ·have:=h.lt k (by omega);omega
 have key:∀j,T j≠0->(T j<3*sn+4\/3*sn+6<T j)->T j≠2->W2.heap[j]? =W.heap[j]? :=fun j h0 h1 h2=>by
  have hl:=h.lt j h0;have e1:W2.heap[j]? =W'.heap[j]? :=hg.block j (by omega) (fun e=>by cases e;exact h2 hTM);have e2:W.heap[j]? =some W.heap[j]:=rH hl;rw[e1,e2];refine hk.same j _ e2 fun hm=> ?_
  rcases hm with rfl|e|e
  ·omega
  ·have:=hf j e;omega
  ·have:=hd j e;omega
 have ado:∀j,j<W'.heap.size->j≠M->W2.heap[j]? =W'.heap[j]? :=fun j hl hM=>hg.block j hl (fun e=>by cases e;exact hM rfl)
 have hbT:∀j,j=b\/oP.ownBlock=some j\/oG.ownBlock=some j->j≠M:=fun j hj e=>by
  subst e;rcases hj with rfl|e|e
  ·omega
  ·rcases hf' _ e with e|e
   ·have:=hf _ e;omega
   ·have:=hzero _ e;omega
  ·rcases hd' _ e with e|e
   ·have:=hd _ e;omega
   ·have:=hzero _ e;omega
 refine ⟨fun k=>if T k≠0 then T k else if k=b then 3*sn+4 else if W.heap.size<=k/\oP.ownBlock=some k then 3*sn+5 else if W.heap.size<=k/\oG.ownBlock=some k then 3*sn+6 else 0,?_,?_,?_⟩
 ·have hT:∀k,T k≠0->(if T k≠0 then T k else if k=b then 3*sn+4 else if W.heap.size<=k/\oP.ownBlock=some k then 3*sn+5 else if W.heap.size<=k/\oG.ownBlock=some k then 3*sn+6 else 0)=T k:=fun k hh=>bD hh
  refine ⟨?_,(hT g (by rw[h.tg];omega)).trans h.tg,(hT M (by omega)).trans hTM,fun k hh=> ?_,?_,fun k e=> ?_,KF F sn (some (.pointer (some ⟨b,0,none⟩))),hF2,fun k=>⟨fun hm=> ?_,fun q hq=> ?_⟩⟩
  ·exact (key g (by rw[h.tg];omega) (by rw[h.tg];omega) (by rw[h.tg];omega)).trans h.blk
  ·by_cases h0:T k≠0
   ·have:=h.lt k h0;omega
   ·rw[aP h0] at hh;by_cases hkb:k=b
    ·omega
    ·rw[aP hkb] at hh;by_cases h1:W.heap.size<=k/\oP.ownBlock=some k
     ·have:=(hS.fr.lt k h1.2).2;omega
     ·rw[aP h1] at hh;by_cases h2:W.heap.size<=k/\oG.ownBlock=some k
      ·have:=(hS.dr.lt k h2.2).2;omega
      ·rw[aP h2] at hh;exact absurd rfl hh
  ·exact dw h.yL fun k e=>by
    have h3:=h.od k e;exact key k (by omega) (by omega) (by omega)
  ·have h3:=h.od k e;exact (hT k (by omega)).trans h3
  ·have hm2:(if k=sn then some sp' else st.m k)=none:=hm;split at hm2
   ·cases hm2
   ·rename_i hne;show (if k=sn then _ else F k)=none
    rw[aP hne];exact (hFm k).1 hm2
  ·have hq2:(if k=sn then some sp' else st.m k)=some q:=hq;split at hq2
   ·rename_i he;cases hq2;subst he;refine ⟨b,oP,oG,bD rfl,hS.stay (ado b (by omega) (hbT b (.inl rfl))) (fun j hj=>ado j (hS.fr.lt j hj).2 (hbT j (.inr (.inl hj)))) (fun j hj=>ado j (hS.dr.lt j hj).2 (hbT j (.inr (.inr hj)))),?_,fun j hj=> ?_,fun j hj=> ?_⟩
    ·rcases hb with e|e
     ·rw[aP (by omega),bD rfl]
     ·exact (hT b (by omega)).trans e
    ·rcases hf' j hj with e|e
     ·have h5:=hf j e;exact (hT j (by omega)).trans h5
     ·rw[aP (by have:=hzero j e;omega),aP (by omega),bD ⟨e,hj⟩]
    ·rcases hd' j hj with e|e
     ·have h5:=hd j e;exact (hT j (by omega)).trans h5
     ·rw[aP (by have:=hzero j e;omega),aP (by omega),aP,bD ⟨e,hj⟩];rintro ⟨_,e2⟩;rcases hrow with e3|e3
      ·rw[e3] at e2;cases e2
      ·exact e3 (e2.trans hj.symm)
   ·rename_i hne;obtain ⟨b2,vf2,vd2,e1,hs2,t1,t2,t3⟩:=(hFm k).2 q hq2;refine ⟨b2,vf2,vd2,(aP hne).trans e1,hs2.stay (key b2 (by omega) (by omega) (by omega)) (fun j hj=> ?_) (fun j hj=> ?_),(hT b2 (by omega)).trans t1,fun j hj=> ?_,fun j hj=> ?_⟩
    ·have:=t2 j hj;exact key j (by omega) (by omega) (by omega)
    ·have:=t3 j hj;exact key j (by omega) (by omega) (by omega)
    ·have:=t2 j hj;exact (hT j (by omega)).trans this
    ·have:=t3 j hj;exact (hT j (by omega)).trans this
 ·intro k hl hkb;by_cases h0:T k≠0
  ·exact bD h0
  ·show (if T k≠0 then T k else _)=T k
   rw[aP h0,aP hkb,aP (by omega),aP (by omega)];omega
 ·intro h0;exact bD h0
end
end Go.Proofs.YtbhiklnljiehiaaGreat
