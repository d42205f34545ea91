/- status: the parts of Decode. -/
import Derived.Test.YtbhiklnljiehiaaGreatM1bb
namespace Go.Proofs.YtbhiklnljiehiaaGreat
section
open Go.RowKit Go.Shelf
attribute [local go_sem] Oper.semAt_some
theorem mX (er:Int) (w:World):Calls Tryz.prog 137 #[.bool true,.int .i64 er] w fun e w'=>e= .returned (.tuple #[])∧w=w':=by
 go_enter Tryz.func137,Tryz.ntmps137;go_wp2
 go_end0
 exact ⟨rfl,rfl⟩
theorem jR (er:Int) (w:World):Calls Tryz.prog 137 #[.bool false,.int .i64 er] w fun e w'=>e=raise er∧w=w':=by
 unfold raise;go_enter Tryz.func137,Tryz.ntmps137;go_wp2;exact ⟨rfl,rfl,rfl⟩
theorem vX (A:Option Addr) (n c:Nat) (w:World):Calls Tryz.prog 135 #[.slice A n c,.int .i64 0] w fun e w'=>e= .returned (.slice A n c)∧w=w':=by
 go_enter Tryz.func135,Tryz.ntmps135;go_wp2_with (go_at_call 137;refine (mX _ _).mono ?_;rintro e w' ⟨rfl,rfl⟩);go_ret;exact ⟨rfl,rfl⟩
theorem xU (A:Option Addr) (n c:Nat) (er:Int) (Ob:(er==0)=false) (w:World):Calls Tryz.prog 135 #[.slice A n c,.int .i64 er] w fun e w'=>e=raise er∧w=w':=by
 go_enter Tryz.func135,Tryz.ntmps135;go_wp2_with (go_at_call 137;refine (jR _ _).mono ?_;rintro e w' ⟨rfl,rfl⟩);exact ⟨rfl,rfl,rfl⟩
set_option maxHeartbeats 1000000 in
theorem Pv (r:Nat) (v:Value) (bs:List UInt8) (pos:Nat) (w:World) (h:kF w r v bs pos) (hp:pos≤8*bs.length) (hsm:bs.length≤1000000000):
 Calls Tryz.prog 141 #[.pointer (some ⟨r,0,none⟩)] w fun e w'=>e= .returned (.int .i64 (if Bl bs pos=true then 0 else 9))∧Below w.heap.size w w':=by
 obtain ⟨A,cc,rfl,_⟩:=aS h.2;have c0:=h.1.cell 0;have c1:=h.1.cell 1;simp at c0 c1;have hr1:kF (w.alloc (.cells #[.slice A bs.length cc,.int .i64 (pos:Nat)] 262)) w.heap.size (.slice A bs.length cc) bs pos:=⟨au.new w _ _,h.2.alloc _⟩;have HL:=ah (Aj w.heap.size _ bs pos _ hr1 hp hsm);have HA:=ah (fun q=>Am w.heap.size _ bs pos ((w.alloc (.cells #[.slice A bs.length cc,.int .i64 (pos:Nat)] 262)).drewN q) (hr1.drewN q) hsm hp);have HB:=ah (show Below w.heap.size w (w.alloc (.cells #[.slice A bs.length cc,.int .i64 (pos:Nat)] 262)) from (Below.refl _ w).alloc (aN) _);clear h hr1 hp;by_cases h8:8*bs.length-pos<8
 ·have d8:decide ((8:Int)≤((8*bs.length-pos:Nat):Int))=false:=decide_eq_false (by omega);by_cases hv:val (ax bs pos (kS pos))=0
  ·have he:Bl bs pos=true:=by unfold Bl;rw[decide_eq_true h8,decide_eq_true hv];rfl
   rw[if_pos he];rw[if_pos hv,if_pos hv] at HA;go_enter Tryz.func141,Tryz.ntmps141;go_wp2_with (first
    |(go_at_call 182;refine HL.out.mono ?_;rintro e1 w1 ⟨rfl,q,rfl⟩)
    |(go_at_call 183;refine (HA.out q).mono ?_;rintro e2 w2 ⟨rfl,hr2,hk2⟩))
   go_ret;exact ⟨rfl,(HB.out.drewN q).trans (hk2.below (fun k _ e=>by omega) (HB.out.drewN q).size)⟩
  ·have he:¬Bl bs pos=true:=by unfold Bl;rw[decide_eq_false hv];simp
   rw[if_neg he];rw[if_neg hv,if_neg hv] at HA;go_enter Tryz.func141,Tryz.ntmps141;go_wp2_with (first
    |(go_at_call 182;refine HL.out.mono ?_;rintro e1 w1 ⟨rfl,q,rfl⟩)
    |(go_at_call 183;refine (HA.out q).mono ?_;rintro e2 w2 ⟨rfl,hr2,hk2⟩))
   go_ret;exact ⟨rfl,(HB.out.drewN q).trans (hk2.below (fun k _ e=>by omega) (HB.out.drewN q).size)⟩
 ·have d8:decide ((8:Int)≤((8*bs.length-pos:Nat):Int))=true:=decide_eq_true (by omega);have he:¬Bl bs pos=true:=by unfold Bl;rw[decide_eq_false h8];simp
  rw[if_neg he];go_enter Tryz.func141,Tryz.ntmps141;go_wp2_with (go_at_call 182;refine HL.out.mono ?_;rintro e1 w1 ⟨rfl,q,rfl⟩);go_ret;exact ⟨rfl,HB.out.drewN q⟩
theorem au.Tp {w:World} {g:Nat} {t:TypeId} {x0 x1 x2 x3:Value} (b:au w g t #[x0,x1,x2,x3]) (u0 u1 u2 u3:Value):
 au ((((w.setCell ⟨g,0,none⟩ u0).setCell ⟨g,1,none⟩ u1).setCell ⟨g,2,none⟩ u2).setCell ⟨g,3,none⟩ u3) g t #[u0,u1,u2,u3]:=by
 have:=(((b.av 0 u0).av 1 u1).av 2 u2).av 3 u3;simpa using this
theorem jg {w:World} {g k:Nat} (hk:k≠g) (u0 u1 u2 u3:Value):((((w.setCell ⟨g,0,none⟩ u0).setCell ⟨g,1,none⟩ u1).setCell ⟨g,2,none⟩ u2).setCell ⟨g,3,none⟩ u3).heap[k]? =w.heap[k]? :=
 (Below.heap_setCell _ _ _ _ hk).trans ((Below.heap_setCell _ _ _ _ hk).trans ((Below.heap_setCell _ _ _ _ hk).trans (Below.heap_setCell _ _ _ _ hk)))
theorem Ec {w:World} {g:Nat} (u0 u1 u2 u3:Value):((((w.setCell ⟨g,0,none⟩ u0).setCell ⟨g,1,none⟩ u1).setCell ⟨g,2,none⟩ u2).setCell ⟨g,3,none⟩ u3).heap.size=w.heap.size:=by simp[World.setCell]
theorem rE {w:World} {base n g:Nat} {e t:TypeId} {v:Value} {xs:List Value} {x0 x1 x2 x3:Value} (h:w.ownsRow base e 1 v n xs) (b:au w g t #[x0,x1,x2,x3]) (he:e≠t) (u0 u1 u2 u3:Value):
 ((((w.setCell ⟨g,0,none⟩ u0).setCell ⟨g,1,none⟩ u1).setCell ⟨g,2,none⟩ u2).setCell ⟨g,3,none⟩ u3).ownsRow base e 1 v n xs:=
 aL (aL (aL (aL h b he u0) (b.av 0 u0) he u1) ((b.av 0 u0).av 1 u1) he u2) (((b.av 0 u0).av 1 u1).av 2 u2) he u3
theorem xV {w W:World} {M:Nat→Obj→Prop} (h:Kept M w W) {g:Nat} (hg:∀o,w.heap[g]? =some o→M g o) (u0 u1 u2 u3:Value):
 Kept M w ((((W.setCell ⟨g,0,none⟩ u0).setCell ⟨g,1,none⟩ u1).setCell ⟨g,2,none⟩ u2).setCell ⟨g,3,none⟩ u3):=
 (((h.setCell (p:=⟨g,0,none⟩) hg u0).setCell (p:=⟨g,1,none⟩) hg u1).setCell (p:=⟨g,2,none⟩) hg u2).setCell (p:=⟨g,3,none⟩) hg u3
def afT (w:World) (r:Nat) (v:Value) (bs:List UInt8) (R:Option (Nk × Bool × Nat)) (e:Ending) (w':World):Prop:=
 Kept (fun k _=>k=r∨w.heap.size≤k) w w'∧((R=none∧e=raise 5)∨∃x more p,R=some (x,more,p)∧e= .returned (.tuple #[.agg (lq x),.bool more])∧kF w' r v bs p)
set_option maxRecDepth 100000 in
set_option maxHeartbeats 2000000 in
theorem Ka (r:Nat) (v:Value) (bs:List UInt8) (pos:Nat) (w:World) (h:kF w r v bs pos) (hp:pos≤8*bs.length) (hsm:bs.length≤1000000000):
 Calls Tryz.prog 138 #[.agg #[.pointer (some ⟨r,0,none⟩)]] w (afT w r v bs (Dl bs pos)):=by
 obtain ⟨R,hR⟩:∃R,Dl bs pos=R:=⟨_,rfl⟩
 rw[hR];have HR:=ah hR;clear hR;obtain ⟨w2,hw2⟩:∃w2,((w.alloc (.cells #[.pointer (some ⟨r,0,none⟩)] 219)).alloc (.cells #[.int .i64 0,.bool false,.int .i64 0,.int .i64 0] 197)).alloc (.cells #[.int .i64 10,.int .i64 1,.int .i64 1] 3)=w2:=⟨_,rfl⟩
 have hk2:Kept (fun k _=>k=r∨w.heap.size≤k) w w2:=by rw[←hw2];exact (((Kept.refl _ w).alloc _).alloc _).alloc _
 have uq:kF w2 r v bs pos:=by rw[←hw2];exact ⟨((h.1.alloc _).alloc _).alloc _,((h.2.alloc _).alloc _).alloc _⟩
 have bd2:au w2 w.heap.size 219 #[.pointer (some ⟨r,0,none⟩)]:=by rw[←hw2];exact ((au.new w _ _).alloc _).alloc _
 have bn2:au w2 (w.heap.size+1) 197 #[.int .i64 0,.bool false,.int .i64 0,.int .i64 0]:=by
  rw[←hw2];have:=au.new (w.alloc (.cells #[.pointer (some ⟨r,0,none⟩)] 219)) 197 #[.int .i64 0,.bool false,.int .i64 0,.int .i64 0];rw[World.size_alloc] at this;exact this.alloc _
 have bi2:au w2 (w.heap.size+1+1) 3 (jq [10,1,1]).toArray:=by
  rw[←hw2];have:=au.new ((w.alloc (.cells #[.pointer (some ⟨r,0,none⟩)] 219)).alloc (.cells #[.int .i64 0,.bool false,.int .i64 0,.int .i64 0] 197)) 3 #[.int .i64 10,.int .i64 1,.int .i64 1];rw[World.size_alloc,World.size_alloc] at this;exact this
 have hz2:w2.heap.size=w.heap.size+3:=by rw[←hw2];simp
 have hrl:=h.1.lt;have Ak:=ah hk2;have Vi:=ah uq;have Ol:=ah bd2;have HBN:=ah bn2;have HBI:=ah bi2;have HZ2:=ah hz2;clear h hk2 uq bd2 bn2 bi2 hz2;go_enter Tryz.func138,Tryz.ntmps138;go_wp2_with fail;by_cases hs:8*bs.length<pos+12
 ·have qU:R=none:=by rw[←HR.out];unfold Dl;rw[if_pos hs]
  have yD:=ah qU;clear qU;have hga:=j4 r (w.heap.size+1+1) v bs pos [10,1,1] w2 Vi.out hsm (by simp) (by simp) HBI.out hp (by simp;omega);simp only[List.length_cons,List.length_nil,Nat.zero_add,Nat.reduceAdd] at hga;refine hga.mono ?_;rintro e3 w3 ⟨rfl,nE,hk3⟩;have hk4:=Ak.out.trans (hk3.mono fun k _ e=>e.imp id fun e=>by have:=HZ2.out;omega);have CQ:=ah hk4;clear hga hk3 hk4 nE;go_wp2_with (go_at_call 135;((with_reducible refine (xU _ _ _ _ rfl _).mono ?_);rintro e4 w4 ⟨rfl,rfl⟩));exact ⟨rfl,CQ.out,.inl ⟨yD.out,rfl⟩⟩
 ·have hga:=oO r (w.heap.size+1+1) v bs pos [10,1,1] w2 Vi.out hsm (by simp) (by simp) HBI.out (by simp;omega);simp only[List.length_cons,List.length_nil,Nat.zero_add,Nat.reduceAdd] at hga;refine hga.mono ?_;rintro e3 w3 ⟨vo,rfl,jm,nE,hk3⟩;have hgv:getAll bs pos [10,1,1]= [val (ax bs pos 10),val (ax bs (pos+10) 1),val (ax bs (pos+11) 1)]:=rfl;rw[hgv] at jm;rw[show pos+ [10,1,1].sum=pos+12 from rfl] at nE;simp only[List.length_cons,List.length_nil,Nat.zero_add,Nat.reduceAdd] at jm;have hx0:val (ax bs pos 10)<1024:=by have:=qW (ax bs pos 10);rw[fu] at this;exact this
  have qJ:=HR.out;unfold Dl at qJ;rw[if_neg hs] at qJ;generalize val (ax bs pos 10)=x0 at*;generalize val (ax bs (pos+10) 1)=x1 at*;generalize val (ax bs (pos+11) 1)=x2 at*;have HR1:=ah qJ;have hM:∀k,w.heap.size≤k→k<w.heap.size+3→¬(k=r∨w2.heap.size≤k):=fun k h1 h2 e=>by have:=HZ2.out;omega
  have bd3:=Ol.out.kept hk3 (hM _ (by omega) (by omega));have Om:=HBN.out.kept hk3 (hM _ (by omega) (by omega));have hk4:=Ak.out.trans (hk3.mono fun k _ e=>e.imp id fun e=>by have:=HZ2.out;omega);have hz3:w.heap.size+3≤w3.heap.size:=by have:=hk3.size;have:=HZ2.out;omega
  obtain ⟨gl,Xb,rfl,hgl,lT⟩:=jm.form (by omega);have amf:w.heap.size+3≤gl:=by have:=HZ2.out;omega
  have l0:w3.drew.cell? ⟨gl,0,none⟩=some (.int .u64 x0):=by have:=jm.cellAt 0 (by omega);simpa[qa] using this
  have l2:w3.drew.cell? ⟨gl,2,none⟩=some (.int .u64 x2):=by have:=jm.cellAt 2 (by omega);simpa[qa] using this
  obtain ⟨n0,n1,n2,n3⟩:w3.drew.cell? ⟨w.heap.size+1,0,none⟩=_∧w3.drew.cell? ⟨w.heap.size+1,1,none⟩=_∧w3.drew.cell? ⟨w.heap.size+1,2,none⟩=_∧w3.drew.cell? ⟨w.heap.size+1,3,none⟩=_:=Om.iX;have f0:w3.drew.frozen? ⟨w.heap.size+1,0,none⟩=false:=Om.frozen 0;have f1:w3.drew.frozen? ⟨w.heap.size+1,1,none⟩=false:=Om.frozen 1;have f2:w3.drew.frozen? ⟨w.heap.size+1,2,none⟩=false:=Om.frozen 2;have f3:w3.drew.frozen? ⟨w.heap.size+1,3,none⟩=false:=Om.frozen 3;obtain ⟨m0,m1,m2,m3⟩:=Om.iX;have e0:=Om.frozen 0;have e1:=Om.frozen 1;have e2:=Om.frozen 2;have e3:=Om.frozen 3;have hpt:((x2:Int)==1)=decide (x2=1):=by rw[Bool.eq_iff_iff];simp;omega
  have hxw:IntKind.i64.wrap (x0:Int)=(x0:Int):=by rw[IntKind.wrap_i64];omega
  obtain ⟨pt,Xh⟩:∃pt,decide (x2=1)=pt:=⟨_,rfl⟩
  rw[Xh] at hpt;have Xi:=ah Xh;have Zt:=ah jm;have Xj:=ah nE;have CQ:=ah hk4;have aaT:=ah bd3;have Tq:=ah Om;clear hgv hga qJ hM bd3 Om hk3 hk4 jm nE Xh;go_upto_region 2 with (go_at_call 135;((with_reducible refine (vX _ _ _ _).mono ?_);rintro e4 w4 ⟨rfl,rfl⟩))
  go_region
  have zF:au ((((w3.setCell ⟨w.heap.size+1,0,none⟩ (.int .i64 x0)).setCell ⟨w.heap.size+1,1,none⟩ (.bool pt)).setCell ⟨w.heap.size+1,2,none⟩ (.int .i64 0)).setCell ⟨w.heap.size+1,3,none⟩ (.int .i64 0)).drew (w.heap.size+1) 197 #[.int .i64 x0,.bool pt,.int .i64 0,.int .i64 0]:=Tq.out.Tp _ _ _ _;have Zu:au ((((w3.setCell ⟨w.heap.size+1,0,none⟩ (.int .i64 x0)).setCell ⟨w.heap.size+1,1,none⟩ (.bool pt)).setCell ⟨w.heap.size+1,2,none⟩ (.int .i64 0)).setCell ⟨w.heap.size+1,3,none⟩ (.int .i64 0)).drew w.heap.size 219 #[.pointer (some ⟨r,0,none⟩)]:=(jg (by omega) _ _ _ _).trans aaT.out;have uw:kF ((((w3.setCell ⟨w.heap.size+1,0,none⟩ (.int .i64 x0)).setCell ⟨w.heap.size+1,1,none⟩ (.bool pt)).setCell ⟨w.heap.size+1,2,none⟩ (.int .i64 0)).setCell ⟨w.heap.size+1,3,none⟩ (.int .i64 0)).drew r v bs (pos+12):=⟨(jg (by omega) _ _ _ _).trans Xj.out.1,(rE Xj.out.2 Tq.out (by decide) _ _ _ _).drew'⟩;have oV:=(rE Zt.out Tq.out (by decide) (.int .i64 x0) (.bool pt) (.int .i64 0) (.int .i64 0)).drew';have hk5:=(xV CQ.out (g:=w.heap.size+1) (fun _ _=> .inr (by omega)) (.int .i64 x0) (.bool pt) (.int .i64 0) (.int .i64 0)).drew
  have LJ:w.heap.size+3≤((((w3.setCell ⟨w.heap.size+1,0,none⟩ (.int .i64 x0)).setCell ⟨w.heap.size+1,1,none⟩ (.bool pt)).setCell ⟨w.heap.size+1,2,none⟩ (.int .i64 0)).setCell ⟨w.heap.size+1,3,none⟩ (.int .i64 0)).drew.heap.size:=Nat.le_trans hz3 (Nat.le_of_eq (Ec (w:=w3) (g:=w.heap.size+1) (.int .i64 x0) (.bool pt) (.int .i64 0) (.int .i64 0)).symm);generalize ((((w3.setCell ⟨w.heap.size+1,0,none⟩ (.int .i64 x0)).setCell ⟨w.heap.size+1,1,none⟩ (.bool pt)).setCell ⟨w.heap.size+1,2,none⟩ (.int .i64 0)).setCell ⟨w.heap.size+1,3,none⟩ (.int .i64 0)).drew=w5 at*;clear l0 l2 n0 n1 n2 n3 f0 f1 f2 f3 m0 m1 m2 m3 e0 e1 e2 e3 Zt Xj CQ aaT Tq hz3;have hb1:((x1:Int)==1)=decide (x1=1):=by rw[Bool.eq_iff_iff];simp;omega
  cases pt with
  |false=>
   have l1:w5.drew.cell? ⟨gl,1,none⟩=some (.int .u64 x1):=by have:=oV.cellAt 1 (by omega);simpa[qa] using this
   have l1':w5.cell? ⟨gl,1,none⟩=some (.int .u64 x1):=l1;obtain ⟨n0,n1,n2,n3⟩:w5.drew.cell? ⟨w.heap.size+1,0,none⟩=_∧w5.drew.cell? ⟨w.heap.size+1,1,none⟩=_∧w5.drew.cell? ⟨w.heap.size+1,2,none⟩=_∧w5.drew.cell? ⟨w.heap.size+1,3,none⟩=_:=zF.iX;have f0:w5.drew.frozen? ⟨w.heap.size+1,0,none⟩=false:=zF.frozen 0;have f1:w5.drew.frozen? ⟨w.heap.size+1,1,none⟩=false:=zF.frozen 1;have f2:w5.drew.frozen? ⟨w.heap.size+1,2,none⟩=false:=zF.frozen 2;have f3:w5.drew.frozen? ⟨w.heap.size+1,3,none⟩=false:=zF.frozen 3;obtain ⟨m0,m1,m2,m3⟩:=zF.iX;have e0:=zF.frozen 0;have e1:=zF.frozen 1;have e2:=zF.frozen 2;have e3:=zF.frozen 3;have aaU:=ah zF;have aaV:=ah uw;have ve:=ah hk5;clear zF uw hk5 oV Zu;go_upto_region 6 with fail
   go_region
   all_goals
    have Tt:=aaU.out.Tp (.int .i64 x0) (.bool false) (.int .i64 0) (.int .i64 0);have vR:kF ((((w5.setCell ⟨w.heap.size+1,0,none⟩ (.int .i64 x0)).setCell ⟨w.heap.size+1,1,none⟩ (.bool false)).setCell ⟨w.heap.size+1,2,none⟩ (.int .i64 0)).setCell ⟨w.heap.size+1,3,none⟩ (.int .i64 0)).drew r v bs (pos+12):=⟨(jg (by omega) _ _ _ _).trans aaV.out.1,(rE aaV.out.2 aaU.out (by decide) _ _ _ _).drew'⟩;have nG:=(xV ve.out (g:=w.heap.size+1) (fun _ _=> .inr (by omega)) (.int .i64 x0) (.bool false) (.int .i64 0) (.int .i64 0)).drew;obtain ⟨p0,p1,p2,p3⟩:=Tt.iX;have hfin:=HR1.out;rw[if_neg (of_decide_eq_false Xi.out)] at hfin;have jJ:=ah hfin;go_wp2_with fail;refine bodyPost_ret (v:= .tuple #[.agg #[.int .i64 x0,.bool false,.int .i64 0,.int .i64 0],.bool (decide (x1=1))]) ?_ rfl ?_
    ·simp[results,Tryz.results138,go_sem,p0,p1,p2,p3]
    ·exact ⟨nG,.inr ⟨_,_,_,jJ.out.symm,rfl,vR⟩⟩
  |true=>
   have hR2:=HR1.out;rw[if_pos (of_decide_eq_true Xi.out)] at hR2;have HR2:=ah hR2;have d0:=Zu.cell 0;have m1:=zF.cell 1;simp at d0 m1;have vR:kF (w5.alloc (.cells #[.int .i64 15,.int .i64 15] 3)) r v bs (pos+12):=⟨uw.1.alloc _,uw.2.alloc _⟩;have bi6:au (w5.alloc (.cells #[.int .i64 15,.int .i64 15] 3)) w5.heap.size 3 (jq [15,15]).toArray:=au.new w5 3 #[.int .i64 15,.int .i64 15];have Tt:=zF.alloc (.cells #[.int .i64 15,.int .i64 15] 3);have Ta:=oV.alloc (.cells #[.int .i64 15,.int .i64 15] 3);have nG:=hk5.alloc (.cells #[.int .i64 15,.int .i64 15] 3);have LF:(w5.alloc (.cells #[.int .i64 15,.int .i64 15] 3)).heap.size=w5.heap.size+1:=by simp
   have amg:gl<w5.heap.size:=by
    have:=World.block_lt_of_cell? w5 _ (oV.cellAt 0 (by omega));simpa using this
   have MQ:=ah LF;have Bn:=ah Tt;have aaW:=ah Ta;have vg:=ah nG;clear hR2 HR1 zF Zu uw oV hk5 Tt Ta nG LF;go_wp2_with fail;by_cases hs2:8*bs.length<pos+42
   ·have qU:=HR2.out;rw[if_pos hs2] at qU;have yD:=ah qU.symm;clear qU;have hga:=j4 r w5.heap.size v bs (pos+12) [15,15] _ vR hsm (by simp) (by simp) bi6 (by omega) (by simp;omega);simp only[List.length_cons,List.length_nil,Nat.zero_add,Nat.reduceAdd] at hga;refine hga.mono ?_;rintro e7 w7 ⟨rfl,Pw,zA⟩;have Pt:=vg.out.trans (zA.mono fun k _ e=>e.imp id fun e=>by have:=MQ.out;omega);have RV:=ah Pt;clear hga zA Pt Pw;go_wp2_with (go_at_call 135;((with_reducible refine (xU _ _ _ _ rfl _).mono ?_);rintro e4 w4 ⟨rfl,rfl⟩));exact ⟨rfl,RV.out,.inl ⟨yD.out,rfl⟩⟩
   ·have hga:=oO r w5.heap.size v bs (pos+12) [15,15] _ vR hsm (by simp) (by simp) bi6 (by simp;omega);simp only[List.length_cons,List.length_nil,Nat.zero_add,Nat.reduceAdd] at hga;refine hga.mono ?_;rintro e7 w7 ⟨Xk,rfl,MS,Pw,zA⟩;have aaX:getAll bs (pos+12) [15,15]= [val (ax bs (pos+12) 15),val (ax bs (pos+12+15) 15)]:=rfl;rw[aaX,show pos+12+15=pos+27 by omega] at MS;rw[show pos+12+ [15,15].sum=pos+42 by simp] at Pw;have qU:=HR2.out;rw[if_neg hs2] at qU;have hx3:val (ax bs (pos+12) 15)<32768:=by have:=qW (ax bs (pos+12) 15);rw[fu] at this;exact this
    have hx4:val (ax bs (pos+27) 15)<32768:=by have:=qW (ax bs (pos+27) 15);rw[fu] at this;exact this
    generalize val (ax bs (pos+12) 15)=x3 at*;generalize val (ax bs (pos+27) 15)=x4 at*;simp only[List.length_cons,List.length_nil,Nat.zero_add,Nat.reduceAdd] at MS;obtain ⟨g2,cap2,rfl,hg2,amh⟩:=MS.form (by omega);have ami:w5.heap.size<g2:=by have:=MQ.out;omega
    have hM:∀k,w.heap.size≤k→k≤w5.heap.size→¬(k=r∨(w5.alloc (.cells #[.int .i64 15,.int .i64 15] 3)).heap.size≤k):=fun k h1 h2 e=>by have:=MQ.out;omega
    have Vv:=Bn.out.kept zA (hM _ (by omega) (by omega));have Xl:=j3 aaW.out zA (fun k o _ hk=>by
     have e:gl=k:=by simpa[Value.ownBlock] using hk
     subst e;exact hM _ (by omega) (by omega))
    have Pt:=vg.out.trans (zA.mono fun k _ e=>e.imp id fun e=>by have:=MQ.out;omega);have l0:w7.drew.cell? ⟨g2,0,none⟩=some (.int .u64 x3):=by have:=MS.cellAt 0 (by omega);simpa[qa] using this
    have l1:w7.drew.cell? ⟨g2,1,none⟩=some (.int .u64 x4):=by have:=MS.cellAt 1 (by omega);simpa[qa] using this
    have l0':w7.cell? ⟨g2,0,none⟩=some (.int .u64 x3):=l0;have l1':w7.cell? ⟨g2,1,none⟩=some (.int .u64 x4):=l1;obtain ⟨n0,n1,n2,n3⟩:w7.drew.cell? ⟨w.heap.size+1,0,none⟩=_∧w7.drew.cell? ⟨w.heap.size+1,1,none⟩=_∧w7.drew.cell? ⟨w.heap.size+1,2,none⟩=_∧w7.drew.cell? ⟨w.heap.size+1,3,none⟩=_:=Vv.iX;obtain ⟨m0,m1,m2,m3⟩:=Vv.iX;have f2:w7.drew.frozen? ⟨w.heap.size+1,2,none⟩=false:=Vv.frozen 2;have f3:w7.drew.frozen? ⟨w.heap.size+1,3,none⟩=false:=Vv.frozen 3;have e2:=Vv.frozen 2;have e3:=Vv.frozen 3;have hw3:IntKind.i64.wrap (x3:Int)=(x3:Int):=by rw[IntKind.wrap_i64];omega
    have hw4:IntKind.i64.wrap (x4:Int)=(x4:Int):=by rw[IntKind.wrap_i64];omega
    have yD:=ah qU;have Xm:=ah Pw;have aaY:=ah Xl;have RV:=ah Pt;have MU:=ah Vv;clear aaX hga MS Pw zA qU Xl Pt Vv Bn aaW vg HR2 hM;go_upto_region 5 with (go_at_call 135;((with_reducible refine (vX _ _ _ _).mono ?_);rintro e4 w4 ⟨rfl,rfl⟩))
    go_region
    have On:au ((w7.setCell ⟨w.heap.size+1,2,none⟩ (.int .i64 x3)).setCell ⟨w.heap.size+1,3,none⟩ (.int .i64 x4)).drew (w.heap.size+1) 197 #[.int .i64 x0,.bool true,.int .i64 x3,.int .i64 x4]:=by
     have h8:au ((w7.setCell ⟨w.heap.size+1,2,none⟩ (.int .i64 x3)).setCell ⟨w.heap.size+1,3,none⟩ (.int .i64 x4)) (w.heap.size+1) 197 #[.int .i64 x0,.bool true,.int .i64 x3,.int .i64 x4]:=by simpa using (MU.out.av 2 (.int .i64 x3)).av 3 (.int .i64 x4)
     exact h8
    have aaZ:kF ((w7.setCell ⟨w.heap.size+1,2,none⟩ (.int .i64 x3)).setCell ⟨w.heap.size+1,3,none⟩ (.int .i64 x4)).drew r v bs (pos+42):=⟨(Below.heap_setCell _ _ _ _ (by show r≠w.heap.size+1;omega)).trans ((Below.heap_setCell _ _ _ _ (by show r≠w.heap.size+1;omega)).trans Xm.out.1),(aL (aL Xm.out.2 MU.out (by decide) (.int .i64 x3)) (MU.out.av 2 (.int .i64 x3)) (by decide) (.int .i64 x4)).drew'⟩;have aa0:=(aL (i:=3) (aL (i:=2) aaY.out MU.out (by decide) (.int .i64 x3)) (MU.out.av 2 (.int .i64 x3)) (by decide) (.int .i64 x4)).drew';have SK:=((RV.out.setCell (p:=⟨w.heap.size+1,2,none⟩) (fun _ _=> .inr (by show w.heap.size≤w.heap.size+1;omega)) (.int .i64 x3)).setCell (p:=⟨w.heap.size+1,3,none⟩) (fun _ _=> .inr (by show w.heap.size≤w.heap.size+1;omega)) (.int .i64 x4)).drew;generalize ((w7.setCell ⟨w.heap.size+1,2,none⟩ (.int .i64 x3)).setCell ⟨w.heap.size+1,3,none⟩ (.int .i64 x4)).drew=w8 at*;clear l0 l1 l0' l1' n0 n1 n2 n3 m0 m1 m2 m3 f2 f3 e2 e3 aaY Xm RV MU;have l1:w8.drew.cell? ⟨gl,1,none⟩=some (.int .u64 x1):=by have:=aa0.cellAt 1 (by omega);simpa[qa] using this
    have l1':w8.cell? ⟨gl,1,none⟩=some (.int .u64 x1):=l1;obtain ⟨n0,n1,n2,n3⟩:w8.drew.cell? ⟨w.heap.size+1,0,none⟩=_∧w8.drew.cell? ⟨w.heap.size+1,1,none⟩=_∧w8.drew.cell? ⟨w.heap.size+1,2,none⟩=_∧w8.drew.cell? ⟨w.heap.size+1,3,none⟩=_:=On.iX;have f0:w8.drew.frozen? ⟨w.heap.size+1,0,none⟩=false:=On.frozen 0;have f1:w8.drew.frozen? ⟨w.heap.size+1,1,none⟩=false:=On.frozen 1;have f2:w8.drew.frozen? ⟨w.heap.size+1,2,none⟩=false:=On.frozen 2;have f3:w8.drew.frozen? ⟨w.heap.size+1,3,none⟩=false:=On.frozen 3;obtain ⟨m0,m1,m2,m3⟩:=On.iX;have e0:=On.frozen 0;have e1:=On.frozen 1;have e2:=On.frozen 2;have e3:=On.frozen 3;have aa1:=ah On;have Dm:=ah aaZ;have Tv:=ah SK;clear On aaZ SK aa0;go_upto_region 6 with fail
    go_region
    all_goals
     have Tt:=aa1.out.Tp (.int .i64 x0) (.bool true) (.int .i64 x3) (.int .i64 x4);have vR:kF ((((w8.setCell ⟨w.heap.size+1,0,none⟩ (.int .i64 x0)).setCell ⟨w.heap.size+1,1,none⟩ (.bool true)).setCell ⟨w.heap.size+1,2,none⟩ (.int .i64 x3)).setCell ⟨w.heap.size+1,3,none⟩ (.int .i64 x4)).drew r v bs (pos+42):=⟨(jg (by omega) _ _ _ _).trans Dm.out.1,(rE Dm.out.2 aa1.out (by decide) _ _ _ _).drew'⟩;have nG:=(xV Tv.out (g:=w.heap.size+1) (fun _ _=> .inr (by omega)) (.int .i64 x0) (.bool true) (.int .i64 x3) (.int .i64 x4)).drew;obtain ⟨p0,p1,p2,p3⟩:=Tt.iX;go_wp2_with fail;refine bodyPost_ret (v:= .tuple #[.agg #[.int .i64 x0,.bool true,.int .i64 x3,.int .i64 x4],.bool (decide (x1=1))]) ?_ rfl ?_
     ·simp[results,Tryz.results138,go_sem,p0,p1,p2,p3]
     ·exact ⟨nG,.inr ⟨_,_,_,yD.out.symm,rfl,vR⟩⟩
end
section
open Go.RowKit Go.Shelf
attribute [local go_sem] Oper.semAt_some
def zI (l:List (Nat × Nat)) (k:Nat):Array Value:= #[.int .i64 ((l[k]?.getD (0,0)).1:Nat),.int .i64 ((l[k]?.getD (0,0)).2:Nat)]
def ko (l:List Fl) (i fr k:Nat):Prop:=∃pre,dO l 0 0=pre++dO (l.drop i) i fr∧pre.length=k
theorem ko.start (l:List Fl):ko l 0 0 0:=⟨[],rfl,rfl⟩
theorem drop_cons {l:List Fl} {i:Nat} (h:i<l.length):l.drop i=eP l i::l.drop (i+1):=by
 rw[List.drop_eq_getElem_cons h];unfold eP;rw[List.getElem?_eq_getElem h];rfl
theorem ko.miss {l:List Fl} {i fr k:Nat} (h:ko l i fr k) (hi:i<l.length) (hf:(eP l i).1=false):ko l (i+1) fr k:=by
 obtain ⟨pre,e,hk⟩:=h;rw[drop_cons hi,dO,if_pos hf] at e;exact ⟨pre,e,hk⟩
theorem ko.pass {l:List Fl} {i fr k:Nat} (h:ko l i fr k) (hi:i<l.length) (hf:(eP l i).1=true) (hfr:¬fr<i):ko l (i+1) (i+1) k:=by
 obtain ⟨pre,e,hk⟩:=h;rw[drop_cons hi,dO,if_neg (by rw[hf];simp),if_neg hfr] at e;exact ⟨pre,e,hk⟩
theorem ko.give {l:List Fl} {i fr k:Nat} (h:ko l i fr k) (hi:i<l.length) (hf:(eP l i).1=true) (hfr:fr<i):ko l (i+1) (i+1) (k+1)∧(dO l 0 0)[k]? =some (fr,i-1):=by
 obtain ⟨pre,e,hk⟩:=h;rw[drop_cons hi,dO,if_neg (by rw[hf];simp),if_pos hfr] at e;refine ⟨⟨pre++ [(fr,i-1)],by rw[e];simp,by simp[hk]⟩,?_⟩;rw[e,List.getElem?_append_right (by omega),hk,Nat.sub_self];rfl
theorem ko.last {l:List Fl} {fr k:Nat} (h:ko l l.length fr k) (hfr:fr<l.length):(dO l 0 0)[k]? =some (fr,l.length-1)∧(dO l 0 0).length=k+1:=by
 obtain ⟨pre,e,hk⟩:=h;rw[List.drop_length,dO,if_pos hfr] at e;constructor
 ·rw[e,List.getElem?_append_right (by omega),hk,Nat.sub_self];rfl
 ·rw[e,List.length_append,hk];rfl
theorem ko.none {l:List Fl} {fr k:Nat} (h:ko l l.length fr k) (hfr:¬fr<l.length):(dO l 0 0).length=k:=by
 obtain ⟨pre,e,hk⟩:=h;rw[List.drop_length,dO,if_neg hfr,List.append_nil] at e;rw[e,hk]
theorem BF {L:List (Nat × Nat)} {k a b:Nat} (h:L[k]? =some (a,b)):zI L k= #[.int .i64 (a:Nat),.int .i64 (b:Nat)]∧k<L.length:=by
 unfold zI;rw[h];exact ⟨rfl,(List.getElem?_eq_some_iff.1 h).1⟩
set_option maxRecDepth 100000 in
set_option maxHeartbeats 2000000 in
theorem M3 (n:Nat) (hn:1≤n) (gv b:Nat) (A:Option Addr) (m c:Nat) (l:List Fl) (hm:m≤100000) (hlm:l.length=m) (Q:Nat→Obj→Prop) (w:World)
 (hg:au w gv 161 #[.pointer (some ⟨b,0,none⟩)]) (_hbl:b<w.heap.size) (hb:∀W,Below w.heap.size w W→∀X,Kept Q W X→X.cell? ⟨b,0,none⟩=some (.slice A m c)∧nH X A m c l) (hQ:¬Q gv (.cells #[.pointer (some ⟨b,0,none⟩)] 161 (0,0))):
 JY Fence.wide n Tryz.prog 201 #[.pointer (some ⟨gv,0,none⟩)] (zI (dO l 0 0)) (dO l 0 0).length (Kept Q) w:=fun lb J W hW _ hY h0=>by
 have hg':=hg.below hW hg.lt;have HB:=ah (hb W hW);have HY:=ah hY;clear hY hb;refine callsIn_of_wp Tryz.func201 rfl trivial ?_ rfl;simp only[Tryz.ntmps201,List.size_toArray,List.length_cons,List.length_nil,Nat.reduceAdd,Nat.reduceSub,Array.replicate_succ,Array.replicate_zero,List.push_toArray,List.append_toArray,List.nil_append,List.cons_append];have hcw:=hg'.cell 0;simp at hcw;obtain ⟨hc0,XA⟩:=HB.out W (Kept.refl _ _);refine lC ?_
 gi_wp2
 refine wpIn_label ?_
 gi_wp2
 gi_loopw [3,11] (fun s3 i wr=>∃i' fr k:Nat,i'≤m+1∧i= .int .i64 i'∧s3= .int .i64 fr∧fr≤i'∧((i'≤m∧ko l i' fr k)∨(i'=m+1∧k=(dO l 0 0).length))∧J k wr∧Kept Q W wr) (fun _ i _=>m+1-(intOf i).toNat)
 case atStart=>exact ⟨0,0,0,Nat.zero_le _,by simp,by simp,aN,.inl ⟨Nat.zero_le _,ko.start l⟩,h0,Kept.refl _ _⟩
 case round=>
  obtain ⟨i',fr,k,hi1,rfl,rfl,hfr,hat,hJs,hnx⟩:=hrel;clear hc0 XA;obtain ⟨hc0,XA⟩:=HB.out wr hnx;have hgr:=hg'.kept hnx hQ;have hcg:=hgr.cell 0;simp at hcg;rcases Nat.lt_trichotomy i' m with hlt|heq|hgt
  ·have zq:ko l i' fr k:=by rcases hat with h|h;exact h.2;omega
   have hhas:Calls Tryz.prog 156 #[.slice A m c,.int .i64 (i':Nat),.int .i64 0] wr fun e w'=>e= .returned (.bool (eP l i').1)∧wr=w':=Bu XA i' (by omega) 0 (by omega)
   clear hat;cases hf:(eP l i').1 with
   |false=>
    rw[hf] at hhas;have Dn:=ah hhas;have HF:=ah hf;have HAT:=ah zq;clear hhas hf zq
    gi_wp2_with (refine ⟨trivial,?_⟩;refine ((callsIn_wide (n:=n-1)).2 Dn.out).mono ?_;rintro e1 w1 ⟨rfl,rfl⟩)
    exact ⟨⟨i'+1,fr,k,by omega,by go_num,rfl,by omega,.inl ⟨by omega,HAT.out.miss (by omega) HF.out⟩,hJs,hnx⟩,by simp[intOf]<;>omega⟩
   |true=>
    rw[hf] at hhas;have Dn:=ah hhas;by_cases hfi:fr<i'
    ·obtain ⟨h5,h6⟩:=zq.give (by omega) hf hfi;obtain ⟨h7,h8⟩:=BF h6;have Lp:=HY.out k wr h8 hJs;rw[h7,show ((i'-1:Nat):Int)=(i':Int)-1 by omega] at Lp;obtain ⟨fn,tmps,assign,body,hy,hR⟩:=Lp;have H5:=ah h5;clear hhas hf zq h5 h6 h7 h8
     gi_wp2_with (refine ⟨trivial,?_⟩;refine ((callsIn_wide (n:=n-1)).2 Dn.out).mono ?_;rintro e1 w1 ⟨rfl,rfl⟩)
     refine hR.mono ?_;rintro e W3 ⟨rfl,hJ3,hk3⟩
     gi_wp2_with fail
     exact ⟨⟨i'+1,i'+1,k+1,by omega,by go_num,by go_num,aN,.inl ⟨by omega,H5.out⟩,hJ3,hnx.trans hk3⟩,by simp[intOf]<;>omega⟩
    ·have h5:=zq.pass (by omega) hf hfi;have H5:=ah h5;clear hhas hf zq h5
     gi_wp2_with (refine ⟨trivial,?_⟩;refine ((callsIn_wide (n:=n-1)).2 Dn.out).mono ?_;rintro e1 w1 ⟨rfl,rfl⟩)
     refine ⟨fun f h=>(by cases h),?_⟩
     gi_wp2_with fail
     exact ⟨⟨i'+1,i'+1,k,by omega,by go_num,by go_num,aN,.inl ⟨by omega,H5.out⟩,hJs,hnx⟩,by simp[intOf]<;>omega⟩
  ·subst heq;have zq:ko l i' fr k:=by rcases hat with h|h;exact h.2;omega
   clear hat;rw[←hlm] at zq;by_cases hfi:fr<i'
   ·obtain ⟨h5,h6⟩:=zq.last (by omega);obtain ⟨h7,h8⟩:=BF h5;have Lp:=HY.out k wr h8 hJs;rw[h7,show ((l.length-1:Nat):Int)=(i':Int)-1 by omega] at Lp;obtain ⟨fn,tmps,assign,body,hy,hR⟩:=Lp;have H6:=ah h6;clear zq h5 h6 h7 h8
    gi_wp2_with fail
    refine ⟨trivial,?_⟩
    gi_wp2_with fail
    refine hR.mono ?_;rintro e W3 ⟨rfl,hJ3,hk3⟩
    gi_wp2_with fail
    exact ⟨⟨i'+1,i'+1,k+1,by omega,by go_num,by go_num,aN,.inr ⟨rfl,H6.out.symm⟩,hJ3,hnx.trans hk3⟩,by simp[intOf]<;>omega⟩
   ·have h6:=zq.none (by omega);have H6:=ah h6;clear zq h6
    gi_wp2_with fail
    refine ⟨trivial,?_⟩
    gi_wp2_with fail
    refine ⟨fun f h=>(by cases h),?_⟩
    gi_wp2_with fail
    exact ⟨⟨i'+1,i'+1,k,by omega,by go_num,by go_num,aN,.inr ⟨rfl,H6.out.symm⟩,hJs,hnx⟩,by simp[intOf]<;>omega⟩
  ·have e:i'=m+1:=by omega
   have ek:k=(dO l 0 0).length:=by rcases hat with h|h;omega;exact h.2
   subst e;have JK:J (dO l 0 0).length wr:=by rw[←ek];exact hJs
   clear ek hJs hat
   gi_wp2
   rw[Exit.noGoto_normal]
   go_end0
   exact ⟨⟨_,rfl⟩,JK⟩
end
section
theorem NG (H:List Bool) (q:Nat) (hq:H.length=q) (l:List (List UInt8)) (x:List UInt8) (hv:ol (l++ [x])):
 iG (pack (H++(lb (l.map List.length)++ []))++(l.flatten++x)) (decide (0<l.length)) q= .inr (l++ [x]):=by
 subst hq;obtain ⟨hl63,hsh'⟩:=JX hv;have hx:1≤x.length:=hv.pos x (by simp);have hsh:∀n∈l.map List.length,1≤n∧n≤2047:=by
  intro n hn;rw[List.mem_map] at hn;obtain ⟨p,hp,rfl⟩:=hn;exact hsh' p hp
 have hsum:aj l+x.length≤32767:=by have:=hv.sum;simpa[aj] using this
 have rl:=vN [] (l.flatten++x) (l.map List.length) H 64 [] hsh (by simp;omega) (by simpa using hl63);have WE:=qG (H++(lb (l.map List.length)++ [])) (l.flatten++x);have hlen:(H++(lb (l.map List.length)++ [])).length=H.length+12*l.length:=by simp[D5]
 rw[hlen] at WE;have hdrop:(pack (H++(lb (l.map List.length)++ []))++(l.flatten++x)).drop ((H.length+12*l.length+kS (H.length+12*l.length))/8)=l.flatten++x:=by
  rw[List.drop_left' (by rw[iy,hlen];unfold aV kS;omega)]
 generalize pack (H++(lb (l.map List.length)++ []))++(l.flatten++x)=b at*;have hlr:pZ b (decide (0<l.length)) H.length= .inr (l.map List.length,H.length+12*l.length+kS (H.length+12*l.length)):=by
  unfold pZ;rw[List.length_map] at rl;rw[rl];simp only[jB,List.nil_append];rw[WE,tF,if_pos rfl]
 unfold iG;rw[hlr];simp only;rw[hdrop];unfold jY;have h1:(l.flatten++x).length=aj l+x.length:=by rw[List.length_append,iR]
 have h2:(l.map List.length).sum=aj l:=rfl;rw[h1,h2,if_neg (by omega),if_neg (by omega),vO]
theorem UB (sn:Nat) (po sg la:Bool) (off:Nat) (s e:Bool) (n:Nat):j6 sn po sg la off s e n=
 bitsOf 1 1++(bitsOf sg.toNat 1++(bitsOf po.toNat 1++(bitsOf (!s).toNat 1++(bitsOf (!e).toNat 1++(bitsOf (decide (1<n)).toNat 1++(bitsOf sn 10++(if sg then bitsOf la.toNat 1++bitsOf off 15 else []))))))):=by
 cases sg<;>simp[j6,aH,iM,j5,l9]
theorem NH (a b c d e f sn:Nat) (T:List Bool) (D:List UInt8) (bs:List UInt8) (hbs:bs=pack (bitsOf a 1++(bitsOf b 1++(bitsOf c 1++(bitsOf d 1++(bitsOf e 1++(bitsOf f 1++(bitsOf sn 10++T)))))))++D):
 ax bs 0 1=bitsOf a 1∧ax bs 1 1=bitsOf b 1∧ax bs 2 1=bitsOf c 1∧ax bs 3 1=bitsOf d 1∧ax bs 4 1=bitsOf e 1∧ax bs 5 1=bitsOf f 1∧ax bs 6 10=bitsOf sn 10:=by
 subst hbs;refine ⟨?_,?_,?_,?_,?_,?_,?_⟩
 ·exact fZ [] (bitsOf a 1) _ D 0 1 (by simp) (by simp)
 ·exact fZ (bitsOf a 1) (bitsOf b 1) _ D 1 1 (by simp) (by simp)
 ·have:=fZ (bitsOf a 1++bitsOf b 1) (bitsOf c 1) (bitsOf d 1++(bitsOf e 1++(bitsOf f 1++(bitsOf sn 10++T)))) D 2 1 (by simp) (by simp);simpa only[List.append_assoc] using this
 ·have:=fZ (bitsOf a 1++bitsOf b 1++bitsOf c 1) (bitsOf d 1) (bitsOf e 1++(bitsOf f 1++(bitsOf sn 10++T))) D 3 1 (by simp) (by simp);simpa only[List.append_assoc] using this
 ·have:=fZ (bitsOf a 1++bitsOf b 1++bitsOf c 1++bitsOf d 1) (bitsOf e 1) (bitsOf f 1++(bitsOf sn 10++T)) D 4 1 (by simp) (by simp);simpa only[List.append_assoc] using this
 ·have:=fZ (bitsOf a 1++bitsOf b 1++bitsOf c 1++bitsOf d 1++bitsOf e 1) (bitsOf f 1) (bitsOf sn 10++T) D 5 1 (by simp) (by simp);simpa only[List.append_assoc] using this
 ·have:=fZ (bitsOf a 1++bitsOf b 1++bitsOf c 1++bitsOf d 1++bitsOf e 1++bitsOf f 1) (bitsOf sn 10) T D 6 10 (by simp) (by simp);simpa only[List.append_assoc] using this
theorem KZ (H:List Bool) (hH:H.length=16) (la off:Nat) (T:List Bool) (D:List UInt8) (bs:List UInt8) (hbs:bs=pack (H++(bitsOf la 1++(bitsOf off 15++T)))++D):
 ax bs 16 1=bitsOf la 1∧ax bs 17 15=bitsOf off 15:=by
 subst hbs;refine ⟨fZ H (bitsOf la 1) _ D 16 1 hH (by simp),?_⟩;have:=fZ (H++bitsOf la 1) (bitsOf off 15) T D 17 15 (by simp[hH]) (by simp);simpa only[List.append_assoc] using this
theorem toNat_one (b:Bool):decide (b.toNat=1)=b:=by cases b<;>rfl
theorem toNat_not (b:Bool):decide ((!b).toNat=0)=b:=by cases b<;>rfl
theorem yT (sn:Nat) (po sg la:Bool) (off:Nat) (s e:Bool) (ps:List (List UInt8)):(oD sn po sg la off s e ps).length=aV ((if sg then 32 else 16)+12*(ps.length-1))+aj ps:=by
 unfold oD;rw[List.length_append,iy,List.length_append,oC,mJ,iR]
theorem I9 (sn:Nat) (po sg la:Bool) (off:Nat) (s e:Bool) (ps:List (List UInt8)) (hv:gW sn sg la off ps=true):
 qP (oD sn po sg la off s e ps)= .inr ⟨sn,po,sg,la,off,s,e,ps⟩:=by
 have hva:=(mP _ _ _ _ _).1 hv;have hvp:=(kT ps).1 hva.vp;have hsn:sn<1024:=by have:=hva.sn1;omega
 have hlen:=yT sn po sg la off s e ps;obtain ⟨l,x,rfl⟩:=JW hvp.lo;have he:oD sn po sg la off s e (l++ [x])=pack (j6 sn po sg la off s e (l.length+1)++(lb (l.map List.length)++ []))++(l.flatten++x):=by
  unfold oD;rw[JV];simp
 have hch:=NG (j6 sn po sg la off s e (l.length+1)) (if sg then 32 else 16) (oC _ _ _ _ _ _ _ _) l x hvp;rw[←he] at hch;rw[UB] at he;generalize oD sn po sg la off s e (l++ [x])=bs at*;obtain ⟨f0,f1,f2,f3,f4,f5,f6⟩:=NH 1 sg.toNat po.toNat (!s).toNat (!e).toNat (decide (1<l.length+1)).toNat sn ((if sg then bitsOf la.toNat 1++bitsOf off 15 else [])++(lb (l.map List.length)++ [])) (l.flatten++x) bs (by rw[he];simp only[List.append_assoc]);have hmore:decide ((decide (1<l.length+1)).toNat=1)=decide (0<l.length):=by rw[toNat_one];simp
 have hn2:2≤bs.length:=by rw[hlen];unfold aV;split<;>omega
 unfold qP;rw[if_neg (by omega),f0,f1,f2,f3,f4,f5,f6,sD,sD,sD,sD,sD,fV 1 1 (by omega),fV 10 sn (by omega),if_neg (by simp),hmore];cases sg with
 |true=>
  obtain ⟨g0,g1⟩:=KZ (bitsOf 1 1++(bitsOf true.toNat 1++(bitsOf po.toNat 1++(bitsOf (!s).toNat 1++(bitsOf (!e).toNat 1++(bitsOf (decide (1<l.length+1)).toNat 1++bitsOf sn 10)))))) (by simp) la.toNat off (lb (l.map List.length)++ []) (l.flatten++x) bs (by rw[he];simp only[List.append_assoc,if_true]);have hoff:off<32768:=by have:=hva.seg rfl;omega
  have Ow:4≤bs.length:=by rw[hlen];unfold aV;simp;omega
  simp only[if_true] at hch;rw[if_pos (by rfl),if_neg (by omega),hch,g0,g1,sD,fV 15 off (by omega)];simp only[toNat_one,toNat_not];rw[if_pos hv]
 |false=>
  obtain ⟨rfl,h0⟩:=hva.whole rfl;obtain rfl:off=0:=by omega
  simp only[Bool.false_eq_true,if_false] at hch;rw[if_neg (by simp),hch];simp only[toNat_one,toNat_not];rw[if_pos hv]
theorem K5 {bs:List UInt8} {m:Bool} {q er:Nat} (h:pZ bs m q= .inl er):er≠0:=by
 unfold pZ jB at h;split at h
 ·rename_i er' hr;cases h;exact vP bs _ _ _ _ _ hr
 ·split at h
  ·cases h
  ·cases h;omega
theorem wR {bs:List UInt8} {m:Bool} {q er:Nat} (h:iG bs m q= .inl er):er≠0:=by
 unfold iG at h;split at h
 ·rename_i er' hl;cases h;exact K5 hl
 ·unfold jY at h;split at h
  ·cases h;omega
  ·split at h
   ·cases h;omega
   ·cases h
theorem QT (bs:List UInt8) (er:Nat) (h:qP bs= .inl er):er≠0:=by
 unfold qP at h;split at h
 ·cases h;omega
 split at h
 ·cases h;omega
 split at h
 ·split at h
  ·cases h;omega
  ·split at h
   ·rename_i hc;cases h;exact wR hc
   ·split at h
    ·cases h
    ·cases h;omega
 ·split at h
  ·rename_i hc;cases h;exact wR hc
  ·split at h
   ·cases h
   ·cases h;omega
end
section
open Go.RowKit Go.Shelf
theorem K6 (bo be:Nat) (w:World):
 CallsD Tryz.prog 94 #[.pointer (some ⟨bo,0,none⟩),.pointer (some ⟨be,0,none⟩)] .returning w fun e u' w'=>e= .returned (.tuple #[])∧u'= .returning∧w=w':=by
 have hnn:=run_eql_nil_nil (P:=Tryz.prog) w (t:=20) (by kernel_rfl);refine callsD_of_wpS Tryz.func94 rfl fun c₀ cs hu=> ?_
 apply wpS_seq;apply wpS_region;generalize hQ:Exit.thenS _ _=Q;simp[wpOpsS,go_sem,recoverD,hu,Tryz.ntmps94];subst hQ;simp only[Exit.thenS];refine wpS_of_wp ?_;change Code.wp _ _ (jA Tryz.prog Tryz.f94 c₀ cs (c₀::cs) _) {tmps:= #[.pointer (some ⟨bo,0,none⟩),.pointer (some ⟨be,0,none⟩),.nilIface,undef,undef,.nilIface,undef,undef,undef,undef,undef,undef,undef,undef,undef,undef,undef],defers:= []} w;go_wp2;cases c₀
 simp_all [jA,bodyPostS,results,Tryz.results94]
set_option maxHeartbeats 800000 in
set_option maxRecDepth 100000 in
theorem Gg (bo be:Nat) (er:Int) (v0 v1:Value) (w:World) (hp:au w bo 37 #[v0]) (he:au w be 53 #[v1]) (hne:be≠bo):
 CallsD Tryz.prog 94 #[.pointer (some ⟨bo,0,none⟩),.pointer (some ⟨be,0,none⟩)] (.panicking [{v:= .iface 53 (.int .i64 er),recovered:=false}]) w fun e u' w'=>e= .returned (.tuple #[])∧u'= .panicking [{v:= .iface 53 (.int .i64 er),recovered:=true}]∧
  au w' bo 37 #[.slice none 0 0]∧au w' be 53 #[.int .i64 er]∧Kept (fun k _=>k=bo∨k=be) w w':=by
 have hnn:=run_eql_held_nil (P:=Tryz.prog) w 20 53 (.int .i64 er) (by kernel_rfl);have hta:=lZ er w;refine callsD_of_wpS Tryz.func94 rfl fun c₀ cs hu=> ?_
 apply wpS_seq;apply wpS_region;generalize hQ:Exit.thenS _ _=Q;simp[wpOpsS,go_sem,recoverD,hu,Tryz.ntmps94];subst hQ;simp only[Exit.thenS];refine wpS_of_wp ?_;change Code.wp _ _ (jA Tryz.prog Tryz.f94 c₀ cs _ _) {tmps:= #[.pointer (some ⟨bo,0,none⟩),.pointer (some ⟨be,0,none⟩),.iface 53 (.int .i64 er),undef,undef,.iface 53 (.int .i64 er),undef,undef,undef,undef,undef,undef,undef,undef,undef,undef,undef],defers:= []} w;have c0:=hp.cell 0;have f0:=hp.frozen 0;have c1:=he.cell 0;have f1:=he.frozen 0;simp at c0 c1;go_wp2;refine ⟨rfl,_,rfl,.tuple #[],by simp[results,Tryz.results94],rfl,rfl,?_,?_,?_⟩
 ·have:=(hp.av 0 (.slice none 0 0)).far (p:=⟨be,0,none⟩) (fun e=>hne e.symm) (.int .i64 er);simpa using this
 ·have:=(he.far (p:=⟨bo,0,none⟩) hne (.slice none 0 0)).av 0 (.int .i64 er);simpa using this
 ·exact ((Kept.refl _ w).setCell (p:=⟨bo,0,none⟩) (fun _ _=> .inl rfl) _).setCell (p:=⟨be,0,none⟩) (fun _ _=> .inr rfl) _
theorem Ck {Q:Ending→World→Prop} (a b:Nat) (er:Int) (W:World) (T:Array Value) (v0 v1:Value) (h6:T[6]? =some (.pointer (some ⟨a,0,none⟩))) (h7:T[7]? =some (.pointer (some ⟨b,0,none⟩))) (hne:b≠a)
 (hp:au W a 37 #[v0]) (he:au W b 53 #[v1]) (hQ:∀W',Kept (fun k _=>k=a∨k=b) W W'→Q (.returned (.tuple #[.slice none 0 0,.int .i64 er])) W'):
 bodyPostD Tryz.prog Tryz.f57 Q (.panic [{v:= .iface 53 (.int .i64 er),recovered:=false}]) {tmps:=T,defers:= [{target:= .fn (.func 94) #[.pointer (some ⟨a,0,none⟩),.pointer (some ⟨b,0,none⟩)],args:= #[]}]} W:=by
 refine leaves_cons (f:=94) (args:= #[.pointer (some ⟨a,0,none⟩),.pointer (some ⟨b,0,none⟩)]) (by simp) (by simp[go_sem]) ?_;refine (Gg _ _ er _ _ W hp he hne).mono ?_;rintro e u' w'' ⟨rfl,rfl,hp',he',hk⟩;have c0:=hp'.cell 0;have c1:=he'.cell 0;simp at c0 c1;refine ⟨.tuple #[.slice none 0 0,.int .i64 er],?_,hQ _ hk⟩;simp[results,Tryz.results57,go_sem,h6,h7,c0,c1]
theorem pM {Q:Ending→World→Prop} (a b:Nat) (W:World) (T:Array Value) (v0 v1:Value) (h6:T[6]? =some (.pointer (some ⟨a,0,none⟩))) (h7:T[7]? =some (.pointer (some ⟨b,0,none⟩)))
 (hp:au W a 37 #[v0]) (he:au W b 53 #[v1]) (hQ:Q (.returned (.tuple #[v0,v1])) W):
 bodyPostD Tryz.prog Tryz.f57 Q .ret {tmps:=T,defers:= [{target:= .fn (.func 94) #[.pointer (some ⟨a,0,none⟩),.pointer (some ⟨b,0,none⟩)],args:= #[]}]} W:=by
 refine leaves_cons (f:=94) (args:= #[.pointer (some ⟨a,0,none⟩),.pointer (some ⟨b,0,none⟩)]) (by simp) (by simp[go_sem]) ?_;refine (K6 _ _ _).mono ?_;rintro e9 u9 w9 ⟨rfl,rfl,rfl⟩;have c0:=hp.cell 0;have c1:=he.cell 0;simp at c0 c1;refine ⟨.tuple #[v0,v1],?_,hQ⟩;simp[results,Tryz.results57,go_sem,h6,h7,c0,c1]
structure UC (x:jv):Prop where
 sn:x.sn≤1023
 len:x.ps.length≤64
 pos:1≤x.ps.length
 sum:x.off+aj x.ps≤32767
theorem EG {x:jv} (h:gW (x.sn:Nat) x.sg x.la (x.off:Nat) x.ps=true) (h0:x.sg=false→x.off=0):UC x:=by
 unfold gW oz at h;simp only[List.all_cons,List.all_nil,Bool.and_true,id,Bool.and_eq_true,decide_eq_true_eq] at h;obtain ⟨h1,h2,h3⟩:=h;unfold oh mI at h2;simp only[List.all_cons,List.all_nil,Bool.and_true,id,Bool.and_eq_true,decide_eq_true_eq] at h2;obtain ⟨⟨h4,h5⟩,_,_,h6⟩:=h2;refine ⟨by omega,h5,h4,?_⟩;cases hs:x.sg with
 |false=>rw[h0 hs];omega
 |true=>
  rw[hs] at h3;simp only[if_true,decide_eq_true_eq] at h3;omega
theorem Mf {bs:List UInt8} {x:jv} (h:qP bs= .inr x):UC x:=by
 unfold qP at h;split at h
 ·cases h
 ·split at h
  ·cases h
  ·split at h
   ·split at h
    ·cases h
    ·split at h
     ·cases h
     ·split at h
      ·rename_i hv;cases h;exact EG hv (fun e=>by cases e)
      ·cases h
   ·split at h
    ·cases h
    ·split at h
     ·rename_i hv;cases h;exact EG hv (fun _=>rfl)
     ·cases h
theorem NI (p:Sp) (x:jv) (hl:p.da.length=p.fl.length):(ed p x).da.length=(ed p x).fl.length∧(ed p x).fl.length=max p.fl.length (jV x):=by
 unfold ed;dsimp only;have h:=nT (dN x.s x.e x.ps.length 0 x.ps) x.off (iP (jV x) p.fl,oF (jV x) p.da);rw[h.1,h.2];dsimp only;unfold iP oF;simp only[List.length_append,List.length_replicate];omega
theorem zo.take {p:Sp} (h:zo p) {x:jv} (hx:UC x):zo (ed p x):=by
 have hl:=NI p x h.ll;have he:jV x≤32767:=hx.sum;have h1:=h.le;refine ⟨hl.1,by omega,fun k hk=> ?_⟩;have hk2:(if xK x=true then some (jV x) else p.size)=some k:=hk;split at hk2
 ·cases hk2;exact he
 ·exact h.sz k hk2
theorem ac1:zo Bc:=⟨rfl,by simp[Bc],fun k hk=>by simp[Bc] at hk⟩
theorem eF.get {st:Rc} (ho:eF st) (k:Nat):zo (gF st k):=by
 unfold gF;cases hm:st.m k with
 |none=>exact ac1
 |some p=>exact (ho.m k p hm).2.2
theorem eF.UD {st:Rc} (ho:eF st) {x:jv} (hx:UC x) (hp:bO st x.sn<512):eF (lK st x (gF st x.sn)):=by
 have h1:=hx.sn;have hg:=(ho.get x.sn).take hx;refine ⟨ho.n1,wh _ _ _ ho.n2,?_,ho.n4,fun k q hk=> ?_,ho.op,ho.t1,ho.t2⟩
 ·unfold lK;dsimp only;split
  ·unfold d9;omega
  ·exact ho.n3
 ·have hk2:(if k=x.sn then some (ed (gF st x.sn) x) else st.m k)=some q:=hk;split at hk2
  ·rename_i e;cases hk2;subst e;exact ⟨h1,hp,hg⟩
  ·exact ho.m k q hk2
theorem eF.wS:∀(f:Nat) {st:Rc},eF st→eF (cK f st).1
 |0,_,ho=>ho
 |f+1,st,ho=>by
  unfold cK;cases hm:st.m st.next with
  |none=>exact ho
  |some p=>
   dsimp only;split
   ·exact eF.wS f (ho.one hm)
   ·exact ho
theorem eF.ahB {st:Rc} (ho:eF st) (c:Cf):eF (Be c st):=by
 unfold Be;dsimp only;have h1:eF {st with ro:=false}:=⟨ho.n1,ho.n2,ho.n3,ho.n4,ho.m,ho.op,ho.t1,ho.t2⟩;generalize hs:(if bO st st.iO=0∨512<bO st st.iO then {st with ro:=false} else st)=s1;have h2:eF s1:=by
  rw[←hs];split
  ·exact h1
  ·exact ho
 split
 ·exact h2.waits c
 ·exact h2
theorem eF.due {st:Rc} (ho:eF st) (b:Bool):eF {st with due:=b}:=⟨ho.n1,ho.n2,ho.n3,ho.n4,ho.m,ho.op,ho.t1,ho.t2⟩
theorem eF.recv {st:Rc} (ho:eF st) (c:Cf) {now:Int} (hn:now≤9223372036854775807) (bs:List UInt8):eF (fK c st now bs).1:=by
 have hg:=ho.goes c hn;unfold fK;cases hd:qP bs with
 |inl er=>exact hg
 |inr x=>
  have hx:=Mf hd;unfold vT;dsimp only;split
  ·exact hg.due _
  ·rename_i hp;split
   ·exact hg
   ·exact ((hg.UD hx (by omega)).wS 1024).ahB c
section
variable {w w' W W' W2:World} {T T':Nat→Nat} {g M n:Nat} {c:Cf} {st:Rc} {vo v:Value}
theorem iC.stored {sp':Sp} {vf vd lW lS:Value} {b sn n2:Nat} {F:Nat→Option Value} (h:iC W T g M n c st vo) (hbl:b<W.heap.size)
 (hb:T b=0∨T b=3*sn+4) (hf:∀k,vf.ownBlock=some k→T k=3*sn+5) (hd:∀k,vd.ownBlock=some k→T k=3*sn+6)
 (hS:qw W' b sp' lW lS) (hf':∀k,lW.ownBlock=some k→vf.ownBlock=some k∨W.heap.size≤k) (hd':∀k,lS.ownBlock=some k→vd.ownBlock=some k∨W.heap.size≤k)
 (hk:Kept (Vw b vf vd) W W') (hFm:∀k,(st.m k=none→F k=none)∧∀p,st.m k=some p→∃b vf vd,F k=some (.pointer (some ⟨b,0,none⟩))∧qw W b p vf vd∧T b=3*k+4∧(∀j,vf.ownBlock=some j→T j=3*k+5)∧(∀j,vd.ownBlock=some j→T j=3*k+6))
 (hF2:jk Tryz.prog 3 W2 M n2 (Fx F sn (some (.pointer (some ⟨b,0,none⟩))))) (hg:W'.grownBy W2 (some M)):
 ∃T',iC W2 T' g M n2 c {st with m:=fJ st.m sn (some sp')} vo∧(∀k,k<W.heap.size→k≠b→T' k=T k)∧(T b≠0→T' b=T b):=by
 have hz:=hk.size;have hz2:=hg.size;have ZV:=h.tM;have hrow:=sH hS.fr hS.dr (by decide);have hzero:∀k,W.heap.size≤k→T k=0:=fun k hk=>by
  rcases Nat.eq_zero_or_pos (T k) with e|e
  ·exact e
  ·have:=h.lt k (by omega);omega
 have key:∀j,T j≠0→(T j<3*sn+4∨3*sn+6<T j)→T j≠2→W2.heap[j]? =W.heap[j]? :=fun j h0 h1 h2=>by
  have hl:=h.lt j h0;have e1:W2.heap[j]? =W'.heap[j]? :=hg.block j (by omega) (fun e=>by cases e;exact h2 ZV);have e2:W.heap[j]? =some W.heap[j]:=Array.getElem?_eq_getElem hl;rw[e1,e2];refine hk.same j _ e2 fun hm=> ?_
  rcases hm with rfl|e|e
  ·omega
  ·have:=hf j e;omega
  ·have:=hd j e;omega
 have YG:∀j,j<W'.heap.size→j≠M→W2.heap[j]? =W'.heap[j]? :=fun j hl hM=>hg.block j hl (fun e=>by cases e;exact hM rfl)
 have hbT:∀j,j=b∨lW.ownBlock=some j∨lS.ownBlock=some j→j≠M:=fun j hj e=>by
  subst e;rcases hj with rfl|e|e
  ·omega
  ·rcases hf' _ e with e|e
   ·have:=hf _ e;omega
   ·have:=hzero _ e;omega
  ·rcases hd' _ e with e|e
   ·have:=hd _ e;omega
   ·have:=hzero _ e;omega
 refine ⟨fun k=>if T k≠0 then T k else if k=b then 3*sn+4 else if W.heap.size≤k∧lW.ownBlock=some k then 3*sn+5 else if W.heap.size≤k∧lS.ownBlock=some k then 3*sn+6 else 0,?_,?_,?_⟩
 ·have hT:∀k,T k≠0→(if T k≠0 then T k else if k=b then 3*sn+4 else if W.heap.size≤k∧lW.ownBlock=some k then 3*sn+5 else if W.heap.size≤k∧lS.ownBlock=some k then 3*sn+6 else 0)=T k:=fun k hh=>if_pos hh
  refine ⟨?_,(hT g (by rw[h.tg];omega)).trans h.tg,(hT M (by omega)).trans ZV,fun k hh=> ?_,?_,fun k e=> ?_,Fx F sn (some (.pointer (some ⟨b,0,none⟩))),hF2,fun k=>⟨fun hm=> ?_,fun q hq=> ?_⟩⟩
  ·exact (key g (by rw[h.tg];omega) (by rw[h.tg];omega) (by rw[h.tg];omega)).trans h.blk
  ·by_cases h0:T k≠0
   ·have:=h.lt k h0;omega
   ·rw[if_neg h0] at hh;by_cases hkb:k=b
    ·omega
    ·rw[if_neg hkb] at hh;by_cases h1:W.heap.size≤k∧lW.ownBlock=some k
     ·have:=(hS.fr.lt k h1.2).2;omega
     ·rw[if_neg h1] at hh;by_cases h2:W.heap.size≤k∧lS.ownBlock=some k
      ·have:=(hS.dr.lt k h2.2).2;omega
      ·rw[if_neg h2] at hh;exact absurd rfl hh
  ·exact bT h.uz fun k e=>by
    have h3:=h.od k e;exact key k (by omega) (by omega) (by omega)
  ·have h3:=h.od k e;exact (hT k (by omega)).trans h3
  ·have hm2:(if k=sn then some sp' else st.m k)=none:=hm;split at hm2
   ·cases hm2
   ·rename_i hne;show (if k=sn then _ else F k)=none
    rw[if_neg hne];exact (hFm k).1 hm2
  ·have hq2:(if k=sn then some sp' else st.m k)=some q:=hq;split at hq2
   ·rename_i he;cases hq2;subst he;refine ⟨b,lW,lS,if_pos rfl,hS.stay (YG b (by omega) (hbT b (.inl rfl))) (fun j hj=>YG j (hS.fr.lt j hj).2 (hbT j (.inr (.inl hj)))) (fun j hj=>YG j (hS.dr.lt j hj).2 (hbT j (.inr (.inr hj)))),?_,fun j hj=> ?_,fun j hj=> ?_⟩
    ·rcases hb with e|e
     ·rw[if_neg (by omega),if_pos rfl]
     ·exact (hT b (by omega)).trans e
    ·rcases hf' j hj with e|e
     ·have h5:=hf j e;exact (hT j (by omega)).trans h5
     ·rw[if_neg (by have:=hzero j e;omega),if_neg (by omega),if_pos ⟨e,hj⟩]
    ·rcases hd' j hj with e|e
     ·have h5:=hd j e;exact (hT j (by omega)).trans h5
     ·rw[if_neg (by have:=hzero j e;omega),if_neg (by omega),if_neg,if_pos ⟨e,hj⟩];rintro ⟨_,e2⟩;rcases hrow with e3|e3
      ·rw[e3] at e2;cases e2
      ·exact e3 (e2.trans hj.symm)
   ·rename_i hne;obtain ⟨b2,vf2,vd2,e1,hs2,t1,t2,t3⟩:=(hFm k).2 q hq2;refine ⟨b2,vf2,vd2,(if_neg hne).trans e1,hs2.stay (key b2 (by omega) (by omega) (by omega)) (fun j hj=> ?_) (fun j hj=> ?_),(hT b2 (by omega)).trans t1,fun j hj=> ?_,fun j hj=> ?_⟩
    ·have:=t2 j hj;exact key j (by omega) (by omega) (by omega)
    ·have:=t3 j hj;exact key j (by omega) (by omega) (by omega)
    ·have:=t2 j hj;exact (hT j (by omega)).trans this
    ·have:=t3 j hj;exact (hT j (by omega)).trans this
 ·intro k hl hkb;by_cases h0:T k≠0
  ·exact if_pos h0
  ·show (if T k≠0 then T k else _)=T k
   rw[if_neg h0,if_neg hkb,if_neg (by omega),if_neg (by omega)];omega
 ·intro h0;exact if_pos h0
end
end
end Go.Proofs.YtbhiklnljiehiaaGreat
