/- status: the parts of Decode. -/
import Derived.Test.YtbhiklnljiehiaaGreatM2bb
namespace Go.Proofs.YtbhiklnljiehiaaGreat
section
open Go.RowKit Go.Shelf
attribute [local go_sem] Oper.semAt_some
theorem lG (er:Int) (w:World):Calls Tryz.prog 137 #[.bool true,.int .i64 er] w fun e w'=>e= .returned (.tuple #[])∧w=w':=by
 go_enter Tryz.func137,Tryz.ntmps137;go_wp2
 go_end0
 exact ⟨rfl,rfl⟩
theorem jo (er:Int) (w:World):Calls Tryz.prog 137 #[.bool false,.int .i64 er] w fun e w'=>e=raise er∧w=w':=by
 unfold raise;go_enter Tryz.func137,Tryz.ntmps137;go_wp2;exact ⟨rfl,rfl,rfl⟩
theorem uh (A:Option Addr) (n c:Nat) (w:World):Calls Tryz.prog 135 #[.slice A n c,.int .i64 0] w fun e w'=>e= .returned (.slice A n c)∧w=w':=by
 go_enter Tryz.func135,Tryz.ntmps135;go_wp2_with (go_at_call 137;refine (lG _ _).mono ?_;rintro e w' ⟨rfl,rfl⟩);go_ret;exact ⟨rfl,rfl⟩
theorem vL (A:Option Addr) (n c:Nat) (er:Int) (AL:(er==0)=false) (w:World):Calls Tryz.prog 135 #[.slice A n c,.int .i64 er] w fun e w'=>e=raise er∧w=w':=by
 go_enter Tryz.func135,Tryz.ntmps135;go_wp2_with (go_at_call 137;refine (jo _ _).mono ?_;rintro e w' ⟨rfl,rfl⟩);exact ⟨rfl,rfl,rfl⟩
set_option maxHeartbeats 1000000 in
theorem OD (r:Nat) (v:Value) (bs:List UInt8) (pos:Nat) (w:World) (h:jO w r v bs pos) (hp:pos≤8*bs.length) (hsm:bs.length≤1000000000):
 Calls Tryz.prog 141 #[.pointer (some ⟨r,0,none⟩)] w fun e w'=>e= .returned (.int .i64 (if DV bs pos=true then 0 else 9))∧Below w.heap.size w w':=by
 obtain ⟨A,cc,rfl,_⟩:=bq h.2;have c0:=h.1.cell 0;have c1:=h.1.cell 1;simp at c0 c1;have hr1:jO (w.alloc (.cells #[.slice A bs.length cc,.int .i64 (pos:Nat)] 262)) w.heap.size (.slice A bs.length cc) bs pos:=⟨au.new w _ _,h.2.alloc _⟩;have HL:=ah (yK w.heap.size _ bs pos _ hr1 hp hsm);have HA:=ah (fun q=>yL w.heap.size _ bs pos ((w.alloc (.cells #[.slice A bs.length cc,.int .i64 (pos:Nat)] 262)).drewN q) (hr1.drewN q) hsm hp);have HB:=ah (show Below w.heap.size w (w.alloc (.cells #[.slice A bs.length cc,.int .i64 (pos:Nat)] 262)) from (Below.refl _ w).alloc (aN) _);clear h hr1 hp;by_cases h8:8*bs.length-pos<8
 ·have d8:decide ((8:Int)≤((8*bs.length-pos:Nat):Int))=false:=decide_eq_false (by omega);by_cases hv:val (aF bs pos (mY pos))=0
  ·have he:DV bs pos=true:=by unfold DV;rw[decide_eq_true h8,decide_eq_true hv];rfl
   rw[if_pos he];rw[if_pos hv,if_pos hv] at HA;go_enter Tryz.func141,Tryz.ntmps141;go_wp2_with (first
    |(go_at_call 182;refine HL.out.mono ?_;rintro e1 w1 ⟨rfl,q,rfl⟩)
    |(go_at_call 183;refine (HA.out q).mono ?_;rintro e2 w2 ⟨rfl,hr2,hk2⟩))
   go_ret;exact ⟨rfl,(HB.out.drewN q).trans (hk2.below (fun k _ e=>by omega) (HB.out.drewN q).size)⟩
  ·have he:¬DV bs pos=true:=by unfold DV;rw[decide_eq_false hv];simp
   rw[if_neg he];rw[if_neg hv,if_neg hv] at HA;go_enter Tryz.func141,Tryz.ntmps141;go_wp2_with (first
    |(go_at_call 182;refine HL.out.mono ?_;rintro e1 w1 ⟨rfl,q,rfl⟩)
    |(go_at_call 183;refine (HA.out q).mono ?_;rintro e2 w2 ⟨rfl,hr2,hk2⟩))
   go_ret;exact ⟨rfl,(HB.out.drewN q).trans (hk2.below (fun k _ e=>by omega) (HB.out.drewN q).size)⟩
 ·have d8:decide ((8:Int)≤((8*bs.length-pos:Nat):Int))=true:=decide_eq_true (by omega);have he:¬DV bs pos=true:=by unfold DV;rw[decide_eq_false h8];simp
  rw[if_neg he];go_enter Tryz.func141,Tryz.ntmps141;go_wp2_with (go_at_call 182;refine HL.out.mono ?_;rintro e1 w1 ⟨rfl,q,rfl⟩);go_ret;exact ⟨rfl,HB.out.drewN q⟩
theorem au.R5 {w:World} {g:Nat} {t:TypeId} {x0 x1 x2 x3:Value} (b:au w g t #[x0,x1,x2,x3]) (u0 u1 u2 u3:Value):
 au ((((w.setCell ⟨g,0,none⟩ u0).setCell ⟨g,1,none⟩ u1).setCell ⟨g,2,none⟩ u2).setCell ⟨g,3,none⟩ u3) g t #[u0,u1,u2,u3]:=by
 have:=(((b.av 0 u0).av 1 u1).av 2 u2).av 3 u3;simpa using this
theorem iK {w:World} {g k:Nat} (hk:k≠g) (u0 u1 u2 u3:Value):((((w.setCell ⟨g,0,none⟩ u0).setCell ⟨g,1,none⟩ u1).setCell ⟨g,2,none⟩ u2).setCell ⟨g,3,none⟩ u3).heap[k]? =w.heap[k]? :=
 (Below.heap_setCell _ _ _ _ hk).trans ((Below.heap_setCell _ _ _ _ hk).trans ((Below.heap_setCell _ _ _ _ hk).trans (Below.heap_setCell _ _ _ _ hk)))
theorem Ct {w:World} {g:Nat} (u0 u1 u2 u3:Value):((((w.setCell ⟨g,0,none⟩ u0).setCell ⟨g,1,none⟩ u1).setCell ⟨g,2,none⟩ u2).setCell ⟨g,3,none⟩ u3).heap.size=w.heap.size:=by simp[World.setCell]
theorem qf {w:World} {base n g:Nat} {e t:TypeId} {v:Value} {xs:List Value} {x0 x1 x2 x3:Value} (h:w.ownsRow base e 1 v n xs) (b:au w g t #[x0,x1,x2,x3]) (he:e≠t) (u0 u1 u2 u3:Value):
 ((((w.setCell ⟨g,0,none⟩ u0).setCell ⟨g,1,none⟩ u1).setCell ⟨g,2,none⟩ u2).setCell ⟨g,3,none⟩ u3).ownsRow base e 1 v n xs:=
 aI (aI (aI (aI h b he u0) (b.av 0 u0) he u1) ((b.av 0 u0).av 1 u1) he u2) (((b.av 0 u0).av 1 u1).av 2 u2) he u3
theorem vM {w W:World} {M:Nat→Obj→Prop} (h:Kept M w W) {g:Nat} (hg:∀o,w.heap[g]? =some o→M g o) (u0 u1 u2 u3:Value):
 Kept M w ((((W.setCell ⟨g,0,none⟩ u0).setCell ⟨g,1,none⟩ u1).setCell ⟨g,2,none⟩ u2).setCell ⟨g,3,none⟩ u3):=
 (((h.setCell (p:=⟨g,0,none⟩) hg u0).setCell (p:=⟨g,1,none⟩) hg u1).setCell (p:=⟨g,2,none⟩) hg u2).setCell (p:=⟨g,3,none⟩) hg u3
def ael (w:World) (r:Nat) (v:Value) (bs:List UInt8) (R:Option (Nk × Bool × Nat)) (e:Ending) (w':World):Prop:=
 Kept (fun k _=>k=r∨w.heap.size≤k) w w'∧((R=none∧e=raise 5)∨∃x more p,R=some (x,more,p)∧e= .returned (.tuple #[.agg (j6 x),.bool more])∧jO w' r v bs p)
set_option maxRecDepth 100000 in
set_option maxHeartbeats 2000000 in
theorem I7 (r:Nat) (v:Value) (bs:List UInt8) (pos:Nat) (w:World) (h:jO w r v bs pos) (hp:pos≤8*bs.length) (hsm:bs.length≤1000000000):
 Calls Tryz.prog 138 #[.agg #[.pointer (some ⟨r,0,none⟩)]] w (ael w r v bs (I6 bs pos)):=by
 obtain ⟨R,hR⟩:∃R,I6 bs pos=R:=⟨_,rfl⟩
 rw[hR];have HR:=ah hR;clear hR;obtain ⟨w2,hw2⟩:∃w2,((w.alloc (.cells #[.pointer (some ⟨r,0,none⟩)] 219)).alloc (.cells #[.int .i64 0,.bool false,.int .i64 0,.int .i64 0] 197)).alloc (.cells #[.int .i64 10,.int .i64 1,.int .i64 1] 3)=w2:=⟨_,rfl⟩
 have hk2:Kept (fun k _=>k=r∨w.heap.size≤k) w w2:=by rw[←hw2];exact (((Kept.refl _ w).alloc _).alloc _).alloc _
 have si:jO w2 r v bs pos:=by rw[←hw2];exact ⟨((h.1.alloc _).alloc _).alloc _,((h.2.alloc _).alloc _).alloc _⟩
 have bd2:au w2 w.heap.size 219 #[.pointer (some ⟨r,0,none⟩)]:=by rw[←hw2];exact ((au.new w _ _).alloc _).alloc _
 have bn2:au w2 (w.heap.size+1) 197 #[.int .i64 0,.bool false,.int .i64 0,.int .i64 0]:=by
  rw[←hw2];have:=au.new (w.alloc (.cells #[.pointer (some ⟨r,0,none⟩)] 219)) 197 #[.int .i64 0,.bool false,.int .i64 0,.int .i64 0];rw[World.size_alloc] at this;exact this.alloc _
 have bi2:au w2 (w.heap.size+1+1) 3 (iR [10,1,1]).toArray:=by
  rw[←hw2];have:=au.new ((w.alloc (.cells #[.pointer (some ⟨r,0,none⟩)] 219)).alloc (.cells #[.int .i64 0,.bool false,.int .i64 0,.int .i64 0] 197)) 3 #[.int .i64 10,.int .i64 1,.int .i64 1];rw[World.size_alloc,World.size_alloc] at this;exact this
 have hz2:w2.heap.size=w.heap.size+3:=by rw[←hw2];simp
 have hrl:=h.1.lt;have wG:=ah hk2;have UF:=ah si;have NB:=ah bd2;have HBN:=ah bn2;have HBI:=ah bi2;have HZ2:=ah hz2;clear h hk2 si bd2 bn2 bi2 hz2;go_enter Tryz.func138,Tryz.ntmps138;go_wp2_with fail;by_cases hs:8*bs.length<pos+12
 ·have rE:R=none:=by rw[←HR.out];unfold I6;rw[if_pos hs]
  have wN:=ah rE;clear rE;have hga:=jB r (w.heap.size+1+1) v bs pos [10,1,1] w2 UF.out hsm (by simp) (by simp) HBI.out hp (by simp;omega);simp only[List.length_cons,List.length_nil,Nat.zero_add,Nat.reduceAdd] at hga;refine hga.mono ?_;rintro e3 w3 ⟨rfl,lU,hk3⟩;have hk4:=wG.out.trans (hk3.mono fun k _ e=>e.imp id fun e=>by have:=HZ2.out;omega);have xB:=ah hk4;clear hga hk3 hk4 lU;go_wp2_with (go_at_call 135;((with_reducible refine (vL _ _ _ _ rfl _).mono ?_);rintro e4 w4 ⟨rfl,rfl⟩));exact ⟨rfl,xB.out,.inl ⟨wN.out,rfl⟩⟩
 ·have hga:=ni r (w.heap.size+1+1) v bs pos [10,1,1] w2 UF.out hsm (by simp) (by simp) HBI.out (by simp;omega);simp only[List.length_cons,List.length_nil,Nat.zero_add,Nat.reduceAdd] at hga;refine hga.mono ?_;rintro e3 w3 ⟨vo,rfl,gN,lU,hk3⟩;have hgv:getAll bs pos [10,1,1]= [val (aF bs pos 10),val (aF bs (pos+10) 1),val (aF bs (pos+11) 1)]:=rfl;rw[hgv] at gN;rw[show pos+ [10,1,1].sum=pos+12 from rfl] at lU;simp only[List.length_cons,List.length_nil,Nat.zero_add,Nat.reduceAdd] at gN;have hx0:val (aF bs pos 10)<1024:=by have:=pO (aF bs pos 10);rw[fq] at this;exact this
  have oV:=HR.out;unfold I6 at oV;rw[if_neg hs] at oV;generalize val (aF bs pos 10)=x0 at*;generalize val (aF bs (pos+10) 1)=x1 at*;generalize val (aF bs (pos+11) 1)=x2 at*;have HR1:=ah oV;have hM:∀k,w.heap.size≤k→k<w.heap.size+3→¬(k=r∨w2.heap.size≤k):=fun k h1 h2 e=>by have:=HZ2.out;omega
  have bd3:=NB.out.kept hk3 (hM _ (by omega) (by omega));have NC:=HBN.out.kept hk3 (hM _ (by omega) (by omega));have hk4:=wG.out.trans (hk3.mono fun k _ e=>e.imp id fun e=>by have:=HZ2.out;omega);have hz3:w.heap.size+3≤w3.heap.size:=by have:=hk3.size;have:=HZ2.out;omega
  obtain ⟨gl,V9,rfl,hgl,kL⟩:=gN.form (by omega);have akf:w.heap.size+3≤gl:=by have:=HZ2.out;omega
  have l0:w3.drew.cell? ⟨gl,0,none⟩=some (.int .u64 x0):=by have:=gN.cellAt 0 (by omega);simpa[nU] using this
  have l2:w3.drew.cell? ⟨gl,2,none⟩=some (.int .u64 x2):=by have:=gN.cellAt 2 (by omega);simpa[nU] using this
  obtain ⟨n0,n1,n2,n3⟩:w3.drew.cell? ⟨w.heap.size+1,0,none⟩=_∧w3.drew.cell? ⟨w.heap.size+1,1,none⟩=_∧w3.drew.cell? ⟨w.heap.size+1,2,none⟩=_∧w3.drew.cell? ⟨w.heap.size+1,3,none⟩=_:=NC.iE;have f0:w3.drew.frozen? ⟨w.heap.size+1,0,none⟩=false:=NC.frozen 0;have f1:w3.drew.frozen? ⟨w.heap.size+1,1,none⟩=false:=NC.frozen 1;have f2:w3.drew.frozen? ⟨w.heap.size+1,2,none⟩=false:=NC.frozen 2;have f3:w3.drew.frozen? ⟨w.heap.size+1,3,none⟩=false:=NC.frozen 3;obtain ⟨m0,m1,m2,m3⟩:=NC.iE;have e0:=NC.frozen 0;have e1:=NC.frozen 1;have e2:=NC.frozen 2;have e3:=NC.frozen 3;have hpt:((x2:Int)==1)=decide (x2=1):=by rw[Bool.eq_iff_iff];simp;omega
  have hxw:IntKind.i64.wrap (x0:Int)=(x0:Int):=by rw[IntKind.wrap_i64];omega
  obtain ⟨pt,Wh⟩:∃pt,decide (x2=1)=pt:=⟨_,rfl⟩
  rw[Wh] at hpt;have QZ:=ah Wh;have OE:=ah gN;have Wi:=ah lU;have xB:=ah hk4;have ZA:=ah bd3;have R6:=ah NC;clear hgv hga oV hM bd3 NC hk3 hk4 gN lU Wh;go_upto_region 2 with (go_at_call 135;((with_reducible refine (uh _ _ _ _).mono ?_);rintro e4 w4 ⟨rfl,rfl⟩))
  go_region
  have xV:au ((((w3.setCell ⟨w.heap.size+1,0,none⟩ (.int .i64 x0)).setCell ⟨w.heap.size+1,1,none⟩ (.bool pt)).setCell ⟨w.heap.size+1,2,none⟩ (.int .i64 0)).setCell ⟨w.heap.size+1,3,none⟩ (.int .i64 0)).drew (w.heap.size+1) 197 #[.int .i64 x0,.bool pt,.int .i64 0,.int .i64 0]:=R6.out.R5 _ _ _ _;have Yz:au ((((w3.setCell ⟨w.heap.size+1,0,none⟩ (.int .i64 x0)).setCell ⟨w.heap.size+1,1,none⟩ (.bool pt)).setCell ⟨w.heap.size+1,2,none⟩ (.int .i64 0)).setCell ⟨w.heap.size+1,3,none⟩ (.int .i64 0)).drew w.heap.size 219 #[.pointer (some ⟨r,0,none⟩)]:=(iK (by omega) _ _ _ _).trans ZA.out;have sj:jO ((((w3.setCell ⟨w.heap.size+1,0,none⟩ (.int .i64 x0)).setCell ⟨w.heap.size+1,1,none⟩ (.bool pt)).setCell ⟨w.heap.size+1,2,none⟩ (.int .i64 0)).setCell ⟨w.heap.size+1,3,none⟩ (.int .i64 0)).drew r v bs (pos+12):=⟨(iK (by omega) _ _ _ _).trans Wi.out.1,(qf Wi.out.2 R6.out (by decide) _ _ _ _).drew'⟩;have nC:=(qf OE.out R6.out (by decide) (.int .i64 x0) (.bool pt) (.int .i64 0) (.int .i64 0)).drew';have hk5:=(vM xB.out (g:=w.heap.size+1) (fun _ _=> .inr (by omega)) (.int .i64 x0) (.bool pt) (.int .i64 0) (.int .i64 0)).drew
  have Iz:w.heap.size+3≤((((w3.setCell ⟨w.heap.size+1,0,none⟩ (.int .i64 x0)).setCell ⟨w.heap.size+1,1,none⟩ (.bool pt)).setCell ⟨w.heap.size+1,2,none⟩ (.int .i64 0)).setCell ⟨w.heap.size+1,3,none⟩ (.int .i64 0)).drew.heap.size:=Nat.le_trans hz3 (Nat.le_of_eq (Ct (w:=w3) (g:=w.heap.size+1) (.int .i64 x0) (.bool pt) (.int .i64 0) (.int .i64 0)).symm);generalize ((((w3.setCell ⟨w.heap.size+1,0,none⟩ (.int .i64 x0)).setCell ⟨w.heap.size+1,1,none⟩ (.bool pt)).setCell ⟨w.heap.size+1,2,none⟩ (.int .i64 0)).setCell ⟨w.heap.size+1,3,none⟩ (.int .i64 0)).drew=w5 at*;clear l0 l2 n0 n1 n2 n3 f0 f1 f2 f3 m0 m1 m2 m3 e0 e1 e2 e3 OE Wi xB ZA R6 hz3;have hb1:((x1:Int)==1)=decide (x1=1):=by rw[Bool.eq_iff_iff];simp;omega
  cases pt with
  |false=>
   have l1:w5.drew.cell? ⟨gl,1,none⟩=some (.int .u64 x1):=by have:=nC.cellAt 1 (by omega);simpa[nU] using this
   have ZB:w5.cell? ⟨gl,1,none⟩=some (.int .u64 x1):=l1;obtain ⟨n0,n1,n2,n3⟩:w5.drew.cell? ⟨w.heap.size+1,0,none⟩=_∧w5.drew.cell? ⟨w.heap.size+1,1,none⟩=_∧w5.drew.cell? ⟨w.heap.size+1,2,none⟩=_∧w5.drew.cell? ⟨w.heap.size+1,3,none⟩=_:=xV.iE;have f0:w5.drew.frozen? ⟨w.heap.size+1,0,none⟩=false:=xV.frozen 0;have f1:w5.drew.frozen? ⟨w.heap.size+1,1,none⟩=false:=xV.frozen 1;have f2:w5.drew.frozen? ⟨w.heap.size+1,2,none⟩=false:=xV.frozen 2;have f3:w5.drew.frozen? ⟨w.heap.size+1,3,none⟩=false:=xV.frozen 3;obtain ⟨m0,m1,m2,m3⟩:=xV.iE;have e0:=xV.frozen 0;have e1:=xV.frozen 1;have e2:=xV.frozen 2;have e3:=xV.frozen 3;have ZC:=ah xV;have ZD:=ah sj;have rD:=ah hk5;clear xV sj hk5 nC Yz;go_upto_region 6 with fail
   go_region
   all_goals
    have R7:=ZC.out.R5 (.int .i64 x0) (.bool false) (.int .i64 0) (.int .i64 0);have uj:jO ((((w5.setCell ⟨w.heap.size+1,0,none⟩ (.int .i64 x0)).setCell ⟨w.heap.size+1,1,none⟩ (.bool false)).setCell ⟨w.heap.size+1,2,none⟩ (.int .i64 0)).setCell ⟨w.heap.size+1,3,none⟩ (.int .i64 0)).drew r v bs (pos+12):=⟨(iK (by omega) _ _ _ _).trans ZD.out.1,(qf ZD.out.2 ZC.out (by decide) _ _ _ _).drew'⟩;have lg:=(vM rD.out (g:=w.heap.size+1) (fun _ _=> .inr (by omega)) (.int .i64 x0) (.bool false) (.int .i64 0) (.int .i64 0)).drew;obtain ⟨p0,p1,p2,p3⟩:=R7.iE;have hfin:=HR1.out;rw[if_neg (of_decide_eq_false QZ.out)] at hfin;have je:=ah hfin;go_wp2_with fail;refine bodyPost_ret (v:= .tuple #[.agg #[.int .i64 x0,.bool false,.int .i64 0,.int .i64 0],.bool (decide (x1=1))]) ?_ rfl ?_
    ·simp[results,Tryz.results138,go_sem,p0,p1,p2,p3]
    ·exact ⟨lg,.inr ⟨_,_,_,je.out.symm,rfl,uj⟩⟩
  |true=>
   have hR2:=HR1.out;rw[if_pos (of_decide_eq_true QZ.out)] at hR2;have HR2:=ah hR2;have d0:=Yz.cell 0;have m1:=xV.cell 1;simp at d0 m1;have uj:jO (w5.alloc (.cells #[.int .i64 15,.int .i64 15] 3)) r v bs (pos+12):=⟨sj.1.alloc _,sj.2.alloc _⟩;have bi6:au (w5.alloc (.cells #[.int .i64 15,.int .i64 15] 3)) w5.heap.size 3 (iR [15,15]).toArray:=au.new w5 3 #[.int .i64 15,.int .i64 15];have R7:=xV.alloc (.cells #[.int .i64 15,.int .i64 15] 3);have R8:=nC.alloc (.cells #[.int .i64 15,.int .i64 15] 3);have lg:=hk5.alloc (.cells #[.int .i64 15,.int .i64 15] 3);have KG:(w5.alloc (.cells #[.int .i64 15,.int .i64 15] 3)).heap.size=w5.heap.size+1:=by simp
   have akg:gl<w5.heap.size:=by
    have:=World.block_lt_of_cell? w5 _ (nC.cellAt 0 (by omega));simpa using this
   have LQ:=ah KG;have yX:=ah R7;have ZE:=ah R8;have tF:=ah lg;clear hR2 HR1 xV Yz sj nC hk5 R7 R8 lg KG;go_wp2_with fail;by_cases hs2:8*bs.length<pos+42
   ·have rE:=HR2.out;rw[if_pos hs2] at rE;have wN:=ah rE.symm;clear rE;have hga:=jB r w5.heap.size v bs (pos+12) [15,15] _ uj hsm (by simp) (by simp) bi6 (by omega) (by simp;omega);simp only[List.length_cons,List.length_nil,Nat.zero_add,Nat.reduceAdd] at hga;refine hga.mono ?_;rintro e7 w7 ⟨rfl,OG,xU⟩;have OC:=tF.out.trans (xU.mono fun k _ e=>e.imp id fun e=>by have:=LQ.out;omega);have QY:=ah OC;clear hga xU OC OG;go_wp2_with (go_at_call 135;((with_reducible refine (vL _ _ _ _ rfl _).mono ?_);rintro e4 w4 ⟨rfl,rfl⟩));exact ⟨rfl,QY.out,.inl ⟨wN.out,rfl⟩⟩
   ·have hga:=ni r w5.heap.size v bs (pos+12) [15,15] _ uj hsm (by simp) (by simp) bi6 (by simp;omega);simp only[List.length_cons,List.length_nil,Nat.zero_add,Nat.reduceAdd] at hga;refine hga.mono ?_;rintro e7 w7 ⟨UG,rfl,LU,OG,xU⟩;have ZF:getAll bs (pos+12) [15,15]= [val (aF bs (pos+12) 15),val (aF bs (pos+12+15) 15)]:=rfl;rw[ZF,show pos+12+15=pos+27 by omega] at LU;rw[show pos+12+ [15,15].sum=pos+42 by simp] at OG;have rE:=HR2.out;rw[if_neg hs2] at rE;have hx3:val (aF bs (pos+12) 15)<32768:=by have:=pO (aF bs (pos+12) 15);rw[fq] at this;exact this
    have hx4:val (aF bs (pos+27) 15)<32768:=by have:=pO (aF bs (pos+27) 15);rw[fq] at this;exact this
    generalize val (aF bs (pos+12) 15)=x3 at*;generalize val (aF bs (pos+27) 15)=x4 at*;simp only[List.length_cons,List.length_nil,Nat.zero_add,Nat.reduceAdd] at LU;obtain ⟨g2,cap2,rfl,hg2,akh⟩:=LU.form (by omega);have aki:w5.heap.size<g2:=by have:=LQ.out;omega
    have hM:∀k,w.heap.size≤k→k≤w5.heap.size→¬(k=r∨(w5.alloc (.cells #[.int .i64 15,.int .i64 15] 3)).heap.size≤k):=fun k h1 h2 e=>by have:=LQ.out;omega
    have UH:=yX.out.kept xU (hM _ (by omega) (by omega));have LV:=jA ZE.out xU (fun k o _ hk=>by
     have e:gl=k:=by simpa[Value.ownBlock] using hk
     subst e;exact hM _ (by omega) (by omega))
    have OC:=tF.out.trans (xU.mono fun k _ e=>e.imp id fun e=>by have:=LQ.out;omega);have l0:w7.drew.cell? ⟨g2,0,none⟩=some (.int .u64 x3):=by have:=LU.cellAt 0 (by omega);simpa[nU] using this
    have l1:w7.drew.cell? ⟨g2,1,none⟩=some (.int .u64 x4):=by have:=LU.cellAt 1 (by omega);simpa[nU] using this
    have l0':w7.cell? ⟨g2,0,none⟩=some (.int .u64 x3):=l0;have ZB:w7.cell? ⟨g2,1,none⟩=some (.int .u64 x4):=l1;obtain ⟨n0,n1,n2,n3⟩:w7.drew.cell? ⟨w.heap.size+1,0,none⟩=_∧w7.drew.cell? ⟨w.heap.size+1,1,none⟩=_∧w7.drew.cell? ⟨w.heap.size+1,2,none⟩=_∧w7.drew.cell? ⟨w.heap.size+1,3,none⟩=_:=UH.iE;obtain ⟨m0,m1,m2,m3⟩:=UH.iE;have f2:w7.drew.frozen? ⟨w.heap.size+1,2,none⟩=false:=UH.frozen 2;have f3:w7.drew.frozen? ⟨w.heap.size+1,3,none⟩=false:=UH.frozen 3;have e2:=UH.frozen 2;have e3:=UH.frozen 3;have hw3:IntKind.i64.wrap (x3:Int)=(x3:Int):=by rw[IntKind.wrap_i64];omega
    have hw4:IntKind.i64.wrap (x4:Int)=(x4:Int):=by rw[IntKind.wrap_i64];omega
    have wN:=ah rE;have Wj:=ah OG;have OH:=ah LV;have QY:=ah OC;have LW:=ah UH;clear ZF hga LU OG xU rE LV OC UH yX ZE tF HR2 hM;go_upto_region 5 with (go_at_call 135;((with_reducible refine (uh _ _ _ _).mono ?_);rintro e4 w4 ⟨rfl,rfl⟩))
    go_region
    have ND:au ((w7.setCell ⟨w.heap.size+1,2,none⟩ (.int .i64 x3)).setCell ⟨w.heap.size+1,3,none⟩ (.int .i64 x4)).drew (w.heap.size+1) 197 #[.int .i64 x0,.bool true,.int .i64 x3,.int .i64 x4]:=by
     have h8:au ((w7.setCell ⟨w.heap.size+1,2,none⟩ (.int .i64 x3)).setCell ⟨w.heap.size+1,3,none⟩ (.int .i64 x4)) (w.heap.size+1) 197 #[.int .i64 x0,.bool true,.int .i64 x3,.int .i64 x4]:=by simpa using (LW.out.av 2 (.int .i64 x3)).av 3 (.int .i64 x4)
     exact h8
    have ZG:jO ((w7.setCell ⟨w.heap.size+1,2,none⟩ (.int .i64 x3)).setCell ⟨w.heap.size+1,3,none⟩ (.int .i64 x4)).drew r v bs (pos+42):=⟨(Below.heap_setCell _ _ _ _ (by show r≠w.heap.size+1;omega)).trans ((Below.heap_setCell _ _ _ _ (by show r≠w.heap.size+1;omega)).trans Wj.out.1),(aI (aI Wj.out.2 LW.out (by decide) (.int .i64 x3)) (LW.out.av 2 (.int .i64 x3)) (by decide) (.int .i64 x4)).drew'⟩;have ZH:=(aI (i:=3) (aI (i:=2) OH.out LW.out (by decide) (.int .i64 x3)) (LW.out.av 2 (.int .i64 x3)) (by decide) (.int .i64 x4)).drew';have R9:=((QY.out.setCell (p:=⟨w.heap.size+1,2,none⟩) (fun _ _=> .inr (by show w.heap.size≤w.heap.size+1;omega)) (.int .i64 x3)).setCell (p:=⟨w.heap.size+1,3,none⟩) (fun _ _=> .inr (by show w.heap.size≤w.heap.size+1;omega)) (.int .i64 x4)).drew;generalize ((w7.setCell ⟨w.heap.size+1,2,none⟩ (.int .i64 x3)).setCell ⟨w.heap.size+1,3,none⟩ (.int .i64 x4)).drew=w8 at*;clear l0 l1 l0' ZB n0 n1 n2 n3 m0 m1 m2 m3 f2 f3 e2 e3 OH Wj QY LW;have l1:w8.drew.cell? ⟨gl,1,none⟩=some (.int .u64 x1):=by have:=ZH.cellAt 1 (by omega);simpa[nU] using this
    have ZB:w8.cell? ⟨gl,1,none⟩=some (.int .u64 x1):=l1;obtain ⟨n0,n1,n2,n3⟩:w8.drew.cell? ⟨w.heap.size+1,0,none⟩=_∧w8.drew.cell? ⟨w.heap.size+1,1,none⟩=_∧w8.drew.cell? ⟨w.heap.size+1,2,none⟩=_∧w8.drew.cell? ⟨w.heap.size+1,3,none⟩=_:=ND.iE;have f0:w8.drew.frozen? ⟨w.heap.size+1,0,none⟩=false:=ND.frozen 0;have f1:w8.drew.frozen? ⟨w.heap.size+1,1,none⟩=false:=ND.frozen 1;have f2:w8.drew.frozen? ⟨w.heap.size+1,2,none⟩=false:=ND.frozen 2;have f3:w8.drew.frozen? ⟨w.heap.size+1,3,none⟩=false:=ND.frozen 3;obtain ⟨m0,m1,m2,m3⟩:=ND.iE;have e0:=ND.frozen 0;have e1:=ND.frozen 1;have e2:=ND.frozen 2;have e3:=ND.frozen 3;have ZI:=ah ND;have Bj:=ah ZG;have Sb:=ah R9;clear ND ZG R9 ZH;go_upto_region 6 with fail
    go_region
    all_goals
     have R7:=ZI.out.R5 (.int .i64 x0) (.bool true) (.int .i64 x3) (.int .i64 x4);have uj:jO ((((w8.setCell ⟨w.heap.size+1,0,none⟩ (.int .i64 x0)).setCell ⟨w.heap.size+1,1,none⟩ (.bool true)).setCell ⟨w.heap.size+1,2,none⟩ (.int .i64 x3)).setCell ⟨w.heap.size+1,3,none⟩ (.int .i64 x4)).drew r v bs (pos+42):=⟨(iK (by omega) _ _ _ _).trans Bj.out.1,(qf Bj.out.2 ZI.out (by decide) _ _ _ _).drew'⟩;have lg:=(vM Sb.out (g:=w.heap.size+1) (fun _ _=> .inr (by omega)) (.int .i64 x0) (.bool true) (.int .i64 x3) (.int .i64 x4)).drew;obtain ⟨p0,p1,p2,p3⟩:=R7.iE;go_wp2_with fail;refine bodyPost_ret (v:= .tuple #[.agg #[.int .i64 x0,.bool true,.int .i64 x3,.int .i64 x4],.bool (decide (x1=1))]) ?_ rfl ?_
     ·simp[results,Tryz.results138,go_sem,p0,p1,p2,p3]
     ·exact ⟨lg,.inr ⟨_,_,_,wN.out.symm,rfl,uj⟩⟩
end
section
open Go.RowKit Go.Shelf
attribute [local go_sem] Oper.semAt_some
def yc (l:List (Nat × Nat)) (k:Nat):Array Value:= #[.int .i64 ((l[k]?.getD (0,0)).1:Nat),.int .i64 ((l[k]?.getD (0,0)).2:Nat)]
def jJ (l:List Fl) (i fr k:Nat):Prop:=∃pre,eY l 0 0=pre++eY (l.drop i) i fr∧pre.length=k
theorem jJ.start (l:List Fl):jJ l 0 0 0:=⟨[],rfl,rfl⟩
theorem drop_cons {l:List Fl} {i:Nat} (h:i<l.length):l.drop i=fQ l i::l.drop (i+1):=by
 rw[List.drop_eq_getElem_cons h];unfold fQ;rw[List.getElem?_eq_getElem h];rfl
theorem jJ.miss {l:List Fl} {i fr k:Nat} (h:jJ l i fr k) (hi:i<l.length) (hf:(fQ l i).1=false):jJ l (i+1) fr k:=by
 obtain ⟨pre,e,hk⟩:=h;rw[drop_cons hi,eY,if_pos hf] at e;exact ⟨pre,e,hk⟩
theorem jJ.pass {l:List Fl} {i fr k:Nat} (h:jJ l i fr k) (hi:i<l.length) (hf:(fQ l i).1=true) (hfr:¬fr<i):jJ l (i+1) (i+1) k:=by
 obtain ⟨pre,e,hk⟩:=h;rw[drop_cons hi,eY,if_neg (by rw[hf];simp),if_neg hfr] at e;exact ⟨pre,e,hk⟩
theorem jJ.give {l:List Fl} {i fr k:Nat} (h:jJ l i fr k) (hi:i<l.length) (hf:(fQ l i).1=true) (hfr:fr<i):jJ l (i+1) (i+1) (k+1)∧(eY l 0 0)[k]? =some (fr,i-1):=by
 obtain ⟨pre,e,hk⟩:=h;rw[drop_cons hi,eY,if_neg (by rw[hf];simp),if_pos hfr] at e;refine ⟨⟨pre++ [(fr,i-1)],by rw[e];simp,by simp[hk]⟩,?_⟩;rw[e,List.getElem?_append_right (by omega),hk,Nat.sub_self];rfl
theorem jJ.last {l:List Fl} {fr k:Nat} (h:jJ l l.length fr k) (hfr:fr<l.length):(eY l 0 0)[k]? =some (fr,l.length-1)∧(eY l 0 0).length=k+1:=by
 obtain ⟨pre,e,hk⟩:=h;rw[List.drop_length,eY,if_pos hfr] at e;constructor
 ·rw[e,List.getElem?_append_right (by omega),hk,Nat.sub_self];rfl
 ·rw[e,List.length_append,hk];rfl
theorem jJ.none {l:List Fl} {fr k:Nat} (h:jJ l l.length fr k) (hfr:¬fr<l.length):(eY l 0 0).length=k:=by
 obtain ⟨pre,e,hk⟩:=h;rw[List.drop_length,eY,if_neg hfr,List.append_nil] at e;rw[e,hk]
theorem zA {L:List (Nat × Nat)} {k a b:Nat} (h:L[k]? =some (a,b)):yc L k= #[.int .i64 (a:Nat),.int .i64 (b:Nat)]∧k<L.length:=by
 unfold yc;rw[h];exact ⟨rfl,(List.getElem?_eq_some_iff.1 h).1⟩
set_option maxRecDepth 100000 in
set_option maxHeartbeats 2000000 in
theorem Mh (n:Nat) (hn:1≤n) (gv b:Nat) (A:Option Addr) (m c:Nat) (l:List Fl) (hm:m≤100000) (hlm:l.length=m) (Q:Nat→Obj→Prop) (w:World)
 (hg:au w gv 161 #[.pointer (some ⟨b,0,none⟩)]) (_hbl:b<w.heap.size) (hb:∀W,Below w.heap.size w W→∀X,Kept Q W X→X.cell? ⟨b,0,none⟩=some (.slice A m c)∧lV X A m c l) (hQ:¬Q gv (.cells #[.pointer (some ⟨b,0,none⟩)] 161 (0,0))):
 Jc Fence.wide n Tryz.prog 201 #[.pointer (some ⟨gv,0,none⟩)] (yc (eY l 0 0)) (eY l 0 0).length (Kept Q) w:=fun lb J W hW _ hY h0=>by
 have hg':=hg.below hW hg.lt;have HB:=ah (hb W hW);have HY:=ah hY;clear hY hb;refine callsIn_of_wp Tryz.func201 rfl trivial ?_ rfl;simp only[Tryz.ntmps201,List.size_toArray,List.length_cons,List.length_nil,Nat.reduceAdd,Nat.reduceSub,Array.replicate_succ,Array.replicate_zero,List.push_toArray,List.append_toArray,List.nil_append,List.cons_append];have hcw:=hg'.cell 0;simp at hcw;obtain ⟨hc0,WM⟩:=HB.out W (Kept.refl _ _);refine jh ?_
 gi_wp2
 refine wpIn_label ?_
 gi_wp2
 gi_loopw [3,11] (fun s3 i wr=>∃i' fr k:Nat,i'≤m+1∧i= .int .i64 i'∧s3= .int .i64 fr∧fr≤i'∧((i'≤m∧jJ l i' fr k)∨(i'=m+1∧k=(eY l 0 0).length))∧J k wr∧Kept Q W wr) (fun _ i _=>m+1-(intOf i).toNat)
 case atStart=>exact ⟨0,0,0,Nat.zero_le _,by simp,by simp,aN,.inl ⟨Nat.zero_le _,jJ.start l⟩,h0,Kept.refl _ _⟩
 case round=>
  obtain ⟨i',fr,k,hi1,rfl,rfl,hfr,hat,hJs,hnx⟩:=hrel;clear hc0 WM;obtain ⟨hc0,WM⟩:=HB.out wr hnx;have hgr:=hg'.kept hnx hQ;have hcg:=hgr.cell 0;simp at hcg;rcases Nat.lt_trichotomy i' m with hlt|heq|hgt
  ·have xI:jJ l i' fr k:=by rcases hat with h|h;exact h.2;omega
   have hhas:Calls Tryz.prog 156 #[.slice A m c,.int .i64 (i':Nat),.int .i64 0] wr fun e w'=>e= .returned (.bool (fQ l i').1)∧wr=w':=zw WM i' (by omega) 0 (by omega)
   clear hat;cases hf:(fQ l i').1 with
   |false=>
    rw[hf] at hhas;have BA:=ah hhas;have HF:=ah hf;have HAT:=ah xI;clear hhas hf xI
    gi_wp2_with (refine ⟨trivial,?_⟩;refine ((callsIn_wide (n:=n-1)).2 BA.out).mono ?_;rintro e1 w1 ⟨rfl,rfl⟩)
    exact ⟨⟨i'+1,fr,k,by omega,by go_num,rfl,by omega,.inl ⟨by omega,HAT.out.miss (by omega) HF.out⟩,hJs,hnx⟩,by simp[intOf]<;>omega⟩
   |true=>
    rw[hf] at hhas;have BA:=ah hhas;by_cases hfi:fr<i'
    ·obtain ⟨h5,h6⟩:=xI.give (by omega) hf hfi;obtain ⟨h7,h8⟩:=zA h6;have EW:=HY.out k wr h8 hJs;rw[h7,show ((i'-1:Nat):Int)=(i':Int)-1 by omega] at EW;obtain ⟨fn,tmps,assign,body,hy,hR⟩:=EW;have H5:=ah h5;clear hhas hf xI h5 h6 h7 h8
     gi_wp2_with (refine ⟨trivial,?_⟩;refine ((callsIn_wide (n:=n-1)).2 BA.out).mono ?_;rintro e1 w1 ⟨rfl,rfl⟩)
     refine hR.mono ?_;rintro e W3 ⟨rfl,hJ3,hk3⟩
     gi_wp2_with fail
     exact ⟨⟨i'+1,i'+1,k+1,by omega,by go_num,by go_num,aN,.inl ⟨by omega,H5.out⟩,hJ3,hnx.trans hk3⟩,by simp[intOf]<;>omega⟩
    ·have h5:=xI.pass (by omega) hf hfi;have H5:=ah h5;clear hhas hf xI h5
     gi_wp2_with (refine ⟨trivial,?_⟩;refine ((callsIn_wide (n:=n-1)).2 BA.out).mono ?_;rintro e1 w1 ⟨rfl,rfl⟩)
     refine ⟨fun f h=>(by cases h),?_⟩
     gi_wp2_with fail
     exact ⟨⟨i'+1,i'+1,k,by omega,by go_num,by go_num,aN,.inl ⟨by omega,H5.out⟩,hJs,hnx⟩,by simp[intOf]<;>omega⟩
  ·subst heq;have xI:jJ l i' fr k:=by rcases hat with h|h;exact h.2;omega
   clear hat;rw[←hlm] at xI;by_cases hfi:fr<i'
   ·obtain ⟨h5,h6⟩:=xI.last (by omega);obtain ⟨h7,h8⟩:=zA h5;have EW:=HY.out k wr h8 hJs;rw[h7,show ((l.length-1:Nat):Int)=(i':Int)-1 by omega] at EW;obtain ⟨fn,tmps,assign,body,hy,hR⟩:=EW;have H6:=ah h6;clear xI h5 h6 h7 h8
    gi_wp2_with fail
    refine ⟨trivial,?_⟩
    gi_wp2_with fail
    refine hR.mono ?_;rintro e W3 ⟨rfl,hJ3,hk3⟩
    gi_wp2_with fail
    exact ⟨⟨i'+1,i'+1,k+1,by omega,by go_num,by go_num,aN,.inr ⟨rfl,H6.out.symm⟩,hJ3,hnx.trans hk3⟩,by simp[intOf]<;>omega⟩
   ·have h6:=xI.none (by omega);have H6:=ah h6;clear xI h6
    gi_wp2_with fail
    refine ⟨trivial,?_⟩
    gi_wp2_with fail
    refine ⟨fun f h=>(by cases h),?_⟩
    gi_wp2_with fail
    exact ⟨⟨i'+1,i'+1,k,by omega,by go_num,by go_num,aN,.inr ⟨rfl,H6.out.symm⟩,hJs,hnx⟩,by simp[intOf]<;>omega⟩
  ·have e:i'=m+1:=by omega
   have ek:k=(eY l 0 0).length:=by rcases hat with h|h;omega;exact h.2
   subst e;have Dz:J (eY l 0 0).length wr:=by rw[←ek];exact hJs
   clear ek hJs hat
   gi_wp2
   rw[Exit.noGoto_normal]
   go_end0
   exact ⟨⟨_,rfl⟩,Dz⟩
end
section
theorem J4 {bs:List UInt8} {m:Bool} {q er:Nat} (h:rR bs m q= .inl er):er≠0:=by
 unfold rR jT at h;split at h
 ·rename_i er' hr;cases h;exact tV bs _ _ _ _ _ hr
 ·split at h
  ·cases h
  ·cases h;omega
theorem uS {bs:List UInt8} {m:Bool} {q er:Nat} (h:iV bs m q= .inl er):er≠0:=by
 unfold iV at h;split at h
 ·rename_i er' hl;cases h;exact J4 hl
 ·unfold ku at h;split at h
  ·cases h;omega
  ·split at h
   ·cases h;omega
   ·cases h
theorem Qt (bs:List UInt8) (er:Nat) (h:Bt bs= .inl er):er≠0:=by
 unfold Bt at h;split at h
 ·cases h;omega
 split at h
 ·cases h;omega
 split at h
 ·split at h
  ·cases h;omega
  ·split at h
   ·rename_i hc;cases h;exact uS hc
   ·split at h
    ·cases h
    ·cases h;omega
 ·split at h
  ·rename_i hc;cases h;exact uS hc
  ·split at h
   ·cases h
   ·cases h;omega
end
section
open Go.RowKit Go.Shelf
theorem J5 (bo be:Nat) (w:World):
 CallsD Tryz.prog 94 #[.pointer (some ⟨bo,0,none⟩),.pointer (some ⟨be,0,none⟩)] .returning w fun e u' w'=>e= .returned (.tuple #[])∧u'= .returning∧w=w':=by
 have hnn:=run_eql_nil_nil (P:=Tryz.prog) w (t:=20) (by kernel_rfl);refine callsD_of_wpS Tryz.func94 rfl fun c₀ cs hu=> ?_
 apply wpS_seq;apply wpS_region;generalize hQ:Exit.thenS _ _=Q;simp[wpOpsS,go_sem,recoverD,hu,Tryz.ntmps94];subst hQ;simp only[Exit.thenS];refine wpS_of_wp ?_;change Code.wp _ _ (iY Tryz.prog Tryz.f94 c₀ cs (c₀::cs) _) {tmps:= #[.pointer (some ⟨bo,0,none⟩),.pointer (some ⟨be,0,none⟩),.nilIface,undef,undef,.nilIface,undef,undef,undef,undef,undef,undef,undef,undef,undef,undef,undef],defers:= []} w;go_wp2;cases c₀
 simp_all [iY,bodyPostS,results,Tryz.results94]
set_option maxHeartbeats 800000 in
set_option maxRecDepth 100000 in
theorem EG (bo be:Nat) (er:Int) (v0 v1:Value) (w:World) (hp:au w bo 37 #[v0]) (he:au w be 53 #[v1]) (hne:be≠bo):
 CallsD Tryz.prog 94 #[.pointer (some ⟨bo,0,none⟩),.pointer (some ⟨be,0,none⟩)] (.panicking [{v:= .iface 53 (.int .i64 er),recovered:=false}]) w fun e u' w'=>e= .returned (.tuple #[])∧u'= .panicking [{v:= .iface 53 (.int .i64 er),recovered:=true}]∧
  au w' bo 37 #[.slice none 0 0]∧au w' be 53 #[.int .i64 er]∧Kept (fun k _=>k=bo∨k=be) w w':=by
 have hnn:=run_eql_held_nil (P:=Tryz.prog) w 20 53 (.int .i64 er) (by kernel_rfl);have hta:=kT er w;refine callsD_of_wpS Tryz.func94 rfl fun c₀ cs hu=> ?_
 apply wpS_seq;apply wpS_region;generalize hQ:Exit.thenS _ _=Q;simp[wpOpsS,go_sem,recoverD,hu,Tryz.ntmps94];subst hQ;simp only[Exit.thenS];refine wpS_of_wp ?_;change Code.wp _ _ (iY Tryz.prog Tryz.f94 c₀ cs _ _) {tmps:= #[.pointer (some ⟨bo,0,none⟩),.pointer (some ⟨be,0,none⟩),.iface 53 (.int .i64 er),undef,undef,.iface 53 (.int .i64 er),undef,undef,undef,undef,undef,undef,undef,undef,undef,undef,undef],defers:= []} w;have c0:=hp.cell 0;have f0:=hp.frozen 0;have c1:=he.cell 0;have f1:=he.frozen 0;simp at c0 c1;go_wp2;refine ⟨rfl,_,rfl,.tuple #[],by simp[results,Tryz.results94],rfl,rfl,?_,?_,?_⟩
 ·have:=(hp.av 0 (.slice none 0 0)).far (p:=⟨be,0,none⟩) (fun e=>hne e.symm) (.int .i64 er);simpa using this
 ·have:=(he.far (p:=⟨bo,0,none⟩) hne (.slice none 0 0)).av 0 (.int .i64 er);simpa using this
 ·exact ((Kept.refl _ w).setCell (p:=⟨bo,0,none⟩) (fun _ _=> .inl rfl) _).setCell (p:=⟨be,0,none⟩) (fun _ _=> .inr rfl) _
theorem zZ {Q:Ending→World→Prop} (a b:Nat) (er:Int) (W:World) (T:Array Value) (v0 v1:Value) (h6:T[6]? =some (.pointer (some ⟨a,0,none⟩))) (h7:T[7]? =some (.pointer (some ⟨b,0,none⟩))) (hne:b≠a)
 (hp:au W a 37 #[v0]) (he:au W b 53 #[v1]) (hQ:∀W',Kept (fun k _=>k=a∨k=b) W W'→Q (.returned (.tuple #[.slice none 0 0,.int .i64 er])) W'):
 bodyPostD Tryz.prog Tryz.f57 Q (.panic [{v:= .iface 53 (.int .i64 er),recovered:=false}]) {tmps:=T,defers:= [{target:= .fn (.func 94) #[.pointer (some ⟨a,0,none⟩),.pointer (some ⟨b,0,none⟩)],args:= #[]}]} W:=by
 refine leaves_cons (f:=94) (args:= #[.pointer (some ⟨a,0,none⟩),.pointer (some ⟨b,0,none⟩)]) (by simp) (by simp[go_sem]) ?_;refine (EG _ _ er _ _ W hp he hne).mono ?_;rintro e u' w'' ⟨rfl,rfl,hp',he',hk⟩;have c0:=hp'.cell 0;have c1:=he'.cell 0;simp at c0 c1;refine ⟨.tuple #[.slice none 0 0,.int .i64 er],?_,hQ _ hk⟩;simp[results,Tryz.results57,go_sem,h6,h7,c0,c1]
theorem nO {Q:Ending→World→Prop} (a b:Nat) (W:World) (T:Array Value) (v0 v1:Value) (h6:T[6]? =some (.pointer (some ⟨a,0,none⟩))) (h7:T[7]? =some (.pointer (some ⟨b,0,none⟩)))
 (hp:au W a 37 #[v0]) (he:au W b 53 #[v1]) (hQ:Q (.returned (.tuple #[v0,v1])) W):
 bodyPostD Tryz.prog Tryz.f57 Q .ret {tmps:=T,defers:= [{target:= .fn (.func 94) #[.pointer (some ⟨a,0,none⟩),.pointer (some ⟨b,0,none⟩)],args:= #[]}]} W:=by
 refine leaves_cons (f:=94) (args:= #[.pointer (some ⟨a,0,none⟩),.pointer (some ⟨b,0,none⟩)]) (by simp) (by simp[go_sem]) ?_;refine (J5 _ _ _).mono ?_;rintro e9 u9 w9 ⟨rfl,rfl,rfl⟩;have c0:=hp.cell 0;have c1:=he.cell 0;simp at c0 c1;refine ⟨.tuple #[v0,v1],?_,hQ⟩;simp[results,Tryz.results57,go_sem,h6,h7,c0,c1]
structure TY (x:kP):Prop where
 sn:x.sn≤1023
 len:x.ps.length≤64
 pos:1≤x.ps.length
 sum:x.off+aj x.ps≤32767
theorem Dg {x:kP} (h:gY (x.sn:Nat) x.sg x.la (x.off:Nat) x.ps=true) (h0:x.sg=false→x.off=0):TY x:=by
 unfold gY mJ at h;simp only[List.all_cons,List.all_nil,Bool.and_true,id,Bool.and_eq_true,decide_eq_true_eq] at h;obtain ⟨h1,h2,h3⟩:=h;unfold mG lC at h2;simp only[List.all_cons,List.all_nil,Bool.and_true,id,Bool.and_eq_true,decide_eq_true_eq] at h2;obtain ⟨⟨h4,h5⟩,_,_,h6⟩:=h2;refine ⟨by omega,h5,h4,?_⟩;cases hs:x.sg with
 |false=>rw[h0 hs];omega
 |true=>
  rw[hs] at h3;simp only[if_true,decide_eq_true_eq] at h3;omega
theorem Ld {bs:List UInt8} {x:kP} (h:Bt bs= .inr x):TY x:=by
 unfold Bt at h;split at h
 ·cases h
 ·split at h
  ·cases h
  ·split at h
   ·split at h
    ·cases h
    ·split at h
     ·cases h
     ·split at h
      ·rename_i hv;cases h;exact Dg hv (fun e=>by cases e)
      ·cases h
   ·split at h
    ·cases h
    ·split at h
     ·rename_i hv;cases h;exact Dg hv (fun _=>rfl)
     ·cases h
theorem M4 (p:Sp) (x:kP) (hl:p.da.length=p.fl.length):(iH p x).da.length=(iH p x).fl.length∧(iH p x).fl.length=max p.fl.length (nD x):=by
 unfold iH;dsimp only;have h:=qO (gZ x.s x.e x.ps.length 0 x.ps) x.off (jY (nD x) p.fl,oC (nD x) p.da);rw[h.1,h.2];dsimp only;unfold jY oC;simp only[List.length_append,List.length_replicate];omega
theorem xH.take {p:Sp} (h:xH p) {x:kP} (hx:TY x):xH (iH p x):=by
 have hl:=M4 p x h.ll;have he:nD x≤32767:=hx.sum;have h1:=h.le;refine ⟨hl.1,by omega,fun k hk=> ?_⟩;have hk2:(if FU x=true then some (nD x) else p.size)=some k:=hk;split at hk2
 ·cases hk2;exact he
 ·exact h.sz k hk2
theorem abQ:xH FT:=⟨rfl,by simp[FT],fun k hk=>by simp[FT] at hk⟩
theorem dP.get {st:Rc} (ho:dP st) (k:Nat):xH (jG st k):=by
 unfold jG;cases hm:st.m k with
 |none=>exact abQ
 |some p=>exact (ho.m k p hm).2.2
theorem dP.T6 {st:Rc} (ho:dP st) {x:kP} (hx:TY x) (hp:cO st x.sn<512):dP (qi st x (jG st x.sn)):=by
 have h1:=hx.sn;have hg:=(ho.get x.sn).take hx;refine ⟨ho.n1,uy _ _ _ ho.n2,?_,ho.n4,fun k q hk=> ?_,ho.op,ho.t1,ho.t2⟩
 ·unfold qi;dsimp only;split
  ·unfold fJ;omega
  ·exact ho.n3
 ·have hk2:(if k=x.sn then some (iH (jG st x.sn) x) else st.m k)=some q:=hk;split at hk2
  ·rename_i e;cases hk2;subst e;exact ⟨h1,hp,hg⟩
  ·exact ho.m k q hk2
theorem dP.Dh:∀(f:Nat) {st:Rc},dP st→dP (fB f st).1
 |0,_,ho=>ho
 |f+1,st,ho=>by
  unfold fB;cases hm:st.m st.next with
  |none=>exact ho
  |some p=>
   dsimp only;split
   ·exact dP.Dh f (ho.one hm)
   ·exact ho
theorem dP.agi {st:Rc} (ho:dP st) (c:Cf):dP (L6 c st):=by
 unfold L6;dsimp only;have h1:dP {st with ro:=false}:=⟨ho.n1,ho.n2,ho.n3,ho.n4,ho.m,ho.op,ho.t1,ho.t2⟩;generalize hs:(if cO st st.jM=0∨512<cO st st.jM then {st with ro:=false} else st)=s1;have h2:dP s1:=by
  rw[←hs];split
  ·exact h1
  ·exact ho
 split
 ·exact h2.waits c
 ·exact h2
theorem dP.due {st:Rc} (ho:dP st) (b:Bool):dP {st with due:=b}:=⟨ho.n1,ho.n2,ho.n3,ho.n4,ho.m,ho.op,ho.t1,ho.t2⟩
theorem dP.recv {st:Rc} (ho:dP st) (c:Cf) {now:Int} (hn:now≤9223372036854775807) (bs:List UInt8):dP (jH c st now bs).1:=by
 have hg:=ho.goes c hn;unfold jH;cases hd:Bt bs with
 |inl er=>exact hg
 |inr x=>
  have hx:=Ld hd;unfold L8;dsimp only;split
  ·exact hg.due _
  ·rename_i hp;split
   ·exact hg
   ·exact ((hg.T6 hx (by omega)).Dh 1024).agi c
section
variable {w w' W W' W2:World} {T T':Nat→Nat} {g M n:Nat} {c:Cf} {st:Rc} {vo v:Value}
theorem gI.stored {sp':Sp} {vf vd kR kK:Value} {b sn n2:Nat} {F:Nat→Option Value} (h:gI W T g M n c st vo) (hbl:b<W.heap.size)
 (hb:T b=0∨T b=3*sn+4) (hf:∀k,vf.ownBlock=some k→T k=3*sn+5) (hd:∀k,vd.ownBlock=some k→T k=3*sn+6)
 (hS:oD W' b sp' kR kK) (hf':∀k,kR.ownBlock=some k→vf.ownBlock=some k∨W.heap.size≤k) (hd':∀k,kK.ownBlock=some k→vd.ownBlock=some k∨W.heap.size≤k)
 (hk:Kept (UT b vf vd) W W') (hFm:∀k,(st.m k=none→F k=none)∧∀p,st.m k=some p→∃b vf vd,F k=some (.pointer (some ⟨b,0,none⟩))∧oD W b p vf vd∧T b=3*k+4∧(∀j,vf.ownBlock=some j→T j=3*k+5)∧(∀j,vd.ownBlock=some j→T j=3*k+6))
 (hF2:iq Tryz.prog 3 W2 M n2 (Eb F sn (some (.pointer (some ⟨b,0,none⟩))))) (hg:W'.grownBy W2 (some M)):
 ∃T',gI W2 T' g M n2 c {st with m:=kG st.m sn (some sp')} vo∧(∀k,k<W.heap.size→k≠b→T' k=T k)∧(T b≠0→T' b=T b):=by
 have hz:=hk.size;have hz2:=hg.size;have Y2:=h.tM;have hrow:=qP hS.fr hS.dr (by decide);have hzero:∀k,W.heap.size≤k→T k=0:=fun k hk=>by
  rcases Nat.eq_zero_or_pos (T k) with e|e
  ·exact e
  ·have:=h.lt k (by omega);omega
 have key:∀j,T j≠0→(T j<3*sn+4∨3*sn+6<T j)→T j≠2→W2.heap[j]? =W.heap[j]? :=fun j h0 h1 h2=>by
  have hl:=h.lt j h0;have e1:W2.heap[j]? =W'.heap[j]? :=hg.block j (by omega) (fun e=>by cases e;exact h2 Y2);have e2:W.heap[j]? =some W.heap[j]:=Array.getElem?_eq_getElem hl;rw[e1,e2];refine hk.same j _ e2 fun hm=> ?_
  rcases hm with rfl|e|e
  ·omega
  ·have:=hf j e;omega
  ·have:=hd j e;omega
 have XY:∀j,j<W'.heap.size→j≠M→W2.heap[j]? =W'.heap[j]? :=fun j hl hM=>hg.block j hl (fun e=>by cases e;exact hM rfl)
 have hbT:∀j,j=b∨kR.ownBlock=some j∨kK.ownBlock=some j→j≠M:=fun j hj e=>by
  subst e;rcases hj with rfl|e|e
  ·omega
  ·rcases hf' _ e with e|e
   ·have:=hf _ e;omega
   ·have:=hzero _ e;omega
  ·rcases hd' _ e with e|e
   ·have:=hd _ e;omega
   ·have:=hzero _ e;omega
 refine ⟨fun k=>if T k≠0 then T k else if k=b then 3*sn+4 else if W.heap.size≤k∧kR.ownBlock=some k then 3*sn+5 else if W.heap.size≤k∧kK.ownBlock=some k then 3*sn+6 else 0,?_,?_,?_⟩
 ·have hT:∀k,T k≠0→(if T k≠0 then T k else if k=b then 3*sn+4 else if W.heap.size≤k∧kR.ownBlock=some k then 3*sn+5 else if W.heap.size≤k∧kK.ownBlock=some k then 3*sn+6 else 0)=T k:=fun k hh=>if_pos hh
  refine ⟨?_,(hT g (by rw[h.tg];omega)).trans h.tg,(hT M (by omega)).trans Y2,fun k hh=> ?_,?_,fun k e=> ?_,Eb F sn (some (.pointer (some ⟨b,0,none⟩))),hF2,fun k=>⟨fun hm=> ?_,fun q hq=> ?_⟩⟩
  ·exact (key g (by rw[h.tg];omega) (by rw[h.tg];omega) (by rw[h.tg];omega)).trans h.blk
  ·by_cases h0:T k≠0
   ·have:=h.lt k h0;omega
   ·rw[if_neg h0] at hh;by_cases hkb:k=b
    ·omega
    ·rw[if_neg hkb] at hh;by_cases h1:W.heap.size≤k∧kR.ownBlock=some k
     ·have:=(hS.fr.lt k h1.2).2;omega
     ·rw[if_neg h1] at hh;by_cases h2:W.heap.size≤k∧kK.ownBlock=some k
      ·have:=(hS.dr.lt k h2.2).2;omega
      ·rw[if_neg h2] at hh;exact absurd rfl hh
  ·exact bX h.rX fun k e=>by
    have h3:=h.od k e;exact key k (by omega) (by omega) (by omega)
  ·have h3:=h.od k e;exact (hT k (by omega)).trans h3
  ·have hm2:(if k=sn then some sp' else st.m k)=none:=hm;split at hm2
   ·cases hm2
   ·rename_i hne;show (if k=sn then _ else F k)=none
    rw[if_neg hne];exact (hFm k).1 hm2
  ·have hq2:(if k=sn then some sp' else st.m k)=some q:=hq;split at hq2
   ·rename_i he;cases hq2;subst he;refine ⟨b,kR,kK,if_pos rfl,hS.stay (XY b (by omega) (hbT b (.inl rfl))) (fun j hj=>XY j (hS.fr.lt j hj).2 (hbT j (.inr (.inl hj)))) (fun j hj=>XY j (hS.dr.lt j hj).2 (hbT j (.inr (.inr hj)))),?_,fun j hj=> ?_,fun j hj=> ?_⟩
    ·rcases hb with e|e
     ·rw[if_neg (by omega),if_pos rfl]
     ·exact (hT b (by omega)).trans e
    ·rcases hf' j hj with e|e
     ·have h5:=hf j e;exact (hT j (by omega)).trans h5
     ·rw[if_neg (by have:=hzero j e;omega),if_neg (by omega),if_pos ⟨e,hj⟩]
    ·rcases hd' j hj with e|e
     ·have h5:=hd j e;exact (hT j (by omega)).trans h5
     ·rw[if_neg (by have:=hzero j e;omega),if_neg (by omega),if_neg,if_pos ⟨e,hj⟩];rintro ⟨_,e2⟩;rcases hrow with e3|e3
      ·rw[e3] at e2;cases e2
      ·exact e3 (e2.trans hj.symm)
   ·rename_i hne;obtain ⟨b2,vf2,vd2,e1,hs2,t1,t2,t3⟩:=(hFm k).2 q hq2;refine ⟨b2,vf2,vd2,(if_neg hne).trans e1,hs2.stay (key b2 (by omega) (by omega) (by omega)) (fun j hj=> ?_) (fun j hj=> ?_),(hT b2 (by omega)).trans t1,fun j hj=> ?_,fun j hj=> ?_⟩
    ·have:=t2 j hj;exact key j (by omega) (by omega) (by omega)
    ·have:=t3 j hj;exact key j (by omega) (by omega) (by omega)
    ·have:=t2 j hj;exact (hT j (by omega)).trans this
    ·have:=t3 j hj;exact (hT j (by omega)).trans this
 ·intro k hl hkb;by_cases h0:T k≠0
  ·exact if_pos h0
  ·show (if T k≠0 then T k else _)=T k
   rw[if_neg h0,if_neg hkb,if_neg (by omega),if_neg (by omega)];omega
 ·intro h0;exact if_pos h0
end
end
end Go.Proofs.YtbhiklnljiehiaaGreat
