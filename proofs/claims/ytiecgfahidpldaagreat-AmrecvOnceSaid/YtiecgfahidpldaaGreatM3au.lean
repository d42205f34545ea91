/- amrecv: Report. status: size and Encode. status.Encode. status.Fit. amrecv: goes. -/
import Derived.Test.YtiecgfahidpldaaGreatM3ac
import Derived.Test.YtiecgfahidpldaaGreatM3al
import Derived.Test.YtiecgfahidpldaaGreatM3am
import Derived.Test.YtiecgfahidpldaaGreatM3as
import Derived.Test.YtiecgfahidpldaaGreatM3at
import Derived.StillTailTactics
import Derived.BigQuiet
namespace Go.Proofs.YtiecgfahidpldaaGreat
section
open Go.RowKit Go.Shelf
attribute [local go_sem] Oper.semAt_some
theorem LU {st:Rc} {f sn:Nat} {l:List Nk} (h:sn≠st.status) (hc:bZ (st.m sn)=true):o9 st (f+1) sn l=o9 st f (dN sn) l:=by
 rw[o9,if_neg h,if_pos hc]
theorem LV {st:Rc} {f sn:Nat} {l:List Nk} (h:sn≠st.status) (hc:bZ (st.m sn)=false) (hl:512<l.length+(iX sn (st.m sn)).length):o9 st (f+1) sn l=(sn,l):=by
 rw[o9,if_neg h,if_neg (by rw[hc];simp),if_pos hl]
theorem LW {st:Rc} {f sn:Nat} {l:List Nk} (h:sn≠st.status) (hc:bZ (st.m sn)=false) (hl:¬512<l.length+(iX sn (st.m sn)).length):o9 st (f+1) sn l=o9 st f (dN sn) (l++iX sn (st.m sn)):=by
 rw[o9,if_neg h,if_neg (by rw[hc];simp),if_neg hl]
theorem O6 {sn:Nat} {o:Option Sp} (h:∀p,o=some p→wX p∧Gx p):(iX sn o).length≤40000:=by
 cases o with
 |none=>simp[iX]
 |some p=>
  obtain ⟨h1,h2⟩:=h p rfl;have:=oh p.fl 0 0;have:=h1.le;cases hs:p.size with
  |none=>rw[C4 hs];simp;omega
  |some k=>rw[CZ h2 hs];simp;omega
def afe (w:World) (R:Nat × List Nk) (e:Ending) (w':World):Prop:=
 ∃A c,e= .returned (.tuple #[.agg #[.int .i64 (R.1:Nat),.slice A R.2.length c],.int .i64 0])∧bP w' A R.2.length c R.2∧(∀ad,A=some ad→w.heap.size≤ad.block)∧Below w.heap.size w w'
def rF (st:Rc):Prop:=∀k p,st.m k=some p→Gx p
section
variable {w w':World} {T:Nat→Nat} {g M n:Nat} {c:Cf} {st:Rc} {vo:Value}
theorem gH.entry (h:gH w T g M n c st vo) (ho:dL st) (hz:rF st) {k:Nat} (hk:k≤1023):∃v,(Instr.lookup 31 (.map (some M)) (.int .i64 k) false).run Tryz.prog w= .ok v w∧
 Calls Tryz.prog 42 #[v] w (fun e w'=>e= .returned (.bool (bZ (st.m k)))∧Below w.heap.size w w')∧
 ∀W,Below w.heap.size w W→Calls Tryz.prog 43 #[.int .i64 (k:Nat),v] W (V9 W (iX k (st.m k))):=by
 obtain ⟨v,hr,⟨hm,rfl⟩|⟨p,b,vf,vd,hm,rfl,hs,_⟩⟩:=h.look hk
 ·refine ⟨_,hr,?_,?_⟩
  ·rw[hm];exact su w
  ·intro W _;rw[hm];exact En k W
 ·refine ⟨_,hr,?_,?_⟩
  ·rw[hm];exact sw hs (ho.m k p hm).2.2
  ·intro W hW;rw[hm];have hbl:=hs.blk.lt;refine Eo k b p vf vd W (hs.stay (hW.block b hbl) (fun j hj=>hW.block j (hs.fr.lt j hj).2) (fun j hj=>hW.block j (hs.dr.lt j hj).2)) (ho.m k p hm).2.2 (hz k p hm)
theorem C5 {st:Rc} {f sn:Nat} {l:List Nk} (h:sn=st.status):o9 st f sn l=(st.status,l):=by
 cases f with
 |zero=>rfl
 |succ f=>rw[o9,if_pos h]
theorem KC {wr:World} {b:Nat} {x y:Value} {A:Option Addr} {c:Nat} {l:List Nk} (hb1:aA wr b 42 #[x,y]) (hv:wr.ownsRow w.heap.size 116 4 (.slice A l.length c) l.length (qg l)) (hB:Below w.heap.size w wr) (hbl:w.heap.size≤b) (u0 u1:Value):
 bP ((wr.setCell ⟨b,0,none⟩ u0).setCell ⟨b,1,none⟩ u1) A l.length c l∧(∀ad,A=some ad→w.heap.size≤ad.block)∧Below w.heap.size w ((wr.setCell ⟨b,0,none⟩ u0).setCell ⟨b,1,none⟩ u1)∧aA ((wr.setCell ⟨b,0,none⟩ u0).setCell ⟨b,1,none⟩ u1) b 42 #[u0,u1]:=by
 have h1:aA (wr.setCell ⟨b,0,none⟩ u0) b 42 #[u0,y]:=by simpa using hb1.aC 0 u0
 have h2:aA ((wr.setCell ⟨b,0,none⟩ u0).setCell ⟨b,1,none⟩ u1) b 42 #[u0,u1]:=by simpa using h1.aC 1 u1
 have v1:=ownsRow_setCell_other (a:=⟨b,0,none⟩) hv (iY hv hb1 (by decide)) u0;have v2:=ownsRow_setCell_other (a:=⟨b,1,none⟩) v1 (iY v1 h1 (by decide)) u1;obtain ⟨A',c',e,hN,hf⟩:=bP.cO v2;cases e;exact ⟨hN,fun ad e=>(hf ad e).1,(hB.setCell (p:=⟨b,0,none⟩) hbl u0).setCell (p:=⟨b,1,none⟩) hbl u1,h2⟩
set_option maxRecDepth 100000 in
set_option maxHeartbeats 4000000 in
theorem qN (h:gH w T g M n c st vo) (ho:dL st) (hz:rF st):
 Calls Tryz.prog 10 #[.pointer (some ⟨g,0,none⟩)] w (afe w (iO st)):=by
 obtain ⟨i0,hi,hz0,hz1,hz2⟩:=ug;obtain ⟨R,hR⟩:∃R,R=iO st:=⟨_,rfl⟩
 rw[←hR];have hB0:=(Below.refl w.heap.size w).alloc (Nat.le_refl _) (.cells #[.int .i64 0,.slice none 0 0] 42);have hb0:=aA.new w 42 #[.int .i64 0,.slice none 0 0];have hsz0:=World.size_alloc w (.cells #[.int .i64 0,.slice none 0 0] 42);have hno:=og (h.alloc (.cells #[.int .i64 0,.slice none 0 0] 42));have Qf:=Lib.hid hno;have HH:=Lib.hid h;have HO:=Lib.hid ho;have HZ:=Lib.hid hz;have HR:=Lib.hid hR;have hgl:=h.blk.lt;obtain ⟨y3,y4,y7,y8,y9,Ah,OB,rP,y13,Ci,Hz,vZ,NI,DI⟩:=h.cells;have hn1:=ho.n1;have hn2:=ho.n2;clear y3 y4 Ah OB rP y13 Ci Hz vZ NI DI hno h ho hz hR hb0 hsz0 hB0;go_enter Tryz.func10,Tryz.ntmps10;go_wp2_with fail;refine Qf.out.mono ?_;rintro e1 w1 ⟨rfl,rfl⟩;go_wp2_with fail;have hb1:=(aA.new w 42 #[.int .i64 0,.slice none 0 0]).alloc (.cells #[.int .i64 (st.status:Nat),.slice none 0 0] 42);have hb2:=aA.new (w.alloc (.cells #[.int .i64 0,.slice none 0 0] 42)) 42 #[.int .i64 (st.status:Nat),.slice none 0 0];rw[World.size_alloc] at hb2;have Rj:Below w.heap.size w ((w.alloc (.cells #[.int .i64 0,.slice none 0 0] 42)).alloc (.cells #[.int .i64 (st.status:Nat),.slice none 0 0] 42)):=((Below.refl _ w).alloc (Nat.le_refl _) _).alloc (by simp) _;have uQ:(st.status+1024-st.next)%1024≤1024:=by omega
 go_loopg [5] 1024 (fun gk s5 wr=>∃(sn:Nat) (l:List Nk) (v:Value),s5= .int .i64 (sn:Nat)∧sn≤1023∧R=o9 st gk sn l∧l.length≤512∧(st.status+1024-sn)%1024≤gk∧aA wr w.heap.size 42 #[.int .i64 0,.slice none 0 0]∧
  aA wr (w.heap.size+1) 42 #[.int .i64 (st.status:Nat),v]∧wr.ownsRow w.heap.size 116 4 v l.length (qg l)∧Below w.heap.size w wr)
 case atStart=>exact ⟨st.next,[],_,rfl,hn1,HR.out,by simp,uQ,hb1,hb2,World.ownsRow_nil _ _ _ _,Rj⟩
 case round=>
  clear hb1 hb2 Rj uQ y7 y8 y9;obtain ⟨sn,l,v,rfl,hsn,hr,hl,uQ,hb1,hb2,hv,hB⟩:=hrel;obtain ⟨Av,cv,rfl,hNv,iq⟩:=bP.cO hv;have hA:=HH.out.below hB;have x9:=hA.cells.2.2.2.2.1;have x7:=hA.cells.2.2.1;by_cases hs:sn=st.status
  ·subst hs;rw[C5 rfl] at hr;have c0:=hb2.cell 0;have c1:=hb2.cell 1;have d0:=hb1.frozen 0;have d1:=hb1.frozen 1;have d2:=hb1.cell 0;have d3:=hb1.cell 1;simp at c0 c1 d2 d3;obtain ⟨f1,f2,f3,f4⟩:=KC (w:=w) hb1 hv hB (Nat.le_refl _) (.int .i64 (st.status:Nat)) (.slice Av l.length cv);have F1:=Lib.hid f1;have F2:=Lib.hid f2;have F3:=Lib.hid f3;have F4:=Lib.hid f4;clear f1 f2 f3 f4 hb1 hb2 hv hB hA hNv iq x7;go_wp2_with fail;have q0:=F4.out.cell 0;have q1:=F4.out.cell 1;simp at q0 q1;refine bodyPost_ret (v:= .tuple #[.agg #[.int .i64 (st.status:Nat),.slice Av l.length cv],.int .i64 0]) ?_ rfl ?_
   ·simp[results,Tryz.results10,go_sem,q0,q1]
   ·rw[hr];exact ⟨Av,cv,rfl,F1.out,F2.out,F3.out⟩
  ·obtain ⟨f,rfl⟩:∃f,gk=f+1:=⟨gk-1,by omega⟩
   have hne:¬((sn:Int)=(st.status:Int)):=by omega
   have Ep:(st.status+1024-dN sn)%1024≤f:=by unfold dN;omega
   have hup:dN sn≤1023:=by unfold dN;omega
   have hand:bits BinOp.and IntKind.i64 ((sn:Int)+1) 1023=((dN sn:Nat):Int):=by rw[qK];unfold dN;omega
   obtain ⟨v,hlk,hcm,hent⟩:=hA.entry HO.out HZ.out hsn;have hel:(iX sn (st.m sn)).length≤40000:=O6 fun p hp=>⟨(HO.out.m sn p hp).2.2,HZ.out sn p hp⟩
   have HCM:=Lib.hid hcm;have HB:=Lib.hid hB;have HUP:=Lib.hid hup;have KA:=Lib.hid Ep;cases hcp:bZ (st.m sn) with
   |true=>
    rw[hcp] at HCM;rw[LU hs hcp] at hr;have HRR:=Lib.hid hr;have HV:=Lib.hid hv;have HB1:=Lib.hid hb1;have HB2:=Lib.hid hb2;clear hcm hent hr uQ Ep hup hcp hB hA hv hb1 hb2 hel hNv iq;generalize dN sn=q at*;go_wp2_with fail;refine HCM.out.mono ?_;rintro e1 w1 ⟨rfl,hb1⟩;go_wp2
    go_roundg f
    case measure=>omega
    case rel=>exact ⟨q,l,_,rfl,HUP.out,HRR.out,hl,KA.out,HB1.out.below hb1 HB1.out.lt,HB2.out.below hb1 HB2.out.lt,own_below HV.out hb1 (Nat.le_refl _),HB.out.trans (hb1.mono HB.out.size)⟩
   |false=>
    rw[hcp] at HCM;have Z0:=Lib.hid hent;clear hcm hent;have HV:=Lib.hid hv;have HB1:=Lib.hid hb1;have HB2:=Lib.hid hb2;have HHS:=Lib.hid hs;have Z4:=Lib.hid hcp;have HRR:=Lib.hid hr;clear hv hb1 hb2 hs hcp hr hB hA hNv iq uQ Ep hup;go_wp2_with fail;refine HCM.out.mono ?_;rintro e1 w1 ⟨rfl,hb1⟩;have HBa:=Lib.hid hb1;clear hb1 HCM;go_wp2_with fail;refine (Z0.out w1 HBa.out).mono ?_;rintro e2 w2 ⟨v2,rfl,hv2,hb2⟩;obtain ⟨A2,c2,rfl,Wi,_⟩:=bP.cO hv2;have hb2':Below wr.heap.size wr w2:=HBa.out.trans (hb2.mono HBa.out.size);have b1:=HB1.out.below hb2' HB1.out.lt;have b2:=HB2.out.below hb2' HB2.out.lt;have v2:=own_below HV.out hb2' (Nat.le_refl _);have BB:=HB.out.trans (hb2'.mono HB.out.size);have HRW:=Lib.hid (HH.out.below BB);have c0:=b2.cell 0;have c1:=b2.cell 1;have d0:=b2.frozen 0;have d1:=b2.frozen 1;simp at c0 c1;by_cases hfl:512<l.length+(iX sn (st.m sn)).length
    ·have hr:=HRR.out;rw[LV HHS.out Z4.out hfl] at hr;have dd:decide ((512:Int)<(l.length:Int)+((iX sn (st.m sn)).length:Int))=true:=decide_eq_true (by omega);generalize (iX sn (st.m sn)).length=N at*;have b2':aA (w2.setCell ⟨w.heap.size+1,0,none⟩ (.int .i64 (sn:Nat))) (w.heap.size+1) 42 #[.int .i64 (sn:Nat),.slice Av l.length cv]:=by simpa using b2.aC 0 (.int .i64 (sn:Nat))
     have b1':=b1.far (p:=⟨w.heap.size+1,0,none⟩) (by simp) (.int .i64 (sn:Nat));have v2':=ownsRow_setCell_other (a:=⟨w.heap.size+1,0,none⟩) v2 (iY v2 b2 (by decide)) (.int .i64 (sn:Nat));have Z5:=BB.setCell (p:=⟨w.heap.size+1,0,none⟩) (by simp) (.int .i64 (sn:Nat));obtain ⟨f1,f2,f3,f4⟩:=KC (w:=w) b1' v2' Z5 (Nat.le_refl _) (.int .i64 (sn:Nat)) (.slice Av l.length cv);have e0:=b2'.cell 0;have e1:=b2'.cell 1;have e2:=b1'.frozen 0;have e3:=b1'.frozen 1;have e4:=b1'.cell 0;have e5:=b1'.cell 1;simp at e0 e1 e4 e5;have F1:=Lib.hid f1;have F2:=Lib.hid f2;have F3:=Lib.hid f3;have F4:=Lib.hid f4;clear f1 f2 f3 f4 b1 b2 v2 BB b1' b2' v2' Z5 hb2 hb2' hv2 Wi;go_wp2_with fail;have q0:=F4.out.cell 0;have q1:=F4.out.cell 1;simp at q0 q1;refine bodyPost_ret (v:= .tuple #[.agg #[.int .i64 (sn:Nat),.slice Av l.length cv],.int .i64 0]) ?_ rfl ?_
     ·simp[results,Tryz.results10,go_sem,q0,q1]
     ·rw[hr];exact ⟨Av,cv,rfl,F1.out,F2.out,F3.out⟩
    ·have hr:=HRR.out;rw[LW HHS.out Z4.out hfl] at hr;have dd:decide ((512:Int)<(l.length:Int)+((iX sn (st.m sn)).length:Int))=false:=decide_eq_false (by omega);obtain ⟨E,hE⟩:∃E,iX sn (st.m sn)=E:=⟨_,rfl⟩
     rw[hE] at hr dd Wi hfl hel ⊢;have VU:=Lib.hid hr;have Oe:=Lib.hid v2;have HN2:=Lib.hid Wi;have Z6:=Lib.hid b1;have Z7:=Lib.hid b2;have vC:=Lib.hid BB;clear hr b1 b2 v2 BB hb2 hb2' hv2 Wi HRR HB1 HB2 HV HBa Z0;generalize dN sn=q at*;go_wp2_with (at_builtin;refine jZ _ rfl _ _ 40 rfl w.heap.size 116 i0 (.agg #[.int .i64 0,.bool false,.int .i64 0,.int .i64 0]) 32 zb hi hz0 hz1 hz2 rfl (.slice Av l.length cv) l.length (qg l) rfl Oe.out A2 E.length c2 E rfl HN2.out ?c3 ?c4 ?c5 ?_)
     case c3=>unfold maxLen;omega
     case c4=>omega
     case c5=>exact vC.out.size
     intro v5 w5 hown5 bF;have zI:w5.ownsRow w.heap.size 116 4 v5 (l++E).length (qg (l++E)):=by rw[El,List.length_append];exact hown5
     have hvb:∀j,(Value.slice Av l.length cv).ownBlock=some j→w.heap.size≤j:=fun j e=>(Oe.out.lt j e).1
     have b2:=Z7.out.grown bF (fun e=>iY Oe.out Z7.out (by decide) e.symm);have b1:=Z6.out.grown bF (fun e=>iY Oe.out Z6.out (by decide) e.symm);have BB:=vC.out.grown bF vC.out.size hvb;have hl5:(l++E).length≤512:=by rw[List.length_append];omega
     obtain ⟨A5,c5,rfl,_,_⟩:=bP.cO zI;obtain ⟨NL,hNL⟩:∃NL,(l++E).length=NL:=⟨_,rfl⟩
     rw[hNL] at zI hl5 ⊢;have HNL:=Lib.hid hNL;clear hNL;have d0:=b2.frozen 0;have d1:=b2.frozen 1;have d2:=b2.cell 1;simp at d2;have b2':aA (w5.setCell ⟨w.heap.size+1,1,none⟩ (.slice A5 NL c5)) (w.heap.size+1) 42 #[.int .i64 (st.status:Nat),.slice A5 NL c5]:=by simpa using b2.aC 1 (.slice A5 NL c5)
     have b1':=b1.far (p:=⟨w.heap.size+1,1,none⟩) (by simp) (.slice A5 NL c5);have v5':=ownsRow_setCell_other (a:=⟨w.heap.size+1,1,none⟩) zI (iY zI b2 (by decide)) (.slice A5 NL c5);have Z5:=BB.setCell (p:=⟨w.heap.size+1,1,none⟩) (by simp) (.slice A5 NL c5);have G1:=Lib.hid b1';have G2:=Lib.hid b2';have G3:=Lib.hid v5';have G4:=Lib.hid Z5;have G5:=Lib.hid hl5;clear b1 b2 BB b1' b2' v5' Z5 hown5 zI bF hvb hl5 c0 c1;go_wp2_with fail
     go_roundg f
     case measure=>omega
     case rel=>exact ⟨q,l++E,_,rfl,HUP.out,VU.out,by rw[HNL.out];exact G5.out,KA.out,G1.out,G2.out,by rw[HNL.out];exact G3.out,G4.out⟩
end
end
section
open Go.RowKit Go.Shelf
attribute [local go_sem] Oper.semAt_some
def vM (x:Nk):Nat:=if x.part=true then 42 else 12
def pV (l:List Nk):Nat:=(l.map vM).sum
def kZ (l:List Nk):Nat:=(15+pV l+7)/8
def nk0:Nk:=⟨0,false,0,0⟩
def Gy (more:Bool) (x:Nk):List (Nat × Nat):=
 [(x.sn.toNat,10),(more.toNat,1),(x.part.toNat,1)]++(if x.part=true then [(x.fr.toNat,15),(x.lt.toNat,15)] else [])
def kQ (l:List Nk):Nat→List (Nat × Nat)
 |0=> []
 |k+1=>kQ l k++Gy (decide (k+1<l.length)) (l[k]?.getD nk0)
def C6 (aI:Nat) (l:List Nk):List UInt8:=pack (aB ([(0,4),(aI,10),((decide (0<l.length)).toNat,1)]++kQ l l.length))
theorem iZ (a b:List (Nat × Nat)):aB (a++b)=aB a++aB b:=by simp[aB]
theorem JH (l:List Nk) (k:Nat) (x:Nk) (h:l[k]? =some x):pV (l.take (k+1))=pV (l.take k)+vM x:=by
 unfold pV;rw[List.take_add_one,h];simp
theorem O7 (l:List Nk):pV l≤42*l.length:=by
 induction l with
 |nil=>simp[pV]
 |cons x r ih=>
  simp only[pV,List.map_cons,List.sum_cons,List.length_cons] at ih ⊢;have:vM x≤42:=by unfold vM;split<;>omega
  omega
section
variable (w:World)
theorem vN (b:Bool):Calls Tryz.prog 89 #[.bool b] w fun e w'=>e= .returned (.int .u64 b.toNat)∧w'=w:=by
 cases b
 ·go_enter Tryz.func89,Tryz.ntmps89;go_wp2;go_ret;exact ⟨rfl,rfl⟩
 ·go_enter Tryz.func89,Tryz.ntmps89;go_wp2;go_ret;exact ⟨rfl,rfl⟩
theorem bP.get {w:World} {A:Option Addr} {n c:Nat} {l:List Nk} (h:bP w A n c l) {k:Nat} (hk:k<n):∃ad x,A=some ad∧l[k]? =some x∧(ad.add (k*4)).block<w.heap.size∧
 w.cell? (ad.add (k*4))=some (.int .i64 x.sn)∧w.cell? ⟨(ad.add (k*4)).block,(ad.add (k*4)).off+1,none⟩=some (.bool x.part)∧w.cell? ⟨(ad.add (k*4)).block,(ad.add (k*4)).off+2,none⟩=some (.int .i64 x.fr)∧w.cell? ⟨(ad.add (k*4)).block,(ad.add (k*4)).off+3,none⟩=some (.int .i64 x.lt):=by
 have hl:=h.len;obtain ⟨x,hx⟩:∃x,l[k]? =some x:=⟨_,List.getElem?_eq_getElem (by omega)⟩
 obtain ⟨ad,e,hb,hc⟩:=h.at_ (by omega);obtain ⟨k0,k1,k2,k3⟩:=hc k x hx;exact ⟨ad,x,e,hx,by rw[block_add];exact hb,k0,k1,k2,k3⟩
theorem bP.take {w:World} {A:Option Addr} {n c:Nat} {l:List Nk} (h:bP w A n c l) {k:Nat} (hk:k≤n):bP w A k k (l.take k):=by
 have hl:=h.len;have hc:=h.cap;have hm:=h.mx;refine ⟨by rw[List.length_take];omega,Nat.le_refl _,by omega,fun h0=> ?_⟩;obtain ⟨ad,e,hb,hcl⟩:=h.at_ (by omega);refine ⟨ad,e,hb,fun j r hr=>hcl j r ?_⟩;rw[List.getElem?_take] at hr;split at hr
 ·exact hr
 ·cases hr
theorem bP.takeC {w:World} {A:Option Addr} {n c c':Nat} {l:List Nk} (h:bP w A n c l) {k:Nat} (hk:k≤n) (h1:k≤c') (h2:c'≤9223372036854775807):bP w A k c' (l.take k):=
 let h3:=h.take hk
 ⟨h3.len,h1,h2,h3.at_⟩
theorem bP.uF {w:World} {A:Option Addr} {n c b o:Nat} {l:List Nk} (h:bP w A n c l) (hlt:∀ad,A=some ad→ad.block≠b) (u:Value):bP (w.setCell ⟨b,o,none⟩ u) A n c l:=
 ⟨h.len,h.cap,h.mx,fun hn=>by
  obtain ⟨ad,e,hl,hc⟩:=h.at_ hn;have hB:=hlt ad e;refine ⟨ad,e,by simpa[World.setCell] using hl,fun j r hr=> ?_⟩;obtain ⟨k0,k1,k2,k3⟩:=hc j r hr;have hbk:(w.setCell ⟨b,o,none⟩ u).heap[(ad.add (j*4)).block]? =w.heap[(ad.add (j*4)).block]? :=by rw[block_add];exact Below.heap_setCell w ⟨b,o,none⟩ u _ hB
  exact ⟨(World.cell?_of_block (a:=ad.add (j*4)) hbk).trans k0,(World.cell?_of_block (a:=⟨(ad.add (j*4)).block,_,none⟩) hbk).trans k1,(World.cell?_of_block (a:=⟨(ad.add (j*4)).block,_,none⟩) hbk).trans k2,(World.cell?_of_block (a:=⟨(ad.add (j*4)).block,_,none⟩) hbk).trans k3⟩⟩
theorem bP.O8 {w w':World} {A:Option Addr} {n c B:Nat} {l:List Nk} (h:bP w A n c l) (hb:Below B w w') (hlt:∀ad,A=some ad→0<n→ad.block<B):bP w' A n c l:=
 ⟨h.len,h.cap,h.mx,fun hn=>by
  obtain ⟨ad,e,hl,hc⟩:=h.at_ hn;have hB:=hlt ad e hn;have hbk:(ad.add (0*4)).block=ad.block:=block_add _ _;refine ⟨ad,e,Nat.lt_of_lt_of_le hl hb.size,fun j r hr=> ?_⟩;obtain ⟨k0,k1,k2,k3⟩:=hc j r hr;have hbk:(ad.add (j*4)).block<B:=by rw[block_add];exact hB
  exact ⟨(hb.cell hbk).trans k0,(hb.cell (p:=⟨(ad.add (j*4)).block,_,none⟩) hbk).trans k1,(hb.cell (p:=⟨(ad.add (j*4)).block,_,none⟩) hbk).trans k2,(hb.cell (p:=⟨(ad.add (j*4)).block,_,none⟩) hbk).trans k3⟩⟩
set_option maxRecDepth 10000 in
set_option maxHeartbeats 2000000 in
theorem LX (A:Option Addr) (n c:Nat) (l:List Nk) (h:bP w A n c l) (hn:n≤1000000):
 Calls Tryz.prog 88 #[.slice A n c] w fun e w'=>e= .returned (.int .i64 (kZ l:Nat))∧Below w.heap.size w w':=by
 have hlen:=h.len;have hcap:=h.cap;have hmx:=h.mx;have HL:=Lib.hid hlen;have HH:=Lib.hid h;clear hlen h;go_enter Tryz.func88,Tryz.ntmps88;go_wp2
 go_loopw [3,8] (fun t i wr=>∃k S:Nat,k≤n∧S=pV (l.take k)∧i= .int .i64 k∧t= .int .i64 ((15+S:Nat):Int)∧Below w.heap.size w wr) (fun _ i _=>n-(intOf i).toNat)
 case atStart=>exact ⟨0,0,Nat.zero_le _,by simp[pV],rfl,rfl,Below.refl _ _⟩
 case round=>
  obtain ⟨k,S,hk,hS,rfl,rfl,hb⟩:=hrel;have hSb:S≤42*k:=by rw[hS];have:=O7 (l.take k);have h2:(l.take k).length≤k:=List.length_take_le _ _;omega
  have hws:=hb.size;by_cases hlt:k<n
  ·obtain ⟨ad,x,rfl,hx,hbk,k0,k1,k2,k3⟩:=(HH.out.below hb).get hlt;have hsu:=JH l k x hx;have HZ:=Lib.hid (aA.new wr 116 #[.int .i64 x.sn,.bool x.part,.int .i64 x.fr,.int .i64 x.lt]);have HX:=Lib.hid hx;have c1:=HZ.out.cell 1;simp at c1;rw[←hS] at hsu;cases hp:x.part with
   |false=>
    rw[hp] at k1;have Er:pV (l.take (k+1))=S+12:=by rw[hsu];unfold vM;rw[hp];rfl
    have MO:=Lib.hid Er;have HS:=Lib.hid hS;have HP:=Lib.hid hp;clear hsu Er hS hx hp;go_wp2
    go_roundw
    case rel=>exact ⟨k+1,S+12,by omega,MO.out.symm,by go_num,by go_num,hb.alloc (by omega) _⟩
    case measure=>simp[intOf];omega
   |true=>
    rw[hp] at k1;have Er:pV (l.take (k+1))=S+42:=by rw[hsu];unfold vM;rw[hp];rfl
    have MO:=Lib.hid Er;have HS:=Lib.hid hS;have HP:=Lib.hid hp;clear hsu Er hS hx hp;go_wp2
    go_roundw
    case rel=>exact ⟨k+1,S+42,by omega,MO.out.symm,by go_num,by go_num,hb.alloc (by omega) _⟩
    case measure=>simp[intOf];omega
  ·obtain rfl:k=n:=by omega
   have e:kZ l=(15+S+7)/8:=by
    unfold kZ;rw[hS,List.take_of_length_le (by have:=HL.out;omega)]
   have HE:=Lib.hid e;have HS:=Lib.hid hS;clear e hS;go_wp2;go_ret;refine ⟨?_,hb⟩;rw[HE.out];have:((15+S:Nat):Int)+7=((15+S+7:Nat):Int):=by omega
   first
   |rfl
   |(congr 2;omega)
end
end
section
open Go.RowKit Go.Shelf
attribute [local go_sem] Oper.semAt_some
theorem Bz {aI:Int} {x:Nk} (h:iE aI x=true):(0≤x.sn∧x.sn<1024)∧(0≤x.fr∧x.fr≤32767∧0≤x.lt∧x.lt≤32767):=by
 unfold iE at h;simp only[Bool.and_eq_true,decide_eq_true_eq] at h;obtain ⟨h1,_,h2⟩:=h;refine ⟨h1,?_⟩;split at h2
 ·simp only[Bool.and_eq_true,decide_eq_true_eq] at h2;omega
 ·simp only[Bool.and_eq_true,decide_eq_true_eq] at h2;omega
theorem Gz {aI:Int} {l:List Nk} (h:bU aI l=true) {k:Nat} {x:Nk} (hx:l[k]? =some x):iE aI x=true:=by
 unfold bU at h;simp only[Bool.and_eq_true] at h;exact ((jX aI l).1 h.2.2 k x hx).1
theorem vO (l:List Nk):∀k,(aB (kQ l k)).length≤42*k
 |0=>by simp[kQ,aB]
 |k+1=>by
  have ih:=vO l k;rw[kQ,iZ,List.length_append];have:(aB (Gy (decide (k+1<l.length)) (l[k]?.getD nk0))).length≤42:=by
   unfold Gy;rw[iZ,List.length_append];split<;>simp[aB]
  omega
section
variable (w:World)
set_option maxRecDepth 10000 in
set_option maxHeartbeats 2000000 in
theorem GA (aI:Int) (A:Option Addr) (n c:Nat) (l:List Nk) (h:bP w A n c l) (hv:bU aI l=false):
 Calls Tryz.prog 41 #[.agg #[.int .i64 aI,.slice A n c]] w fun e w'=>e= .returned (.tuple #[.slice none 0 0,.int .i64 2])∧Below w.heap.size w w':=by
 have hB:Below w.heap.size w (w.alloc (.cells #[.int .i64 aI,.slice A n c] 42)):=(Below.refl _ w).alloc (Nat.le_refl _) _;have hva:=jY _ aI A n c l (h.alloc (.cells #[.int .i64 aI,.slice A n c] 42));rw[hv] at hva;have HB:=Lib.hid hB;have HV:=Lib.hid hva;clear hB hva hv h;go_enter Tryz.func41,Tryz.ntmps41;go_wp2_with (go_at_call 27;refine HV.out.mono ?_;rintro e1 w1 ⟨rfl,hb1⟩)
 go_ret2
 exact ⟨rfl,HB.out.trans (hb1.mono HB.out.size)⟩
set_option maxRecDepth 100000 in
set_option maxHeartbeats 4000000 in
theorem JI (aI:Nat) (A:Option Addr) (n c:Nat) (l:List Nk) (h:bP w A n c l) (hv:bU (aI:Int) l=true):
 Calls Tryz.prog 41 #[.agg #[.int .i64 (aI:Int),.slice A n c]] w (ql w.heap.size 5 w (C6 aI l).length (cu (C6 aI l)) 0):=by
 have hlen:=h.len;have hcap:=h.cap;have hmx:=h.mx;have hva:=jY _ (aI:Int) A n c l (h.alloc (.cells #[.int .i64 (aI:Int),.slice A n c] 42));rw[hv] at hva;have hv2:=hv;unfold bU at hv2;simp only[Bool.and_eq_true,decide_eq_true_eq] at hv2;have R9:aI≤1023:=by have:=hv2.1.2;omega
 have Z8:n≤512:=by have:=hv2.2.1;omega
 have hB:Below w.heap.size w (w.alloc (.cells #[.int .i64 (aI:Int),.slice A n c] 42)):=(Below.refl _ w).alloc (Nat.le_refl _) _;have b0:=aA.new w 42 #[.int .i64 (aI:Int),.slice A n c];have hN0:=h.alloc (.cells #[.int .i64 (aI:Int),.slice A n c] 42);have HB:=Lib.hid hB;have HV:=Lib.hid hva;have HL:=Lib.hid hlen;have MJ:=Lib.hid hv;clear hB hva hv hv2 hlen h;go_enter Tryz.func41,Tryz.ntmps41;go_wp2_with fail;refine HV.out.mono ?_;rintro e1 w1 ⟨rfl,hb1⟩;have hbw:Below w.heap.size w w1:=HB.out.trans (hb1.mono HB.out.size)
 replace b0:=b0.below hb1 b0.lt
 have hN1:=hN0.below hb1;have hlt1:=b0.lt;clear HV hb1 HB hN0;go_wp2_with fail;have hW2:oC (w1.alloc (.cells #[.slice none 0 0,.int .i64 0] 141)) w1.heap.size w1.heap.size []:=⟨Nat.le_refl _,_,aA.new w1 _ _,World.ownsRow_nil _ _ _ _⟩;have hbw2:=hbw.alloc hbw.size (.cells #[.slice none 0 0,.int .i64 0] 141)
 replace b0:=b0.alloc (.cells #[.slice none 0 0,.int .i64 0] 141)
 have Wi:=hN1.alloc (.cells #[.slice none 0 0,.int .i64 0] 141);obtain ⟨g,hg⟩:∃g,g=w1.heap.size:=⟨_,rfl⟩
 have hgl:w.heap.size<g:=by omega
 have hNb:∀ad,A=some ad→0<n→ad.block<g:=fun ad e h0=>by
  obtain ⟨wM,e',hb',_⟩:=hN1.at_ h0;rw[e] at e';cases e';omega
 rw[←hg] at hW2 ⊢;generalize w1.alloc (.cells #[.slice none 0 0,.int .i64 0] 141)=w2 at*;clear hbw hlt1 hg hN1;have c00:=b0.cell 0;have Z9:=b0.cell 1;simp at c00 Z9;have hwr:IntKind.u64.wrap (aI:Int)=aI:=by rw[IntKind.wrap_u64];omega
 have hdn:decide ((0:Int)<n)=decide (0<n):=by rw[Bool.eq_iff_iff];simp
 refine wp_region_still_tail 11 (by kernel_rfl) (by kernel_rfl) ?_;simp only[List.take_succ_cons,List.take_zero,List.drop_succ_cons,List.drop_zero]
 still_step
 still_step
 still_step
 still_step
 still_step
 still_step
 still_step
 still_step
 still_step
 still_call (vN _ _)
 still_step
 refine wpStill_nil ?_;change wpList _ _ _ _ _ w2.drew
 replace hW2:oC w2.drew g g []:=hW2
 replace hbw2:=hbw2.drew
 replace b0:=b0.drew
 have TK:=Wi.below ((Below.refl _ w2).drew);generalize w2.drew=w3 at*;clear c00 Z9 hwr hdn Wi;have hput:=je g g w3.heap.size [] [(0,4),(aI,10),((decide (0<n)).toNat,1)] (w3.alloc (.cells (bJ [(0,4),(aI,10),((decide (0<n)).toNat,1)]).toArray 144)) (hW2.alloc _) (by simp) (by simp) (aA.new _ _ _) (by
  intro x hx;simp only[List.mem_cons,List.not_mem_nil,or_false] at hx;have hb:∀b:Bool,b.toNat≤1:=fun b=>by cases b<;>simp
  rcases hx with rfl|rfl|rfl
  ·exact ⟨by omega,by decide,by omega⟩
  ·exact ⟨by omega,by simp;omega,by omega⟩
  ·exact ⟨by omega,by have:=hb (decide (0<n));simp;omega,by have:=hb (decide (0<n));omega⟩)
 simp only[bJ,List.length_cons,List.length_nil,Nat.zero_add,Nat.reduceAdd,List.nil_append] at hput;have mH:=Lib.hid hput;clear hput;go_wp2_with fail;refine mH.out.mono ?_;rintro e4 w4 ⟨rfl,Nr,hk4⟩;have hg3:g<w3.heap.size:=by obtain ⟨_,v,hb,_⟩:=hW2;exact hb.lt
 clear mH hW2;have hB4:=hk4.below (B:=g) (fun _ _ h=>h.1) (by simp;omega);have QE:=(hbw2.alloc hbw2.size _).trans (hB4.mono (by omega));have b04:=(b0.alloc (.cells #[.int .u64 0,.int .i64 4,.int .u64 aI,.int .i64 10,.int .u64 (decide (0<n)).toNat,.int .i64 1] 144)).below hB4 (by omega);have hN4:bP w4 A n c l:=by
  have h1:=TK.alloc (.cells #[.int .u64 0,.int .i64 4,.int .u64 aI,.int .i64 10,.int .u64 (decide (0<n)).toNat,.int .i64 1] 144);exact h1.O8 hB4 hNb
 clear hB4 hbw2 hk4 b0 TK;have Z9:=b04.cell 1;simp at Z9;obtain ⟨hd,hhd⟩:∃hd:List (Nat × Nat),hd= [(0,4),(aI,10),((decide (0<n)).toNat,1)]:=⟨_,rfl⟩
 rw[←hhd] at Nr;have Yp:(aB hd).length=15:=by rw[hhd];simp[aB]
 have henc:C6 aI l=pack (aB hd++aB (kQ l n)):=by unfold C6;rw[HL.out,hhd,iZ]
 have Yr:=Lib.hid Yp;have HE:=Lib.hid henc;have B04:=Lib.hid b04;have HN4:=Lib.hid hN4;generalize hEE:C6 aI l=EE at*;clear Yp henc hhd hEE b04 hN4;go_wp2
 go_loopw [26] (fun i wr=>∃k:Nat,k≤n∧i= .int .i64 k∧oC wr g g (aB hd++aB (kQ l k))∧Kept (Mw g g) w4 wr) (fun i _=>n-(intOf i).toNat)
 case atStart=>exact ⟨0,Nat.zero_le _,rfl,by simpa[kQ,aB] using Nr,Kept.refl _ _⟩
 case round=>
  obtain ⟨k,hk,rfl,Ns,Tk⟩:=hrel;have hgr:g<wr.heap.size:=by obtain ⟨_,v,hb,_⟩:=Ns;exact hb.lt
  have hg4:g<w4.heap.size:=by obtain ⟨_,v,hb,_⟩:=Nr;exact hb.lt
  have IE:=Tk.below (B:=g) (fun _ _ h=>h.1) (by omega);have IG:=QE.trans (IE.mono (by omega));by_cases hlt:k<n
  ·obtain ⟨ad,x,rfl,hx,hbk,k0,k1,k2,k3⟩:=(HN4.out.O8 IE hNb).get hlt;obtain ⟨⟨hs0,hs1⟩,hx2,hx3,hx4,hx5⟩:=Bz (Gz MJ.out hx);have hsu:kQ l (k+1)=kQ l k++Gy (decide (k+1<n)) x:=by rw[kQ,hx,HL.out];rfl
   obtain ⟨xs,xp,xf,xl⟩:=x;dsimp only at k0 k1 k2 k3 hs0 hs1 hx2 hx3 hx4 hx5;obtain ⟨xs,rfl⟩:=Int.eq_ofNat_of_zero_le hs0;obtain ⟨xf,rfl⟩:=Int.eq_ofNat_of_zero_le hx2;obtain ⟨xl,rfl⟩:=Int.eq_ofNat_of_zero_le hx4;have hlk:(aB hd++aB (kQ l k)).length≤50000:=by
    rw[List.length_append,Yr.out];have:=vO l k;omega
   have Er:aB hd++aB (kQ l (k+1))=(aB hd++aB (kQ l k))++aB ([(xs,10),((decide (k+1<n)).toNat,1),(xp.toNat,1)]++(if xp=true then [(xf,15),(xl,15)] else [])):=by
    rw[hsu,iZ];simp[Gy]
   obtain ⟨FN,Wj⟩:∃FN,aB hd++aB (kQ l (k+1))=FN:=⟨_,rfl⟩
   rw[Wj] at Er;have aaa:=Lib.hid Wj;clear Wj;generalize aB hd++aB (kQ l k)=FK at*;have hz0:aA (wr.alloc (.cells #[.int .i64 (xs:Int),.bool xp,.int .i64 (xf:Int),.int .i64 (xl:Int)] 116)) wr.heap.size 116 #[.int .i64 (xs:Int),.bool xp,.int .i64 (xf:Int),.int .i64 (xl:Int)]:=aA.new wr _ _;have Tj:=Ns.alloc (.cells #[.int .i64 (xs:Int),.bool xp,.int .i64 (xf:Int),.int .i64 (xl:Int)] 116);have Km:=Tk.alloc (.cells #[.int .i64 (xs:Int),.bool xp,.int .i64 (xf:Int),.int .i64 (xl:Int)] 116);have hb5:=(B04.out.below IE (by omega)).alloc (.cells #[.int .i64 (xs:Int),.bool xp,.int .i64 (xf:Int),.int .i64 (xl:Int)] 116);have MO:=Lib.hid Er;have HX:=Lib.hid hx;have HW5:=Lib.hid Tj;have sI:=Lib.hid Km;have Hw:=Lib.hid hb5;have HZ0:=Lib.hid hz0;have XQ:=Lib.hid (hz0.lt);clear hsu Er hx Ns Tk Tj Km hz0 hb5 IE;go_wp2_with fail;obtain ⟨bx,hbx⟩:∃b,b=wr.heap.size:=⟨_,rfl⟩
   have HZB:=Lib.hid (show wr.heap.size≤bx by omega);rw[←hbx] at HZ0 XQ ⊢;generalize wr.alloc (.cells #[.int .i64 (xs:Int),.bool xp,.int .i64 (xf:Int),.int .i64 (xl:Int)] 116)=w5 at*;have z0:=HZ0.out.cell 0;have z1:=HZ0.out.cell 1;have z2:=HZ0.out.cell 2;have z3:=HZ0.out.cell 3;have z4:=Hw.out.cell 1;simp at z0 z1 z2 z3 z4;clear k0 k1 k2 k3 Z9 hbx;have hwr:IntKind.u64.wrap (xs:Int)=xs:=by rw[IntKind.wrap_u64];omega
   have hw1:IntKind.i64.wrap ((k:Int)+1)=(k:Int)+1:=IntWalk.i64_in _ (by omega);have hdn:decide ((k:Int)+1<(n:Int))=decide (k+1<n):=by rw[Bool.eq_iff_iff];simp;omega
   refine wp_region_still_tail 16 (by kernel_rfl) (by kernel_rfl) ?_;simp only[List.take_succ_cons,List.take_zero,List.drop_succ_cons,List.drop_zero]
   still_step
   still_step
   still_step
   still_step
   still_step
   still_step
   still_step
   still_step
   still_step
   still_step
   still_call (vN _ _)
   still_step
   still_step
   still_step
   still_call (vN _ _)
   still_step
   refine wpStill_nil ?_;change wpList _ _ _ _ _ w5.drew;clear z0 z1 z2 z3 z4 hwr;have MH:=HZ0.out.drew;have hW6:oC w5.drew g g FK:=HW5.out;have Uh:=sI.out.drew;have Uc:=Lib.hid MH;have wm:=Lib.hid Uh;have HW6:=Lib.hid hW6;have aab:=Lib.hid (show bx<w5.drew.heap.size from XQ.out);clear HZ0 HW5 sI Hw XQ MH hW6 Uh;generalize w5.drew=w6 at*
   try simp only[hw1,hdn]
   obtain ⟨d,hd0⟩:∃d,d=decide (k+1<n):=⟨_,rfl⟩
   have Sb:=Lib.hid (show FN=FK++aB ([(xs,10),(d.toNat,1),(xp.toNat,1)]++(if xp=true then [(xf,15),(xl,15)] else [])) by rw[hd0];exact MO.out);rw[←hd0];clear hw1 hdn hd0 MO;have hbt:∀b:Bool,b.toNat≤1:=fun b=>by cases b<;>simp
   have hput:=je g g w6.heap.size FK [(xs,10),(d.toNat,1),(xp.toNat,1)] (w6.alloc (.cells (bJ [(xs,10),(d.toNat,1),(xp.toNat,1)]).toArray 144)) (HW6.out.alloc _) (by omega) (by simp) (aA.new _ _ _) (by
    intro x hx;simp only[List.mem_cons,List.not_mem_nil,or_false] at hx;rcases hx with rfl|rfl|rfl
    ·exact ⟨by omega,by simp;omega,by omega⟩
    ·exact ⟨by omega,by have:=hbt d;simp;omega,by have:=hbt d;omega⟩
    ·exact ⟨by omega,by have:=hbt xp;simp;omega,by have:=hbt xp;omega⟩)
   simp only[bJ,List.length_cons,List.length_nil,Nat.zero_add,Nat.reduceAdd] at hput;have mH:=Lib.hid hput;clear hput;go_wp2_with fail;refine mH.out.mono ?_;rintro e7 w7 ⟨rfl,Nq,Hr⟩;have II:=Hr.below (B:=g) (fun _ _ h=>h.1) (by have:=aab.out;have:=HZB.out;simp;omega);have Nv:=(wm.out.alloc (.cells #[.int .u64 xs,.int .i64 10,.int .u64 d.toNat,.int .i64 1,.int .u64 xp.toNat,.int .i64 1] 144)).trans Hr;have Wl:aA w7 bx 116 #[.int .i64 (xs:Int),.bool xp,.int .i64 (xf:Int),.int .i64 (xl:Int)]:=by
    refine (Uc.out.alloc (.cells #[.int .u64 xs,.int .i64 10,.int .u64 d.toNat,.int .i64 1,.int .u64 xp.toNat,.int .i64 1] 144)).kept Hr ?_;rintro ⟨_,e|⟨cs,fr,e⟩⟩
    ·have:=HZB.out;omega
    ·cases e
   have hl7:(FK++aB [(xs,10),(d.toNat,1),(xp.toNat,1)]).length≤60000:=by simp[aB];omega
   have HW7:=Lib.hid Nq;have MN:=Lib.hid Nv;have HZ7:=Lib.hid Wl;clear mH II Nq Nv Hr Wl HW6 wm Uc aab;have z1:=HZ7.out.cell 1;have z2:=HZ7.out.cell 2;have z3:=HZ7.out.cell 3;simp at z1 z2 z3;cases xp with
   |false=>
    have hfn:FN=FK++aB [(xs,10),(d.toNat,1),((false).toNat,1)]:=by rw[Sb.out];rfl
    have NF:=Lib.hid hfn;clear hfn Sb hbt;go_wp2_with fail
    go_roundw
    case rel=>exact ⟨k+1,by omega,by go_num,by rw[aaa.out,NF.out];exact HW7.out,MN.out⟩
    case measure=>simp[intOf];omega
   |true=>
    have hfn:FN=(FK++aB [(xs,10),(d.toNat,1),((true).toNat,1)])++aB [(xf,15),(xl,15)]:=by rw[Sb.out,List.append_assoc,←iZ];rfl
    have NF:=Lib.hid hfn;have hput:=je g g w7.heap.size _ [(xf,15),(xl,15)] (w7.alloc (.cells (bJ [(xf,15),(xl,15)]).toArray 144)) (HW7.out.alloc _) (by omega) (by simp) (aA.new _ _ _) (by
     intro x hx;simp only[List.mem_cons,List.not_mem_nil,or_false] at hx;rcases hx with rfl|rfl
     ·exact ⟨by omega,by simp;omega,by omega⟩
     ·exact ⟨by omega,by simp;omega,by omega⟩)
    simp only[bJ,List.length_cons,List.length_nil,Nat.zero_add,Nat.reduceAdd] at hput;have mH:=Lib.hid hput;have hwf:IntKind.u64.wrap (xf:Int)=xf:=by rw[IntKind.wrap_u64];omega
    have hwl:IntKind.u64.wrap (xl:Int)=xl:=by rw[IntKind.wrap_u64];omega
    clear hput hfn Sb hbt;go_wp2_with fail;refine mH.out.mono ?_;rintro e8 w8 ⟨rfl,hW8,ZJ⟩;have HW8:=Lib.hid hW8;have ZK:=Lib.hid ((MN.out.alloc (.cells #[.int .u64 xf,.int .i64 15,.int .u64 xl,.int .i64 15] 144)).trans ZJ);clear hW8 ZJ mH;go_wp2_with fail
    go_roundw
    case rel=>exact ⟨k+1,by omega,by go_num,by rw[aaa.out,NF.out];exact HW8.out,ZK.out⟩
    case measure=>simp[intOf];omega
  ·obtain rfl:k=n:=by omega
   have hlk:(aB hd++aB (kQ l k)).length≤50000:=by
    rw[List.length_append,Yr.out];have:=vO l k;omega
   have hby:=BL g g _ wr Ns (by omega);have HBY:=Lib.hid hby;clear hby Ns hlk;go_wp2_with fail;refine HBY.out.mono ?_;rintro e7 w7 ⟨v7,rfl,hv7,nV⟩;have II:=IG.trans (nV.mono (by have:=IG.size;omega));rw[←HE.out] at hv7;have HV7:=Lib.hid (aW (base':=w.heap.size) hv7 IG.size);have HB7:=Lib.hid II;clear II hv7 nV;go_wp2_with fail
   go_ret2
   exact ⟨v7,rfl,HV7.out,HB7.out⟩
end
end
section
open Go.RowKit Go.Shelf
attribute [local go_sem] Oper.semAt_some
def GB (l:List Nk) (q:Nat):Int:=(l[q]?.getD nk0).sn
def BA (l:List Nk) (N:Nat):Nat→Int × Nat→Int × Nat
 |0,y=>y
 |q+1,y=>if kZ (l.take y.2)≤N then y else if 0<q∧GB l q=GB l (q-1) then BA l N q y else BA l N q (GB l q,q)
def GD (aI:Int) (l:List Nk) (N:Nat):Int × Nat:=BA l N l.length (aI,l.length)
theorem LY {l:List Nk} {N q:Nat} {y:Int × Nat} (h:kZ (l.take y.2)≤N):BA l N q y=y:=by
 cases q with
 |zero=>rfl
 |succ q=>rw[BA,if_pos h]
section
variable (w:World)
set_option maxRecDepth 10000 in
set_option maxHeartbeats 2000000 in
theorem O9 (aI:Int) (A:Option Addr) (n c:Nat) (l:List Nk) (h:bP w A n c l) (hv:bU aI l=false) (N:Int):
 Calls Tryz.prog 40 #[.agg #[.int .i64 aI,.slice A n c],.int .i64 N] w fun e w'=>e= .returned (.tuple #[.agg #[.int .i64 0,.slice none 0 0],.int .i64 2])∧Below w.heap.size w w':=by
 have hB:Below w.heap.size w ((w.alloc (.cells #[.int .i64 aI,.slice A n c] 42)).alloc (.cells #[.int .i64 0,.slice none 0 0] 42)):=((Below.refl _ w).alloc (Nat.le_refl _) _).alloc (by simp) _;have hva:=jY _ aI A n c l ((h.alloc (.cells #[.int .i64 aI,.slice A n c] 42)).alloc (.cells #[.int .i64 0,.slice none 0 0] 42));rw[hv] at hva;have hz:=aA.new (w.alloc (.cells #[.int .i64 aI,.slice A n c] 42)) 42 #[.int .i64 0,.slice none 0 0];rw[World.size_alloc] at hz;have HB:=Lib.hid hB;have HV:=Lib.hid hva;have HZ:=Lib.hid hz;clear hB hva hv h hz;go_enter Tryz.func40,Tryz.ntmps40;go_wp2_with fail;refine HV.out.mono ?_;rintro e1 w1 ⟨rfl,hb1⟩;have hz1:=HZ.out.below hb1 HZ.out.lt;have c0:=hz1.cell 0;have c1:=hz1.cell 1;have f0:=hz1.frozen 0;have f1:=hz1.frozen 1;simp at c0 c1;have hB1:=HB.out.trans (hb1.mono HB.out.size);have HB1:=Lib.hid hB1;have HZ1:=Lib.hid hz1;clear hB1 hz1 HZ HV HB hb1;go_wp2_with fail;refine bodyPost_ret (v:= .tuple #[.agg #[.int .i64 0,.slice none 0 0],.int .i64 2]) ?_ rfl ?_
 ·have h1:=(HZ1.out.aC 0 (.int .i64 0));have h2:=h1.aC 1 (.slice none 0 0);have q0:=h2.cell 0;have q1:=h2.cell 1;simp at q0 q1;simp[results,Tryz.results40,go_sem,q0,q1]
 ·exact ⟨rfl,(HB1.out.setCell (p:=⟨w.heap.size+1,0,none⟩) (by simp) _).setCell (p:=⟨w.heap.size+1,1,none⟩) (by simp) _⟩
theorem GG {l:List Nk} {q:Nat} {x:Nk} (h:l[q]? =some x):GB l q=x.sn:=by unfold GB;rw[h];rfl
set_option maxRecDepth 100000 in
set_option maxHeartbeats 4000000 in
theorem Sc (aI:Int) (A:Option Addr) (n c:Nat) (l:List Nk) (h:bP w A n c l) (hv:bU aI l=true) (N:Nat) (hN:2≤N):
 Calls Tryz.prog 40 #[.agg #[.int .i64 aI,.slice A n c],.int .i64 (N:Int)] w fun e w'=>∃A' c',e= .returned (.tuple #[.agg #[.int .i64 (GD aI l N).1,.slice A' (GD aI l N).2 c'],.int .i64 0])∧bP w' A' (GD aI l N).2 c' (l.take (GD aI l N).2)∧(∀ad,A'=some ad→w.heap.size≤ad.block)∧Below w.heap.size w w':=by
 have Z8:n≤512:=by
  have hv2:=hv;unfold bU at hv2;simp only[Bool.and_eq_true,decide_eq_true_eq] at hv2;have:=h.len;omega
 obtain ⟨R,hR⟩:∃R,R=GD aI l N:=⟨_,rfl⟩
 rw[←hR];have hB:Below w.heap.size w ((w.alloc (.cells #[.int .i64 aI,.slice A n c] 42)).alloc (.cells #[.int .i64 0,.slice none 0 0] 42)):=((Below.refl _ w).alloc (Nat.le_refl _) _).alloc (by simp) _;have hva:=jY _ aI A n c l ((h.alloc (.cells #[.int .i64 aI,.slice A n c] 42)).alloc (.cells #[.int .i64 0,.slice none 0 0] 42));rw[hv] at hva;have hs:=(aA.new w 42 #[.int .i64 aI,.slice A n c]).alloc (.cells #[.int .i64 0,.slice none 0 0] 42);have hz:=aA.new (w.alloc (.cells #[.int .i64 aI,.slice A n c] 42)) 42 #[.int .i64 0,.slice none 0 0];rw[World.size_alloc] at hz;have HB:=Lib.hid hB;have HV:=Lib.hid hva;have HS:=Lib.hid hs;have HZ:=Lib.hid hz;have HN:=Lib.hid (h.below hB);have HL:=Lib.hid h.len;have HR:=Lib.hid hR;have afj:=Lib.hid (fun (ad:Addr) (e:A=some ad) (h0:0<n)=>show ad.block<w.heap.size by
  obtain ⟨wM,e',hb',_⟩:=h.at_ h0;rw[e] at e';cases e';exact hb')
 have hcap:=h.cap;have hmx:=h.mx;clear hB hva hv hz hs hR h;go_enter Tryz.func40,Tryz.ntmps40;go_wp2_with fail;refine HV.out.mono ?_;rintro e1 w1 ⟨rfl,hb1⟩;have hz1:=HZ.out.below hb1 HZ.out.lt;have hs1:=HS.out.below hb1 HS.out.lt;have hN1:=HN.out.below hb1;have hB1:=HB.out.trans (hb1.mono HB.out.size);have c0:=hs1.cell 0;have c1:=hs1.cell 1;simp at c0 c1;have HB1:=Lib.hid hB1;have HZ1:=Lib.hid hz1;have BN:=Lib.hid hs1;have HN1:=Lib.hid hN1;clear hB1 hz1 hs1 hN1 HZ HS HV HB HN hb1;have pJ:=Lib.hid (fun (W:World) (hW:Below w1.heap.size w1 W)=>wD A n c l W (HN1.out.below hW) (by omega));go_upto_region 5 with (fail)
 go_cut [6] (fun s6 wx=>∃b A' c',s6= .pointer (some ⟨b,0,none⟩)∧aA wx b 42 #[.int .i64 aI,.slice A' n c']∧bP wx A' n c' l∧w1.heap.size≤b∧Below w1.heap.size w1 wx∧∀ad,A'=some ad→w1.heap.size≤ad.block∧ad.block≠b)
 case first=>
  have lG:Tryz.prog.follows .mixedOrders=true:=by kernel_rfl
  refine bM (fun w'=>w'.cell? ⟨w.heap.size,0,none⟩=some (.int .i64 aI)∧w'.cell? ⟨w.heap.size,1,none⟩=some (.slice A n c)) [7] lG ?_;have hHeld:=(show (fun w':World=>w'.cell? ⟨w.heap.size,0,none⟩=some (.int .i64 aI)∧w'.cell? ⟨w.heap.size,1,none⟩=some (.slice A n c)) w1.drew from ⟨c0,c1⟩);refine tkY 0 ?_ rfl (Or.inl ⟨by rfl,?_⟩) hHeld ?_;rotate_left
  ·intro w' hSw;go_simp
   try with_reducible rfl
  try simp only[Act.put,zzA,zzE,yo,UM,zzD]
  refine tkX [5,7] 1 ?_ rfl (Or.inl ⟨by rfl,?_⟩) hHeld ?_;rotate_left
  ·intro w' hSw;obtain ⟨hS1,hS2⟩:=hSw;go_simp
   try with_reducible rfl
  try simp only[Act.put,zzA,zzE,zzF,yo,UM,zzD]
  refine tkY 2 ?_ rfl (Or.inl ⟨by rfl,?_⟩) hHeld ?_;rotate_left
  ·intro w' hSw;go_simp
   try with_reducible rfl
  try simp only[Act.put,zzA,zzE,zzF,yo,UM,zzD]
  refine tkX [4,5,7] 3 ?_ rfl (Or.inl ⟨by rfl,?_⟩) hHeld ?_;rotate_left
  ·intro w' hSw;obtain ⟨hS1,hS2⟩:=hSw;go_simp
   try with_reducible rfl
  try simp only[Act.put,zzA,zzE,zzF,yo,UM,zzD]
  refine oW (i:=4) (k:=6) rfl rfl (by kernel_rfl) (by rfl) (by rfl) (fun K hK=> ?_) (fun K hK=> ?_)
  ·go_simp;refine (pJ.out _ (Below.refl _ w1).drew).mono ?_;rintro e w5 ⟨A',c',rfl,k1,k2,k3⟩;have hb6:=BN.out.drew.below k3 BN.out.drew.lt;have q0:=hb6.cell 0;have q1:=hb6.cell 1;simp at q0 q1;refine hK _ _ (show (fun w':World=>w'.cell? ⟨w.heap.size,0,none⟩=some (.int .i64 aI)∧w'.cell? ⟨w.heap.size,1,none⟩=some (.slice A n c)) _ from ⟨q0,q1⟩) ?_;clear hK K hHeld;have hHeld:=(show (fun w':World=>w'.cell? ⟨w.heap.size,0,none⟩=some (.int .i64 aI)∧w'.cell? ⟨w.heap.size,1,none⟩=some (.slice A n c)) _ from ⟨q0,q1⟩)
   try simp only[Act.put,zzA,zzE,zzF,yo,UM,zzD]
   refine tkY 5 ?_ rfl (Or.inl ⟨by rfl,?_⟩) hHeld ?_;rotate_left
   ·intro w' hSw;go_simp
    try with_reducible rfl
   try simp only[Act.put,zzA,zzE,zzF,yo,UM,zzD]
   refine bu (i:=6) rfl (by kernel_rfl) (by rfl) (fun K hK=> ?_);go_simp;have hb6:=BN.out.drew.below k3 BN.out.drew.lt;have nV:=hb6.alloc (.cells #[.int .i64 0,.slice none 0 0] 42);have q0:=nV.cell 0;have q1:=nV.cell 1;simp at q0 q1;refine hK _ _ (show (fun w':World=>w'.cell? ⟨w.heap.size,0,none⟩=some (.int .i64 aI)∧w'.cell? ⟨w.heap.size,1,none⟩=some (.slice A n c)) _ from ⟨q0,q1⟩) ?_;clear hK K hHeld;have hHeld:=(show (fun w':World=>w'.cell? ⟨w.heap.size,0,none⟩=some (.int .i64 aI)∧w'.cell? ⟨w.heap.size,1,none⟩=some (.slice A n c)) _ from ⟨q0,q1⟩)
   try simp only[Act.put,zzA,zzE,zzF,yo,UM,zzD]
   refine aQ (i:=7) rfl (by kernel_rfl) (by kernel_rfl) (by rfl) (fun K hK=> ?_);go_simp;refine hK _ _ ?_;clear hK K
   try simp only[Act.put,zzA,zzE,zzF,yo,UM,zzD]
   refine aU (by kernel_rfl) ?_ _;have yQ:=k3.size;rw[World.size_drew] at yQ;have oQ:aA ((w5.alloc (.cells #[.int .i64 0,.slice none 0 0] 42))) w5.heap.size 42 #[.int .i64 0,.slice none 0 0]:=aA.new w5 _ _;go_wp2_with fail;go_meet;exact ⟨w5.heap.size,A',c',rfl,aA.new w5 _ _,k1.alloc _,yQ,((Below.refl w1.heap.size w1).drew.trans (k3.mono (Nat.le_refl _))).alloc yQ _,fun ad e=>by have:=k2 ad e;rw[World.size_drew] at this;omega⟩
  ·go_simp;have hb6:=BN.out.drew.alloc (.cells #[.int .i64 0,.slice none 0 0] 42);have q0:=hb6.cell 0;have q1:=hb6.cell 1;simp at q0 q1;refine hK _ _ (show (fun w':World=>w'.cell? ⟨w.heap.size,0,none⟩=some (.int .i64 aI)∧w'.cell? ⟨w.heap.size,1,none⟩=some (.slice A n c)) _ from ⟨q0,q1⟩) ?_;clear hK K hHeld;have hHeld:=(show (fun w':World=>w'.cell? ⟨w.heap.size,0,none⟩=some (.int .i64 aI)∧w'.cell? ⟨w.heap.size,1,none⟩=some (.slice A n c)) _ from ⟨q0,q1⟩)
   try simp only[Act.put,zzA,zzE,zzF,yo,UM,zzD]
   refine bu (i:=4) rfl (by kernel_rfl) (by rfl) (fun K hK=> ?_);go_simp;refine (pJ.out _ ((Below.refl _ w1).drew.alloc (by simp) _)).mono ?_;rintro e w5 ⟨A',c',rfl,k1,k2,k3⟩;have nV:=hb6.below k3 hb6.lt;have q0:=nV.cell 0;have q1:=nV.cell 1;simp at q0 q1;refine hK _ _ (show (fun w':World=>w'.cell? ⟨w.heap.size,0,none⟩=some (.int .i64 aI)∧w'.cell? ⟨w.heap.size,1,none⟩=some (.slice A n c)) _ from ⟨q0,q1⟩) ?_;clear hK K hHeld;have hHeld:=(show (fun w':World=>w'.cell? ⟨w.heap.size,0,none⟩=some (.int .i64 aI)∧w'.cell? ⟨w.heap.size,1,none⟩=some (.slice A n c)) _ from ⟨q0,q1⟩)
   try simp only[Act.put,zzA,zzE,zzF,yo,UM,zzD]
   refine tkY 5 ?_ rfl (Or.inl ⟨by rfl,?_⟩) hHeld ?_;rotate_left
   ·intro w' hSw;go_simp
    try with_reducible rfl
   try simp only[Act.put,zzA,zzE,zzF,yo,UM,zzD]
   have yQ:=k3.size;simp only[World.size_alloc,World.size_drew] at yQ;have oQ:=(aA.new w1.drew 42 #[.int .i64 0,.slice none 0 0]).below k3 (by simp);rw[World.size_drew] at oQ;have z0:=oQ.cell 0;have z1:=oQ.cell 1;have z2:=oQ.frozen 0;have z3:=oQ.frozen 1;simp at z0 z1;refine aQ (i:=7) rfl (by kernel_rfl) (by kernel_rfl) (by rfl) (fun K hK=> ?_);go_simp;refine hK _ _ ?_;clear hK K
   try simp only[Act.put,zzA,zzE,zzF,yo,UM,zzD]
   refine aU (by kernel_rfl) ?_ _;go_wp2_with fail;go_meet;exact ⟨w1.heap.size,A',c',rfl,by simpa using (oQ.aC 0 (.int .i64 aI)).aC 1 (.slice A' n c'),(k1.uF (fun ad e=>by have:=(k2 ad e).1;simp at this;omega) _).uF (fun ad e=>by have:=(k2 ad e).1;simp at this;omega) _,Nat.le_refl _,((((Below.refl _ w1).drew.alloc (by simp) _).trans (k3.mono (by simp))).setCell (p:=⟨w1.heap.size,0,none⟩) (Nat.le_refl _) _).setCell (p:=⟨w1.heap.size,1,none⟩) (Nat.le_refl _) _,fun ad e=>by have:=k2 ad e;simp at this;omega⟩
 case rest=>
 obtain ⟨b,A',c',rfl,k1,k2,k3,k4,hAL⟩:=hcut;have alP:=k1.lt;have hS:=BN.out.below k4 BN.out.lt;have hZ:=HZ1.out.below k4 HZ1.out.lt;have hNs:=HN1.out.below k4;have hBc:=HB1.out.trans (k4.mono HB1.out.size);have alQ:w.heap.size+1<w1.heap.size:=HZ1.out.lt;have z1:=hS.cell 1;have z2:=k1.cell 1;simp at z1 z2;have hw1:IntKind.i64.wrap ((n:Int)-1)=(n:Int)-1:=IntWalk.i64_in _ (by omega);have HS:=Lib.hid hS;have HZ:=Lib.hid hZ;have HNs:=Lib.hid hNs;have HBc:=Lib.hid hBc;have K1:=Lib.hid k1;have K2:=Lib.hid k2;clear hS hZ hNs hBc k1 k2 k4 BN HZ1 HN1 HB1 c0 c1 pJ;have xB:=Lib.hid hAL;clear hAL;have hkk:c'≤9223372036854775807:=K2.out.mx;have hkc:n≤c':=K2.out.cap;go_wp2_with fail
 go_loopw [7] (fun s7 wr=>∃(q:Nat) (y:Int × Nat) (c2:Nat),s7= .int .i64 ((q:Int)-1)∧q≤n∧q≤y.2∧y.2≤n∧y.2≤c2∧c2≤9223372036854775807∧(q=0→y.2=0)∧BA l N q y=R∧aA wr b 42 #[.int .i64 y.1,.slice A' y.2 c2]∧aA wr w.heap.size 42 #[.int .i64 aI,.slice A n c]∧aA wr (w.heap.size+1) 42 #[.int .i64 0,.slice none 0 0]∧bP wr A' n c' l∧bP wr A n c l∧Below w.heap.size w wr) (fun s7 _=>(intOf s7+1).toNat)
 case atStart=>
  refine ⟨n,(aI,n),c',rfl,Nat.le_refl _,Nat.le_refl _,Nat.le_refl _,hkc,hkk,fun e=>e,?_,K1.out,HS.out,HZ.out,K2.out,HNs.out,HBc.out⟩;rw[HR.out,GD,HL.out]
 case round=>
  clear z1 z2 K1 HS HZ K2 HNs HBc;obtain ⟨q,⟨ya,yn⟩,c2,rfl,hq,hqy,hyn,hyc,hc2,hq0,hfit,h1,h2,h3,h4,h5,h6⟩:=hrel;dsimp only at hqy hyn hyc hq0 h1;have z1:=h2.cell 1;have z2:=h1.cell 1;simp at z1 z2;have hsz:=fun W (hW:Below wr.heap.size wr W)=>LX W A' yn c2 (l.take yn) ((h4.takeC hyn hyc hc2).below hW) (by omega)
  have wu:=Lib.hid hsz;have H1:=Lib.hid h1;have H2:=Lib.hid h2;have H3:=Lib.hid h3;have H4:=Lib.hid h4;have H5:=Lib.hid h5;have H6:=Lib.hid h6;clear hsz h1 h2 h3 h4 h5 h6;by_cases hle:kZ (l.take yn)≤N
  ·rw[LY (by exact hle)] at hfit;have dd:decide ((N:Int)<(kZ (l.take yn):Int))=false:=decide_eq_false (by omega);have LZ:=Lib.hid (wu.out wr (Below.refl _ _));generalize kZ (l.take yn)=SZ at*;clear wu;go_wp2_with fail;refine LZ.out.mono ?_;rintro e1 w2 ⟨rfl,hb2⟩;have g1:=H1.out.below hb2 H1.out.lt;have g3:=H3.out.below hb2 H3.out.lt;have g4:=(H4.out.takeC hyn hyc hc2).below hb2;have g6:=H6.out.trans (hb2.mono H6.out.size);have y0:=g1.cell 0;have y1:=g1.cell 1;have y2:=g3.cell 0;have y3:=g3.cell 1;have y4:=g3.frozen 0;have y5:=g3.frozen 1;simp at y0 y1 y2 y3;have G3:=Lib.hid g3;have G4:=Lib.hid g4;have G6:=Lib.hid g6;have HF:=Lib.hid hfit;clear g1 g3 g4 g6 hb2 LZ H1 H2 H3 H4 H5 H6 hfit z1 z2;go_wp2_with fail;refine bodyPost_ret (v:= .tuple #[.agg #[.int .i64 ya,.slice A' yn c2],.int .i64 0]) ?_ rfl ?_
   ·have k1:=(G3.out.aC 0 (.int .i64 ya));have k2:=k1.aC 1 (.slice A' yn c2);have q0:=k2.cell 0;have q1:=k2.cell 1;simp at q0 q1;simp[results,Tryz.results40,go_sem,q0,q1]
   ·rw[←HF.out];exact ⟨A',c2,rfl,(G4.out.uF (fun ad e=>by have:=xB.out ad e;omega) _).uF (fun ad e=>by have:=xB.out ad e;omega) _,fun ad e=>by have:=xB.out ad e;omega,(G6.out.setCell (p:=⟨w.heap.size+1,0,none⟩) (by simp) _).setCell (p:=⟨w.heap.size+1,1,none⟩) (by simp) _⟩
  ·obtain ⟨p,rfl⟩:∃p,q=p+1:=⟨q-1,by
    rcases Nat.eq_zero_or_pos q with e|e
    ·exfalso;rw[hq0 e] at hle;have:kZ (l.take 0)=2:=by simp[kZ,pV]
     omega
    ·omega⟩
   rw[show (((p+1:Nat):Int)-1)=(p:Int) by omega];have hln:=HL.out;have dd:(N:Int)<(kZ (l.take yn):Int):=by omega
   have LZ:=Lib.hid (wu.out wr (Below.refl _ _));have E4:=Lib.hid hle;have hstep:BA l N (p+1) (ya,yn)=if 0<p∧GB l p=GB l (p-1) then BA l N p (ya,yn) else BA l N p (GB l p,p):=by
    rw[BA,if_neg (by exact hle)]
   rw[hstep] at hfit;obtain ⟨SZ,hSZ⟩:∃SZ,kZ (l.take yn)=SZ:=⟨_,rfl⟩
   rw[hSZ] at dd LZ;clear wu hstep hle hSZ;go_wp2_with fail;refine LZ.out.mono ?_;rintro e1 w2 ⟨rfl,hb2⟩;have g1:=H1.out.below hb2 H1.out.lt;have g2:=H2.out.below hb2 H2.out.lt;have g3:=H3.out.below hb2 H3.out.lt;have g4:=H4.out.below hb2;have g5:=H5.out.below hb2;have g6:=H6.out.trans (hb2.mono H6.out.size);obtain ⟨ad,x,rfl,hx,hbk,x0,x1,x2,x3⟩:=g5.get (k:=p) (by omega);rw[GG hx] at hfit;have G1:=Lib.hid g1;have G2:=Lib.hid g2;have G3:=Lib.hid g3;have G4:=Lib.hid g4;have G5:=Lib.hid g5;have G6:=Lib.hid g6;have Kr:=Lib.hid (fun (wM:Addr) (e:some ad=some wM)=>show wM.block≠b by have:=afj.out wM e (by omega);omega);clear LZ H1 H2 H3 H4 H5 H6 hb2 x1 x2 x3 z1 z2;have y2:=g2.cell 1;simp at y2;clear g1 g2 g3 g4 g5 g6;rcases Nat.eq_zero_or_pos p with hp0|hp0
   ·subst hp0;rw[if_neg (by omega)] at hfit;rw[show (((0:Nat):Int))=0 from rfl];go_wp2_with fail
    go_quiet (fail)
    have g1:=G1.out.drewN nq;have g2:=G2.out.drewN nq;have g3:=G3.out.drewN nq;have g4:=G4.out.drewN nq;have g5:=G5.out.drewN nq;have g6:=G6.out.drewN nq;have Qc:(w2.drewN nq).cell? ad=some (.int .i64 x.sn):=by rw[show ad.add (0*4)=ad by cases ad;simp[Addr.add]] at x0;exact x0
    have h0n:0<n:=by omega
    clear x0 y2 G1 G2 G3 G4 G5 G6;have x0:=Qc;clear Qc;generalize w2.drewN nq=w3 at*;have f0:=g1.frozen 0;have f1:=g1.frozen 1;have y0:=g1.cell 0;have y1:=g1.cell 1;have y2:=g2.cell 1;simp at y0 y1 y2;have b1':aA ((w3.setCell ⟨b,0,none⟩ (.int .i64 x.sn)).setCell ⟨b,1,none⟩ (.slice A' 0 0)).drew b 42 #[.int .i64 x.sn,.slice A' 0 0]:=by
     have h9:=(g1.aC 0 (.int .i64 x.sn)).aC 1 (.slice A' 0 0);simp at h9;exact h9.drew
    have b2':=((g2.far (p:=⟨b,0,none⟩) (by simp;omega) (.int .i64 x.sn)).far (p:=⟨b,1,none⟩) (by simp;omega) (.slice A' 0 0)).drew;have b3':=((g3.far (p:=⟨b,0,none⟩) (by simp;omega) (.int .i64 x.sn)).far (p:=⟨b,1,none⟩) (by simp;omega) (.slice A' 0 0)).drew;have b4':=((g4.uF (b:=b) (o:=0) (fun ad e=>by have:=xB.out ad e;omega) (.int .i64 x.sn)).uF (b:=b) (o:=1) (fun ad e=>by have:=xB.out ad e;omega) (.slice A' 0 0)).drewN 1;have b5':=((g5.uF (b:=b) (o:=0) (fun wM e=>Kr.out wM e) (.int .i64 x.sn)).uF (b:=b) (o:=1) (fun wM e=>Kr.out wM e) (.slice A' 0 0)).drewN 1;have b6':=((g6.setCell (p:=⟨b,0,none⟩) (by simp;omega) (.int .i64 x.sn)).setCell (p:=⟨b,1,none⟩) (by simp;omega) (.slice A' 0 0)).drew;have B1:=Lib.hid b1';have B2:=Lib.hid b2';have B3:=Lib.hid b3';have B4:=Lib.hid b4';have B5:=Lib.hid b5';have B6:=Lib.hid b6';have HF:=Lib.hid hfit;clear b1' b2' b3' b4' b5' b6' g1 g2 g3 g4 g5 g6 hfit;go_wp2_with fail
    go_region
    go_wp2_with fail
    go_roundw
    case rel=>exact ⟨0,(x.sn,0),0,by simp,by omega,by simp,by simp,by simp,by omega,fun _=>rfl,HF.out,B1.out,B2.out,B3.out,B4.out,B5.out,B6.out⟩
    case measure=>simp[intOf]
   ·obtain ⟨r,hr⟩:∃r,p=r+1:=⟨p-1,by omega⟩
    obtain ⟨ad2,x',e2,hx',afm,xr,_,_,_⟩:=G5.out.get (k:=r) (by omega);cases e2;have hw2:IntKind.i64.wrap ((p:Int)-1)=(r:Int):=by rw[IntWalk.i64_in _ (by omega)];omega
    have hgt:(0:Int)<(p:Int):=by omega
    have hpn:p<n:=by omega
    have hrn:r<n:=by omega
    rw[show p-1=r by omega,GG hx'] at hfit;have Hu:=Lib.hid hr;clear hr hx hx' hbk afm;by_cases hsn:x.sn=x'.sn
    ·rw[if_pos ⟨hp0,hsn⟩] at hfit;go_wp2_with fail
     go_quiet (fail)
     have g1:=G1.out.drewN nq;have g2:=G2.out.drewN nq;have g3:=G3.out.drewN nq;have g4:=G4.out.drewN nq;have g5:=G5.out.drewN nq;have g6:=G6.out.drewN nq;have Qc:(w2.drewN nq).cell? (ad.add (p*4))=some (.int .i64 x.sn):=x0;clear x0 xr y2 G1 G2 G3 G4 G5 G6;have x0:=Qc;clear Qc;generalize w2.drewN nq=w3 at*;have B1:=Lib.hid g1;have B2:=Lib.hid g2;have B3:=Lib.hid g3;have B4:=Lib.hid g4;have B5:=Lib.hid g5;have B6:=Lib.hid g6;have HF:=Lib.hid hfit;clear g1 g2 g3 g4 g5 g6 hfit;go_wp2_with fail
     go_roundw
     case rel=>exact ⟨p,(ya,yn),c2,by have:=Hu.out;go_num,by omega,by simp;omega,by simp;omega,by simp;omega,by omega,fun e=>by omega,HF.out,B1.out,B2.out,B3.out,B4.out,B5.out,B6.out⟩
     case measure=>have:=Hu.out;simp[intOf];omega
    ·rw[if_neg (fun h=>hsn h.2)] at hfit;have dsn:decide (x.sn=x'.sn)=false:=decide_eq_false hsn;go_wp2_with fail
     go_quiet (fail)
     have g1:=G1.out.drewN nq;have g2:=G2.out.drewN nq;have g3:=G3.out.drewN nq;have g4:=G4.out.drewN nq;have g5:=G5.out.drewN nq;have g6:=G6.out.drewN nq;have Qc:(w2.drewN nq).cell? (ad.add (p*4))=some (.int .i64 x.sn):=x0;clear x0 xr y2 G1 G2 G3 G4 G5 G6;have x0:=Qc;clear Qc;generalize w2.drewN nq=w3 at*;have f0:=g1.frozen 0;have f1:=g1.frozen 1;have y0:=g1.cell 0;have y1:=g1.cell 1;have y2:=g2.cell 1;simp at y0 y1 y2;have b1':aA ((w3.setCell ⟨b,0,none⟩ (.int .i64 x.sn)).setCell ⟨b,1,none⟩ (.slice A' p p)).drew b 42 #[.int .i64 x.sn,.slice A' p p]:=by
      have h9:=(g1.aC 0 (.int .i64 x.sn)).aC 1 (.slice A' p p);simp at h9;exact h9.drew
     have b2':=((g2.far (p:=⟨b,0,none⟩) (by simp;omega) (.int .i64 x.sn)).far (p:=⟨b,1,none⟩) (by simp;omega) (.slice A' p p)).drew;have b3':=((g3.far (p:=⟨b,0,none⟩) (by simp;omega) (.int .i64 x.sn)).far (p:=⟨b,1,none⟩) (by simp;omega) (.slice A' p p)).drew;have b4':=((g4.uF (b:=b) (o:=0) (fun ad e=>by have:=xB.out ad e;omega) (.int .i64 x.sn)).uF (b:=b) (o:=1) (fun ad e=>by have:=xB.out ad e;omega) (.slice A' p p)).drewN 1;have b5':=((g5.uF (b:=b) (o:=0) (fun wM e=>Kr.out wM e) (.int .i64 x.sn)).uF (b:=b) (o:=1) (fun wM e=>Kr.out wM e) (.slice A' p p)).drewN 1;have b6':=((g6.setCell (p:=⟨b,0,none⟩) (by simp;omega) (.int .i64 x.sn)).setCell (p:=⟨b,1,none⟩) (by simp;omega) (.slice A' p p)).drew;have B1:=Lib.hid b1';have B2:=Lib.hid b2';have B3:=Lib.hid b3';have B4:=Lib.hid b4';have B5:=Lib.hid b5';have B6:=Lib.hid b6';have HF:=Lib.hid hfit;clear b1' b2' b3' b4' b5' b6' g1 g2 g3 g4 g5 g6 hfit;go_wp2_with fail
     go_region
     go_wp2_with fail
     go_roundw
     case rel=>exact ⟨p,(x.sn,p),p,by have:=Hu.out;go_num,by omega,by simp,by simp;omega,by simp,by omega,fun e=>by omega,HF.out,B1.out,B2.out,B3.out,B4.out,B5.out,B6.out⟩
     case measure=>have:=Hu.out;simp[intOf];omega
end
end
section
open Go.RowKit Go.Shelf
attribute [local go_sem] Oper.semAt_some
structure L5 (c:Cf):Prop where
 r1:0≤c.reorder
 r2:c.reorder≤1048576
 p1:0≤c.gP
 p2:c.gP≤1048576
section
variable {w w':World} {T:Nat→Nat} {g M n:Nat} {c:Cf} {st:Rc} {vo:Value}
theorem dL.clock (ho:dL st) {now:Int} (hn:now≤9223372036854775807):dL (gB st now):=
 ⟨ho.n1,ho.n2,ho.n3,ho.n4,ho.m,ho.op,by have:=ho.t1;unfold gB;dsimp only;split<;>omega,by have:=ho.t2;unfold gB;dsimp only;split<;>omega⟩
theorem dL.waits (ho:dL st) (c:Cf):dL (o8 c st):=⟨ho.n1,ho.n2,ho.n3,ho.n3,ho.m,ho.op,ho.t1,ho.t2⟩
theorem dL.fires (ho:dL st) (c:Cf):dL (rW c st):=by
 have h2:dL {st with status:=jR st.m 1024 st.gu,due:=true,ro:=false}:=⟨ho.n1,uD _ _ _ ho.n4,ho.n3,ho.n4,ho.m,ho.op,ho.t1,ho.t2⟩;unfold rW;dsimp only;split
 ·exact h2.waits c
 ·exact h2
theorem dL.goes (ho:dL st) (c:Cf) {now:Int} (hn:now≤9223372036854775807):dL (fQ c st now):=by
 unfold fQ;split
 ·exact ho.clock hn
 ·exact (ho.clock hn).fires c
set_option maxHeartbeats 1000000 in
theorem vP (h:gH w T g M n c st vo) (ho:dL st) (hcf:L5 c) (now:Int) (hn:now≤9223372036854775807):
 Calls Tryz.prog 33 #[.pointer (some ⟨g,0,none⟩),.int .i64 now] w fun e w'=>e= .returned (.tuple #[])∧gH w' T g M n c (fQ c st now) vo∧Kept (MT T) w w':=by
 have ht:∀o:Obj,MT T g o:=fun o=>by unfold MT;rw[h.tg];omega
 have HT:=Lib.hid ht;have HO:=Lib.hid (ho.clock hn);have HCF:=Lib.hid hcf;have HG:=Lib.hid (show fQ c st now=if st.ro=false∨(gB st now).now<st.exp then gB st now else rW c (gB st now) from rfl);have OU:=(h.cells).2.2.2.2.2.2.2.2.2.2.2.1;have f16:=h.blk.frozen 16;have HH:=Lib.hid h;clear h ho hcf ht;go_enter Tryz.func33,Tryz.ntmps33;go_upto_region 1 with (fail)
 have h1:=HH.out.put 16 (.int .i64 (if st.now<now then now else st.now)) (st':=gB st now) rfl rfl rfl;have hk1:Kept (MT T) w (w.setCell ⟨g,16,none⟩ (.int .i64 (if st.now<now then now else st.now))):=(Kept.refl _ w).setCell (p:=⟨g,16,none⟩) (fun o _=>HT.out o) _;generalize w.setCell ⟨g,16,none⟩ (.int .i64 (if st.now<now then now else st.now))=wc at*;generalize (if st.now<now then now else st.now)=nv at*;have hro:(gB st now).ro=st.ro:=rfl;have aai:(gB st now).exp=st.exp:=rfl;rw[←hro,←aai] at HG;clear hro aai OU f16 HH;generalize gB st now=s1 at*;obtain ⟨x3,x4,x7,x8,x9,x10,uZ,EG,OT,Ej,Qd,OU,OV,x18⟩:=h1.cells;have H1:=Lib.hid h1;have HK:=Lib.hid hk1;clear h1 hk1 x4 x7 x8 x9 x10 Ej Qd OV x18;cases hro:s1.ro with
 |false=>
  rw[hro] at uZ;have hg:=HG.out;rw[if_pos (.inl hro)] at hg;have NW:=Lib.hid hg;clear hg hro;go_wp2_with fail
  go_quiet (fail)
  go_wp2_with fail;refine bodyPost_ret (results_none rfl _ _ _) rfl ?_;rw[NW.out];exact ⟨rfl,H1.out.drewN nq,HK.out.drewN nq⟩
 |true=>
  rw[hro] at uZ;by_cases hlt:s1.now<s1.exp
  ·have hg:=HG.out;rw[if_pos (.inr hlt)] at hg;have d1:decide (s1.now<s1.exp)=true:=by simpa using hlt
   have NW:=Lib.hid hg;clear hg hro;go_wp2_with fail
   go_quiet (fail)
   go_wp2_with fail;refine bodyPost_ret (results_none rfl _ _ _) rfl ?_;rw[NW.out];exact ⟨rfl,H1.out.drewN nq,HK.out.drewN nq⟩
  ·have hg:=HG.out;rw[if_neg (by rw[hro];simp;omega)] at hg;unfold rW at hg;dsimp only at hg;have d1:decide (s1.now<s1.exp)=false:=by simpa using hlt
   have NW:=Lib.hid hg;clear hg hro;go_wp2_with fail
   go_quiet (fail)
   have h2:=H1.out.drewN nq;have hk2:=HK.out.drewN nq;generalize wc.drewN nq=w2 at*;have hfr:=CY h2 HO.out s1.gu HO.out.n4;have NT:=Lib.hid hfr;have H2:=Lib.hid h2;have uW:=Lib.hid hk2;have hfl:=uD s1.m 1024 s1.gu HO.out.n4;clear hfr h2 hk2 x3 uZ OT OU H1 HK;generalize jR s1.m 1024 s1.gu=F at*;have EG:=H2.out.cells.2.2.2.2.2.2.2.1;go_upto_region 3 with (go_at_call 37;refine NT.out.mono ?_;rintro e3 w3 ⟨rfl,hb3⟩;have h3:=H2.out.below hb3;have f9:=h3.blk.frozen 9;have c9:=h3.cells.2.2.2.2.1;have lI:=Lib.hid (uW.out.trans (qL hb3));have H3:=Lib.hid h3;clear h3 hb3)
   have h4:=H3.out.put 9 (.int .i64 (F:Nat)) (st':= {s1 with status:=F}) rfl rfl rfl;have hk4:=lI.out.setCell (p:=⟨g,9,none⟩) (fun o _=>HT.out o) (.int .i64 (F:Nat));generalize w3.setCell ⟨g,9,none⟩ (.int .i64 (F:Nat))=w4 at*;have f14:=h4.blk.frozen 14;have f11:=h4.blk.frozen 11;have c14:=h4.cells.2.2.2.2.2.2.2.2.2.1;have c11:=h4.cells.2.2.2.2.2.2.1;have h5:=(h4.put 14 (.bool true) (st':= {s1 with status:=F,due:=true}) rfl rfl rfl).put 11 (.bool false) (st':= {s1 with status:=F,due:=true,ro:=false}) rfl rfl rfl;have hk5:=(hk4.setCell (p:=⟨g,14,none⟩) (fun o _=>HT.out o) (.bool true)).setCell (p:=⟨g,11,none⟩) (fun o _=>HT.out o) (.bool false);have H5:=Lib.hid h5;have sI:=Lib.hid hk5;clear h4 hk4 h5 hk5 H3 lI EG f9 c9;go_upto_region 4 with (fail)
   generalize (w4.setCell ⟨g,14,none⟩ (.bool true)).setCell ⟨g,11,none⟩ (.bool false)=w5 at*;obtain ⟨y3,y4,y7,y8,y9,Ah,OB,rP,y13,Ci,Hz,vZ,NI,DI⟩:=H5.out.cells;have uf:dL {s1 with status:=F,due:=true,ro:=false}:=⟨HO.out.n1,hfl,HO.out.n3,HO.out.n4,HO.out.m,HO.out.op,HO.out.t1,HO.out.t2⟩;have Pb:=Lib.hid uf;clear f14 f11 c14 c11 y3 y4 y7 y8 OB rP y13 Ci Hz vZ NI DI uf
   replace y9:w5.cell? ⟨g,9,none⟩=some (.int .i64 (F:Nat)):=y9
   replace Ah:w5.cell? ⟨g,10,none⟩=some (.int .i64 (s1.high:Nat)):=Ah
   by_cases he:s1.high=F
   ·have hgg:=NW.out;rw[if_neg (by simpa using he)] at hgg;have d2:((s1.high:Int) !=(F:Int))=false:=by simp;omega
    have ru:=Lib.hid hgg;clear hgg he;go_wp2_with fail
    go_quiet (fail)
    go_wp2_with fail
    go_end0
    rw[ru.out];exact ⟨rfl,H5.out.drewN _,sI.out.drewN _⟩
   ·have hgg:=NW.out;rw[if_pos he] at hgg;have d2:((s1.high:Int) !=(F:Int))=true:=by simp;omega
    have ru:=Lib.hid hgg;clear hgg he;have hwt:=fun q=>zB (H5.out.drewN q) Pb.out HCF.out.r1 (by have:=HCF.out.r2;omega)
    have HWT:=Lib.hid hwt;clear hwt;go_wp2_with fail
    go_quiet (fail)
    go_wp2_with (go_at_call 39;refine (HWT.out _).mono ?_;rintro e6 w6 ⟨rfl,h6,pP⟩)
    go_end0
    rw[ru.out];exact ⟨rfl,h6,(sI.out.drewN _).trans pP⟩
end
end
end Go.Proofs.YtiecgfahidpldaaGreat
