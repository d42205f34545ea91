/- amrecv: Grant. -/
import Derived.Test.YtbhiklnljiehiaaGreatM3bj
set_option maxHeartbeats 4000000
set_option maxRecDepth 100000
namespace Go.Proofs.YtbhiklnljiehiaaGreat
open RowKit Shelf Tryz
attribute [local go_sem] Oper.semAt_some
def FY (R:Nat × List Nk) (N:Nat):Int × List Nk:=
 if bO (R.1:Int) R.2=true then ((DK (R.1:Int) R.2 N).1,R.2.take (DK (R.1:Int) R.2 N).2) else (0,[])
def encR (x:Int × List Nk):List UInt8 × Nat:=if bO x.1 x.2=true then (qB x.1.toNat x.2,0) else ([],2)
def dG (c:Cf) (st:Rc) (now n:Int):Rc × List UInt8 × Nat:=
 if n<0 then (st,[],2)
 else if (aM c st now).due=false\/(aM c st now).now<(aM c st now).fJ\/n<2 then (aM c st now,[],0)
 else ({aM c st now with due:=false,fJ:=IntKind.i64.wrap ((aM c st now).now+c.cu)},(encR (FY (iR (aM c st now)) n.toNat)).1,(encR (FY (iR (aM c st now)) n.toNat)).2)
theorem Bd (c:Cf) (st:Rc) (now:Int):(aM c st now).m=st.m:=by
 unfold aM;split
 ·rfl
 ·unfold rT;dsimp only;split<;>rfl
section
variable (w:World)
theorem Vr (R:Nat × List Nk) (A:Option Addr) (c:Nat) (h:dD w A R.2.length c R.2) (N:Nat) (hN:2<=N):
 Calls prog 82 #[.agg #[.int .i64 (R.1:Int),.slice A R.2.length c],.int .i64 (N:Int)] w fun e w'=>∃A' c' er,e= .returned (.tuple #[.agg #[.int .i64 (FY R N).1,.slice A' (FY R N).2.length c'],.int .i64 er])/\dD w' A' (FY R N).2.length c' (FY R N).2/\(∀ad,A'=some ad->w.heap.size<=ad.block)/\Below w w w':=by
 unfold FY;cases hv:bO (R.1:Int) R.2 with
 |true=>
  refine (YM w (R.1:Int) A R.2.length c R.2 h hv N hN).mono ?_;rintro e w' ⟨A',c',rfl,h1,h3,h2⟩;have hl:=h1.len;rw[bD rfl];dsimp only;rw[hl];exact ⟨A',c',_,rfl,h1,h3,h2⟩
 |false=>
  refine (Vo w (R.1:Int) A R.2.length c R.2 h hv N).mono ?_;rintro e w' ⟨rfl,h2⟩;rw[aP (by simp)];exact ⟨none,0,_,rfl,⟨rfl,aL,by omega,fun h0=>by simp at h0⟩,fun ad e=>(by cases e),h2⟩
theorem Nh (x:Int × List Nk) (A:Option Addr) (c:Nat) (h:dD w A x.2.length c x.2):
 Calls prog 83 #[.agg #[x.1,.slice A x.2.length c]] w (vY w 5 w (encR x).1.length (dz (encR x).1) ((encR x).2:Nat)):=by
 unfold encR;cases hv:bO x.1 x.2 with
 |true=>
  obtain ⟨a,l⟩:=x;dsimp only at hv h ⊢;have h0:0<=a:=by
   have h1:=hv;unfold bO at h1;simp only[gD,gY] at h1;exact h1.1.1
  obtain ⟨a,rfl⟩:=GZ h0;rw[bD rfl];exact Pq w a A l.length c l h hv
 |false=>
  refine (MW w x.1 A x.2.length c x.2 h hv).mono ?_;rintro e w' ⟨rfl,h2⟩;rw[aP (by simp)];exact ⟨_,rfl,jl _ _ _ _,h2⟩
end
section
variable {w w':World} {T:Nat->Nat} {g M n:Nat} {c:Cf} {st:Rc} {vo:Value}
def alf (w:World) (T:Nat->Nat) (g M n:Nat) (c:Cf) (vo:Value) (R:Rc × List UInt8 × Nat) (e:Ending) (w':World):Prop:=
 ∃v,e= .returned (.tuple #[v,.int .i64 (R.2.2:Nat)])/\w'.ownsRow w 5 1 v R.2.1.length (dz R.2.1)/\jo w' T g M n c R.1 vo/\Kept (MT T) w w'
theorem PN (h:jo w T g M n c st vo) (ho:fM st) (hz:zx st) (hcf:CfR c) (now:Int) (ed:now<=9223372036854775807) (N:Int) (hN:N<=9223372036854775807):
 Calls prog 54 #[.pointer (some g),now,N] w (alf w T g M n c vo (dG c st now N)):=by
 have Sq:=ah (sZ h);have yh:=ah (Cn h ho hcf now ed);have HH:=ah h;have HO:=ah (ho.goes c ed);have HZ:=ah (show zx (aM c st now) from fun k p hp=>hz k p (by rw[<-Bd c st now];exact hp));obtain ⟨R,hR⟩:∃R,dG c st now N=R:=⟨_,rfl⟩
 rw[hR];unfold dG at hR;clear h ho hz;by_cases h0:N<0
 ·rw[bD h0] at hR;subst hR;clear HO HZ yh;go_enter func54,ntmps54;go_wp2_with (go_at_call 79;refine Sq.out.mono ?_;rintro e1 w1 ⟨rfl,rfl⟩)
  go_ret2
  exact ⟨_,rfl,jl _ _ _ _,HH.out,Kept.refl _ _⟩
 ·rw[aP h0] at hR;have d0:decide (N<0)=false:=iP h0;clear HH;obtain ⟨s1,hs1⟩:∃s1,aM c st now=s1:=⟨_,rfl⟩
  rw[hs1] at hR yh HO HZ;clear hs1;go_enter func54,ntmps54;go_wp2_with fail;refine Sq.out.mono ?_;rintro e1 w1 ⟨rfl,rfl⟩;clear Sq;go_wp2_with fail;refine yh.out.mono ?_;rintro e2 w1 ⟨rfl,tY,hK1⟩;obtain ⟨x3,x4,x7,x8,x9,x10,Cb,MC,Xh,Js,Yz,Xi,U3,x18⟩:=tY.cells;clear x3 x7 x8 x9 x10 Cb MC Xh U3 x18;cases hd:s1.due with
  |false=>
   rw[hd] at Js;rw[bD (.inl hd)] at hR;subst hR;clear HO HZ yh;have HR1:=ah tY;have yN:=ah hK1;clear tY hK1;go_wp2_with fail
   go_quiet (fail)
   go_wp2_with fail
   go_ret2
   exact ⟨_,rfl,jl _ _ _ _,HR1.out.drewN nq,yN.out.drewN nq⟩
  |true=>
   rw[hd] at Js;by_cases hlt:s1.now<s1.fJ
   ·rw[bD (.inr (.inl hlt))] at hR;subst hR;clear HO HZ yh;have HR1:=ah tY;have yN:=ah hK1;clear tY hK1;go_wp2_with fail
    go_quiet (fail)
    go_wp2_with fail
    go_ret2
    exact ⟨_,rfl,jl _ _ _ _,HR1.out.drewN nq,yN.out.drewN nq⟩
   ·have dlt:decide (s1.now<s1.fJ)=false:=iP hlt;by_cases h2:N<2
    ·rw[bD (.inr (.inr h2))] at hR;subst hR;clear HO HZ yh;have HR1:=ah tY;have yN:=ah hK1;clear tY hK1;go_wp2_with fail
     go_quiet (fail)
     go_wp2_with fail
     go_ret2
     exact ⟨_,rfl,jl _ _ _ _,HR1.out.drewN nq,yN.out.drewN nq⟩
    ·have d2:decide (N<2)=false:=iP h2;rw[aP (by rintro (h|h|h);rw[hd] at h;cases h;exact hlt h;exact h2 h)] at hR;obtain ⟨m,rfl⟩:=GZ (by omega:0<=N);have HR1:=ah tY;have yN:=ah hK1;have HR:=ah hR;clear tY hK1 hR yh x4;go_wp2_with fail
     go_quiet (fail)
     have hR2:=HR1.out.drewN nq;have hK2:=yN.out.drewN nq;clear HR1 yN Js Yz Xi;generalize w1.drewN nq=w2 at*;have Vs:=ah (Na hR2 HO.out HZ.out);have HR2:=ah hR2;have EQ:=ah hK2;clear hR2 hK2;obtain ⟨Q,hQ⟩:∃Q,iR s1=Q:=⟨_,rfl⟩
     rw[hQ] at Vs HR;clear hQ;go_wp2_with fail;refine Vs.out.mono ?_;rintro e3 w3 ⟨A3,c3,rfl,hN3,_,hb3⟩;have hz3:=hb3.size;have HN3:=ah (hN3.alloc (.cells #[.int .i64 (Q.1:Nat),.slice A3 Q.2.length c3] 133));have HB3:=ah (hb3.alloc hb3.size (.cells #[.int .i64 (Q.1:Nat),.slice A3 Q.2.length c3] 133));have GQ:=ah (av.new w3 133 #[.int .i64 (Q.1:Nat),.slice A3 Q.2.length c3]);clear hN3 hb3 Vs;go_wp2_with fail;obtain ⟨w4,hw4⟩:∃w4,w3.alloc (.cells #[.int .i64 (Q.1:Nat),.slice A3 Q.2.length c3] 133)=w4:=⟨_,rfl⟩
     obtain ⟨z,hz⟩:∃z,w3.heap.size=z:=⟨_,rfl⟩
     have HZL:=ah (show w2.heap.size<=z by omega);rw[hw4] at HN3 HB3 GQ ⊢;rw[hz] at GQ ⊢;clear hz hw4 hz3;have hzl:=GQ.out.lt;refine (Vr w4 Q A3 c3 HN3.out m (by omega)).mono ?_;rintro e4 w5 ⟨A5,c5,er,rfl,hN5,RU,hb5⟩;obtain ⟨X,hX⟩:∃X,FY Q m=X:=⟨_,rfl⟩
     rw[hX] at hN5 ⊢;have h5:=GQ.out.below hb5 GQ.out.lt;have f0:=h5.frozen 0;have f1:=h5.frozen 1;have y0:=h5.cell 0;have y1:=h5.cell 1;simp at y0 y1;have hN6:=(hN5.vE (b:=z) (o:=0) (fun ad e=>by have:=RU ad e;omega) (.int .i64 X.1)).vE (b:=z) (o:=1) (fun ad e=>by have:=RU ad e;omega) (.slice A5 X.2.length c5);have h6:av ((w5.setCell ⟨z,0,none⟩ (.int .i64 X.1)).setCell ⟨z,1,none⟩ (.slice A5 X.2.length c5)) z 133 #[.int .i64 X.1,.slice A5 X.2.length c5]:=by simpa using (h5.ay 0 (.int .i64 X.1)).ay 1 (.slice A5 X.2.length c5)
     have hb6:Below w2 w2 ((w5.setCell ⟨z,0,none⟩ (.int .i64 X.1)).setCell ⟨z,1,none⟩ (.slice A5 X.2.length c5)):=((HB3.out.trans (hb5.mono HB3.out.size)).setCell (p:=⟨z,0,none⟩) HZL.out _).setCell (p:=⟨z,1,none⟩) HZL.out _;have agw:=ah (Nh _ X A5 c5 hN6);have KR:=ah hb6;have c0:=h6.cell 0;have c1:=h6.cell 1;simp at c0 c1;have HQ:=ah hX;clear h5 h6 hN5 hN6 hb5 hb6 RU hX GQ HB3 HN3 hzl;go_wp2_with fail;refine agw.out.mono ?_;rintro e7 w7 ⟨v,rfl,hv7,qT⟩;have acp:=KR.out.trans (qT.mono KR.out.size);have Oq:=HR2.out.below acp;have UI:=EQ.out.trans (wL acp);have YN:=bF (base':=w.heap.size) hv7 (by have:=KR.out.size;have:=EQ.out.size;omega);have HR7:=ah Oq;have TJ:=ah UI;have HV7:=ah YN;have f14:=Oq.blk.frozen 14;have f15:=Oq.blk.frozen 15;obtain ⟨x3,x4,x7,x8,x9,x10,Cb,MC,Xh,Js,Yz,Xi,U3,x18⟩:=Oq.cells;clear x3 x7 x8 x9 x10 Cb MC Xh U3 x18 Oq UI YN hv7 qT acp agw KR HR2 EQ c0 c1 f0 f1 y0 y1;go_wp2_with fail
     go_region
     all_goals
      go_wp2_with fail
      go_ret2
      have BN:=HR.out;rw[Es,HQ.out] at BN;rw[<-BN];rw[show wrap64 (s1.now+c.cu)=IntKind.i64.wrap (s1.now+c.cu) by rw[vk];unfold wrap64;rfl];have p1:=HR7.out.put 14 (.bool false) (st':= {s1 with due:=false}) rfl rfl rfl;have p2:=p1.put 15 (.int .i64 (IntKind.i64.wrap (s1.now+c.cu))) (st':= {s1 with due:=false,fJ:=IntKind.i64.wrap (s1.now+c.cu)}) rfl rfl rfl;have v1:=GY (a:=⟨g,14,none⟩) HV7.out (jd HV7.out HR7.out.blk (by decide)) (.bool false);have v2:=GY (a:=⟨g,15,none⟩) v1 (jd v1 p1.blk (by decide)) (.int .i64 (IntKind.i64.wrap (s1.now+c.cu)));have ht:∀o:Obj,MT T g o:=fun o=>by unfold MT;rw[HR7.out.tg];omega
      have k2:=((TJ.out.setCell (p:=⟨g,14,none⟩) (fun o _=>ht o) (.bool false)).setCell (p:=⟨g,15,none⟩) (fun o _=>ht o) (.int .i64 (IntKind.i64.wrap (s1.now+c.cu)))).drew;exact ⟨v,rfl,v2.drew',p2.drew,k2⟩
end
section
variable {aD:List (List UInt8)} {N:Nat} {pu:Nat->Ou} {left:Nat->List (List UInt8)} {sent:Nat->Nat}
theorem UR (T:vD aD N pu left sent) {st:Rc} (h:jF aD N pu left sent st) (c:Cf) (now:Int) {k:Nat} (hk:k<N) {a:jY} (ha:Piece (pu k) a) {bs:List UInt8} (hd:qx bs= .inr a):
 jF aD N pu left sent (fZ c st now bs).1/\(fZ c st now bs).2.2=0/\rW aD left (fZ c st now bs).1.next=rW aD left st.next++(fZ c st now bs).2.1/\(∀j,Has st j->Has (fZ c st now bs).1 j)/\(a.off=0->BP a=true->Has (fZ c st now bs).1 k):=by
 obtain ⟨h1,h2,h3⟩:=h.goes T c now;have hr:fZ c st now bs=iM c (aM c st now) a:=by
  unfold fZ;rw[hd]
 obtain ⟨g1,g2,⟨g,g3,g4⟩,g5,g6⟩:=jF.Oh T h1 c hk ha;rw[hr];refine ⟨g1,g2,?_,fun j hj=>g5 j ?_,g6⟩
 ·rw[g4,<-g3,h2]
 ·unfold Has at hj ⊢;rw[h2,h3];exact hj
theorem jF.ab5 {st:Rc} (h:jF aD N pu left sent st) {k:Nat} (ha:∀j,j<k->Has st j):k<=st.next:=by
 rcases kD st.next k with hlt|hge
 ·exfalso;rcases ha st.next hlt with e|e
  ·omega
  ·rw[h.nc] at e;cases e
 ·exact hge
theorem AQ (T:vD aD N pu left sent) {i:Nat} (hi:i<=N):(rW aD left i).length+(left i).length=aD.length:=by
 have:=T.done hi;have h2:=congrArg List.length this;rw[l8] at h2;omega
theorem Jm (T:vD aD N pu left sent):∀{i j:Nat},i<=j->j<=N->(left j).length<=(left i).length
 |i,0,hij,_=>by rw[show i=0 by omega];exact aL
 |i,j+1,hij,hj=>by
  rcases kD i (j+1) with hlt|hge
  ·have h1:=Jm T (i:=i) (j:=j) (by omega) (by omega);obtain ⟨g,hg,_⟩:=T.step j (by omega);have h2:=congrArg List.length hg;rw[l8] at h2;omega
  ·rw[show i=j+1 by omega];exact aL
end
theorem Jn:∀(l:List (List UInt8)) (f:Nat),(iy l f).1+(aI l f).1.length=l.length/\(iy l f).2.2.2=(aI l f).1
 | [],f=>by simp[iy,aI]
 |x::r,f=>by
  by_cases h:x.length<=f
  ·have ih:=Jn r (f-x.length);rw[iy,bD h,aI,bD h];dsimp only;rw[jh];exact ⟨by omega,ih.2⟩
  ·rw[iy,aP h,aI,aP h];simp
section
variable {sizes:List UInt8} {aD:List (List UInt8)} {N:Nat}
end
end Go.Proofs.YtbhiklnljiehiaaGreat
