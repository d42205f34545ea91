/- amrecv: Grant. -/
import Derived.Test.YtbhiklnljiehiaaGreatM1bh
import Derived.Test.YtbhiklnljiehiaaGreatM1bk
namespace Go.Proofs.YtbhiklnljiehiaaGreat
section
open Go.RowKit Go.Shelf
attribute [local go_sem] Oper.semAt_some
def Gd (R:Nat × List Nk) (N:Nat):Int × List Nk:=
 if bS (R.1:Int) R.2=true then ((Dz (R.1:Int) R.2 N).1,R.2.take (Dz (R.1:Int) R.2 N).2) else (0,[])
def encR (x:Int × List Nk):List UInt8 × Nat:=if bS x.1 x.2=true then (rA x.1.toNat x.2,0) else ([],2)
def dS (c:Cf) (st:Rc) (now n:Int):Rc × List UInt8 × Nat:=
 if n<0 then (st,[],2)
 else if (cZ c st now).due=false∨(cZ c st now).now<(cZ c st now).Bd∨n<2 then (cZ c st now,[],0)
 else ({cZ c st now with due:=false,Bd:=IntKind.i64.wrap ((cZ c st now).now+c.iE)},(encR (Gd (lm (cZ c st now)) n.toNat)).1,(encR (Gd (lm (cZ c st now)) n.toNat)).2)
theorem wP (c:Cf) (st:Rc) (now:Int):(cZ c st now).m=st.m:=by
 unfold cZ;split
 ·rfl
 ·unfold uy;dsimp only;split<;>rfl
section
variable (w:World)
theorem QJ (R:Nat × List Nk) (A:Option Addr) (c:Nat) (h:bX w A R.2.length c R.2) (N:Nat) (hN:2≤N):
 Calls Tryz.prog 82 #[.agg #[.int .i64 (R.1:Int),.slice A R.2.length c],.int .i64 (N:Int)] w fun e w'=>∃A' c' er,e= .returned (.tuple #[.agg #[.int .i64 (Gd R N).1,.slice A' (Gd R N).2.length c'],.int .i64 er])∧bX w' A' (Gd R N).2.length c' (Gd R N).2∧(∀ad,A'=some ad→w.heap.size≤ad.block)∧Below w.heap.size w w':=by
 unfold Gd;cases hv:bS (R.1:Int) R.2 with
 |true=>
  refine (Ux w (R.1:Int) A R.2.length c R.2 h hv N hN).mono ?_;rintro e w' ⟨A',c',rfl,h1,h3,h2⟩;have hl:=h1.len;rw[if_pos rfl];dsimp only;rw[hl];exact ⟨A',c',_,rfl,h1,h3,h2⟩
 |false=>
  refine (QI w (R.1:Int) A R.2.length c R.2 h hv N).mono ?_;rintro e w' ⟨rfl,h2⟩;rw[if_neg (by simp)];exact ⟨none,0,_,rfl,⟨rfl,aN,by omega,fun h0=>by simp at h0⟩,fun ad e=>(by cases e),h2⟩
theorem I5 (x:Int × List Nk) (A:Option Addr) (c:Nat) (h:bX w A x.2.length c x.2):
 Calls Tryz.prog 83 #[.agg #[.int .i64 x.1,.slice A x.2.length c]] w (rz w.heap.size 5 w (encR x).1.length (bQ (encR x).1) ((encR x).2:Nat)):=by
 unfold encR;cases hv:bS x.1 x.2 with
 |true=>
  obtain ⟨a,l⟩:=x;dsimp only at hv h ⊢;have h0:0≤a:=by
   have h1:=hv;unfold bS at h1;simp only[Bool.and_eq_true,decide_eq_true_eq] at h1;exact h1.1.1
  obtain ⟨a,rfl⟩:=Int.eq_ofNat_of_zero_le h0;rw[if_pos rfl];exact J9 w a A l.length c l h hv
 |false=>
  refine (Hw w x.1 A x.2.length c x.2 h hv).mono ?_;rintro e w' ⟨rfl,h2⟩;rw[if_neg (by simp)];exact ⟨_,rfl,World.ownsRow_nil _ _ _ _,h2⟩
end
section
variable {w w':World} {T:Nat→Nat} {g M n:Nat} {c:Cf} {st:Rc} {vo:Value}
def ahj (w:World) (T:Nat→Nat) (g M n:Nat) (c:Cf) (vo:Value) (R:Rc × List UInt8 × Nat) (e:Ending) (w':World):Prop:=
 ∃v,e= .returned (.tuple #[v,.int .i64 (R.2.2:Nat)])∧w'.ownsRow w.heap.size 5 1 v R.2.1.length (bQ R.2.1)∧iC w' T g M n c R.1 vo∧Kept (MT T) w w'
set_option maxRecDepth 100000 in
set_option maxHeartbeats 4000000 in
theorem KY (h:iC w T g M n c st vo) (ho:eF st) (hz:vk st) (hcf:ZS c) (now:Int) (dM:now≤9223372036854775807) (N:Int) (hN:N≤9223372036854775807):
 Calls Tryz.prog 54 #[.pointer (some ⟨g,0,none⟩),.int .i64 now,.int .i64 N] w (ahj w T g M n c vo (dS c st now N)):=by
 have NA:=ah (o9 h);have tV:=ah (yj h ho hcf now dM);have HH:=ah h;have HO:=ah (ho.goes c dM);have HZ:=ah (show vk (cZ c st now) from fun k p hp=>hz k p (by rw[←wP c st now];exact hp));obtain ⟨R,hR⟩:∃R,dS c st now N=R:=⟨_,rfl⟩
 rw[hR];unfold dS at hR;clear h ho hz;by_cases h0:N<0
 ·rw[if_pos h0] at hR;subst hR;clear HO HZ tV;go_enter Tryz.func54,Tryz.ntmps54;go_wp2_with (go_at_call 79;refine NA.out.mono ?_;rintro e1 w1 ⟨rfl,rfl⟩)
  go_ret2
  exact ⟨_,rfl,World.ownsRow_nil _ _ _ _,HH.out,Kept.refl _ _⟩
 ·rw[if_neg h0] at hR;have d0:decide (N<0)=false:=decide_eq_false h0;clear HH;obtain ⟨s1,hs1⟩:∃s1,cZ c st now=s1:=⟨_,rfl⟩
  rw[hs1] at hR tV HO HZ;clear hs1;go_enter Tryz.func54,Tryz.ntmps54;go_wp2_with fail;refine NA.out.mono ?_;rintro e1 w1 ⟨rfl,rfl⟩;clear NA;go_wp2_with fail;refine tV.out.mono ?_;rintro e2 w1 ⟨rfl,qJ,hK1⟩;obtain ⟨x3,x4,x7,x8,x9,x10,xO,Hl,RX,Eg,Tx,RY,Py,x18⟩:=qJ.cells;clear x3 x7 x8 x9 x10 xO Hl RX Py x18;cases hd:s1.due with
  |false=>
   rw[hd] at Eg;rw[if_pos (.inl hd)] at hR;subst hR;clear HO HZ tV;have HR1:=ah qJ;have wL:=ah hK1;clear qJ hK1;go_wp2_with fail
   go_quiet (fail)
   go_wp2_with fail
   go_ret2
   exact ⟨_,rfl,World.ownsRow_nil _ _ _ _,HR1.out.drewN nq,wL.out.drewN nq⟩
  |true=>
   rw[hd] at Eg;by_cases hlt:s1.now<s1.Bd
   ·rw[if_pos (.inr (.inl hlt))] at hR;subst hR;clear HO HZ tV;have HR1:=ah qJ;have wL:=ah hK1;clear qJ hK1;go_wp2_with fail
    go_quiet (fail)
    go_wp2_with fail
    go_ret2
    exact ⟨_,rfl,World.ownsRow_nil _ _ _ _,HR1.out.drewN nq,wL.out.drewN nq⟩
   ·have dlt:decide (s1.now<s1.Bd)=false:=decide_eq_false hlt;by_cases h2:N<2
    ·rw[if_pos (.inr (.inr h2))] at hR;subst hR;clear HO HZ tV;have HR1:=ah qJ;have wL:=ah hK1;clear qJ hK1;go_wp2_with fail
     go_quiet (fail)
     go_wp2_with fail
     go_ret2
     exact ⟨_,rfl,World.ownsRow_nil _ _ _ _,HR1.out.drewN nq,wL.out.drewN nq⟩
    ·have d2:decide (N<2)=false:=decide_eq_false h2;rw[if_neg (by rintro (h|h|h);rw[hd] at h;cases h;exact hlt h;exact h2 h)] at hR;obtain ⟨m,rfl⟩:=Int.eq_ofNat_of_zero_le (by omega:0≤N);have HR1:=ah qJ;have wL:=ah hK1;have HR:=ah hR;clear qJ hK1 hR tV x4;go_wp2_with fail
     go_quiet (fail)
     have hR2:=HR1.out.drewN nq;have hK2:=wL.out.drewN nq;clear HR1 wL Eg Tx RY;generalize w1.drewN nq=w2 at*;have QK:=ah (I1 hR2 HO.out HZ.out);have HR2:=ah hR2;have Ak:=ah hK2;clear hR2 hK2;obtain ⟨Q,hQ⟩:∃Q,lm s1=Q:=⟨_,rfl⟩
     rw[hQ] at QK HR;clear hQ;go_wp2_with fail;refine QK.out.mono ?_;rintro e3 w3 ⟨A3,c3,rfl,Vt,_,hb3⟩;have hz3:=hb3.size;have HN3:=ah (Vt.alloc (.cells #[.int .i64 (Q.1:Nat),.slice A3 Q.2.length c3] 133));have HB3:=ah (hb3.alloc hb3.size (.cells #[.int .i64 (Q.1:Nat),.slice A3 Q.2.length c3] 133));have CX:=ah (au.new w3 133 #[.int .i64 (Q.1:Nat),.slice A3 Q.2.length c3]);clear Vt hb3 QK;go_wp2_with fail;obtain ⟨w4,hw4⟩:∃w4,w3.alloc (.cells #[.int .i64 (Q.1:Nat),.slice A3 Q.2.length c3] 133)=w4:=⟨_,rfl⟩
     obtain ⟨z,hz⟩:∃z,w3.heap.size=z:=⟨_,rfl⟩
     have Zs:=ah (show w2.heap.size≤z by omega);rw[hw4] at HN3 HB3 CX ⊢;rw[hz] at CX ⊢;clear hz hw4 hz3;have hzl:=CX.out.lt;refine (QJ w4 Q A3 c3 HN3.out m (by omega)).mono ?_;rintro e4 w5 ⟨A5,c5,er,rfl,hN5,MX,hb5⟩;obtain ⟨X,hX⟩:∃X,Gd Q m=X:=⟨_,rfl⟩
     rw[hX] at hN5 ⊢;have h5:=CX.out.below hb5 CX.out.lt;have f0:=h5.frozen 0;have f1:=h5.frozen 1;have y0:=h5.cell 0;have y1:=h5.cell 1;simp at y0 y1;have hN6:=(hN5.qQ (b:=z) (o:=0) (fun ad e=>by have:=MX ad e;omega) (.int .i64 X.1)).qQ (b:=z) (o:=1) (fun ad e=>by have:=MX ad e;omega) (.slice A5 X.2.length c5);have h6:au ((w5.setCell ⟨z,0,none⟩ (.int .i64 X.1)).setCell ⟨z,1,none⟩ (.slice A5 X.2.length c5)) z 133 #[.int .i64 X.1,.slice A5 X.2.length c5]:=by simpa using (h5.av 0 (.int .i64 X.1)).av 1 (.slice A5 X.2.length c5)
     have hb6:Below w2.heap.size w2 ((w5.setCell ⟨z,0,none⟩ (.int .i64 X.1)).setCell ⟨z,1,none⟩ (.slice A5 X.2.length c5)):=((HB3.out.trans (hb5.mono HB3.out.size)).setCell (p:=⟨z,0,none⟩) Zs.out _).setCell (p:=⟨z,1,none⟩) Zs.out _;have acJ:=ah (I5 _ X A5 c5 hN6);have Kv:=ah hb6;have c0:=h6.cell 0;have c1:=h6.cell 1;simp at c0 c1;have HQ:=ah hX;clear h5 h6 hN5 hN6 hb5 hb6 MX hX CX HB3 HN3 hzl;go_wp2_with fail;refine acJ.out.mono ?_;rintro e7 w7 ⟨v,rfl,hv7,oZ⟩;have Yz:=Kv.out.trans (oZ.mono Kv.out.size);have JF:=HR2.out.below Yz;have Pq:=Ak.out.trans (rG Yz);have Uy:=aU (base':=w.heap.size) hv7 (by have:=Kv.out.size;have:=Ak.out.size;omega);have ZT:=ah JF;have Oj:=ah Pq;have HV7:=ah Uy;have f14:=JF.blk.frozen 14;have f15:=JF.blk.frozen 15;obtain ⟨x3,x4,x7,x8,x9,x10,xO,Hl,RX,Eg,Tx,RY,Py,x18⟩:=JF.cells;clear x3 x7 x8 x9 x10 xO Hl RX Py x18 JF Pq Uy hv7 oZ Yz acJ Kv HR2 Ak c0 c1 f0 f1 y0 y1;go_wp2_with fail
     go_region
     all_goals
      go_wp2_with fail
      go_ret2
      have xI:=HR.out;rw[Int.toNat_natCast,HQ.out] at xI;rw[←xI];rw[show wrap64 (s1.now+c.iE)=IntKind.i64.wrap (s1.now+c.iE) by rw[IntKind.wrap_i64];unfold wrap64;rfl];have p1:=ZT.out.put 14 (.bool false) (st':= {s1 with due:=false}) rfl rfl rfl;have p2:=p1.put 15 (.int .i64 (IntKind.i64.wrap (s1.now+c.iE))) (st':= {s1 with due:=false,Bd:=IntKind.i64.wrap (s1.now+c.iE)}) rfl rfl rfl;have v1:=ownsRow_setCell_other (a:=⟨g,14,none⟩) HV7.out (ig HV7.out ZT.out.blk (by decide)) (.bool false);have v2:=ownsRow_setCell_other (a:=⟨g,15,none⟩) v1 (ig v1 p1.blk (by decide)) (.int .i64 (IntKind.i64.wrap (s1.now+c.iE)));have ht:∀o:Obj,MT T g o:=fun o=>by unfold MT;rw[ZT.out.tg];omega
      have k2:=((Oj.out.setCell (p:=⟨g,14,none⟩) (fun o _=>ht o) (.bool false)).setCell (p:=⟨g,15,none⟩) (fun o _=>ht o) (.int .i64 (IntKind.i64.wrap (s1.now+c.iE)))).drew;exact ⟨v,rfl,v2.drew',p2.drew,k2⟩
end
end
section
section
variable {aO:List (List UInt8)} {N:Nat} {pu:Nat→Ou} {left:Nat→List (List UInt8)} {sent:Nat→Nat}
theorem Q5 (T:Cq aO N pu left sent) {st:Rc} (h:pO aO N pu left sent st) (c:Cf) (now:Int) {k:Nat} (hk:k<N) {a:jv} (ha:Piece (pu k) a) {bs:List UInt8} (hd:qP bs= .inr a):
 pO aO N pu left sent (fK c st now bs).1∧(fK c st now bs).2.2=0∧oJ aO left (fK c st now bs).1.next=oJ aO left st.next++(fK c st now bs).2.1∧(∀j,Has st j→Has (fK c st now bs).1 j)∧(a.off=0→xK a=true→Has (fK c st now bs).1 k):=by
 obtain ⟨h1,h2,h3⟩:=h.goes T c now;have hr:fK c st now bs=vT c (cZ c st now) a:=by
  unfold fK;rw[hd]
 obtain ⟨g1,g2,⟨g,g3,g4⟩,g5,g6⟩:=pO.Ls T h1 c hk ha;rw[hr];refine ⟨g1,g2,?_,fun j hj=>g5 j ?_,g6⟩
 ·rw[g4,←g3,h2]
 ·unfold Has at hj ⊢;rw[h2,h3];exact hj
theorem pO.YY {st:Rc} (h:pO aO N pu left sent st) {k:Nat} (ha:∀j,j<k→Has st j):k≤st.next:=by
 rcases Nat.lt_or_ge st.next k with hlt|hge
 ·exfalso;rcases ha st.next hlt with e|e
  ·omega
  ·rw[h.nc] at e;cases e
 ·exact hge
theorem wV (T:Cq aO N pu left sent) {i:Nat} (hi:i≤N):(oJ aO left i).length+(left i).length=aO.length:=by
 have:=T.done hi;have h2:=congrArg List.length this;rw[List.length_append] at h2;omega
theorem EK (T:Cq aO N pu left sent):∀{i j:Nat},i≤j→j≤N→(left j).length≤(left i).length
 |i,0,hij,_=>by rw[show i=0 by omega];exact aN
 |i,j+1,hij,hj=>by
  rcases Nat.lt_or_ge i (j+1) with hlt|hge
  ·have h1:=EK T (i:=i) (j:=j) (by omega) (by omega);obtain ⟨g,hg,_⟩:=T.step j (by omega);have h2:=congrArg List.length hg;rw[List.length_append] at h2;omega
  ·rw[show i=j+1 by omega];exact aN
end
theorem EL:∀(l:List (List UInt8)) (f:Nat),(gG l f).1+(aI l f).1.length=l.length∧(gG l f).2.2.2=(aI l f).1
 | [],f=>by simp[gG,aI]
 |x::r,f=>by
  by_cases h:x.length≤f
  ·have ih:=EL r (f-x.length);rw[gG,if_pos h,aI,if_pos h];dsimp only;rw[List.length_cons];exact ⟨by omega,ih.2⟩
  ·rw[gG,if_neg h,aI,if_neg h];simp
section
variable {sizes:List UInt8} {aO:List (List UInt8)} {N:Nat}
end
end
section
open Go.RowKit
def oK (e:Bool):Bool→List (List UInt8)→List (Fl × UInt8)
 |_,[]=> []
 |s,p::r=>jO p s (decide (0<r.length)||e)++oK e true r
theorem Cs (s e:Bool) (n:Nat):∀(ps:List (List UInt8)) (i:Nat),i+ps.length=n→dN s e n i ps=oK e (decide (0<i)||s) ps
 | [],_,_=>rfl
 |p::r,i,h=>by
  rw[dN,oK,Cs s e n r (i+1) (by simp at h;omega)];simp at h;have e1:decide (i+1<n)=decide (0<r.length):=by simp;omega
  simp[e1]
theorem EM (p:List UInt8) (a b:Bool) {x y:Nat} (h:x<y) (hy:y≤p.length):jO ((p.take y).drop x) (decide (x=0)&&a) (decide (y=p.length)&&b)=((jO p a b).take y).drop x:=by
 refine List.ext_getElem? fun j=> ?_
 rw[List.getElem?_drop,List.getElem?_take];unfold jO;rw[List.getElem?_mapIdx,List.getElem?_drop,List.getElem?_take];by_cases hj:x+j<y
 ·rw[if_pos hj,if_pos hj,List.getElem?_mapIdx,List.getElem?_eq_getElem (by omega)];simp only[Option.map_some,List.length_drop,List.length_take,Option.some.injEq,Prod.mk.injEq,true_and,and_true];have e1:(decide (j=0)&&(decide (x=0)&&a))=(decide (x+j=0)&&a):=by
   by_cases h1:j=0<;>by_cases h2:x=0<;>simp[h1,h2]
  have e2:(decide (j+1=min y p.length-x)&&(decide (y=p.length)&&b))=(decide (x+j+1=p.length)&&b):=by
   by_cases h1:x+j+1=p.length
   ·have h2:y=p.length:=by omega
    have h3:j+1=min y p.length-x:=by omega
    rw[decide_eq_true h1,decide_eq_true h2,decide_eq_true h3];simp
   ·by_cases h2:y=p.length
    ·have h3:¬j+1=min y p.length-x:=by omega
     rw[decide_eq_false h1,decide_eq_false h3];simp
    ·rw[decide_eq_false h1,decide_eq_false h2];simp
  exact ⟨e1,e2⟩
 ·rw[if_neg hj,if_neg hj];rfl
theorem Jf:∀(ps:List (List UInt8)),0<ps.length→rT ps true 0=true
 | [],h=>by simp at h
 |p::ps,_=>by simp[rT]
theorem uS (e:Bool):∀(ps:List (List UInt8)) (s:Bool) (x y:Nat),(∀p∈ps,1≤p.length)→x<y→y≤aj ps→
 oK (IR ps e y) (rT ps s x) (lM ps x y)=((oK e s ps).take y).drop x
 | [],_,_,_,_,h,hy=>by simp[aj] at hy;omega
 |p::ps,s,x,y,hp,h,hy=>by
  rw[iZ] at hy;have hpl:=hp p (by simp);have hps:∀q∈ps,1≤q.length:=fun q hq=>hp q (by simp[hq])
  rw[lM,rT,IR,oK];by_cases hx:x<min p.length y
  ·rw[if_pos hx,show x-p.length=0 by omega];have hxl:¬p.length≤x:=by omega
   rw[decide_eq_false hxl,Bool.false_and,Bool.or_false];by_cases hyl:y≤p.length
   ·rw[show y-p.length=0 by omega,Ey,Np ps e hps,Bool.and_false,Bool.or_false,oK,oK,List.append_nil];simp only[List.length_nil,Nat.lt_irrefl,decide_false,Bool.false_or];rw[EM p s (decide (0<ps.length)||e) h hyl,List.take_append_of_le_length (by rw[eO];exact hyl)]
   ·have hne:=L6 ps 0 (y-p.length) (by omega) (by omega);have hpn:0<ps.length:=by
     rcases ps with _|⟨q,r⟩
     ·simp[aj] at hy;omega
     ·simp
    have ih:=uS e ps true 0 (y-p.length) hps (by omega) (by omega);rw[Jf ps hpn,List.drop_zero] at ih;have hyn:¬y=p.length:=by omega
    rw[decide_eq_false hyn,Bool.false_and,Bool.false_or,decide_eq_true (show p.length≤y by omega),Bool.true_and,oK,ih,decide_eq_true (show 0<(lM ps 0 (y-p.length)).length from hne),decide_eq_true hpn,Bool.true_or,Bool.true_or];have hc:=EM p s true (x:=x) (y:=p.length) (by omega) (aN);rw[decide_eq_true rfl,Bool.true_and,List.take_length,show (jO p s true).take p.length=jO p s true from List.take_of_length_le (by rw[eO];exact aN)] at hc;rw[List.take_of_length_le (show p.length≤y by omega),hc,List.take_append,eO,List.take_of_length_le (show (jO p s true).length≤y by rw[eO];omega),List.drop_append_of_le_length (show x≤(jO p s true).length by rw[eO];omega)]
  ·rw[if_neg hx];have hxl:p.length≤x:=by omega
   have ih:=uS e ps true (x-p.length) (y-p.length) hps (by omega) (by omega);rw[decide_eq_false (show ¬x=0 by omega),Bool.false_and,Bool.false_or,decide_eq_true hxl,Bool.true_and,decide_eq_false (show ¬y=p.length by omega),Bool.false_and,Bool.false_or,decide_eq_true (show p.length≤y by omega),Bool.true_and,ih];rw[List.take_append,eO,List.take_of_length_le (show (jO p s (decide (0<ps.length)||e)).length≤y by rw[eO];omega),List.drop_append,eO,List.drop_eq_nil_of_le (show (jO p s (decide (0<ps.length)||e)).length≤x by rw[eO];exact hxl),List.nil_append]
def Ct (x:Ou) (po:Bool) (fr till:Nat):jv:=⟨x.sn,po,true,decide (till=aj x.ps),fr,aZ x.ps x.s 0 fr x.ps.length,cu x.ps x.e 0 till x.ps.length,aP x.ps 0 fr till x.ps.length⟩
theorem NU (x:Ou) (po:Bool) {fr till:Nat} (hp:∀p∈x.ps,1≤p.length) (h:fr<till) (ht:till≤aj x.ps):Piece x (Ct x po fr till):=by
 have hs:=FZ x.ps 0 fr till (Nat.zero_le _) (by omega);refine ⟨rfl,by show 1≤aj (aP _ _ _ _ _);omega,by show fr+aj (aP _ _ _ _ _)≤_;rw[hs];show _≤aj x.ps;omega,?_,fun j z hz=> ?_⟩
 ·show (!true||decide (till=aj x.ps))=true↔fr+aj (aP _ _ _ _ _)=aj x.ps
  rw[hs];simp;omega
 ·have e1:dN (Ct x po fr till).s (Ct x po fr till).e (Ct x po fr till).ps.length 0 (Ct x po fr till).ps=((yo x).take till).drop fr:=by
   rw[Cs _ _ _ _ 0 (by simp)];show oK (cu x.ps x.e 0 till x.ps.length) (decide (0<0)||aZ x.ps x.s 0 fr x.ps.length) (aP x.ps 0 fr till x.ps.length)=_
   rw[lu,pJ,wO];simp only[Nat.sub_zero,Nat.zero_le,decide_true,Bool.true_and,Nat.lt_irrefl,decide_false,Bool.false_or];rw[uS x.e x.ps x.s fr till hp h ht,yo,Cs _ _ _ _ 0 (by simp)];simp
  rw[e1,List.getElem?_drop,List.getElem?_take] at hz;split at hz
  ·exact hz
  ·cases hz
end
section
open Go.RowKit
def tot (pu:Nat→Ou):Nat→Nat
 |0=>0
 |n+1=>tot pu n+aC (pu n)
theorem pP {pu rY:Nat→Ou}:∀{n:Nat},(∀k,k<n→rY k=pu k)→tot rY n=tot pu n
 |0,_=>rfl
 |n+1,h=>by rw[tot,tot,pP fun k hk=>h k (by omega),h n (by omega)]
theorem La (pu:Nat→Ou) (a:Nat):∀b,tot pu a≤tot pu (a+b)
 |0=>aN
 |b+1=>by have:=La pu a b;rw[show a+(b+1)=(a+b)+1 by omega,tot];omega
structure iq (x y:Ou):Prop where
 sn:x.sn=y.sn
 s:x.s=y.s
 e:x.e=y.e
 ps:x.ps=y.ps
theorem iq.refl (x:Ou):iq x x:=⟨rfl,rfl,rfl,rfl⟩
theorem iq.trans {x y z:Ou} (h:iq x y) (h2:iq y z):iq x z:=⟨h.sn.trans h2.sn,h.s.trans h2.s,h.e.trans h2.e,h.ps.trans h2.ps⟩
theorem iq.size {x y:Ou} (h:iq x y):aC x=aC y:=by unfold aC;rw[h.ps]
theorem iq.bytes {x y:Ou} (h:iq x y):yo x=yo y:=by unfold yo;rw[h.s,h.e,h.ps]
theorem Piece.same {x y:Ou} {a:jv} (h:iq x y) (p:Piece x a):Piece y a:=⟨p.sn.trans h.sn,p.pos,by rw[←h.size];exact p.le,by rw[←h.size];exact p.fin,by rw[←h.bytes];exact p.eq⟩
theorem Mh {pu:Nat→Ou}:∀(d:List Ou) (a:Nat),(∀i x,d[i]? =some x→iq x (pu (a+i)))→tot pu (a+d.length)=tot pu a+sizes d
 | [],a,_=>by simp[sizes]
 |x::r,a,h=>by
  have ih:=Mh r (a+1) fun i y hy=>by
   have:=h (i+1) y (by simpa using hy)
   rwa [show a+1+i=a+(i+1) by omega]
  have h0:=(h 0 x (by simp)).size;rw[Nat.add_zero] at h0;rw[List.length_cons,show a+(r.length+1)=a+1+r.length by omega,ih,tot,jE,h0];omega
structure Dir (aO:List (List UInt8)) (N:Nat) (pu:Nat→Ou) (left:Nat→List (List UInt8)) (sent:Nat→Nat):Prop where
 T:Cq aO N pu left sent
 ok:∀i,i≤N→K9 (left i) (sent i)
 sk:∀i,i≤N→aI aO (tot pu i)=(left i,sent i)
 sm:tot pu N≤aj aO
theorem Jg:∀(l m:List (List UInt8)) (t:Nat),aI (l++m) t=if (aI l t).1= [] then aI m (aI l t).2 else ((aI l t).1++m,(aI l t).2)
 | [],m,t=>by simp[aI]
 |x::r,m,t=>by
  by_cases h:x.length≤t
  ·have e:∀q,aI (x::q) t=aI q (t-x.length):=fun q=>by rw[aI,if_pos h]
   rw[List.cons_append,e,e,Jg r m]
  ·have e:∀q,aI (x::q) t=(x::q,t):=fun q=>by rw[aI,if_neg h]
   rw[List.cons_append,e,e];simp
theorem Cu (a b:List (List UInt8)):aj (a++b)=aj a+aj b:=by simp[aj]
theorem Cv {l:List (List UInt8)} {k:Nat} (x:List UInt8) (h:l= []→k=0):((l++ [x]).headD []).take k=(l.headD []).take k:=by
 cases l with
 |nil=>simp[h rfl]
 |cons y r=>rfl
theorem K9.app {l:List (List UInt8)} {k:Nat} (h:K9 l k) {x:List UInt8} (h1:1≤x.length) (h2:x.length≤60):K9 (l++ [x]) k:=by
 refine ⟨fun y r e=> ?_,fun e=>by simp at e,fun s hs=> ?_⟩
 ·cases l with
  |nil=>
   have:=h.z rfl;simp at e;rw[←e.1];omega
  |cons z t=>
   simp at e;rw[←e.1];exact h.lt z t rfl
 ·rcases List.mem_append.1 hs with hs|hs
  ·exact h.len s hs
  ·simp at hs;rw[hs];exact ⟨h1,h2⟩
section
variable {aO V2:List (List UInt8)} {N N':Nat} {pu rY:Nat→Ou} {left left':Nat→List (List UInt8)} {sent sent':Nat→Nat} {H H':Nat→Prop} {st st':Sd}
theorem Dir.iK (h:Dir aO N pu left sent) {x:List UInt8} (h1:1≤x.length) (h2:x.length≤60):Dir (aO++ [x]) N pu (fun i=>left i++ [x]) sent:=by
 refine ⟨⟨h.T.n,?_,h.T.s0,h.T.sn,h.T.s,h.T.ne,h.T.each,h.T.tot,fun s hs=> ?_,fun i hi=> ?_⟩,fun i hi=>(h.ok i hi).app h1 h2,fun i hi=> ?_,?_⟩
 ·rw[h.T.l0]
 ·rcases List.mem_append.1 hs with hs|hs
  ·exact h.T.len s hs
  ·simp at hs;rw[hs];omega
 ·obtain ⟨g,e1,e2⟩:=h.T.step i hi;refine ⟨g,by rw[e1,List.append_assoc],?_⟩;rw[Cv x (h.ok i (by omega)).z,Cv x (h.ok (i+1) (by omega)).z];exact e2
 ·rw[Jg,h.sk i hi];dsimp only;split
  ·rename_i e;rw[(h.ok i hi).z e,aI,if_neg (by omega),e];rfl
  ·rfl
 ·rw[Cu];have:=h.sm;omega
def upd {α:Type} (f:Nat→α) (k:Nat) (v:α):Nat→α:=fun i=>if i=k then v else f i
theorem jb {α:Type} (f:Nat→α) (k:Nat) (v:α):upd f k v k=v:=by simp[upd]
theorem upd_ne {α:Type} (f:Nat→α) {k i:Nat} (v:α) (h:i≠k):upd f k v i=f i:=by simp[upd,h]
theorem Dir.fresh (h:Dir aO N pu left sent) (hN:N<511) (n:Int) {x:Ou} (hsn:x.sn=N) (hs:x.s=decide (sent N=0))
 (he:x.e=(kG n ((left N).length+1) (left N) (sent N) 0 0 0 false).2.1) (hps:x.ps=(kG n ((left N).length+1) (left N) (sent N) 0 0 0 false).1) (hne:x.ps≠ []):
 Dir aO (N+1) (upd pu N x) (upd left (N+1) (kG n ((left N).length+1) (left N) (sent N) 0 0 0 false).2.2.1) (upd sent (N+1) (kG n ((left N).length+1) (left N) (sent N) 0 0 0 false).2.2.2):=by
 have ho:=h.ok N (aN);have hk:=EZ n ((left N).length+1) (left N) (sent N) 0 0 0 false (fun s hm=>(ho.len s hm).1) ho.lt ho.z;have hs2:=ho.step n ((left N).length+1);have hne':(kG n ((left N).length+1) (left N) (sent N) 0 0 0 false).1≠ []:=by rw[←hps];exact hne
 have hv:=xD n ((left N).length+1) (left N) (sent N) false (fun s hm=>(ho.len s hm).1) ho.lt hne';have hsh:=EJ n ((left N).length+1) (left N) (sent N) 0 0 0 false (fun s hm=>(ho.len s hm).2);have hsk:=Je n ((left N).length+1) (left N) (sent N) 0 0 0 false ho.lt (fun s hm=>(ho.len s hm).1);have hsum:=Mg n ((left N).length+1) (left N) (sent N) 0 0 0 false ho.lt ho.z (fun s hm=>(ho.len s hm).1);obtain ⟨g,g1,g2⟩:=hk.some_ hne';generalize hR:kG n ((left N).length+1) (left N) (sent N) 0 0 0 false=R at*;have htot:tot (upd pu N x) N=tot pu N:=pP fun k hk=>upd_ne _ _ (by omega)
 have hsz:aC x=aj R.1:=by unfold aC;rw[hps]
 refine ⟨⟨by omega,?_,?_,fun i hi=> ?_,fun i hi=> ?_,fun i hi=> ?_,fun i hi=> ?_,fun i hi=> ?_,h.T.len,fun i hi=> ?_⟩,fun i hi=> ?_,fun i hi=> ?_,?_⟩
 ·rw[upd_ne _ _ (by omega)];exact h.T.l0
 ·rw[upd_ne _ _ (by omega)];exact h.T.s0
 ·by_cases e:i=N
  ·rw[e,jb];exact hsn
  ·rw[upd_ne _ _ e];exact h.T.sn i (by omega)
 ·by_cases e:i=N
  ·rw[e,jb,upd_ne _ _ (by omega)];exact hs
  ·rw[upd_ne _ _ e,upd_ne _ _ (by omega)];exact h.T.s i (by omega)
 ·by_cases e:i=N
  ·rw[e,jb];exact hne
  ·rw[upd_ne _ _ e];exact h.T.ne i (by omega)
 ·by_cases e:i=N
  ·rw[e,jb,hps];exact fun q hq=>⟨hv.pos q hq,by have:=hsh q hq;omega⟩
  ·rw[upd_ne _ _ e];exact h.T.each i (by omega)
 ·by_cases e:i=N
  ·rw[e,jb,hsz];exact hv.sum
  ·rw[upd_ne _ _ e];exact h.T.tot i (by omega)
 ·by_cases e:i=N
  ·rw[e,jb,jb,jb,upd_ne _ _ (by omega),upd_ne _ _ (by omega),he,hps];exact ⟨g,g1,g2⟩
  ·rw[upd_ne _ _ e,upd_ne _ _ (by omega),upd_ne _ _ (by omega),upd_ne _ _ (by omega),upd_ne _ _ (by omega)];exact h.T.step i (by omega)
 ·by_cases e:i=N+1
  ·rw[e,jb,jb];exact hs2
  ·rw[upd_ne _ _ e,upd_ne _ _ e];exact h.ok i (by omega)
 ·by_cases e:i=N+1
  ·rw[e,jb,jb,tot,htot,jb,sM,h.sk N (aN),hsz];exact hsk
  ·rw[upd_ne _ _ e,upd_ne _ _ e,pP fun k hk=>upd_ne _ _ (by omega)];exact h.sk i (by omega)
 ·rw[tot,htot,jb,hsz];obtain ⟨⟨d,e1,e2⟩,_⟩:=sj aO (tot pu N) h.sm;rw[h.sk N (aN)] at e1 e2;have e3:aj aO=aj d+aj (left N):=by
   conv=>lhs;rw[e1]
   exact Cu _ _
  dsimp only at e2;omega
theorem Dir.start (aO:List (List UInt8)) (pu:Nat→Ou):aO= []→Dir aO 0 pu (fun _=> []) (fun _=>0):=by
 rintro rfl;exact ⟨⟨by omega,rfl,rfl,fun i hi=>by omega,fun i hi=>by omega,fun i hi=>by omega,fun i hi=>by omega,fun i hi=>by omega,by simp,fun i hi=>by omega⟩,
  fun i hi=>⟨fun x r e=>(by cases e),fun _=>rfl,by simp⟩,fun i hi=>(by rw[show i=0 by omega];rfl),aN⟩
theorem Dir.UQ (h:Dir aO N pu left sent) {i:Nat} (hi:i≤N):(left i).length≤aO.length:=by
 have:=wV h.T hi;omega
structure uf (aO:List (List UInt8)) (N:Nat) (pu:Nat→Ou) (left:Nat→List (List UInt8)) (sent:Nat→Nat) (H:Nat→Prop) (st:Sd):Prop where
 q:st.queue=left st.first
 dn:st.done+(left st.first).length=aO.length
 fr:st.front=sent st.first
 tk:st.taken+tot pu st.first=st.front+tot pu N
 fo:st.first+st.out.length=N
 out:∀i x,st.out[i]? =some x→iq x (pu (st.first+i))
 ak:∀i x,st.out[i]? =some x→x.bY=true→H (st.first+i)
 has:∀k,k<st.first→H k
theorem uf.mono (h:uf aO N pu left sent H st) (hH:∀k,H k→H' k):uf aO N pu left sent H' st:=
 ⟨h.q,h.dn,h.fr,h.tk,h.fo,h.out,fun i x hx ha=>hH _ (h.ak i x hx ha),fun k hk=>hH k (h.has k hk)⟩
structure jl (H:Nat→Prop) (st st':Sd):Prop where
 q:st'.queue=st.queue
 d:st'.done=st.done
 fr:st'.front=st.front
 tk:st'.taken=st.taken
 fi:st'.first=st.first
 ln:st'.out.length=st.out.length
 o:∀i x',st'.out[i]? =some x'→∃x,st.out[i]? =some x∧iq x' x∧(x'.bY=true→x.bY=true∨H (st.first+i))
theorem jl.Gl (hq:st'.queue=st.queue) (hd:st'.done=st.done) (hf:st'.front=st.front) (ht:st'.taken=st.taken) (hi:st'.first=st.first) (ho:st'.out=st.out):jl H st st':=
 ⟨hq,hd,hf,ht,hi,by rw[ho],fun i x' hx=>⟨x',by rw[←ho];exact hx,iq.refl _,fun ha=> .inl ha⟩⟩
theorem jl.refl (st:Sd):jl H st st:=jl.Gl rfl rfl rfl rfl rfl rfl
theorem jl.trans {s2:Sd} (h:jl H st st') (h2:jl H st' s2):jl H st s2:=by
 refine ⟨h2.q.trans h.q,h2.d.trans h.d,h2.fr.trans h.fr,h2.tk.trans h.tk,h2.fi.trans h.fi,h2.ln.trans h.ln,fun i x' hx=> ?_⟩;obtain ⟨y,hy,e1,e2⟩:=h2.o i x' hx;obtain ⟨z,hz,e3,e4⟩:=h.o i y hy;refine ⟨z,hz,e1.trans e3,fun ha=> ?_⟩;rcases e2 ha with e|e
 ·exact e4 e
 ·exact .inr (by rwa [h.fi] at e)
theorem uf.Ox (h:uf aO N pu left sent H st) (hs:jl H st st'):uf aO N pu left sent H st':=by
 refine ⟨by rw[hs.q,hs.fi];exact h.q,by rw[hs.d,hs.fi];exact h.dn,by rw[hs.fr,hs.fi];exact h.fr,by rw[hs.tk,hs.fr,hs.fi];exact h.tk,by rw[hs.fi,hs.ln];exact h.fo,fun i x hx=> ?_,fun i x hx ha=> ?_,by rw[hs.fi];exact h.has⟩
 ·obtain ⟨y,hy,e1,_⟩:=hs.o i x hx;rw[hs.fi];exact e1.trans (h.out i y hy)
 ·obtain ⟨y,hy,_,e2⟩:=hs.o i x hx;rw[hs.fi];rcases e2 ha with e|e
  ·exact h.ak i y hy e
  ·exact e
theorem jl.set {i:Nat} {x z:Ou} (hx:st.out[i]? =some x) (hz:iq z x) (ha:z.bY=true→x.bY=true∨H (st.first+i)) (hq:st'.queue=st.queue) (hd:st'.done=st.done) (hf:st'.front=st.front) (ht:st'.taken=st.taken) (hi:st'.first=st.first) (ho:st'.out=st.out.set i z):jl H st st':=by
 refine ⟨hq,hd,hf,ht,hi,by rw[ho,List.length_set],fun j y hy=> ?_⟩;rw[ho,List.getElem?_set] at hy;split at hy
 ·rename_i e;subst e;split at hy
  ·cases hy;exact ⟨x,hx,hz,ha⟩
  ·cases hy
 ·exact ⟨y,hy,iq.refl _,fun h=> .inl h⟩
theorem Cw (c:Cf) (x:Ou) (l:List (Nat × Nat)):iq (iF c x l).1 x∧(iF c x l).1.bY=x.bY:=by
 unfold iF;split<;>exact ⟨⟨rfl,rfl,rfl,rfl⟩,rfl⟩
theorem jl.nO (c:Cf) (st:Sd):jl H st (dY c st):=by
 unfold dY;split
 ·exact jl.refl _
 ·split
  ·exact jl.refl _
  ·split
   ·exact jl.refl _
   ·rename_i i _ x hx;obtain ⟨e1,e2⟩:=Cw c x [(0,aC x-1)];exact jl.set hx e1 (fun ha=> .inl (by rwa [e2] at ha)) rfl rfl rfl rfl rfl rfl
theorem jl.clock (st:Sd) (now:Int):jl H st (fO st now):=jl.Gl rfl rfl rfl rfl rfl rfl
theorem jl.tick (c:Cf) (st:Sd) (now:Int):jl H st (eX c st now):=by
 refine (jl.clock st now).trans ?_;unfold eX gV;split
 ·exact jl.refl _
 ·exact jl.trans (st':= {fO st now with wait:=false,fH:=true}) (jl.Gl rfl rfl rfl rfl rfl rfl) (jl.nO c _)
theorem jl.fM (c:Cf) (st:Sd) (now:Int):jl H st (fM c st now).1:=by
 unfold Go.Proofs.YtbhiklnljiehiaaGreat.fM;split
 ·exact jl.refl _
 ·exact jl.tick c st now
theorem jl.finish (c:Cf) (st:Sd) (b:Bool):jl H st (bK c st b).1:=by
 unfold bK;split
 ·exact jl.Gl rfl rfl rfl rfl rfl rfl
 ·exact jl.refl _
theorem jl.gQ {i:Nat} {x:Ou} (hx:st.out[i]? =some x) (l:List (Nat × Nat)):jl H st (gQ st i x l):=jl.set (z:= {x with pend:=l}) hx ⟨rfl,rfl,rfl,rfl⟩ (fun ha=> .inl ha) rfl rfl rfl rfl rfl rfl
theorem jl.again (c:Cf) (n:Int) {i:Nat} {x:Ou} (hx:st.out[i]? =some x):jl H st (fQ c n st i x).1:=by
 unfold fQ;split
 ·exact jl.refl _
 ·split
  ·exact (jl.gQ hx _).trans (jl.finish c _ _)
  ·split
   ·exact jl.refl _
   ·exact (jl.gQ hx _).trans (jl.finish c _ _)
theorem Gm (c:Cf) (m:Ou→List (Nat × Nat)) (x:Ou):iq (dF c m x).1 x∧((dF c m x).1.bY=true→x.bY=true∨m x= []):=by
 unfold dF;split
 ·exact ⟨iq.refl _,fun h=> .inl h⟩
 ·split
  ·rename_i e;exact ⟨⟨rfl,rfl,rfl,rfl⟩,fun _=> .inr e⟩
  ·obtain ⟨e1,e2⟩:=Cw c x (m x);exact ⟨e1,fun ha=> .inl (by rwa [e2] at ha)⟩
theorem jl.stat (c:Cf) (m:Ou→List (Nat × Nat)) (n:Nat) (hn:n≤st.out.length) (hm:∀i x,i<n→st.out[i]? =some x→m x= []→H (st.first+i)) (f w:Bool):
 jl H st {st with out:=(aY c m n st.out).1,failed:=f,wait:=w}:=by
 have e:(aY c m n st.out).1=(st.out.take n).map (fun x=>(dF c m x).1)++st.out.drop n:=rfl;refine ⟨rfl,rfl,rfl,rfl,rfl,?_,fun i y hy=> ?_⟩
 ·show (aY c m n st.out).1.length=_
  rw[e,List.length_append,List.length_map,List.length_take,List.length_drop];omega
 ·have hy':(aY c m n st.out).1[i]? =some y:=hy;rw[e] at hy';by_cases hi:i<n
  ·rw[List.getElem?_append_left (by rw[List.length_map,List.length_take];omega),List.getElem?_map,List.getElem?_take,if_pos hi] at hy';cases hx:st.out[i]? with
   |none=>rw[hx] at hy';cases hy'
   |some x=>
    rw[hx] at hy';cases hy';obtain ⟨e1,e2⟩:=Gm c m x;refine ⟨x,rfl,e1,fun ha=> ?_⟩;rcases e2 ha with h|h
    ·exact .inl h
    ·exact .inr (hm i x hi hx h)
  ·rw[List.getElem?_append_right (by rw[List.length_map,List.length_take];omega),List.length_map,List.length_take,show min n st.out.length=n by omega,List.getElem?_drop,show n+(i-n)=i by omega] at hy';exact ⟨y,hy',iq.refl _,fun ha=> .inl ha⟩
theorem Cx:∀(l:List (List UInt8)) (f:Nat),(gG l f).2.2.1=(aI l f).2∧(gG l f).2.1+(aI l f).2=f
 | [],f=>by simp[gG,aI]
 |x::r,f=>by
  by_cases h:x.length≤f
  ·obtain ⟨h1,h2⟩:=Cx r (f-x.length);rw[gG,if_pos h,aI,if_pos h];dsimp only;exact ⟨h1,by omega⟩
  ·rw[gG,if_neg h,aI,if_neg h];simp
theorem uf.WL (D:Dir aO N pu left sent) (h:uf aO N pu left sent H st):uf aO N pu left sent H (fU st):=by
 have hN:=D.T.n;have hfo:=h.fo;obtain ⟨⟨d,d1,d2,d3,d4⟩,_⟩:=lG st.out;have e1:(fU st).out=(bD st.out).2.2:=rfl;have e2:(fU st).queue=(gG st.queue (st.front+(bD st.out).2.1)).2.2.2:=rfl;have e3:(fU st).taken=st.taken-(gG st.queue (st.front+(bD st.out).2.1)).2.1:=rfl;have e4:(fU st).front=(gG st.queue (st.front+(bD st.out).2.1)).2.2.1:=rfl;have e5:(fU st).first=(st.first+(bD st.out).1)%1024:=rfl
 have e6:(fU st).done=st.done+(gG st.queue (st.front+(bD st.out).2.1)).1:=rfl;have hlen:st.out.length=d.length+(bD st.out).2.2.length:=by
  conv=>lhs;rw[d1]
  rw[List.length_append]
 have hf:(fU st).first=st.first+d.length:=by rw[e5,←d2];omega
 have hd:∀i x,d[i]? =some x→iq x (pu (st.first+i)):=fun i x hx=>h.out i x (by rw[d1,List.getElem?_append_left (List.getElem?_eq_some_iff.1 hx).1];exact hx)
 have ht:=Mh d st.first hd
 rw[d3] at ht;have hle:st.first+d.length≤N:=by omega
 have hsk:=D.sk (st.first+d.length) hle;rw[ht,sM,D.sk st.first (by omega)] at hsk;dsimp only at hsk;rw[←h.q,←h.fr] at hsk;obtain ⟨a1,a2⟩:=EL st.queue (st.front+(bD st.out).2.1);obtain ⟨b1,b2⟩:=Cx st.queue (st.front+(bD st.out).2.1);rw[hsk] at a1 a2 b1 b2;dsimp only at a1 a2 b1 b2;have hmono:=La pu (st.first+d.length) (N-(st.first+d.length));rw[show st.first+d.length+(N-(st.first+d.length))=N by omega] at hmono;have htk:=h.tk;have hdn:=h.dn;have hq:=h.q;have hrest:∀i,(bD st.out).2.2[i]? =st.out[d.length+i]? :=fun i=>by
  conv=>rhs;rw[d1]
  rw[List.getElem?_append_right (by omega),show d.length+i-d.length=i by omega]
 refine ⟨by rw[e2,a2,hf],?_,by rw[e4,b1,hf],?_,?_,fun i x hx=> ?_,fun i x hx ha=> ?_,fun k hk=> ?_⟩
 ·rw[e6,hf];have:st.queue.length=(left st.first).length:=by rw[hq]
  omega
 ·rw[e3,e4,b1,hf,ht];omega
 ·rw[hf,e1];omega
 ·rw[e1,hrest] at hx;rw[hf,Nat.add_assoc];exact h.out _ x hx
 ·rw[e1,hrest] at hx;rw[hf,Nat.add_assoc];exact h.ak _ x hx ha
 ·rw[hf] at hk;by_cases hk2:k<st.first
  ·exact h.has k hk2
  ·have hi:k-st.first<d.length:=by omega
   have hx:d[k-st.first]? =some d[k-st.first]:=List.getElem?_eq_getElem hi;have h1:=h.ak (k-st.first) d[k-st.first] (by rw[d1,List.getElem?_append_left hi];exact hx) (d4 _ (List.getElem_mem _))
   rwa [show st.first+(k-st.first)=k by omega] at h1
structure V3 (N:Nat) (pu:Nat→Ou) (H:Nat→Prop) (aJ:Nat) (l:List Nk):Prop where
 le:aJ≤N
 v:bS (aJ:Int) l=true
 Z4:∀k,k<aJ→H k∨∃n∈l,n.sn=(k:Int)∧Jc (aC (pu k)) n
theorem V3.mono {aJ:Nat} {l:List Nk} (h:V3 N pu H aJ l) (hN:N≤N') (hp:∀k,k<N→rY k=pu k) (hH:∀k,H k→H' k):V3 N' rY H' aJ l:=
 ⟨Nat.le_trans h.le hN,h.v,fun k hk=>by
  rcases h.Z4 k hk with e|e
  ·exact .inl (hH k e)
  ·rw[hp k (by have:=h.le;omega)];exact .inr e⟩
theorem V3.truth {aJ:Nat} {l:List Nk} (h:V3 N pu H aJ l) {k:Nat} (hk:k<aJ) {x:Ou} (hx:iq x (pu k)) (hsn:(pu k).sn=k) (hm:cO l x= []):H k:=by
 rcases h.Z4 k hk with hh|⟨n,hn,e,ha⟩
 ·exact hh
 ·exfalso;rw[←hx.size] at ha;refine EI (aC x) (l.filter (fun n=>decide (n.sn=(x.sn:Int)))) [] ⟨n,?_,ha⟩ hm;rw[List.mem_filter];refine ⟨hn,?_⟩;rw[hx.sn,hsn];simpa using e
theorem uf.status (D:Dir aO N pu left sent) (h:uf aO N pu left sent H st) (c:Cf) (now:Int) {aJ:Nat} {l:List Nk} (hr:V3 N pu H aJ l):uf aO N pu left sent H (dL c st now (aJ:Int) l).1:=by
 have hN:=D.T.n;have hfo:=h.fo;have hle:=hr.le;unfold dL;split
 ·exact h
 unfold nP;split
 ·exact h
 split
 ·exact h.Ox (jl.clock st now)
 rename_i hbad;have hpl:eY st (aJ:Int)≤st.out.length:=by have:=not_or.1 hbad;omega
 have hge:st.first≤aJ:=by
  unfold eY at hpl;omega
 have hp:eY st (aJ:Int)=((aJ-st.first:Nat):Int):=by
  unfold eY;omega
 rw[hp];dsimp only;rw[Int.toNat_natCast];have h2:uf aO N pu left sent H (fO st now):=h.Ox (jl.clock st now);have h3:∀f w,uf aO N pu left sent H {fO st now with out:=(aY c (cO l) (aJ-st.first) (fO st now).out).1,failed:=f,wait:=w}:=fun f w=>by
  refine h2.Ox (jl.stat c (cO l) (aJ-st.first) (by show _≤st.out.length;omega) (fun i x hi hx hm=> ?_) f w);have hx':st.out[i]? =some x:=hx;show H (st.first+i)
  have hil:=(List.getElem?_eq_some_iff.1 hx').1;exact hr.truth (by omega) (h.out i x hx') (D.T.sn _ (by omega)) hm
 unfold tK;dsimp only;split
 ·exact (uf.WL D (h3 _ _)).Ox (jl.nO c _)
 ·exact uf.WL D (h3 _ _)
theorem uf.iK (_D:Dir aO N pu left sent) (h:uf aO N pu left sent H st) (x:List UInt8):uf (aO++ [x]) N pu (fun i=>left i++ [x]) sent H (eG st x):=by
 refine ⟨by show st.queue++ [x]=_;rw[h.q];rfl,?_,h.fr,h.tk,h.fo,h.out,h.ak,h.has⟩;show st.done+(left st.first++ [x]).length=_
 have:=h.dn;simp only[List.length_append,List.length_cons,List.length_nil];omega
theorem uf.skip (D:Dir aO N pu left sent) (h:uf aO N pu left sent H st):aI st.queue st.taken=(left N,sent N):=by
 have hfo:=h.fo;have htk:=h.tk;have hmono:=La pu st.first (N-st.first)
 rw[show st.first+(N-st.first)=N by omega] at hmono;have e:=D.sk N (aN);rw[show tot pu N=tot pu st.first+(tot pu N-tot pu st.first) by omega,sM,D.sk st.first (by omega)] at e;dsimp only at e;rw[←h.q,←h.fr,show st.front+(tot pu N-tot pu st.first)=st.taken by omega] at e;exact e
theorem uf.fresh (D:Dir aO N pu left sent) (h:uf aO N pu left sent H st) (hN:N<511) (n:Int) (hne:(bH n st).ps≠ []):
 ∃rY left' sent',(∀k,k<N→rY k=pu k)∧(∀i,i≤N→left' i=left i∧sent' i=sent i)∧Dir aO (N+1) rY left' sent'∧uf aO (N+1) rY left' sent' H (eD st (bH n st))∧iq (bH n st) (rY N):=by
 have hsk:=h.skip D;have hfo:=h.fo;have hsn:(bH n st).sn=N:=by
  show bZ st=N
  unfold bZ;omega
 have hs:(bH n st).s=decide (sent N=0):=by
  show decide ((aI st.queue st.taken).2=0)=_
  rw[hsk]
 have he:(bH n st).e=(kG n ((left N).length+1) (left N) (sent N) 0 0 0 false).2.1:=by
  show (kG n ((aI st.queue st.taken).1.length+1) (aI st.queue st.taken).1 (aI st.queue st.taken).2 0 0 0 false).2.1=_
  rw[hsk]
 have hps:(bH n st).ps=(kG n ((left N).length+1) (left N) (sent N) 0 0 0 false).1:=by
  show (kG n ((aI st.queue st.taken).1.length+1) (aI st.queue st.taken).1 (aI st.queue st.taken).2 0 0 0 false).1=_
  rw[hsk]
 have hD:=D.fresh hN n hsn hs he hps hne;have hak:(bH n st).bY=false:=rfl;generalize bH n st=x at*;have htot:tot (upd pu N x) N=tot pu N:=pP fun k hk=>upd_ne _ _ (by omega)
 have htf:tot (upd pu N x) st.first=tot pu st.first:=pP fun k hk=>upd_ne _ _ (by omega)
 refine ⟨_,_,_,fun k hk=>upd_ne _ _ (by omega),fun i hi=>⟨upd_ne _ _ (by omega),upd_ne _ _ (by omega)⟩,hD,?_,by rw[jb];exact iq.refl _⟩;refine ⟨by rw[upd_ne _ _ (by show st.first≠_;omega)];exact h.q,by rw[upd_ne _ _ (by show st.first≠_;omega)];exact h.dn,by rw[upd_ne _ _ (by show st.first≠_;omega)];exact h.fr,?_,?_,fun i y hy=> ?_,fun i y hy ha=> ?_,h.has⟩
 ·show st.taken+aC x+tot (upd pu N x) st.first=st.front+tot (upd pu N x) (N+1)
  rw[tot,htot,htf,jb];have:=h.tk;omega
 ·show st.first+(st.out++ [x]).length=N+1
  simp;omega
 ·have hy':(st.out++ [x])[i]? =some y:=hy;show iq y (upd pu N x (st.first+i))
  rcases Nat.lt_or_ge i st.out.length with hlt|hge
  ·rw[List.getElem?_append_left hlt] at hy';rw[upd_ne _ _ (by omega)];exact h.out i y hy'
  ·rw[List.getElem?_append_right hge] at hy';have hi0:i-st.out.length=0:=by
    rcases Nat.eq_zero_or_pos (i-st.out.length) with e|e
    ·exact e
    ·rw[List.getElem?_eq_none (by simp;omega)] at hy';cases hy'
   rw[hi0] at hy';simp at hy';rw[←hy',show st.first+i=N by omega,jb];exact iq.refl _
 ·have hy':(st.out++ [x])[i]? =some y:=hy;show H (st.first+i)
  rcases Nat.lt_or_ge i st.out.length with hlt|hge
  ·rw[List.getElem?_append_left hlt] at hy';exact h.ak i y hy' ha
  ·exfalso;rw[List.getElem?_append_right hge] at hy';have hi0:i-st.out.length=0:=by
    rcases Nat.eq_zero_or_pos (i-st.out.length) with e|e
    ·exact e
    ·rw[List.getElem?_eq_none (by simp;omega)] at hy';cases hy'
   rw[hi0] at hy';simp at hy';rw[←hy',hak] at ha;cases ha
end
end
end Go.Proofs.YtbhiklnljiehiaaGreat
