/- amrecv: Grant. amrecv: part. amrecv: deliver: what it computes (bounds), and its memory. -/
import Derived.Test.YtiecgfahidpldaaGreatM3ab
import Derived.Test.YtiecgfahidpldaaGreatM3as
import Derived.Test.YtiecgfahidpldaaGreatM3at
import Derived.Test.YtiecgfahidpldaaGreatM3au
namespace Go.Proofs.YtiecgfahidpldaaGreat
section
open Go.RowKit Go.Shelf
attribute [local go_sem] Oper.semAt_some
def GH (R:Nat × List Nk) (N:Nat):Int × List Nk:=
 if bU (R.1:Int) R.2=true then ((GD (R.1:Int) R.2 N).1,R.2.take (GD (R.1:Int) R.2 N).2) else (0,[])
def encR (x:Int × List Nk):List UInt8 × Nat:=if bU x.1 x.2=true then (C6 x.1.toNat x.2,0) else ([],2)
def eG (c:Cf) (st:Rc) (now n:Int):Rc × List UInt8 × Nat:=
 if n<0 then (st,[],2)
 else if (fQ c st now).due=false∨(fQ c st now).now<(fQ c st now).qH∨n<2 then (fQ c st now,[],0)
 else ({fQ c st now with due:=false,qH:=IntKind.i64.wrap ((fQ c st now).now+c.gP)},(encR (GH (iO (fQ c st now)) n.toNat)).1,(encR (GH (iO (fQ c st now)) n.toNat)).2)
theorem uG (c:Cf) (st:Rc) (now:Int):(fQ c st now).m=st.m:=by
 unfold fQ;split
 ·rfl
 ·unfold rW;dsimp only;split<;>rfl
section
variable (w:World)
theorem Pd (R:Nat × List Nk) (A:Option Addr) (c:Nat) (h:bP w A R.2.length c R.2) (N:Nat) (hN:2≤N):
 Calls Tryz.prog 40 #[.agg #[.int .i64 (R.1:Int),.slice A R.2.length c],.int .i64 (N:Int)] w fun e w'=>∃A' c' er,e= .returned (.tuple #[.agg #[.int .i64 (GH R N).1,.slice A' (GH R N).2.length c'],.int .i64 er])∧bP w' A' (GH R N).2.length c' (GH R N).2∧(∀ad,A'=some ad→w.heap.size≤ad.block)∧Below w.heap.size w w':=by
 unfold GH;cases hv:bU (R.1:Int) R.2 with
 |true=>
  refine (Sc w (R.1:Int) A R.2.length c R.2 h hv N hN).mono ?_;rintro e w' ⟨A',c',rfl,h1,h3,h2⟩;have hl:=h1.len;rw[if_pos rfl];dsimp only;rw[hl];exact ⟨A',c',_,rfl,h1,h3,h2⟩
 |false=>
  refine (O9 w (R.1:Int) A R.2.length c R.2 h hv N).mono ?_;rintro e w' ⟨rfl,h2⟩;rw[if_neg (by simp)];exact ⟨none,0,_,rfl,⟨rfl,Nat.le_refl _,by omega,fun h0=>by simp at h0⟩,fun ad e=>(by cases e),h2⟩
theorem GI (x:Int × List Nk) (A:Option Addr) (c:Nat) (h:bP w A x.2.length c x.2):
 Calls Tryz.prog 41 #[.agg #[.int .i64 x.1,.slice A x.2.length c]] w (ql w.heap.size 5 w (encR x).1.length (cu (encR x).1) ((encR x).2:Nat)):=by
 unfold encR;cases hv:bU x.1 x.2 with
 |true=>
  obtain ⟨a,l⟩:=x;dsimp only at hv h ⊢;have h0:0≤a:=by
   have h1:=hv;unfold bU at h1;simp only[Bool.and_eq_true,decide_eq_true_eq] at h1;exact h1.1.1
  obtain ⟨a,rfl⟩:=Int.eq_ofNat_of_zero_le h0;rw[if_pos rfl];exact JI w a A l.length c l h hv
 |false=>
  refine (GA w x.1 A x.2.length c x.2 h hv).mono ?_;rintro e w' ⟨rfl,h2⟩;rw[if_neg (by simp)];exact ⟨_,rfl,World.ownsRow_nil _ _ _ _,h2⟩
end
section
variable {w w':World} {T:Nat→Nat} {g M n:Nat} {c:Cf} {st:Rc} {vo:Value}
def afo (w:World) (T:Nat→Nat) (g M n:Nat) (c:Cf) (vo:Value) (R:Rc × List UInt8 × Nat) (e:Ending) (w':World):Prop:=
 ∃v,e= .returned (.tuple #[v,.int .i64 (R.2.2:Nat)])∧w'.ownsRow w.heap.size 5 1 v R.2.1.length (cu R.2.1)∧gH w' T g M n c R.1 vo∧Kept (MT T) w w'
set_option maxRecDepth 100000 in
set_option maxHeartbeats 4000000 in
theorem JJ (h:gH w T g M n c st vo) (ho:dL st) (hz:rF st) (hcf:L5 c) (now:Int) (iR:now≤9223372036854775807) (N:Int) (hN:N≤9223372036854775807):
 Calls Tryz.prog 9 #[.pointer (some ⟨g,0,none⟩),.int .i64 now,.int .i64 N] w (afo w T g M n c vo (eG c st now N)):=by
 have Qf:=Lib.hid (og h);have wS:=Lib.hid (vP h ho hcf now iR);have HH:=Lib.hid h;have HO:=Lib.hid (ho.goes c iR);have HZ:=Lib.hid (show rF (fQ c st now) from fun k p hp=>hz k p (by rw[←uG c st now];exact hp));obtain ⟨R,hR⟩:∃R,eG c st now N=R:=⟨_,rfl⟩
 rw[hR];unfold eG at hR;clear h ho hz;by_cases h0:N<0
 ·rw[if_pos h0] at hR;subst hR;clear HO HZ wS;go_enter Tryz.func9,Tryz.ntmps9;go_wp2_with (go_at_call 31;refine Qf.out.mono ?_;rintro e1 w1 ⟨rfl,rfl⟩)
  go_ret2
  exact ⟨_,rfl,World.ownsRow_nil _ _ _ _,HH.out,Kept.refl _ _⟩
 ·rw[if_neg h0] at hR;have d0:decide (N<0)=false:=decide_eq_false h0;clear HH;obtain ⟨s1,hs1⟩:∃s1,fQ c st now=s1:=⟨_,rfl⟩
  rw[hs1] at hR wS HO HZ;clear hs1;go_enter Tryz.func9,Tryz.ntmps9;go_wp2_with fail;refine Qf.out.mono ?_;rintro e1 w1 ⟨rfl,rfl⟩;clear Qf;go_wp2_with fail;refine wS.out.mono ?_;rintro e2 w1 ⟨rfl,vG,hK1⟩;obtain ⟨x3,x4,x7,x8,x9,x10,uZ,EG,OT,Ej,Qd,OU,OV,x18⟩:=vG.cells;clear x3 x7 x8 x9 x10 uZ EG OT OV x18;cases hd:s1.due with
  |false=>
   rw[hd] at Ej;rw[if_pos (.inl hd)] at hR;subst hR;clear HO HZ wS;have HR1:=Lib.hid vG;have sH:=Lib.hid hK1;clear vG hK1;go_wp2_with fail
   go_quiet (fail)
   go_wp2_with fail
   go_ret2
   exact ⟨_,rfl,World.ownsRow_nil _ _ _ _,HR1.out.drewN nq,sH.out.drewN nq⟩
  |true=>
   rw[hd] at Ej;by_cases hlt:s1.now<s1.qH
   ·rw[if_pos (.inr (.inl hlt))] at hR;subst hR;clear HO HZ wS;have HR1:=Lib.hid vG;have sH:=Lib.hid hK1;clear vG hK1;go_wp2_with fail
    go_quiet (fail)
    go_wp2_with fail
    go_ret2
    exact ⟨_,rfl,World.ownsRow_nil _ _ _ _,HR1.out.drewN nq,sH.out.drewN nq⟩
   ·have dlt:decide (s1.now<s1.qH)=false:=decide_eq_false hlt;by_cases h2:N<2
    ·rw[if_pos (.inr (.inr h2))] at hR;subst hR;clear HO HZ wS;have HR1:=Lib.hid vG;have sH:=Lib.hid hK1;clear vG hK1;go_wp2_with fail
     go_quiet (fail)
     go_wp2_with fail
     go_ret2
     exact ⟨_,rfl,World.ownsRow_nil _ _ _ _,HR1.out.drewN nq,sH.out.drewN nq⟩
    ·have d2:decide (N<2)=false:=decide_eq_false h2;rw[if_neg (by rintro (h|h|h);rw[hd] at h;cases h;exact hlt h;exact h2 h)] at hR;obtain ⟨m,rfl⟩:=Int.eq_ofNat_of_zero_le (by omega:0≤N);have HR1:=Lib.hid vG;have sH:=Lib.hid hK1;have HR:=Lib.hid hR;clear vG hK1 hR wS x4;go_wp2_with fail
     go_quiet (fail)
     have hR2:=HR1.out.drewN nq;have hK2:=sH.out.drewN nq;clear HR1 sH Ej Qd OU;generalize w1.drewN nq=w2 at*;have L6:=Lib.hid (qN hR2 HO.out HZ.out);have HR2:=Lib.hid hR2;have uW:=Lib.hid hK2;clear hR2 hK2;obtain ⟨Q,hQ⟩:∃Q,iO s1=Q:=⟨_,rfl⟩
     rw[hQ] at L6 HR;clear hQ;go_wp2_with fail;refine L6.out.mono ?_;rintro e3 w3 ⟨A3,c3,rfl,TK,_,hb3⟩;have hz3:=hb3.size;have HN3:=Lib.hid (TK.alloc (.cells #[.int .i64 (Q.1:Nat),.slice A3 Q.2.length c3] 42));have HB3:=Lib.hid (hb3.alloc hb3.size (.cells #[.int .i64 (Q.1:Nat),.slice A3 Q.2.length c3] 42));have Au:=Lib.hid (aA.new w3 42 #[.int .i64 (Q.1:Nat),.slice A3 Q.2.length c3]);clear TK hb3 L6;go_wp2_with fail;obtain ⟨w4,hw4⟩:∃w4,w3.alloc (.cells #[.int .i64 (Q.1:Nat),.slice A3 Q.2.length c3] 42)=w4:=⟨_,rfl⟩
     obtain ⟨z,hz⟩:∃z,w3.heap.size=z:=⟨_,rfl⟩
     have XQ:=Lib.hid (show w2.heap.size≤z by omega);rw[hw4] at HN3 HB3 Au ⊢;rw[hz] at Au ⊢;clear hz hw4 hz3;have hzl:=Au.out.lt;refine (Pd w4 Q A3 c3 HN3.out m (by omega)).mono ?_;rintro e4 w5 ⟨A5,c5,er,rfl,XR,Ht,hb5⟩;obtain ⟨X,hX⟩:∃X,GH Q m=X:=⟨_,rfl⟩
     rw[hX] at XR ⊢;have h5:=Au.out.below hb5 Au.out.lt;have f0:=h5.frozen 0;have f1:=h5.frozen 1;have y0:=h5.cell 0;have y1:=h5.cell 1;simp at y0 y1;have hN6:=(XR.uF (b:=z) (o:=0) (fun ad e=>by have:=Ht ad e;omega) (.int .i64 X.1)).uF (b:=z) (o:=1) (fun ad e=>by have:=Ht ad e;omega) (.slice A5 X.2.length c5);have h6:aA ((w5.setCell ⟨z,0,none⟩ (.int .i64 X.1)).setCell ⟨z,1,none⟩ (.slice A5 X.2.length c5)) z 42 #[.int .i64 X.1,.slice A5 X.2.length c5]:=by simpa using (h5.aC 0 (.int .i64 X.1)).aC 1 (.slice A5 X.2.length c5)
     have hb6:Below w2.heap.size w2 ((w5.setCell ⟨z,0,none⟩ (.int .i64 X.1)).setCell ⟨z,1,none⟩ (.slice A5 X.2.length c5)):=((HB3.out.trans (hb5.mono HB3.out.size)).setCell (p:=⟨z,0,none⟩) XQ.out _).setCell (p:=⟨z,1,none⟩) XQ.out _;have Es:=Lib.hid (GI _ X A5 c5 hN6);have Qg:=Lib.hid hb6;have c0:=h6.cell 0;have c1:=h6.cell 1;simp at c0 c1;have HQ:=Lib.hid hX;clear h5 h6 XR hN6 hb5 hb6 Ht hX Au HB3 HN3 hzl;go_wp2_with fail;refine Es.out.mono ?_;rintro e7 w7 ⟨v,rfl,hv7,nV⟩;have Wm:=Qg.out.trans (nV.mono Qg.out.size);have KD:=HR2.out.below Wm;have Nv:=uW.out.trans (qL Wm);have aaj:=aW (base':=w.heap.size) hv7 (by have:=Qg.out.size;have:=uW.out.size;omega);have Se:=Lib.hid KD;have MN:=Lib.hid Nv;have HV7:=Lib.hid aaj;have f14:=KD.blk.frozen 14;have f15:=KD.blk.frozen 15;obtain ⟨x3,x4,x7,x8,x9,x10,uZ,EG,OT,Ej,Qd,OU,OV,x18⟩:=KD.cells;clear x3 x7 x8 x9 x10 uZ EG OT OV x18 KD Nv aaj hv7 nV Wm Es Qg HR2 uW c0 c1 f0 f1 y0 y1;go_wp2_with fail
     go_region
     all_goals
      go_wp2_with fail
      go_ret2
      have xJ:=HR.out;rw[Int.toNat_natCast,HQ.out] at xJ;rw[←xJ];rw[show wrap64 (s1.now+c.gP)=IntKind.i64.wrap (s1.now+c.gP) by rw[IntKind.wrap_i64];unfold wrap64;rfl];have p1:=Se.out.put 14 (.bool false) (st':= {s1 with due:=false}) rfl rfl rfl;have p2:=p1.put 15 (.int .i64 (IntKind.i64.wrap (s1.now+c.gP))) (st':= {s1 with due:=false,qH:=IntKind.i64.wrap (s1.now+c.gP)}) rfl rfl rfl;have v1:=ownsRow_setCell_other (a:=⟨g,14,none⟩) HV7.out (iY HV7.out Se.out.blk (by decide)) (.bool false);have v2:=ownsRow_setCell_other (a:=⟨g,15,none⟩) v1 (iY v1 p1.blk (by decide)) (.int .i64 (IntKind.i64.wrap (s1.now+c.gP)));have ht:∀o:Obj,MT T g o:=fun o=>by unfold MT;rw[Se.out.tg];omega
      have k2:=((MN.out.setCell (p:=⟨g,14,none⟩) (fun o _=>ht o) (.bool false)).setCell (p:=⟨g,15,none⟩) (fun o _=>ht o) (.int .i64 (IntKind.i64.wrap (s1.now+c.gP)))).drew;exact ⟨v,rfl,v2.drew',p2.drew,k2⟩
end
end
section
open Go.RowKit Go.Shelf
attribute [local go_sem] Oper.semAt_some
section
variable {w w':World} {T:Nat→Nat} {g M n:Nat} {c:Cf} {st:Rc} {vo:Value}
def uH (T:Nat→Nat) (v:Value):Nat→Nat:=fun k=>if v.ownBlock=some k then 3 else T k
theorem zJ (T:Nat→Nat):uH T (.slice none 0 0)=T:=by
 funext k
 simp[uH,Value.ownBlock]
theorem gH.xP (h:gH w T g M n c st vo) {v2:Value} {op2:List UInt8} (hr:w.ownsRow 0 5 1 v2 op2.length (cu op2)) (hf:∀k,v2.ownBlock=some k→T k=0):gH (w.setCell ⟨g,17,none⟩ v2) (uH T v2) g M n c {st with op:=op2} v2:=by
 have hT:∀k,T k≠0→uH T v2 k=T k:=fun k hk=>by
  unfold uH;rw[if_neg (fun e=>hk (hf k e))]
 have hk:∀k,T k≠1→(w.setCell ⟨g,17,none⟩ v2).heap[k]? =w.heap[k]? :=fun k hk=>Below.heap_setCell w ⟨g,17,none⟩ v2 k (fun e=>by have e2:k=g:=e;rw[e2] at hk;exact hk h.tg)
 obtain ⟨F,h1,h2⟩:=h.mp;refine ⟨?_,(hT g (by rw[h.tg];omega)).trans h.tg,(hT M (by rw[h.tM];omega)).trans h.tM,fun k hk=> ?_,?_,fun k e=>by unfold uH;rw[if_pos e],F,h1.same (hk M (by rw[h.tM];omega)),fun k=>⟨(h2 k).1,fun p hp=> ?_⟩⟩
 ·have:=h.blk.aC 17 v2;exact this
 ·have e:(w.setCell ⟨g,17,none⟩ v2).heap.size=w.heap.size:=by simp[World.setCell]
  rw[e];unfold uH at hk;split at hk
  ·rename_i e2;exact (hr.lt k e2).2
  ·exact h.lt k hk
 ·exact bT hr fun k e=>hk k (by rw[hf k e];omega)
 ·obtain ⟨b,vf,vd,e,hs,t1,t2,t3⟩:=(h2 k).2 p hp;exact ⟨b,vf,vd,e,hs.stay (hk b (by omega)) (fun j hj=>hk j (by rw[t2 j hj];omega)) (fun j hj=>hk j (by rw[t3 j hj];omega)),(hT b (by omega)).trans t1,fun j hj=>(hT j (by rw[t2 j hj];omega)).trans (t2 j hj),fun j hj=>(hT j (by rw[t3 j hj];omega)).trans (t3 j hj)⟩
theorem gH.aak {v:Value} (h:gH w (uH T v) g M n c st (.slice none 0 0)) (hl:∀k,T k≠0→k<w.heap.size):gH w T g M n c st (.slice none 0 0):=by
 have hT:∀k,uH T v k≠3→T k=uH T v k:=fun k hk=>by
  unfold uH at hk ⊢;split
  ·rename_i e;rw[if_pos e] at hk;exact absurd rfl hk
  ·rfl
 obtain ⟨F,h1,h2⟩:=h.mp;refine ⟨h.blk,(hT g (by rw[h.tg];omega)).trans h.tg,(hT M (by rw[h.tM];omega)).trans h.tM,hl,h.nR,fun k e=>by simp[Value.ownBlock] at e,F,h1,fun k=>⟨(h2 k).1,fun p hp=> ?_⟩⟩;obtain ⟨b,vf,vd,e,hs,t1,t2,t3⟩:=(h2 k).2 p hp;exact ⟨b,vf,vd,e,hs,(hT b (by omega)).trans t1,fun j hj=>(hT j (by rw[t2 j hj];omega)).trans (t2 j hj),fun j hj=>(hT j (by rw[t3 j hj];omega)).trans (t3 j hj)⟩
def aal (w:World) (T:Nat→Nat) (g M n:Nat) (c:Cf) (st:Rc) (R:List UInt8 × Bool × List (List UInt8)) (e:Ending) (w':World):Prop:=
 ∃T' kX vr,e= .returned (.tuple #[vr,.bool (!R.2.2.isEmpty)])∧gH w' T' g M n c {st with op:=R.1,sm:=R.2.1} kX∧(∀k,k<w.heap.size→T' k=T k)∧Kept (fun k _=>k=g) w w'∧
  (∀q,R.2.2= [q]→w'.ownsRow w.heap.size 5 1 vr q.length (cu q)∧∀k,vr.ownBlock=some k→T' k=0)
theorem Pe {w w':World} {g:Nat} (h:Below w.heap.size w w'):Kept (fun k _=>k=g) w w':=(Kept.of_below h).gX fun k o ho hm=>by have:=lt_of_heap ho;omega
theorem Sf (w:World) (A1 A2:Option Addr) (n1 c1 n2 c2:Nat) (l1 l2:List UInt8) (h1:Sl w w.heap.size A1 n1 c1 (cu l1)) (h2:Sl w w.heap.size A2 n2 c2 (cu l2)) (t:TypeId):
 gD (w.alloc (.cells #[.slice A1 n1 c1,.slice A2 n2 c2] t)) (w.alloc (.cells #[.slice A1 n1 c1,.slice A2 n2 c2] t)).heap.size (some ⟨w.heap.size,0,none⟩) 2 2 [.slice A1 n1 c1,.slice A2 n2 c2] [l1,l2]:=by
 have hb:=aA.new w t #[.slice A1 n1 c1,.slice A2 n2 c2];have e1:l1.length=n1:=by simpa using h1.len
 have e2:l2.length=n2:=by simpa using h2.len
 refine ⟨⟨rfl,Nat.le_refl _,by omega,fun _=>⟨_,rfl,by simp,fun j u hu=> ?_⟩⟩,rfl,fun i p hi=> ?_⟩
 ·rw[Addr.add_lit,Nat.zero_add];rw[hb.cell j];simpa using hu
 ·have hsz:w.heap.size≤(w.alloc (.cells #[.slice A1 n1 c1,.slice A2 n2 c2] t)).heap.size:=by simp
  match i,hi with
  |0,hi=>
   simp at hi;subst hi;exact ⟨A1,c1,by rw[e1];rfl,by rw[e1];exact (h1.alloc (Nat.le_refl _) _).more hsz⟩
  |1,hi=>
   simp at hi;subst hi;exact ⟨A2,c2,by rw[e2];rfl,by rw[e2];exact (h2.alloc (Nat.le_refl _) _).more hsz⟩
  |i+2,hi=>simp at hi
set_option maxRecDepth 100000 in
set_option maxHeartbeats 4000000 in
theorem L8 (h:gH w T g M n c st vo) (ho:dL st) (A:Option Addr) (nb cb:Nat) (bs:List UInt8) (hnb:nb≤100000) (hs:∀W,Kept (fun k _=>k=g) w W→Sl W W.heap.size A nb cb (cu bs)) (begins last:Bool):
 Calls Tryz.prog 86 #[.pointer (some ⟨g,0,none⟩),.slice A nb cb,.bool begins,.bool last] w (aal w T g M n c st (pR bs begins last st.op st.sm)):=by
 have hlen:bs.length=nb:=by simpa using (hs w (Kept.refl _ w)).len
 have hop:=ho.op;have HS:=Lib.hid hs;have HH:=Lib.hid h;obtain ⟨R,hR⟩:∃R,pR bs begins last st.op st.sm=R:=⟨_,rfl⟩
 rw[hR];obtain ⟨op1,sm1,hop1⟩:∃(op1:List UInt8) (sm1:Bool),(op1,sm1)=if begins=true then (([]:List UInt8),true) else (st.op,st.sm):=⟨_,_,rfl⟩
 have vG:R=if sm1=false then (op1,false,[]) else if (op1++bs).length≤9000∧last=false then (op1++bs,true,[]) else ([],false,if (op1++bs).length≤9000 then [op1++bs] else []):=by
  rw[←hR];unfold pR;cases begins with
  |true=>
   simp only[if_true,Prod.mk.injEq] at hop1;obtain ⟨rfl,rfl⟩:=hop1;rw[if_neg (show ¬(true=false∧st.sm=false) by simp),if_neg (show ¬(true=false) by simp)];dsimp only;rw[if_pos rfl]
  |false=>
   simp only[Bool.false_eq_true,if_false,Prod.mk.injEq] at hop1;obtain ⟨rfl,rfl⟩:=hop1;cases hsm:st.sm with
   |false=>rw[if_pos (by simp),if_pos rfl]
   |true=>
    rw[if_neg (show ¬(false=false∧true=false) by simp),if_neg (show ¬(true=false) by simp)];dsimp only;rw[if_neg (show ¬(false=true) by simp)]
 have hol:op1.length≤9000:=by
  split at hop1
  ·simp only[Prod.mk.injEq] at hop1;rw[hop1.1];simp
  ·simp only[Prod.mk.injEq] at hop1;rw[hop1.1];exact hop
 have HOP:=Lib.hid hop1;have HR1:=Lib.hid vG;clear hs hR h ho hop1 vG;go_enter Tryz.func86,Tryz.ntmps86;go_upto_if 11 with (fail)
 go_cut [] from 12 to 17 (fun wx=>∃v1,gH wx T g M n c {st with op:=op1,sm:=sm1} v1∧Kept (fun k _=>k=g) w wx)
 case first=>
  cases begins with
  |true=>
   have hop1:=HOP.out;simp only[if_true,Prod.mk.injEq] at hop1;obtain ⟨rfl,rfl⟩:=hop1;have c17:=HH.out.cell 17;have c18:=HH.out.cell 18;have f17:=HH.out.blk.frozen 17;have f18:=HH.out.blk.frozen 18;simp[LJ] at c17 c18;have h1:=HH.out.xP (v2:= .slice none 0 0) (op2:= []) (World.ownsRow_nil _ _ _ _) (fun k e=>by simp[Value.ownBlock] at e);rw[zJ] at h1;have h2:=h1.put 18 (.bool true) (st':= {st with op:= [],sm:=true}) rfl rfl rfl;have H2:=Lib.hid h2;clear h1 h2;go_wp2;go_meet;exact ⟨_,H2.out,((Kept.refl _ w).setCell (p:=⟨g,17,none⟩) (fun _ _=>rfl) _).setCell (p:=⟨g,18,none⟩) (fun _ _=>rfl) _⟩
  |false=>
   have hop1:=HOP.out;simp only[Bool.false_eq_true,if_false,Prod.mk.injEq] at hop1;obtain ⟨rfl,rfl⟩:=hop1;go_wp2;go_meet;exact ⟨vo,HH.out,Kept.refl _ w⟩
 case rest=>
 obtain ⟨v1,h1,hk1⟩:=hcut;have hsb:=HS.out wc hk1;have hkm:Kept (fun k _=>k=g) w wc:=hk1;have HKM:=Lib.hid hkm;have sH:=Lib.hid hk1;have H1:=Lib.hid h1;have c17:=h1.cell 17;have c18:=h1.cell 18;simp[LJ] at c17 c18;clear hk1 hkm HS HOP;cases sm1 with
 |false=>
  have hr:=HR1.out;rw[if_pos rfl] at hr;have HR:=Lib.hid hr;clear hr HR1 hsb h1;go_wp2
  go_ret2
  rw[HR.out];exact ⟨T,v1,_,rfl,H1.out,fun _ _=>rfl,HKM.out,fun q hq=>by cases hq⟩
 |true=>
  have hr:=HR1.out;rw[if_neg (by simp)] at hr;obtain ⟨A1,c1,rfl,hs1,-⟩:=aP h1.nR;have Wn:=xX (some ⟨wc.heap.size,0,none⟩) 2 2 _ _ _ (Sf wc A1 A op1.length c1 nb cb op1 bs hs1 hsb 22) (by simp[au];omega);have e1: [op1,bs].flatten=op1++bs:=by simp
  have e2:au [op1,bs]=(op1++bs).length:=by simp[au]
  rw[e1,e2] at Wn;have hcl:(op1++bs).length≤109000:=by rw[List.length_append];omega
  have aao:=Lib.hid Wn;have HR:=Lib.hid hr;clear Wn hr HR1 hsb h1 e1 e2 hs1;generalize op1++bs=o2 at*;go_upto_region 6 with (go_at_call 78;refine aao.out.mono ?_;rintro e3 w3 ⟨v3,rfl,hv3,hb3⟩;obtain ⟨A3,c3,rfl,hs3,-⟩:=aP hv3;have hbb:=((Below.refl wc.heap.size wc).alloc (Nat.le_refl _) (.cells #[.slice A1 op1.length c1,.slice A nb cb] 22)).trans (hb3.mono (by simp));have h3:=H1.out.below hbb;have c17:=h3.cell 17;have f17:=h3.blk.frozen 17;simp[LJ] at c17)
  have hT0:∀k,T k≠0→k<wc.heap.size:=H1.out.lt
  have Wo:∀k,(Value.slice A3 o2.length c3).ownBlock=some k→wc.heap.size≤k:=fun k hk=>by have:=(hv3.lt k hk).1;simp at this;omega
  have hv0:∀k,(Value.slice A3 o2.length c3).ownBlock=some k→T k=0:=fun k hk=>by
   have h9:=Wo k hk;rcases Nat.eq_zero_or_pos (T k) with e|e
   ·exact e
   ·have:=hT0 k (by omega);omega
  have hwz:=HKM.out.size;have hw3:=hbb.size;have Ui:=aW hv3 (Nat.zero_le _);have h4:=h3.xP (op2:=o2) Ui hv0;have hk4:Kept (fun k _=>k=g) w (w3.setCell ⟨g,17,none⟩ (.slice A3 o2.length c3)):=(HKM.out.trans (Pe hbb)).setCell (p:=⟨g,17,none⟩) (fun _ _=>rfl) _;have hv4:(w3.setCell ⟨g,17,none⟩ (.slice A3 o2.length c3)).ownsRow w.heap.size 5 1 (.slice A3 o2.length c3) o2.length (cu o2):=aO (aW hv3 (by simp;omega)) h3.blk (by decide) _;have htg:∀k,k<w.heap.size→uH T (.slice A3 o2.length c3) k=T k:=fun k hk=>by
   unfold uH;rw[if_neg (fun e=>by have:=Wo k e;omega)]
  have H4:=Lib.hid h4;have Co:=Lib.hid hk4;have ZZ:=Lib.hid hv4;have HTG:=Lib.hid htg;have HV0:=Lib.hid hv0;have aiE:=hs3.cap;have alT:=hs3.mx;clear h3 hb3 hbb hv3 hT0 Wo Ui h4 hk4 hv4 htg hv0 hs3 aao H1 sH HKM;generalize w3.setCell ⟨g,17,none⟩ (.slice A3 o2.length c3)=w4 at*;have c17:=H4.out.cell 17;have c18:=H4.out.cell 18;have f17:=H4.out.blk.frozen 17;have f18:=H4.out.blk.frozen 18;simp[LJ] at c17 c18;by_cases hle:o2.length≤9000
  ·cases last with
   |false=>
    have hr:=HR.out;rw[if_pos ⟨hle,rfl⟩] at hr;have HR2:=Lib.hid hr;clear hr;go_wp2
    go_ret2
    rw[HR2.out];exact ⟨_,_,_,rfl,H4.out,HTG.out,Co.out,fun q hq=>by cases hq⟩
   |true=>
    have hr:=HR.out;rw[if_neg (by simp),if_pos hle] at hr;have HR2:=Lib.hid hr;have d1:decide (o2.length≤9000)=true:=decide_eq_true hle;have h5:=(H4.out.xP (v2:= .slice none 0 0) (op2:= []) (World.ownsRow_nil _ _ _ _) (fun k e=>by simp[Value.ownBlock] at e)).put 18 (.bool false) (st':= {st with op:= [],sm:=false}) rfl rfl rfl;rw[zJ] at h5;have hk5:=(Co.out.setCell (p:=⟨g,17,none⟩) (fun _ _=>rfl) (.slice none 0 0)).setCell (p:=⟨g,18,none⟩) (fun _ _=>rfl) (.bool false);have hv5:=aO (i:=18) (aO (i:=17) ZZ.out H4.out.blk (by decide) (.slice none 0 0)) (H4.out.blk.aC 17 (.slice none 0 0)) (by decide) (.bool false);have H5:=Lib.hid h5;have sI:=Lib.hid hk5;have HV5:=Lib.hid hv5;clear h5 hk5 hv5 hr;go_wp2
    go_ret2
    rw[HR2.out];have hl5:=H5.out.aak (fun k hk=>by
     have h9:=H5.out.lt k;unfold uH at h9;split at h9
     ·exact h9 (by omega)
     ·exact h9 hk)
    exact ⟨T,_,_,rfl,hl5,fun _ _=>rfl,sI.out,fun q hq=>by cases hq;exact ⟨HV5.out,HV0.out⟩⟩
  ·have hr:=HR.out;rw[if_neg (fun e=>hle e.1),if_neg hle] at hr;have HR2:=Lib.hid hr;have d1:decide (o2.length≤9000)=false:=decide_eq_false hle;have h5:=(H4.out.xP (v2:= .slice none 0 0) (op2:= []) (World.ownsRow_nil _ _ _ _) (fun k e=>by simp[Value.ownBlock] at e)).put 18 (.bool false) (st':= {st with op:= [],sm:=false}) rfl rfl rfl;rw[zJ] at h5;have hk5:=(Co.out.setCell (p:=⟨g,17,none⟩) (fun _ _=>rfl) (.slice none 0 0)).setCell (p:=⟨g,18,none⟩) (fun _ _=>rfl) (.bool false);have H5:=Lib.hid h5;have sI:=Lib.hid hk5;clear h5 hk5 hr;go_wp2
   go_ret2
   rw[HR2.out];exact ⟨_,_,_,rfl,H5.out,HTG.out,sI.out,fun q hq=>by cases hq⟩
end
end
section
open Go.RowKit Go.Shelf
attribute [local go_sem] Oper.semAt_some
theorem C8 {b:List UInt8} {begins last:Bool} {op:List UInt8} {sm:Bool} (h:op.length≤9000):(pR b begins last op sm).1.length≤9000∧(pR b begins last op sm).2.2.length≤1:=by
 unfold pR;split
 ·exact ⟨h,by simp⟩
 ·dsimp only;generalize (if begins=true then [] else op)++b=o2;split
  ·rename_i hc;exact ⟨hc.1,by simp⟩
  ·refine ⟨by simp,?_⟩;split<;>simp
theorem zK (fl:List Fl) (da:List UInt8) (N:Nat):∀(k i fr:Nat) (op:List UInt8) (sm:Bool),op.length≤9000→(nH fl da N k i fr op sm).1.length≤9000∧(nH fl da N k i fr op sm).2.2.length≤k
 |0,_,_,_,_,h=>⟨h,by simp[nH]⟩
 |k+1,i,fr,op,sm,h=>by
  unfold nH;split
  ·have:=zK fl da N k (i+1) fr op sm h;exact ⟨this.1,by omega⟩
  ·have h1:=C8 (b:=(da.take i).drop fr) (begins:=(dW fl fr).2.1) (last:=decide (i<N)||(dW fl (i-1)).2.2) (sm:=sm) h;have h2:=zK fl da N k (i+1) i _ (pR ((da.take i).drop fr) (dW fl fr).2.1 (decide (i<N)||(dW fl (i-1)).2.2) op sm).2.1 h1.1;refine ⟨h2.1,?_⟩;dsimp only;rw[List.length_append];omega
theorem dL.one {st:Rc} (ho:dL st) {p:Sp} (_hp:st.m st.next=some p):dL (wV st p):=by
 have h1:=zK p.fl p.da (wG p) (wG p) 1 0 st.op st.sm ho.op;refine ⟨by show dN st.next≤1023;unfold dN;omega,ho.n2,ho.n3,ho.n4,fun k q hk=> ?_,h1.1,ho.t1,ho.t2⟩;have hk2:(if k=st.next then none else st.m k)=some q:=hk;split at hk2
 ·cases hk2
 ·rename_i hne;obtain ⟨a,b,d⟩:=ho.m k q hk2;refine ⟨a,?_,d⟩;have hn:=ho.n1;show (k+1024-dN st.next)%1024<512
  unfold bD at b;unfold dN;omega
def dG (W:World) (base:Nat) (T:Nat→Nat) (v:Value) (outs:List (List UInt8)):Prop:=
 ∃vs,W.ownsRow base 22 1 v outs.length vs∧(∀k,v.ownBlock=some k→T k=0)∧∀(i:Nat) (q:List UInt8),outs[i]? =some q→∃vi,vs[i]? =some vi∧W.ownsRow base 5 1 vi q.length (cu q)∧∀k,vi.ownBlock=some k→T k=0
section
variable {w w' W W':World} {T T':Nat→Nat} {g M n:Nat} {c:Cf} {st:Rc} {vo v:Value} {base:Nat} {outs:List (List UInt8)}
theorem dG.nil (W:World) (base:Nat) (T:Nat→Nat):dG W base T (.slice none 0 0) []:=⟨[],World.ownsRow_nil _ _ _ _,fun k e=>by simp[Value.ownBlock] at e,fun i q h=>by simp at h⟩
theorem dG.stay (h:dG W base T v outs) (hk:Kept (MT T) W W') (hT:∀k,k<W.heap.size→T' k=T k):dG W' base T' v outs:=by
 obtain ⟨vs,h1,h2,h3⟩:=h;have key:∀k,k<W.heap.size→T k=0→W'.heap[k]? =W.heap[k]? :=fun k hlt h0=>by
  have e:W.heap[k]? =some W.heap[k]:=Array.getElem?_eq_getElem hlt;rw[e];exact hk.same k _ e (fun hm=>hm h0)
 refine ⟨vs,bT h1 fun k e=>key k (h1.lt k e).2 (h2 k e),fun k e=>(hT k (h1.lt k e).2).trans (h2 k e),fun i q hi=> ?_⟩;obtain ⟨vi,e,ho,ht⟩:=h3 i q hi;exact ⟨vi,e,bT ho fun k e=>key k (ho.lt k e).2 (ht k e),fun k e=>(hT k (ho.lt k e).2).trans (ht k e)⟩
theorem dG.mQ (h:dG W base T v outs) {b:Nat} (hb:b≤base):dG W b T v outs:=by
 obtain ⟨vs,h1,h2,h3⟩:=h;exact ⟨vs,aW h1 hb,h2,fun i q hi=>let ⟨vi,e,ho,ht⟩:=h3 i q hi;⟨vi,e,aW ho hb,ht⟩⟩
theorem dG.drew (h:dG W base T v outs):dG W.drew base T v outs:=h
theorem dG.below (h:dG W base T v outs) (hb:Below W.heap.size W W'):dG W' base T v outs:=by
 obtain ⟨vs,h1,h2,h3⟩:=h;exact ⟨vs,bT h1 fun k e=>hb.block k (h1.lt k e).2,h2,fun i q hi=>let ⟨vi,e,ho,ht⟩:=h3 i q hi;⟨vi,e,bT ho fun k e=>hb.block k (ho.lt k e).2,ht⟩⟩
theorem dG.push {q:List UInt8} {vq v2:Value} {vs:List Value} (hrow:W.ownsRow base 22 1 v outs.length vs) (_hv:∀k,v.ownBlock=some k→T k=0) (h3:∀(i:Nat) (q:List UInt8),outs[i]? =some q→∃vi,vs[i]? =some vi∧W.ownsRow base 5 1 vi q.length (cu q)∧∀k,vi.ownBlock=some k→T k=0)
 (hq:W.ownsRow base 5 1 vq q.length (cu q)) (Ie:∀k,vq.ownBlock=some k→T k=0) (hown:W'.ownsRow base 22 1 v2 (outs.length+1) (vs++ [vq])) (hg:(W.alloc (.cells #[vq] 22)).grownBy W' v.ownBlock) (hv2:∀k,v2.ownBlock=some k→T k=0):dG W' base T v2 (outs++ [q]):=by
 have hs:=hrow.alloc (.cells #[vq] 22);have h5:∀{k:Nat} {x:Value} {xs:List Value},W.ownsRow base 5 1 x k xs→W'.ownsRow base 5 1 x k xs:=fun hx=>(hx.alloc _).kept hg (qX (hx.alloc _) hs (by decide))
 refine ⟨vs++ [vq],by simpa using hown,hv2,fun i r hi=> ?_⟩;rcases Nat.lt_or_ge i outs.length with hlt|hge
 ·rw[List.getElem?_append_left hlt] at hi;obtain ⟨vi,e,ho,ht⟩:=h3 i r hi;have hl:=hrow.1;exact ⟨vi,by rw[List.getElem?_append_left (by omega)];exact e,h5 ho,ht⟩
 ·have hl:=hrow.1;have hi2:i=outs.length:=by
   have:=(List.getElem?_eq_some_iff.1 hi).1;simp at this;omega
  subst hi2;rw[List.getElem?_append_right (Nat.le_refl _),Nat.sub_self] at hi;simp at hi;subst hi;refine ⟨vq,?_,h5 hq,Ie⟩;rw[List.getElem?_append_right (by omega),show outs.length-vs.length=0 by omega];rfl
theorem gH.grown (h:gH W T g M n c st vo) {row:Option Nat} (hg:W.grownBy W' row) (hr:∀k,row=some k→T k=0):gH W' T g M n c st vo:=
 h.stay fun k hk=>hg.block k (h.lt k hk) (fun e=>hk (hr k e.symm))
theorem gH.Sg {n2:Nat} {F2:Nat→Option Value} {m2:Nat→Option Sp} (h:gH W T g M n c st vo) (hg:W.grownBy W' (some M)) (hF:iP Tryz.prog 3 W' M n2 F2)
 (hm:∀k,(m2 k=none→F2 k=none)∧∀p,m2 k=some p→∃b vf vd,F2 k=some (.pointer (some ⟨b,0,none⟩))∧pE W b p vf vd∧T b=3*k+4∧(∀j,vf.ownBlock=some j→T j=3*k+5)∧(∀j,vd.ownBlock=some j→T j=3*k+6)):gH W' T g M n2 c {st with m:=m2} vo:=by
 have hk:∀k,T k≠2→k<W.heap.size→W'.heap[k]? =W.heap[k]? :=fun k h2 hlt=>hg.block k hlt (fun e=>by cases e;exact h2 h.tM)
 have hsz:=hg.size;refine ⟨(hk g (by rw[h.tg];omega) h.blk.lt).trans h.blk,h.tg,h.tM,fun k e=>Nat.lt_of_lt_of_le (h.lt k e) hsz,bT h.nR fun k e=>hk k (by rw[h.od k e];omega) (h.nR.lt k e).2,h.od,F2,hF,fun k=>⟨(hm k).1,fun p hp=> ?_⟩⟩;obtain ⟨b,vf,vd,e,hs,t1,t2,t3⟩:=(hm k).2 p hp;exact ⟨b,vf,vd,e,hs.stay (hk b (by omega) hs.blk.lt) (fun j hj=>hk j (by rw[t2 j hj];omega) (hs.fr.lt j hj).2) (fun j hj=>hk j (by rw[t3 j hj];omega) (hs.dr.lt j hj).2),t1,t2,t3⟩
end
end
end Go.Proofs.YtiecgfahidpldaaGreat
