/- amrecv: State, Pending, Tick; the method. -/
import Derived.Test.YtbhiklnljiehiaaGreatM3bc
set_option maxHeartbeats 2000000
set_option maxRecDepth 100000
namespace Go.Proofs.YtbhiklnljiehiaaGreat
open RowKit Shelf Tryz
attribute [local go_sem] Oper.semAt_some
section
variable {w w':World} {T:Nat->Nat} {g M n:Nat} {c:Cf} {st:Rc} {vo:Value}
theorem Ls (h:jo w T g M n c st vo) (now:Int):
 Calls prog 53 #[.pointer (some ⟨g,0,none⟩),.int .i64 now] w fun e w'=>e= .returned (.bool (uV st now))/\Below w.heap.size w w':=by
 have hno:Calls prog 79 #[.pointer (some ⟨g,0,none⟩)] w.drew fun e w'=>e= .returned (.bool false)/\w'=w.drew:=(sZ h.drew).mono fun _ _ hh=>⟨hh.1,hh.2.symm⟩
 have Sq:=ah hno;have nK:prog.follows .mixedOrders=true:=by kernel_rfl
 obtain ⟨x3,x4,x7,x8,x9,x10,Cb,MC,Xh,Js,Yz,Xi,U3,x18⟩:=h.cells;clear h hno x3 x4 x7 x8 x9 x10 Cb MC Xh U3 x18;have hfin:uV st now=(st.due&&decide (st.fJ<=(if st.now<now then now else st.now))):=by
  unfold uV
  congr 2
  split<;>split<;>simp<;>omega
 rw[hfin];have HF:=ah hfin;clear hfin HF;cases hd:st.due with
 |false=>
  rw[hd] at Js;clear hd;go_enter func53,ntmps53;go_wp2_with fail;refine wp_region_still_lit nK (by kernel_rfl) ?_
  still_step
  still_call Sq.out
  repeat (with_reducible refine Dt (fun K hK=> ?_);go_simp;with_reducible refine hK _ ?_;clear hK K)
  with_reducible refine oK ?_
  go_wp2
  all_goals
   go_ret;exact ⟨rfl,(bS _ w).drew⟩
 |true=>
  rw[hd] at Js;clear hd;go_enter func53,ntmps53;go_wp2_with fail;refine wp_region_still_lit nK (by kernel_rfl) ?_
  still_step
  still_call Sq.out
  repeat (with_reducible refine Dt (fun K hK=> ?_);go_simp;with_reducible refine hK _ ?_;clear hK K)
  with_reducible refine oK ?_
  go_wp2
  all_goals
   go_ret;refine ⟨congrArg (fun b=>Ending.returned (.bool b)) ?_,(bS _ w).drew⟩
   first
   |rfl
   |(refine decide_eq_decide.2 ?_;omega)
theorem Tg (h:jo w T g M n c st vo) (ho:fM st) (hcf:CfR c) (now:Int) (hn:now<=9223372036854775807):
 Calls prog 52 #[.pointer (some ⟨g,0,none⟩),.int .i64 now] w fun e w'=>e= .returned (.int .i64 0)/\jo w' T g M n c (aM c st now) vo/\Kept (MT T) w w':=by
 have Sq:=ah (sZ h);have yh:=ah (Cn h ho hcf now hn);clear h ho hcf;go_enter func52,ntmps52;go_wp2_with (first
  |(go_at_call 79;refine Sq.out.mono ?_;rintro e1 w1 ⟨rfl,rfl⟩)
  |(go_at_call 80;refine yh.out.mono ?_;rintro e2 w2 ⟨rfl,hR,hK⟩))
 go_ret;exact ⟨rfl,hR,hK⟩
end
theorem Si (b:Nat) (w:World):
 Calls prog 164 #[.pointer (some b)] w fun e w'=>e= .returned (.func (.func 201) #[] #[.pointer (some w)])/\w'=w.alloc (.cells #[.pointer (some b)] 161):=by
 go_enter func164,ntmps164;go_wp2;go_ret;exact ⟨rfl,rfl⟩
def Jt (x:Nk):Array Value:= #[x.sn,.bool x.part,x.fr,x.lt]
theorem Pz (sn:Int) (gs:Nat) (x:Nat × Nat) (w:World) (h:w.cell? gs=some (.int .i64 sn)) (hg:gs<w):
 Calls prog 165 #[.int .i64 (x.1:Nat),.int .i64 (x.2:Nat),.pointer (some gs)] w fun e w'=>e= .returned (.agg (Jt ⟨sn,true,(x.1:Nat),(x.2:Nat)⟩))/\Below w w w':=by
 have hz:=av.new w 197 (Jt ⟨sn,true,(x.1:Nat),(x.2:Nat)⟩);have HZ:=ah hz;clear hz;go_enter func165,ntmps165;go_wp2;refine oZ (v:= .agg (Jt ⟨sn,true,(x.1:Nat),(x.2:Nat)⟩)) ?_ rfl ⟨rfl,(bS _ w).alloc (aL) _⟩;rw[rZ rfl];have c0:=HZ.out.cell 0;have c1:=HZ.out.cell 1;have c2:=HZ.out.cell 2;have c3:=HZ.out.cell 3;simp[Jt] at c0 c1 c2 c3;go_simp;rfl
theorem tq:∀(l:List Fl) (i fr:Nat),(dS l i fr).length<=l.length+1
 | [],i,fr=>by unfold dS;split<;>simp
 |f::r,i,fr=>by
  have h1:=tq r (i+1) fr;have h2:=tq r (i+1) (i+1);unfold dS;split
  ·simp;omega
  ·split<;>simp<;>omega
theorem FU {w w':World} {base sz:Nat} {e:TypeId} {n:Nat} {v:Value} {xs:List Value} {row:Option Nat} (h:w.ownsRow base e sz v n xs) (hg:w.grownBy w' row) (hr:∀r,row=some r->∃o:Obj,w.heap[r]? =some o/\o.isCells=false):w'.ownsRow base e sz v n xs:=by
 refine h.kept hg ?_;rcases h.2 with ⟨rfl,_⟩|⟨q,cap,cur,rfl,q1,q2,_⟩
 ·exact .inl rfl
 ·refine .inr (fun e'=> ?_);obtain ⟨o',ho',hc⟩:=hr q e'.symm;rw[q2] at ho';cases ho';cases hc
theorem jd {w:World} {base sz g:Nat} {e t:TypeId} {n:Nat} {v:Value} {xs:List Value} {cs:Array Value} (h:w.ownsRow base e sz v n xs) (hb:av w g t cs) (ht:e≠t):v.ownBlock≠some g:=by
 intro e';rcases h.2 with ⟨rfl,_⟩|⟨q,cap,cur,rfl,q1,q2,_⟩
 ·cases e'
 ·have e2:q=g:=by injection e'
  subst e2;rw[show w.heap[q]? =_ from hb] at q2;cases q2;exact ht rfl
theorem KM (w:World) (x:Nk):dD (w.alloc (.cells (Jt x) 197)) (some ⟨w,0,none⟩) 1 1 [x]:=
 ⟨rfl,aL,by omega,fun _=>⟨_,rfl,by simp,fun j r hr=>by
  cases j with
  |zero=>
   simp at hr;subst hr;have b:=av.new w 197 (Jt x);exact ⟨b.cell 0,b.cell 1,b.cell 2,b.cell 3⟩
  |succ j=>simp at hr⟩⟩
def acg (t4:Nat) (sn:Nat) (L:List (Nat × Nat)) (w2:World) (k:Nat) (W:World):Prop:=
 (∃v,W.ownsRow w2 197 4 v ((L.take k).map (eT sn)).length (si ((L.take k).map (eT sn)))/\av W t4 131 #[v])/\Kept (fun j _=>j=t4\/w2<=j) w2 W
theorem Vg (t4 sn:Nat) (L:List (Nat × Nat)) (w2:World):OwnFrom w2 (acg t4 sn L w2):=fun k X Y row hs hg hr=>by
 have hr':∀r,row=some r->∃o:Obj,X.heap[r]? =some o/\o.isCells=false:=fun r e=>(hr r e).2
 obtain ⟨⟨v,h1,h2⟩,h3⟩:=hs;exact ⟨⟨v,FU h1 hg hr',gM h2 hg hr'⟩,h3.trans ((Kept.refl _ X).grown hg (fun j e _ _=> .inr (hr j e).1))⟩
theorem Bb (a b:List Nk):si (a++b)=si a++si b:=by simp[si]
theorem FV (gv b gs:Nat) (A:Option Addr) (m c:Nat) (l:List Fl) (sn:Nat) (w:World) (hm:m<=100000) (hg:av w gv 161 #[.pointer (some b)]) (hbl:b<w) (hbc:w.cell? b=some (.slice A m c)) (hfs:qV w A m c l)
 (hs:w.cell? gs=some (.int .i64 (sn:Nat))) (hgs:gs<w):
 Calls prog 163 #[.func (.func 201) #[] #[.pointer (some gv)],.func (.func 165) #[] #[.pointer (some gs)]] w fun e w'=>∃v,e= .returned v/\
  w'.ownsRow w 197 4 v ((dS l 0 0).map (eT sn)).length (si ((dS l 0 0).map (eT sn)))/\Below w w w':=by
 obtain ⟨i0,hi,hz0,hz1,hz2⟩:=wN;have nK:prog.follows .mixedOrders=true:=by kernel_rfl
 obtain ⟨L,hL⟩:∃L,dS l 0 0=L:=⟨_,rfl⟩
 have hLl:L.length<=100001:=by rw[<-hL];have:=tq l 0 0;have:=hfs.len;omega
 obtain ⟨w2,hw2⟩:∃w2,(w.alloc (.cells #[.func (.func 165) #[] #[.pointer (some gs)]] 253)).alloc (.cells #[.slice none 0 0] 131)=w2:=⟨_,rfl⟩
 have hB2:Below w w w2:=by rw[<-hw2];exact ((bS _ w).alloc (aL) _).alloc (by simp) _
 have hz:w2.heap.size=w.heap.size+2:=by rw[<-hw2];simp
 have hb3:av w2 w 253 #[.func (.func 165) #[] #[.pointer (some gs)]]:=by rw[<-hw2];exact (av.new w _ _).alloc _
 have hb4:av w2 (w+1) 131 #[.slice none 0 0]:=by
  rw[<-hw2];have:=av.new (w.alloc (.cells #[.func (.func 165) #[] #[.pointer (some gs)]] 253)) 131 #[.slice none 0 0];simpa using this
 have hg2:=hg.below hB2 hg.lt;have arJ:=hg.lt;have HHB:∀W,Below w2.heap.size w2 W->∀X,Kept (fun j _=>j=w.heap.size+1\/w2.heap.size<=j) W X->X.cell? b=some (.slice A m c)/\qV X A m c l:=fun W hW X hX=>by
  have h1:Below w w X:=(hB2.trans (hW.mono (by omega))).trans (hX.below (B:=w.heap.size) (fun j _ hj=>by omega) (by have:=hB2.size;have:=hW.size;omega));exact ⟨(h1.cell (p:=⟨b,0,none⟩) hbl).trans hbc,hfs.below h1⟩
 have HSX:∀X,Kept (fun j _=>j=w.heap.size+1\/w2.heap.size<=j) w2 X->X.cell? gs=some (.int .i64 (sn:Nat)):=fun X hX=>by
  have h1:Below w w X:=hB2.trans (hX.below (B:=w.heap.size) (fun j _ hj=>by omega) (by have:=hB2.size;omega));exact (h1.cell (p:=⟨gs,0,none⟩) hgs).trans hs
 have af7:=ah HHB;have ak0:=ah HSX;have HB2:=ah hB2;have HZ:=ah hz;have ak1:=ah hb3;have ak2:=ah hb4;have HG2:=ah hg2;have HLL:=ah hLl;have HL:=ah hL;have ak3:=ah hgs;clear HHB HSX hB2 hz hb3 hb4 hg hfs hs hg2 hLl hL hbc hgs;refine (xI (n:=5)).1 ?_;refine Em func163 rfl trivial ?_ rfl;simp only[ntmps163,vP,jh,gQ,Nat.reduceAdd,Nat.reduceSub,zA,zz,zF,zB,pY,qJ];refine xW.2 ?_;go_wp2_with fail;clear hw2;apply xW (n:=5).1;apply qp (gf:=201) (lb:= #[.pointer (some gv)]) rfl (by omega) rfl trivial (enters_of func201 (by kernel_rfl) rfl)
  (Sg _ (by omega) gv b A m c l hm (by exact (af7.out w2 (bS _ _) w2 (Kept.refl _ _)).2.len) (fun j _=>j=w.heap.size+1\/w2.heap.size<=j) w2 HG2.out (by have:=HZ.out;omega) af7.out (by have:=HZ.out;omega))
  Kept.trans (fun W l' o o' hl ho hc _=>(Kept.refl _ W).grown (nX W l' o') (fun j e _ _=>by cases e;exact .inr hl)) (bS _ _) (fun _=>rfl)
  (acg (w+1) sn L w2) (Vg _ _ _ _) ⟨⟨_,by simpa[si] using jl _ _ _ _,ak2.out⟩,Kept.refl _ _⟩
 case hassign=>
  intro l' k W K hK;simp only[Ec]
  gi_wp2
  exact hK
 case hbody=>
  intro l' k W hk hI;rw[HL.out] at hk;obtain ⟨⟨v,hrow,hb4⟩,hkp⟩:=hI;obtain ⟨x,hx⟩:∃x,L[k]? =some x:=⟨_,gX hk⟩
  have hxv:(dS l 0 0)[k]?.getD (0,0)=x:=by rw[HL.out,hx];rfl
  rw[hxv];have htk:(L.take (k+1)).map (eT sn)=(L.take k).map (eT sn)++ [eT sn x]:=by
   rw[pX,hx];simp
  have hkl:((L.take k).map (eT sn)).length<=100001:=by rw[Ej,kz];have:=HLL.out;omega
  have hWz:=hkp.size;have hb3:av W w 253 #[.func (.func 165) #[] #[.pointer (some gs)]]:=ak1.out.kept hkp (by have:=HZ.out;omega);have HGS:=ah (show W.drew.cell? gs=some (.int .i64 (sn:Nat)) from ak0.out W hkp);have HGL:=ah (show gs<W.drew.heap.size by have:=ak3.out;have:=HZ.out;simp;omega);have YI:=ah (fun (w5:World) (hb5:Below W.drew.heap.size W.drew w5)=>(own_below hrow.drew' hb5 (aL)).alloc (.cells (Jt ⟨sn,true,(x.1:Nat),(x.2:Nat)⟩) 197));have Ij:=ah hb4;have HB3:=ah hb3;have HKL:=ah hkl;have HW2:=ah hWz;have HKP:=ah hkp;have PG:=ah htk;have s0:W.drew.cell? ⟨w+1,0,none⟩=some v:=hb4.drew.cell 0;have s1:W.drew.cell? w=some (.func (.func 165) #[] #[.pointer (some gs)]):=hb3.drew.cell 0;clear hb4 hb3 hkl hWz hkp htk hrow hx hxv hk
  gi_wp2
  refine yU (S:=fun w'=>w'.cell? ⟨w+1,0,none⟩=some v/\w'.cell? w=some (.func (.func 165) #[] #[.pointer (some gs)])) (L:= [7]) nK (by kernel_rfl) ?hout ?arN
  case hout=>
   rintro ⟨a',w',hh⟩;exact hh
  have hHeld:=(show (fun w':World=>w'.cell? ⟨w+1,0,none⟩=some v/\w'.cell? w=some (.func (.func 165) #[] #[.pointer (some gs)])) W.drew from ⟨s0,s1⟩);refine jq [6,7] 0 ?_;refine jq [4,5,6,7] 1 ?_;refine aW 2 ?_;refine aW 3 ?_;refine aU (i:=4) rfl (by kernel_rfl) (by rfl) (fun K hK=> ?_);go_simp;refine (Pz sn gs x W.drew HGS.out HGL.out).mono ?_;rintro e5 w5 ⟨rfl,hb5⟩;have q0:=(Ij.out.drew.below hb5 Ij.out.drew.lt).cell 0;have q1:=(HB3.out.drew.below hb5 HB3.out.drew.lt).cell 0;simp at q0 q1;refine hK _ _ (show (fun w':World=>w'.cell? ⟨w+1,0,none⟩=some v/\w'.cell? w=some (.func (.func 165) #[] #[.pointer (some gs)])) _ from ⟨q0,q1⟩) ?_;clear hK K hHeld;have hHeld:=(show (fun w':World=>w'.cell? ⟨w+1,0,none⟩=some v/\w'.cell? w=some (.func (.func 165) #[] #[.pointer (some gs)])) _ from ⟨q0,q1⟩)
  try simp only[Act.put,gJ]
  refine aU (i:=5) rfl (by kernel_rfl) (by rfl) (fun K hK=> ?_);go_simp;have q0:=((Ij.out.drew.below hb5 Ij.out.drew.lt).alloc (.cells (Jt ⟨sn,true,(x.1:Nat),(x.2:Nat)⟩) 197)).cell 0;have q1:=((HB3.out.drew.below hb5 HB3.out.drew.lt).alloc (.cells (Jt ⟨sn,true,(x.1:Nat),(x.2:Nat)⟩) 197)).cell 0;simp at q0 q1;refine hK _ _ (show (fun w':World=>w'.cell? ⟨w+1,0,none⟩=some v/\w'.cell? w=some (.func (.func 165) #[] #[.pointer (some gs)])) _ from ⟨q0,q1⟩) ?_;clear hK K hHeld;have hHeld:=(show (fun w':World=>w'.cell? ⟨w+1,0,none⟩=some v/\w'.cell? w=some (.func (.func 165) #[] #[.pointer (some gs)])) _ from ⟨q0,q1⟩)
  try simp only[Act.put,gJ]
  refine aU (i:=6) rfl (by kernel_rfl) (by rfl) (fun K hK=> ?_);refine Ba _ _ _ 131 rfl w2.heap.size 197 i0 (.agg #[.int .i64 0,.bool false,.int .i64 0,.int .i64 0]) 32 yV hi hz0 hz1 hz2 rfl v ((L.take k).map (eT sn)).length (si ((L.take k).map (eT sn))) (by rfl) (YI.out w5 hb5) (some ⟨w5,0,none⟩) 1 1 [eT sn x] (by rfl) (KM w5 (eT sn x)) (by have:=HKL.out;unfold maxLen;omega) (by have:=HKL.out;omega) (by have:=HW2.out;have:=hb5.size;simp at this ⊢;omega) ?_;intro v7 w7 sU jC;have KN:w7.ownsRow w2.heap.size 197 4 v7 ((L.take k).map (eT sn)++ [eT sn x]).length (si ((L.take k).map (eT sn)++ [eT sn x])):=by rw[Bb,l8];exact sU
  obtain ⟨A7,c7,rfl,_⟩:=dD.eu KN;have q0:=(Ij.out.drew.below hb5 Ij.out.drew.lt).alloc (.cells (Jt ⟨sn,true,(x.1:Nat),(x.2:Nat)⟩) 197);have q1:=(HB3.out.drew.below hb5 HB3.out.drew.lt).alloc (.cells (Jt ⟨sn,true,(x.1:Nat),(x.2:Nat)⟩) 197);have b4:=q0.grown jC (fun e=>jd (YI.out w5 hb5) q0 (by decide) e.symm);have b3:=q1.grown jC (fun e=>jd (YI.out w5 hb5) q1 (by decide) e.symm);have q0:=b4.cell 0;have q1:=b3.cell 0;have q2:=b4.frozen 0;simp at q0 q1;refine hK _ _ (show (fun w':World=>w'.cell? ⟨w+1,0,none⟩=some v/\w'.cell? w=some (.func (.func 165) #[] #[.pointer (some gs)])) _ from ⟨q0,q1⟩) ?_;clear hK K hHeld;have hHeld:=(show (fun w':World=>w'.cell? ⟨w+1,0,none⟩=some v/\w'.cell? w=some (.func (.func 165) #[] #[.pointer (some gs)])) _ from ⟨q0,q1⟩);simp only[Act.put,kW,lY,mX,kU,kX,kK];refine dB (i:=7) rfl (by kernel_rfl) (by kernel_rfl) (by rfl) (fun K hK=> ?_);go_simp;refine hK _ _ ?_;clear hK K
  try simp only[Act.put,gJ]
  refine bW (by kernel_rfl) ?_ _;have hrw:=YI.out w5 hb5;have hvb:∀j,v.ownBlock=some j->w2.heap.size<=j:=fun j e=>(hrw.lt j e).1
  have af8:∀j,(Value.slice A7 ((L.take k).map (eT sn)++ [eT sn x]).length c7).ownBlock=some j->w2.heap.size<=j:=fun j e=>(KN.lt j e).1
  have hq:∀j o,v.ownBlock=some j->(w5.alloc (.cells (Jt ⟨sn,true,(x.1:Nat),(x.2:Nat)⟩) 197)).heap[j]? =some o->o.isCells=true:=fun j o e ho=>by
   rcases hrw.2 with ⟨rfl,_⟩|⟨q,cap,cur,rfl,q1,q2,_⟩
   ·cases e
   ·have e2:q=j:=by injection e
    subst e2;rw[q2] at ho;cases ho;rfl
  have UM:KeepsFrom w2.heap.size W (w7.setCell ⟨w+1,0,none⟩ (.slice A7 ((L.take k).map (eT sn)++ [eT sn x]).length c7)):=by
   refine ((KeepsOthers.drew W).from _).trans (KeepsFrom.trans (Y:=w5) ⟨hb5.size,fun k o _ hk _=>(hb5.block k (lt_of_heap hk)).trans hk⟩ ?_);exact ((KeepsOthers.alloc w5 _).from _).trans (((KeepsOthers.of_grownBy jC hq).from _).trans ((zC _ _ _).from _))
  have Q0:Kept (fun j _=>j=w.heap.size+1\/w2.heap.size<=j) W (w7.setCell ⟨w+1,0,none⟩ (.slice A7 ((L.take k).map (eT sn)++ [eT sn x]).length c7)):=
   (((((Kept.refl _ W).drew.trans (Kept.eZ hb5)).alloc _).grown jC (fun j hj _ _=> .inr (hvb j hj)))).setCell (p:=⟨w+1,0,none⟩) (fun _ _=> .inl rfl) _
  have hI9:acg (w+1) sn L w2 (k+1) (w7.setCell ⟨w+1,0,none⟩ (.slice A7 ((L.take k).map (eT sn)++ [eT sn x]).length c7)):=by
   refine ⟨⟨.slice A7 ((L.take k).map (eT sn)++ [eT sn x]).length c7,?_,by simpa using b4.ay 0 (.slice A7 ((L.take k).map (eT sn)++ [eT sn x]).length c7)⟩,HKP.out.trans Q0⟩;rw[PG.out];refine GY KN ?_ _;intro e;have h8:w2.heap.size<=w.heap.size+1:=af8 _ e;have h9:=HZ.out;omega
  have e7:((L.take k).map (eT sn)++ [eT sn x]).length=min k L.length+1:=by simp
  rw[e7] at UM Q0 hI9;have HF:=ah UM;have H9:=ah Q0;have HI9:=ah hI9;clear UM Q0 hI9 hvb af8 hq sU KN jC hrw b4 b3 hb5;exact ⟨HF.out,H9.out,HI9.out⟩
 case hdone=>
  intro D W hD hI MI;obtain ⟨⟨v,hrow,hbk⟩,hkp⟩:=hI;rw[HL.out,kI (aL)] at hrow;obtain ⟨Av,cv,rfl,_,_⟩:=dD.eu (l:=L.map (eT sn)) hrow;have hl:(L.map (eT sn)).length=L.length:=by simp
  have hzz:=HZ.out;have hlw:w.heap.size+1<W.heap.size:=hbk.lt;have hDn:D≠w.heap.size+1:=by omega
  have l0:=hbk.cell 0;have lf:=hbk.frozen 0;simp at l0;have hD1:(W.setCell ⟨w+1,0,none⟩ (.slice Av (L.map (eT sn)).length cv)).heap[D]? =some (.deferred (some [])):=(lZ W ⟨w+1,0,none⟩ (.slice Av (L.map (eT sn)).length cv) D hDn).trans MI;have hv1:(W.setCell ⟨w+1,0,none⟩ (.slice Av (L.map (eT sn)).length cv)).ownsRow w2.heap.size 197 4 (.slice Av (L.map (eT sn)).length cv) (L.map (eT sn)).length (si (L.map (eT sn))):=GY hrow (fun e=>by have:=(hrow.lt _ e).1;have e3:(⟨w+1,0,none⟩:Addr).block=w.heap.size+1:=rfl;omega) (.slice Av (L.map (eT sn)).length cv);have hb1:av (W.setCell ⟨w+1,0,none⟩ (.slice Av (L.map (eT sn)).length cv)) (w+1) 131 #[.slice Av (L.map (eT sn)).length cv]:=by simpa using hbk.ay 0 (.slice Av (L.map (eT sn)).length cv)
  have hr:∀r,some D=some r->∃o:Obj,(W.setCell ⟨w+1,0,none⟩ (.slice Av (L.map (eT sn)).length cv)).heap[r]? =some o/\o.isCells=false:=fun r e=>by cases e;exact ⟨_,hD1,rfl⟩
  have hb2:=gM hb1 (nX _ D (.deferred none)) hr;have hv2:=FU hv1 (nX _ D (.deferred none)) hr;have af9:Below w w ((W.setCell ⟨w+1,0,none⟩ (.slice Av (L.map (eT sn)).length cv)).putObj D (.deferred none)):=by
   have e1:=HB2.out.trans (hkp.below (B:=w.heap.size) (fun j _ hj=>by omega) (by omega));exact (e1.setCell (p:=⟨w+1,0,none⟩) (by simp) (.slice Av (L.map (eT sn)).length cv)).grown (nX _ D (.deferred none)) (by have:=e1.size;simp[World.setCell];omega) (fun j hj=>by cases hj;omega)
  have Vh:=ah (bF (base':=w.heap.size) hv2 (by omega));have MU:=ah af9;have HD1:=ah hD1;have H2:=ah hb2;rw[hl] at HD1 MU Vh H2;clear hrow hbk hkp hv1 hb1 hb2 hv2 af9 hD1 MI hr
  gi_wp2
  go_wp2;have c2:=H2.out.cell 0;refine ⟨by simp,.inl ⟨_,_,rfl,Cx HD1.out,?_⟩⟩;refine ⟨.slice Av L.length cv,by simp[results,results163,go_sem,c2],.slice Av L.length cv,rfl,?_,MU.out⟩;rw[HL.out,hl];exact Vh.out
theorem P8 (bp be:Nat) (w:World):
 CallsD prog 133 #[.pointer (some bp),.pointer (some be)] .returning w fun e u' w'=>e= .returned (.tuple #[])/\u'= .returning/\w=w':=by
 have hnn:=run_eql_nil_nil (P:=prog) w (t:=20) (by kernel_rfl);refine xP func133 rfl fun c₀ cs hu=> ?_
 apply wpS_seq;apply xU;generalize hQ:Exit.thenS _ _=Q;simp[wpOpsS,go_sem,recoverD,hu,ntmps133];subst hQ;simp only[Exit.thenS];refine xV ?_;change Code.wp _ _ (kT prog Tryz.f133 c₀ cs (c₀::cs) _) {tmps:= #[.pointer (some bp),.pointer (some be),.nilIface,undef,undef,.nilIface,undef,undef,undef,undef,undef,undef,undef,undef,undef,undef,undef,undef],defers:= []} w;go_wp2;cases c₀
 simp_all [kT,bodyPostS,results,results133]
theorem Ld (bp be:Nat) (er:Int) (v0 v1 v4:Value) (w:World) (hp:av w bp 133 #[v0,v1]) (he:av w be 53 #[v4]) (hne:be≠bp):
 CallsD prog 133 #[.pointer (some bp),.pointer (some be)] (.panicking [{v:= .iface 53 er,recovered:=false}]) w fun e u' w'=>e= .returned (.tuple #[])/\u'= .panicking [{v:= .iface 53 er,recovered:=true}]/\
  av w' bp 133 #[.int .i64 0,.slice none 0 0]/\av w' be 53 #[er]/\Kept (fun k _=>k=bp\/k=be) w w':=by
 have hnn:=run_eql_held_nil (P:=prog) w 20 53 er (by kernel_rfl);have hta:=pE er w;refine xP func133 rfl fun c₀ cs hu=> ?_
 apply wpS_seq;apply xU;generalize hQ:Exit.thenS _ _=Q;simp[wpOpsS,go_sem,recoverD,hu,ntmps133];subst hQ;simp only[Exit.thenS];refine xV ?_;change Code.wp _ _ (kT prog Tryz.f133 c₀ cs _ _) {tmps:= #[.pointer (some bp),.pointer (some be),.iface 53 er,undef,undef,.iface 53 er,undef,undef,undef,undef,undef,undef,undef,undef,undef,undef,undef,undef],defers:= []} w;have c0:=hp.cell 0;have c1:=hp.cell 1;have f0:=hp.frozen 0;have f1:=hp.frozen 1;have c4:=he.cell 0;have f4:=he.frozen 0;simp at c0 c1 c4;go_wp2;refine ⟨rfl,_,rfl,.tuple #[],by simp[results,results133],rfl,rfl,?_,?_,?_⟩
 ·have:=(hp.ay 0 (.int .i64 0)).ay 1 (.slice none 0 0);simpa using this.far (p:=⟨be,0,none⟩) (fun e=>hne e.symm) er
 ·have:=((he.far (p:=⟨bp,0,none⟩) hne (.int .i64 0)).far (p:=⟨bp,1,none⟩) hne (.slice none 0 0)).ay 0 er;simpa using this
 ·exact (((Kept.refl _ w).setCell (p:=⟨bp,0,none⟩) (fun _ _=> .inl rfl) _).setCell (p:=⟨bp,1,none⟩) (fun _ _=> .inl rfl) _).setCell (p:=⟨be,0,none⟩) (fun _ _=> .inr rfl) _
def P9 (w:World) (R:Sum Nat (Nat × List Nk)) (e:Ending) (w':World):Prop:=
 Below w w w'/\
 (
  (∃er:Nat,R= .inl er/\e= .returned (.tuple #[.agg #[.int .i64 0,.slice none 0 0],er]))\/
  (∃(aA:Nat) (l:List Nk) (A:Option Addr) (c:Nat),R= .inr (aA,l)/\e= .returned (.tuple #[.agg #[aA,.slice A l.length c],.int .i64 0])/\dD w' A l.length c l/\∀ad,A=some ad->w.heap.size<=ad.block))
theorem lI (w W:World) (R:Sum Nat (Nat × List Nk)) (er:Nat) (T:Array Value) (v0 v1 v4:Value) (h2:T[2]? =some (.pointer (some w))) (h3:T[3]? =some (.pointer (some ⟨w+1,0,none⟩)))
 (hp:av W w 133 #[v0,v1]) (he:av W (w+1) 53 #[v4]) (hB:Below w w W) (hR:R= .inl er):
 bodyPostD prog Tryz.f92 (P9 w R) (.panic [{v:= .iface 53 er,recovered:=false}]) {tmps:=T,defers:= [{target:= .fn (.func 133) #[.pointer (some w),.pointer (some ⟨w+1,0,none⟩)],args:= #[]}]} W:=by
 refine nD (f:=133) (args:= #[.pointer (some w),.pointer (some ⟨w+1,0,none⟩)]) (by simp) (by simp[go_sem]) ?_;refine (Ld _ _ (er:Int) _ _ _ W hp he (by omega)).mono ?_;rintro e u' w'' ⟨rfl,rfl,hp',he',hk⟩;have c0:=hp'.cell 0;have c1:=hp'.cell 1;have c4:=he'.cell 0;simp at c0 c1 c4;refine ⟨.tuple #[.agg #[.int .i64 0,.slice none 0 0],er],?_,hB.trans (hk.below (fun k _ e=>by omega) hB.size),.inl ⟨er,hR,rfl⟩⟩;simp[results,results92,go_sem,h2,h3,c0,c1,c4]
theorem World.ownsRow.drew' {w:World} {b:Nat} {t:TypeId} {s:Nat} {v:Value} {n:Nat} {xs:List Value} (h:w.ownsRow b t s v n xs):w.drew.ownsRow b t s v n xs:=h
section
variable {D F:Nat->Prop} {g:Nat} {c:Cf} {st:Sd} {vq vo:Value} {vs os:List Value} {w:World}
end
end Go.Proofs.YtbhiklnljiehiaaGreat
