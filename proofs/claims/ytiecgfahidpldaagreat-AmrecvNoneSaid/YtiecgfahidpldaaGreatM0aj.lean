/- amrecv: collected: the entries of the missing ranges. amrecv: entries. amrecv: Report. status: size and Encode. status.Encode. status.Ranges' iterator. merged: the last range and the next one are joined. merged: a range is joined to the last one, or appended. -/
import Derived.Test.YtiecgfahidpldaaGreatM0ac
import Derived.Test.YtiecgfahidpldaaGreatM0ae
import Derived.Test.YtiecgfahidpldaaGreatM0ag
import Derived.Test.YtiecgfahidpldaaGreatM0ah
import Derived.Test.YtiecgfahidpldaaGreatM0ai
import Derived.StillTailTactics
import Derived.BigRegion
import Derived.Laws.ResultCell
import Derived.Deep.RegionHeld3
namespace Go.Proofs.YtiecgfahidpldaaGreat
section
open Go.RowKit Go.Shelf
attribute [local go_sem] Oper.semAt_some
theorem fV:∀(l:List Fl) (i fr:Nat),(aY l i fr).length≤l.length+1
 | [],i,fr=>by unfold aY;split<;>simp
 |f::r,i,fr=>by
  have h1:=fV r (i+1) fr;have h2:=fV r (i+1) (i+1);unfold aY;split
  ·simp;omega
  ·split<;>simp<;>omega
theorem mG {w w':World} {base sz:Nat} {e:TypeId} {n:Nat} {v:Value} {xs:List Value} {row:Option Nat} (h:w.ownsRow base e sz v n xs) (hg:w.grownBy w' row) (hr:∀r,row=some r→∃o:Obj,w.heap[r]? =some o∧o.isCells=false):w'.ownsRow base e sz v n xs:=by
 refine h.kept hg ?_;rcases h.2 with ⟨rfl,_⟩|⟨q,cap,cur,rfl,q1,q2,_⟩
 ·exact .inl rfl
 ·refine .inr (fun e'=> ?_);obtain ⟨o',ho',hc⟩:=hr q e'.symm;rw[q2] at ho';cases ho';cases hc
theorem cK {w:World} {base sz g:Nat} {e t:TypeId} {n:Nat} {v:Value} {xs:List Value} {cs:Array Value} (h:w.ownsRow base e sz v n xs) (hb:av w g t cs) (ht:e≠t):v.ownBlock≠some g:=by
 intro e';rcases h.2 with ⟨rfl,_⟩|⟨q,cap,cur,rfl,q1,q2,_⟩
 ·cases e'
 ·have e2:q=g:=by injection e'
  subst e2;rw[show w.heap[q]? =_ from hb] at q2;cases q2;exact ht rfl
theorem yt (w:World) (x:Nk):aP (w.alloc (.cells (sj x) 116)) (some ⟨w.heap.size,0,none⟩) 1 1 [x]:=
 ⟨rfl,Nat.le_refl _,by omega,fun _=>⟨_,rfl,by simp,fun j r hr=>by
  cases j with
  |zero=>
   simp at hr;subst hr;have b:=av.new w 116 (sj x);exact ⟨b.cell 0,b.cell 1,b.cell 2,b.cell 3⟩
  |succ j=>simp at hr⟩⟩
def CW (t4:Nat) (sn:Nat) (L:List (Nat × Nat)) (w2:World) (k:Nat) (W:World):Prop:=
 (∃v,W.ownsRow w2.heap.size 116 4 v ((L.take k).map (aV sn)).length (gV ((L.take k).map (aV sn)))∧av W t4 40 #[v])∧Kept (fun j _=>j=t4∨w2.heap.size≤j) w2 W
theorem yu (t4 sn:Nat) (L:List (Nat × Nat)) (w2:World):OwnFrom w2.heap.size (CW t4 sn L w2):=fun k X Y row hs hg hr=>by
 have hr':∀r,row=some r→∃o:Obj,X.heap[r]? =some o∧o.isCells=false:=fun r e=>(hr r e).2
 obtain ⟨⟨v,h1,h2⟩,h3⟩:=hs;exact ⟨⟨v,mG h1 hg hr',eO h2 hg hr'⟩,h3.trans ((Kept.refl _ X).grown hg (fun j e _ _=> .inr (hr j e).1))⟩
theorem pW (a b:List Nk):gV (a++b)=gV a++gV b:=by simp[gV]
set_option maxRecDepth 100000 in
set_option maxHeartbeats 2000000 in
theorem mH (gv b gs:Nat) (A:Option Addr) (m c:Nat) (l:List Fl) (sn:Nat) (w:World) (hm:m≤100000) (hg:av w gv 86 #[.pointer (some ⟨b,0,none⟩)]) (hbl:b<w.heap.size) (hbc:w.cell? ⟨b,0,none⟩=some (.slice A m c)) (hfs:fA w A m c l)
 (hs:w.cell? ⟨gs,0,none⟩=some (.int .i64 (sn:Nat))) (hgs:gs<w.heap.size):
 Calls Tryz.prog 91 #[.func (.func 137) #[] #[.pointer (some ⟨gv,0,none⟩)],.func (.func 93) #[] #[.pointer (some ⟨gs,0,none⟩)]] w fun e w'=>∃v,e= .returned v∧
  w'.ownsRow w.heap.size 116 4 v ((aY l 0 0).map (aV sn)).length (gV ((aY l 0 0).map (aV sn)))∧Below w.heap.size w w':=by
 obtain ⟨i0,hi,hz0,hz1,hz2⟩:=jL;have fq:Tryz.prog.follows .mixedOrders=true:=by kernel_rfl
 obtain ⟨L,hL⟩:∃L,aY l 0 0=L:=⟨_,rfl⟩
 have JO:L.length≤100001:=by rw[←hL];have:=fV l 0 0;have:=hfs.len;omega
 obtain ⟨w2,hw2⟩:∃w2,(w.alloc (.cells #[.func (.func 93) #[] #[.pointer (some ⟨gs,0,none⟩)]] 161)).alloc (.cells #[.slice none 0 0] 40)=w2:=⟨_,rfl⟩
 have hB2:Below w.heap.size w w2:=by rw[←hw2];exact ((Below.refl _ w).alloc (Nat.le_refl _) _).alloc (by simp) _
 have hz:w2.heap.size=w.heap.size+2:=by rw[←hw2];simp
 have hb3:av w2 w.heap.size 161 #[.func (.func 93) #[] #[.pointer (some ⟨gs,0,none⟩)]]:=by rw[←hw2];exact (av.new w _ _).alloc _
 have hb4:av w2 (w.heap.size+1) 40 #[.slice none 0 0]:=by
  rw[←hw2];have:=av.new (w.alloc (.cells #[.func (.func 93) #[] #[.pointer (some ⟨gs,0,none⟩)]] 161)) 40 #[.slice none 0 0];simpa using this
 have hg2:=hg.below hB2 hg.lt;have Pt:=hg.lt;have MK:∀W,Below w2.heap.size w2 W→∀X,Kept (fun j _=>j=w.heap.size+1∨w2.heap.size≤j) W X→X.cell? ⟨b,0,none⟩=some (.slice A m c)∧fA X A m c l:=fun W hW X hX=>by
  have h1:Below w.heap.size w X:=(hB2.trans (hW.mono (by omega))).trans (hX.below (B:=w.heap.size) (fun j _ hj=>by omega) (by have:=hB2.size;have:=hW.size;omega));exact ⟨(h1.cell (p:=⟨b,0,none⟩) hbl).trans hbc,hfs.below h1⟩
 have ML:∀X,Kept (fun j _=>j=w.heap.size+1∨w2.heap.size≤j) w2 X→X.cell? ⟨gs,0,none⟩=some (.int .i64 (sn:Nat)):=fun X hX=>by
  have h1:Below w.heap.size w X:=hB2.trans (hX.below (B:=w.heap.size) (fun j _ hj=>by omega) (by have:=hB2.size;omega));exact (h1.cell (p:=⟨gs,0,none⟩) hgs).trans hs
 have ES:=Lib.hid MK;have JP:=Lib.hid ML;have HB2:=Lib.hid hB2;have HZ:=Lib.hid hz;have JQ:=Lib.hid hb3;have JR:=Lib.hid hb4;have ET:=Lib.hid hg2;have Pv:=Lib.hid JO;have HL:=Lib.hid hL;have JS:=Lib.hid hgs;clear MK ML hB2 hz hb3 hb4 hg hfs hs hg2 JO hL hbc hgs;refine (callsIn_wide (n:=5)).1 ?_;refine callsIn_of_wp_marks Tryz.func91 rfl trivial ?_ rfl;simp only[Tryz.ntmps91,List.size_toArray,List.length_cons,List.length_nil,Nat.reduceAdd,Nat.reduceSub,Array.replicate_succ,Array.replicate_zero,List.push_toArray,List.append_toArray,List.nil_append,List.cons_append];refine wpIn_wide.2 ?_;go_wp2_with fail;clear hw2;apply wpIn_wide (n:=5).1;apply iw (gf:=137) (lb:= #[.pointer (some ⟨gv,0,none⟩)]) rfl (by omega) rfl trivial (enters_of Tryz.func137 (by kernel_rfl) rfl)
  (vR _ (by omega) gv b A m c l hm (by exact (ES.out w2 (Below.refl _ _) w2 (Kept.refl _ _)).2.len) (fun j _=>j=w.heap.size+1∨w2.heap.size≤j) w2 ET.out (by have:=HZ.out;omega) ES.out (by have:=HZ.out;omega))
  Kept.trans (fun W l' o o' hl ho hc _=>(Kept.refl _ W).grown (grownBy_putObj' W l' o') (fun j e _ _=>by cases e;exact .inr hl)) (Below.refl _ _) (fun _=>rfl)
  (CW (w.heap.size+1) sn L w2) (yu _ _ _ _) ⟨⟨_,by simpa[gV] using World.ownsRow_nil _ _ _ _,JR.out⟩,Kept.refl _ _⟩
 case hassign=>
  intro l' k W K hK;simp only[kZ]
  gi_wp2
  exact hK
 case hbody=>
  intro l' k W hk hI;rw[HL.out] at hk;obtain ⟨⟨v,hrow,hb4⟩,hkp⟩:=hI;obtain ⟨x,hx⟩:∃x,L[k]? =some x:=⟨_,List.getElem?_eq_getElem hk⟩
  have hxv:(aY l 0 0)[k]?.getD (0,0)=x:=by rw[HL.out,hx];rfl
  rw[hxv];have htk:(L.take (k+1)).map (aV sn)=(L.take k).map (aV sn)++ [aV sn x]:=by
   rw[List.take_add_one,hx];simp
  have hkl:((L.take k).map (aV sn)).length≤100001:=by rw[List.length_map,List.length_take];have:=Pv.out;omega
  have MN:=hkp.size;have hb3:av W w.heap.size 161 #[.func (.func 93) #[] #[.pointer (some ⟨gs,0,none⟩)]]:=JQ.out.kept hkp (by have:=HZ.out;omega);have Pw:=Lib.hid (show W.drew.cell? ⟨gs,0,none⟩=some (.int .i64 (sn:Nat)) from JP.out W hkp);have Px:=Lib.hid (show gs<W.drew.heap.size by have:=JS.out;have:=HZ.out;simp;omega);have Ap:=Lib.hid (fun (w5:World) (hb5:Below W.drew.heap.size W.drew w5)=>(own_below hrow.drew' hb5 (Nat.le_refl _)).alloc (.cells (sj ⟨sn,true,(x.1:Nat),(x.2:Nat)⟩) 116));have vU:=Lib.hid hb4;have HB3:=Lib.hid hb3;have MO:=Lib.hid hkl;have HW2:=Lib.hid MN;have Py:=Lib.hid hkp;have zk:=Lib.hid htk;have s0:W.drew.cell? ⟨w.heap.size+1,0,none⟩=some v:=hb4.drew.cell 0;have s1:W.drew.cell? ⟨w.heap.size,0,none⟩=some (.func (.func 93) #[] #[.pointer (some ⟨gs,0,none⟩)]):=hb3.drew.cell 0;clear hb4 hb3 hkl MN hkp htk hrow hx hxv hk
  gi_wp2
  refine je (S:=fun w'=>w'.cell? ⟨w.heap.size+1,0,none⟩=some v∧w'.cell? ⟨w.heap.size,0,none⟩=some (.func (.func 93) #[] #[.pointer (some ⟨gs,0,none⟩)])) (L:= [7]) fq (by kernel_rfl) ?hout ?Pz
  case hout=>
   rintro ⟨a',w',hh⟩;exact hh
  have hHeld:=(show (fun w':World=>w'.cell? ⟨w.heap.size+1,0,none⟩=some v∧w'.cell? ⟨w.heap.size,0,none⟩=some (.func (.func 93) #[] #[.pointer (some ⟨gs,0,none⟩)])) W.drew from ⟨s0,s1⟩);refine ax [6,7] (i:=0) (v:= ?_) rfl (by kernel_rfl) (by kernel_rfl) (by kernel_rfl) (by kernel_rfl) (fun _ _ _ h=>h) (Or.inl ⟨by rfl,?_⟩) hHeld ?_;rotate_left
  ·intro w' hSw;obtain ⟨hS1,hS2⟩:=hSw;go_simp
   try with_reducible rfl
  try simp only[Act.put,List.getElem_toArray,List.getElem_cons_zero,List.setIfInBounds_toArray,List.set_cons_zero,List.set_cons_succ]
  refine ax [4,5,6,7] (i:=1) (v:= ?_) rfl (by kernel_rfl) (by kernel_rfl) (by kernel_rfl) (by kernel_rfl) (fun _ _ _ h=>h) (Or.inl ⟨by rfl,?_⟩) hHeld ?_;rotate_left
  ·intro w' hSw;obtain ⟨hS1,hS2⟩:=hSw;go_simp
   try with_reducible rfl
  try simp only[Act.put,List.getElem_toArray,List.getElem_cons_zero,List.getElem_cons_succ,List.setIfInBounds_toArray,List.set_cons_zero,List.set_cons_succ]
  refine ah (i:=2) (v:= ?_) rfl (by kernel_rfl) (by kernel_rfl) (by kernel_rfl) (by kernel_rfl) (fun _ _ _ h=>h) (Or.inl ⟨by rfl,?_⟩) hHeld ?_;rotate_left
  ·intro w' hSw;go_simp
   try with_reducible rfl
  try simp only[Act.put,List.getElem_toArray,List.getElem_cons_zero,List.getElem_cons_succ,List.setIfInBounds_toArray,List.set_cons_zero,List.set_cons_succ]
  refine ah (i:=3) (v:= ?_) rfl (by kernel_rfl) (by kernel_rfl) (by kernel_rfl) (by kernel_rfl) (fun _ _ _ h=>h) (Or.inl ⟨by rfl,?_⟩) hHeld ?_;rotate_left
  ·intro w' hSw;go_simp
   try with_reducible rfl
  try simp only[Act.put,List.getElem_toArray,List.getElem_cons_zero,List.getElem_cons_succ,List.setIfInBounds_toArray,List.set_cons_zero,List.set_cons_succ]
  refine aO (i:=4) rfl (by kernel_rfl) (by rfl) (fun K hK=> ?_);go_simp;refine (tK sn gs x W.drew Pw.out Px.out).mono ?_;rintro e5 w5 ⟨rfl,hb5⟩;have q0:=(vU.out.drew.below hb5 vU.out.drew.lt).cell 0;have q1:=(HB3.out.drew.below hb5 HB3.out.drew.lt).cell 0;simp at q0 q1;refine hK _ _ (show (fun w':World=>w'.cell? ⟨w.heap.size+1,0,none⟩=some v∧w'.cell? ⟨w.heap.size,0,none⟩=some (.func (.func 93) #[] #[.pointer (some ⟨gs,0,none⟩)])) _ from ⟨q0,q1⟩) ?_;clear hK K hHeld;have hHeld:=(show (fun w':World=>w'.cell? ⟨w.heap.size+1,0,none⟩=some v∧w'.cell? ⟨w.heap.size,0,none⟩=some (.func (.func 93) #[] #[.pointer (some ⟨gs,0,none⟩)])) _ from ⟨q0,q1⟩)
  try simp only[Act.put,List.getElem_toArray,List.getElem_cons_zero,List.getElem_cons_succ,List.setIfInBounds_toArray,List.set_cons_zero,List.set_cons_succ]
  refine aO (i:=5) rfl (by kernel_rfl) (by rfl) (fun K hK=> ?_);go_simp;have q0:=((vU.out.drew.below hb5 vU.out.drew.lt).alloc (.cells (sj ⟨sn,true,(x.1:Nat),(x.2:Nat)⟩) 116)).cell 0;have q1:=((HB3.out.drew.below hb5 HB3.out.drew.lt).alloc (.cells (sj ⟨sn,true,(x.1:Nat),(x.2:Nat)⟩) 116)).cell 0;simp at q0 q1;refine hK _ _ (show (fun w':World=>w'.cell? ⟨w.heap.size+1,0,none⟩=some v∧w'.cell? ⟨w.heap.size,0,none⟩=some (.func (.func 93) #[] #[.pointer (some ⟨gs,0,none⟩)])) _ from ⟨q0,q1⟩) ?_;clear hK K hHeld;have hHeld:=(show (fun w':World=>w'.cell? ⟨w.heap.size+1,0,none⟩=some v∧w'.cell? ⟨w.heap.size,0,none⟩=some (.func (.func 93) #[] #[.pointer (some ⟨gs,0,none⟩)])) _ from ⟨q0,q1⟩)
  try simp only[Act.put,List.setIfInBounds_toArray,List.set_cons_zero,List.set_cons_succ]
  refine aO (i:=6) rfl (by kernel_rfl) (by rfl) (fun K hK=> ?_);refine jM _ _ _ 40 rfl w2.heap.size 116 i0 (.agg #[.int .i64 0,.bool false,.int .i64 0,.int .i64 0]) 32 mF hi hz0 hz1 hz2 rfl v ((L.take k).map (aV sn)).length (gV ((L.take k).map (aV sn))) (by rfl) (Ap.out w5 hb5) (some ⟨w5.heap.size,0,none⟩) 1 1 [aV sn x] (by rfl) (yt w5 (aV sn x)) (by have:=MO.out;unfold maxLen;omega) (by have:=MO.out;omega) (by have:=HW2.out;have:=hb5.size;simp at this ⊢;omega) ?_;intro v7 w7 Bu mI;have pX:w7.ownsRow w2.heap.size 116 4 v7 ((L.take k).map (aV sn)++ [aV sn x]).length (gV ((L.take k).map (aV sn)++ [aV sn x])):=by rw[pW,List.length_append];exact Bu
  obtain ⟨A7,c7,rfl,_⟩:=aP.cr pX;have q0:=(vU.out.drew.below hb5 vU.out.drew.lt).alloc (.cells (sj ⟨sn,true,(x.1:Nat),(x.2:Nat)⟩) 116);have q1:=(HB3.out.drew.below hb5 HB3.out.drew.lt).alloc (.cells (sj ⟨sn,true,(x.1:Nat),(x.2:Nat)⟩) 116);have b4:=q0.grown mI (fun e=>cK (Ap.out w5 hb5) q0 (by decide) e.symm);have b3:=q1.grown mI (fun e=>cK (Ap.out w5 hb5) q1 (by decide) e.symm);have q0:=b4.cell 0;have q1:=b3.cell 0;have q2:=b4.frozen 0;simp at q0 q1;refine hK _ _ (show (fun w':World=>w'.cell? ⟨w.heap.size+1,0,none⟩=some v∧w'.cell? ⟨w.heap.size,0,none⟩=some (.func (.func 93) #[] #[.pointer (some ⟨gs,0,none⟩)])) _ from ⟨q0,q1⟩) ?_;clear hK K hHeld;have hHeld:=(show (fun w':World=>w'.cell? ⟨w.heap.size+1,0,none⟩=some v∧w'.cell? ⟨w.heap.size,0,none⟩=some (.func (.func 93) #[] #[.pointer (some ⟨gs,0,none⟩)])) _ from ⟨q0,q1⟩);simp only[Act.put,List.getElem_toArray,List.getElem_cons_zero,List.getElem_cons_succ,List.setIfInBounds_toArray,List.set_cons_zero,List.set_cons_succ];refine bB (i:=7) rfl (by kernel_rfl) (by kernel_rfl) (by rfl) (fun K hK=> ?_);go_simp;refine hK _ _ ?_;clear hK K
  try simp only[Act.put,List.getElem_toArray,List.getElem_cons_zero,List.getElem_cons_succ,List.setIfInBounds_toArray,List.set_cons_zero,List.set_cons_succ]
  refine aS (by kernel_rfl) ?_ _;have hrw:=Ap.out w5 hb5;have hvb:∀j,v.ownBlock=some j→w2.heap.size≤j:=fun j e=>(hrw.lt j e).1
  have EU:∀j,(Value.slice A7 ((L.take k).map (aV sn)++ [aV sn x]).length c7).ownBlock=some j→w2.heap.size≤j:=fun j e=>(pX.lt j e).1
  have hq:∀j o,v.ownBlock=some j→(w5.alloc (.cells (sj ⟨sn,true,(x.1:Nat),(x.2:Nat)⟩) 116)).heap[j]? =some o→o.isCells=true:=fun j o e ho=>by
   rcases hrw.2 with ⟨rfl,_⟩|⟨q,cap,cur,rfl,q1,q2,_⟩
   ·cases e
   ·have e2:q=j:=by injection e
    subst e2;rw[q2] at ho;cases ho;rfl
  have JU:KeepsFrom w2.heap.size W (w7.setCell ⟨w.heap.size+1,0,none⟩ (.slice A7 ((L.take k).map (aV sn)++ [aV sn x]).length c7)):=by
   refine ((KeepsOthers.drew W).from _).trans (KeepsFrom.trans (Y:=w5) ⟨hb5.size,fun k o _ hk _=>(hb5.block k (lt_of_heap hk)).trans hk⟩ ?_);exact ((KeepsOthers.alloc w5 _).from _).trans (((KeepsOthers.of_grownBy mI hq).from _).trans ((KeepsOthers.setCell _ _ _).from _))
  have Bz:Kept (fun j _=>j=w.heap.size+1∨w2.heap.size≤j) W (w7.setCell ⟨w.heap.size+1,0,none⟩ (.slice A7 ((L.take k).map (aV sn)++ [aV sn x]).length c7)):=
   (((((Kept.refl _ W).drew.trans (Kept.Ak hb5)).alloc _).grown mI (fun j hj _ _=> .inr (hvb j hj)))).setCell (p:=⟨w.heap.size+1,0,none⟩) (fun _ _=> .inl rfl) _
  have JV:CW (w.heap.size+1) sn L w2 (k+1) (w7.setCell ⟨w.heap.size+1,0,none⟩ (.slice A7 ((L.take k).map (aV sn)++ [aV sn x]).length c7)):=by
   refine ⟨⟨.slice A7 ((L.take k).map (aV sn)++ [aV sn x]).length c7,?_,by simpa using b4.aF 0 (.slice A7 ((L.take k).map (aV sn)++ [aV sn x]).length c7)⟩,Py.out.trans Bz⟩;rw[zk.out];refine ownsRow_setCell_other pX ?_ _;intro e;have h8:w2.heap.size≤w.heap.size+1:=EU _ e;have h9:=HZ.out;omega
  have e7:((L.take k).map (aV sn)++ [aV sn x]).length=min k L.length+1:=by simp
  rw[e7] at JU Bz JV;have HF:=Lib.hid JU;have H9:=Lib.hid Bz;have PD:=Lib.hid JV;clear JU Bz JV hvb EU hq Bu pX mI hrw b4 b3 hb5;exact ⟨HF.out,H9.out,PD.out⟩
 case hdone=>
  intro D W hD hI pY;obtain ⟨⟨v,hrow,hbk⟩,hkp⟩:=hI;rw[HL.out,List.take_of_length_le (Nat.le_refl _)] at hrow;obtain ⟨Av,cv,rfl,_,_⟩:=aP.cr (l:=L.map (aV sn)) hrow;have hl:(L.map (aV sn)).length=L.length:=by simp
  have hzz:=HZ.out;have Sf:w.heap.size+1<W.heap.size:=hbk.lt;have hDn:D≠w.heap.size+1:=by omega
  have l0:=hbk.cell 0;have lf:=hbk.frozen 0;simp at l0;have hD1:(W.setCell ⟨w.heap.size+1,0,none⟩ (.slice Av (L.map (aV sn)).length cv)).heap[D]? =some (.deferred (some [])):=(Below.heap_setCell W ⟨w.heap.size+1,0,none⟩ (.slice Av (L.map (aV sn)).length cv) D hDn).trans pY;have hv1:(W.setCell ⟨w.heap.size+1,0,none⟩ (.slice Av (L.map (aV sn)).length cv)).ownsRow w2.heap.size 116 4 (.slice Av (L.map (aV sn)).length cv) (L.map (aV sn)).length (gV (L.map (aV sn))):=ownsRow_setCell_other hrow (fun e=>by have:=(hrow.lt _ e).1;have e3:(⟨w.heap.size+1,0,none⟩:Addr).block=w.heap.size+1:=rfl;omega) (.slice Av (L.map (aV sn)).length cv);have hb1:av (W.setCell ⟨w.heap.size+1,0,none⟩ (.slice Av (L.map (aV sn)).length cv)) (w.heap.size+1) 40 #[.slice Av (L.map (aV sn)).length cv]:=by simpa using hbk.aF 0 (.slice Av (L.map (aV sn)).length cv)
  have hr:∀r,some D=some r→∃o:Obj,(W.setCell ⟨w.heap.size+1,0,none⟩ (.slice Av (L.map (aV sn)).length cv)).heap[r]? =some o∧o.isCells=false:=fun r e=>by cases e;exact ⟨_,hD1,rfl⟩
  have hb2:=eO hb1 (grownBy_putObj' _ D (.deferred none)) hr;have hv2:=mG hv1 (grownBy_putObj' _ D (.deferred none)) hr;have EV:Below w.heap.size w ((W.setCell ⟨w.heap.size+1,0,none⟩ (.slice Av (L.map (aV sn)).length cv)).putObj D (.deferred none)):=by
   have e1:=HB2.out.trans (hkp.below (B:=w.heap.size) (fun j _ hj=>by omega) (by omega));exact (e1.setCell (p:=⟨w.heap.size+1,0,none⟩) (by simp) (.slice Av (L.map (aV sn)).length cv)).grown (grownBy_putObj' _ D (.deferred none)) (by have:=e1.size;simp[World.setCell];omega) (fun j hj=>by cases hj;omega)
  have CX:=Lib.hid (aW (base':=w.heap.size) hv2 (by omega));have su:=Lib.hid EV;have HD1:=Lib.hid hD1;have H2:=Lib.hid hb2;rw[hl] at HD1 su CX H2;clear hrow hbk hkp hv1 hb1 hb2 hv2 EV hD1 pY hr
  gi_wp2
  go_wp2;have c2:=H2.out.cell 0;refine ⟨by simp,.inl ⟨_,_,rfl,run_takeDeferred HD1.out,?_⟩⟩;refine ⟨.slice Av L.length cv,by simp[results,Tryz.results91,go_sem,c2],.slice Av L.length cv,rfl,?_,su.out⟩;rw[HL.out,hl];exact CX.out
end
section
open Go.RowKit Go.Shelf
attribute [local go_sem] Oper.semAt_some
theorem Ar {k:Nat} {l:List Fl} (h:k≤l.length):fT k l=l:=by
 unfold fT;rw[show k-l.length=0 by omega];simp
def rC (p:Sp):Prop:=∀k,p.size=some k→k≤p.fl.length
theorem oF {sn:Nat} {p:Sp} {k:Nat} (hz:rC p) (hs:p.size=some k):fJ sn (some p)=(aY p.fl 0 0).map (aV sn):=by
 unfold fJ;simp only[hs];rw[Ar (hz k hs)]
theorem oG {sn:Nat} {p:Sp} (hs:p.size=none):fJ sn (some p)=(aY p.fl 0 0).map (aV sn)++ [⟨sn,true,p.fl.length,32767⟩]:=by
 unfold fJ;simp only[hs]
def CY (w:World) (l:List Nk) (e:Ending) (w':World):Prop:=
 ∃v,e= .returned v∧w'.ownsRow w.heap.size 116 4 v l.length (gV l)∧Below w.heap.size w w'
set_option maxRecDepth 10000 in
set_option maxHeartbeats 2000000 in
theorem pZ (sn:Nat) (w:World):Calls Tryz.prog 43 #[.int .i64 (sn:Nat),.pointer none] w (CY w (fJ sn none)):=by
 have b0:=av.new w 3 #[.int .i64 (sn:Nat)];have hB:=(Below.refl w.heap.size w).alloc (Nat.le_refl _) (.cells #[.int .i64 (sn:Nat)] 3);have c0:=b0.cell 0;simp at c0;have HB:=Lib.hid hB;clear hB b0;go_enter Tryz.func43,Tryz.ntmps43;go_wp2;go_ret;refine ⟨_,rfl,?_,HB.out.alloc (by simp) _⟩;have hr:=aW (base':=w.heap.size) (World.ownsRow_lit (e:=116) (size:=4) (w.alloc (.cells #[.int .i64 (sn:Nat)] 3)) #[.int .i64 (sn:Nat),.bool false,.int .i64 0,.int .i64 0] 1 (Nat.le_refl _) (by unfold maxLen;omega) (by rfl)) (by simp);simpa[fJ,gV] using hr
set_option maxRecDepth 100000 in
set_option maxHeartbeats 4000000 in
theorem p8 (sn:Nat) (b:Nat) (p:Sp) (vf vd:Value) (w:World) (h:gG w b p vf vd) (ho:kP p) (hz:rC p):
 Calls Tryz.prog 43 #[.int .i64 (sn:Nat),.pointer (some ⟨b,0,none⟩)] w (CY w (fJ sn (some p))):=by
 obtain ⟨i0,hi,hz0,hz1,hz2⟩:=jL;obtain ⟨A,c,rfl,hfs⟩:=fA.cr h.fr;obtain ⟨Ad,cd,rfl,_,_⟩:=aK h.dr;have hle:=ho.le;obtain ⟨m,hm⟩:∃m,p.fl.length=m:=⟨_,rfl⟩
 have hcap:=hfs.cap;have hmx:=hfs.mx;have hgl:=fV p.fl 0 0;rw[hm] at hfs hle hcap hgl;have hb:=h.blk;rw[hm] at hb;have hbl:=hb.lt;have z0:=hb.cell 0;have z1:=hb.cell 1;have z2:=hb.cell 2;simp at z0 z1 z2;have hsi:decide ((m:Int)<aJ p)=false:=by
  refine decide_eq_false ?_;unfold aJ;cases hs:p.size with
  |none=>dsimp only;omega
  |some k=>have:=hz k hs;dsimp only;omega
 have b0:=av.new w 3 #[.int .i64 (sn:Nat)];have b1:=av.new (w.alloc (.cells #[.int .i64 (sn:Nat)] 3)) 90 #[.slice A m c,.slice Ad p.da.length cd,.int .i64 (aJ p)];rw[World.size_alloc] at b1;have MP:=b0.alloc (.cells #[.slice A m c,.slice Ad p.da.length cd,.int .i64 (aJ p)] 90);have hB:Below w.heap.size w ((w.alloc (.cells #[.int .i64 (sn:Nat)] 3)).alloc (.cells #[.slice A m c,.slice Ad p.da.length cd,.int .i64 (aJ p)] 90)):=((Below.refl _ w).alloc (Nat.le_refl _) _).alloc (by simp) _;have EW:=hfs.below hB;have hsz:((w.alloc (.cells #[.int .i64 (sn:Nat)] 3)).alloc (.cells #[.slice A m c,.slice Ad p.da.length cd,.int .i64 (aJ p)] 90)).heap.size=w.heap.size+2:=by simp
 have HB:=Lib.hid hB;have JW:=Lib.hid EW;have HB0:=Lib.hid MP;have HB1:=Lib.hid b1;have zY:=Lib.hid hsz;have HM:=Lib.hid hm;have HZ:=Lib.hid hz;clear hB EW MP b1 b0 hsz hm hfs hb h ho hz;go_enter Tryz.func43,Tryz.ntmps43;go_wp2_with fail;obtain ⟨w2,hw2⟩:∃w2,(w.alloc (.cells #[.int .i64 (sn:Nat)] 3)).alloc (.cells #[.slice A m c,.slice Ad p.da.length cd,.int .i64 (aJ p)] 90)=w2:=⟨_,rfl⟩
 rw[hw2] at HB JW HB0 HB1 zY ⊢;refine (vS (w.heap.size+1) w2).mono ?_;rintro e3 w3 ⟨rfl,rfl⟩;have hgv:=av.new w2 86 #[.pointer (some ⟨w.heap.size+1,0,none⟩)];have hb3:=HB1.out.alloc (.cells #[.pointer (some ⟨w.heap.size+1,0,none⟩)] 86);have hs3:=HB0.out.alloc (.cells #[.pointer (some ⟨w.heap.size+1,0,none⟩)] 86);have EX:=mH w2.heap.size (w.heap.size+1) w.heap.size A m c p.fl sn (w2.alloc (.cells #[.pointer (some ⟨w.heap.size+1,0,none⟩)] 86)) (by omega) hgv (by have:=zY.out;simp;omega) (hb3.cell 0) (JW.out.below ((Below.refl _ w2).alloc (Nat.le_refl _) _)) (hs3.cell 0) (by have:=zY.out;simp;omega);have EY:=Lib.hid EX;have HB3:=Lib.hid hb3;have nk:=Lib.hid hs3;have su:=Lib.hid (HB.out.alloc HB.out.size (.cells #[.pointer (some ⟨w.heap.size+1,0,none⟩)] 86));clear hgv hb3 hs3 EX hw2 HB HB0 HB1 JW;go_wp2_with fail;refine EY.out.mono ?_;rintro e4 w4 ⟨v,rfl,hv4,hb4⟩;clear EY;have hB4:=su.out.trans (hb4.mono su.out.size);have CZ:=HB3.out.below hb4 HB3.out.lt;have hs4:=nk.out.below hb4 nk.out.lt;have c0:=hs4.cell 0;have c1:=CZ.cell 0;have c3:=CZ.cell 2;simp at c0 c1 c3;have C4:=aW (base':=w.heap.size) hv4 su.out.size;obtain ⟨Av,cv,rfl,_,_⟩:=aP.cr (l:=(aY p.fl 0 0).map (aV sn)) C4;have EZ:=Lib.hid C4;have vU:=Lib.hid hB4;have Sg:=Lib.hid hs4;clear hv4 C4 hB4 hb4 CZ hs4 HB3 nk;cases hs:p.size with
 |some k=>
  have hdd:aJ p=(k:Int):=by unfold aJ;rw[hs]
  rw[hdd] at c3;have HE:=Lib.hid (oF (sn:=sn) HZ.out hs);clear hdd hs;go_wp2_with fail;go_ret;rw[HE.out];refine ⟨.slice Av (aY p.fl 0 0).length cv,rfl,?_,vU.out⟩;have h9:=EZ.out;rw[List.length_map] at h9 ⊢;exact h9
 |none=>
  have hdd:aJ p= -1:=by unfold aJ;rw[hs]
  rw[hdd] at c3;have HE:=Lib.hid (oG (sn:=sn) hs);clear hdd hs;obtain ⟨L,hL⟩:∃L,(aY p.fl 0 0).map (aV sn)=L:=⟨_,rfl⟩
  rw[hL] at EZ HE ⊢;have JO:L.length≤100001:=by rw[←hL,List.length_map];omega
  clear hL hgl;have HV5:=Lib.hid (EZ.out.alloc (.cells (sj ⟨sn,true,m,32767⟩) 116));have hnk:=yt w4 ⟨sn,true,m,32767⟩;simp only[sj] at HV5 hnk;have PE:=Lib.hid hnk;have D7:=Lib.hid (vU.out.alloc vU.out.size (.cells (sj ⟨sn,true,m,32767⟩) 116));simp only[sj] at D7;clear hnk;go_wp2_with (at_builtin;refine dO _ rfl _ _ 40 rfl w.heap.size 116 i0 (.agg #[.int .i64 0,.bool false,.int .i64 0,.int .i64 0]) 32 mF hi hz0 hz1 hz2 rfl (.slice Av L.length cv) L.length (gV L) rfl HV5.out (some ⟨w4.heap.size,0,none⟩) 1 1 [⟨sn,true,m,32767⟩] rfl PE.out ?c3 ?c4 ?c5 ?_)
  case c3=>unfold maxLen;omega
  case c4=>omega
  case c5=>have:=vU.out.size;simp;omega
  intro v' w5 hown5 bZ;go_wp2_with fail;go_ret;rw[HE.out,HM.out];refine ⟨v',rfl,?_,D7.out.grown bZ D7.out.size (fun j hj=>(HV5.out.lt j hj).1)⟩;rw[pW,List.length_append];exact hown5
end
section
open Go.RowKit Go.Shelf
attribute [local go_sem] Oper.semAt_some
theorem vV {st:Rc} {f sn:Nat} {l:List Nk} (h:sn≠st.status) (hc:bP (st.m sn)=true):jD st (f+1) sn l=jD st f (bH sn) l:=by
 rw[jD,if_neg h,if_pos hc]
theorem vW {st:Rc} {f sn:Nat} {l:List Nk} (h:sn≠st.status) (hc:bP (st.m sn)=false) (hl:512<l.length+(fJ sn (st.m sn)).length):jD st (f+1) sn l=(sn,l):=by
 rw[jD,if_neg h,if_neg (by rw[hc];simp),if_pos hl]
theorem vX {st:Rc} {f sn:Nat} {l:List Nk} (h:sn≠st.status) (hc:bP (st.m sn)=false) (hl:¬512<l.length+(fJ sn (st.m sn)).length):jD st (f+1) sn l=jD st f (bH sn) (l++fJ sn (st.m sn)):=by
 rw[jD,if_neg h,if_neg (by rw[hc];simp),if_neg hl]
theorem yw {sn:Nat} {o:Option Sp} (h:∀p,o=some p→kP p∧rC p):(fJ sn o).length≤40000:=by
 cases o with
 |none=>simp[fJ]
 |some p=>
  obtain ⟨h1,h2⟩:=h p rfl;have:=fV p.fl 0 0;have:=h1.le;cases hs:p.size with
  |none=>rw[oG hs];simp;omega
  |some k=>rw[oF h2 hs];simp;omega
def JX (w:World) (R:Nat × List Nk) (e:Ending) (w':World):Prop:=
 ∃A c,e= .returned (.tuple #[.agg #[.int .i64 (R.1:Nat),.slice A R.2.length c],.int .i64 0])∧aP w' A R.2.length c R.2∧(∀ad,A=some ad→w.heap.size≤ad.block)∧Below w.heap.size w w'
def jg (st:Rc):Prop:=∀k p,st.m k=some p→rC p
section
variable {w w':World} {T:Nat→Nat} {g M n:Nat} {c:Cf} {st:Rc} {vo:Value}
theorem bO.entry (h:bO w T g M n c st vo) (ho:aM st) (hz:jg st) {k:Nat} (hk:k≤1023):∃v,(Instr.lookup 31 (.map (some M)) (.int .i64 k) false).run Tryz.prog w= .ok v w∧
 Calls Tryz.prog 42 #[v] w (fun e w'=>e= .returned (.bool (bP (st.m k)))∧Below w.heap.size w w')∧
 ∀W,Below w.heap.size w W→Calls Tryz.prog 43 #[.int .i64 (k:Nat),v] W (CY W (fJ k (st.m k))):=by
 obtain ⟨v,hr,⟨hm,rfl⟩|⟨p,b,vf,vd,hm,rfl,hs,_⟩⟩:=h.look hk
 ·refine ⟨_,hr,?_,?_⟩
  ·rw[hm];exact jb w
  ·intro W _;rw[hm];exact pZ k W
 ·refine ⟨_,hr,?_,?_⟩
  ·rw[hm];exact jc hs (ho.m k p hm).2.2
  ·intro W hW;rw[hm];have hbl:=hs.blk.lt;refine p8 k b p vf vd W (hs.stay (hW.block b hbl) (fun j hj=>hW.block j (hs.fr.lt j hj).2) (fun j hj=>hW.block j (hs.dr.lt j hj).2)) (ho.m k p hm).2.2 (hz k p hm)
theorem vY {st:Rc} {f sn:Nat} {l:List Nk} (h:sn=st.status):jD st f sn l=(st.status,l):=by
 cases f with
 |zero=>rfl
 |succ f=>rw[jD,if_pos h]
theorem uE {wr:World} {b:Nat} {x y:Value} {A:Option Addr} {c:Nat} {l:List Nk} (hb1:av wr b 42 #[x,y]) (hv:wr.ownsRow w.heap.size 116 4 (.slice A l.length c) l.length (gV l)) (hB:Below w.heap.size w wr) (hbl:w.heap.size≤b) (u0 u1:Value):
 aP ((wr.setCell ⟨b,0,none⟩ u0).setCell ⟨b,1,none⟩ u1) A l.length c l∧(∀ad,A=some ad→w.heap.size≤ad.block)∧Below w.heap.size w ((wr.setCell ⟨b,0,none⟩ u0).setCell ⟨b,1,none⟩ u1)∧av ((wr.setCell ⟨b,0,none⟩ u0).setCell ⟨b,1,none⟩ u1) b 42 #[u0,u1]:=by
 have h1:av (wr.setCell ⟨b,0,none⟩ u0) b 42 #[u0,y]:=by simpa using hb1.aF 0 u0
 have h2:av ((wr.setCell ⟨b,0,none⟩ u0).setCell ⟨b,1,none⟩ u1) b 42 #[u0,u1]:=by simpa using h1.aF 1 u1
 have v1:=ownsRow_setCell_other (a:=⟨b,0,none⟩) hv (cK hv hb1 (by decide)) u0;have v2:=ownsRow_setCell_other (a:=⟨b,1,none⟩) v1 (cK v1 h1 (by decide)) u1;obtain ⟨A',c',e,hN,hf⟩:=aP.cr v2;cases e;exact ⟨hN,fun ad e=>(hf ad e).1,(hB.setCell (p:=⟨b,0,none⟩) hbl u0).setCell (p:=⟨b,1,none⟩) hbl u1,h2⟩
set_option maxRecDepth 100000 in
set_option maxHeartbeats 4000000 in
theorem rD (h:bO w T g M n c st vo) (ho:aM st) (hz:jg st):
 Calls Tryz.prog 10 #[.pointer (some ⟨g,0,none⟩)] w (JX w (jE st)):=by
 obtain ⟨i0,hi,hz0,hz1,hz2⟩:=jL;obtain ⟨R,hR⟩:∃R,R=jE st:=⟨_,rfl⟩
 rw[←hR];have hB0:=(Below.refl w.heap.size w).alloc (Nat.le_refl _) (.cells #[.int .i64 0,.slice none 0 0] 42);have hb0:=av.new w 42 #[.int .i64 0,.slice none 0 0];have hsz0:=World.size_alloc w (.cells #[.int .i64 0,.slice none 0 0] 42);have hno:=fU (h.alloc (.cells #[.int .i64 0,.slice none 0 0] 42));have wP:=Lib.hid hno;have HH:=Lib.hid h;have HO:=Lib.hid ho;have HZ:=Lib.hid hz;have HR:=Lib.hid hR;have hgl:=h.blk.lt;obtain ⟨y3,y4,y7,y8,y9,zl,C5,C6,y13,E4,E5,E6,E7,E8⟩:=h.cells;have hn1:=ho.n1;have hn2:=ho.n2;clear y3 y4 zl C5 C6 y13 E4 E5 E6 E7 E8 hno h ho hz hR hb0 hsz0 hB0;go_enter Tryz.func10,Tryz.ntmps10;go_wp2_with fail;refine wP.out.mono ?_;rintro e1 w1 ⟨rfl,rfl⟩;go_wp2_with fail;have hb1:=(av.new w 42 #[.int .i64 0,.slice none 0 0]).alloc (.cells #[.int .i64 (st.status:Nat),.slice none 0 0] 42);have hb2:=av.new (w.alloc (.cells #[.int .i64 0,.slice none 0 0] 42)) 42 #[.int .i64 (st.status:Nat),.slice none 0 0];rw[World.size_alloc] at hb2;have Ag:Below w.heap.size w ((w.alloc (.cells #[.int .i64 0,.slice none 0 0] 42)).alloc (.cells #[.int .i64 (st.status:Nat),.slice none 0 0] 42)):=((Below.refl _ w).alloc (Nat.le_refl _) _).alloc (by simp) _;have uF:(st.status+1024-st.next)%1024≤1024:=by omega
 go_loopg [5] 1024 (fun gk s5 wr=>∃(sn:Nat) (l:List Nk) (v:Value),s5= .int .i64 (sn:Nat)∧sn≤1023∧R=jD st gk sn l∧l.length≤512∧(st.status+1024-sn)%1024≤gk∧av wr w.heap.size 42 #[.int .i64 0,.slice none 0 0]∧
  av wr (w.heap.size+1) 42 #[.int .i64 (st.status:Nat),v]∧wr.ownsRow w.heap.size 116 4 v l.length (gV l)∧Below w.heap.size w wr)
 case atStart=>exact ⟨st.next,[],_,rfl,hn1,HR.out,by simp,uF,hb1,hb2,World.ownsRow_nil _ _ _ _,Ag⟩
 case round=>
  clear hb1 hb2 Ag uF y7 y8 y9;obtain ⟨sn,l,v,rfl,hsn,hr,hl,uF,hb1,hb2,hv,hB⟩:=hrel;obtain ⟨Av,cv,rfl,JY,bS⟩:=aP.cr hv;have hA:=HH.out.below hB;have x9:=hA.cells.2.2.2.2.1;have x7:=hA.cells.2.2.1;by_cases hs:sn=st.status
  ·subst hs;rw[vY rfl] at hr;have c0:=hb2.cell 0;have c1:=hb2.cell 1;have d0:=hb1.frozen 0;have d1:=hb1.frozen 1;have d2:=hb1.cell 0;have d3:=hb1.cell 1;simp at c0 c1 d2 d3;obtain ⟨f1,f2,f3,f4⟩:=uE (w:=w) hb1 hv hB (Nat.le_refl _) (.int .i64 (st.status:Nat)) (.slice Av l.length cv);have F1:=Lib.hid f1;have F2:=Lib.hid f2;have F3:=Lib.hid f3;have F4:=Lib.hid f4;clear f1 f2 f3 f4 hb1 hb2 hv hB hA JY bS x7;go_wp2_with fail;have q0:=F4.out.cell 0;have q1:=F4.out.cell 1;simp at q0 q1;refine bodyPost_ret (v:= .tuple #[.agg #[.int .i64 (st.status:Nat),.slice Av l.length cv],.int .i64 0]) ?_ rfl ?_
   ·simp[results,Tryz.results10,go_sem,q0,q1]
   ·rw[hr];exact ⟨Av,cv,rfl,F1.out,F2.out,F3.out⟩
  ·obtain ⟨f,rfl⟩:∃f,gk=f+1:=⟨gk-1,by omega⟩
   have hne:¬((sn:Int)=(st.status:Int)):=by omega
   have C8:(st.status+1024-bH sn)%1024≤f:=by unfold bH;omega
   have hup:bH sn≤1023:=by unfold bH;omega
   have hand:bits BinOp.and IntKind.i64 ((sn:Int)+1) 1023=((bH sn:Nat):Int):=by rw[iC];unfold bH;omega
   obtain ⟨v,hlk,hcm,hent⟩:=hA.entry HO.out HZ.out hsn;have hel:(fJ sn (st.m sn)).length≤40000:=yw fun p hp=>⟨(HO.out.m sn p hp).2.2,HZ.out sn p hp⟩
   have HCM:=Lib.hid hcm;have HB:=Lib.hid hB;have MQ:=Lib.hid hup;have Ie:=Lib.hid C8;cases hcp:bP (st.m sn) with
   |true=>
    rw[hcp] at HCM;rw[vV hs hcp] at hr;have HRR:=Lib.hid hr;have HV:=Lib.hid hv;have HB1:=Lib.hid hb1;have HB2:=Lib.hid hb2;clear hcm hent hr uF C8 hup hcp hB hA hv hb1 hb2 hel JY bS;generalize bH sn=q at*;go_wp2_with fail;refine HCM.out.mono ?_;rintro e1 w1 ⟨rfl,hb1⟩;go_wp2
    go_roundg f
    case measure=>omega
    case rel=>exact ⟨q,l,_,rfl,MQ.out,HRR.out,hl,Ie.out,HB1.out.below hb1 HB1.out.lt,HB2.out.below hb1 HB2.out.lt,own_below HV.out hb1 (Nat.le_refl _),HB.out.trans (hb1.mono HB.out.size)⟩
   |false=>
    rw[hcp] at HCM;have E9:=Lib.hid hent;clear hcm hent;have HV:=Lib.hid hv;have HB1:=Lib.hid hb1;have HB2:=Lib.hid hb2;have MR:=Lib.hid hs;have MS:=Lib.hid hcp;have HRR:=Lib.hid hr;clear hv hb1 hb2 hs hcp hr hB hA JY bS uF C8 hup;go_wp2_with fail;refine HCM.out.mono ?_;rintro e1 w1 ⟨rfl,hb1⟩;have Ig:=Lib.hid hb1;clear hb1 HCM;go_wp2_with fail;refine (E9.out w1 Ig.out).mono ?_;rintro e2 w2 ⟨v2,rfl,hv2,hb2⟩;obtain ⟨A2,c2,rfl,C9,_⟩:=aP.cr hv2;have hb2':Below wr.heap.size wr w2:=Ig.out.trans (hb2.mono Ig.out.size);have b1:=HB1.out.below hb2' HB1.out.lt;have b2:=HB2.out.below hb2' HB2.out.lt;have v2:=own_below HV.out hb2' (Nat.le_refl _);have BB:=HB.out.trans (hb2'.mono HB.out.size);have HRW:=Lib.hid (HH.out.below BB);have c0:=b2.cell 0;have c1:=b2.cell 1;have d0:=b2.frozen 0;have d1:=b2.frozen 1;simp at c0 c1;by_cases hfl:512<l.length+(fJ sn (st.m sn)).length
    ·have hr:=HRR.out;rw[vW MR.out MS.out hfl] at hr;have dd:decide ((512:Int)<(l.length:Int)+((fJ sn (st.m sn)).length:Int))=true:=decide_eq_true (by omega);generalize (fJ sn (st.m sn)).length=N at*;have b2':av (w2.setCell ⟨w.heap.size+1,0,none⟩ (.int .i64 (sn:Nat))) (w.heap.size+1) 42 #[.int .i64 (sn:Nat),.slice Av l.length cv]:=by simpa using b2.aF 0 (.int .i64 (sn:Nat))
     have b1':=b1.far (p:=⟨w.heap.size+1,0,none⟩) (by simp) (.int .i64 (sn:Nat));have MU:=ownsRow_setCell_other (a:=⟨w.heap.size+1,0,none⟩) v2 (cK v2 b2 (by decide)) (.int .i64 (sn:Nat));have Fa:=BB.setCell (p:=⟨w.heap.size+1,0,none⟩) (by simp) (.int .i64 (sn:Nat));obtain ⟨f1,f2,f3,f4⟩:=uE (w:=w) b1' MU Fa (Nat.le_refl _) (.int .i64 (sn:Nat)) (.slice Av l.length cv);have e0:=b2'.cell 0;have e1:=b2'.cell 1;have e2:=b1'.frozen 0;have e3:=b1'.frozen 1;have e4:=b1'.cell 0;have e5:=b1'.cell 1;simp at e0 e1 e4 e5;have F1:=Lib.hid f1;have F2:=Lib.hid f2;have F3:=Lib.hid f3;have F4:=Lib.hid f4;clear f1 f2 f3 f4 b1 b2 v2 BB b1' b2' MU Fa hb2 hb2' hv2 C9;go_wp2_with fail;have q0:=F4.out.cell 0;have q1:=F4.out.cell 1;simp at q0 q1;refine bodyPost_ret (v:= .tuple #[.agg #[.int .i64 (sn:Nat),.slice Av l.length cv],.int .i64 0]) ?_ rfl ?_
     ·simp[results,Tryz.results10,go_sem,q0,q1]
     ·rw[hr];exact ⟨Av,cv,rfl,F1.out,F2.out,F3.out⟩
    ·have hr:=HRR.out;rw[vX MR.out MS.out hfl] at hr;have dd:decide ((512:Int)<(l.length:Int)+((fJ sn (st.m sn)).length:Int))=false:=decide_eq_false (by omega);obtain ⟨E,hE⟩:∃E,fJ sn (st.m sn)=E:=⟨_,rfl⟩
     rw[hE] at hr dd C9 hfl hel ⊢;have JZ:=Lib.hid hr;have CX:=Lib.hid v2;have PG:=Lib.hid C9;have Fb:=Lib.hid b1;have Fe:=Lib.hid b2;have zi:=Lib.hid BB;clear hr b1 b2 v2 BB hb2 hb2' hv2 C9 HRR HB1 HB2 HV Ig E9;generalize bH sn=q at*;go_wp2_with (at_builtin;refine dO _ rfl _ _ 40 rfl w.heap.size 116 i0 (.agg #[.int .i64 0,.bool false,.int .i64 0,.int .i64 0]) 32 mF hi hz0 hz1 hz2 rfl (.slice Av l.length cv) l.length (gV l) rfl CX.out A2 E.length c2 E rfl PG.out ?c3 ?c4 ?c5 ?_)
     case c3=>unfold maxLen;omega
     case c4=>omega
     case c5=>exact zi.out.size
     intro v5 w5 hown5 bZ;have mJ:w5.ownsRow w.heap.size 116 4 v5 (l++E).length (gV (l++E)):=by rw[pW,List.length_append];exact hown5
     have hvb:∀j,(Value.slice Av l.length cv).ownBlock=some j→w.heap.size≤j:=fun j e=>(CX.out.lt j e).1
     have b2:=Fe.out.grown bZ (fun e=>cK CX.out Fe.out (by decide) e.symm);have b1:=Fb.out.grown bZ (fun e=>cK CX.out Fb.out (by decide) e.symm);have BB:=zi.out.grown bZ zi.out.size hvb;have hl5:(l++E).length≤512:=by rw[List.length_append];omega
     obtain ⟨A5,c5,rfl,_,_⟩:=aP.cr mJ;obtain ⟨NL,Ih⟩:∃NL,(l++E).length=NL:=⟨_,rfl⟩
     rw[Ih] at mJ hl5 ⊢;have MV:=Lib.hid Ih;clear Ih;have d0:=b2.frozen 0;have d1:=b2.frozen 1;have d2:=b2.cell 1;simp at d2;have b2':av (w5.setCell ⟨w.heap.size+1,1,none⟩ (.slice A5 NL c5)) (w.heap.size+1) 42 #[.int .i64 (st.status:Nat),.slice A5 NL c5]:=by simpa using b2.aF 1 (.slice A5 NL c5)
     have b1':=b1.far (p:=⟨w.heap.size+1,1,none⟩) (by simp) (.slice A5 NL c5);have MW:=ownsRow_setCell_other (a:=⟨w.heap.size+1,1,none⟩) mJ (cK mJ b2 (by decide)) (.slice A5 NL c5);have Fa:=BB.setCell (p:=⟨w.heap.size+1,1,none⟩) (by simp) (.slice A5 NL c5);have G1:=Lib.hid b1';have G2:=Lib.hid b2';have G3:=Lib.hid MW;have G4:=Lib.hid Fa;have G5:=Lib.hid hl5;clear b1 b2 BB b1' b2' MW Fa hown5 mJ bZ hvb hl5 c0 c1;go_wp2_with fail
     go_roundg f
     case measure=>omega
     case rel=>exact ⟨q,l++E,_,rfl,MQ.out,JZ.out,by rw[MV.out];exact G5.out,Ie.out,G1.out,G2.out,by rw[MV.out];exact G3.out,G4.out⟩
end
end
section
open Go.RowKit Go.Shelf
attribute [local go_sem] Oper.semAt_some
def kr (x:Nk):Nat:=if x.part=true then 42 else 12
def gN (l:List Nk):Nat:=(l.map kr).sum
def eG (l:List Nk):Nat:=(15+gN l+7)/8
def J2:Nk:=⟨0,false,0,0⟩
def mK (more:Bool) (x:Nk):List (Nat × Nat):=
 [(x.sn.toNat,10),(more.toNat,1),(x.part.toNat,1)]++(if x.part=true then [(x.fr.toNat,15),(x.lt.toNat,15)] else [])
def d9 (l:List Nk):Nat→List (Nat × Nat)
 |0=> []
 |k+1=>d9 l k++mK (decide (k+1<l.length)) (l[k]?.getD J2)
def oH (aH:Nat) (l:List Nk):List UInt8:=pack (ak ([(0,4),(aH,10),((decide (0<l.length)).toNat,1)]++d9 l l.length))
theorem cO (a b:List (Nat × Nat)):ak (a++b)=ak a++ak b:=by simp[ak]
theorem tO (l:List Nk) (k:Nat) (x:Nk) (h:l[k]? =some x):gN (l.take (k+1))=gN (l.take k)+kr x:=by
 unfold gN;rw[List.take_add_one,h];simp
theorem yx (l:List Nk):gN l≤42*l.length:=by
 induction l with
 |nil=>simp[gN]
 |cons x r ih=>
  simp only[gN,List.map_cons,List.sum_cons,List.length_cons] at ih ⊢;have:kr x≤42:=by unfold kr;split<;>omega
  omega
section
variable (w:World)
theorem ku (b:Bool):Calls Tryz.prog 89 #[.bool b] w fun e w'=>e= .returned (.int .u64 b.toNat)∧w'=w:=by
 cases b
 ·go_enter Tryz.func89,Tryz.ntmps89;go_wp2;go_ret;exact ⟨rfl,rfl⟩
 ·go_enter Tryz.func89,Tryz.ntmps89;go_wp2;go_ret;exact ⟨rfl,rfl⟩
theorem aP.get {w:World} {A:Option Addr} {n c:Nat} {l:List Nk} (h:aP w A n c l) {k:Nat} (hk:k<n):∃ad x,A=some ad∧l[k]? =some x∧(ad.add (k*4)).block<w.heap.size∧
 w.cell? (ad.add (k*4))=some (.int .i64 x.sn)∧w.cell? ⟨(ad.add (k*4)).block,(ad.add (k*4)).off+1,none⟩=some (.bool x.part)∧w.cell? ⟨(ad.add (k*4)).block,(ad.add (k*4)).off+2,none⟩=some (.int .i64 x.fr)∧w.cell? ⟨(ad.add (k*4)).block,(ad.add (k*4)).off+3,none⟩=some (.int .i64 x.lt):=by
 have hl:=h.len;obtain ⟨x,hx⟩:∃x,l[k]? =some x:=⟨_,List.getElem?_eq_getElem (by omega)⟩
 obtain ⟨ad,e,hb,hc⟩:=h.at_ (by omega);obtain ⟨k0,k1,k2,k3⟩:=hc k x hx;exact ⟨ad,x,e,hx,by rw[block_add];exact hb,k0,k1,k2,k3⟩
theorem aP.take {w:World} {A:Option Addr} {n c:Nat} {l:List Nk} (h:aP w A n c l) {k:Nat} (hk:k≤n):aP w A k k (l.take k):=by
 have hl:=h.len;have hc:=h.cap;have hm:=h.mx;refine ⟨by rw[List.length_take];omega,Nat.le_refl _,by omega,fun h0=> ?_⟩;obtain ⟨ad,e,hb,hcl⟩:=h.at_ (by omega);refine ⟨ad,e,hb,fun j r hr=>hcl j r ?_⟩;rw[List.getElem?_take] at hr;split at hr
 ·exact hr
 ·cases hr
theorem aP.takeC {w:World} {A:Option Addr} {n c c':Nat} {l:List Nk} (h:aP w A n c l) {k:Nat} (hk:k≤n) (h1:k≤c') (h2:c'≤9223372036854775807):aP w A k c' (l.take k):=
 let h3:=h.take hk
 ⟨h3.len,h1,h2,h3.at_⟩
theorem aP.jN {w:World} {A:Option Addr} {n c b o:Nat} {l:List Nk} (h:aP w A n c l) (hlt:∀ad,A=some ad→ad.block≠b) (u:Value):aP (w.setCell ⟨b,o,none⟩ u) A n c l:=
 ⟨h.len,h.cap,h.mx,fun hn=>by
  obtain ⟨ad,e,hl,hc⟩:=h.at_ hn;have hB:=hlt ad e;refine ⟨ad,e,by simpa[World.setCell] using hl,fun j r hr=> ?_⟩;obtain ⟨k0,k1,k2,k3⟩:=hc j r hr;have hbk:(w.setCell ⟨b,o,none⟩ u).heap[(ad.add (j*4)).block]? =w.heap[(ad.add (j*4)).block]? :=by rw[block_add];exact Below.heap_setCell w ⟨b,o,none⟩ u _ hB
  exact ⟨(World.cell?_of_block (a:=ad.add (j*4)) hbk).trans k0,(World.cell?_of_block (a:=⟨(ad.add (j*4)).block,_,none⟩) hbk).trans k1,(World.cell?_of_block (a:=⟨(ad.add (j*4)).block,_,none⟩) hbk).trans k2,(World.cell?_of_block (a:=⟨(ad.add (j*4)).block,_,none⟩) hbk).trans k3⟩⟩
theorem aP.yA {w w':World} {A:Option Addr} {n c B:Nat} {l:List Nk} (h:aP w A n c l) (hb:Below B w w') (hlt:∀ad,A=some ad→0<n→ad.block<B):aP w' A n c l:=
 ⟨h.len,h.cap,h.mx,fun hn=>by
  obtain ⟨ad,e,hl,hc⟩:=h.at_ hn;have hB:=hlt ad e hn;have hbk:(ad.add (0*4)).block=ad.block:=block_add _ _;refine ⟨ad,e,Nat.lt_of_lt_of_le hl hb.size,fun j r hr=> ?_⟩;obtain ⟨k0,k1,k2,k3⟩:=hc j r hr;have hbk:(ad.add (j*4)).block<B:=by rw[block_add];exact hB
  exact ⟨(hb.cell hbk).trans k0,(hb.cell (p:=⟨(ad.add (j*4)).block,_,none⟩) hbk).trans k1,(hb.cell (p:=⟨(ad.add (j*4)).block,_,none⟩) hbk).trans k2,(hb.cell (p:=⟨(ad.add (j*4)).block,_,none⟩) hbk).trans k3⟩⟩
set_option maxRecDepth 10000 in
set_option maxHeartbeats 2000000 in
theorem vZ (A:Option Addr) (n c:Nat) (l:List Nk) (h:aP w A n c l) (hn:n≤1000000):
 Calls Tryz.prog 88 #[.slice A n c] w fun e w'=>e= .returned (.int .i64 (eG l:Nat))∧Below w.heap.size w w':=by
 have hlen:=h.len;have hcap:=h.cap;have hmx:=h.mx;have HL:=Lib.hid hlen;have HH:=Lib.hid h;clear hlen h;go_enter Tryz.func88,Tryz.ntmps88;go_wp2
 go_loopw [3,8] (fun t i wr=>∃k S:Nat,k≤n∧S=gN (l.take k)∧i= .int .i64 k∧t= .int .i64 ((15+S:Nat):Int)∧Below w.heap.size w wr) (fun _ i _=>n-(intOf i).toNat)
 case atStart=>exact ⟨0,0,Nat.zero_le _,by simp[gN],rfl,rfl,Below.refl _ _⟩
 case round=>
  obtain ⟨k,S,hk,hS,rfl,rfl,hb⟩:=hrel;have hSb:S≤42*k:=by rw[hS];have:=yx (l.take k);have h2:(l.take k).length≤k:=List.length_take_le _ _;omega
  have hws:=hb.size;by_cases hlt:k<n
  ·obtain ⟨ad,x,rfl,hx,hbk,k0,k1,k2,k3⟩:=(HH.out.below hb).get hlt;have hsu:=tO l k x hx;have HZ:=Lib.hid (av.new wr 116 #[.int .i64 x.sn,.bool x.part,.int .i64 x.fr,.int .i64 x.lt]);have HX:=Lib.hid hx;have c1:=HZ.out.cell 1;simp at c1;rw[←hS] at hsu;cases hp:x.part with
   |false=>
    rw[hp] at k1;have p9:gN (l.take (k+1))=S+12:=by rw[hsu];unfold kr;rw[hp];rfl
    have zm:=Lib.hid p9;have HS:=Lib.hid hS;have HP:=Lib.hid hp;clear hsu p9 hS hx hp;go_wp2
    go_roundw
    case rel=>exact ⟨k+1,S+12,by omega,zm.out.symm,by go_num,by go_num,hb.alloc (by omega) _⟩
    case measure=>simp[intOf];omega
   |true=>
    rw[hp] at k1;have p9:gN (l.take (k+1))=S+42:=by rw[hsu];unfold kr;rw[hp];rfl
    have zm:=Lib.hid p9;have HS:=Lib.hid hS;have HP:=Lib.hid hp;clear hsu p9 hS hx hp;go_wp2
    go_roundw
    case rel=>exact ⟨k+1,S+42,by omega,zm.out.symm,by go_num,by go_num,hb.alloc (by omega) _⟩
    case measure=>simp[intOf];omega
  ·obtain rfl:k=n:=by omega
   have e:eG l=(15+S+7)/8:=by
    unfold eG;rw[hS,List.take_of_length_le (by have:=HL.out;omega)]
   have HE:=Lib.hid e;have HS:=Lib.hid hS;clear e hS;go_wp2;go_ret;refine ⟨?_,hb⟩;rw[HE.out];have:((15+S:Nat):Int)+7=((15+S+7:Nat):Int):=by omega
   first
   |rfl
   |(congr 2;omega)
end
end
section
open Go.RowKit Go.Shelf
attribute [local go_sem] Oper.semAt_some
theorem Ff {more:Bool} {x:Nk} (h0:0≤x.sn∧x.sn<1024) (h1:x.part=true→0≤x.fr∧x.fr≤32767∧0≤x.lt∧x.lt≤32767):
 ∀y∈mK more x,y.2≤64∧y.1<2 ^ y.2∧y.1<18446744073709551616:=by
 have hb:∀b:Bool,b.toNat≤1:=fun b=>by cases b<;>simp
 intro y hy;unfold mK at hy;simp only[List.mem_append,List.mem_cons,List.not_mem_nil,or_false] at hy;rcases hy with (rfl|rfl|rfl)|hy
 ·exact ⟨by omega,by simp;omega,by simp;omega⟩
 ·exact ⟨by omega,by have:=hb more;simp;omega,by have:=hb more;simp;omega⟩
 ·exact ⟨by omega,by have:=hb x.part;simp;omega,by have:=hb x.part;simp;omega⟩
 ·cases hp:x.part with
  |false=>rw[hp] at hy;simp at hy
  |true=>
   rw[hp] at hy;obtain ⟨g1,g2,g3,g4⟩:=h1 hp;simp only[if_true,List.mem_cons,List.not_mem_nil,or_false] at hy;rcases hy with rfl|rfl
   ·exact ⟨by omega,by simp;omega,by simp;omega⟩
   ·exact ⟨by omega,by simp;omega,by simp;omega⟩
theorem nS {aH:Int} {x:Nk} (h:eB aH x=true):(0≤x.sn∧x.sn<1024)∧(0≤x.fr∧x.fr≤32767∧0≤x.lt∧x.lt≤32767):=by
 unfold eB at h;simp only[Bool.and_eq_true,decide_eq_true_eq] at h;obtain ⟨h1,_,h2⟩:=h;refine ⟨h1,?_⟩;split at h2
 ·simp only[Bool.and_eq_true,decide_eq_true_eq] at h2;omega
 ·simp only[Bool.and_eq_true,decide_eq_true_eq] at h2;omega
theorem rE {aH:Int} {l:List Nk} (h:aZ aH l=true) {k:Nat} {x:Nk} (hx:l[k]? =some x):eB aH x=true:=by
 unfold aZ at h;simp only[Bool.and_eq_true] at h;exact ((eZ aH l).1 h.2.2 k x hx).1
theorem kz (l:List Nk):∀k,(ak (d9 l k)).length≤42*k
 |0=>by simp[d9,ak]
 |k+1=>by
  have ih:=kz l k;rw[d9,cO,List.length_append];have:(ak (mK (decide (k+1<l.length)) (l[k]?.getD J2))).length≤42:=by
   unfold mK;rw[cO,List.length_append];split<;>simp[ak]
  omega
section
variable (w:World)
set_option maxRecDepth 10000 in
set_option maxHeartbeats 2000000 in
theorem rF (aH:Int) (A:Option Addr) (n c:Nat) (l:List Nk) (h:aP w A n c l) (hv:aZ aH l=false):
 Calls Tryz.prog 41 #[.agg #[.int .i64 aH,.slice A n c]] w fun e w'=>e= .returned (.tuple #[.slice none 0 0,.int .i64 2])∧Below w.heap.size w w':=by
 have hB:Below w.heap.size w (w.alloc (.cells #[.int .i64 aH,.slice A n c] 42)):=(Below.refl _ w).alloc (Nat.le_refl _) _;have hva:=gI _ aH A n c l (h.alloc (.cells #[.int .i64 aH,.slice A n c] 42));rw[hv] at hva;have HB:=Lib.hid hB;have HV:=Lib.hid hva;clear hB hva hv h;go_enter Tryz.func41,Tryz.ntmps41;go_wp2_with (go_at_call 27;refine HV.out.mono ?_;rintro e1 w1 ⟨rfl,hb1⟩)
 go_ret2
 exact ⟨rfl,HB.out.trans (hb1.mono HB.out.size)⟩
set_option maxRecDepth 100000 in
set_option maxHeartbeats 4000000 in
theorem tQ (aH:Nat) (A:Option Addr) (n c:Nat) (l:List Nk) (h:aP w A n c l) (hv:aZ (aH:Int) l=true):
 Calls Tryz.prog 41 #[.agg #[.int .i64 (aH:Int),.slice A n c]] w (kG w.heap.size 5 w (oH aH l).length (bE (oH aH l)) 0):=by
 have hlen:=h.len;have hcap:=h.cap;have hmx:=h.mx;have hva:=gI _ (aH:Int) A n c l (h.alloc (.cells #[.int .i64 (aH:Int),.slice A n c] 42));rw[hv] at hva;have hv2:=hv;unfold aZ at hv2;simp only[Bool.and_eq_true,decide_eq_true_eq] at hv2;have PI:aH≤1023:=by have:=hv2.1.2;omega
 have Fg:n≤512:=by have:=hv2.2.1;omega
 have hB:Below w.heap.size w (w.alloc (.cells #[.int .i64 (aH:Int),.slice A n c] 42)):=(Below.refl _ w).alloc (Nat.le_refl _) _;have b0:=av.new w 42 #[.int .i64 (aH:Int),.slice A n c];have hN0:=h.alloc (.cells #[.int .i64 (aH:Int),.slice A n c] 42);have HB:=Lib.hid hB;have HV:=Lib.hid hva;have HL:=Lib.hid hlen;have JG:=Lib.hid hv;clear hB hva hv hv2 hlen h;go_enter Tryz.func41,Tryz.ntmps41;go_wp2_with fail;refine HV.out.mono ?_;rintro e1 w1 ⟨rfl,hb1⟩;have hbw:Below w.heap.size w w1:=HB.out.trans (hb1.mono HB.out.size)
 replace b0:=b0.below hb1 b0.lt
 have hN1:=hN0.below hb1;have hlt1:=b0.lt;clear HV hb1 HB hN0;go_wp2_with fail;have hW2:jm (w1.alloc (.cells #[.slice none 0 0,.int .i64 0] 141)) w1.heap.size w1.heap.size []:=⟨Nat.le_refl _,_,av.new w1 _ _,World.ownsRow_nil _ _ _ _⟩;have hbw2:=hbw.alloc hbw.size (.cells #[.slice none 0 0,.int .i64 0] 141)
 replace b0:=b0.alloc (.cells #[.slice none 0 0,.int .i64 0] 141)
 have C9:=hN1.alloc (.cells #[.slice none 0 0,.int .i64 0] 141);obtain ⟨g,hg⟩:∃g,g=w1.heap.size:=⟨_,rfl⟩
 have hgl:w.heap.size<g:=by omega
 have hNb:∀ad,A=some ad→0<n→ad.block<g:=fun ad e h0=>by
  obtain ⟨rX,e',hb',_⟩:=hN1.at_ h0;rw[e] at e';cases e';omega
 rw[←hg] at hW2 ⊢;generalize w1.alloc (.cells #[.slice none 0 0,.int .i64 0] 141)=w2 at*;clear hbw hlt1 hg hN1;have c00:=b0.cell 0;have Fh:=b0.cell 1;simp at c00 Fh;have hwr:IntKind.u64.wrap (aH:Int)=aH:=by rw[IntKind.wrap_u64];omega
 have hdn:decide ((0:Int)<n)=decide (0<n):=by rw[Bool.eq_iff_iff];simp
 refine wp_region_still_tail 11 (by kernel_rfl) (by kernel_rfl) ?_;simp only[List.take_succ_cons,List.take_zero,List.drop_succ_cons,List.drop_zero]
 still_step
 still_step
 still_step
 still_step
 still_step
 still_step
 still_step
 still_step
 still_step
 still_call (ku _ _)
 still_step
 refine wpStill_nil ?_;change wpList _ _ _ _ _ w2.drew
 replace hW2:jm w2.drew g g []:=hW2
 replace hbw2:=hbw2.drew
 replace b0:=b0.drew
 have Fj:=C9.below ((Below.refl _ w2).drew);generalize w2.drew=w3 at*;clear c00 Fh hwr hdn C9;have hput:=iU g g w3.heap.size [] [(0,4),(aH,10),((decide (0<n)).toNat,1)] (w3.alloc (.cells (aR [(0,4),(aH,10),((decide (0<n)).toNat,1)]).toArray 144)) (hW2.alloc _) (by simp) (by simp) (av.new _ _ _) (by
  intro x hx;simp only[List.mem_cons,List.not_mem_nil,or_false] at hx;have hb:∀b:Bool,b.toNat≤1:=fun b=>by cases b<;>simp
  rcases hx with rfl|rfl|rfl
  ·exact ⟨by omega,by decide,by omega⟩
  ·exact ⟨by omega,by simp;omega,by omega⟩
  ·exact ⟨by omega,by have:=hb (decide (0<n));simp;omega,by have:=hb (decide (0<n));omega⟩)
 simp only[aR,List.length_cons,List.length_nil,Nat.zero_add,Nat.reduceAdd,List.nil_append] at hput;have nC:=Lib.hid hput;clear hput;go_wp2_with fail;refine nC.out.mono ?_;rintro e4 w4 ⟨rfl,J3,hk4⟩;have hg3:g<w3.heap.size:=by obtain ⟨_,v,hb,_⟩:=hW2;exact hb.lt
 clear nC hW2;have hB4:=hk4.below (B:=g) (fun _ _ h=>h.1) (by simp;omega);have J4:=(hbw2.alloc hbw2.size _).trans (hB4.mono (by omega));have J5:=(b0.alloc (.cells #[.int .u64 0,.int .i64 4,.int .u64 aH,.int .i64 10,.int .u64 (decide (0<n)).toNat,.int .i64 1] 144)).below hB4 (by omega);have MX:aP w4 A n c l:=by
  have h1:=Fj.alloc (.cells #[.int .u64 0,.int .i64 4,.int .u64 aH,.int .i64 10,.int .u64 (decide (0<n)).toNat,.int .i64 1] 144);exact h1.yA hB4 hNb
 clear hB4 hbw2 hk4 b0 Fj;have Fh:=J5.cell 1;simp at Fh;obtain ⟨hd,hhd⟩:∃hd:List (Nat × Nat),hd= [(0,4),(aH,10),((decide (0<n)).toNat,1)]:=⟨_,rfl⟩
 rw[←hhd] at J3;have MY:(ak hd).length=15:=by rw[hhd];simp[ak]
 have henc:oH aH l=pack (ak hd++ak (d9 l n)):=by unfold oH;rw[HL.out,hhd,cO]
 have MZ:=Lib.hid MY;have HE:=Lib.hid henc;have PK:=Lib.hid J5;have PL:=Lib.hid MX;generalize PN:oH aH l=EE at*;clear MY henc hhd PN J5 MX;go_wp2
 go_loopw [26] (fun i wr=>∃k:Nat,k≤n∧i= .int .i64 k∧jm wr g g (ak hd++ak (d9 l k))∧Kept (Mw g g) w4 wr) (fun i _=>n-(intOf i).toNat)
 case atStart=>exact ⟨0,Nat.zero_le _,rfl,by simpa[d9,ak] using J3,Kept.refl _ _⟩
 case round=>
  obtain ⟨k,hk,rfl,Fp,J6⟩:=hrel;have hgr:g<wr.heap.size:=by obtain ⟨_,v,hb,_⟩:=Fp;exact hb.lt
  have hg4:g<w4.heap.size:=by obtain ⟨_,v,hb,_⟩:=J3;exact hb.lt
  have Au:=J6.below (B:=g) (fun _ _ h=>h.1) (by omega);have Da:=J4.trans (Au.mono (by omega));by_cases hlt:k<n
  ·obtain ⟨ad,x,rfl,hx,hbk,k0,k1,k2,k3⟩:=(PL.out.yA Au hNb).get hlt;obtain ⟨⟨hs0,hs1⟩,hx2,hx3,hx4,hx5⟩:=nS (rE JG.out hx);have hsu:d9 l (k+1)=d9 l k++mK (decide (k+1<n)) x:=by rw[d9,hx,HL.out];rfl
   obtain ⟨xs,xp,xf,xl⟩:=x;dsimp only at k0 k1 k2 k3 hs0 hs1 hx2 hx3 hx4 hx5;obtain ⟨xs,rfl⟩:=Int.eq_ofNat_of_zero_le hs0;obtain ⟨xf,rfl⟩:=Int.eq_ofNat_of_zero_le hx2;obtain ⟨xl,rfl⟩:=Int.eq_ofNat_of_zero_le hx4;have hlk:(ak hd++ak (d9 l k)).length≤50000:=by
    rw[List.length_append,MZ.out];have:=kz l k;omega
   have p9:ak hd++ak (d9 l (k+1))=(ak hd++ak (d9 l k))++ak ([(xs,10),((decide (k+1<n)).toNat,1),(xp.toNat,1)]++(if xp=true then [(xf,15),(xl,15)] else [])):=by
    rw[hsu,cO];simp[mK]
   obtain ⟨FN,Db⟩:∃FN,ak hd++ak (d9 l (k+1))=FN:=⟨_,rfl⟩
   rw[Db] at p9;have Fq:=Lib.hid Db;clear Db;generalize ak hd++ak (d9 l k)=FK at*;have hz0:av (wr.alloc (.cells #[.int .i64 (xs:Int),.bool xp,.int .i64 (xf:Int),.int .i64 (xl:Int)] 116)) wr.heap.size 116 #[.int .i64 (xs:Int),.bool xp,.int .i64 (xf:Int),.int .i64 (xl:Int)]:=av.new wr _ _;have M0:=Fp.alloc (.cells #[.int .i64 (xs:Int),.bool xp,.int .i64 (xf:Int),.int .i64 (xl:Int)] 116);have Fs:=J6.alloc (.cells #[.int .i64 (xs:Int),.bool xp,.int .i64 (xf:Int),.int .i64 (xl:Int)] 116);have hb5:=(PK.out.below Au (by omega)).alloc (.cells #[.int .i64 (xs:Int),.bool xp,.int .i64 (xf:Int),.int .i64 (xl:Int)] 116);have zm:=Lib.hid p9;have HX:=Lib.hid hx;have M3:=Lib.hid M0;have qa:=Lib.hid Fs;have D7:=Lib.hid hb5;have HZ0:=Lib.hid hz0;have D8:=Lib.hid (hz0.lt);clear hsu p9 hx Fp J6 M0 Fs hz0 hb5 Au;go_wp2_with fail;obtain ⟨bx,hbx⟩:∃b,b=wr.heap.size:=⟨_,rfl⟩
   have M4:=Lib.hid (show wr.heap.size≤bx by omega);rw[←hbx] at HZ0 D8 ⊢;generalize wr.alloc (.cells #[.int .i64 (xs:Int),.bool xp,.int .i64 (xf:Int),.int .i64 (xl:Int)] 116)=w5 at*;have z0:=HZ0.out.cell 0;have z1:=HZ0.out.cell 1;have z2:=HZ0.out.cell 2;have z3:=HZ0.out.cell 3;have z4:=D7.out.cell 1;simp at z0 z1 z2 z3 z4;clear k0 k1 k2 k3 Fh hbx;have hwr:IntKind.u64.wrap (xs:Int)=xs:=by rw[IntKind.wrap_u64];omega
   have hw1:IntKind.i64.wrap ((k:Int)+1)=(k:Int)+1:=IntWalk.i64_in _ (by omega);have hdn:decide ((k:Int)+1<(n:Int))=decide (k+1<n):=by rw[Bool.eq_iff_iff];simp;omega
   refine wp_region_still_tail 16 (by kernel_rfl) (by kernel_rfl) ?_;simp only[List.take_succ_cons,List.take_zero,List.drop_succ_cons,List.drop_zero]
   still_step
   still_step
   still_step
   still_step
   still_step
   still_step
   still_step
   still_step
   still_step
   still_step
   still_call (ku _ _)
   still_step
   still_step
   still_step
   still_call (ku _ _)
   still_step
   refine wpStill_nil ?_;change wpList _ _ _ _ _ w5.drew;clear z0 z1 z2 z3 z4 hwr;have J7:=HZ0.out.drew;have M5:jm w5.drew g g FK:=M3.out;have BA:=qa.out.drew;have M6:=Lib.hid J7;have Dc:=Lib.hid BA;have M7:=Lib.hid M5;have Fu:=Lib.hid (show bx<w5.drew.heap.size from D8.out);clear HZ0 M3 qa D7 D8 J7 M5 BA;generalize w5.drew=w6 at*
   try simp only[hw1,hdn]
   obtain ⟨d,hd0⟩:∃d,d=decide (k+1<n):=⟨_,rfl⟩
   have Aw:=Lib.hid (show FN=FK++ak ([(xs,10),(d.toNat,1),(xp.toNat,1)]++(if xp=true then [(xf,15),(xl,15)] else [])) by rw[hd0];exact zm.out);rw[←hd0];clear hw1 hdn hd0 zm;have hbt:∀b:Bool,b.toNat≤1:=fun b=>by cases b<;>simp
   have hput:=iU g g w6.heap.size FK [(xs,10),(d.toNat,1),(xp.toNat,1)] (w6.alloc (.cells (aR [(xs,10),(d.toNat,1),(xp.toNat,1)]).toArray 144)) (M7.out.alloc _) (by omega) (by simp) (av.new _ _ _) (by
    intro x hx;simp only[List.mem_cons,List.not_mem_nil,or_false] at hx;rcases hx with rfl|rfl|rfl
    ·exact ⟨by omega,by simp;omega,by omega⟩
    ·exact ⟨by omega,by have:=hbt d;simp;omega,by have:=hbt d;omega⟩
    ·exact ⟨by omega,by have:=hbt xp;simp;omega,by have:=hbt xp;omega⟩)
   simp only[aR,List.length_cons,List.length_nil,Nat.zero_add,Nat.reduceAdd] at hput;have nC:=Lib.hid hput;clear hput;go_wp2_with fail;refine nC.out.mono ?_;rintro e7 w7 ⟨rfl,M8,De⟩;have zb:=De.below (B:=g) (fun _ _ h=>h.1) (by have:=Fu.out;have:=M4.out;simp;omega);have BD:=(Dc.out.alloc (.cells #[.int .u64 xs,.int .i64 10,.int .u64 d.toNat,.int .i64 1,.int .u64 xp.toNat,.int .i64 1] 144)).trans De;have Df:av w7 bx 116 #[.int .i64 (xs:Int),.bool xp,.int .i64 (xf:Int),.int .i64 (xl:Int)]:=by
    refine (M6.out.alloc (.cells #[.int .u64 xs,.int .i64 10,.int .u64 d.toNat,.int .i64 1,.int .u64 xp.toNat,.int .i64 1] 144)).kept De ?_;rintro ⟨_,e|⟨cs,fr,e⟩⟩
    ·have:=M4.out;omega
    ·cases e
   have PO:(FK++ak [(xs,10),(d.toNat,1),(xp.toNat,1)]).length≤60000:=by simp[ak];omega
   have M9:=Lib.hid M8;have Ay:=Lib.hid BD;have J8:=Lib.hid Df;clear nC zb M8 BD De Df M7 Dc M6 Fu;have z1:=J8.out.cell 1;have z2:=J8.out.cell 2;have z3:=J8.out.cell 3;simp at z1 z2 z3;cases xp with
   |false=>
    have hfn:FN=FK++ak [(xs,10),(d.toNat,1),((false).toNat,1)]:=by rw[Aw.out];rfl
    have D9:=Lib.hid hfn;clear hfn Aw hbt;go_wp2_with fail
    go_roundw
    case rel=>exact ⟨k+1,by omega,by go_num,by rw[Fq.out,D9.out];exact M9.out,Ay.out⟩
    case measure=>simp[intOf];omega
   |true=>
    have hfn:FN=(FK++ak [(xs,10),(d.toNat,1),((true).toNat,1)])++ak [(xf,15),(xl,15)]:=by rw[Aw.out,List.append_assoc,←cO];rfl
    have D9:=Lib.hid hfn;have hput:=iU g g w7.heap.size _ [(xf,15),(xl,15)] (w7.alloc (.cells (aR [(xf,15),(xl,15)]).toArray 144)) (M9.out.alloc _) (by omega) (by simp) (av.new _ _ _) (by
     intro x hx;simp only[List.mem_cons,List.not_mem_nil,or_false] at hx;rcases hx with rfl|rfl
     ·exact ⟨by omega,by simp;omega,by omega⟩
     ·exact ⟨by omega,by simp;omega,by omega⟩)
    simp only[aR,List.length_cons,List.length_nil,Nat.zero_add,Nat.reduceAdd] at hput;have nC:=Lib.hid hput;have hwf:IntKind.u64.wrap (xf:Int)=xf:=by rw[IntKind.wrap_u64];omega
    have hwl:IntKind.u64.wrap (xl:Int)=xl:=by rw[IntKind.wrap_u64];omega
    clear hput hfn Aw hbt;go_wp2_with fail;refine nC.out.mono ?_;rintro e8 w8 ⟨rfl,Na,Nb⟩;have PR:=Lib.hid Na;have PS:=Lib.hid ((Ay.out.alloc (.cells #[.int .u64 xf,.int .i64 15,.int .u64 xl,.int .i64 15] 144)).trans Nb);clear Na Nb nC;go_wp2_with fail
    go_roundw
    case rel=>exact ⟨k+1,by omega,by go_num,by rw[Fq.out,D9.out];exact PR.out,PS.out⟩
    case measure=>simp[intOf];omega
  ·obtain rfl:k=n:=by omega
   have hlk:(ak hd++ak (d9 l k)).length≤50000:=by
    rw[List.length_append,MZ.out];have:=kz l k;omega
   have hby:=uU g g _ wr Fp (by omega);have PT:=Lib.hid hby;clear hby Fp hlk;go_wp2_with fail;refine PT.out.mono ?_;rintro e7 w7 ⟨v7,rfl,hv7,sw⟩;have zb:=Da.trans (sw.mono (by have:=Da.size;omega));rw[←HE.out] at hv7;have Ii:=Lib.hid (aW (base':=w.heap.size) hv7 Da.size);have PU:=Lib.hid zb;clear zb hv7 sw;go_wp2_with fail
   go_ret2
   exact ⟨v7,rfl,Ii.out,PU.out⟩
end
end
section
open Go.RowKit Go.Shelf
attribute [local go_sem] Oper.semAt_some
end
section
open Go.RowKit Go.Shelf
attribute [local go_sem] Oper.semAt_some
section
variable (w:World)
end
end
section
open Go.RowKit Go.Shelf
attribute [local go_sem] Oper.semAt_some
theorem tT {P:Program} {ops:Array Oper} {Q:Exit→Act→World→Prop} {md:Region.Mode} {S:World→Prop} {L:List Nat} {i k:Nat} {oi ok:Oper} {fuel:Nat} {listed:Array Bool} {a:Act} {w:World} (hi:ops[i]? =some oi) (hk:ops[k]? =some ok) (hr:Region.ready md ops listed= [i,k]) (hwi:Region.wanted oi (yielded ops a.tmps)=true) (hwk:Region.wanted ok (yielded ops a.tmps)=true)
 (h:∀K:Act→World→Prop,(∀a' w',S w'→bD P md ops Q S L fuel (listed.setIfInBounds i true) a' w'→K a' w')→oi.wp P a w K Q)
 (h2:∀K:Act→World→Prop,(∀a' w',S w'→bD P md ops Q S L fuel (listed.setIfInBounds k true) a' w'→K a' w')→ok.wp P a w K Q):bD P md ops Q S L (fuel+1) listed a w:=by
 refine ⟨fun h0=>(by rw[hr] at h0;cases h0),fun j hj=> ?_⟩;rw[hr] at hj;simp only[List.mem_cons,List.not_mem_nil,or_false] at hj;rcases hj with rfl|rfl
 ·unfold wpOp;simp only[hi,hwi,if_true];exact .inl (h _ fun a' w' hs h'=>⟨fun _=>hs,h'⟩)
 ·unfold wpOp;simp only[hk,hwk,if_true];exact .inl (h2 _ fun a' w' hs h'=>⟨fun _=>hs,h'⟩)
section
variable (w:World)
end
end
end Go.Proofs.YtiecgfahidpldaaGreat
