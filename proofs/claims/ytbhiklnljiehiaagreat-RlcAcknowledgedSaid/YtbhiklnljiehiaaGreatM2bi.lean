/- Pending: the PDUs with pending ranges. -/
import Derived.Test.YtbhiklnljiehiaaGreatM2be
namespace Go.Proofs.YtbhiklnljiehiaaGreat
section
open Go.RowKit Go.Shelf
attribute [local go_sem] Oper.semAt_some
def iW (l:List Ou):List (Nat × Nat):=(l.filter (fun x=>decide (0<d9 x.pend))).map (fun x=>(x.sn,d9 x.pend))
theorem JD {l:List Ou} {k:Nat} {x:Ou} (hx:l[k]? =some x):iW (l.take (k+1))=iW (l.take k)++(if 0<d9 x.pend then [(x.sn,d9 x.pend)] else []):=by
 unfold iW;rw[List.take_add_one,hx];simp only[Option.toList,List.filter_append,List.map_append]
 congr 1
 by_cases h:0<d9 x.pend
 ·simp[h]
 ·simp[h]
theorem Mv (l:List Ou):(iW l).length≤l.length:=by
 unfold iW;rw[List.length_map];exact List.length_filter_le _ _
theorem Gr {l:List (Nat × Nat)} {k:Nat} {r:Nat × Nat} (hr:l[k]? =some r):d9 (l.take (k+1))=d9 (l.take k)+(r.2+1-r.1):=by
 unfold d9;rw[List.take_add_one,hr];simp
theorem CW {l:List (Nat × Nat)} {s:Nat} (h:∀r∈l,r.1≤r.2∧r.2<s):d9 l≤l.length*s:=by
 induction l with
 |nil=>simp[d9]
 |cons r t ih=>
  have h1:=h r (by simp);have h2:=ih (fun q hq=>h q (by simp[hq]));simp only[d9,List.map_cons,List.sum_cons,List.length_cons] at*;rw[Nat.succ_mul];omega
theorem Gs (l:List (Nat × Nat)) (k:Nat):d9 (l.take k)≤d9 l:=by
 have e:d9 l=d9 (l.take k)+d9 (l.drop k):=by
  unfold d9;rw[←List.sum_append,←List.map_append,List.take_append_drop]
 omega
theorem Pz {w:World} {ar:Addr} {j:Nat} {u:Value} (h:w.cell? (ar.add (j*2+1))=some u):w.cell? ⟨(ar.add (j*2)).block,(ar.add (j*2)).off+1,none⟩=some u:=by
 rcases Nat.eq_zero_or_pos j with rfl|hj
 ·simpa[Addr.add] using h
 ·have hne:j*2≠0:=by omega
  simpa[Addr.add,hne,Nat.add_assoc] using h
theorem World.ownsRow.drew' {w:World} {b:Nat} {t:TypeId} {s:Nat} {v:Value} {n:Nat} {xs:List Value} (h:w.ownsRow b t s v n xs):w.drew.ownsRow b t s v n xs:=h
section
variable {D F:Nat→Prop} {g:Nat} {c:Cf} {st:Sd} {vq vo:Value} {vs os:List Value} {w:World}
def aau (w:World) (l:List (Nat × Nat)) (e:Ending) (w':World):Prop:=
 ∃b A cc,e= .returned (.func (.func 158) #[] #[.pointer (some ⟨b,0,none⟩)])∧au w' b 150 #[.slice A l.length cc]∧dG w' A l.length cc l∧w.heap.size≤b∧(∀ad,A=some ad→w.heap.size≤ad.block∧ad.block<w'.heap.size)∧Below w.heap.size w w'
set_option maxRecDepth 10000 in
set_option maxHeartbeats 1000000 in
theorem Gt (h:dV w D F g c st vq vs vo os) (ht:1≤c.timer) (hw:st.out.length≤512) (ho:∀x∈st.out,Bc x):
 Calls Tryz.prog 104 #[.pointer (some ⟨g,0,none⟩)] w (aau w (iW st.out)):=by
 have U0:=ah (au.new w 150 #[.slice none 0 0]);have HB0:=ah ((Below.refl w.heap.size w).alloc (aN) (.cells #[.slice none 0 0] 150));have HZ0:=ah (show (w.alloc (.cells #[.slice none 0 0] 150)).heap.size=w.heap.size+1 by simp);obtain ⟨Ao,co,rfl,hso⟩:=h.Om;have U1:=hso.cap;have aav:=hso.mx;obtain ⟨r,hr⟩:∃r:Int,(if st.failed=true then 8 else 0)=r:=⟨_,rfl⟩
 have dr:(r !=1)=true:=by rw[←hr];cases st.failed<;>rfl
 have HH:=ah h;have HOO:=ah ho;have HR:=ah hr;obtain ⟨i0,hi,hz0,hz1,hzb⟩:=nH;clear h hso hr ho;go_enter Tryz.func104,Tryz.ntmps104;go_wp2_with fail;generalize w.alloc (.cells #[.slice none 0 0] 150)=w0 at*;have Re:=ah (HH.out.below HB0.out);have kW:=ah (fP Re.out ht);rw[HR.out] at kW;refine kW.out.mono ?_;rintro e1 w1 ⟨rfl,rfl⟩;have sP:=Re.out.blk.cell 12;simp[dS] at sP;go_wp2_with fail;clear kW sP;have ae3:w.heap.size<w0.heap.size:=U0.out.lt
 go_loopw [17] (fun i wr=>∃k:Nat,k≤st.out.length∧i= .int .i64 k∧∃v,wr.ownsRow w0.heap.size 39 2 v (iW (st.out.take k)).length (mR (iW (st.out.take k)))∧au wr w.heap.size 150 #[v]∧Below w.heap.size w wr∧w0.heap.size≤wr.heap.size) (fun i _=>st.out.length-(intOf i).toNat)
 case atStart=>exact ⟨0,Nat.zero_le _,rfl,.slice none 0 0,World.ownsRow_nil _ _ _ _,U0.out,HB0.out,aN⟩
 case round=>
  obtain ⟨k,hk,rfl,v,hrow,hl,hb,hzz⟩:=hrel;obtain ⟨Av,cv,rfl,Tg,Xe⟩:=dG.cB hrow;by_cases hlt:k<st.out.length
  ·obtain ⟨x,hx⟩:∃x,st.out[k]? =some x:=⟨_,List.getElem?_eq_getElem hlt⟩
   have hA:=HH.out.below hb;obtain ⟨p,Ap,cp,vp,Ar,cr,he,ho⟩:=hA.oe k x hx;obtain ⟨A2,c2,e2,hso⟩:=hA.Om;injection e2 with e3 e4 e5
   subst e3 e5;obtain ⟨ad,u,rfl,hbd,hu,hc⟩:=hso.get hlt;rw[he] at hu;cases hu;have KR:=ho.blk.cell 10;simp[DN] at KR;have hox:=HOO.out x (List.mem_of_getElem? hx);have hrl:=hox.pl;have hsz:=gX hox;have hrb:=CW hox.pr;have alf:d9 x.pend≤1000*32767:=Nat.le_trans hrb (Nat.mul_le_mul hrl hsz.2);have QZ:=ah (JD hx);have Bo:=ah (Mv (st.out.take k));have hrc:=ho.rs.cap;have hrm:=ho.rs.mx;have HRS:=ah ho.rs;have HPB:=ah ho.blk;have YB:=ah hox.pr;have HX:=ah hx;have Ml:=ah hrow;have HL:=ah hl;have HB:=ah hb;clear hA ho hso hx he hox hrb hrow hl hb e4 Tg Xe
   go_upto_block 2 with (fail)
   clear hc;go_cut [6] from 21 to 38 (fun s6 wx=>s6= .int .i64 (d9 x.pend:Nat)∧Below wr.heap.size wr wx)
   case first=>
    go_wp2_with fail
    go_loopw [6,26] (fun s i wq=>∃j:Nat,j≤x.pend.length∧i= .int .i64 j∧s= .int .i64 (d9 (x.pend.take j):Nat)∧Below wr.heap.size wr wq) (fun _ i _=>x.pend.length-(intOf i).toNat)
    case atStart=>exact ⟨0,Nat.zero_le _,rfl,by simp[d9],Below.refl _ _⟩
    case round=>
     obtain ⟨j,hj,rfl,rfl,hbq⟩:=hrel;by_cases hjl:j<x.pend.length
     ·obtain ⟨rr,hrr⟩:∃rr,x.pend[j]? =some rr:=⟨_,List.getElem?_eq_getElem hjl⟩
      obtain ⟨ar,rfl,hab,hcl⟩:=(HRS.out.below hbq).at_ (by omega);obtain ⟨k0,k1⟩:=hcl j rr hrr;obtain ⟨h1,h2⟩:=YB.out rr (List.mem_of_getElem? hrr);have hm1:=Gs x.pend (j+1);have ht1:=Gr hrr;obtain ⟨ra,rb⟩:=rr;dsimp only at k0 k1 h1 h2 ht1;generalize d9 (x.pend.take j)=S at*;have hS:S+(rb+1-ra)≤1000*32767:=by omega
      have hw1:IntKind.i64.wrap ((rb:Int)-(ra:Int))=(rb:Int)-(ra:Int):=IntWalk.i64_in _ (by omega);have hw2:IntKind.i64.wrap ((rb:Int)-(ra:Int)+1)=(rb:Int)-(ra:Int)+1:=IntWalk.i64_in _ (by omega);have hw3:IntKind.i64.wrap ((S:Int)+((rb:Int)-(ra:Int)+1))=(S:Int)+((rb:Int)-(ra:Int)+1):=IntWalk.i64_in _ (by omega);have HT:=ah ht1;have HBQ:=ah hbq
      replace k1:=Pz k1
      clear hm1 ht1 hcl hrr hbq;go_wp2
      go_round
      case rel=>
       refine ⟨j+1,by omega,by go_num,?_,WN HBQ.out _⟩;rw[HT.out]
       congr 1
       omega
      case measure=>simp[intOf];omega
     ·have e:x.pend.take j=x.pend:=List.take_of_length_le (by omega);rw[e];have HBQ:=ah hbq;clear e hbq;go_wp2;go_meet;exact ⟨rfl,HBQ.out⟩
   case rest=>
   obtain ⟨rfl,hbq⟩:=hcut;have HB2:=ah (HB.out.trans (hbq.mono HB.out.size));have HL2:=ah (HL.out.below hbq HL.out.lt);have aaw:=ah (HPB.out.below hbq HPB.out.lt);have KS:=ah (own_below Ml.out hbq (aN));have hz2:w0.heap.size≤wc.heap.size:=Nat.le_trans hzz hbq.size;clear hbq KR;generalize d9 x.pend=S at*;by_cases hS:0<S
   ·have hd:decide (0<S)=true:=decide_eq_true hS;have HS:=ah hS;clear hS;go_wp2_with fail;have l0:=HL2.out.cell 0;have z0:=aaw.out.cell 0;have hll:=HL2.out.lt;have hpl:=aaw.out.lt;have hkl:=Bo.out;rw[List.length_take] at hkl;simp[DN] at l0 z0;have S7:=ah (show ∀j,Value.ownBlock (.slice Av (iW (st.out.take k)).length cv)=some j→j=w.heap.size→False from fun j hj e=>by have:=(KS.out.lt j hj).1;omega);refine aZ (fun w'=>w'.cell? ⟨w.heap.size,0,none⟩=some (.slice Av (iW (st.out.take k)).length cv)∧w'.cell? ⟨p,0,none⟩=some (.int .i64 (x.sn:Nat))) [9,10] (by kernel_rfl) ?_;have hHeld:=(show (fun w'=>w'.cell? ⟨w.heap.size,0,none⟩=some (.slice Av (iW (st.out.take k)).length cv)∧w'.cell? ⟨p,0,none⟩=some (.int .i64 (x.sn:Nat))) wc.drew from ⟨l0,z0⟩);refine gV [9,10] 0 ?_ rfl (Or.inl ⟨by rfl,?_⟩) hHeld ?_;rotate_left
    ·intro w' hSw;obtain ⟨hS1,hS2⟩:=hSw;go_simp
     try with_reducible rfl
    try simp only[Act.put,aB,aC,ax,ay,aA]
    refine aY 1 rfl hHeld ?_
    try simp only[Act.put,aB,aC,aD,ax,ay,aA]
    refine aY 2 rfl hHeld ?_
    try simp only[Act.put,aB,aC,aD,ax,ay,aA]
    refine aY 3 rfl hHeld ?_
    try simp only[Act.put,aB,aC,aD,ax,ay,aA]
    refine aY 4 rfl hHeld ?_
    try simp only[Act.put,aB,aC,aD,ax,ay,aA]
    refine gV [7,8,9,10] 5 ?_ rfl (Or.inl ⟨by rfl,?_⟩) hHeld ?_;rotate_left
    ·intro w' hSw;obtain ⟨hS1,hS2⟩:=hSw;go_simp
     try with_reducible rfl
    try simp only[Act.put,aB,aC,aD,ax,ay,aA]
    refine aY 6 rfl hHeld ?_
    try simp only[Act.put,aB,aC,aD,ax,ay,aA]
    refine aY 7 rfl hHeld ?_
    try simp only[Act.put,aB,aC,aD,ax,ay,aA]
    refine aR (i:=8) rfl (by kernel_rfl) (by rfl) (fun K hK=> ?_);go_simp;have hbA:=(Below.refl wc.heap.size wc).drew.alloc (by simp) (.cells #[.int .i64 (x.sn:Nat),.int .i64 (S:Nat)] 39);have q0:(wc.drew.alloc (.cells #[.int .i64 (x.sn:Nat),.int .i64 (S:Nat)] 39)).cell? ⟨w.heap.size,0,none⟩=some (.slice Av (iW (st.out.take k)).length cv):=(hbA.cell (p:=⟨w.heap.size,0,none⟩) hll).trans l0;have q1:(wc.drew.alloc (.cells #[.int .i64 (x.sn:Nat),.int .i64 (S:Nat)] 39)).cell? ⟨p,0,none⟩=some (.int .i64 (x.sn:Nat)):=(hbA.cell (p:=⟨p,0,none⟩) hpl).trans z0;refine hK _ _ (And.intro q0 q1) ?_;clear hK K hHeld;have hHeld:=(And.intro q0 q1)
    try simp only[Act.put,aB,aC,aD,ax,ay,aA]
    refine bD (i:=9) rfl (by kernel_rfl) (by kernel_rfl) (by rfl) (fun K hK=> ?_);refine uH _ (.tmp 41) (.tmp 49) 150 rfl w0.heap.size 39 i0 (.agg #[.int .i64 0,.int .i64 0]) 16 qp hi hz0 hz1 hzb rfl (.slice Av (iW (st.out.take k)).length cv) _ _ rfl (KS.out.drew'.alloc _) (some ⟨wc.heap.size,0,none⟩) 1 1 [(x.sn,S)] rfl (JB wc.drew (x.sn,S)) (by unfold maxLen;omega) (by omega) (by simp;omega) ?_;intro v5 w5 hown5 bR hv5;have hfm:w5.ownsRow w0.heap.size 39 2 v5 (iW (st.out.take k)++ [(x.sn,S)]).length (mR (iW (st.out.take k)++ [(x.sn,S)])):=by
     rw[List.length_append,uG];exact hown5
    obtain ⟨A5,c5,rfl,-,-⟩:=dG.cB hfm;have hL5:au w5 w.heap.size 150 #[.slice Av (iW (st.out.take k)).length cv]:=(HL2.out.drew.alloc _).grown bR (fun e=>S7.out _ e.symm rfl);have q5:=hL5.cell 0;have r5:=hL5.frozen 0;simp at q5;have HFM:=ah hfm;have IC:=ah hL5;have E4:=ah ((WN HB2.out.drew (.cells #[.int .i64 (x.sn:Nat),.int .i64 (S:Nat)] 39)).grown bR (by have:=HB2.out.size;simp;omega) (fun j hj=>Nat.le_of_lt (Nat.lt_of_lt_of_le ae3 (KS.out.lt j hj).1)));have Iz:w0.heap.size≤w5.heap.size:=by have:=bR.size;simp at this;omega
    clear hown5 bR hv5 hfm hL5;refine hK _ _ ?_;clear hK K
    try simp only[Act.put,aB,aC,aD,ax,ay,aA]
    refine bD (i:=10) rfl (by kernel_rfl) (by kernel_rfl) (by rfl) (fun K hK=> ?_);go_simp;refine hK _ _ ?_;clear hK K
    try simp only[Act.put,aB,aC,aD,ax,ay,aA]
    refine bu (by kernel_rfl) ?_ _;go_wp2
    go_round
    case rel=>
     refine ⟨k+1,by omega,by go_num,.slice A5 ((iW (st.out.take k)).length+1) c5,?_,?_,?_,?_⟩
     ·rw[QZ.out,if_pos HS.out];have hq:=HFM.out;simp only[List.length_append,List.length_cons,List.length_nil,Nat.zero_add] at hq ⊢;exact ownsRow_setCell_other hq (fun e=>by have:=(hq.lt _ e).1;have e3:(⟨w.heap.size,0,none⟩:Addr).block=w.heap.size:=rfl;omega) _
     ·simpa using IC.out.av 0 (.slice A5 ((iW (st.out.take k)).length+1) c5)
     ·exact E4.out.setCell (p:=⟨w.heap.size,0,none⟩) (aN) _
     ·simpa[World.setCell] using Iz
    case measure=>simp[intOf];omega
   ·have hd:decide (0<S)=false:=decide_eq_false hS;have HS:=ah hS;clear hS;go_wp2
    go_round
    case rel=>
     refine ⟨k+1,by omega,by go_num,_,?_,HL2.out,HB2.out,hz2⟩;rw[QZ.out,if_neg HS.out,List.append_nil];exact KS.out
    case measure=>simp[intOf];omega
  ·have e:st.out.take k=st.out:=List.take_of_length_le (by omega);rw[e] at hrow hl Tg;have l0:=hl.cell 0;simp at l0;have HL:=ah hl;have KQ:=ah Tg;have HB:=ah hb;have Xf:=ah Xe;clear e hl Tg hb Xe hrow;go_wp2;go_ret;exact ⟨w.heap.size,Av,cv,rfl,HL.out,KQ.out,aN,fun ad e=>⟨by have:=(Xf.out ad e).1;omega,(Xf.out ad e).2⟩,HB.out⟩
end
end
section
open Go.RowKit Go.Shelf
attribute [local go_sem] Oper.semAt_some
theorem TU {k:Nat} {l:List Fl} (h:k≤l.length):jY k l=l:=by
 unfold jY;rw[show k-l.length=0 by omega];simp
def GX (p:Sp):Prop:=∀k,p.size=some k→k≤p.fl.length
theorem Db {sn:Nat} {p:Sp} {k:Nat} (hz:GX p) (hs:p.size=some k):mM sn (some p)=(eY p.fl 0 0).map (eO sn):=by
 unfold mM;simp only[hs];rw[TU (hz k hs)]
theorem Dc {sn:Nat} {p:Sp} (hs:p.size=none):mM sn (some p)=(eY p.fl 0 0).map (eO sn)++ [⟨sn,true,p.fl.length,32767⟩]:=by
 unfold mM;simp only[hs]
def XN (w:World) (l:List Nk) (e:Ending) (w':World):Prop:=
 ∃v,e= .returned v∧w'.ownsRow w.heap.size 197 4 v l.length (mW l)∧Below w.heap.size w w'
set_option maxRecDepth 10000 in
set_option maxHeartbeats 2000000 in
theorem EC (sn:Nat) (w:World):Calls Tryz.prog 118 #[.int .i64 (sn:Nat),.pointer none] w (XN w (mM sn none)):=by
 have b0:=au.new w 3 #[.int .i64 (sn:Nat)];have hB:=(Below.refl w.heap.size w).alloc (aN) (.cells #[.int .i64 (sn:Nat)] 3);have c0:=b0.cell 0;simp at c0;have HB:=ah hB;clear hB b0;go_enter Tryz.func118,Tryz.ntmps118;go_wp2;go_ret;refine ⟨_,rfl,?_,HB.out.alloc (by simp) _⟩;have hr:=aU (base':=w.heap.size) (World.ownsRow_lit (e:=197) (size:=4) (w.alloc (.cells #[.int .i64 (sn:Nat)] 3)) #[.int .i64 (sn:Nat),.bool false,.int .i64 0,.int .i64 0] 1 (aN) (by unfold maxLen;omega) (by rfl)) (by simp);simpa[mM,mW] using hr
set_option maxRecDepth 100000 in
set_option maxHeartbeats 4000000 in
theorem ED (sn:Nat) (b:Nat) (p:Sp) (vf vd:Value) (w:World) (h:oD w b p vf vd) (ho:xH p) (hz:GX p):
 Calls Tryz.prog 118 #[.int .i64 (sn:Nat),.pointer (some ⟨b,0,none⟩)] w (XN w (mM sn (some p))):=by
 obtain ⟨i0,hi,hz0,hz1,hz2⟩:=qw;obtain ⟨A,c,rfl,hfs⟩:=lV.cB h.fr;obtain ⟨Ad,cd,rfl,_,_⟩:=bq h.dr;have hle:=ho.le;obtain ⟨m,hm⟩:∃m,p.fl.length=m:=⟨_,rfl⟩
 have hcap:=hfs.cap;have hmx:=hfs.mx;have hgl:=nI p.fl 0 0;rw[hm] at hfs hle hcap hgl;have hb:=h.blk;rw[hm] at hb;have hbl:=hb.lt;have z0:=hb.cell 0;have z1:=hb.cell 1;have z2:=hb.cell 2;simp at z0 z1 z2;have hsi:decide ((m:Int)<dx p)=false:=by
  refine decide_eq_false ?_;unfold dx;cases hs:p.size with
  |none=>dsimp only;omega
  |some k=>have:=hz k hs;dsimp only;omega
 have b0:=au.new w 3 #[.int .i64 (sn:Nat)];have b1:=au.new (w.alloc (.cells #[.int .i64 (sn:Nat)] 3)) 165 #[.slice A m c,.slice Ad p.da.length cd,.int .i64 (dx p)];rw[World.size_alloc] at b1;have YG:=b0.alloc (.cells #[.slice A m c,.slice Ad p.da.length cd,.int .i64 (dx p)] 165);have hB:Below w.heap.size w ((w.alloc (.cells #[.int .i64 (sn:Nat)] 3)).alloc (.cells #[.slice A m c,.slice Ad p.da.length cd,.int .i64 (dx p)] 165)):=((Below.refl _ w).alloc (aN) _).alloc (by simp) _;have abh:=hfs.below hB;have hsz:((w.alloc (.cells #[.int .i64 (sn:Nat)] 3)).alloc (.cells #[.slice A m c,.slice Ad p.da.length cd,.int .i64 (dx p)] 165)).heap.size=w.heap.size+2:=by simp
 have HB:=ah hB;have HFS:=ah abh;have HB0:=ah YG;have HB1:=ah b1;have Bz:=ah hsz;have HM:=ah hm;have HZ:=ah hz;clear hB abh YG b1 b0 hsz hm hfs hb h ho hz;go_enter Tryz.func118,Tryz.ntmps118;go_wp2_with fail;obtain ⟨w2,hw2⟩:∃w2,(w.alloc (.cells #[.int .i64 (sn:Nat)] 3)).alloc (.cells #[.slice A m c,.slice Ad p.da.length cd,.int .i64 (dx p)] 165)=w2:=⟨_,rfl⟩
 rw[hw2] at HB HFS HB0 HB1 Bz ⊢;refine (Mi (w.heap.size+1) w2).mono ?_;rintro e3 w3 ⟨rfl,rfl⟩;have hgv:=au.new w2 161 #[.pointer (some ⟨w.heap.size+1,0,none⟩)];have hb3:=HB1.out.alloc (.cells #[.pointer (some ⟨w.heap.size+1,0,none⟩)] 161);have hs3:=HB0.out.alloc (.cells #[.pointer (some ⟨w.heap.size+1,0,none⟩)] 161);have abk:=zF w2.heap.size (w.heap.size+1) w.heap.size A m c p.fl sn (w2.alloc (.cells #[.pointer (some ⟨w.heap.size+1,0,none⟩)] 161)) (by omega) hgv (by have:=Bz.out;simp;omega) (hb3.cell 0) (HFS.out.below ((Below.refl _ w2).alloc (aN) _)) (hs3.cell 0) (by have:=Bz.out;simp;omega);have abl:=ah abk;have HB3:=ah hb3;have xM:=ah hs3;have Bg:=ah (HB.out.alloc HB.out.size (.cells #[.pointer (some ⟨w.heap.size+1,0,none⟩)] 161));clear hgv hb3 hs3 abk hw2 HB HB0 HB1 HFS;go_wp2_with fail;refine abl.out.mono ?_;rintro e4 w4 ⟨v,rfl,hv4,hb4⟩;clear abl;have hB4:=Bg.out.trans (hb4.mono Bg.out.size);have XO:=HB3.out.below hb4 HB3.out.lt;have hs4:=xM.out.below hb4 xM.out.lt;have c0:=hs4.cell 0;have c1:=XO.cell 0;have c3:=XO.cell 2;simp at c0 c1 c3;have XP:=aU (base':=w.heap.size) hv4 Bg.out.size;obtain ⟨Av,cv,rfl,_,_⟩:=bM.cB (l:=(eY p.fl 0 0).map (eO sn)) XP;have HV4:=ah XP;have BG:=ah hB4;have HS4:=ah hs4;clear hv4 XP hB4 hb4 XO hs4 HB3 xM;cases hs:p.size with
 |some k=>
  have hdd:dx p=(k:Int):=by unfold dx;rw[hs]
  rw[hdd] at c3;have HE:=ah (Db (sn:=sn) HZ.out hs);clear hdd hs;go_wp2_with fail;go_ret;rw[HE.out];refine ⟨.slice Av (eY p.fl 0 0).length cv,rfl,?_,BG.out⟩;have h9:=HV4.out;rw[List.length_map] at h9 ⊢;exact h9
 |none=>
  have hdd:dx p= -1:=by unfold dx;rw[hs]
  rw[hdd] at c3;have HE:=ah (Dc (sn:=sn) hs);clear hdd hs;obtain ⟨L,hL⟩:∃L,(eY p.fl 0 0).map (eO sn)=L:=⟨_,rfl⟩
  rw[hL] at HV4 HE ⊢;have YA:L.length≤100001:=by rw[←hL,List.length_map];omega
  clear hL hgl;have HV5:=ah (HV4.out.alloc (.cells (CJ ⟨sn,true,m,32767⟩) 197));have hnk:=Ei w4 ⟨sn,true,m,32767⟩;simp only[CJ] at HV5 hnk;have Xa:=ah hnk;have E4:=ah (BG.out.alloc BG.out.size (.cells (CJ ⟨sn,true,m,32767⟩) 197));simp only[CJ] at E4;clear hnk;go_wp2_with (at_builtin;refine gF _ rfl _ _ 131 rfl w.heap.size 197 i0 (.agg #[.int .i64 0,.bool false,.int .i64 0,.int .i64 0]) 32 sM hi hz0 hz1 hz2 rfl (.slice Av L.length cv) L.length (mW L) rfl HV5.out (some ⟨w4.heap.size,0,none⟩) 1 1 [⟨sn,true,m,32767⟩] rfl Xa.out ?c3 ?c4 ?c5 ?_)
  case c3=>unfold maxLen;omega
  case c4=>omega
  case c5=>have:=BG.out.size;simp;omega
  intro v' w5 hown5 bR;go_wp2_with fail;go_ret;rw[HE.out,HM.out];refine ⟨v',rfl,?_,E4.out.grown bR E4.out.size (fun j hj=>(HV5.out.lt j hj).1)⟩;rw[uK,List.length_append];exact hown5
end
section
open Go.RowKit Go.Shelf
attribute [local go_sem] Oper.semAt_some
theorem dG.kept {w w':World} {A:Option Addr} {n c:Nat} {l:List (Nat × Nat)} {M:Nat→Obj→Prop} (h:dG w A n c l) (hk:Kept M w w') (hM:∀ad,A=some ad→∀o,¬M ad.block o) (hlt:∀ad,A=some ad→ad.block<w.heap.size):dG w' A n c l:=
 h.stay fun ad e=>by
  have h1:=Array.getElem?_eq_getElem (hlt ad e);rw[hk.same _ _ h1 (hM ad e _),h1]
def zL (l:List (Nat × Nat)) (k:Nat):Array Value:=match l[k]? with
 |some x=> #[.int .i64 (x.1:Nat),.int .i64 (x.2:Nat)]
 |none=> #[undef,undef]
set_option maxRecDepth 100000 in
set_option maxHeartbeats 2000000 in
theorem PE (n:Nat) (b:Nat) (A:Option Addr) (N c:Nat) (l:List (Nat × Nat)) (M:Nat→Obj→Prop) (w:World)
 (hg:au w b 150 #[.slice A N c]) (hv:dG w A N c l) (hlo:∀ad,A=some ad→ad.block<w.heap.size) (N5:∀ad,A=some ad→∀o,¬M ad.block o):
 KN n Tryz.prog 158 #[.pointer (some ⟨b,0,none⟩)] (zL l) N (Kept M) w:=fun p J W hW _ hJ hY h0=>by
 have hg':=hg.below hW hg.lt;have hv':=hv.below hW;have hlt':∀ad,A=some ad→ad.block<W.heap.size:=fun ad e=>Nat.lt_of_lt_of_le (hlo ad e) hW.size
 have hvk:∀wr,Kept M W wr→dG wr A N c l:=fun wr hk=>hv'.kept hk N5 hlt'
 have VF:=ah hvk;have HY:=ah hY;have HJ:=ah hJ;have hlen:=hv.len;have hcap:=hv.cap;have hmx:=hv.mx;have HL:=ah hlen;clear hvk hY hJ hlen;refine callsIn_of_wp Tryz.func158 rfl trivial ?_ rfl;simp only[Tryz.ntmps158,List.size_toArray,List.length_cons,List.length_nil,Nat.reduceAdd,Nat.reduceSub,Array.replicate_succ,Array.replicate_zero,List.push_toArray,List.append_toArray,List.nil_append,List.cons_append];have hcw:=hg'.cell 0;simp at hcw
 gi_wp2
 refine jh ?_
 gi_wp2
 refine wpIn_label ?_
 gi_wp2
 gi_loopw [7] (fun i wr=>∃k:Nat,k≤N∧i= .int .i64 k∧J k wr∧Kept M W wr) (fun i _=>N-(intOf i).toNat)
 case atStart=>exact ⟨0,Nat.zero_le _,by simp,h0,Kept.refl _ _⟩
 case round=>
  obtain ⟨k,hk,rfl,hJs,hnx⟩:=hrel;by_cases hlt:k<N
  ·obtain ⟨x,hx⟩:∃x,l[k]? =some x:=⟨_,List.getElem?_eq_getElem (by have:=HL.out;omega)⟩
   have N6:=VF.out wr hnx;obtain ⟨ad,rfl,Bh,hcl⟩:=N6.at_ (by omega);obtain ⟨k0,k1⟩:=hcl k x hx
   replace k1:=Pz k1
   clear hcl N6;have b1:=au.new wr 39 #[.int .i64 (x.1:Nat),.int .i64 (x.2:Nat)];have y0:(wr.alloc (.cells #[.int .i64 (x.1:Nat),.int .i64 (x.2:Nat)] 39)).cell? ⟨wr.heap.size,0,none⟩=some (.int .i64 (x.1:Nat)):=b1.cell 0;have y1:(wr.alloc (.cells #[.int .i64 (x.1:Nat),.int .i64 (x.2:Nat)] 39)).cell? ⟨wr.heap.size,1,none⟩=some (.int .i64 (x.2:Nat)):=b1.cell 1;have hbw:Below wr.heap.size wr (wr.alloc (.cells #[.int .i64 (x.1:Nat),.int .i64 (x.2:Nat)] 39)):=(Below.refl _ wr).alloc (aN) _;have EW:=HY.out k _ hlt (HJ.out.fresh k wr _ hJs hbw);have hnx2:Kept M W (wr.alloc (.cells #[.int .i64 (x.1:Nat),.int .i64 (x.2:Nat)] 39)):=hnx.trans (Kept.dD hbw);have AQ:=ah hnx2;have HX:=ah hx;unfold zL at EW;rw[hx] at EW;obtain ⟨fn,tmps,assign,body,hy,hR⟩:=EW;simp only[] at hy;clear b1 hx hnx2 hbw hnx
   gi_wp2
   refine ⟨fun hh=>(by cases hh),hR.mono ?_⟩;rintro e W3 ⟨rfl,hJ3,hk3⟩
   gi_wp2
   go_roundw
   case rel=>exact ⟨k+1,by omega,by go_num,hJ3,AQ.out.trans hk3⟩
   case measure=>simp[intOf];omega
  ·have e:k=N:=by omega
   have Dz:J N wr:=by rw[e] at hJs;exact hJs
   clear e hJs
   gi_wp2
   unfold Exit.noGoto
   gi_wp2
   go_end0
   exact ⟨⟨_,rfl⟩,Dz⟩
theorem CZ:∀l:List Ou,((iW l).map (·.2)).sum=rz l
 | []=>rfl
 |x::r=>by
  have ih:=CZ r;unfold iW rz at*;simp only[List.filter_cons,List.map_cons,List.sum_cons];by_cases h:0<d9 x.pend
  ·simp only[h,decide_true,if_true,List.map_cons,List.sum_cons];omega
  ·have h0:d9 x.pend=0:=by omega
   simp only[h,decide_false,Bool.false_eq_true,if_false];omega
def sumTo (l:List (Nat × Nat)) (k:Nat):Nat:=((l.take k).map (·.2)).sum
theorem JF {l:List (Nat × Nat)} {k:Nat} {x:Nat × Nat} (h:l[k]? =some x):sumTo l (k+1)=sumTo l k+x.2:=by
 unfold sumTo;rw[List.take_add_one,h];simp
theorem sumTo_le (l:List (Nat × Nat)) (k:Nat):sumTo l k≤(l.map (·.2)).sum:=by
 have e:(l.map (·.2)).sum=sumTo l k+((l.drop k).map (·.2)).sum:=by
  unfold sumTo;rw[←List.sum_append,←List.map_append,List.take_append_drop]
 omega
theorem PG {l:List Ou} (h:∀x∈l,d9 x.pend≤32767000):rz l≤l.length*32767000:=by
 induction l with
 |nil=>simp[rz]
 |cons x r ih=>
  have h1:=h x (by simp);have h2:=ih (fun q hq=>h q (by simp[hq]));simp only[rz,List.map_cons,List.sum_cons,List.length_cons] at*;rw[Nat.succ_mul];omega
structure BfI (wc:World) (nc:Nat) (b0:Int) (l:List (Nat × Nat)) (k:Nat) (W:World):Prop where
 row:au W nc 3 #[.int .i64 (b0+(sumTo l k:Nat))]
 kp:Kept (fun j _=>j=nc) wc W
theorem BfI.far {wc:World} {nc:Nat} {b0:Int} {l:List (Nat × Nat)} (hlc:nc<wc.heap.size):Gg wc.heap.size (BfI wc nc b0 l):=by
 refine ⟨fun k A B row hs hg hr=> ?_,fun k A B hs hb=> ?_⟩
 ·obtain ⟨hb,hk⟩:=hs;refine ⟨hb.grown hg ?_,hk.grown hg (fun j e o ho=> ?_)⟩
  ·intro e;have:=(hr nc e.symm).1;omega
  ·have h1:=(hr j e).1;have h2:=(Array.getElem?_eq_some_iff.1 ho).1;omega
 ·obtain ⟨hbk,hk⟩:=hs;exact ⟨hbk.below hb hbk.lt,hk.trans (Kept.dD hb)⟩
section
variable {D F:Nat→Prop} {g:Nat} {c:Cf} {st:Sd} {vq vo:Value} {vs os:List Value} {w:World}
set_option maxRecDepth 100000 in
set_option maxHeartbeats 2000000 in
theorem BK (h:dV w D F g c st vq vs vo os) (ht:1≤c.timer) (hsum:aW st≤1048576) (htk:st.taken≤aW st) (hw:st.out.length≤512) (ho:∀x∈st.out,Bc x):
 Calls Tryz.prog 59 #[.pointer (some ⟨g,0,none⟩)] w fun e w'=>e= .returned (.int .i64 (IW st))∧Below w.heap.size w w':=by
 have kW:=ah (fP h ht);have HH:=ah h;obtain ⟨r,hr⟩:∃r:Int,(if st.failed=true then 8 else 0)=r:=⟨_,rfl⟩
 have dr:(r==1)=false:=by rw[←hr];cases st.failed<;>rfl
 rw[hr] at kW;have EY:∀W,Below w.heap.size w W→Calls Tryz.prog 102 #[.pointer (some ⟨g,0,none⟩)] W fun e w'=>e= .returned (.int .i64 (aW st:Nat))∧W=w':=fun W hW=>vE (h.below hW) hsum
 have HHE:=ah EY;have AU:=h.blk.cell 10;simp[dS] at AU;have hgl:=h.blk.lt;have HS:=ah (show ∀W,Below w.heap.size w W→W.cell? ⟨g,10,none⟩=some (.int .i64 (st.taken:Nat)) from fun W hW=>(hW.cell (p:=⟨g,10,none⟩) hgl).trans AU);have HO:=ah ho;clear h hr EY ho;refine (callsIn_wide (n:=5)).1 ?_;refine callsIn_of_wp_marks Tryz.func59 rfl trivial ?_ rfl;simp only[Tryz.ntmps59,List.size_toArray,List.length_cons,List.length_nil,Nat.reduceAdd,Nat.reduceSub,Array.replicate_succ,Array.replicate_zero,List.push_toArray,List.append_toArray,List.nil_append,List.cons_append];refine (wpIn_wide (n:=5)).2 ?_;go_wp2_with fail;refine kW.out.mono ?_;rintro e1 w1 ⟨rfl,rfl⟩;go_wp2_with fail;have hsub:IntKind.i64.wrap ((aW st:Int)-(st.taken:Int))=(aW st:Int)-(st.taken:Int):=IntWalk.i64_in _ (by omega);go_cut [3] from 9 to 15 (fun s3 wx=>∃b,s3= .pointer (some ⟨b,0,none⟩)∧au wx b 3 #[.int .i64 ((aW st:Int)-(st.taken:Int))]∧Below w.heap.size w wx∧w.heap.size≤b)
 case first=>
  have hb0:=Below.refl w.heap.size w;refine wp_region_noPanic ?_
  go_region_held3 (fun W=>W.cell? ⟨g,10,none⟩=some (.int .i64 (st.taken:Nat)))
   (first|(with_reducible (refine HS.out _ ?_;(repeat first|assumption|refine Below.drew ?_|refine WN ?_ _|refine Pe ?_ _ _);done))|go_keep)
   (first
    |(go_at_call 102;refine (HHE.out _ (by with_reducible (repeat first|assumption|refine Below.drew ?_|refine WN ?_ _|refine Pe ?_ _ _))).mono ?_;rintro e7 w7 ⟨rfl,rfl⟩)
    |fail)
  all_goals
   try refine NoPanic.normal ?_
   go_wp2;go_meet;exact ⟨_,rfl,(au.new _ _ _).drew,((Below.refl _ w).alloc (aN) _).drew,aN⟩
 case rest=>
 obtain ⟨b,rfl,hbk,hbb,hbl⟩:=hcut;have HP:=ah (Gt (HH.out.below hbb) ht hw HO.out);have yV:=ah hbb;have UB:=ah hbk;clear hbb hbk;go_wp2_with fail;refine HP.out.mono ?_;rintro e2 w2 ⟨pb,A,cc,rfl,k1,k2,k3,k4,k5⟩;have tJ:=ah k1;have wG:=ah k2;have xB:=ah k4;have rD:=ah k5;have HB2:=ah (UB.out.below k5 UB.out.lt);have hbw:b<wc.heap.size:=UB.out.lt;have hz2:=k5.size;clear k1 k2 k4 k5;go_wp2_with fail;obtain ⟨L,hL⟩:∃L,iW st.out=L:=⟨_,rfl⟩
 have U6:(L.map (·.2)).sum=rz st.out:=by rw[←hL];exact CZ _
 have hpb:=PG (l:=st.out) (fun x hx=>by
  have hox:=HO.out x hx;have h1:=CW hox.pr;have h2:=gX hox;exact Nat.le_trans h1 (Nat.mul_le_mul hox.pl h2.2))
 have alm:rz st.out≤512*32767000:=Nat.le_trans hpb (Nat.mul_le_mul_right _ hw);rw[hL] at tJ wG;obtain ⟨M,hM⟩:∃M:Nat→Obj→Prop,M=fun k _=>k=b∨k=w2.heap.size+1:=⟨_,rfl⟩
 have hseq:=PE 4 pb A L.length cc L M w2 tJ.out wG.out (fun ad e=>(xB.out ad e).2) (by rw[hM];rintro ad e o (h|h)<;>have:=xB.out ad e<;>omega);apply (wpIn_wide (n:=5)).1;refine mP (gf:=158) (lb:= #[.pointer (some ⟨pb,0,none⟩)]) rfl (enters_of Tryz.func158 (by kernel_rfl) rfl)
  hseq Kept.trans ?a3 (Below.refl _ _) (fun k=>by unfold zL;split<;>rfl)
  (BfI w2 b ((aW st:Int)-(st.taken:Int)) L) (BfI.far (by omega)) ?a5 ?a6 ?a7
 case a3=>
  intro Wk o o' ho hc;exact (Kept.refl _ Wk).grown (grownBy_putObj' Wk _ o') (fun j e _ _=>by cases e;rw[hM];exact .inr rfl)
 case a5=>exact ⟨by simpa[sumTo] using HB2.out,Kept.refl _ _⟩
 case a7=>
  rintro D' Wk hD ⟨hrow,hK⟩ UW;have hs:sumTo L L.length=rz st.out:=by unfold sumTo;rw[List.take_length];exact U6
  rw[hs] at hrow;have U7:IW st=(aW st:Int)-(st.taken:Int)+(rz st.out:Int):=rfl;rw[←U7] at hrow;have l0:=hrow.cell 0;simp at l0;have hB2:Below w.heap.size w (Wk.putObj D' (.deferred none)):=by
   have e1:=yV.out.trans (rD.out.mono yV.out.size);have e2:Below w.heap.size w2 Wk:=hK.below (fun j _ hj=>by omega) (by have:=yV.out.size;omega);exact (e1.trans e2).trans (Below.putObj (by have:=yV.out.size;omega) _)
  have ae7:=ah hB2;have HDk:=ah UW;clear hrow hK UW hM hseq hB2 hs U7
  gi_wp2
  go_wp2;refine ⟨by simp,.inl ⟨_,_,rfl,run_takeDeferred HDk.out,?_⟩⟩;exact ⟨.int .i64 (IW st),by simp[results,Tryz.results59,go_sem],rfl,ae7.out⟩
 case a6=>
  rintro l' k Wk hk ⟨hrow,hK⟩ ⟨oR,Td,YK⟩;obtain ⟨y,hy⟩:∃y,L[k]? =some y:=⟨_,List.getElem?_eq_getElem hk⟩
  have hvv:zL L k= #[.int .i64 (y.1:Nat),.int .i64 (y.2:Nat)]:=by unfold zL;rw[hy]
  rw[hvv];have hst:=JF hy;have hle:=sumTo_le L (k+1);rw[U6] at hle;have HST:=ah hst;have hrl:=(Array.getElem?_eq_some_iff.1 Td).1
  gi_wp2_with fail
  refine ⟨⟨aN,fun _ _ _ h _=>h⟩,?_⟩;intro W3 o' hW3;have NI:au W3 b 3 #[.int .i64 ((aW st:Int)-(st.taken:Int)+(sumTo L k:Nat))]:=by rw[hW3];exact hrow.putObj (by omega) _
  have hK3:Kept (fun j _=>j=b) w2 W3:=by
   rw[hW3];exact hK.grown (grownBy_putObj' Wk _ o') (fun j e o ho=>by cases e;have:=(Array.getElem?_eq_some_iff.1 ho).1;omega)
  have YP:Kept M Wk W3:=by
   rw[hW3];exact (Kept.refl _ Wk).grown (grownBy_putObj' Wk _ o') (fun j e _ _=>by cases e;rw[hM];exact .inr rfl)
  generalize sumTo L k=S at*;have hS2:S+y.2≤512*32767000:=by omega
  have hw1:IntKind.i64.wrap ((aW st:Int)-(st.taken:Int)+(S:Int)+(y.2:Int))=(aW st:Int)-(st.taken:Int)+((S+y.2:Nat):Int):=by rw[IntWalk.i64_in _ (by omega)];omega
  have n0:=NI.cell 0;have n1:=NI.frozen 0;simp at n0;have HF:=ah (show KeepsFrom w2.heap.size W3 (W3.setCell ⟨b,0,none⟩ (.int .i64 ((aW st:Int)-(st.taken:Int)+((S+y.2:Nat):Int))))∧Kept M Wk (W3.setCell ⟨b,0,none⟩ (.int .i64 ((aW st:Int)-(st.taken:Int)+((S+y.2:Nat):Int))))∧BfI w2 b ((aW st:Int)-(st.taken:Int)) L (k+1) (W3.setCell ⟨b,0,none⟩ (.int .i64 ((aW st:Int)-(st.taken:Int)+((S+y.2:Nat):Int)))) from
   ⟨KeepsFrom.Em NI _,YP.setCell (p:=⟨b,0,none⟩) (fun _ _=>by rw[hM];exact .inl rfl) _,⟨by rw[HST.out];simpa using NI.av 0 (.int .i64 ((aW st:Int)-(st.taken:Int)+((S+y.2:Nat):Int))),hK3.setCell (p:=⟨b,0,none⟩) (fun _ _=>rfl) _⟩⟩)
  clear NI hK3 YP hW3 hrow hK Td YK hM hseq hvv hy hst hle
  gi_wp2_with fail
  exact HF.out
end
end
section
open Go.RowKit Go.Shelf
attribute [local go_sem] Oper.semAt_some
theorem MS {st:Rc} {f sn:Nat} {l:List Nk} (h:sn≠st.status) (hc:gB (st.m sn)=true):um st (f+1) sn l=um st f (fJ sn) l:=by
 rw[um,if_neg h,if_pos hc]
theorem MU {st:Rc} {f sn:Nat} {l:List Nk} (h:sn≠st.status) (hc:gB (st.m sn)=false) (hl:512<l.length+(mM sn (st.m sn)).length):um st (f+1) sn l=(sn,l):=by
 rw[um,if_neg h,if_neg (by rw[hc];simp),if_pos hl]
theorem MV {st:Rc} {f sn:Nat} {l:List Nk} (h:sn≠st.status) (hc:gB (st.m sn)=false) (hl:¬512<l.length+(mM sn (st.m sn)).length):um st (f+1) sn l=um st f (fJ sn) (l++mM sn (st.m sn)):=by
 rw[um,if_neg h,if_neg (by rw[hc];simp),if_neg hl]
theorem Qj {sn:Nat} {o:Option Sp} (h:∀p,o=some p→xH p∧GX p):(mM sn o).length≤40000:=by
 cases o with
 |none=>simp[mM]
 |some p=>
  obtain ⟨h1,h2⟩:=h p rfl;have:=nI p.fl 0 0;have:=h1.le;cases hs:p.size with
  |none=>rw[Dc hs];simp;omega
  |some k=>rw[Db h2 hs];simp;omega
def afR (w:World) (R:Nat × List Nk) (e:Ending) (w':World):Prop:=
 ∃A c,e= .returned (.tuple #[.agg #[.int .i64 (R.1:Nat),.slice A R.2.length c],.int .i64 0])∧bM w' A R.2.length c R.2∧(∀ad,A=some ad→w.heap.size≤ad.block)∧Below w.heap.size w w'
def sU (st:Rc):Prop:=∀k p,st.m k=some p→GX p
section
variable {w w':World} {T:Nat→Nat} {g M n:Nat} {c:Cf} {st:Rc} {vo:Value}
theorem gI.entry (h:gI w T g M n c st vo) (ho:dP st) (hz:sU st) {k:Nat} (hk:k≤1023):∃v,(Instr.lookup 128 (.map (some M)) (.int .i64 k) false).run Tryz.prog w= .ok v w∧
 Calls Tryz.prog 117 #[v] w (fun e w'=>e= .returned (.bool (gB (st.m k)))∧Below w.heap.size w w')∧
 ∀W,Below w.heap.size w W→Calls Tryz.prog 118 #[.int .i64 (k:Nat),v] W (XN W (mM k (st.m k))):=by
 obtain ⟨v,hr,⟨hm,rfl⟩|⟨p,b,vf,vd,hm,rfl,hs,_⟩⟩:=h.look hk
 ·refine ⟨_,hr,?_,?_⟩
  ·rw[hm];exact sH w
  ·intro W _;rw[hm];exact EC k W
 ·refine ⟨_,hr,?_,?_⟩
  ·rw[hm];exact sI hs (ho.m k p hm).2.2
  ·intro W hW;rw[hm];have hbl:=hs.blk.lt;refine ED k b p vf vd W (hs.stay (hW.block b hbl) (fun j hj=>hW.block j (hs.fr.lt j hj).2) (fun j hj=>hW.block j (hs.dr.lt j hj).2)) (ho.m k p hm).2.2 (hz k p hm)
theorem MW {st:Rc} {f sn:Nat} {l:List Nk} (h:sn=st.status):um st f sn l=(st.status,l):=by
 cases f with
 |zero=>rfl
 |succ f=>rw[um,if_pos h]
theorem La {wr:World} {b:Nat} {x y:Value} {A:Option Addr} {c:Nat} {l:List Nk} (hb1:au wr b 133 #[x,y]) (hv:wr.ownsRow w.heap.size 197 4 (.slice A l.length c) l.length (mW l)) (hB:Below w.heap.size w wr) (hbl:w.heap.size≤b) (u0 u1:Value):
 bM ((wr.setCell ⟨b,0,none⟩ u0).setCell ⟨b,1,none⟩ u1) A l.length c l∧(∀ad,A=some ad→w.heap.size≤ad.block)∧Below w.heap.size w ((wr.setCell ⟨b,0,none⟩ u0).setCell ⟨b,1,none⟩ u1)∧au ((wr.setCell ⟨b,0,none⟩ u0).setCell ⟨b,1,none⟩ u1) b 133 #[u0,u1]:=by
 have h1:au (wr.setCell ⟨b,0,none⟩ u0) b 133 #[u0,y]:=by simpa using hb1.av 0 u0
 have h2:au ((wr.setCell ⟨b,0,none⟩ u0).setCell ⟨b,1,none⟩ u1) b 133 #[u0,u1]:=by simpa using h1.av 1 u1
 have v1:=ownsRow_setCell_other (a:=⟨b,0,none⟩) hv (gG hv hb1 (by decide)) u0;have v2:=ownsRow_setCell_other (a:=⟨b,1,none⟩) v1 (gG v1 h1 (by decide)) u1;obtain ⟨A',c',e,hN,hf⟩:=bM.cB v2;cases e;exact ⟨hN,fun ad e=>(hf ad e).1,(hB.setCell (p:=⟨b,0,none⟩) hbl u0).setCell (p:=⟨b,1,none⟩) hbl u1,h2⟩
set_option maxRecDepth 100000 in
set_option maxHeartbeats 4000000 in
theorem GY (h:gI w T g M n c st vo) (ho:dP st) (hz:sU st):
 Calls Tryz.prog 81 #[.pointer (some ⟨g,0,none⟩)] w (afR w (uo st)):=by
 obtain ⟨i0,hi,hz0,hz1,hz2⟩:=qw;obtain ⟨R,hR⟩:∃R,R=uo st:=⟨_,rfl⟩
 rw[←hR];have hB0:=(Below.refl w.heap.size w).alloc (aN) (.cells #[.int .i64 0,.slice none 0 0] 133);have hb0:=au.new w 133 #[.int .i64 0,.slice none 0 0];have hsz0:=World.size_alloc w (.cells #[.int .i64 0,.slice none 0 0] 133);have hno:=nE (h.alloc (.cells #[.int .i64 0,.slice none 0 0] 133));have J2:=ah hno;have HH:=ah h;have HO:=ah ho;have HZ:=ah hz;have HR:=ah hR;have hgl:=h.blk.lt;obtain ⟨y3,y4,y7,y8,y9,AU,PU,sP,y13,CG,IA,wS,Pf,Eg⟩:=h.cells;have hn1:=ho.n1;have hn2:=ho.n2;clear y3 y4 AU PU sP y13 CG IA wS Pf Eg hno h ho hz hR hb0 hsz0 hB0;go_enter Tryz.func81,Tryz.ntmps81;go_wp2_with fail;refine J2.out.mono ?_;rintro e1 w1 ⟨rfl,rfl⟩;go_wp2_with fail;have hb1:=(au.new w 133 #[.int .i64 0,.slice none 0 0]).alloc (.cells #[.int .i64 (st.status:Nat),.slice none 0 0] 133);have hb2:=au.new (w.alloc (.cells #[.int .i64 0,.slice none 0 0] 133)) 133 #[.int .i64 (st.status:Nat),.slice none 0 0];rw[World.size_alloc] at hb2;have RV:Below w.heap.size w ((w.alloc (.cells #[.int .i64 0,.slice none 0 0] 133)).alloc (.cells #[.int .i64 (st.status:Nat),.slice none 0 0] 133)):=((Below.refl _ w).alloc (aN) _).alloc (by simp) _;have Rl:(st.status+1024-st.next)%1024≤1024:=by omega
 go_loopg [5] 1024 (fun gk s5 wr=>∃(sn:Nat) (l:List Nk) (v:Value),s5= .int .i64 (sn:Nat)∧sn≤1023∧R=um st gk sn l∧l.length≤512∧(st.status+1024-sn)%1024≤gk∧au wr w.heap.size 133 #[.int .i64 0,.slice none 0 0]∧
  au wr (w.heap.size+1) 133 #[.int .i64 (st.status:Nat),v]∧wr.ownsRow w.heap.size 197 4 v l.length (mW l)∧Below w.heap.size w wr)
 case atStart=>exact ⟨st.next,[],_,rfl,hn1,HR.out,by simp,Rl,hb1,hb2,World.ownsRow_nil _ _ _ _,RV⟩
 case round=>
  clear hb1 hb2 RV Rl y7 y8 y9;obtain ⟨sn,l,v,rfl,hsn,hr,hl,Rl,hb1,hb2,hv,hB⟩:=hrel;obtain ⟨Av,cv,rfl,hNv,iw⟩:=bM.cB hv;have hA:=HH.out.below hB;have x9:=hA.cells.2.2.2.2.1;have x7:=hA.cells.2.2.1;by_cases hs:sn=st.status
  ·subst hs;rw[MW rfl] at hr;have c0:=hb2.cell 0;have c1:=hb2.cell 1;have d0:=hb1.frozen 0;have d1:=hb1.frozen 1;have d2:=hb1.cell 0;have d3:=hb1.cell 1;simp at c0 c1 d2 d3;obtain ⟨f1,f2,f3,f4⟩:=La (w:=w) hb1 hv hB (aN) (.int .i64 (st.status:Nat)) (.slice Av l.length cv);have F1:=ah f1;have F2:=ah f2;have F3:=ah f3;have F4:=ah f4;clear f1 f2 f3 f4 hb1 hb2 hv hB hA hNv iw x7;go_wp2_with fail;have q0:=F4.out.cell 0;have q1:=F4.out.cell 1;simp at q0 q1;refine bodyPost_ret (v:= .tuple #[.agg #[.int .i64 (st.status:Nat),.slice Av l.length cv],.int .i64 0]) ?_ rfl ?_
   ·simp[results,Tryz.results81,go_sem,q0,q1]
   ·rw[hr];exact ⟨Av,cv,rfl,F1.out,F2.out,F3.out⟩
  ·obtain ⟨f,rfl⟩:∃f,gk=f+1:=⟨gk-1,by omega⟩
   have hne:¬((sn:Int)=(st.status:Int)):=by omega
   have XQ:(st.status+1024-fJ sn)%1024≤f:=by unfold fJ;omega
   have hup:fJ sn≤1023:=by unfold fJ;omega
   have hand:bits BinOp.and IntKind.i64 ((sn:Int)+1) 1023=((fJ sn:Nat):Int):=by rw[qj];unfold fJ;omega
   obtain ⟨v,hlk,hcm,hent⟩:=hA.entry HO.out HZ.out hsn;have hel:(mM sn (st.m sn)).length≤40000:=Qj fun p hp=>⟨(HO.out.m sn p hp).2.2,HZ.out sn p hp⟩
   have HCM:=ah hcm;have HB:=ah hB;have HUP:=ah hup;have HGK:=ah XQ;cases hcp:gB (st.m sn) with
   |true=>
    rw[hcp] at HCM;rw[MS hs hcp] at hr;have HRR:=ah hr;have HV:=ah hv;have HB1:=ah hb1;have HB2:=ah hb2;clear hcm hent hr Rl XQ hup hcp hB hA hv hb1 hb2 hel hNv iw;generalize fJ sn=q at*;go_wp2_with fail;refine HCM.out.mono ?_;rintro e1 w1 ⟨rfl,hb1⟩;go_wp2
    go_roundg f
    case measure=>omega
    case rel=>exact ⟨q,l,_,rfl,HUP.out,HRR.out,hl,HGK.out,HB1.out.below hb1 HB1.out.lt,HB2.out.below hb1 HB2.out.lt,own_below HV.out hb1 (aN),HB.out.trans (hb1.mono HB.out.size)⟩
   |false=>
    rw[hcp] at HCM;have abn:=ah hent;clear hcm hent;have HV:=ah hv;have HB1:=ah hb1;have HB2:=ah hb2;have HHS:=ah hs;have HCP:=ah hcp;have HRR:=ah hr;clear hv hb1 hb2 hs hcp hr hB hA hNv iw Rl XQ hup;go_wp2_with fail;refine HCM.out.mono ?_;rintro e1 w1 ⟨rfl,hb1⟩;have HBa:=ah hb1;clear hb1 HCM;go_wp2_with fail;refine (abn.out w1 HBa.out).mono ?_;rintro e2 w2 ⟨v2,rfl,hv2,hb2⟩;obtain ⟨A2,c2,rfl,V5,_⟩:=bM.cB hv2;have hb2':Below wr.heap.size wr w2:=HBa.out.trans (hb2.mono HBa.out.size);have b1:=HB1.out.below hb2' HB1.out.lt;have b2:=HB2.out.below hb2' HB2.out.lt;have v2:=own_below HV.out hb2' (aN);have BB:=HB.out.trans (hb2'.mono HB.out.size);have HRW:=ah (HH.out.below BB);have c0:=b2.cell 0;have c1:=b2.cell 1;have d0:=b2.frozen 0;have d1:=b2.frozen 1;simp at c0 c1;by_cases hfl:512<l.length+(mM sn (st.m sn)).length
    ·have hr:=HRR.out;rw[MU HHS.out HCP.out hfl] at hr;have dd:decide ((512:Int)<(l.length:Int)+((mM sn (st.m sn)).length:Int))=true:=decide_eq_true (by omega);generalize (mM sn (st.m sn)).length=N at*;have b2':au (w2.setCell ⟨w.heap.size+1,0,none⟩ (.int .i64 (sn:Nat))) (w.heap.size+1) 133 #[.int .i64 (sn:Nat),.slice Av l.length cv]:=by simpa using b2.av 0 (.int .i64 (sn:Nat))
     have b1':=b1.far (p:=⟨w.heap.size+1,0,none⟩) (by simp) (.int .i64 (sn:Nat));have v2':=ownsRow_setCell_other (a:=⟨w.heap.size+1,0,none⟩) v2 (gG v2 b2 (by decide)) (.int .i64 (sn:Nat));have BB':=BB.setCell (p:=⟨w.heap.size+1,0,none⟩) (by simp) (.int .i64 (sn:Nat));obtain ⟨f1,f2,f3,f4⟩:=La (w:=w) b1' v2' BB' (aN) (.int .i64 (sn:Nat)) (.slice Av l.length cv);have e0:=b2'.cell 0;have e1:=b2'.cell 1;have e2:=b1'.frozen 0;have e3:=b1'.frozen 1;have e4:=b1'.cell 0;have e5:=b1'.cell 1;simp at e0 e1 e4 e5;have F1:=ah f1;have F2:=ah f2;have F3:=ah f3;have F4:=ah f4;clear f1 f2 f3 f4 b1 b2 v2 BB b1' b2' v2' BB' hb2 hb2' hv2 V5;go_wp2_with fail;have q0:=F4.out.cell 0;have q1:=F4.out.cell 1;simp at q0 q1;refine bodyPost_ret (v:= .tuple #[.agg #[.int .i64 (sn:Nat),.slice Av l.length cv],.int .i64 0]) ?_ rfl ?_
     ·simp[results,Tryz.results81,go_sem,q0,q1]
     ·rw[hr];exact ⟨Av,cv,rfl,F1.out,F2.out,F3.out⟩
    ·have hr:=HRR.out;rw[MV HHS.out HCP.out hfl] at hr;have dd:decide ((512:Int)<(l.length:Int)+((mM sn (st.m sn)).length:Int))=false:=decide_eq_false (by omega);obtain ⟨E,hE⟩:∃E,mM sn (st.m sn)=E:=⟨_,rfl⟩
     rw[hE] at hr dd V5 hfl hel ⊢;have Xo:=ah hr;have Pm:=ah v2;have HN2:=ah V5;have abp:=ah b1;have abq:=ah b2;have yV:=ah BB;clear hr b1 b2 v2 BB hb2 hb2' hv2 V5 HRR HB1 HB2 HV HBa abn;generalize fJ sn=q at*;go_wp2_with (at_builtin;refine gF _ rfl _ _ 131 rfl w.heap.size 197 i0 (.agg #[.int .i64 0,.bool false,.int .i64 0,.int .i64 0]) 32 sM hi hz0 hz1 hz2 rfl (.slice Av l.length cv) l.length (mW l) rfl Pm.out A2 E.length c2 E rfl HN2.out ?c3 ?c4 ?c5 ?_)
     case c3=>unfold maxLen;omega
     case c4=>omega
     case c5=>exact yV.out.size
     intro v5 w5 hown5 bR;have zW:w5.ownsRow w.heap.size 197 4 v5 (l++E).length (mW (l++E)):=by rw[uK,List.length_append];exact hown5
     have hvb:∀j,(Value.slice Av l.length cv).ownBlock=some j→w.heap.size≤j:=fun j e=>(Pm.out.lt j e).1
     have b2:=abq.out.grown bR (fun e=>gG Pm.out abq.out (by decide) e.symm);have b1:=abp.out.grown bR (fun e=>gG Pm.out abp.out (by decide) e.symm);have BB:=yV.out.grown bR yV.out.size hvb;have hl5:(l++E).length≤512:=by rw[List.length_append];omega
     obtain ⟨A5,c5,rfl,_,_⟩:=bM.cB zW;obtain ⟨NL,hNL⟩:∃NL,(l++E).length=NL:=⟨_,rfl⟩
     rw[hNL] at zW hl5 ⊢;have HNL:=ah hNL;clear hNL;have d0:=b2.frozen 0;have d1:=b2.frozen 1;have d2:=b2.cell 1;simp at d2;have b2':au (w5.setCell ⟨w.heap.size+1,1,none⟩ (.slice A5 NL c5)) (w.heap.size+1) 133 #[.int .i64 (st.status:Nat),.slice A5 NL c5]:=by simpa using b2.av 1 (.slice A5 NL c5)
     have b1':=b1.far (p:=⟨w.heap.size+1,1,none⟩) (by simp) (.slice A5 NL c5);have v5':=ownsRow_setCell_other (a:=⟨w.heap.size+1,1,none⟩) zW (gG zW b2 (by decide)) (.slice A5 NL c5);have BB':=BB.setCell (p:=⟨w.heap.size+1,1,none⟩) (by simp) (.slice A5 NL c5);have G1:=ah b1';have G2:=ah b2';have G3:=ah v5';have G4:=ah BB';have G5:=ah hl5;clear b1 b2 BB b1' b2' v5' BB' hown5 zW bR hvb hl5 c0 c1;go_wp2_with fail
     go_roundg f
     case measure=>omega
     case rel=>exact ⟨q,l++E,_,rfl,HUP.out,Xo.out,by rw[HNL.out];exact G5.out,HGK.out,G1.out,G2.out,by rw[HNL.out];exact G3.out,G4.out⟩
end
end
section
structure Y7 (aK:List (List UInt8)) (N:Nat) (pu:Nat→Ou) (left:Nat→List (List UInt8)) (sent:Nat→Nat):Prop where
 n:N≤511
 l0:left 0=aK
 s0:sent 0=0
 sn:∀i,i<N→(pu i).sn=i
 s:∀i,i<N→(pu i).s=decide (sent i=0)
 ne:∀i,i<N→(pu i).ps≠ []
 each:∀i,i<N→∀q∈(pu i).ps,1≤q.length∧q.length≤1000
 tot:∀i,i<N→aG (pu i)≤32767
 len:∀s∈aK,s.length≤1000
 step:∀i,i<N→∃g,left i=g++left (i+1)∧pZ (((left i).headD []).take (sent i)) (decide (0<sent i)) (pu i).ps (pu i).e=(g,((left (i+1)).headD []).take (sent (i+1)),decide (0<sent (i+1)))
def Nb (x:Ou):List (Fl × UInt8):=gZ x.s x.e x.ps.length 0 x.ps
theorem Ho (x:Ou):(Nb x).length=aG x:=sG _ _ _ _ _
def acs (aK:List (List UInt8)) (left:Nat→List (List UInt8)) (i:Nat):List (List UInt8):=aK.take (aK.length-(left i).length)
structure Piece (x:Ou) (a:kP):Prop where
 sn:a.sn=x.sn
 pos:1≤aj a.ps
 le:nD a≤aG x
 fin:FU a=true↔nD a=aG x
 eq:∀(j:Nat) z,(gZ a.s a.e a.ps.length 0 a.ps)[j]? =some z→(Nb x)[a.off+j]? =some z
section
variable {aK:List (List UInt8)} {N:Nat} {pu:Nat→Ou} {left:Nat→List (List UInt8)} {sent:Nat→Nat}
theorem Y7.suffix (h:Y7 aK N pu left sent):∀i,i≤N→∃d,aK=d++left i
 |0,_=>⟨[],by rw[h.l0];rfl⟩
 |i+1,hi=>by
  obtain ⟨d,hd⟩:=Y7.suffix h i (by omega);obtain ⟨g,hg,_⟩:=h.step i (by omega);exact ⟨d++g,by rw[hd,hg,List.append_assoc]⟩
theorem Y7.done (h:Y7 aK N pu left sent) {i:Nat} (hi:i≤N):aK=acs aK left i++left i:=by
 obtain ⟨d,hd⟩:=h.suffix i hi;unfold acs;rw[hd];simp
def acu (left:Nat→List (List UInt8)) (sent:Nat→Nat) (i:Nat) (op:List UInt8) (sm:Bool):Prop:=
 sm=decide (0<sent i)∧(sm=true→op=((left i).headD []).take (sent i))
structure Lf (x:Ou) (p:Sp):Prop where
 agr:ZY (Nb x) (p.fl,p.da)
 size:(p.size=none∧p.fl.length<aG x)∨(p.size=some (aG x)∧p.fl.length=aG x)
theorem Qy (k:Nat) (l:List Fl):(jY k l).length=max l.length k:=by simp[jY];omega
theorem Lf.take {x:Ou} {p:Sp} (h:Lf x p) {a:kP} (ha:Piece x a):Lf x (iH p a):=by
 have hle:=ha.le;have hal:=h.agr.le;dsimp only at hal;rw[Ho] at hal;have hw:=qO (gZ a.s a.e a.ps.length 0 a.ps) a.off (jY (nD a) p.fl,oC (nD a) p.da);refine ⟨KL _ _ _ (WC h.agr (by rw[Ho];exact hle)) ha.eq,?_⟩;have hlen:(iH p a).fl.length=max p.fl.length (nD a):=by
  unfold iH;dsimp only;rw[hw.1];exact Qy _ _
 rw[hlen];unfold iH;dsimp only;cases hf:FU a with
 |true=>
  have:=ha.fin.1 hf;rw[if_pos rfl,this];exact .inr ⟨rfl,by omega⟩
 |false=>
  have hne:nD a≠aG x:=fun e=>by rw[ha.fin.2 e] at hf;cases hf
  rw[if_neg (by simp)];rcases h.size with ⟨e,hl⟩|⟨e,hl⟩
  ·exact .inl ⟨e,by omega⟩
  ·exact .inr ⟨e,by omega⟩
structure Rx (aK:List (List UInt8)) (N:Nat) (pu:Nat→Ou) (left:Nat→List (List UInt8)) (sent:Nat→Nat) (st:Rc):Prop where
 nx:st.next≤N
 m:∀k p,st.m k=some p→st.next≤k∧k<N∧k<st.high∧Lf (pu k) p
 op:acu left sent st.next st.op st.sm
 s1:st.next≤st.status
 s2:st.status≤N
 sc:gB (st.m st.status)=false
 h1:st.next≤st.high
 h2:st.high≤N
 tr:st.ro=true→st.jM≤st.high
def Has (st:Rc) (k:Nat):Prop:=k<st.next∨gB (st.m k)=true
theorem Rx.none_ {st:Rc} (h:Rx aK N pu left sent st) {k:Nat} (hk:N≤k):st.m k=none:=by
 cases hm:st.m k with
 |none=>rfl
 |some p=>have:=(h.m k p hm).2.1;omega
end
end
section
open Go.RowKit Go.Shelf
attribute [local go_sem] Oper.semAt_some
section
variable {w w':World} {v:Value}
end
end
end Go.Proofs.YtbhiklnljiehiaaGreat
