/- Pending: the PDUs with pending ranges. missing: the ranges of a PDU that a report gives as missing. The iterator of Pending by number; Buffered. Status: an entry beyond the acknowledged PDUs. -/
import Derived.Test.YtiecgfahidpldaaGreatM3ae
import Derived.Test.YtiecgfahidpldaaGreatM3ah
import Derived.Test.YtiecgfahidpldaaGreatM3aj
import Derived.Test.YtiecgfahidpldaaGreatM3al
import Derived.Test.YtiecgfahidpldaaGreatM3am
import Derived.Deep.DeepCutAuto
import Derived.Deep.RegionWith
import Derived.BigRegion
import Derived.Deep.RegionHeld3
import Derived.BigQuiet
namespace Go.Proofs.YtiecgfahidpldaaGreat
section
open Go.RowKit Go.Shelf
attribute [local go_sem] Oper.semAt_some
def iW (l:List Ou):List (Nat × Nat):=(l.filter (fun x=>decide (0<eu x.pend))).map (fun x=>(x.sn,eu x.pend))
theorem Jn {l:List Ou} {k:Nat} {x:Ou} (hx:l[k]? =some x):iW (l.take (k+1))=iW (l.take k)++(if 0<eu x.pend then [(x.sn,eu x.pend)] else []):=by
 unfold iW;rw[List.take_add_one,hx];simp only[Option.toList,List.filter_append,List.map_append]
 congr 1
 by_cases h:0<eu x.pend
 ·simp[h]
 ·simp[h]
theorem Lj (l:List Ou):(iW l).length≤l.length:=by
 unfold iW;rw[List.length_map];exact List.length_filter_le _ _
theorem FY {l:List (Nat × Nat)} {k:Nat} {r:Nat × Nat} (hr:l[k]? =some r):eu (l.take (k+1))=eu (l.take k)+(r.2+1-r.1):=by
 unfold eu;rw[List.take_add_one,hr];simp
theorem Cv {l:List (Nat × Nat)} {s:Nat} (h:∀r∈l,r.1≤r.2∧r.2<s):eu l≤l.length*s:=by
 induction l with
 |nil=>simp[eu]
 |cons r t ih=>
  have h1:=h r (by simp);have h2:=ih (fun q hq=>h q (by simp[hq]));simp only[eu,List.map_cons,List.sum_cons,List.length_cons] at*;rw[Nat.succ_mul];omega
theorem FZ (l:List (Nat × Nat)) (k:Nat):eu (l.take k)≤eu l:=by
 have e:eu l=eu (l.take k)+eu (l.drop k):=by
  unfold eu;rw[←List.sum_append,←List.map_append,List.take_append_drop]
 omega
theorem Oi {w:World} {ar:Addr} {j:Nat} {u:Value} (h:w.cell? (ar.add (j*2+1))=some u):w.cell? ⟨(ar.add (j*2)).block,(ar.add (j*2)).off+1,none⟩=some u:=by
 rcases Nat.eq_zero_or_pos j with rfl|hj
 ·simpa[Addr.add] using h
 ·have hne:j*2≠0:=by omega
  simpa[Addr.add,hne,Nat.add_assoc] using h
theorem World.ownsRow.drew' {w:World} {b:Nat} {t:TypeId} {s:Nat} {v:Value} {n:Nat} {xs:List Value} (h:w.ownsRow b t s v n xs):w.drew.ownsRow b t s v n xs:=h
section
variable {D F:Nat→Prop} {g:Nat} {c:Cf} {st:Sd} {vq vo:Value} {vs os:List Value} {w:World}
def Zf (w:World) (l:List (Nat × Nat)) (e:Ending) (w':World):Prop:=
 ∃b A cc,e= .returned (.func (.func 142) #[] #[.pointer (some ⟨b,0,none⟩)])∧aA w' b 95 #[.slice A l.length cc]∧cZ w' A l.length cc l∧w.heap.size≤b∧(∀ad,A=some ad→w.heap.size≤ad.block∧ad.block<w'.heap.size)∧Below w.heap.size w w'
set_option maxRecDepth 10000 in
set_option maxHeartbeats 1000000 in
theorem F5 (h:dY w D F g c st vq vs vo os) (ht:1≤c.timer) (hw:st.out.length≤512) (ho:∀x∈st.out,AP x):
 Calls Tryz.prog 100 #[.pointer (some ⟨g,0,none⟩)] w (Zf w (iW st.out)):=by
 have Zg:=Lib.hid (aA.new w 95 #[.slice none 0 0]);have HB0:=Lib.hid ((Below.refl w.heap.size w).alloc (Nat.le_refl _) (.cells #[.slice none 0 0] 95));have HZ0:=Lib.hid (show (w.alloc (.cells #[.slice none 0 0] 95)).heap.size=w.heap.size+1 by simp);obtain ⟨Ao,co,rfl,hso⟩:=h.Ni;have TA:=hso.cap;have Y0:=hso.mx;obtain ⟨r,hr⟩:∃r:Int,(if st.failed=true then 8 else 0)=r:=⟨_,rfl⟩
 have dr:(r !=1)=true:=by rw[←hr];cases st.failed<;>rfl
 have HH:=Lib.hid h;have HOO:=Lib.hid ho;have HR:=Lib.hid hr;obtain ⟨i0,hi,hz0,hz1,hzb⟩:=nT;clear h hso hr ho;go_enter Tryz.func100,Tryz.ntmps100;go_wp2_with fail;generalize w.alloc (.cells #[.slice none 0 0] 95)=w0 at*;have P9:=Lib.hid (HH.out.below HB0.out);have oF:=Lib.hid (gL P9.out ht);rw[HR.out] at oF;refine oF.out.mono ?_;rintro e1 w1 ⟨rfl,rfl⟩;have rP:=P9.out.blk.cell 12;simp[dh] at rP;go_wp2_with fail;clear oF rP;have aep:w.heap.size<w0.heap.size:=Zg.out.lt
 go_loopw [17] (fun i wr=>∃k:Nat,k≤st.out.length∧i= .int .i64 k∧∃v,wr.ownsRow w0.heap.size 99 2 v (iW (st.out.take k)).length (mV (iW (st.out.take k)))∧aA wr w.heap.size 95 #[v]∧Below w.heap.size w wr∧w0.heap.size≤wr.heap.size) (fun i _=>st.out.length-(intOf i).toNat)
 case atStart=>exact ⟨0,Nat.zero_le _,rfl,.slice none 0 0,World.ownsRow_nil _ _ _ _,Zg.out,HB0.out,Nat.le_refl _⟩
 case round=>
  obtain ⟨k,hk,rfl,v,hrow,hl,hb,hzz⟩:=hrel;obtain ⟨Av,cv,rfl,Rw,VE⟩:=cZ.cO hrow;by_cases hlt:k<st.out.length
  ·obtain ⟨x,hx⟩:∃x,st.out[k]? =some x:=⟨_,List.getElem?_eq_getElem hlt⟩
   have hA:=HH.out.below hb;obtain ⟨p,Ap,cp,vp,Ar,cr,he,ho⟩:=hA.oe k x hx;obtain ⟨A2,c2,e2,hso⟩:=hA.Ni;injection e2 with e3 e4 e5
   subst e3 e5;obtain ⟨ad,u,rfl,hbd,hu,hc⟩:=hso.get hlt;rw[he] at hu;cases hu;have Kg:=ho.blk.cell 10;simp[uN] at Kg;have hox:=HOO.out x (List.mem_of_getElem? hx);have hrl:=hox.pl;have hsz:=gV hox;have hrb:=Cv hox.pr;have akJ:eu x.pend≤1000*32767:=Nat.le_trans hrb (Nat.mul_le_mul hrl hsz.2);have VF:=Lib.hid (Jn hx);have yF:=Lib.hid (Lj (st.out.take k));have hrc:=ho.rs.cap;have hrm:=ho.rs.mx;have Xq:=Lib.hid ho.rs;have HPB:=Lib.hid ho.blk;have XE:=Lib.hid hox.pr;have HX:=Lib.hid hx;have Ll:=Lib.hid hrow;have HL:=Lib.hid hl;have HB:=Lib.hid hb;clear hA ho hso hx he hox hrb hrow hl hb e4 Rw VE
   go_upto_block 2 with (fail)
   clear hc;go_cut [6] from 21 to 38 (fun s6 wx=>s6= .int .i64 (eu x.pend:Nat)∧Below wr.heap.size wr wx)
   case first=>
    go_wp2_with fail
    go_loopw [6,26] (fun s i wq=>∃j:Nat,j≤x.pend.length∧i= .int .i64 j∧s= .int .i64 (eu (x.pend.take j):Nat)∧Below wr.heap.size wr wq) (fun _ i _=>x.pend.length-(intOf i).toNat)
    case atStart=>exact ⟨0,Nat.zero_le _,rfl,by simp[eu],Below.refl _ _⟩
    case round=>
     obtain ⟨j,hj,rfl,rfl,hbq⟩:=hrel;by_cases hjl:j<x.pend.length
     ·obtain ⟨rr,hrr⟩:∃rr,x.pend[j]? =some rr:=⟨_,List.getElem?_eq_getElem hjl⟩
      obtain ⟨ar,rfl,hab,hcl⟩:=(Xq.out.below hbq).at_ (by omega);obtain ⟨k0,k1⟩:=hcl j rr hrr;obtain ⟨h1,h2⟩:=XE.out rr (List.mem_of_getElem? hrr);have hm1:=FZ x.pend (j+1);have ht1:=FY hrr;obtain ⟨ra,rb⟩:=rr;dsimp only at k0 k1 h1 h2 ht1;generalize eu (x.pend.take j)=S at*;have hS:S+(rb+1-ra)≤1000*32767:=by omega
      have hw1:IntKind.i64.wrap ((rb:Int)-(ra:Int))=(rb:Int)-(ra:Int):=IntWalk.i64_in _ (by omega);have hw2:IntKind.i64.wrap ((rb:Int)-(ra:Int)+1)=(rb:Int)-(ra:Int)+1:=IntWalk.i64_in _ (by omega);have hw3:IntKind.i64.wrap ((S:Int)+((rb:Int)-(ra:Int)+1))=(S:Int)+((rb:Int)-(ra:Int)+1):=IntWalk.i64_in _ (by omega);have HT:=Lib.hid ht1;have XF:=Lib.hid hbq
      replace k1:=Oi k1
      clear hm1 ht1 hcl hrr hbq;go_wp2
      go_round
      case rel=>
       refine ⟨j+1,by omega,by go_num,?_,VD XF.out _⟩;rw[HT.out]
       congr 1
       omega
      case measure=>simp[intOf];omega
     ·have e:x.pend.take j=x.pend:=List.take_of_length_le (by omega);rw[e];have XF:=Lib.hid hbq;clear e hbq;go_wp2;go_meet;exact ⟨rfl,XF.out⟩
   case rest=>
   obtain ⟨rfl,hbq⟩:=hcut;have HB2:=Lib.hid (HB.out.trans (hbq.mono HB.out.size));have HL2:=Lib.hid (HL.out.below hbq HL.out.lt);have Zh:=Lib.hid (HPB.out.below hbq HPB.out.lt);have Kn:=Lib.hid (own_below Ll.out hbq (Nat.le_refl _));have hz2:w0.heap.size≤wc.heap.size:=Nat.le_trans hzz hbq.size;clear hbq Kg;generalize eu x.pend=S at*;by_cases hS:0<S
   ·have hd:decide (0<S)=true:=decide_eq_true hS;have HS:=Lib.hid hS;clear hS;go_wp2_with fail;have l0:=HL2.out.cell 0;have z0:=Zh.out.cell 0;have hll:=HL2.out.lt;have hpl:=Zh.out.lt;have hkl:=yF.out;rw[List.length_take] at hkl;simp[uN] at l0 z0;have aer:=Lib.hid (show ∀j,Value.ownBlock (.slice Av (iW (st.out.take k)).length cv)=some j→j=w.heap.size→False from fun j hj e=>by have:=(Kn.out.lt j hj).1;omega);refine bM (fun w'=>w'.cell? ⟨w.heap.size,0,none⟩=some (.slice Av (iW (st.out.take k)).length cv)∧w'.cell? ⟨p,0,none⟩=some (.int .i64 (x.sn:Nat))) [9,10] (by kernel_rfl) ?_;have hHeld:=(show (fun w'=>w'.cell? ⟨w.heap.size,0,none⟩=some (.slice Av (iW (st.out.take k)).length cv)∧w'.cell? ⟨p,0,none⟩=some (.int .i64 (x.sn:Nat))) wc.drew from ⟨l0,z0⟩);refine tkX [9,10] 0 ?_ rfl (Or.inl ⟨by rfl,?_⟩) hHeld ?_;rotate_left
    ·intro w' hSw;obtain ⟨hS1,hS2⟩:=hSw;go_simp
     try with_reducible rfl
    try simp only[Act.put,zzA,zzE,yo,UM,zzD]
    refine tkY 1 ?_ rfl (Or.inl ⟨by rfl,?_⟩) hHeld ?_;rotate_left
    ·intro w' hSw;go_simp
     try with_reducible rfl
    try simp only[Act.put,zzA,zzE,zzF,yo,UM,zzD]
    refine tkY 2 ?_ rfl (Or.inl ⟨by rfl,?_⟩) hHeld ?_;rotate_left
    ·intro w' hSw;go_simp
     try with_reducible rfl
    try simp only[Act.put,zzA,zzE,zzF,yo,UM,zzD]
    refine tkY 3 ?_ rfl (Or.inl ⟨by rfl,?_⟩) hHeld ?_;rotate_left
    ·intro w' hSw;go_simp
     try with_reducible rfl
    try simp only[Act.put,zzA,zzE,zzF,yo,UM,zzD]
    refine tkY 4 ?_ rfl (Or.inl ⟨by rfl,?_⟩) hHeld ?_;rotate_left
    ·intro w' hSw;go_simp
     try with_reducible rfl
    try simp only[Act.put,zzA,zzE,zzF,yo,UM,zzD]
    refine tkX [7,8,9,10] 5 ?_ rfl (Or.inl ⟨by rfl,?_⟩) hHeld ?_;rotate_left
    ·intro w' hSw;obtain ⟨hS1,hS2⟩:=hSw;go_simp
     try with_reducible rfl
    try simp only[Act.put,zzA,zzE,zzF,yo,UM,zzD]
    refine tkY 6 ?_ rfl (Or.inl ⟨by rfl,?_⟩) hHeld ?_;rotate_left
    ·intro w' hSw;go_simp
     try with_reducible rfl
    try simp only[Act.put,zzA,zzE,zzF,yo,UM,zzD]
    refine tkY 7 ?_ rfl (Or.inl ⟨by rfl,?_⟩) hHeld ?_;rotate_left
    ·intro w' hSw;go_simp
     try with_reducible rfl
    try simp only[Act.put,zzA,zzE,zzF,yo,UM,zzD]
    refine bu (i:=8) rfl (by kernel_rfl) (by rfl) (fun K hK=> ?_);go_simp;have hbA:=(Below.refl wc.heap.size wc).drew.alloc (by simp) (.cells #[.int .i64 (x.sn:Nat),.int .i64 (S:Nat)] 99);have q0:(wc.drew.alloc (.cells #[.int .i64 (x.sn:Nat),.int .i64 (S:Nat)] 99)).cell? ⟨w.heap.size,0,none⟩=some (.slice Av (iW (st.out.take k)).length cv):=(hbA.cell (p:=⟨w.heap.size,0,none⟩) hll).trans l0;have q1:(wc.drew.alloc (.cells #[.int .i64 (x.sn:Nat),.int .i64 (S:Nat)] 99)).cell? ⟨p,0,none⟩=some (.int .i64 (x.sn:Nat)):=(hbA.cell (p:=⟨p,0,none⟩) hpl).trans z0;refine hK _ _ (And.intro q0 q1) ?_;clear hK K hHeld;have hHeld:=(And.intro q0 q1)
    try simp only[Act.put,zzA,zzE,zzF,yo,UM,zzD]
    refine aQ (i:=9) rfl (by kernel_rfl) (by kernel_rfl) (by rfl) (fun K hK=> ?_);refine tT _ (.tmp 41) (.tmp 49) 95 rfl w0.heap.size 99 i0 (.agg #[.int .i64 0,.int .i64 0]) 16 qA hi hz0 hz1 hzb rfl (.slice Av (iW (st.out.take k)).length cv) _ _ rfl (Kn.out.drew'.alloc _) (some ⟨wc.heap.size,0,none⟩) 1 1 [(x.sn,S)] rfl (Jk wc.drew (x.sn,S)) (by unfold maxLen;omega) (by omega) (by simp;omega) ?_;intro v5 w5 hown5 bF hv5;have hfm:w5.ownsRow w0.heap.size 99 2 v5 (iW (st.out.take k)++ [(x.sn,S)]).length (mV (iW (st.out.take k)++ [(x.sn,S)])):=by
     rw[List.length_append,tQ];exact hown5
    obtain ⟨A5,c5,rfl,-,-⟩:=cZ.cO hfm;have hL5:aA w5 w.heap.size 95 #[.slice Av (iW (st.out.take k)).length cv]:=(HL2.out.drew.alloc _).grown bF (fun e=>aer.out _ e.symm rfl);have q5:=hL5.cell 0;have r5:=hL5.frozen 0;simp at q5;have HFM:=Lib.hid hfm;have HL5:=Lib.hid hL5;have Hw:=Lib.hid ((VD HB2.out.drew (.cells #[.int .i64 (x.sn:Nat),.int .i64 (S:Nat)] 99)).grown bF (by have:=HB2.out.size;simp;omega) (fun j hj=>Nat.le_of_lt (Nat.lt_of_lt_of_le aep (Kn.out.lt j hj).1)));have yQ:w0.heap.size≤w5.heap.size:=by have:=bF.size;simp at this;omega
    clear hown5 bF hv5 hfm hL5;refine hK _ _ ?_;clear hK K
    try simp only[Act.put,zzA,zzE,zzF,yo,UM,zzD]
    refine aQ (i:=10) rfl (by kernel_rfl) (by kernel_rfl) (by rfl) (fun K hK=> ?_);go_simp;refine hK _ _ ?_;clear hK K
    try simp only[Act.put,zzA,zzE,zzF,yo,UM,zzD]
    refine aU (by kernel_rfl) ?_ _;go_wp2
    go_round
    case rel=>
     refine ⟨k+1,by omega,by go_num,.slice A5 ((iW (st.out.take k)).length+1) c5,?_,?_,?_,?_⟩
     ·rw[VF.out,if_pos HS.out];have hq:=HFM.out;simp only[List.length_append,List.length_cons,List.length_nil,Nat.zero_add] at hq ⊢;exact ownsRow_setCell_other hq (fun e=>by have:=(hq.lt _ e).1;have e3:(⟨w.heap.size,0,none⟩:Addr).block=w.heap.size:=rfl;omega) _
     ·simpa using HL5.out.aC 0 (.slice A5 ((iW (st.out.take k)).length+1) c5)
     ·exact Hw.out.setCell (p:=⟨w.heap.size,0,none⟩) (Nat.le_refl _) _
     ·simpa[World.setCell] using yQ
    case measure=>simp[intOf];omega
   ·have hd:decide (0<S)=false:=decide_eq_false hS;have HS:=Lib.hid hS;clear hS;go_wp2
    go_round
    case rel=>
     refine ⟨k+1,by omega,by go_num,_,?_,HL2.out,HB2.out,hz2⟩;rw[VF.out,if_neg HS.out,List.append_nil];exact Kn.out
    case measure=>simp[intOf];omega
  ·have e:st.out.take k=st.out:=List.take_of_length_le (by omega);rw[e] at hrow hl Rw;have l0:=hl.cell 0;simp at l0;have HL:=Lib.hid hl;have Hy:=Lib.hid Rw;have HB:=Lib.hid hb;have HBL:=Lib.hid VE;clear e hl Rw hb VE hrow;go_wp2;go_ret;exact ⟨w.heap.size,Av,cv,rfl,HL.out,Hy.out,Nat.le_refl _,fun ad e=>⟨by have:=(HBL.out ad e).1;omega,(HBL.out ad e).2⟩,HB.out⟩
end
end
section
open Go.RowKit Go.Shelf
attribute [local go_sem] Oper.semAt_some
theorem Ry (y:Nk) (h:0≤(Lh y).1∧0≤(Lh y).2):(Lh y).1=((fC y).1:Int)∧(Lh y).2=((fC y).2:Int):=by
 unfold Lh fC at*;split
 ·rename_i hp;simp only[hp,if_true] at h;dsimp only;omega
 ·dsimp only;omega
def mI (x:Ou) (fl:List Nk) (k:Nat):List (Nat × Nat):=(fl.take k).foldl (eX (ay x)) []
theorem Cw (x:Ou) (fl:List Nk):mI x fl 0= []:=by simp[mI]
theorem Cx (x:Ou) (fl:List Nk) (k:Nat) (y:Nk) (h:fl[k]? =some y):mI x fl (k+1)=eX (ay x) (mI x fl k) y:=by
 unfold mI;rw[List.take_add_one,h];simp
theorem Oj (x:Ou) (dz:List Nk):mI x (dz.filter (eF x.sn)) (dz.filter (eF x.sn)).length=bK dz x:=by
 unfold mI bK eF;rw[List.take_length]
theorem Jo (l:List (Nat × Nat)) (x:Nat × Nat):(fM l x).length≤l.length+1:=by
 unfold fM;cases hl:l.getLast? with
 |none=>simp
 |some y=>
  dsimp only;split
  ·simp
  ·simp
theorem Lm {l:List (Nat × Nat)} {x:Nat × Nat} {m:Nat} (h:∀r∈l,r.2<m) (hx:x.2<m):∀r∈fM l x,r.2<m:=by
 unfold fM;cases hl:l.getLast? with
 |none=>simpa using hx
 |some y=>
  dsimp only;split
  ·intro r hr;rcases List.mem_append.1 hr with hr|hr
   ·exact h r (List.dropLast_subset l hr)
   ·simp at hr;subst hr;exact hx
  ·intro r hr;rcases List.mem_append.1 hr with hr|hr
   ·exact h r hr
   ·simp at hr;subst hr;exact hx
theorem Ko (x:Ou) (fl:List Nk) (hs:ay x≤100000):∀k,(mI x fl k).length≤k∧∀r∈mI x fl k,r.2<1000000
 |0=>by rw[Cw];simp
 |k+1=>by
  obtain ⟨h1,h2⟩:=Ko x fl hs k;cases hy:fl[k]? with
  |none=>
   have e:mI x fl (k+1)=mI x fl k:=by unfold mI;rw[List.take_add_one,hy];simp
   rw[e];exact ⟨by omega,h2⟩
  |some y=>
   rw[Cx x fl k y hy];unfold eX;split
   ·exact ⟨by omega,h2⟩
   ·exact ⟨by have:=Jo (mI x fl k) ((fC y).1,min (fC y).2 (ay x-1));omega,Lm h2 (by dsimp only;omega)⟩
structure XG (wc:World) (lc:Nat) (x:Ou) (fl:List Nk) (k:Nat) (W:World):Prop where
 row:∃v,W.ownsRow wc.heap.size 99 2 v (mI x fl k).length (mV (mI x fl k))∧aA W lc 95 #[v]
 kp:Kept (fun j _=>j=lc) wc W
theorem XG.far {wc:World} {lc:Nat} {x:Ou} {fl:List Nk} (hlc:lc<wc.heap.size):FT wc.heap.size (XG wc lc x fl):=by
 refine ⟨fun k A B row hs hg hr=> ?_,fun k A B hs hb=> ?_⟩
 ·obtain ⟨⟨v,hv,hb⟩,hk⟩:=hs;refine ⟨⟨v,hv.kept hg ?_,hb.grown hg ?_⟩,hk.grown hg (fun j e o ho=> ?_)⟩
  ·rcases hv.2 with ⟨rfl,_⟩|⟨q,cap,cur,rfl,h1,h2,_⟩
   ·exact .inl rfl
   ·refine .inr (fun e=> ?_);obtain ⟨h3,o,h4,h5⟩:=hr q e.symm;rw[h2] at h4;cases h4;cases h5
  ·intro e;have:=(hr lc e.symm).1;omega
  ·have h1:=(hr j e).1;have h2:=(Array.getElem?_eq_some_iff.1 ho).1;omega
 ·obtain ⟨⟨v,hv,hbk⟩,hk⟩:=hs;refine ⟨⟨v,hv.kept (row:=none) ⟨hb.os,hb.tape,hb.output,hb.size,fun k hk _=>hb.block k hk⟩ ?_,hbk.below hb hbk.lt⟩,hk.trans (Kept.fq hb)⟩;cases h:v.ownBlock with
  |none=>exact .inl rfl
  |some j=>exact .inr (by simp)
section
variable {D F:Nat→Prop} {w:World}
set_option maxRecDepth 100000 in
set_option maxHeartbeats 4000000 in
theorem D5 (aI:Int) (dz:List Nk) (A:Option Addr) (n c:Nat) (hN:bP w A n c dz) (hn:n≤1000) (p:Nat) (x:Ou) {Ap Ar:Option Addr} {cp cr:Nat} {vp:List Value} (hO:gK w D F p x Ap cp vp Ar cr)
 (hv:∀y∈dz,0≤(Lh y).1∧0≤(Lh y).2) (hsz:ay x≤100000) (h1:1≤ay x):
 Calls Tryz.prog 58 #[.agg #[.int .i64 aI,.slice A n c],.pointer (some ⟨p,0,none⟩)] w (xG w (bK dz x)):=by
 have TK:=((hN.alloc (.cells #[.int .i64 aI,.slice A n c] 42)).alloc (.cells #[.pointer (some ⟨p,0,none⟩)] 118)).alloc (.cells #[.slice none 0 0] 95);have hr0:=((aA.new w 42 #[.int .i64 aI,.slice A n c]).alloc (.cells #[.pointer (some ⟨p,0,none⟩)] 118)).alloc (.cells #[.slice none 0 0] 95);have hx0:=(aA.new (w.alloc (.cells #[.int .i64 aI,.slice A n c] 42)) 118 #[.pointer (some ⟨p,0,none⟩)]).alloc (.cells #[.slice none 0 0] 95);have hl0:=aA.new ((w.alloc (.cells #[.int .i64 aI,.slice A n c] 42)).alloc (.cells #[.pointer (some ⟨p,0,none⟩)] 118)) 95 #[.slice none 0 0];have hB0:Below w.heap.size w (((w.alloc (.cells #[.int .i64 aI,.slice A n c] 42)).alloc (.cells #[.pointer (some ⟨p,0,none⟩)] 118)).alloc (.cells #[.slice none 0 0] 95)):=(((Below.refl _ w).alloc (Nat.le_refl _) _).alloc (by simp) _).alloc (by simp;omega) _;have hs0:(((w.alloc (.cells #[.int .i64 aI,.slice A n c] 42)).alloc (.cells #[.pointer (some ⟨p,0,none⟩)] 118)).alloc (.cells #[.slice none 0 0] 95)).heap.size=w.heap.size+3:=by simp
 simp only[World.size_alloc] at hx0 hl0;have HP0:=Lib.hid (hO.blk.below hB0 hO.blk.lt);have yF:=Lib.hid hO.blk.lt;have HN:=Lib.hid TK;have HR0:=Lib.hid hr0;have HX0:=Lib.hid hx0;have Zg:=Lib.hid hl0;have HB0:=Lib.hid hB0;have Qa:=Lib.hid hs0;clear TK hr0 hx0 hl0 hB0 hs0 hN hO;refine (callsIn_wide (n:=5)).1 ?_;refine callsIn_of_wp_marks Tryz.func58 rfl trivial ?_ rfl;simp only[Tryz.ntmps58,List.size_toArray,List.length_cons,List.length_nil,Nat.reduceAdd,Nat.reduceSub,Array.replicate_succ,Array.replicate_zero,List.push_toArray,List.append_toArray,List.nil_append,List.cons_append];refine (wpIn_wide (n:=5)).2 ?_;go_wp2_with fail;generalize ((w.alloc (.cells #[.int .i64 aI,.slice A n c] 42)).alloc (.cells #[.pointer (some ⟨p,0,none⟩)] 118)).alloc (.cells #[.slice none 0 0] 95)=w3 at*;have z0:=HR0.out.cell 0;have z1:=HR0.out.cell 1;have z2:=HX0.out.cell 0;have z3:w3.cell? ⟨p,0,none⟩=some (.int .i64 (x.sn:Nat)):=HP0.out.cell 0;simp at z0 z1 z2;have HRG:=Lib.hid (fun (W:World) (hW:Below w3.heap.size w3 W)=>FV aI x.sn A n c dz W (HN.out.below hW) (by omega));go_cut [13] from 7 to 14 (fun s13 wx=>∃g b A' c',s13= .func (.func 148) #[] #[.pointer (some ⟨g,0,none⟩),.pointer (some ⟨b,0,none⟩)]∧
  aA wx g 40 #[.slice A' n c']∧aA wx b 3 #[.int .i64 (x.sn:Nat)]∧bP wx A' n c' dz∧(∀ad,A'=some ad→w3.heap.size≤ad.block∧ad.block<wx.heap.size)∧w3.heap.size≤g∧w3.heap.size≤b∧Below w3.heap.size w3 wx)
 case first=>
  refine wp_region_noPanic ?_
  go_region_with (go_at_call 108;refine (HRG.out _ (by first|exact Below.refl _ _|exact (Below.refl _ _).drew|exact (Below.refl _ _).drewN _)).mono ?_;rintro e w5 ⟨g,b,A',c',rfl,k1,k2,k3,k4,k5,k6,k7⟩)
  all_goals
   refine NoPanic.normal ?_;go_wp2_with fail;go_meet;exact ⟨g,b,A',c',rfl,k1,k2,k3,k4,k5,k6,by first|exact k7|exact (Below.refl _ w3).drew.trans k7|exact ((Below.refl _ w3).drewN _).trans k7⟩
 case rest=>
  obtain ⟨g,b,A',c',rfl,k1,k2,k3,k4,k5,k6,k7⟩:=hcut;have K1:=Lib.hid k1;have K2:=Lib.hid k2;have K3:=Lib.hid k3;have K4:=Lib.hid k4;have K7:=Lib.hid k7;clear k1 k2 k3 k4 k7;go_wp2_with fail;have hw3:=Qa.out;have hwc:=K7.out.size;have hgl:=K1.out.lt;have hbl:=K2.out.lt;have HL:=Lib.hid (Zg.out.below K7.out Zg.out.lt);have HX:=Lib.hid (HX0.out.below K7.out HX0.out.lt);have HPp:=Lib.hid (HP0.out.below K7.out HP0.out.lt);have hpl:=HP0.out.lt;obtain ⟨M,hM⟩:∃M:Nat→Obj→Prop,M=fun k o=>k=w.heap.size+1+1∨k=wc.heap.size+1∨(wc.heap.size≤k∧∃cs r,o= .cells cs 99 r):=⟨_,rfl⟩
  have hseq:=Jj 4 g b A' n c' dz x.sn M wc K1.out K2.out K3.out (fun ad e=>(K4.out ad e).2) (by rw[hM];rintro o (h|h|h)<;>omega) (by rw[hM];rintro o (h|h|h)<;>omega)
   (by rw[hM];rintro ad e o (h|h|h)<;>have:=K4.out ad e<;>omega) (by rw[hM];rintro k o hk (h|h|h);omega;omega;exact h.2)
  apply (wpIn_wide (n:=5)).1;refine nD (gf:=148) (lb:= #[.pointer (some ⟨g,0,none⟩),.pointer (some ⟨b,0,none⟩)]) rfl (enters_of Tryz.func148 (by kernel_rfl) rfl)
   hseq Kept.trans ?a3 (Below.refl _ _) (fun k=>by unfold uj;split<;>rfl)
   (XG wc (w.heap.size+1+1) x (dz.filter (eF x.sn))) (XG.far (by omega)) ?a5 ?a6 ?a7
  case a3=>
   intro Wk o o' ho hc;exact (Kept.refl _ Wk).grown (grownBy_putObj' Wk _ o') (fun j e _ _=>by cases e;rw[hM];exact .inr (.inl rfl))
  case a5=>exact ⟨⟨_,by rw[Cw];exact World.ownsRow_nil _ _ _ _,HL.out⟩,Kept.refl _ _⟩
  case a7=>
   rintro D Wk hD ⟨⟨v,hv,hb⟩,hK⟩ TF;rw[Oj] at hv;obtain ⟨Av,cv,rfl,_,_⟩:=cZ.cO (l:=bK dz x) hv;have H7:=Nat.lt_of_lt_of_le HL.out.lt hK.size;have l0:=hb.cell 0;have lf:=hb.frozen 0;simp at l0;have hDn:D≠w.heap.size+1+1:=by omega
   have hD1:(Wk.setCell ⟨w.heap.size+1+1,0,none⟩ (.slice Av (bK dz x).length cv)).heap[D]? =some (.deferred (some [])):=(Below.heap_setCell Wk ⟨w.heap.size+1+1,0,none⟩ (.slice Av (bK dz x).length cv) D hDn).trans TF;have hv1:(Wk.setCell ⟨w.heap.size+1+1,0,none⟩ (.slice Av (bK dz x).length cv)).ownsRow wc.heap.size 99 2 (.slice Av (bK dz x).length cv) (bK dz x).length (mV (bK dz x)):=ownsRow_setCell_other hv (fun e=>by have:=(hv.lt _ e).1;have e3:(⟨w.heap.size+1+1,0,none⟩:Addr).block=w.heap.size+1+1:=rfl;omega) (.slice Av (bK dz x).length cv);have hb1:aA (Wk.setCell ⟨w.heap.size+1+1,0,none⟩ (.slice Av (bK dz x).length cv)) (w.heap.size+1+1) 95 #[.slice Av (bK dz x).length cv]:=by simpa using hb.aC 0 (.slice Av (bK dz x).length cv)
   have hb2:=hb1.putObj (by omega) (k:=D) (.deferred none);have hv2:((Wk.setCell ⟨w.heap.size+1+1,0,none⟩ (.slice Av (bK dz x).length cv)).putObj D (.deferred none)).ownsRow wc.heap.size 99 2 (.slice Av (bK dz x).length cv) (bK dz x).length (mV (bK dz x)):=by
    refine hv1.kept (grownBy_putObj' _ D _) ?_;rcases hv1.2 with ⟨e1,_⟩|⟨t,cap,cur,e1,q1,q2,_⟩
    ·exact .inl (by rw[e1];rfl)
    ·refine .inr (fun e=> ?_);rw[e1] at e;have e2:t=D:=by injection e
     subst e2;rw[hD1] at q2;cases q2
   have hB2:Below w.heap.size w ((Wk.setCell ⟨w.heap.size+1+1,0,none⟩ (.slice Av (bK dz x).length cv)).putObj D (.deferred none)):=by
    have e1:=HB0.out.trans (K7.out.mono (by omega));have e2:Below w.heap.size wc Wk:=hK.below (fun j _ hj=>by omega) (by omega);exact ((e1.trans e2).setCell (p:=⟨w.heap.size+1+1,0,none⟩) (by simp;omega) (.slice Av (bK dz x).length cv)).trans (Below.putObj (by omega) _)
   have Oe:=Lib.hid (aW (base':=w.heap.size) hv2 (by omega));have HB2:=Lib.hid hB2;have HD1:=Lib.hid hD1;have c2:=hb2.cell 0;simp at c2;clear hv hb hv1 hb1 hb2 hv2 hB2 hD1 TF hM hseq
   gi_wp2
   go_wp2;refine ⟨by simp,.inl ⟨_,_,rfl,run_takeDeferred HD1.out,?_⟩⟩;exact ⟨.slice Av (bK dz x).length cv,by simp[results,Tryz.results58,go_sem,c2],.slice Av (bK dz x).length cv,rfl,Oe.out,HB2.out⟩
  case a6=>
   rintro l' k Wk hk ⟨⟨v,hrow,hbk⟩,hK⟩ ⟨oR,Rs,XB⟩;obtain ⟨y,hy⟩:∃y,(dz.filter (eF x.sn))[k]? =some y:=⟨_,List.getElem?_eq_getElem hk⟩
   have hvv:uj (dz.filter (eF x.sn)) k= #[.int .i64 ((fC y).1:Int),.int .i64 ((fC y).2:Int)]:=by
    unfold uj;rw[hy];obtain ⟨e1,e2⟩:=Ry y (hv y (List.mem_filter.1 (List.mem_of_getElem? hy)).1);simp only[e1,e2]
   rw[hvv];have hst:=Cx x _ k y hy;obtain ⟨ra,hra⟩:∃ra,(fC y).1=ra:=⟨_,rfl⟩
   obtain ⟨rb,hrb⟩:∃rb,(fC y).2=rb:=⟨_,rfl⟩
   obtain ⟨hok1,hok2⟩:=Ko x (dz.filter (eF x.sn)) hsz k;unfold eX at hst;rw[hra,hrb] at hst ⊢;have HST:=Lib.hid hst;have aet:=Lib.hid hok2;have hrl:=(Array.getElem?_eq_some_iff.1 Rs).1;clear hvv hst hy hra hrb hok2
   gi_wp2_with fail
   refine ⟨⟨Nat.le_refl _,fun _ _ _ h _=>h⟩,?_⟩;intro W3 o' hW3;have hXw:aA W3 (w.heap.size+1) 118 #[.pointer (some ⟨p,0,none⟩)]:=by rw[hW3];exact (HX.out.kept hK (by omega)).putObj (by omega) _
   have hPw:aA W3 p 120 (uN x (.slice Ap x.ps.length cp) (.slice Ar x.pend.length cr)):=by rw[hW3];exact (HPp.out.kept hK (by have:=yF.out;omega)).putObj (by have:=yF.out;omega) _
   have Zi:aA W3 (w.heap.size+1+1) 95 #[v]:=by rw[hW3];exact hbk.putObj (by omega) _
   have hrw:W3.ownsRow wc.heap.size 99 2 v (mI x (dz.filter (eF x.sn)) k).length (mV (mI x (dz.filter (eF x.sn)) k)):=by
    rw[hW3];refine hrow.kept (grownBy_putObj' Wk _ o') ?_;rcases hrow.2 with ⟨rfl,_⟩|⟨q,cap,cur,rfl,q1,q2,_⟩
    ·exact .inl rfl
    ·refine .inr (fun e=> ?_);have e2:q=wc.heap.size+1:=by injection e
     rw[e2,Rs] at q2;cases q2;cases XB
   have VG:Kept (fun j _=>j=w.heap.size+1+1) wc W3:=by
    rw[hW3];exact hK.grown (grownBy_putObj' Wk _ o') (fun j e o ho=>by cases e;have:=(Array.getElem?_eq_some_iff.1 ho).1;omega)
   have XH:Kept M Wk W3:=by
    rw[hW3];exact (Kept.refl _ Wk).grown (grownBy_putObj' Wk _ o') (fun j e _ _=>by cases e;rw[hM];exact .inr (.inl rfl))
   have hz3:=VG.size;have x0:=hXw.cell 0;have x8:W3.cell? ⟨p,8,none⟩=some (.int .i64 (ay x:Nat)):=hPw.cell 8;have l0:=Zi.cell 0;have lf:=Zi.frozen 0;simp at x0 l0;obtain ⟨q,hq⟩:∃q,ay x=q+1:=⟨ay x-1,by omega⟩
   rw[hq] at x8;have x8:W3.cell? ⟨p,8,none⟩=some (.int .i64 ((q:Int)+1)):=by rw[x8];simp
   have hw1:IntKind.i64.wrap ((q:Int)+1-1)=(q:Int):=by rw[IntWalk.i64_in _ (by omega)];omega
   have hw2:IntKind.i64.wrap (q:Int)=(q:Int):=IntWalk.i64_in _ (by omega);have hst:=HST.out;rw[show ay x-1=q by omega] at hst;have hvb:∀j,v.ownBlock=some j→wc.heap.size≤j:=fun j e=>(hrw.lt j e).1
   have TL:∀a',min rb q<ra→Jh wc.heap.size (Kept M) (XG wc (w.heap.size+1+1) x (dz.filter (eF x.sn))) (k+1) Wk W3 .normal a' W3:=fun a' hm=>by
    rw[if_pos hm] at hst;exact ⟨⟨Nat.le_refl _,fun _ _ _ h _=>h⟩,XH,⟨⟨v,by rw[hst];exact hrw,Zi⟩,VG⟩⟩
   have TM:∀m:Nat,Calls Tryz.prog 109 #[v,.agg #[.int .i64 (ra:Int),.int .i64 (m:Int)],.func (.func 110) #[] #[]] W3 (TI W3 wc.heap.size v (mI x (dz.filter (eF x.sn)) k) (ra,m)):=fun m=>
    FX W3 wc.heap.size v _ (ra,m) hrw hz3 (by have:=(List.length_filter_le (eF x.sn) dz);have:=K3.out.len;omega) aet.out
   have Zj:∀m v' w5,min rb q=m→ra≤m→w5.ownsRow wc.heap.size 99 2 v' (fM (mI x (dz.filter (eF x.sn)) k) (ra,m)).length (mV (fM (mI x (dz.filter (eF x.sn)) k) (ra,m)))→Kept (fun k _=>some k=v.ownBlock) W3 w5→
    aA w5 (w.heap.size+1+1) 95 #[v]∧∀a',Jh wc.heap.size (Kept M) (XG wc (w.heap.size+1+1) x (dz.filter (eF x.sn))) (k+1) Wk W3 .normal a' (w5.setCell ⟨w.heap.size+1+1,0,none⟩ v'):=fun m v' w5 hm hr h5 hk5=>by
    have hL5:aA w5 (w.heap.size+1+1) 95 #[v]:=Zi.kept hk5 (fun e=>by have:=hvb _ e.symm;omega);refine ⟨hL5,fun a'=> ?_⟩;rw[if_neg (by omega),hm] at hst;have hkM:Kept M W3 w5:=⟨hk5.os,hk5.tape,hk5.output,hk5.size,fun j o hj hn=>hk5.same j o hj (fun e=>hn (by
     rw[hM];refine .inr (.inr ⟨hvb j e.symm,?_⟩);rcases hrw.2 with ⟨rfl,_⟩|⟨t,cap,cur,rfl,q1,q2,_⟩
     ·cases e
     ·have e2:j=t:=by injection e
      rw[e2,q2] at hj;cases hj;exact ⟨_,_,rfl⟩))⟩
    have hkL:Kept (fun j (_:Obj)=>j=w.heap.size+1+1) wc w5:=⟨hk5.os.trans VG.os,hk5.tape.trans VG.tape,hk5.output.trans VG.output,Nat.le_trans hz3 hk5.size,fun j o hj hn=>hk5.same j o (VG.same j o hj hn) (fun e=>by
     have h1:=hvb _ e.symm;have h2:=(Array.getElem?_eq_some_iff.1 hj).1;omega)⟩
    have NJ:KeepsFrom wc.heap.size W3 w5:=⟨hk5.size,fun j o hj ho hc=>hk5.same j o ho (fun e=>by
     rcases hrw.2 with ⟨rfl,_⟩|⟨t,cap,cur,rfl,q1,q2,_⟩
     ·cases e
     ·have e2:j=t:=by injection e
      rw[e2,q2] at ho;cases ho;cases hc)⟩
    refine ⟨KeepsFrom.tr NJ (KeepsFrom.D4 hL5 v'),(XH.trans hkM).setCell (p:=⟨w.heap.size+1+1,0,none⟩) (fun _ _=>by rw[hM];exact .inl rfl) v',⟨⟨v',?_,by simpa using hL5.aC 0 v'⟩,hkL.setCell (p:=⟨w.heap.size+1+1,0,none⟩) (fun _ _=>rfl) v'⟩⟩;rw[hst];exact ownsRow_setCell_other h5 (fun e=>by have:=(h5.lt _ e).1;have e3:(⟨w.heap.size+1+1,0,none⟩:Addr).block=w.heap.size+1+1:=rfl;omega) v'
   have TN:=Lib.hid TM;have Zk:=Lib.hid TL;have jH:=Lib.hid Zj;clear hXw hPw Zi hrw hrow hbk hK hW3 VG XH Rs XB hM TL TM Zj hst hvb;by_cases hc:rb≤q
   ·by_cases hr:ra≤rb
    ·have d1:decide (rb<ra)=false:=decide_eq_false (by omega)
     gi_wp2_with fail
     refine ⟨trivial,CallsIn.inRound l' ((callsIn_wide (n:=2)).2 ((TN.out rb).mono ?_))⟩;rintro e w5 ⟨v',rfl,ze,hk5,_⟩;obtain ⟨hL5,TP⟩:=jH.out rb v' w5 (by omega) hr ze hk5;obtain ⟨A5,c5',rfl,_,_⟩:=cZ.cO (l:=fM (mI x (dz.filter (eF x.sn)) k) (ra,rb)) ze;have c5:=hL5.cell 0;have f5:=hL5.frozen 0;simp at c5;have HF5:=Lib.hid TP;clear TP hL5 ze hk5
     gi_wp2_with fail
     exact HF5.out _
    ·have d1:decide (rb<ra)=true:=decide_eq_true (by omega)
     gi_wp2_with fail
     exact Zk.out _ (by omega)
   ·by_cases hr:ra≤q
    ·have d1:decide (q<ra)=false:=decide_eq_false (by omega)
     gi_wp2_with fail
     refine ⟨trivial,CallsIn.inRound l' ((callsIn_wide (n:=2)).2 ((TN.out q).mono ?_))⟩;rintro e w5 ⟨v',rfl,ze,hk5,_⟩;obtain ⟨hL5,TP⟩:=jH.out q v' w5 (by omega) hr ze hk5;obtain ⟨A5,c5',rfl,_,_⟩:=cZ.cO (l:=fM (mI x (dz.filter (eF x.sn)) k) (ra,q)) ze;have c5:=hL5.cell 0;have f5:=hL5.frozen 0;simp at c5;have HF5:=Lib.hid TP;clear TP hL5 ze hk5
     gi_wp2_with fail
     exact HF5.out _
    ·have d1:decide (q<ra)=true:=decide_eq_true (by omega)
     gi_wp2_with fail
     exact Zk.out _ (by omega)
end
end
section
open Go.RowKit Go.Shelf
attribute [local go_sem] Oper.semAt_some
theorem cZ.kept {w w':World} {A:Option Addr} {n c:Nat} {l:List (Nat × Nat)} {M:Nat→Obj→Prop} (h:cZ w A n c l) (hk:Kept M w w') (hM:∀ad,A=some ad→∀o,¬M ad.block o) (hlt:∀ad,A=some ad→ad.block<w.heap.size):cZ w' A n c l:=
 h.stay fun ad e=>by
  have h1:=Array.getElem?_eq_getElem (hlt ad e);rw[hk.same _ _ h1 (hM ad e _),h1]
def zf (l:List (Nat × Nat)) (k:Nat):Array Value:=match l[k]? with
 |some x=> #[.int .i64 (x.1:Nat),.int .i64 (x.2:Nat)]
 |none=> #[undef,undef]
set_option maxRecDepth 100000 in
set_option maxHeartbeats 2000000 in
theorem Ol (n:Nat) (b:Nat) (A:Option Addr) (N c:Nat) (l:List (Nat × Nat)) (M:Nat→Obj→Prop) (w:World)
 (hg:aA w b 95 #[.slice A N c]) (hv:cZ w A N c l) (hlo:∀ad,A=some ad→ad.block<w.heap.size) (MZ:∀ad,A=some ad→∀o,¬M ad.block o):
 Kl n Tryz.prog 142 #[.pointer (some ⟨b,0,none⟩)] (zf l) N (Kept M) w:=fun p J W hW _ hJ hY h0=>by
 have hg':=hg.below hW hg.lt;have hv':=hv.below hW;have hlt':∀ad,A=some ad→ad.block<W.heap.size:=fun ad e=>Nat.lt_of_lt_of_le (hlo ad e) hW.size
 have hvk:∀wr,Kept M W wr→cZ wr A N c l:=fun wr hk=>hv'.kept hk MZ hlt'
 have UD:=Lib.hid hvk;have HY:=Lib.hid hY;have HJ:=Lib.hid hJ;have hlen:=hv.len;have hcap:=hv.cap;have hmx:=hv.mx;have HL:=Lib.hid hlen;clear hvk hY hJ hlen;refine callsIn_of_wp Tryz.func142 rfl trivial ?_ rfl;simp only[Tryz.ntmps142,List.size_toArray,List.length_cons,List.length_nil,Nat.reduceAdd,Nat.reduceSub,Array.replicate_succ,Array.replicate_zero,List.push_toArray,List.append_toArray,List.nil_append,List.cons_append];have hcw:=hg'.cell 0;simp at hcw
 gi_wp2
 refine ji ?_
 gi_wp2
 refine wpIn_label ?_
 gi_wp2
 gi_loopw [7] (fun i wr=>∃k:Nat,k≤N∧i= .int .i64 k∧J k wr∧Kept M W wr) (fun i _=>N-(intOf i).toNat)
 case atStart=>exact ⟨0,Nat.zero_le _,by simp,h0,Kept.refl _ _⟩
 case round=>
  obtain ⟨k,hk,rfl,hJs,hnx⟩:=hrel;by_cases hlt:k<N
  ·obtain ⟨x,hx⟩:∃x,l[k]? =some x:=⟨_,List.getElem?_eq_getElem (by have:=HL.out;omega)⟩
   have M0:=UD.out wr hnx;obtain ⟨ad,rfl,ND,hcl⟩:=M0.at_ (by omega);obtain ⟨k0,k1⟩:=hcl k x hx
   replace k1:=Oi k1
   clear hcl M0;have b1:=aA.new wr 99 #[.int .i64 (x.1:Nat),.int .i64 (x.2:Nat)];have y0:(wr.alloc (.cells #[.int .i64 (x.1:Nat),.int .i64 (x.2:Nat)] 99)).cell? ⟨wr.heap.size,0,none⟩=some (.int .i64 (x.1:Nat)):=b1.cell 0;have y1:(wr.alloc (.cells #[.int .i64 (x.1:Nat),.int .i64 (x.2:Nat)] 99)).cell? ⟨wr.heap.size,1,none⟩=some (.int .i64 (x.2:Nat)):=b1.cell 1;have hbw:Below wr.heap.size wr (wr.alloc (.cells #[.int .i64 (x.1:Nat),.int .i64 (x.2:Nat)] 99)):=(Below.refl _ wr).alloc (Nat.le_refl _) _;have EF:=HY.out k _ hlt (HJ.out.fresh k wr _ hJs hbw);have hnx2:Kept M W (wr.alloc (.cells #[.int .i64 (x.1:Nat),.int .i64 (x.2:Nat)] 99)):=hnx.trans (Kept.fq hbw);have Ak:=Lib.hid hnx2;have HX:=Lib.hid hx;unfold zf at EF;rw[hx] at EF;obtain ⟨fn,tmps,assign,body,hy,hR⟩:=EF;simp only[] at hy;clear b1 hx hnx2 hbw hnx
   gi_wp2
   refine ⟨fun hh=>(by cases hh),hR.mono ?_⟩;rintro e W3 ⟨rfl,hJ3,hk3⟩
   gi_wp2
   go_roundw
   case rel=>exact ⟨k+1,by omega,by go_num,hJ3,Ak.out.trans hk3⟩
   case measure=>simp[intOf];omega
  ·have e:k=N:=by omega
   have Dl:J N wr:=by rw[e] at hJs;exact hJs
   clear e hJs
   gi_wp2
   unfold Exit.noGoto
   gi_wp2
   go_end0
   exact ⟨⟨_,rfl⟩,Dl⟩
theorem Cy:∀l:List Ou,((iW l).map (·.2)).sum=pO l
 | []=>rfl
 |x::r=>by
  have ih:=Cy r;unfold iW pO at*;simp only[List.filter_cons,List.map_cons,List.sum_cons];by_cases h:0<eu x.pend
  ·simp only[h,decide_true,if_true,List.map_cons,List.sum_cons];omega
  ·have h0:eu x.pend=0:=by omega
   simp only[h,decide_false,Bool.false_eq_true,if_false];omega
def sumTo (l:List (Nat × Nat)) (k:Nat):Nat:=((l.take k).map (·.2)).sum
theorem Jp {l:List (Nat × Nat)} {k:Nat} {x:Nat × Nat} (h:l[k]? =some x):sumTo l (k+1)=sumTo l k+x.2:=by
 unfold sumTo;rw[List.take_add_one,h];simp
theorem sumTo_le (l:List (Nat × Nat)) (k:Nat):sumTo l k≤(l.map (·.2)).sum:=by
 have e:(l.map (·.2)).sum=sumTo l k+((l.drop k).map (·.2)).sum:=by
  unfold sumTo;rw[←List.sum_append,←List.map_append,List.take_append_drop]
 omega
theorem Om {l:List Ou} (h:∀x∈l,eu x.pend≤32767000):pO l≤l.length*32767000:=by
 induction l with
 |nil=>simp[pO]
 |cons x r ih=>
  have h1:=h x (by simp);have h2:=ih (fun q hq=>h q (by simp[hq]));simp only[pO,List.map_cons,List.sum_cons,List.length_cons] at*;rw[Nat.succ_mul];omega
structure Zl (wc:World) (nc:Nat) (b0:Int) (l:List (Nat × Nat)) (k:Nat) (W:World):Prop where
 row:aA W nc 3 #[.int .i64 (b0+(sumTo l k:Nat))]
 kp:Kept (fun j _=>j=nc) wc W
theorem Zl.far {wc:World} {nc:Nat} {b0:Int} {l:List (Nat × Nat)} (hlc:nc<wc.heap.size):FT wc.heap.size (Zl wc nc b0 l):=by
 refine ⟨fun k A B row hs hg hr=> ?_,fun k A B hs hb=> ?_⟩
 ·obtain ⟨hb,hk⟩:=hs;refine ⟨hb.grown hg ?_,hk.grown hg (fun j e o ho=> ?_)⟩
  ·intro e;have:=(hr nc e.symm).1;omega
  ·have h1:=(hr j e).1;have h2:=(Array.getElem?_eq_some_iff.1 ho).1;omega
 ·obtain ⟨hbk,hk⟩:=hs;exact ⟨hbk.below hb hbk.lt,hk.trans (Kept.fq hb)⟩
section
variable {D F:Nat→Prop} {g:Nat} {c:Cf} {st:Sd} {vq vo:Value} {vs os:List Value} {w:World}
set_option maxRecDepth 100000 in
set_option maxHeartbeats 2000000 in
theorem Bn (h:dY w D F g c st vq vs vo os) (ht:1≤c.timer) (hsum:aZ st≤1048576) (htk:st.taken≤aZ st) (hw:st.out.length≤512) (ho:∀x∈st.out,AP x):
 Calls Tryz.prog 49 #[.pointer (some ⟨g,0,none⟩)] w fun e w'=>e= .returned (.int .i64 (E9 st))∧Below w.heap.size w w':=by
 have oF:=Lib.hid (gL h ht);have HH:=Lib.hid h;obtain ⟨r,hr⟩:∃r:Int,(if st.failed=true then 8 else 0)=r:=⟨_,rfl⟩
 have dr:(r==1)=false:=by rw[←hr];cases st.failed<;>rfl
 rw[hr] at oF;have E7:∀W,Below w.heap.size w W→Calls Tryz.prog 99 #[.pointer (some ⟨g,0,none⟩)] W fun e w'=>e= .returned (.int .i64 (aZ st:Nat))∧W=w':=fun W hW=>uY (h.below hW) hsum
 have Zm:=Lib.hid E7;have Ah:=h.blk.cell 10;simp[dh] at Ah;have hgl:=h.blk.lt;have HS:=Lib.hid (show ∀W,Below w.heap.size w W→W.cell? ⟨g,10,none⟩=some (.int .i64 (st.taken:Nat)) from fun W hW=>(hW.cell (p:=⟨g,10,none⟩) hgl).trans Ah);have HO:=Lib.hid ho;clear h hr E7 ho;refine (callsIn_wide (n:=5)).1 ?_;refine callsIn_of_wp_marks Tryz.func49 rfl trivial ?_ rfl;simp only[Tryz.ntmps49,List.size_toArray,List.length_cons,List.length_nil,Nat.reduceAdd,Nat.reduceSub,Array.replicate_succ,Array.replicate_zero,List.push_toArray,List.append_toArray,List.nil_append,List.cons_append];refine (wpIn_wide (n:=5)).2 ?_;go_wp2_with fail;refine oF.out.mono ?_;rintro e1 w1 ⟨rfl,rfl⟩;go_wp2_with fail;have hsub:IntKind.i64.wrap ((aZ st:Int)-(st.taken:Int))=(aZ st:Int)-(st.taken:Int):=IntWalk.i64_in _ (by omega);go_cut [3] from 9 to 15 (fun s3 wx=>∃b,s3= .pointer (some ⟨b,0,none⟩)∧aA wx b 3 #[.int .i64 ((aZ st:Int)-(st.taken:Int))]∧Below w.heap.size w wx∧w.heap.size≤b)
 case first=>
  have hb0:=Below.refl w.heap.size w;refine wp_region_noPanic ?_
  go_region_held3 (fun W=>W.cell? ⟨g,10,none⟩=some (.int .i64 (st.taken:Nat)))
   (first|(with_reducible (refine HS.out _ ?_;(repeat first|assumption|refine Below.drew ?_|refine VD ?_ _|refine Oh ?_ _ _);done))|go_keep)
   (first
    |(go_at_call 99;refine (Zm.out _ (by with_reducible (repeat first|assumption|refine Below.drew ?_|refine VD ?_ _|refine Oh ?_ _ _))).mono ?_;rintro e7 w7 ⟨rfl,rfl⟩)
    |fail)
  all_goals
   try refine NoPanic.normal ?_
   go_wp2;go_meet;exact ⟨_,rfl,(aA.new _ _ _).drew,((Below.refl _ w).alloc (Nat.le_refl _) _).drew,Nat.le_refl _⟩
 case rest=>
 obtain ⟨b,rfl,hbk,hbb,hbl⟩:=hcut;have HP:=Lib.hid (F5 (HH.out.below hbb) ht hw HO.out);have vC:=Lib.hid hbb;have Oc:=Lib.hid hbk;clear hbb hbk;go_wp2_with fail;refine HP.out.mono ?_;rintro e2 w2 ⟨pb,A,cc,rfl,k1,k2,k3,k4,k5⟩;have sH:=Lib.hid k1;have uW:=Lib.hid k2;have Co:=Lib.hid k4;have sI:=Lib.hid k5;have HB2:=Lib.hid (Oc.out.below k5 Oc.out.lt);have hbw:b<wc.heap.size:=Oc.out.lt;have hz2:=k5.size;clear k1 k2 k4 k5;go_wp2_with fail;obtain ⟨L,hL⟩:∃L,iW st.out=L:=⟨_,rfl⟩
 have TQ:(L.map (·.2)).sum=pO st.out:=by rw[←hL];exact Cy _
 have hpb:=Om (l:=st.out) (fun x hx=>by
  have hox:=HO.out x hx;have h1:=Cv hox.pr;have h2:=gV hox;exact Nat.le_trans h1 (Nat.mul_le_mul hox.pl h2.2))
 have akP:pO st.out≤512*32767000:=Nat.le_trans hpb (Nat.mul_le_mul_right _ hw);rw[hL] at sH uW;obtain ⟨M,hM⟩:∃M:Nat→Obj→Prop,M=fun k _=>k=b∨k=w2.heap.size+1:=⟨_,rfl⟩
 have hseq:=Ol 4 pb A L.length cc L M w2 sH.out uW.out (fun ad e=>(Co.out ad e).2) (by rw[hM];rintro ad e o (h|h)<;>have:=Co.out ad e<;>omega);apply (wpIn_wide (n:=5)).1;refine nD (gf:=142) (lb:= #[.pointer (some ⟨pb,0,none⟩)]) rfl (enters_of Tryz.func142 (by kernel_rfl) rfl)
  hseq Kept.trans ?a3 (Below.refl _ _) (fun k=>by unfold zf;split<;>rfl)
  (Zl w2 b ((aZ st:Int)-(st.taken:Int)) L) (Zl.far (by omega)) ?a5 ?a6 ?a7
 case a3=>
  intro Wk o o' ho hc;exact (Kept.refl _ Wk).grown (grownBy_putObj' Wk _ o') (fun j e _ _=>by cases e;rw[hM];exact .inr rfl)
 case a5=>exact ⟨by simpa[sumTo] using HB2.out,Kept.refl _ _⟩
 case a7=>
  rintro D' Wk hD ⟨hrow,hK⟩ TF;have hs:sumTo L L.length=pO st.out:=by unfold sumTo;rw[List.take_length];exact TQ
  rw[hs] at hrow;have TR:E9 st=(aZ st:Int)-(st.taken:Int)+(pO st.out:Int):=rfl;rw[←TR] at hrow;have l0:=hrow.cell 0;simp at l0;have hB2:Below w.heap.size w (Wk.putObj D' (.deferred none)):=by
   have e1:=vC.out.trans (sI.out.mono vC.out.size);have e2:Below w.heap.size w2 Wk:=hK.below (fun j _ hj=>by omega) (by have:=vC.out.size;omega);exact (e1.trans e2).trans (Below.putObj (by have:=vC.out.size;omega) _)
  have aev:=Lib.hid hB2;have HDk:=Lib.hid TF;clear hrow hK TF hM hseq hB2 hs TR
  gi_wp2
  go_wp2;refine ⟨by simp,.inl ⟨_,_,rfl,run_takeDeferred HDk.out,?_⟩⟩;exact ⟨.int .i64 (E9 st),by simp[results,Tryz.results49,go_sem],rfl,aev.out⟩
 case a6=>
  rintro l' k Wk hk ⟨hrow,hK⟩ ⟨oR,Rs,XB⟩;obtain ⟨y,hy⟩:∃y,L[k]? =some y:=⟨_,List.getElem?_eq_getElem hk⟩
  have hvv:zf L k= #[.int .i64 (y.1:Nat),.int .i64 (y.2:Nat)]:=by unfold zf;rw[hy]
  rw[hvv];have hst:=Jp hy;have hle:=sumTo_le L (k+1);rw[TQ] at hle;have HST:=Lib.hid hst;have hrl:=(Array.getElem?_eq_some_iff.1 Rs).1
  gi_wp2_with fail
  refine ⟨⟨Nat.le_refl _,fun _ _ _ h _=>h⟩,?_⟩;intro W3 o' hW3;have TS:aA W3 b 3 #[.int .i64 ((aZ st:Int)-(st.taken:Int)+(sumTo L k:Nat))]:=by rw[hW3];exact hrow.putObj (by omega) _
  have hK3:Kept (fun j _=>j=b) w2 W3:=by
   rw[hW3];exact hK.grown (grownBy_putObj' Wk _ o') (fun j e o ho=>by cases e;have:=(Array.getElem?_eq_some_iff.1 ho).1;omega)
  have XH:Kept M Wk W3:=by
   rw[hW3];exact (Kept.refl _ Wk).grown (grownBy_putObj' Wk _ o') (fun j e _ _=>by cases e;rw[hM];exact .inr rfl)
  generalize sumTo L k=S at*;have hS2:S+y.2≤512*32767000:=by omega
  have hw1:IntKind.i64.wrap ((aZ st:Int)-(st.taken:Int)+(S:Int)+(y.2:Int))=(aZ st:Int)-(st.taken:Int)+((S+y.2:Nat):Int):=by rw[IntWalk.i64_in _ (by omega)];omega
  have n0:=TS.cell 0;have n1:=TS.frozen 0;simp at n0;have HF:=Lib.hid (show KeepsFrom w2.heap.size W3 (W3.setCell ⟨b,0,none⟩ (.int .i64 ((aZ st:Int)-(st.taken:Int)+((S+y.2:Nat):Int))))∧Kept M Wk (W3.setCell ⟨b,0,none⟩ (.int .i64 ((aZ st:Int)-(st.taken:Int)+((S+y.2:Nat):Int))))∧Zl w2 b ((aZ st:Int)-(st.taken:Int)) L (k+1) (W3.setCell ⟨b,0,none⟩ (.int .i64 ((aZ st:Int)-(st.taken:Int)+((S+y.2:Nat):Int)))) from
   ⟨KeepsFrom.D4 TS _,XH.setCell (p:=⟨b,0,none⟩) (fun _ _=>by rw[hM];exact .inl rfl) _,⟨by rw[HST.out];simpa using TS.aC 0 (.int .i64 ((aZ st:Int)-(st.taken:Int)+((S+y.2:Nat):Int))),hK3.setCell (p:=⟨b,0,none⟩) (fun _ _=>rfl) _⟩⟩)
  clear TS hK3 XH hW3 hrow hK Rs XB hM hseq hvv hy hst hle
  gi_wp2_with fail
  exact HF.out
end
end
section
open Go.RowKit Go.Shelf
attribute [local go_sem] Oper.semAt_some
section
variable {D F:Nat→Prop} {g:Nat} {c:Cf} {st:Sd} {vq vo:Value} {vs os:List Value} {w:World}
def behind (st:Sd) (m:Int) (x:Nk):Bool:=decide (m≤ed st x.sn)
set_option maxRecDepth 10000 in
set_option maxHeartbeats 1000000 in
theorem On (h:dY w D F g c st vq vs vo os) (h1:st.first<1024) (bs bn:Nat) (m:Int) (hs:aA w bs 55 #[.pointer (some ⟨g,0,none⟩)]) (hn:aA w bn 3 #[.int .i64 m]) (x:Nk) (hx:0≤x.sn∧x.sn≤1023):
 Calls Tryz.prog 57 #[.agg (lm x),.pointer (some ⟨bs,0,none⟩),.pointer (some ⟨bn,0,none⟩)] w fun e w'=>e= .returned (.bool (behind st m x))∧Below w.heap.size w w':=by
 have hB:Below w.heap.size w (w.alloc (.cells (lm x) 116)):=(Below.refl _ w).alloc (Nat.le_refl _) _;have s0:=(hs.below hB hs.lt).cell 0;have n0:=(hn.below hB hn.lt).cell 0;have hA:=h.below hB;have yF:=Lib.hid (fun (k:Nat)=>rJ (hA.drewN k) h1 x.sn hx);have HB:=Lib.hid hB;simp[lm] at s0 n0;have b0:(w.alloc (.cells (lm x) 116)).cell? ⟨w.heap.size,0,none⟩=some (.int .i64 x.sn):=(aA.new w 116 (lm x)).cell 0;clear hA h hs hn hB;unfold lm at*;go_enter Tryz.func57,Tryz.ntmps57;go_upto_region 1 with (fail)
 generalize w.alloc (.cells #[.int .i64 x.sn,.bool x.part,.int .i64 x.fr,.int .i64 x.lt] 116)=w1 at*
 go_quiet ((go_at_call 55;exact Calls.quiet_of_same ((yF.out _).mono fun _ _ hh=>⟨hh.1,hh.2.symm⟩)))
 go_wp2;go_ret;exact ⟨rfl,HB.out.drewN _⟩
set_option maxRecDepth 10000 in
set_option maxHeartbeats 1000000 in
theorem Oo (h:dY w D F g c st vq vs vo os) (h1:st.first<1024) (bs bn:Nat) (m:Int) (hs:aA w bs 55 #[.pointer (some ⟨g,0,none⟩)]) (hn:aA w bn 3 #[.int .i64 m])
 (A:Option Addr) (n cc:Nat) (l:List Nk) (hN:bP w A n cc l) (hx:∀x∈l,0≤x.sn∧x.sn≤1023):
 Calls Tryz.prog 107 #[.slice A n cc,.func (.func 57) #[] #[.pointer (some ⟨bs,0,none⟩),.pointer (some ⟨bn,0,none⟩)]] w
  fun e w'=>(∃i:Int,e= .returned (.int .i64 i)∧decide (0≤i)=l.any (behind st m))∧Below w.heap.size w w':=by
 have hcap:=hN.cap;have hmx:=hN.mx;have HL:=Lib.hid hN.len;have HN:=Lib.hid hN;have HC:=Lib.hid (fun (W:World) (hW:Below w.heap.size w W) (x:Nk) (hx:0≤x.sn∧x.sn≤1023)=>On (h.below hW) h1 bs bn m (hs.below hW hs.lt) (hn.below hW hn.lt) x hx);have HX:=Lib.hid hx;clear h hs hn hN hx;unfold lm at HC;go_enter Tryz.func107,Tryz.ntmps107;go_wp2
 go_loopw [8] (fun i wr=>∃k:Nat,k≤n∧i= .int .i64 k∧Below w.heap.size w wr∧∀(j:Nat) (y:Nk),j<k→l[j]? =some y→behind st m y=false) (fun i _=>n-(intOf i).toNat)
 case atStart=>exact ⟨0,Nat.zero_le _,rfl,Below.refl _ _,fun j y hj=>by omega⟩
 case round=>
  obtain ⟨k,hk,rfl,hb,hall⟩:=hrel;have HA:=Lib.hid hall;clear hall;by_cases hlt:k<n
  ·obtain ⟨x,hx⟩:∃x,l[k]? =some x:=⟨_,List.getElem?_eq_getElem (by have:=HL.out;omega)⟩
   obtain ⟨ad,rfl,ND,hcl⟩:=(HN.out.below hb).at_ (by omega);obtain ⟨k0,k1,k2,k3⟩:=hcl k x hx;have hcall:=HC.out wr hb x (HX.out x (List.mem_of_getElem? hx));have HK:=Lib.hid hx;have HCC:=Lib.hid hcall;have HB:=Lib.hid hb;clear hx hcl hcall hb;go_wp2_with fail;refine HCC.out.mono ?_;rintro e1 w1 ⟨rfl,hb1⟩;have HB1:=Lib.hid (HB.out.trans (hb1.mono HB.out.size));clear hb1 k0 k1 k2 k3;cases hq:behind st m x with
   |false=>
    have HQ:=Lib.hid hq;clear hq;go_wp2
    go_round
    case rel=>
     refine ⟨k+1,by omega,by go_num,HB1.out,fun j y hj hy=> ?_⟩;rcases Nat.lt_or_ge j k with h2|h2
     ·exact HA.out j y h2 hy
     ·rw[show j=k by omega,HK.out] at hy;cases hy;exact HQ.out
    case measure=>simp[intOf];omega
   |true=>
    have HQ:=Lib.hid hq;clear hq;go_wp2;go_ret;refine ⟨⟨_,rfl,?_⟩,HB1.out⟩;rw[List.any_eq_true.2 ⟨x,List.mem_of_getElem? HK.out,HQ.out⟩];simp
  ·have HB:=Lib.hid hb;clear hb;go_wp2;go_ret;refine ⟨⟨_,rfl,?_⟩,HB.out⟩;have:l.any (behind st m)=false:=by
    rw[List.any_eq_false];intro y hy;obtain ⟨j,hj⟩:=List.mem_iff_getElem?.1 hy;have:=HA.out j y (by have:=(List.getElem?_eq_some_iff.1 hj).1;have:=HL.out;omega) hj;simp[this]
   rw[this];rfl
theorem Lp (h:dY w D F g c st vq vs vo os) (h1:st.first<1024) (bs bn:Nat) (m:Int) (hs:aA w bs 55 #[.pointer (some ⟨g,0,none⟩)]) (hn:aA w bn 3 #[.int .i64 m])
 (A:Option Addr) (n cc:Nat) (l:List Nk) (hN:bP w A n cc l) (hx:∀x∈l,0≤x.sn∧x.sn≤1023):
 Calls Tryz.prog 56 #[.slice A n cc,.func (.func 57) #[] #[.pointer (some ⟨bs,0,none⟩),.pointer (some ⟨bn,0,none⟩)]] w
  fun e w'=>e= .returned (.bool (l.any (behind st m)))∧Below w.heap.size w w':=by
 have hix:=Oo h h1 bs bn m hs hn A n cc l hN hx;have MF:=Lib.hid hix;clear h hs hn hN hx hix;go_enter Tryz.func56,Tryz.ntmps56;go_wp2_with fail;refine MF.out.mono ?_;rintro e1 w1 ⟨⟨i,rfl,hi⟩,hb⟩;have HI:=Lib.hid hi;have HB:=Lib.hid hb;clear hi hb;go_wp2;go_ret;exact ⟨bH HI.out,HB.out⟩
end
end
end Go.Proofs.YtiecgfahidpldaaGreat
