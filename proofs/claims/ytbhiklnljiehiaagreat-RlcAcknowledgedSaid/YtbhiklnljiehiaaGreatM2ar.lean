/- amsend: finish. -/
import Derived.Test.YtbhiklnljiehiaaGreatM2al
import Derived.Test.YtbhiklnljiehiaaGreatM2ap
namespace Go.Proofs.YtbhiklnljiehiaaGreat
section
open Go.RowKit Go.Shelf
attribute [local go_sem] Oper.semAt_some
section
variable {D F:Nat→Prop} {g:Nat} {c:Cf} {st:Sd} {vq vo:Value} {vs os:List Value} {w:World}
theorem JO {i j:Nat} {x:Value} (h:w.cell? ⟨g,i,none⟩=some x) (hne:j≠i) (u:Value):(w.setCell ⟨g,j,none⟩ u).cell? ⟨g,i,none⟩=some x:=by
 rw[←h];simp[World.cell?,World.setCell,Array.getElem?_modify];cases w.heap[g]? with
 |none=>rfl
 |some o=>cases o<;>simp[hne]
def Ew (w:World) (D F:Nat→Prop) (g:Nat) (c:Cf) (st:Sd) (bs:List UInt8) (e:Ending) (w':World):Prop:=
 ∃v,e= .returned v∧w'.ownsRow w.heap.size 5 1 v bs.length (bO bs)∧kX w D F g c st w'
set_option maxRecDepth 100000 in
set_option maxHeartbeats 2000000 in
theorem jq (h:dV w D F g c st vq vs vo os) (hsum:aW st≤1048576) (hw:st.out.length≤512) (hf:st.first<1024)
 (sn:Nat) (po sg la:Bool) (off:Nat) (s e:Bool) (A:Option Addr) (n cc:Nat) (vl:List Value) (ps:List (List UInt8)) (hps:∀w',Kept (fun k _=>D k) w w'→iO w' w'.heap.size A n cc vl ps)
 (hv:gY sn sg la off ps=true) (hoff:off≤32767) (polls:Bool):
 Calls Tryz.prog 89 #[.pointer (some ⟨g,0,none⟩),.agg (bH sn po sg la off s e A n cc),.bool polls] w (Ew w D F g c (dh c st polls).1 (xC sn (dh c st polls).2 sg la off s e ps)):=by
 obtain ⟨PO,hP⟩:∃PO,PO=(polls||st.eB||jP st):=⟨_,rfl⟩
 have hfin:dh c st polls=if PO=true then (tX st c,true) else (st,false):=by unfold dh;rw[hP]
 rw[hfin];have hid:=fun (o:Obj)=>CK (h.alloc o) hsum (by omega)
 have Rf:=ah hid;have Eg:=h.blk.cell 18;simp[dS] at Eg;have HH:=ah h;have HP:=ah hP;have Ru:=ah hps;have HV:=ah hv;have hgl:=h.blk.lt;clear h hid hP hfin hps hv;unfold bH;go_enter Tryz.func89,Tryz.ntmps89;go_upto_region 1 with (fail)
 go_cut [] (fun wx=>au wx w.heap.size 148 (bH sn PO sg la off s e A n cc)∧dV wx D F g c st vq vs vo os∧Kept (fun k _=>D k) w wx)
 case first=>
  have hp:=HP.out;cases polls with
  |true=>
   have hp1:PO=true:=by rw[hp];rfl
   clear hp;subst hp1;go_wp2;go_meet;exact ⟨au.new _ _ _,HH.out.alloc _,(Kept.refl _ w).alloc _⟩
  |false=>
   cases ho:st.eB with
   |true=>
    rw[ho] at Eg hp;have hp1:PO=true:=by rw[hp];rfl
    clear hp ho;subst hp1;go_wp2;go_meet;exact ⟨au.new _ _ _,HH.out.alloc _,(Kept.refl _ w).alloc _⟩
   |false=>
    rw[ho] at Eg hp;have hp1:jP st=PO:=by rw[hp];rfl
    clear hp ho;rw[hp1] at Rf;have HI:=ah (Rf.out);have HP1:=ah hp1;clear hp1;go_wp2_with (go_at_call 131;refine (HI.out _).mono ?_;rintro e1 w1 ⟨rfl,q,rfl⟩);go_meet;have bb:=((au.new w 148 (bH sn po sg la off s e A n cc)).drewN q).av 1 (.bool PO);have hgs:=HH.out.lt;exact ⟨bb,((HH.out.alloc _).drewN q).stay fun k hk=>fD (fun e=>by
     have:=hgs k hk;have e2:k=w.heap.size:=e;omega),(((Kept.refl _ w).alloc _).iy q).setCell (fun o ho=>by
     have:=lt_of_heap ho;have e2:w.heap.size<w.heap.size:=this;omega) _⟩
 case rest=>
 obtain ⟨bb,hA1,hk1⟩:=hcut;generalize wc=w1 at*;have hbl:=bb.lt;have hbg:w.heap.size≠g:=by omega
 obtain ⟨b0,b1,b2,b3,b4,b5,b6,b7⟩:=bb.eight;cases PO with
 |false=>
  have hsl:=Ru.out _ hk1;have henc:=yZ sn false sg la off s e A n cc vl ps w1 hsl HV.out hoff;unfold bH at henc;have HE:=ah henc;have HA1:=ah hA1;have tJ:=ah hk1;clear hA1 hk1 hsl henc bb HP Rf Ru;go_wp2_with fail;refine HE.out.mono ?_;rintro e3 w3 ⟨vb,rfl,hvb,hb3⟩;go_wp2;go_ret;have hz:=tJ.out.size;exact ⟨vb,rfl,aU hvb hz,kX.step tJ.out (bW.refl _ _) (bW.refl _ _) ((HA1.out.below hb3).o ((Kept.of_below hb3).fE fun k o ho hm=>by have:=lt_of_heap ho;omega))⟩
 |true=>
  have y13:=hA1.blk.cell 13;have CG:=hA1.blk.cell 14;have aa0:=hA1.blk.cell 18;have e13:=hA1.blk.frozen 13;have e14:=hA1.blk.frozen 14;have e18:=hA1.blk.frozen 18;simp[dS] at y13 CG aa0;have hA2:=((hA1.mQ 13 (.int .i64 0) (st':= {st with dN:=0}) rfl rfl rfl).mQ 14 (.int .i64 0) (st':= {st with dN:=0,bytes:=0}) rfl rfl rfl).mQ 18 (.bool false) (st':= {st with dN:=0,bytes:=0,eB:=false}) rfl rfl rfl;have hk2:=((hk1.setCell (p:=⟨g,13,none⟩) (fun _ _=>HH.out.gd) (.int .i64 0)).setCell (p:=⟨g,14,none⟩) (fun _ _=>HH.out.gd) (.int .i64 0)).setCell (p:=⟨g,18,none⟩) (fun _ _=>HH.out.gd) (.bool false);have bb2:=((bb.far (p:=⟨g,13,none⟩) hbg (.int .i64 0)).far (p:=⟨g,14,none⟩) hbg (.int .i64 0)).far (p:=⟨g,18,none⟩) hbg (.bool false);have HA2:=ah hA2;have wG:=ah hk2;have HB2:=ah bb2;clear hA1 hk1 HP Rf hA2 hk2 bb2 bb Eg;go_wp2_with fail;generalize (((w1.setCell ⟨g,13,none⟩ (.int .i64 0)).setCell ⟨g,14,none⟩ (.int .i64 0)).setCell ⟨g,18,none⟩ (.bool false))=w2 at*;have z2:=HA2.out.blk.cell 2;have z15:=HA2.out.blk.cell 15;have z16:=HA2.out.blk.cell 16;have z17:=HA2.out.blk.cell 17;have z20:=HA2.out.blk.cell 20;have g15:=HA2.out.blk.frozen 15;have g16:=HA2.out.blk.frozen 16;have g17:=HA2.out.blk.frozen 17;simp[dS] at z2 z15 z16 z17 z20;have hnx:=fun k=>qN (HA2.out.drewN k) hf (by show st.out.length≤_;omega)
  have hnn:bP {st with dN:=0,bytes:=0,eB:=false}=bP st:=rfl;rw[hnn] at hnx;have hnb:bP st≤1023:=by unfold bP;omega
  have AQ:=ah hnx;clear hnx hnn b0 b1 b2 b3 b4 b5 b6 b7 y13 CG aa0 e13 e14 e18
  go_region_held3 (fun w'=>w'.cell? ⟨g,2,none⟩=some (.int .i64 c.timer)∧w'.cell? ⟨g,20,none⟩=some (.int .i64 st.now)) (first|go_keep|(constructor<;>(repeat (first|exact z2|exact z20|refine JO ?_ (by decide) _))))
   ((go_at_call 87;refine (AQ.out _).mono ?_;rintro e1 w1 ⟨rfl,q,rfl⟩))
  have aa1:bits BinOp.and IntKind.i64 (IntKind.i64.wrap ((bP st:Nat)+1023:Int)) 1023=(((bP st+1023)%1024:Nat):Int):=by
   rw[IntWalk.i64_in _ (by omega),tZ];omega
  simp only[aa1];generalize hpp:(bP st+1023)%1024=pp at*;have HPP:=ah hpp;generalize hxx:IntKind.i64.wrap (st.now+c.timer)=xx at*;have Vd:=ah hxx;have hA3:=(((HA2.out.drewN (1+q)).mQ 15 (.int .i64 (pp:Nat)) (st':= {st with dN:=0,bytes:=0,eB:=false,polled:=pp}) rfl rfl rfl).mQ 16 (.bool true) (st':= {st with dN:=0,bytes:=0,eB:=false,polled:=pp,wait:=true}) rfl rfl rfl).mQ 17 (.int .i64 xx) (st':= {st with dN:=0,bytes:=0,eB:=false,polled:=pp,wait:=true,fK:=xx}) rfl rfl rfl;have hk3:=(((wG.out.iy (1+q)).setCell (p:=⟨g,15,none⟩) (fun _ _=>HH.out.gd) (.int .i64 (pp:Nat))).setCell (p:=⟨g,16,none⟩) (fun _ _=>HH.out.gd) (.bool true)).setCell (p:=⟨g,17,none⟩) (fun _ _=>HH.out.gd) (.int .i64 xx);have bb3:=(((HB2.out.drewN (1+q)).far (p:=⟨g,15,none⟩) hbg (.int .i64 (pp:Nat))).far (p:=⟨g,16,none⟩) hbg (.bool true)).far (p:=⟨g,17,none⟩) hbg (.int .i64 xx);clear aa1 hpp hxx z2 z15 z16 z17 z20 g15 g16 g17;generalize ((((w2.drewN (1+q)).setCell ⟨g,15,none⟩ (.int .i64 (pp:Nat))).setCell ⟨g,16,none⟩ (.bool true)).setCell ⟨g,17,none⟩ (.int .i64 xx))=w3 at*;obtain ⟨b0,b1,b2,b3,b4,b5,b6,b7⟩:=bb3.eight;have hsl:=Ru.out _ hk3;have henc:=yZ sn true sg la off s e A n cc vl ps w3 hsl HV.out hoff;unfold bH at henc;have HE:=ah henc;have wh:=ah hA3;have lX:=ah hk3;clear hA3 hk3 hsl henc bb3 Ru;go_wp2_with fail;refine HE.out.mono ?_;rintro e3 w4 ⟨vb,rfl,hvb,hb3⟩;go_wp2;go_ret;have hz:=lX.out.size
  have hfn:tX st c= {st with dN:=0,bytes:=0,eB:=false,polled:=pp,wait:=true,fK:=xx}:=by unfold tX;rw[HPP.out,Vd.out]
  rw[hfn];exact ⟨vb,rfl,aU hvb hz,kX.step lX.out (bW.refl _ _) (bW.refl _ _) ((wh.out.below hb3).o ((Kept.of_below hb3).fE fun k o ho hm=>by have:=lt_of_heap ho;omega))⟩
end
end
section
theorem mD (p:List UInt8) (ps:List (List UInt8)):aj (p::ps)=p.length+aj ps:=by simp[aj]
def mU:List (List UInt8)→Nat→Nat→List (List UInt8)
 | [],_,_=> []
 |p::ps,x,y=>if x<min p.length y then (p.take y).drop x::mU ps (x-p.length) (y-p.length) else mU ps (x-p.length) (y-p.length)
theorem uO:∀(ps:List (List UInt8)) (x y:Nat),(mU ps x y).flatten=(ps.flatten.take y).drop x
 | [],_,_=>by simp[mU]
 |p::ps,x,y=>by
  have ih:=uO ps (x-p.length) (y-p.length);rw[List.flatten_cons,List.take_append,List.drop_append,List.length_take];simp only[mU];by_cases hx:x<min p.length y
  ·rw[if_pos hx,List.flatten_cons,ih]
   congr 1
   by_cases hy:p.length≤y
   ·rw[show x-min y p.length=x-p.length by omega]
   ·rw[show y-p.length=0 by omega];simp
  ·rw[if_neg hx,ih,List.drop_of_length_le (i:=x) (l:=p.take y) (by simp;omega)];by_cases hy:p.length≤y
   ·rw[show x-min y p.length=x-p.length by omega];simp
   ·rw[show y-p.length=0 by omega];simp
theorem zQ (ps:List (List UInt8)) (x y:Nat) (h:y≤aj ps):aj (mU ps x y)=y-x:=by
 rw[←lu,uO,List.length_drop,List.length_take,lu];omega
theorem zR:∀(ps:List (List UInt8)) (x y:Nat),∀q∈mU ps x y,1≤q.length
 | [],_,_,q,hq=>by simp[mU] at hq
 |p::ps,x,y,q,hq=>by
  simp only[mU] at hq;by_cases hx:x<min p.length y
  ·rw[if_pos hx,List.mem_cons] at hq;rcases hq with rfl|hq
   ·simp;omega
   ·exact zR ps _ _ q hq
  ·rw[if_neg hx] at hq;exact zR ps _ _ q hq
theorem qB:∀(ps:List (List UInt8)) (x y:Nat),(mU ps x y).length≤ps.length
 | [],_,_=>by simp[mU]
 |p::ps,x,y=>by
  have:=qB ps (x-p.length) (y-p.length);simp only[mU];split
  ·simp;omega
  ·simp;omega
theorem zS:∀(ps:List (List UInt8)) (x y:Nat),(∀i,i+1<ps.length→(ps[i]?.getD []).length≤2047)→∀i,i+1<(mU ps x y).length→((mU ps x y)[i]?.getD []).length≤2047
 | [],_,_,_,i,hi=>by simp[mU] at hi
 |p::ps,x,y,h,i,hi=>by
  have hr:∀i,i+1<ps.length→(ps[i]?.getD []).length≤2047:=fun i hi=>by
   have:=h (i+1) (by simp;omega);simpa using this
  have ih:=zS ps (x-p.length) (y-p.length) hr;have hl:=qB ps (x-p.length) (y-p.length);simp only[mU] at hi ⊢;by_cases hx:x<min p.length y
  ·rw[if_pos hx] at hi ⊢;cases i with
   |zero=>
    have:=h 0 (by simp at hi ⊢;omega);simp at this ⊢;omega
   |succ i=>
    have:=ih i (by simp at hi;omega);simpa using this
  ·rw[if_neg hx] at hi ⊢;exact ih i hi
theorem TA (ps:List (List UInt8)) (x y:Nat) (h:x<y) (hy:y≤aj ps):1≤(mU ps x y).length:=by
 have:=zQ ps x y hy;rcases Nat.eq_zero_or_pos (mU ps x y).length with h0|h0
 ·rw[List.length_eq_zero_iff] at h0;rw[h0] at this;simp[aj] at this;omega
 ·exact h0
theorem JP (ps:List (List UInt8)) (x y:Nat) (hv:rV ps) (h:x<y) (hy:y≤aj ps):rV (mU ps x y):=
 ⟨TA ps x y h hy,Nat.le_trans (qB ps x y) hv.hi,zR ps x y,zS ps x y hv.short,by rw[zQ ps x y hy];have:=hv.sum;omega⟩
theorem Ex (p:List UInt8) (ps:List (List UInt8)) (off fr till k:Nat):kV (p::ps) off fr till (k+1)=kV ps (off+p.length) fr till k:=by
 unfold kV;simp only[List.take_succ_cons,mD,Nat.add_assoc]
theorem Ey (p:List UInt8) (ps:List (List UInt8)) (off fr till k:Nat):og (p::ps) off fr till (k+1)=og ps (off+p.length) fr till k:=by
 unfold og;simp only[List.take_succ_cons,mD,Nat.add_assoc,List.getElem?_cons_succ]
theorem rM (p:List UInt8) (ps:List (List UInt8)) (off fr till:Nat):∀k,aS (p::ps) off fr till (k+1)=(if kV (p::ps) off fr till 0 then [og (p::ps) off fr till 0] else [])++aS ps (off+p.length) fr till k
 |0=>by
  simp only[aS];split<;>simp
 |k+1=>by
  have ih:=rM p ps off fr till k;rw[aS,ih,Ex,Ey]
  conv=>rhs;rw[aS]
  split<;>split<;>simp
theorem mV:∀(ps:List (List UInt8)) (off fr till:Nat),aS ps off fr till ps.length=mU ps (fr-off) (till-off)
 | [],_,_,_=>rfl
 |p::ps,off,fr,till=>by
  have ih:=mV ps (off+p.length) fr till;rw[List.length_cons,rM,ih,mU,show fr-(off+p.length)=fr-off-p.length by omega,show till-(off+p.length)=till-off-p.length by omega];have hh:kV (p::ps) off fr till 0=decide (fr-off<min p.length (till-off)):=by
   unfold kV;simp only[List.take_zero,List.take_succ_cons,mD,yD];rw[Bool.eq_iff_iff];simp only[decide_eq_true_eq];omega
  rw[hh];by_cases hx:fr-off<min p.length (till-off)
  ·rw[if_pos (by simpa using hx),if_pos hx,List.singleton_append]
   congr 1
   unfold og;simp only[List.take_zero,List.take_succ_cons,mD,yD,List.getElem?_cons_zero,Option.getD_some,Nat.add_zero];rw[List.take_drop,show max off fr-off=fr-off by omega]
   congr 1
   by_cases h1:p.length≤till-off
   ·rw[List.take_of_length_le (by omega),List.take_of_length_le h1]
   ·congr 1;omega
  ·rw[if_neg (by simpa using hx),if_neg hx,List.nil_append]
theorem TB (ps:List (List UInt8)) (off a d:Nat) (h0:off≤a) (h4:d≤off+aj ps):aj (aS ps off a d ps.length)=d-a:=by
 rw[mV,zQ _ _ _ (by omega)];omega
theorem C6 (ps:List (List UInt8)) (off a d:Nat) (hv:rV ps) (h0:off≤a) (h1:a<d) (h4:d≤off+aj ps):rV (aS ps off a d ps.length):=by
 rw[mV];exact JP ps _ _ hv (by omega) (by omega)
end
section
open Go.RowKit
attribute [local go_sem] Oper.semAt_some
def mR (l:List (Nat × Nat)):List Value:=l.flatMap (fun r=> [.int .i64 (r.1:Nat),.int .i64 (r.2:Nat)])
theorem sK (l:List (Nat × Nat)):(mR l).length=l.length*2:=by
 induction l with
 |nil=>rfl
 |cons r t ih=>
  simp only[mR,List.flatMap_cons,List.length_append,List.length_cons,List.length_nil] at ih ⊢;omega
theorem Gi (r:Nat × Nat) (t:List (Nat × Nat)):mR (r::t)= .int .i64 (r.1:Nat):: .int .i64 (r.2:Nat)::mR t:=by simp[mR]
theorem uG (a b:List (Nat × Nat)):mR (a++b)=mR a++mR b:=by simp[mR]
theorem yh:∀(l:List (Nat × Nat)) (j:Nat) (r:Nat × Nat),l[j]? =some r→(mR l)[j*2]? =some (.int .i64 (r.1:Nat))∧(mR l)[j*2+1]? =some (.int .i64 (r.2:Nat))
 | [],j,r,h=>by simp at h
 |x::t,0,r,h=>by
  simp at h;subst h;rw[Gi];exact ⟨rfl,rfl⟩
 |x::t,j+1,r,h=>by
  have ih:=yh t j r (by simpa using h);rw[Gi];rw[show (j+1)*2=j*2+1+1 by omega];exact ih
theorem SN (l:List (Nat × Nat)):∀u∈mR l,u.oneCell'=true:=by
 intro u hu;simp only[mR,List.mem_flatMap,List.mem_cons,List.not_mem_nil,or_false] at hu;obtain ⟨r,_,rfl|rfl⟩:=hu<;>rfl
section
variable {w w':World} {A:Option Addr} {n c:Nat} {l:List (Nat × Nat)}
theorem dG.cells {ad:Addr} (h:dG w (some ad) n c l):∀j u,(mR l)[j]? =some u→w.cell? (ad.add j)=some u:=by
 intro j u hu;have hj:=(List.getElem?_eq_some_iff.1 hu).1;rw[sK] at hj;have hn:=h.len;obtain ⟨yu,e,hb,hc⟩:=h.at_ (by omega);cases e;obtain ⟨r,hr⟩:∃r,l[j/2]? =some r:=⟨_,List.getElem?_eq_getElem (by omega)⟩
 obtain ⟨g1,g2⟩:=yh l _ r hr;obtain ⟨k1,k2⟩:=hc _ r hr;rcases Nat.mod_two_eq_zero_or_one j with hm|hm
 ·have e2:j/2*2=j:=by omega
  rw[e2] at g1 k1;rw[g1] at hu;cases hu;exact k1
 ·have e2:j/2*2+1=j:=by omega
  rw[e2] at g2 k2;rw[g2] at hu;cases hu;exact k2
theorem dG.cB {base:Nat} {v:Value} (h:w.ownsRow base 39 2 v l.length (mR l)):
 ∃A c,v= .slice A l.length c∧dG w A l.length c l∧(∀ad,A=some ad→base≤ad.block∧ad.block<w.heap.size):=by
 rcases h.2 with ⟨rfl,hn⟩|⟨g,cap,cur,rfl,hb,hg,hnc,hcm,hcs,ht⟩
 ·have:=List.eq_nil_of_length_eq_zero hn;subst this;exact ⟨none,0,rfl,dG.nil w,fun ad e=>by cases e⟩
 ·refine ⟨_,_,rfl,⟨rfl,hnc,by unfold maxLen at hcm;omega,fun _=>⟨_,rfl,lt_of_heap hg,fun j r hr=> ?_⟩⟩,fun ad e=>by cases e;exact ⟨hb,lt_of_heap hg⟩⟩;have hc:=fun j u (hu:(mR l)[j]? =some u)=>h.cells (g:=g) rfl j u hu
  obtain ⟨g1,g2⟩:=yh l j r hr;exact ⟨hc _ _ g1,hc _ _ g2⟩
theorem dG.tail {ad:Addr} {r:Nat × Nat} (h:dG w (some ad) (n+1) c (r::l)):dG w (some (if c=1 then ad else ad.add 2)) n (c-1) l:=by
 have hl:=h.len;have hc:=h.cap;have hm:=h.mx;simp at hl;refine ⟨hl,by omega,by omega,fun hn=> ?_⟩;obtain ⟨yu,e,hb,hcl⟩:=h.at_ (by omega);cases e;rw[if_neg (by omega)];refine ⟨_,rfl,by rw[block_add];exact hb,fun j q hq=> ?_⟩;have:=hcl (j+1) q (by simpa using hq);rw[add_add,add_add,show 2+j*2=(j+1)*2 by omega,show 2+(j*2+1)=(j+1)*2+1 by omega];exact this
theorem dG.below (h:dG w A n c l) (hb:Below w.heap.size w w'):dG w' A n c l:=by
 rcases Nat.eq_zero_or_pos n with h0|h0
 ·exact ⟨h.len,h.cap,h.mx,fun hn=>by omega⟩
 ·obtain ⟨ad,e,hlt,hc⟩:=h.at_ h0;exact h.stay fun yu e'=>hb.block _ (by rw[e] at e';cases e';exact hlt)
theorem dG.alloc (h:dG w A n c l) (o:Obj):dG (w.alloc o) A n c l:=h.below ((Below.refl _ w).alloc (aN) o)
end
theorem SS:(Tryz.prog.info? 39).map (fun i=>(i.zero,i.size,i.bytes))=some (some (.agg #[.int .i64 0,.int .i64 0]),2,16):=by kernel_rfl
theorem nH:∃i,Tryz.prog.info? 39=some i∧i.zero=some (.agg #[.int .i64 0,.int .i64 0])∧i.size=2∧i.bytes=16:=by
 have h:=SS;cases hi:Tryz.prog.info? 39 with
 |none=>rw[hi] at h;cases h
 |some i=>
  rw[hi] at h;simp only[Option.map_some,Option.some.injEq,Prod.mk.injEq] at h;exact ⟨i,rfl,h.1,h.2.1,h.2.2⟩
theorem qp:Tryz.prog.underlying 150=some (.slice 39):=by kernel_rfl
section
variable {P:Program} (w:World)
theorem BD (base:Nat) (t ty e:TypeId) (i:TypeInfo) (z:Value) (bytes:Nat) (ht:P.underlying t=some (.slice e)) (hi:P.info? e=some i) (hz:i.zero=some z)
 (hsize:i.size=2) (hby:i.bytes=bytes) (hzs:z.cells.size=2)
 (v:Value) (n:Nat) (xs:List Value) (hown:w.ownsRow base e 2 v n xs)
 (A:Option Addr) (m c:Nat) (l:List (Nat × Nat)) (hr:dG w A m c l)
 (h63:n+m≤maxLen) (hbytes:(n+m)*bytes≤140737488355328) (hbase:base≤w.heap.size):
 ∃v' w',(Builtin.append_ #[t,t] ty #[v,.slice A m c]).run P w= .ok v' w'∧w'.ownsRow base e 2 v' (n+m) (xs++mR l)∧w.grownBy w' v.ownBlock∧
  (v'.ownBlock=v.ownBlock∨v'.ownBlock=some w.heap.size):=by
 rcases A with _|ad
 ·have hm:m=0:=by
   rcases Nat.eq_zero_or_pos m with h0|h0
   ·exact h0
   ·obtain ⟨ad,h,_⟩:=hr.at_ h0;cases h
  subst hm;have hn:l= []:=List.eq_nil_of_length_eq_zero hr.len;subst hn;exact ⟨v,w,jy w base t ty e i 2 ht hi v n xs hown c,by simpa[mR] using hown,World.grownBy.refl w _,.inl rfl⟩
 ·obtain ⟨v',w',hrun,h2,h3,_,h5⟩:=run_append_own_at (P:=P) w base t ty e i z 2 bytes ht hi hz hsize hby hzs (by omega) v n xs hown ad m c (mR l) (by rw[sK,hr.len]) hr.cells (SN l) h63 hbytes hbase;exact ⟨v',w',hrun,h2,h3,h5⟩
theorem uH {o:Oper} {a:Act} {K:Act→World→Prop} {Q:Exit→Act→World→Prop} (s x:Operand) (t:TypeId)
 (ho:o.op= .call {callee:= .builtin .append,args:= #[s,x],argTypes:= #[t,t]})
 (base:Nat) (e:TypeId) (i:TypeInfo) (z:Value) (bytes:Nat) (ht:P.underlying t=some (.slice e)) (hi:P.info? e=some i) (hz:i.zero=some z)
 (hsize:i.size=2) (hby:i.bytes=bytes) (hzs:z.cells.size=2)
 (v:Value) (n:Nat) (xs:List Value) (hs:a.eval s=v) (hown:w.ownsRow base e 2 v n xs)
 (A:Option Addr) (m c:Nat) (l:List (Nat × Nat)) (hx:a.eval x= .slice A m c) (hr:dG w A m c l)
 (h63:n+m≤maxLen) (hbytes:(n+m)*bytes≤140737488355328) (hbase:base≤w.heap.size)
 (h:∀v' w',w'.ownsRow base e 2 v' (n+m) (xs++mR l)→w.grownBy w' v.ownBlock→(v'.ownBlock=v.ownBlock∨v'.ownBlock=some w.heap.size)→K (a.put o.dst v') w'):o.wp P a w K Q:=by
 obtain ⟨v',w',hrun,h2,h3,h4⟩:=BD (P:=P) w base t o.type e i z bytes ht hi hz hsize hby hzs v n xs hown A m c l hr h63 hbytes hbase;unfold Oper.wp execOp;simp only[ho,resolve,invoke,builtin,Sem.run_bind,Sem.run_pure,Result.andThen_ok,List.map_toArray,List.map_cons,List.map_nil,hs,hx,hrun];exact h v' w' h2 h3 h4
theorem gD {ops:Array Oper} {rest:List Oper} {o:Oper} {a:Act} {Q:Exit→Act→World→Prop} (hgd:o.guard=none) (s x:Operand) (t:TypeId)
 (ho:o.op= .call {callee:= .builtin .append,args:= #[s,x],argTypes:= #[t,t]})
 (base:Nat) (e:TypeId) (i:TypeInfo) (z:Value) (bytes:Nat) (ht:P.underlying t=some (.slice e)) (hi:P.info? e=some i) (hz:i.zero=some z)
 (hsize:i.size=2) (hby:i.bytes=bytes) (hzs:z.cells.size=2)
 (v:Value) (n:Nat) (xs:List Value) (hs:a.eval s=v) (hown:w.ownsRow base e 2 v n xs)
 (A:Option Addr) (m c:Nat) (l:List (Nat × Nat)) (hx:a.eval x= .slice A m c) (hr:dG w A m c l)
 (h63:n+m≤maxLen) (hbytes:(n+m)*bytes≤140737488355328) (hbase:base≤w.heap.size)
 (h:∀v' w',w'.ownsRow base e 2 v' (n+m) (xs++mR l)→w.grownBy w' v.ownBlock→(v'.ownBlock=v.ownBlock∨v'.ownBlock=some w.heap.size)→wpList P ops Q rest (a.put o.dst v') w'):wpList P ops Q (o::rest) a w:=
 wpList_plain hgd fun _ hK=>uH w s x t ho base e i z bytes ht hi hz hsize hby hzs v n xs hs hown A m c l hx hr h63 hbytes hbase fun v' w' h2 h3 h4=>hK _ _ (h v' w' h2 h3 h4)
end
def yj (w:World) (l:List (Nat × Nat)) (e:Ending) (w':World):Prop:=
 ∃v,e= .returned v∧w'.ownsRow w.heap.size 39 2 v l.length (mR l)∧Below w.heap.size w w'
set_option maxRecDepth 3000 in
set_option maxHeartbeats 400000 in
theorem wT (A:Option Addr) (n c:Nat) (l:List (Nat × Nat)) (w:World) (h:dG w A n c l) (hsm:n≤1000000):
 Calls Tryz.prog 106 #[.slice A n c] w (yj w l):=by
 have hnil:=fun (W:World)=>Lib.run_eql_slice_nil (P:=Tryz.prog) W 150 39 A n c 0 0 qp
 obtain ⟨i0,hi,hz0,hz1,hz2⟩:=nH;have hl:=h.len;subst hl;have hs1:=h.alloc (.cells #[] 39);rcases A with _|ad
 ·have hl:l= []:=by
   rcases Nat.eq_zero_or_pos l.length with h0|h0
   ·exact List.eq_nil_of_length_eq_zero h0
   ·obtain ⟨_,e,_⟩:=h.at_ h0;cases e
  subst hl;simp only[List.length_nil] at hnil ⊢;clear hs1 h;go_enter Tryz.func106,Tryz.ntmps106;go_wp2;go_ret;exact ⟨_,rfl,World.ownsRow_nil _ _ _ _,Below.refl _ _⟩
 ·go_enter Tryz.func106,Tryz.ntmps106;go_wp2_with (at_builtin;refine gD _ rfl _ _ 150 rfl w.heap.size 39 i0 (.agg #[.int .i64 0,.int .i64 0]) 16 qp hi hz0 hz1 hz2 rfl (.slice (some ⟨w.heap.size,0,none⟩) 0 0) 0 [] rfl ?c0 (some ad) l.length c l rfl hs1 ?c3 ?c4 ?c5 ?_)
  case c0=>exact World.ownsRow_lit w #[] 0 (aN) (by unfold maxLen;omega) rfl
  case c3=>unfold maxLen;omega
  case c4=>omega
  case c5=>simp
  intro v' w1 hown' hgrow _;go_wp2;go_ret;exact ⟨_,rfl,by simpa using hown',((Below.refl _ w).alloc (aN) _).grown hgrow (by simp) (by simp[Value.ownBlock])⟩
set_option maxRecDepth 3000 in
set_option maxHeartbeats 400000 in
theorem Ju (n:Nat) (w:World) (hsm:n≤1000000):Calls Tryz.prog 169 #[.slice none 0 0,.int .i64 n] w (yj w []):=by
 obtain ⟨i0,hi,hz0,hz1,hz2⟩:=nH;rcases Nat.eq_zero_or_pos n with rfl|hpos
 ·go_enter Tryz.func169,Tryz.ntmps169;go_wp2;go_ret;exact ⟨_,rfl,World.ownsRow_nil _ _ _ _,Below.refl _ _⟩
 ·have hr:=Lib.run_append_nil_zeros (P:=Tryz.prog) w 150 3 150 39 i0 (.agg #[.int .i64 0,.int .i64 0]) .i64 .i64 qp (by kernel_rfl) hi hz0 n hpos (by omega) (by omega) (by rw[hz2];omega);have hcap:=grownCap_ge w n 0 39;have hmx:=grownCap_le_maxLen w n 0 39 (by unfold maxLen;omega);unfold maxLen at hmx;generalize grownCap w n 0 39=cap at*;have HR:=ah hr;clear hr;go_enter Tryz.func169,Tryz.ntmps169;go_wp2_with (at_builtin;refine Lib.wpList_append_run _ rfl _ _ 150 3 rfl (.slice none 0 0) (.int .i64 n) rfl rfl _ _ HR.out ?_);go_ret;refine ⟨_,rfl,⟨rfl,.inr ⟨w.heap.size,cap,_,rfl,aN,heap_alloc_new w _,Nat.zero_le _,by unfold maxLen;omega,?_,rfl⟩⟩,((Below.refl _ w).alloc (aN) _).drew⟩;rw[Array.size_append,size_zeroCells,size_zeroCells];simp;omega
structure CO (w:World) (b:Nat) (A1 A2:Option Addr) (n1 c1 n2 c2:Nat) (l1 l2:List (Nat × Nat)):Prop where
 b:au w b 150 #[.slice A1 n1 c1,.slice A2 n2 c2]
 s1:dG w A1 n1 c1 l1
 s2:dG w A2 n2 c2 l2
theorem CO.below {w w':World} {b:Nat} {A1 A2:Option Addr} {n1 c1 n2 c2:Nat} {l1 l2:List (Nat × Nat)} (h:CO w b A1 A2 n1 c1 n2 c2 l1 l2) (hb:Below w.heap.size w w'):CO w' b A1 A2 n1 c1 n2 c2 l1 l2:=
 ⟨h.b.below hb h.b.lt,h.s1.below hb,h.s2.below hb⟩
def CQ (l1 l2:List (Nat × Nat)):Nat→List (Nat × Nat)
 |0=> []
 |1=>l1
 |_=>l1++l2
set_option maxRecDepth 3000 in
set_option maxHeartbeats 1000000 in
theorem uI (b:Nat) (A1 A2:Option Addr) (n1 c1 n2 c2:Nat) (l1 l2:List (Nat × Nat)) (w:World) (h:CO w b A1 A2 n1 c1 n2 c2 l1 l2) (h1:n1≤100000) (h2:n2≤100000):
 Calls Tryz.prog 129 #[.slice (some ⟨b,0,none⟩) 2 2] w (yj w (l1++l2)):=by
 obtain ⟨i0,hi,hz0,hz1,hz2⟩:=nH;have q1:=h.s1.cap;have q2:=h.s1.mx;have q3:=h.s2.cap;have q4:=h.s2.mx;have hl1:=ah h.s1.len;have hl2:=ah h.s2.len;have e1:=h.b.cell 0;have e2:=h.b.cell 1;simp at e1 e2;have HH:=ah h;clear h;go_enter Tryz.func129,Tryz.ntmps129;go_wp2
 go_loop [3,11] (fun t i=>(i= .int .i64 0∧t= .int .i64 0)∨(i= .int .i64 1∧t= .int .i64 (n1:Nat))∨(i= .int .i64 2∧t= .int .i64 (n1+n2:Nat))) (fun _ i=>2-(intOf i).toNat)
 case atStart=>exact .inl ⟨rfl,rfl⟩
 case round=>
  rcases hrel with ⟨rfl,rfl⟩|⟨rfl,rfl⟩|⟨rfl,rfl⟩
  ·go_wp2
   go_round
   case rel=>exact .inr (.inl ⟨rfl,rfl⟩)
   case measure=>simp[intOf]
  ·go_wp2
   go_round
   case rel=>exact .inr (.inr ⟨rfl,by go_num⟩)
   case measure=>simp[intOf]
  ·have hgr:=Ju (n1+n2) w (by omega);have WQ:=ah hgr;clear hgr;go_wp2_with fail;refine WQ.out.mono ?_;rintro e w1 ⟨v1,rfl,hv1,hb1⟩;go_wp2
   go_loopw [6,27] (fun v i wr=>∃k:Nat,k≤2∧i= .int .i64 k∧wr.ownsRow w.heap.size 39 2 v (CQ l1 l2 k).length (mR (CQ l1 l2 k))∧Below w.heap.size w wr) (fun _ i _=>2-(intOf i).toNat)
   case atStart=>exact ⟨0,by decide,rfl,hv1,hb1⟩
   case round=>
    clear hv1 hb1;obtain ⟨k,hk,rfl,hown,hbw⟩:=hrel;have hT:=HH.out.below hbw;have SV:=hl1.out;have aad:=hl2.out;have f1:=hT.b.cell 0;have f2:=hT.b.cell 1;simp at f1 f2;obtain rfl|rfl|rfl:k=0∨k=1∨k=2:=by omega
    ·go_wp2_with (at_builtin;refine gD _ rfl _ _ 150 rfl w.heap.size 39 i0 (.agg #[.int .i64 0,.int .i64 0]) 16 qp hi hz0 hz1 hz2 rfl _ 0 [] rfl hown A1 n1 c1 l1 rfl hT.s1 ?c3 ?c4 ?c5 ?_)
     case c3=>unfold maxLen;omega
     case c4=>omega
     case c5=>exact hbw.size
     intro v' w2 hown' hgrow _;go_wp2
     go_roundw
     case rel=>exact ⟨1,by decide,by go_num,by simpa[CQ,SV] using hown',hbw.grown hgrow hbw.size (fun j hj=>(hown.lt j hj).1)⟩
     case measure=>simp[intOf]
    ·rw[show CQ l1 l2 1=l1 from rfl,SV] at hown;go_wp2_with (at_builtin;refine gD _ rfl _ _ 150 rfl w.heap.size 39 i0 (.agg #[.int .i64 0,.int .i64 0]) 16 qp hi hz0 hz1 hz2 rfl _ n1 (mR l1) rfl hown A2 n2 c2 l2 rfl hT.s2 ?c3 ?c4 ?c5 ?_)
     case c3=>unfold maxLen;omega
     case c4=>omega
     case c5=>exact hbw.size
     intro v' w2 hown' hgrow _;go_wp2
     go_roundw
     case rel=>exact ⟨2,by decide,by go_num,by rw[show CQ l1 l2 2=l1++l2 from rfl,List.length_append,SV,aad,uG];exact hown',hbw.grown hgrow hbw.size (fun j hj=>(hown.lt j hj).1)⟩
     case measure=>simp[intOf]
    ·rw[show CQ l1 l2 2=l1++l2 from rfl] at hown;clear SV aad;go_wp2;go_ret;exact ⟨_,rfl,hown,hbw⟩
end
section
open Go.RowKit
section
variable {D F D' F':Nat→Prop} {g:Nat} {c:Cf} {st st':Sd} {vq vo:Value} {vs os:List Value} {w w' w'':World}
theorem DL.sets {A:Option Addr} (h:DL F D A) (hf:∀k,F k→F' k) (hn:∀k,F k→¬D k→¬D' k):DL F' D' A:=fun ad e=>⟨hf _ (h ad e).1,hn _ (h ad e).1 (h ad e).2⟩
theorem gU.sets {p:Nat} {x:Ou} {Ap Ar:Option Addr} {cp cr:Nat} {vp:List Value} (h:gU w D F p x Ap cp vp Ar cr) (hd:∀k,D k→D' k) (hf:∀k,F k→F' k) (hn:∀k,F k→¬D k→¬D' k):gU w D' F' p x Ap cp vp Ar cr:=
 ⟨h.blk,hd p h.d,hf p h.f,h.ps,h.pf.sets hf hn,fun i v hv=>(h.pe i v hv).sets hf hn,h.rs,h.rf.sets hf hn⟩
theorem au.off {a b:Nat} {t u:TypeId} {cs ds:Array Value} (h:au w a t cs) (h':au w b u ds) (hne:t≠u):a≠b:=fun e=>by
 subst e;unfold au at h h';rw[h] at h';injection h' with h3
 injection h3 with _ h4
 exact hne h4
theorem dV.gne (h:dV w D F g c st vq vs vo os):aT vq≠some g∧aT vo≠some g:=⟨h.qr.pM h.blk (by decide),h.rX.pM h.blk (by decide)⟩
theorem dV.qne (h:dV w D F g c st vq vs vo os) (k:Nat) (hq:aT vq=some k):aT vo≠some k:=fun ho=>by
 obtain ⟨c1,h1,_⟩:=h.qr.row hq;obtain ⟨c2,h2,_⟩:=h.rX.row ho;rw[h1] at h2;injection h2 with h3
 injection h3 with _ h4
 exact absurd h4 (by decide)
theorem dV.oes (h:dV w D F g c st vq vs vo os) (hk:∀k,F k→k≠g→aT vq≠some k→aT vo≠some k→w'.heap[k]? =w.heap[k]?):
 ∀(i:Nat) (x:Ou),st.out[i]? =some x→∃p Ap cp vp Ar cr,os[i]? =some (.pointer (some ⟨p,0,none⟩))∧gU w' D F p x Ap cp vp Ar cr:=fun i x hx=>by
 obtain ⟨p,Ap,cp,vp,Ar,cr,e,ho⟩:=h.oe i x hx;have nd:∀{A:Option Addr},DL F D A→∀ad,A=some ad→w'.heap[ad.block]? =w.heap[ad.block]? :=fun hi ad ea=>hk _ (hi ad ea).1 (fun e2=>(hi ad ea).2 (by rw[e2];exact h.gd)) (fun e2=>(hi ad ea).2 (h.qd _ e2)) (fun e2=>(hi ad ea).2 (h.od _ e2))
 have hp:w'.heap[p]? =w.heap[p]? :=hk p ho.f (fun e2=>ho.blk.off h.blk (by decide) e2) (h.qr.pM ho.blk (by decide)) (h.rX.pM ho.blk (by decide));exact ⟨p,Ap,cp,vp,Ar,cr,e,hp.trans ho.blk,ho.d,ho.f,ho.ps.stay (nd ho.pf) (fun i v ad hv ea=>nd (ho.pe i v hv) ad ea),ho.pf,ho.pe,ho.rs.stay (nd ho.rf),ho.rf⟩
theorem dV.qes (h:dV w D F g c st vq vs vo os) (hk:∀k,F k→k≠g→aT vq≠some k→aT vo≠some k→w'.heap[k]? =w.heap[k]?):
 ∀(i:Nat) (p:List UInt8),st.queue[i]? =some p→∃A cc,vs[i]? =some (.slice A p.length cc)∧Sl w' w'.heap.size A p.length cc (bO p)∧DL F D A:=fun i p hp=>by
 obtain ⟨A,cc,e,hs,hf⟩:=h.qe i p hp;exact ⟨A,cc,e,hs.stay (fun ad ea=>hk _ (hf ad ea).1 (fun e2=>(hf ad ea).2 (by rw[e2];exact h.gd)) (fun e2=>(hf ad ea).2 (h.qd _ e2)) (fun e2=>(hf ad ea).2 (h.od _ e2))),hf⟩
theorem dV.nZ (h:dV w D F g c st vq vs vo os) {w1 w5:World} {x:List UInt8} {A1 A5:Option Addr} {c1 c5:Nat} (hn:1≤x.length) (hb1:Below w.heap.size w w1) (hx:w1.ownsRow w.heap.size 5 1 (.slice A1 x.length c1) x.length (bO x))
 (hq:dR w5 0 31 (.slice A5 (st.queue.length+1) c5) (st.queue.length+1) (vs++ [.slice A1 x.length c1])) (hg:(w1.alloc (.cells #[.slice A1 x.length c1] 31)).grownBy w5 (aT vq))
 (SE:∀k,aT (.slice A5 (st.queue.length+1) c5)=some k→aT vq=some k∨(w1.alloc (.cells #[.slice A1 x.length c1] 31)).heap.size≤k):
 kX w D F g c (gK st x) (w5.setCell ⟨g,7,none⟩ (.slice A5 (st.queue.length+1) c5)):=by
 have hz1:=hb1.size;have YM:(w1.alloc (.cells #[.slice A1 x.length c1] 31)).heap.size=w1.heap.size+1:=World.size_alloc _ _;have hgl:=h.blk.lt;have hgA:=(h.blk.below hb1 hgl).alloc (.cells #[.slice A1 x.length c1] 31);have hg5:=hgA.grown hg (fun e=>h.gne.1 e.symm);have Se:=hg5.av 7 (.slice A5 (st.queue.length+1) c5);obtain ⟨A0,c0,ev,hsl,hA1⟩:=bq hx;cases ev;have Iz:=hg.size;have hh:∀k,k<w.heap.size→k≠g→aT vq≠some k→(w5.setCell ⟨g,7,none⟩ (.slice A5 (st.queue.length+1) c5)).heap[k]? =w.heap[k]? :=fun k hk hkg hkq=>by
  rw[fD (show k≠(⟨g,7,none⟩:Addr).block from hkg),hg.block k (by omega) (fun e=>hkq e.symm),Below.heap_alloc _ _ k (by omega),hb1.block k hk]
 have Pk:∀k,F k→k≠g→aT vq≠some k→aT vo≠some k→(w5.setCell ⟨g,7,none⟩ (.slice A5 (st.queue.length+1) c5)).heap[k]? =w.heap[k]? :=fun k hf h1 h2 _=>hh k (h.lt k hf) h1 h2
 obtain ⟨ad,rfl,e2⟩:=hA1 hn;have e4:ad.block<w1.heap.size:=by
  obtain ⟨alu,e3,e4,_⟩:=hsl.at_ hn;cases e3;exact e4
 have KG:(w5.setCell ⟨g,7,none⟩ (.slice A5 (st.queue.length+1) c5)).heap.size=w5.heap.size:=by simp[World.setCell]
 have US:=hq.store hg5 (by decide) (i:=7) (.slice A5 (st.queue.length+1) c5);have Gu:∀k,aT (.slice A5 (st.queue.length+1) c5)=some k→D k∨w1.heap.size+1≤k:=fun k hk=>by
  rcases SE k hk with e|e
  ·exact .inl (h.qd k e)
  ·exact .inr (by omega)
 have hnn:∀k,F k→¬D k→¬(D k∨aT (.slice A5 (st.queue.length+1) c5)=some k):=fun k hf hd e=>by
  rcases e with e|e
  ·exact hd e
  ·rcases Gu k e with e|e
   ·exact hd e
   ·have:=h.lt k hf;omega
 refine ⟨fun k=>D k∨aT (.slice A5 (st.queue.length+1) c5)=some k,fun k=>F k∨aT (.slice A5 (st.queue.length+1) c5)=some k∨k=ad.block,.slice A5 (st.queue.length+1) c5,vs++ [.slice (some ad) x.length c1],vo,os,⟨?_,.inl h.gd,?_,?_,?_,fun k hk=> .inr hk,?_,?_,fun k hk=> .inl (h.od k hk),?_,h.inj⟩,?_,?_,?_⟩
 ·exact Se
 ·rintro k (hk|hk)
  ·exact .inl (h.sub k hk)
  ·exact .inr (.inl hk)
 ·rintro k (hk|hk|rfl)
  ·have:=h.lt k hk;omega
  ·exact (US.lt hk).2
  ·omega
 ·have hl:(gK st x).queue.length=st.queue.length+1:=by simp[gK]
  rw[hl];exact US
 ·intro i p hi;have hi':(st.queue++ [x])[i]? =some p:=hi;rcases Nat.lt_or_ge i st.queue.length with hlt|hge
  ·rw[List.getElem?_append_left hlt] at hi';obtain ⟨A,cc,k1,k2,k3⟩:=h.qes Pk i p hi';exact ⟨A,cc,by rw[List.getElem?_append_left (by rw[h.qr.1];exact hlt)];exact k1,k2,k3.sets (fun k hk=> .inl hk) hnn⟩
  ·have hi0:i=st.queue.length:=by
    have:=(List.getElem?_eq_some_iff.1 hi').1;simp at this;omega
   subst hi0;simp at hi';subst hi';refine ⟨some ad,c1,by rw[←h.qr.1];simp,hsl.stay fun yu e=> ?_,fun yu e=> ?_⟩
   ·cases e;rw[fD (show ad.block≠(⟨g,7,none⟩:Addr).block by show ad.block≠g;omega),hg.block _ (by omega) (fun e=>by
     have:=(h.qr.lt e.symm).2;omega),Below.heap_alloc _ _ _ (by omega)]
   ·cases e;refine ⟨.inr (.inr rfl),?_⟩;rintro (hd|hd)
    ·have:=h.lt _ (h.sub _ hd);omega
    ·rcases SE _ hd with e|e
     ·have:=(h.qr.lt e).2;omega
     ·omega
 ·exact h.rX.keep fun k hk=>hh k (h.rX.lt hk).2 (fun e=>h.gne.2 (by rw[←e];exact hk)) (fun e=>h.qne k e hk)
 ·intro i y hi;obtain ⟨p,Ap,cp,vp,Ar,cr,k1,k2⟩:=h.oes Pk i y hi;exact ⟨p,Ap,cp,vp,Ar,cr,k1,k2.sets (fun k hk=> .inl hk) (fun k hk=> .inl hk) hnn⟩
 ·rintro k (hk|hk)
  ·exact .inl hk
  ·rcases Gu k hk with e|e
   ·exact .inl e
   ·exact .inr (by omega)
 ·rintro k (hk|hk|rfl)
  ·exact .inl hk
  ·rcases Gu k hk with e|e
   ·exact .inl (h.sub k e)
   ·exact .inr (by omega)
  ·exact .inr e2
 ·have hk1:Kept (fun k _=>D k) w w1:=(Kept.of_below hb1).fE fun k o ho hm=>by have:=lt_of_heap ho;omega
  exact ((hk1.alloc _).grown hg (fun k hk o ho=>h.qd k hk)).setCell (p:=⟨g,7,none⟩) (fun _ _=>h.gd) _
end
end
end Go.Proofs.YtbhiklnljiehiaaGreat
