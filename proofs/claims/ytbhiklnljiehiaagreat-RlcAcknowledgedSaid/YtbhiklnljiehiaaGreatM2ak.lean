/- ampdu.Decode: must, got, the chunk. ampd. -/
import Derived.Test.YtbhiklnljiehiaaGreatM2ai
import Derived.Test.YtbhiklnljiehiaaGreatM2aj
namespace Go.Proofs.YtbhiklnljiehiaaGreat
open Go.RowKit Go.Shelf
attribute [local go_sem] Oper.semAt_some
theorem iG (er:Int) (w:World):Calls Tryz.prog 150 #[.bool true,.int .i64 er] w fun e w'=>e= .returned (.tuple #[])∧w=w':=by
 go_enter Tryz.func150,Tryz.ntmps150;go_wp2
 go_end0
 exact ⟨rfl,rfl⟩
theorem fI (er:Int) (w:World):Calls Tryz.prog 150 #[.bool false,.int .i64 er] w fun e w'=>e=raise er∧w=w':=by
 unfold raise;go_enter Tryz.func150,Tryz.ntmps150;go_wp2;exact ⟨rfl,rfl,rfl⟩
theorem D4 (x:Int) (w:World):Calls Tryz.prog 188 #[.int .u64 x,.int .i64 0] w fun e w'=>e= .returned (.int .u64 x)∧w=w':=by
 go_enter Tryz.func188,Tryz.ntmps188;go_wp2_with (go_at_call 150;refine (iG _ _).mono ?_;rintro e w' ⟨rfl,rfl⟩);go_ret;exact ⟨rfl,rfl⟩
theorem OQ (x er:Int) (AL:(er==0)=false) (w:World):Calls Tryz.prog 188 #[.int .u64 x,.int .i64 er] w fun e w'=>e=raise er∧w=w':=by
 go_enter Tryz.func188,Tryz.ntmps188;go_wp2_with (go_at_call 150;refine (fI _ _).mono ?_;rintro e w' ⟨rfl,rfl⟩);exact ⟨rfl,rfl,rfl⟩
theorem zi (A:Option Addr) (n c:Nat) (w:World):Calls Tryz.prog 149 #[.slice A n c,.int .i64 0] w fun e w'=>e= .returned (.slice A n c)∧w=w':=by
 go_enter Tryz.func149,Tryz.ntmps149;go_wp2_with (go_at_call 150;refine (iG _ _).mono ?_;rintro e w' ⟨rfl,rfl⟩);go_ret;exact ⟨rfl,rfl⟩
theorem Cu (A:Option Addr) (n c:Nat) (er:Int) (AL:(er==0)=false) (w:World):Calls Tryz.prog 149 #[.slice A n c,.int .i64 er] w fun e w'=>e=raise er∧w=w':=by
 go_enter Tryz.func149,Tryz.ntmps149;go_wp2_with (go_at_call 150;refine (fI _ _).mono ?_;rintro e w' ⟨rfl,rfl⟩);exact ⟨rfl,rfl,rfl⟩
theorem vO {w w':World} {b b':Nat} {e e':TypeId} {n n':Nat} {v v':Value} {xs xs':List Value} (h:w.ownsRow b e 1 v n xs) (h':w.ownsRow b' e' 1 v' n' xs') (hne:e≠e') (hg:w.grownBy w' v'.ownBlock):w'.ownsRow b e 1 v n xs:=by
 refine h.kept hg ?_;rcases hv:v.ownBlock with _|j
 ·exact .inl rfl
 ·refine .inr (fun e1=> ?_);obtain ⟨o1,ho1,⟨cs1,Zg,rfl⟩,_⟩:=bU h hv;obtain ⟨o2,ho2,⟨cs2,Yu,rfl⟩,_⟩:=bU h' e1.symm;rw[ho1] at ho2;cases ho2;exact hne rfl
def iV (bs:List UInt8) (more:Bool) (pos:Nat):Sum Nat (List (List UInt8)):=
 match rR bs more pos with
 | .inl er=> .inl er
 | .inr (ls,p)=>ku ls (bs.drop (p/8))
def Sg (w:World) (r:Nat) (s e:Bool) (R:Sum Nat (List (List UInt8))) (en:Ending) (w':World):Prop:=
 Kept (fun k _=>k=r∨w.heap.size≤k) w w'∧
 ((∃er:Nat,R= .inl er∧en=raise er)∨(∃ps A c,R= .inr ps∧en= .returned (.agg #[.bool s,.bool e,.slice A ps.length c])∧eT w' w.heap.size (.slice A ps.length c) ps))
set_option maxRecDepth 100000 in
set_option maxHeartbeats 8000000 in
theorem LY (r d:Nat) (v:Value) (A0:Option Addr) (n0 c0:Nat) (bs:List UInt8) (s e more:Bool) (pos:Nat) (w:World) (h:jO w r v bs pos) (hd:au w d 234 #[.pointer (some ⟨r,0,none⟩),.slice A0 n0 c0])
 (hb:∀W,Kept (fun k _=>k=r∨w.heap.size≤k) w W→Sl W W.heap.size A0 n0 c0 (bO bs)) (hsm:bs.length≤1000000000) (hp:pos≤8*bs.length):
 Calls Tryz.prog 151 #[.pointer (some ⟨d,0,none⟩),.bool s,.bool e,.bool more] w (Sg w r s e (iV bs more pos)):=by
 obtain ⟨i0,hi,hz0,hz1,hz2⟩:=info_parts yF;obtain ⟨j0,hj0,hm0,hm1,hm2⟩:=info_parts nV;have hrd:d≠r:=by
  rintro rfl;have h1:=h.1;unfold au at h1 hd;rw[h1] at hd;injection hd with hd
  injection hd with _ h2
  exact absurd h2 (by decide)
 have hdl:=hd.lt;have hrl:=h.1.lt;have pG:=ah hsm;have HP:=ah hp;have HB:=ah hb;clear hsm hp hb;obtain ⟨R,hR⟩:∃R,fZ bs 64 more pos []=R:=⟨_,rfl⟩
 have hRR:rR bs more pos=jT bs R:=by rw[←hR];rfl
 obtain ⟨CR,hCR⟩:∃CR,iV bs more pos=CR:=⟨_,rfl⟩
 have Si:=hCR;unfold iV at Si;rw[hCR];rw[hRR] at Si;have HR:=ah hR;have ZO:=ah Si;clear hR hRR hCR Si;go_enter Tryz.func151,Tryz.ntmps151;go_wp2;have hk0:Kept (fun k _=>k=r∨w.heap.size≤k) w ((w.alloc (.cells #[.bool false,.bool false,.slice none 0 0] 145)).alloc (.cells #[.bool s,.bool e,.slice none 0 0] 145)):=((Kept.refl _ w).alloc _).alloc _;have br0:=(au.new w 145 #[.bool false,.bool false,.slice none 0 0]).alloc (.cells #[.bool s,.bool e,.slice none 0 0] 145);have bc0:=au.new (w.alloc (.cells #[.bool false,.bool false,.slice none 0 0] 145)) 145 #[.bool s,.bool e,.slice none 0 0];have h0:jO ((w.alloc (.cells #[.bool false,.bool false,.slice none 0 0] 145)).alloc (.cells #[.bool s,.bool e,.slice none 0 0] 145)) r v bs pos:=⟨(h.1.alloc _).alloc _,(h.2.alloc _).alloc _⟩;have hsz0:w.heap.size+2≤((w.alloc (.cells #[.bool false,.bool false,.slice none 0 0] 145)).alloc (.cells #[.bool s,.bool e,.slice none 0 0] 145)).heap.size:=by simp
 rw[World.size_alloc] at bc0;generalize (w.alloc (.cells #[.bool false,.bool false,.slice none 0 0] 145)).alloc (.cells #[.bool s,.bool e,.slice none 0 0] 145)=w0 at*
 go_loopw [3,10,11] (fun m l s wr=>∃(acc:List Nat) (more':Bool) (q:Nat),m= .bool more'∧s= .int .i64 (acc.sum:Nat)∧acc.length≤63∧acc.sum≤2047*acc.length∧(∀x∈acc,x≤2047)∧fZ bs (64-acc.length) more' q acc=R∧
  jO wr r v bs q∧q≤8*bs.length∧wr.ownsRow w0.heap.size 3 1 l acc.length (iR acc)∧Kept (fun k _=>k=r∨w0.heap.size≤k) w0 wr) (fun _ l _ _=>64-vz l)
 case atStart=>exact ⟨[],more,pos,rfl,rfl,by simp,by simp,by simp,HR.out,h0,HP.out,World.ownsRow_nil _ _ _ _,Kept.refl _ _⟩
 case round=>
  obtain ⟨acc,more',q,rfl,rfl,hal,hsum,hmem,hread,hrq,hq,how,hkp⟩:=hrel;have OT:Kept (fun k _=>k=r∨w.heap.size≤k) w wr:=hk0.trans (hkp.mono fun k _ e=>e.imp id (fun e=>by omega));have hd1:=hd.kept OT (by rintro (e|e);exact hrd e;omega);have Q6:=hd1.cell 0;simp at Q6;have UF:=ah hread;have HQ:=ah hq;have ZP:=ah hmem;clear hread hq hmem;cases more' with
  |true=>
   obtain ⟨f,hf⟩:∃f,64-acc.length=f+1:=⟨63-acc.length,by omega⟩
   have si:=UF.out;rw[hf] at si;simp only[fZ] at si;have HR2:=ah si;have HFF:=ah hf;clear si hf;by_cases hfit:8*bs.length<q+12
   ·have hget:=Ck r v bs q 12 wr hrq HQ.out pG.out (by omega) (by have:=HQ.out;omega);have rE:R= .inl 5:=by have:=HR2.out;rw[if_pos hfit] at this;exact this.symm
    have HG:=ah hget;have H5:=ah rE;clear hget rE hfit;go_wp2_with fail;refine HG.out.mono ?_;rintro e1 w1 ⟨rfl,hr1,hk1⟩;go_wp2_with (go_at_call 188;refine (OQ _ _ rfl _).mono ?_;rintro e2 w2 ⟨rfl,rfl⟩);exact ⟨rfl,OT.trans (hk1.mono fun _ _ e=> .inl e),.inl ⟨5,by rw[←ZO.out,H5.out];rfl,rfl⟩⟩
   ·have hget:=DF r v bs q 12 wr hrq pG.out (by omega) (by omega);have hV:=pO (aF bs q 12);rw[fq] at hV;have hR2:=HR2.out;rw[if_neg hfit] at hR2;have HG:=ah hget;have aet:=ah hfit;clear hget hfit HR2;generalize val (aF bs q 12)=V at*;have hand:=RI V hV;have aeu:IntKind.i64.wrap ((V%2048:Nat):Int)=((V%2048:Nat):Int):=IntWalk.i64_in _ (by omega);obtain ⟨n,hn⟩:∃n,V%2048=n:=⟨_,rfl⟩
    obtain ⟨m',hm'⟩:∃m',decide (V/2048=1)=m':=⟨_,rfl⟩
    have hmo:((V:Int)/2048==1)=m':=by rw[←hm',Bool.eq_iff_iff];simp;omega
    rw[hn] at hand aeu hR2;rw[hm'] at hR2;have hn2:n<2048:=by omega
    have HR3:=ah hR2;clear hR2 hn hm' hV;obtain ⟨A,c,rfl,hsl,_⟩:=bq how;by_cases hbad:n=0∨63≤acc.length
    ·have Bp:R= .inl 9:=by have:=HR3.out;rw[if_pos hbad] at this;exact this.symm
     have H9:=ah Bp;clear Bp;by_cases h00:n=0
     ·subst h00;clear hbad HR3;go_wp2_with fail;refine HG.out.mono ?_;rintro e1 w1 ⟨rfl,hr1,hk1⟩;go_wp2_with (first|(go_at_call 188;refine (D4 _ _).mono ?_;rintro e2 w2 ⟨rfl,rfl⟩)|(go_at_call 150;((with_reducible refine (fI _ _).mono ?_);rintro e3 w3 ⟨rfl,rfl⟩)));exact ⟨rfl,OT.trans (hk1.mono fun _ _ e=> .inl e),.inl ⟨9,by rw[←ZO.out,H9.out];rfl,rfl⟩⟩
     ·have hn0:0<n:=by omega
      have hb3:decide ((acc.length:Int)<63)=false:=by simp;omega
      have hb4:63≤acc.length:=by omega
      clear hbad HR3 h00;go_wp2_with fail;refine HG.out.mono ?_;rintro e1 w1 ⟨rfl,hr1,hk1⟩;go_wp2_with (first|(go_at_call 188;refine (D4 _ _).mono ?_;rintro e2 w2 ⟨rfl,rfl⟩)|(go_at_call 150;((with_reducible refine (fI _ _).mono ?_);rintro e3 w3 ⟨rfl,rfl⟩)));exact ⟨rfl,OT.trans (hk1.mono fun _ _ e=> .inl e),.inl ⟨9,by rw[←ZO.out,H9.out];rfl,rfl⟩⟩
    ·have D5:=HR3.out;rw[if_neg hbad] at D5;have hb2:0<n:=by omega
     have hb3:decide ((acc.length:Int)<63)=true:=by simp;omega
     have akr:acc.length<63:=by omega
     have HR4:=ah D5;have HN0:=ah hbad;clear D5 hbad HR3;go_wp2_with fail;refine HG.out.mono ?_;rintro e1 w1 ⟨rfl,hr1,hk1⟩;have Jd:=hkp.trans (hk1.mono (M':=fun k _=>k=r∨w0.heap.size≤k) fun _ _ e=> .inl e);have zk:=jA how hk1 (fun j o _ hj e=>by have:=(how.lt j hj).1;omega);go_wp2_with (first
      |(go_at_call 188;refine (D4 _ _).mono ?_;rintro e2 w2 ⟨rfl,rfl⟩)
      |(go_at_call 150;((with_reducible refine (iG _ _).mono ?_);rintro e3 w3 ⟨rfl,rfl⟩))
      |(at_builtin;refine wpList_append_own _ rfl _ _ 75 rfl w0.heap.size 3 i0 (.int .i64 0) 1 8 II hi hz0 hz1 hz2 rfl (by decide) _ _ _ rfl (zk.alloc _) ⟨w1.heap.size,0,none⟩ 1 1 [.int .i64 n] rfl rfl ?c1 ?c2 ?c3 ?c4 ?c5 ?_))
     case c1=>exact cell_one_new _ _ _
     case c2=>simp[Value.oneCell']
     case c3=>unfold maxLen;omega
     case c4=>omega
     case c5=>have:=Jd.size;simp;omega
     intro v' w2 hown' hgrow _;have hr2:jO w2 r v bs (q+12):=by
      refine ⟨(hr1.1.alloc _).grown hgrow (fun e=>aJ zk hr1.1 (by decide) e.symm),(hr1.2.alloc _).kept hgrow ?_⟩;rcases hq:v.ownBlock with _|j
      ·exact .inl rfl
      ·refine .inr (fun e=> ?_);obtain ⟨o1,ho1,⟨cs1,Zg,rfl⟩,_⟩:=bU hr1.2 hq;obtain ⟨o2,ho2,⟨cs2,Yu,rfl⟩,_⟩:=bU zk e.symm;rw[ho1] at ho2;cases ho2
     have hlv:=IQ hown';have HLV:=ah hlv;clear hlv;go_wp2;refine ⟨⟨acc++ [n],m',q+12,rfl,by simp,by simp;omega,by simp;omega,?_,?_,hr2,by have:=aet.out;omega,by simpa[iR] using hown',(Jd.alloc _).grown hgrow (fun j hj o _=> .inr ((zk.lt j hj).1))⟩,by rw[HLV.out];simp[vz];omega⟩
     ·intro x hx;rcases List.mem_append.1 hx with hx|hx
      ·exact ZP.out x hx
      ·simp at hx;omega
     ·have:=HR4.out;rw[show f=64-(acc++ [n]).length by have:=HFF.out;simp;omega] at this;exact this
  |false=>
   have pJ:R= .inr (acc,q):=by
    have:=UF.out;rw[←this];cases 64-acc.length<;>rfl
   have Bq:=yL r v bs q wr hrq pG.out HQ.out;have hpq:q+mY q≤8*bs.length:=by have:=HQ.out;unfold mY;omega
   have r9:=ah Bq;have UI:=ah pJ;have HPQ:=ah hpq;clear Bq pJ hpq;obtain ⟨A,c,rfl,hsl,_⟩:=bq how;by_cases hz:val (aF bs q (mY q))=0
   ·have KI:CR=ku acc (bs.drop ((q+mY q)/8)):=by rw[←ZO.out,UI.out];simp only[jT,if_pos hz]
    have Bq:=r9.out;simp only[if_pos hz] at Bq;have UJ:=ah KI;have Sj:=ah Bq;clear KI Bq hz r9;go_wp2_with fail;refine Sj.out.mono ?_;rintro e1 w1 ⟨rfl,hr1,hk1⟩;have zk:=jA how hk1 (fun j o _ hj e=>by have:=(how.lt j hj).1;omega);have Jd:=hkp.trans (hk1.mono (M':=fun k _=>k=r∨w0.heap.size≤k) fun _ _ e=> .inl e);have Br:=OT.trans (hk1.mono (M':=fun k _=>k=r∨w.heap.size≤k) fun _ _ e=> .inl e);have hb1:=HB.out w1 Br;have hd1:=hd.kept Br (by rintro (e|e);exact hrd e;omega);have bc1:=bc0.kept Jd (by rintro (e|e);omega;omega);have Iy:=br0.kept Jd (by rintro (e|e);omega;omega);clear hkp OT how hsl hrq Q6 Sj UI UF HQ hk1;generalize q+mY q=p at*;go_wp2_with (go_at_call 150;((with_reducible refine (iG _ _).mono ?_);rintro e3 w3 ⟨rfl,rfl⟩));have Q6:=hd1.cell 0;have cd1:=hd1.cell 1;simp at Q6 cd1;have hat:∀W,jO W r v bs p→Calls Tryz.prog 189 #[.pointer (some ⟨r,0,none⟩)] W fun e w'=>e= .returned (.int .i64 p)∧w'=W:=fun W hW=>(VP r v bs p W hW).mono fun _ _ hh=>⟨hh.1,hh.2.symm⟩
    have HAT:=ah hat;have hn0:bs.length=n0:=by simpa using hb1.len
    have hcap:=hb1.cap;have hmx:=hb1.mx;have aev:=pG.out;have hpq:=HPQ.out;obtain ⟨q,hq⟩:∃q,p/8=q:=⟨_,rfl⟩
    have hqw:IntKind.i64.wrap ((p:Int)/8)=(q:Int):=by rw[←hq];rw[IntWalk.i64_in _ (by omega)];omega
    have hq1:q≤n0:=by omega
    have hdata:Sl w1 w1.heap.size (if c0=q then A0 else A0.map (·.add q)) (n0-q) (c0-q) (bO (bs.drop q)):=by
     have:=hb1.cut hq1;unfold bO at this ⊢
     rwa [List.map_drop]
    have YB:=ah (show CR=ku acc (bs.drop q) by rw[UJ.out,hq]);have hdl:(bs.drop q).length=n0-q:=by rw[List.length_drop,hn0]
    have aew:n0-q≤1000000000:=by omega
    have HQQ:=ah hq;clear hat hq UJ hn0 aev hpq;refine wp_region_still_tail 11 (by kernel_rfl) (by kernel_rfl) ?_;simp only[List.take_succ_cons,List.take_zero,List.drop_succ_cons,List.drop_zero]
    still_step
    still_step
    still_step
    still_step
    still_step
    still_step
    still_step
    still_step
    still_call (HAT.out _ hr1)
    still_step
    still_step
    refine wpStill_nil ?_;change wpList _ _ _ _ _ w1.drew;generalize (if c0=q then A0 else Option.map (fun x=>x.add q) A0)=A1 at*;generalize bs.drop q=D at*;generalize n0-q=m at*;have hcl:=ji A1 m (c0-q) D w1.drew hdata.drew aew;have HC:=ah hcl;have zl:=ah hdl;clear hcl hdata hdl hb1 hd1 hr1 Q6 cd1 hcap hmx hqw hq1 HAT HQQ HPQ
    replace Br:=Br.drew
    replace bc1:=bc1.drew
    replace Iy:=Iy.drew
    replace zk:=(aU zk (show w.heap.size≤w0.heap.size by omega)).drew'
    have Sk:w.heap.size+2≤w1.drew.heap.size:=Nat.le_trans hsz0 Jd.drew.size;clear Jd;generalize w1.drew=w2 at*;go_wp2_with fail;refine HC.out.mono ?_;rintro e2 w3 ⟨v3,rfl,hv3,hb3⟩
    replace Br:=Br.trans ((Kept.of_below hb3).mono (M':=fun k _=>k=r∨w.heap.size≤k) (fun j _ hj=> .inr (by omega)))
    replace bc1:=bc1.below hb3 bc1.lt
    replace Iy:=Iy.below hb3 Iy.lt
    replace zk:=own_below zk hb3 (aN)
    replace hv3:=aU hv3 (show w.heap.size≤w2.heap.size by omega)
    replace Sk:w.heap.size+2≤w3.heap.size:=Nat.le_trans Sk hb3.size
    clear HC hb3;by_cases h5:D.length≤acc.sum
    ·have UK:CR= .inl 5:=by rw[YB.out];unfold ku;rw[if_pos h5]
     have HP5:=ah UK;clear UK;obtain ⟨A2,c2,rfl,_⟩:=bq hv3;have h5':¬acc.sum<m:=by have:=zl.out;omega
     clear h5;go_wp2_with (go_at_call 150;((with_reducible refine (fI _ _).mono ?_);rintro e3 w3 ⟨rfl,rfl⟩));exact ⟨rfl,Br,.inl ⟨5,HP5.out,rfl⟩⟩
    ·by_cases h9:32767<D.length
     ·have UK:CR= .inl 9:=by rw[YB.out];unfold ku;rw[if_neg h5,if_pos h9]
      have Wu:=ah UK;clear UK;obtain ⟨A2,c2,rfl,_⟩:=bq hv3;have h5':acc.sum<m:=by have:=zl.out;omega
      have h9':decide ((m:Int)≤32767)=false:=by have:=zl.out;simp;omega
      clear h5 h9;go_wp2_with (first|(go_at_call 150;((with_reducible refine (fI _ _).mono ?_);rintro e3 w3 ⟨rfl,rfl⟩))|(go_at_call 150;((with_reducible refine (iG _ _).mono ?_);rintro e3 w3 ⟨rfl,rfl⟩)));exact ⟨rfl,Br,.inl ⟨9,Wu.out,rfl⟩⟩
     ·have UK:CR= .inr (splitBy acc D):=by rw[YB.out];unfold ku;rw[if_neg h5,if_neg h9]
      have Ru:=ah UK;clear UK YB;have h5':acc.sum<m:=by have:=zl.out;omega
      have h9':decide ((m:Int)≤32767)=true:=by have:=zl.out;simp;omega
      have hm9:m≤32767:=by have:=zl.out;omega
      obtain ⟨g,cap,rfl,hgl,kL⟩:=hv3.form (by omega);have hcap2:m≤cap∧cap≤9223372036854775807:=by
       obtain ⟨A',c',e',hs',_⟩:=bq hv3;injection e' with _ _ e3
       subst e3;exact ⟨hs'.cap,hs'.mx⟩
      clear h5 h9;go_wp2_with (go_at_call 150;((with_reducible refine (iG _ _).mono ?_);rintro e3 w3 ⟨rfl,rfl⟩));clear h9'
      go_loopw [14,80] (fun vd i wr=>∃(k:Nat) (vo:Value),k≤acc.length∧i= .int .i64 k∧vd= .slice (some ⟨g,(acc.take k).sum,none⟩) (m-(acc.take k).sum) (cap-(acc.take k).sum)∧au wr (w.heap.size+1) 145 #[.bool s,.bool e,vo]∧au wr w.heap.size 145 #[.bool false,.bool false,.slice none 0 0]∧
       wr.ownsRow w.heap.size 31 1 vo k (iT g acc k)∧wr.ownsRow w.heap.size 5 1 (.slice (some ⟨g,0,none⟩) m cap) m (bO D)∧wr.ownsRow w.heap.size 3 1 (.slice A acc.length c) acc.length (iR acc)∧Kept (fun k _=>k=r∨w.heap.size≤k) w wr∧w.heap.size+2≤wr.heap.size) (fun _ i _=>acc.length-(intOf i).toNat)
      case atStart=>exact ⟨0,_,Nat.zero_le _,rfl,by simp,bc1,Iy,World.ownsRow_nil _ _ _ _,hv3,zk,Br,Sk⟩
      case round=>
       clear hv3 bc1 Iy zk Br Sk;obtain ⟨k,vo,hk,rfl,rfl,bc,br,gN,hvd,hvl,OT,hws⟩:=hrel;have hsk:=kz acc k;by_cases hlt:k<acc.length
       ·obtain ⟨n,hn⟩:∃n,acc[k]? =some n:=⟨_,List.getElem?_eq_getElem hlt⟩
        have hn2:=ZP.out n (List.mem_of_getElem? hn);have hsn:=tQ acc k n hn;have akv:=kz acc (k+1);obtain ⟨adl,u,rfl,_,hu,hcu⟩:=(dH hvl).get hlt;have hu':u= .int .i64 (n:Int):=by
         unfold iR at hu;rw[List.getElem?_map,hn] at hu;simpa using hu.symm
        subst hu';have hpv:=Bb g acc k n hn;generalize (List.take k acc).sum=S at*;have QS:=ah hsn;have HPV:=ah hpv;have hSn:S+n≤acc.sum:=by omega
        clear hsn hpv hu hn;have hne:¬cap-S=n:=by omega
        have hle1:n≤m-S:=by omega
        have hle2:n≤cap-S:=by omega
        obtain ⟨Ao,co,rfl,hso,_⟩:=bq gN;have c2:=bc.cell 2;have f2:=bc.frozen 2;simp at c2;have c2a:=(World.cell?_alloc_lt wr (.cells #[.slice (some ⟨g,S,none⟩) n n] 31) ⟨w.heap.size+1,2,none⟩ bc.lt).trans c2;go_upto_region 17 with (fail)
        go_cut [] from 84 to 92 (fun wx=>∃(A5:Option Addr) (c5:Nat),au wx (w.heap.size+1) 145 #[.bool s,.bool e,.slice A5 (k+1) c5]∧au wx w.heap.size 145 #[.bool false,.bool false,.slice none 0 0]∧wx.ownsRow w.heap.size 31 1 (.slice A5 (k+1) c5) (k+1) (iT g acc (k+1))∧
         wx.ownsRow w.heap.size 5 1 (.slice (some ⟨g,0,none⟩) m cap) m (bO D)∧wx.ownsRow w.heap.size 3 1 (.slice (some adl) acc.length c) acc.length (iR acc)∧Kept (fun k _=>k=r∨w.heap.size≤k) w wx∧w.heap.size+2≤wx.heap.size)
        case first=>
         go_region_law ((refine fu _ (by rfl) _ _ 37 (by rfl) w.heap.size 31 j0 (.slice none 0 0) 24 l7 hj0 hm0 hm1 hm2 rfl (.slice Ao k co) k (iT g acc k) (by rfl) (World.ownsRow.drew' (gN.alloc (.cells #[.slice (some ⟨g,S,none⟩) n n] 31))) (wr.alloc (.cells #[.slice (some ⟨g,S,none⟩) n n] 31)).heap.size (some ⟨wr.heap.size,0,none⟩) 1 1 [.slice (some ⟨g,S,none⟩) n n] (by rfl) (qL wr (.slice (some ⟨g,S,none⟩) n n) 31) (by simp[Value.oneCell']) (by unfold maxLen;omega) (by omega) (by simp;omega) ?_;intro v5 w5 hown5 bR _;obtain ⟨A5,c5,rfl,hs5,_⟩:=bq hown5;have tH:=(bc.alloc (.cells #[.slice (some ⟨g,S,none⟩) n n] 31)).drew.grown bR (fun e=>aJ gN bc (by decide) e.symm);have q2:=tH.cell 2;have q3:=tH.frozen 2;simp at q2))
         all_goals
          go_wp2_with fail;go_meet;have FP:=World.ownsRow.drew' (gN.alloc (.cells #[.slice (some ⟨g,S,none⟩) n n] 31));have OU:=vO (World.ownsRow.drew' (hvd.alloc (.cells #[.slice (some ⟨g,S,none⟩) n n] 31))) FP (by decide) bR;have Wv:=vO (World.ownsRow.drew' (hvl.alloc (.cells #[.slice (some ⟨g,S,none⟩) n n] 31))) FP (by decide) bR;have aex:=(br.alloc (.cells #[.slice (some ⟨g,S,none⟩) n n] 31)).drew.grown bR (fun e=>aJ gN br (by decide) e.symm);refine ⟨A5,c5,by simpa using tH.av 2 (.slice A5 (k+1) c5),aex.far (by simp) _,?_,aI (i:=2) OU tH (by decide) _,aI (i:=2) Wv tH (by decide) _,
           ((OT.alloc _).drew.grown bR (fun j hj o _=> .inr ((gN.lt j hj).1))).setCell (p:=⟨w.heap.size+1,2,none⟩) (fun _ _=> .inr (by simp)) _,?_⟩
          ·rw[HPV.out];exact aI (i:=2) hown5 tH (by decide) _
          ·have:=bR.size;simp at this ⊢;omega
        case rest=>
         obtain ⟨A5,c5,YC,YD,nC,OU,Wv,Ww,aey⟩:=hcut;go_wp2
         go_roundw
         case rel=>exact ⟨k+1,_,by omega,by go_num,by rw[QS.out,Nat.sub_sub,Nat.sub_sub],YC,YD,nC,OU,Wv,Ww,aey⟩
         case measure=>simp[intOf];omega
       ·obtain rfl:k=acc.length:=by omega
        have hS:(acc.take acc.length).sum=acc.sum:=by rw[List.take_of_length_le (aN)]
        rw[hS];obtain ⟨Ao,co,rfl,hso,_⟩:=bq gN;have c2:=bc.cell 2;have f2:=bc.frozen 2;simp at c2;go_wp2_with (at_builtin;refine wpList_append_own _ rfl _ _ 37 rfl w.heap.size 31 j0 (.slice none 0 0) 1 24 l7 hj0 hm0 hm1 hm2 rfl (by decide) _ _ _ rfl (gN.alloc _) ⟨wr.heap.size,0,none⟩ 1 1 [.slice (some ⟨g,acc.sum,none⟩) (m-acc.sum) (cap-acc.sum)] rfl rfl ?c1 ?c2 ?c3 ?c4 ?c5 ?_)
        case c1=>exact cell_one_new _ _ _
        case c2=>simp[Value.oneCell']
        case c3=>unfold maxLen;omega
        case c4=>omega
        case c5=>simp;omega
        intro v' w4 hown' hgrow _;obtain ⟨A5,c5,rfl,hs5,_⟩:=bq hown';have ZQ:=vO (hvd.alloc (.cells #[.slice (some ⟨g,acc.sum,none⟩) (m-acc.sum) (cap-acc.sum)] 31)) (gN.alloc _) (by decide) hgrow;have Wx:=(bc.alloc (.cells #[.slice (some ⟨g,acc.sum,none⟩) (m-acc.sum) (cap-acc.sum)] 31)).grown hgrow (fun e=>aJ gN bc (by decide) e.symm);have UL:=(br.alloc (.cells #[.slice (some ⟨g,acc.sum,none⟩) (m-acc.sum) (cap-acc.sum)] 31)).grown hgrow (fun e=>aJ gN br (by decide) e.symm);have ZR:=(OT.alloc (.cells #[.slice (some ⟨g,acc.sum,none⟩) (m-acc.sum) (cap-acc.sum)] 31)).grown hgrow (fun j hj o _=> .inr ((gN.lt j hj).1));have nC:=aI (i:=2) hown' Wx (by decide) (.slice A5 (acc.length+1) c5);have OU:=aI (i:=2) ZQ Wx (by decide) (.slice A5 (acc.length+1) c5);have YD:=UL.far (p:=⟨w.heap.size+1,2,none⟩) (by simp) (.slice A5 (acc.length+1) c5);have YC:=Wx.av 2 (.slice A5 (acc.length+1) c5);have Ww:=ZR.setCell (p:=⟨w.heap.size+1,2,none⟩) (fun _ _=> .inr (by simp)) (.slice A5 (acc.length+1) c5);have k2:=Wx.cell 2;have k3:=Wx.frozen 2;have k0:=Wx.cell 0;have k1:=Wx.cell 1;have g0:=UL.cell 0;have g1:=UL.cell 1;have g2:=UL.cell 2;have g3:=UL.frozen 0;have g4:=UL.frozen 1;have g5:=UL.frozen 2;simp at YC k2 k0 k1 g0 g1 g2;clear gN hvd hvl bc br OT ZQ hown' hgrow hs5 hso c2 f2 ZR UL;go_wp2_with fail;have Wy:=((YD.av 0 (.bool s)).av 1 (.bool e)).av 2 (.slice A5 (acc.length+1) c5);simp at Wy
        have ZS:∀{ty:TypeId} {vv:Value} {nn:Nat} {xs:List Value},(w4.setCell ⟨w.heap.size+1,2,none⟩ (.slice A5 (acc.length+1) c5)).ownsRow w.heap.size ty 1 vv nn xs→ty≠145→
         ((((w4.setCell ⟨w.heap.size+1,2,none⟩ (.slice A5 (acc.length+1) c5)).setCell ⟨w.heap.size,0,none⟩ (.bool s)).setCell ⟨w.heap.size,1,none⟩ (.bool e)).setCell ⟨w.heap.size,2,none⟩ (.slice A5 (acc.length+1) c5)).ownsRow w.heap.size ty 1 vv nn xs:=fun hh ht=>
         aI (i:=2) (aI (i:=1) (aI (i:=0) hh YD ht _) (YD.av 0 (.bool s)) ht _) ((YD.av 0 (.bool s)).av 1 (.bool e)) ht _
        have aez:=((Ww.setCell (p:=⟨w.heap.size,0,none⟩) (fun _ _=> .inr (aN)) (.bool s)).setCell (p:=⟨w.heap.size,1,none⟩) (fun _ _=> .inr (aN)) (.bool e)).setCell (p:=⟨w.heap.size,2,none⟩) (fun _ _=> .inr (aN)) (.slice A5 (acc.length+1) c5);have q0:=Wy.cell 0;have q1:=Wy.cell 1;have q2:=Wy.cell 2;simp at q0 q1 q2;have Sm:=lq acc D;refine ⟨rfl,.agg #[.bool s,.bool e,.slice A5 (acc.length+1) c5],by simp[results,Tryz.results151,go_sem,q0,q1,q2],aez,.inr ⟨splitBy acc D,A5,c5,Ru.out,by rw[Sm],?_⟩⟩;rw[Sm];refine ⟨iT g acc acc.length++ [.slice (some ⟨g,acc.sum,none⟩) (m-acc.sum) (cap-acc.sum)],g,cap,D,?_,?_,?_⟩
        ·rw[Sm];exact ZS nC (by decide)
        ·rw[zl.out];exact ZS OU (by decide)
        ·intro i p hi;have hil:i<acc.length+1:=by
          have:=(List.getElem?_eq_some_iff.1 hi).1;rw[Sm] at this;exact this
         have hpl:(iT g acc acc.length).length=acc.length:=by simp[iT]
         by_cases hik:i<acc.length
         ·obtain ⟨n,hn⟩:∃n,acc[i]? =some n:=⟨_,List.getElem?_eq_getElem hik⟩
          rw[wF acc D i n hn] at hi;injection hi with hi
          have hsn:=tQ acc i n hn;have hsl:=kz acc (i+1);have hlen:p.length=n:=by rw[←hi,List.length_take,List.length_drop,zl.out];omega
          refine ⟨(acc.take i).sum,n,?_,by omega,by omega,by rw[hlen];exact hi.symm⟩;rw[List.getElem?_append_left (by omega),hlen];simp[iT,hik,(List.getElem?_eq_some_iff.1 hn).2]
         ·obtain rfl:i=acc.length:=by omega
          rw[tN] at hi;injection hi with hi
          have hlen:p.length=m-acc.sum:=by rw[←hi,List.length_drop,zl.out]
          refine ⟨acc.sum,cap-acc.sum,?_,by omega,by omega,?_⟩
          ·rw[List.getElem?_append_right (by omega),hpl,hlen];simp
          ·rw[hlen,←hi,List.take_of_length_le (by rw[List.length_drop,zl.out];omega)]
   ·have KI:CR= .inl 9:=by rw[←ZO.out,UI.out];simp only[jT,if_neg hz]
    have Bq:=r9.out;simp only[if_neg hz] at Bq;have UJ:=ah KI;have Sj:=ah Bq;clear KI Bq hz r9;go_wp2_with fail;refine Sj.out.mono ?_;rintro e1 w1 ⟨rfl,hr1,hk1⟩;go_wp2_with (go_at_call 150;((with_reducible refine (fI _ _).mono ?_);rintro e3 w3 ⟨rfl,rfl⟩));exact ⟨rfl,OT.trans (hk1.mono fun _ _ e=> .inl e),.inl ⟨9,UJ.out,rfl⟩⟩
end Go.Proofs.YtbhiklnljiehiaaGreat
namespace Go.Proofs.YtbhiklnljiehiaaGreat
open Go.RowKit
theorem Je (bp be:Nat) (w:World):
 CallsD Tryz.prog 148 #[.pointer (some ⟨bp,0,none⟩),.pointer (some ⟨be,0,none⟩)] .returning w fun e u' w'=>e= .returned (.tuple #[])∧u'= .returning∧w=w':=by
 have hnn:=run_eql_nil_nil (P:=Tryz.prog) w (t:=20) (by kernel_rfl);refine callsD_of_wpS Tryz.func148 rfl fun c₀ cs hu=> ?_
 apply wpS_seq;apply wpS_region;generalize hQ:Exit.thenS _ _=Q;simp[wpOpsS,go_sem,recoverD,hu,Tryz.ntmps148];subst hQ;simp only[Exit.thenS];refine wpS_of_wp ?_;change Code.wp _ _ (iY Tryz.prog Tryz.f148 c₀ cs (c₀::cs) _) {tmps:= #[.pointer (some ⟨bp,0,none⟩),.pointer (some ⟨be,0,none⟩),.nilIface,undef,undef,.nilIface,undef,undef,undef,undef,undef,undef,undef,undef,undef,undef,undef,undef],defers:= []} w;go_wp2;cases c₀
 simp_all [iY,bodyPostS,results,Tryz.results148]
set_option maxHeartbeats 800000 in
set_option maxRecDepth 100000 in
theorem D6 (bp be:Nat) (er:Int) (v0 v1 v2 v3 v4 v5 v6 v7 v8:Value) (w:World) (hp:au w bp 148 #[v0,v1,v2,v3,v4,v5,v6,v7]) (he:au w be 53 #[v8]) (hne:be≠bp):
 CallsD Tryz.prog 148 #[.pointer (some ⟨bp,0,none⟩),.pointer (some ⟨be,0,none⟩)] (.panicking [{v:= .iface 53 (.int .i64 er),recovered:=false}]) w fun e u' w'=>e= .returned (.tuple #[])∧u'= .panicking [{v:= .iface 53 (.int .i64 er),recovered:=true}]∧
  au w' bp 148 #[.int .i64 0,.bool false,.bool false,.bool false,.int .i64 0,.bool false,.bool false,.slice none 0 0]∧au w' be 53 #[.int .i64 er]∧Kept (fun k _=>k=bp∨k=be) w w':=by
 have hnn:=run_eql_held_nil (P:=Tryz.prog) w 20 53 (.int .i64 er) (by kernel_rfl);have hta:=kT er w;refine callsD_of_wpS Tryz.func148 rfl fun c₀ cs hu=> ?_
 apply wpS_seq;apply wpS_region;generalize hQ:Exit.thenS _ _=Q;simp[wpOpsS,go_sem,recoverD,hu,Tryz.ntmps148];subst hQ;simp only[Exit.thenS];refine wpS_of_wp ?_;change Code.wp _ _ (iY Tryz.prog Tryz.f148 c₀ cs _ _) {tmps:= #[.pointer (some ⟨bp,0,none⟩),.pointer (some ⟨be,0,none⟩),.iface 53 (.int .i64 er),undef,undef,.iface 53 (.int .i64 er),undef,undef,undef,undef,undef,undef,undef,undef,undef,undef,undef,undef],defers:= []} w;obtain ⟨c0,c1,c2,c3,c4,c5,c6,c7⟩:=hp.eight;have f0:=hp.frozen 0;have f1:=hp.frozen 1;have f2:=hp.frozen 2;have f3:=hp.frozen 3;have f4:=hp.frozen 4;have f5:=hp.frozen 5;have f6:=hp.frozen 6;have f7:=hp.frozen 7;have c8:=he.cell 0;have f8:=he.frozen 0;simp at c8;go_wp2;refine ⟨rfl,_,rfl,.tuple #[],by simp[results,Tryz.results148],rfl,rfl,?_,?_,?_⟩
 ·exact (hp.OP (.int .i64 0) (.bool false) (.bool false) (.bool false) (.int .i64 0) (.bool false) (.bool false) (.slice none 0 0)).far (p:=⟨be,0,none⟩) (fun e=>hne e.symm) (.int .i64 er)
 ·have:=((((((((he.far (p:=⟨bp,0,none⟩) hne (.int .i64 0)).far (p:=⟨bp,1,none⟩) hne (.bool false)).far (p:=⟨bp,2,none⟩) hne (.bool false)).far (p:=⟨bp,3,none⟩) hne (.bool false)).far (p:=⟨bp,4,none⟩) hne (.int .i64 0)).far (p:=⟨bp,5,none⟩) hne (.bool false)).far (p:=⟨bp,6,none⟩) hne (.bool false)).far (p:=⟨bp,7,none⟩) hne (.slice none 0 0)).av 0 (.int .i64 er);simpa using this
 ·exact (((((((((Kept.refl _ w).setCell (p:=⟨bp,0,none⟩) (fun _ _=> .inl rfl) _).setCell (p:=⟨bp,1,none⟩) (fun _ _=> .inl rfl) _).setCell (p:=⟨bp,2,none⟩) (fun _ _=> .inl rfl) _).setCell (p:=⟨bp,3,none⟩) (fun _ _=> .inl rfl) _).setCell (p:=⟨bp,4,none⟩) (fun _ _=> .inl rfl) _).setCell (p:=⟨bp,5,none⟩) (fun _ _=> .inl rfl) _).setCell (p:=⟨bp,6,none⟩) (fun _ _=> .inl rfl) _).setCell (p:=⟨bp,7,none⟩) (fun _ _=> .inl rfl) _).setCell (p:=⟨be,0,none⟩) (fun _ _=> .inr rfl) _
structure kP where
 sn:Nat
 po:Bool
 sg:Bool
 la:Bool
 off:Nat
 s:Bool
 e:Bool
 ps:List (List UInt8)
def Bt (bs:List UInt8):Sum Nat kP:=
 if bs.length<2 then .inl 5
 else if val (aF bs 0 1)≠1 then .inl 9
 else if val (aF bs 1 1)=1 then
  if bs.length<4 then .inl 5
  else match iV bs (decide (val (aF bs 5 1)=1)) 32 with
   | .inl er=> .inl er
   | .inr ps=>if gY (val (aF bs 6 10):Nat) true (decide (val (aF bs 16 1)=1)) (val (aF bs 17 15):Nat) ps=true then
    .inr ⟨val (aF bs 6 10),decide (val (aF bs 2 1)=1),true,decide (val (aF bs 16 1)=1),val (aF bs 17 15),decide (val (aF bs 3 1)=0),decide (val (aF bs 4 1)=0),ps⟩ else .inl 9
 else match iV bs (decide (val (aF bs 5 1)=1)) 16 with
  | .inl er=> .inl er
  | .inr ps=>if gY (val (aF bs 6 10):Nat) false false (0:Nat) ps=true then
   .inr ⟨val (aF bs 6 10),decide (val (aF bs 2 1)=1),false,false,0,decide (val (aF bs 3 1)=0),decide (val (aF bs 4 1)=0),ps⟩ else .inl 9
def Jf (w:World) (R:Sum Nat kP) (e:Ending) (w':World):Prop:=
 Below w.heap.size w w'∧
 (
  (∃er:Nat,R= .inl er∧e= .returned (.tuple #[.agg (bH 0 false false false 0 false false none 0 0),.int .i64 er]))∨
  (∃(p:kP) (A:Option Addr) (c:Nat),R= .inr p∧e= .returned (.tuple #[.agg (bH p.sn p.po p.sg p.la p.off p.s p.e A p.ps.length c),.int .i64 0])∧eT w' w.heap.size (.slice A p.ps.length c) p.ps))
theorem lJ (w W:World) (R:Sum Nat kP) (er:Nat) (T:Array Value) (v0 v1 v2 v3 v4 v5 v6 v7 v8:Value) (h2:T[2]? =some (.pointer (some ⟨w.heap.size,0,none⟩))) (h3:T[3]? =some (.pointer (some ⟨w.heap.size+1,0,none⟩)))
 (hp:au W w.heap.size 148 #[v0,v1,v2,v3,v4,v5,v6,v7]) (he:au W (w.heap.size+1) 53 #[v8]) (hB:Below w.heap.size w W) (hR:R= .inl er):
 bodyPostD Tryz.prog Tryz.f95 (Jf w R) (.panic [{v:= .iface 53 (.int .i64 er),recovered:=false}]) {tmps:=T,defers:= [{target:= .fn (.func 148) #[.pointer (some ⟨w.heap.size,0,none⟩),.pointer (some ⟨w.heap.size+1,0,none⟩)],args:= #[]}]} W:=by
 refine leaves_cons (f:=148) (args:= #[.pointer (some ⟨w.heap.size,0,none⟩),.pointer (some ⟨w.heap.size+1,0,none⟩)]) (by simp) (by simp[go_sem]) ?_;refine (D6 _ _ (er:Int) _ _ _ _ _ _ _ _ _ W hp he (by omega)).mono ?_;rintro e u' w'' ⟨rfl,rfl,hp',he',hk⟩;obtain ⟨c0,c1,c2,c3,c4,c5,c6,c7⟩:=hp'.eight;have c8:=he'.cell 0;simp at c8;refine ⟨.tuple #[.agg (bH 0 false false false 0 false false none 0 0),.int .i64 er],?_,hB.trans (hk.below (fun k _ e=>by omega) hB.size),.inl ⟨er,hR,rfl⟩⟩;simp[results,Tryz.results95,go_sem,h2,h3,c0,c1,c2,c3,c4,c5,c6,c7,c8,bH]
theorem LZ (w W:World) (R:Sum Nat kP) (T:Array Value) (p:kP) (A:Option Addr) (c Z:Nat) (h2:T[2]? =some (.pointer (some ⟨w.heap.size,0,none⟩))) (h3:T[3]? =some (.pointer (some ⟨w.heap.size+1,0,none⟩)))
 (hp:au W w.heap.size 148 (bH p.sn p.po p.sg p.la p.off p.s p.e A p.ps.length c)) (he:au W (w.heap.size+1) 53 #[.int .i64 0]) (hB:Below w.heap.size w W) (hR:R= .inr p) (hpo:eT W Z (.slice A p.ps.length c) p.ps) (hZ:w.heap.size≤Z):
 bodyPostD Tryz.prog Tryz.f95 (Jf w R) .ret {tmps:=T,defers:= [{target:= .fn (.func 148) #[.pointer (some ⟨w.heap.size,0,none⟩),.pointer (some ⟨w.heap.size+1,0,none⟩)],args:= #[]}]} W:=by
 refine leaves_cons (f:=148) (args:= #[.pointer (some ⟨w.heap.size,0,none⟩),.pointer (some ⟨w.heap.size+1,0,none⟩)]) (by simp) (by simp[go_sem]) ?_;refine (Je _ _ _).mono ?_;rintro e9 u9 w9 ⟨rfl,rfl,rfl⟩;unfold bH at hp;obtain ⟨c0,c1,c2,c3,c4,c5,c6,c7⟩:=hp.eight;have c8:=he.cell 0;simp at c8;refine ⟨.tuple #[.agg (bH p.sn p.po p.sg p.la p.off p.s p.e A p.ps.length c),.int .i64 0],?_,hB,.inr ⟨p,A,c,hR,rfl,hpo.base hZ⟩⟩;simp[results,Tryz.results95,go_sem,h2,h3,c0,c1,c2,c3,c4,c5,c6,c7,c8,bH]
end Go.Proofs.YtbhiklnljiehiaaGreat
namespace Go.Proofs.YtbhiklnljiehiaaGreat
open Go.RowKit Go.Shelf
attribute [local go_sem] Oper.semAt_some
theorem zm {bs:List UInt8} {mo:Bool} {q:Nat} {ps:List (List UInt8)} (h:iV bs mo q= .inr ps):ps.length≤64∧∀p∈ps,p.length≤32767:=by
 unfold iV at h;cases hl:rR bs mo q with
 |inl er=>rw[hl] at h;cases h
 |inr lp=>
  obtain ⟨ls,p⟩:=lp;rw[hl] at h;obtain ⟨Wz,L5⟩:=Dx hl;simp only at h;generalize bs.drop (p/8)=D at h;unfold ku at h;split at h
  ·cases h
  ·split at h
   ·cases h
   ·injection h with h
    subst h;refine ⟨by rw[lq];omega,fun x hx=> ?_⟩;obtain ⟨i,hi⟩:=List.mem_iff_getElem?.1 hx;by_cases hil:i<ls.length
    ·rw[wF ls D i _ (List.getElem?_eq_getElem hil)] at hi;injection hi with hi
     rw[←hi,List.length_take,List.length_drop];omega
    ·have aeA:i=ls.length:=by
      have:=(List.getElem?_eq_some_iff.1 hi).1;rw[lq] at this;omega
     rw[aeA,tN] at hi;injection hi with hi
     rw[←hi,List.length_drop];omega
theorem au.Sn {w:World} {g' t:Nat} {cs:Array Value} (h:au w g' t cs) {g:Nat} (hne:g'≠g) (u0 u1 u2 u3 u4 u5 u6 u7:Value):au ((((((((w.setCell ⟨g,0,none⟩ u0).setCell ⟨g,1,none⟩ u1).setCell ⟨g,2,none⟩ u2).setCell ⟨g,3,none⟩ u3).setCell ⟨g,4,none⟩ u4).setCell ⟨g,5,none⟩ u5).setCell ⟨g,6,none⟩ u6).setCell ⟨g,7,none⟩ u7) g' t cs:=
 (((((((h.far (p:=⟨g,0,none⟩) hne u0).far (p:=⟨g,1,none⟩) hne u1).far (p:=⟨g,2,none⟩) hne u2).far (p:=⟨g,3,none⟩) hne u3).far (p:=⟨g,4,none⟩) hne u4).far (p:=⟨g,5,none⟩) hne u5).far (p:=⟨g,6,none⟩) hne u6).far (p:=⟨g,7,none⟩) hne u7
theorem FQ {w:World} {base:Nat} {e t:TypeId} {v:Value} {n g:Nat} {xs:List Value} {cs:Array Value} (h:w.ownsRow base e 1 v n xs) (b:au w g t cs) (hne:e≠t) (u0 u1 u2 u3 u4 u5 u6 u7:Value):(((((((((w.setCell ⟨g,0,none⟩ u0).setCell ⟨g,1,none⟩ u1).setCell ⟨g,2,none⟩ u2).setCell ⟨g,3,none⟩ u3).setCell ⟨g,4,none⟩ u4).setCell ⟨g,5,none⟩ u5).setCell ⟨g,6,none⟩ u6).setCell ⟨g,7,none⟩ u7)).ownsRow base e 1 v n xs:=by
 have b0:=b.av 0 u0;have b1:=b0.av 1 u1;have b2:=b1.av 2 u2;have b3:=b2.av 3 u3;have b4:=b3.av 4 u4;have b5:=b4.av 5 u5;have b6:=b5.av 6 u6;exact aI (i:=7) (aI (i:=6) (aI (i:=5) (aI (i:=4) (aI (i:=3) (aI (i:=2) (aI (i:=1) (aI (i:=0) h b hne _) b0 hne _) b1 hne _) b2 hne _) b3 hne _) b4 hne _) b5 hne _) b6 hne _
set_option maxRecDepth 100000 in
set_option maxHeartbeats 8000000 in
theorem FR (A:Option Addr) (n c:Nat) (bs:List UInt8) (w:World) (h:Sl w w.heap.size A n c (bO bs)) (hsm:n≤1000000):
 Calls Tryz.prog 95 #[.slice A n c] w (Jf w (Bt bs)):=by
 have hlen:bs.length=n:=by simpa using h.len
 obtain ⟨R,hR⟩:∃R,Bt bs=R:=⟨_,rfl⟩
 rw[hR];have HR:=ah hR;clear hR;have hB0:=((Below.refl w.heap.size w).alloc (aN) (.cells (bH 0 false false false 0 false false none 0 0) 148)).alloc (by simp) (.cells #[.int .i64 0] 53);have hs0:=(h.below hB0).more hB0.size;have hnr:=ru A n c bs _ hs0 (by omega);have OV:=(au.new w 148 (bH 0 false false false 0 false false none 0 0)).alloc (.cells #[.int .i64 0] 53);have xE:=au.new (w.alloc (.cells (bH 0 false false false 0 false false none 0 0) 148)) 53 #[.int .i64 0];rw[World.size_alloc] at xE;unfold bH at hnr hB0 OV xE;have ZT:=ah hnr;have HB0:=ah hB0;have pG:=ah hsm;have jw:=ah hlen;clear hnr hB0 hs0 hsm hlen
 go_enter_defers Tryz.func95,Tryz.ntmps95
 go_wp2_with fail;refine ZT.out.mono ?_;rintro e1 w1 ⟨r,v,rfl,hr,hrd,hb1⟩;have ZU:=OV.below hb1 OV.lt;have tq:=xE.below hb1 xE.lt;have hB1:Below w.heap.size w w1:=HB0.out.trans (hb1.mono HB0.out.size);have aeB:w.heap.size+1<r:=by simp at hr;omega
 have hrl:=hrd.1.lt;clear OV xE hb1 hr ZT HB0;have hW2:∃w2,(w1.alloc (.cells #[.pointer (some ⟨r,0,none⟩),.slice A n c] 234)).alloc (.cells #[.int .i64 1,.int .i64 1,.int .i64 1,.int .i64 1,.int .i64 1,.int .i64 1,.int .i64 10] 3)=w2:=⟨_,rfl⟩
 obtain ⟨w2,hw2⟩:=hW2;have NG:=(ZU.alloc (.cells #[.pointer (some ⟨r,0,none⟩),.slice A n c] 234)).alloc (.cells #[.int .i64 1,.int .i64 1,.int .i64 1,.int .i64 1,.int .i64 1,.int .i64 1,.int .i64 10] 3);have pK:=(tq.alloc (.cells #[.pointer (some ⟨r,0,none⟩),.slice A n c] 234)).alloc (.cells #[.int .i64 1,.int .i64 1,.int .i64 1,.int .i64 1,.int .i64 1,.int .i64 1,.int .i64 10] 3);rw[hw2] at NG pK;have hB2:Below w.heap.size w w2:=by rw[←hw2];exact (hB1.alloc hB1.size _).alloc (by have:=hB1.size;simp;omega) _
 have si:jO w2 r v bs 0:=by rw[←hw2];exact ⟨(hrd.1.alloc _).alloc _,(hrd.2.alloc _).alloc _⟩
 have hd2:au w2 w1.heap.size 234 #[.pointer (some ⟨r,0,none⟩),.slice A n c]:=by rw[←hw2];exact (au.new w1 _ _).alloc _
 have hb2:au w2 (w1.heap.size+1) 3 (iR [1,1,1,1,1,1,10]).toArray:=by
  rw[←hw2];have:=au.new (w1.alloc (.cells #[.pointer (some ⟨r,0,none⟩),.slice A n c] 234)) 3 #[.int .i64 1,.int .i64 1,.int .i64 1,.int .i64 1,.int .i64 1,.int .i64 1,.int .i64 10];rw[World.size_alloc] at this;exact this
 go_wp2_with fail;clear hrd ZU tq hB1 hw2;have hdr:w1.heap.size≠r:=by omega
 generalize w1.heap.size=d at*;have hbl:bs.length≤1000000:=by have:=jw.out;have:=pG.out;omega
 by_cases h2:bs.length<2
 ·have rE:R= .inl 5:=by rw[←HR.out];unfold Bt;rw[if_pos h2]
  have wN:=ah rE;clear rE;have hga:=jB r (d+1) v bs 0 [1,1,1,1,1,1,10] w2 si (by omega) (by simp) (by simp) hb2 (by omega) (by simp;omega);simp only[List.length_cons,List.length_nil,Nat.zero_add,Nat.reduceAdd] at hga;refine hga.mono ?_;rintro e3 w3 ⟨rfl,lU,hk3⟩;have hB3:Below w.heap.size w w3:=hB2.trans (hk3.below (B:=w.heap.size) (fun k _ e=>by have:=hB2.size;omega) hB2.size);have vP:=NG.kept hk3 (by have:=NG.lt;omega);have nS:=pK.kept hk3 (by have:=pK.lt;omega);clear hga h2 hbl;go_wp2_with (go_at_call 149;((with_reducible refine (Cu _ _ _ _ rfl _).mono ?_);rintro e4 w4 ⟨rfl,rfl⟩));exact lJ w _ R 5 _ _ _ _ _ _ _ _ _ _ rfl rfl vP nS hB3 wN.out
 ·have hga:=ni r (d+1) v bs 0 [1,1,1,1,1,1,10] w2 si (by omega) (by simp) (by simp) hb2 (by simp;omega);simp only[List.length_cons,List.length_nil,Nat.zero_add,Nat.reduceAdd] at hga;refine hga.mono ?_;rintro e3 w3 ⟨vo,rfl,gN,lU,hk3⟩;have hB3:Below w.heap.size w w3:=hB2.trans (hk3.below (B:=w.heap.size) (fun k _ e=>by have:=hB2.size;omega) hB2.size);have vP:=NG.kept hk3 (by have:=NG.lt;omega);have nS:=pK.kept hk3 (by have:=pK.lt;omega);have hd3:=hd2.kept hk3 (by have:=hd2.lt;omega);have oV:=HR.out;unfold Bt at oV;rw[if_neg h2] at oV;have hgv:getAll bs 0 [1,1,1,1,1,1,10]= [val (aF bs 0 1),val (aF bs 1 1),val (aF bs 2 1),val (aF bs 3 1),val (aF bs 4 1),val (aF bs 5 1),val (aF bs 6 10)]:=rfl;rw[hgv] at gN;have hx6:val (aF bs 6 10)<1024:=by have:=pO (aF bs 6 10);rw[fq] at this;exact this
  have aeC:=hd2.lt;have D7:2≤bs.length:=by omega
  clear hgv hga hb2 si hB2 NG pK hd2 hk3 h2;simp only[List.length_cons,List.length_nil,Nat.zero_add,Nat.reduceAdd] at gN;rw[show (0:Nat)+ [1,1,1,1,1,1,10].sum=16 from rfl] at lU;generalize val (aF bs 0 1)=x0 at*;generalize val (aF bs 1 1)=x1 at*;generalize val (aF bs 2 1)=x2 at*;generalize val (aF bs 3 1)=x3 at*;generalize val (aF bs 4 1)=x4 at*;generalize val (aF bs 5 1)=x5 at*;generalize val (aF bs 6 10)=x6 at*;obtain ⟨gl,V9,rfl,hgl,kL⟩:=gN.form (by omega);have l0:=gN.cellAt 0 (by omega);have l1:=gN.cellAt 1 (by omega);have l2:=gN.cellAt 2 (by omega);have l6:=gN.cellAt 6 (by omega);simp[nU] at l0 l1 l2 l6;by_cases h0:x0=1
  ·subst h0;simp only[ne_eq,not_true,if_false] at oV;have HR1:=ah oV;clear oV;have hwx:IntKind.i64.wrap (x6:Int)=x6:=IntWalk.i64_in _ (by omega);have bq1:((x1:Int)==1)=decide (x1=1):=by rw[Bool.eq_iff_iff];simp;omega
   have bq2:((x2:Int)==1)=decide (x2=1):=by rw[Bool.eq_iff_iff];simp;omega
   obtain ⟨sg,hsg⟩:∃sg,decide (x1=1)=sg:=⟨_,rfl⟩
   obtain ⟨po,hpo⟩:∃po,decide (x2=1)=po:=⟨_,rfl⟩
   rw[hsg] at bq1;rw[hpo] at bq2 HR1;have ZB:w3.drew.cell? ⟨gl,1,none⟩=some (.int .u64 x1):=l1;have l2':w3.drew.cell? ⟨gl,2,none⟩=some (.int .u64 x2):=l2;have l6':w3.drew.cell? ⟨gl,6,none⟩=some (.int .u64 x6):=l6;have HSG:=ah hsg;clear hsg hpo;obtain ⟨p0,p1,p2,p3,p4,p5,p6,p7⟩:=vP.eight;have f0:=vP.frozen 0;have f1:=vP.frozen 1;have f2:=vP.frozen 2;have f3:=vP.frozen 3;have f4:=vP.frozen 4;have f5:=vP.frozen 5;have f6:=vP.frozen 6;have f7:=vP.frozen 7;go_wp2_with (first|(go_at_call 149;((with_reducible refine (zi _ _ _ _).mono ?_);rintro e4 w4 ⟨rfl,rfl⟩))|(go_at_call 150;((with_reducible refine (iG _ _).mono ?_);rintro e4 w4 ⟨rfl,rfl⟩)));refine wp_region_noPanic ?_
   go_region
   refine NoPanic.normal ?_;have UM:=(vP.OP (.int .i64 x6) (.bool po) (.bool sg) (.bool false) (.int .i64 0) (.bool false) (.bool false) (.slice none 0 0)).drew;have Q7:=(nS.Sn (g:=w.heap.size) (by omega) (.int .i64 x6) (.bool po) (.bool sg) (.bool false) (.int .i64 0) (.bool false) (.bool false) (.slice none 0 0)).drew;have hd4:=(hd3.Sn (g:=w.heap.size) (by omega) (.int .i64 x6) (.bool po) (.bool sg) (.bool false) (.int .i64 0) (.bool false) (.bool false) (.slice none 0 0)).drew;have FP:=World.ownsRow.drew' (FQ gN vP (by decide) (.int .i64 x6) (.bool po) (.bool sg) (.bool false) (.int .i64 0) (.bool false) (.bool false) (.slice none 0 0));have hB4:=(oz hB3 (aN) (.int .i64 x6) (.bool po) (.bool sg) (.bool false) (.int .i64 0) (.bool false) (.bool false) (.slice none 0 0)).drew;have UN:=(lU.1.Sn (g:=w.heap.size) (by omega) (.int .i64 x6) (.bool po) (.bool sg) (.bool false) (.int .i64 0) (.bool false) (.bool false) (.slice none 0 0)).drew;have UO:=World.ownsRow.drew' (FQ lU.2 vP (by decide) (.int .i64 x6) (.bool po) (.bool sg) (.bool false) (.int .i64 0) (.bool false) (.bool false) (.slice none 0 0));clear p0 p1 p2 p3 p4 p5 p6 p7 f0 f1 f2 f3 f4 f5 f6 f7 vP nS hd3 gN hB3 lU l0 l1 l2 l6 ZB l2' l6' bq1 bq2 hwx
   generalize ((((((((w3.setCell ⟨w.heap.size,0,none⟩ (.int .i64 x6)).setCell ⟨w.heap.size,1,none⟩ (.bool po)).setCell ⟨w.heap.size,2,none⟩ (.bool sg)).setCell ⟨w.heap.size,3,none⟩ (.bool false)).setCell ⟨w.heap.size,4,none⟩ (.int .i64 0)).setCell ⟨w.heap.size,5,none⟩ (.bool false)).setCell ⟨w.heap.size,6,none⟩ (.bool false)).setCell ⟨w.heap.size,7,none⟩ (.slice none 0 0)).drew=w4 at*;have yN:jO w4 r v bs 16:=⟨UN,UO⟩;clear UN UO
   replace FP:=aU FP (show w.heap.size+2≤_ by omega)
   obtain ⟨p0,p1,p2,p3,p4,p5,p6,p7⟩:=UM.eight;go_upto_if 41 with (fail)
   go_cut [6] from 42 to 60 (fun s6 wx=>∃(la:Bool) (off q:Nat),au wx w.heap.size 148 #[.int .i64 x6,.bool po,.bool sg,.bool la,.int .i64 off,.bool false,.bool false,.slice none 0 0]∧au wx (w.heap.size+1) 53 #[.int .i64 0]∧au wx d 234 #[.pointer (some ⟨r,0,none⟩),.slice A n c]∧
    wx.ownsRow (w.heap.size+2) 204 1 (.slice (some ⟨gl,0,none⟩) 7 V9) 7 (nU [1,x1,x2,x3,x4,x5,x6])∧jO wx r v bs q∧Below w.heap.size w wx∧q≤8*bs.length∧off≤32767∧
    R=(match iV bs (decide (x5=1)) q with| .inl er=> .inl er| .inr ps=>if gY (x6:Nat) sg la (off:Nat) ps=true then .inr ⟨x6,po,sg,la,off,decide (x3=0),decide (x4=0),ps⟩ else .inl 9))
   case first=>
    have Q6:=hd4.cell 0;simp at Q6;by_cases hx1:x1=1
    ·have hsg:=HSG.out;rw[decide_eq_true hx1] at hsg;have hR2:=HR1.out;rw[if_pos hx1] at hR2;subst hsg;have zn:=UM.alloc (.cells #[.int .i64 1,.int .i64 15] 3);have uk:=Q7.alloc (.cells #[.int .i64 1,.int .i64 15] 3);have hd5:=hd4.alloc (.cells #[.int .i64 1,.int .i64 15] 3);have nC:=FP.alloc (.cells #[.int .i64 1,.int .i64 15] 3);have lI:=hB4.alloc hB4.size (.cells #[.int .i64 1,.int .i64 15] 3);have sj:jO (w4.alloc (.cells #[.int .i64 1,.int .i64 15] 3)) r v bs 16:=⟨yN.1.alloc _,yN.2.alloc _⟩;have hb5:au (w4.alloc (.cells #[.int .i64 1,.int .i64 15] 3)) w4.heap.size 3 (iR [1,15]).toArray:=au.new w4 3 #[.int .i64 1,.int .i64 15];by_cases h4:bs.length<4
     ·rw[if_pos h4] at hR2;have HR2:=ah hR2.symm;have hga:=jB r w4.heap.size v bs 16 [1,15] _ sj (by omega) (by simp) (by simp) hb5 (by omega) (by simp;omega);simp only[List.length_cons,List.length_nil,Nat.zero_add,Nat.reduceAdd] at hga;have VQ:=ah hga;clear hga hR2 h4 hx1;go_wp2_with fail;refine VQ.out.mono ?_;rintro e6 w6 ⟨rfl,uj,lg⟩;have Sq:Below w.heap.size w w6:=lI.trans (lg.below (B:=w.heap.size) (fun k _ e=>by have:=lI.size;omega) lI.size);have Bu:=zn.kept lg (by have:=zn.lt;omega);have NH:=uk.kept lg (by have:=uk.lt;omega);go_wp2_with (go_at_call 149;((with_reducible refine (Cu _ _ _ _ rfl _).mono ?_);rintro e7 w7 ⟨rfl,rfl⟩));exact lJ w _ R 5 _ _ _ _ _ _ _ _ _ _ rfl rfl Bu NH Sq HR2.out
     ·rw[if_neg h4] at hR2;have hga:=ni r w4.heap.size v bs 16 [1,15] _ sj (by omega) (by simp) (by simp) hb5 (by simp;omega);simp only[List.length_cons,List.length_nil,Nat.zero_add,Nat.reduceAdd] at hga;have VQ:=ah hga;have HR2:=ah hR2.symm;have akA:4≤bs.length:=by omega
      clear hga hR2 h4 hx1;go_wp2_with fail;refine VQ.out.mono ?_;rintro e6 w6 ⟨vm,rfl,ZV,uj,lg⟩;have Sq:Below w.heap.size w w6:=lI.trans (lg.below (B:=w.heap.size) (fun k _ e=>by have:=lI.size;omega) lI.size);have Bu:=zn.kept lg (by have:=zn.lt;omega);have NH:=uk.kept lg (by have:=uk.lt;omega);have hd6:=hd5.kept lg (by have:=hd5.lt;omega);have R8:=jA nC lg (fun j o _ hj e=>by have:=(nC.lt j hj);obtain rfl:gl=j:=(by simpa[Value.ownBlock] using hj);omega);have hgv:getAll bs 16 [1,15]= [val (aF bs 16 1),val (aF bs 17 15)]:=rfl;rw[hgv] at ZV;have hx8:val (aF bs 17 15)<32768:=by have:=pO (aF bs 17 15);rw[fq] at this;exact this
      have NI:=HR2.out;clear hgv HR2;simp only[List.length_cons,List.length_nil,Nat.zero_add,Nat.reduceAdd] at ZV;rw[show (16:Nat)+ [1,15].sum=32 from rfl] at uj;generalize val (aF bs 16 1)=y0 at*;generalize val (aF bs 17 15)=y1 at*;have HR3:=ah NI;clear NI;obtain ⟨gm,akB,rfl,hgm,akC⟩:=ZV.form (by omega);have m0:=ZV.cellAt 0 (by omega);have m1:=ZV.cellAt 1 (by omega);simp[nU] at m0 m1;have m0':w6.drew.cell? ⟨gm,0,none⟩=some (.int .u64 y0):=m0;have m1':w6.drew.cell? ⟨gm,1,none⟩=some (.int .u64 y1):=m1;have hwy:IntKind.i64.wrap (y1:Int)=y1:=IntWalk.i64_in _ (by omega);have bqy:((y0:Int)==1)=decide (y0=1):=by rw[Bool.eq_iff_iff];simp;omega
      obtain ⟨la,hla⟩:∃la,decide (y0=1)=la:=⟨_,rfl⟩
      rw[hla] at bqy HR3;clear hla;obtain ⟨z0,z1,z2,z3,z4,z5,z6,z7⟩:=Bu.eight;have f3:=Bu.frozen 3;have f4:=Bu.frozen 4;go_wp2_with (go_at_call 149;((with_reducible refine (zi _ _ _ _).mono ?_);rintro e7 w7 ⟨rfl,rfl⟩));refine wp_region_noPanic ?_
      go_region
      refine NoPanic.normal ?_;go_wp2_with fail;go_meet;have YE:=((Bu.av 3 (.bool la)).av 4 (.int .i64 y1)).drew;simp at YE;refine ⟨la,y1,32,YE,((NH.far (p:=⟨w.heap.size,3,none⟩) (by simp) (.bool la)).far (p:=⟨w.heap.size,4,none⟩) (by simp) (.int .i64 y1)).drew,((hd6.far (p:=⟨w.heap.size,3,none⟩) (by simp;omega) (.bool la)).far (p:=⟨w.heap.size,4,none⟩) (by simp;omega) (.int .i64 y1)).drew,
       World.ownsRow.drew' (aI (i:=4) (aI (i:=3) R8 Bu (by decide) (.bool la)) (Bu.av 3 (.bool la)) (by decide) _),
       ⟨((uj.1.far (p:=⟨w.heap.size,3,none⟩) (by simp;omega) (.bool la)).far (p:=⟨w.heap.size,4,none⟩) (by simp;omega) (.int .i64 y1)).drew,World.ownsRow.drew' (aI (i:=4) (aI (i:=3) uj.2 Bu (by decide) (.bool la)) (Bu.av 3 (.bool la)) (by decide) _)⟩,
       ((Sq.setCell (p:=⟨w.heap.size,3,none⟩) (by simp) (.bool la)).setCell (p:=⟨w.heap.size,4,none⟩) (by simp) (.int .i64 y1)).drew,by omega,by omega,HR3.out⟩
    ·have hsg:=HSG.out;rw[decide_eq_false hx1] at hsg;have hR2:=HR1.out;rw[if_neg hx1] at hR2;subst hsg;have HR2:=ah hR2.symm;clear hR2 hx1;go_wp2_with fail;go_meet;exact ⟨false,0,16,UM,Q7,hd4,FP,yN,hB4,by omega,by omega,HR2.out⟩
   case rest=>
    obtain ⟨la,off,q,zn,uk,hd5,nC,sj,lI,hq,hoff,rE⟩:=hcut;have wN:=ah rE;clear rE HR1 HR p0 p1 p2 p3 p4 p5 p6 p7 UM Q7 hd4 FP yN hB4;have l3:=nC.cellAt 3 (by omega);have l4:=nC.cellAt 4 (by omega);have l5:=nC.cellAt 5 (by omega);simp[nU] at l3 l4 l5;have b3:((x3:Int)==0)=decide (x3=0):=by rw[Bool.eq_iff_iff];simp
    have b4:((x4:Int)==0)=decide (x4=0):=by rw[Bool.eq_iff_iff];simp
    have b5:((x5:Int)==1)=decide (x5=1):=by rw[Bool.eq_iff_iff];simp;omega
    generalize decide (x3=0)=s at*;generalize decide (x4=0)=e at*;generalize decide (x5=1)=mo at*;have hch:=LY r d v A n c bs s e mo q wc.drew sj hd5.drew (fun W hW=>(h.below (lI.drew.trans (hW.below (B:=w.heap.size) (fun k _ e=>by have:=lI.size;simp at e;omega) lI.size))).more (by have:=lI.size;have:=hW.size;simp at this;omega)) (by omega) hq;have kW:=ah hch;clear hch;go_wp2_with fail;refine wp_region_still_tail 13 (by kernel_rfl) (by kernel_rfl) ?_;simp only[List.take_succ_cons,List.take_zero,List.drop_succ_cons,List.drop_zero]
    still_step
    still_step
    still_step
    still_step
    still_step
    still_step
    still_step
    still_step
    still_step
    still_step
    still_step
    still_step
    still_step
    refine wpStill_nil ?_;change wpList _ _ _ _ _ wc.drew
    replace zn:=zn.drew
    replace uk:=uk.drew
    replace lI:=lI.drew
    clear hd5 nC sj l3 l4 l5 b3 b4 b5;have hwc:w.heap.size+1<wc.drew.heap.size:=uk.lt;generalize wc.drew=w5 at*;go_wp2_with fail;refine kW.out.mono ?_;rintro e6 w6 ⟨lg,h6⟩;have Sq:Below w.heap.size w w6:=lI.trans (lg.below (B:=w.heap.size) (fun k _ e=>by omega) lI.size);have Bu:=zn.kept lg (by omega);have NH:=uk.kept lg (by omega);rcases h6 with ⟨er,hl,rfl⟩|⟨ps,Ao,co,hl,rfl,hpo⟩
    ·have OW:=ah (show R= .inl er by rw[wN.out,hl]);clear hl;go_wp2;exact lJ w _ R er _ _ _ _ _ _ _ _ _ _ rfl rfl Bu NH Sq OW.out
    ·have hRp:R=if gY (x6:Nat) sg la (off:Nat) ps=true then .inr ⟨x6,po,sg,la,off,s,e,ps⟩ else .inl 9:=by rw[wN.out,hl]
     have KJ:=ah hRp;have hcp:=ah (zm hl);clear hRp hl wN kW lI zn uk;obtain ⟨z0,z1,z2,z3,z4,z5,z6,z7⟩:=Bu.eight;have f5:=Bu.frozen 5;have f6:=Bu.frozen 6;have f7:=Bu.frozen 7;have YE:=((Bu.av 5 (.bool s)).av 6 (.bool e)).av 7 (.slice Ao ps.length co);have be7:=((NH.far (p:=⟨w.heap.size,5,none⟩) (by simp) (.bool s)).far (p:=⟨w.heap.size,6,none⟩) (by simp) (.bool e)).far (p:=⟨w.heap.size,7,none⟩) (by simp) (.slice Ao ps.length co);have R4:=((Sq.setCell (p:=⟨w.heap.size,5,none⟩) (by simp) (.bool s)).setCell (p:=⟨w.heap.size,6,none⟩) (by simp) (.bool e)).setCell (p:=⟨w.heap.size,7,none⟩) (by simp) (.slice Ao ps.length co);have ZW:eT (((w6.setCell ⟨w.heap.size,5,none⟩ (.bool s)).setCell ⟨w.heap.size,6,none⟩ (.bool e)).setCell ⟨w.heap.size,7,none⟩ (.slice Ao ps.length co)) w5.heap.size (.slice Ao ps.length co) ps:=
      hpo.kept (fun k o hk ho=>by
       rw[Below.heap_setCell _ _ _ k (by simp;omega),Below.heap_setCell _ _ _ k (by simp;omega),Below.heap_setCell _ _ _ k (by simp;omega)];exact ho)
     simp at YE;obtain ⟨Ax,cx,zo,hvx,xG⟩:=ZW.EX;injection hvx with hx1 _ hx2
     subst hx1 hx2;have hva:=su x6 po sg la off s e Ao ps.length co zo ps _ xG (by have:=hcp.out.1;omega) (fun p hp=>by have:=hcp.out.2 p hp;omega);unfold bH at hva;have KE:=ah hva;have UQ:=ah ZW;clear hva xG;go_wp2_with fail;refine KE.out.mono ?_;rintro e8 w8 ⟨rfl,OM⟩;have OX:=YE.below OM YE.lt;have be8:=be7.below OM be7.lt;have hB8:=R4.trans (OM.mono R4.size);by_cases hvv:gY (x6:Nat) sg la (off:Nat) ps=true
     ·have Cv:=ah (show R= .inr ⟨x6,po,sg,la,off,s,e,ps⟩ by rw[KJ.out,if_pos hvv]);rw[hvv];clear hvv;have ZX:eT w8 w5.heap.size (.slice Ao ps.length co) ps:=UQ.out.kept (fun k o _ ho=>(OM.block k (lt_of_heap ho)).trans ho);have aeD:=ah ZX;clear ZX;clear z0 z1 z2 z3 z4 z5 z6 z7 f5 f6 f7;obtain ⟨z0,z1,z2,z3,z4,z5,z6,z7⟩:=OX.eight;have f0:=OX.frozen 0;have f1:=OX.frozen 1;have f2:=OX.frozen 2;have f3:=OX.frozen 3;have f4:=OX.frozen 4;have f5:=OX.frozen 5;have f6:=OX.frozen 6;have f7:=OX.frozen 7;have f8:=be8.frozen 0;have z8:=be8.cell 0;simp at z8;go_wp2_with (go_at_call 150;((with_reducible refine (iG _ _).mono ?_);rintro e9 w9 ⟨rfl,rfl⟩));have Jg:=(OX.OP (.int .i64 x6) (.bool po) (.bool sg) (.bool la) (.int .i64 off) (.bool s) (.bool e) (.slice Ao ps.length co)).far (p:=⟨w.heap.size+1,0,none⟩) (by simp) (.int .i64 0);have WB:=(be8.Sn (g:=w.heap.size) (by omega) (.int .i64 x6) (.bool po) (.bool sg) (.bool la) (.int .i64 off) (.bool s) (.bool e) (.slice Ao ps.length co)).av 0 (.int .i64 0);have Sr:=(oz hB8 (aN) (.int .i64 x6) (.bool po) (.bool sg) (.bool la) (.int .i64 off) (.bool s) (.bool e) (.slice Ao ps.length co)).setCell (p:=⟨w.heap.size+1,0,none⟩) (by simp) (.int .i64 0);refine LZ w _ R _ ⟨x6,po,sg,la,off,s,e,ps⟩ Ao co w5.heap.size rfl rfl Jg WB Sr Cv.out (aeD.out.kept (fun k o hk ho=> ?_)) (by omega)
      have hs:=fun (X:World) (g i:Nat) (u:Value) (hg:g<w5.heap.size)=>Below.heap_setCell X ⟨g,i,none⟩ u k (by simp;omega)
      rw[hs _ _ _ _ (by omega),hs _ _ _ _ (by omega),hs _ _ _ _ (by omega),hs _ _ _ _ (by omega),hs _ _ _ _ (by omega),hs _ _ _ _ (by omega),hs _ _ _ _ (by omega),hs _ _ _ _ (by omega),hs _ _ _ _ (by omega)];exact ho
     ·have Cv:=ah (show R= .inl 9 by rw[KJ.out,if_neg hvv]);rw[Bool.not_eq_true] at hvv;rw[hvv];clear hvv;go_wp2_with (go_at_call 150;((with_reducible refine (fI _ _).mono ?_);rintro e9 w9 ⟨rfl,rfl⟩));exact lJ w _ R 9 _ _ _ _ _ _ _ _ _ _ rfl rfl OX be8 hB8 Cv.out
  ·rw[if_pos h0] at oV;have HR1:=ah oV.symm;have hx0:((x0:Int)==1)=false:=by simp;omega
   clear oV h0;go_wp2_with (first|(go_at_call 149;((with_reducible refine (zi _ _ _ _).mono ?_);rintro e4 w4 ⟨rfl,rfl⟩))|(go_at_call 150;((with_reducible refine (fI _ _).mono ?_);rintro e4 w4 ⟨rfl,rfl⟩)));exact lJ w _ R 9 _ _ _ _ _ _ _ _ _ _ rfl rfl vP nS hB3 HR1.out
end Go.Proofs.YtbhiklnljiehiaaGreat
namespace Go.Proofs.YtbhiklnljiehiaaGreat
section
abbrev Fl:=Bool × Bool × Bool
def UR:Fl:=(false,false,false)
structure Sp where
 fl:List Fl
 da:List UInt8
 size:Option Nat
def FT:Sp:=⟨[],[],none⟩
def fQ (l:List Fl) (i:Nat):Fl:=l[i]?.getD UR
def qg (l:List Fl):Nat:=(l.map (fun f=>f.1.toNat)).sum
def lK (p:Sp):Bool:=match p.size with
 |none=>false
 |some k=>decide (0<k)&&decide (qg p.fl=k)
def gB:Option Sp→Bool
 |none=>false
 |some p=>lK p
structure Rc where
 m:Nat→Option Sp
 next:Nat
 status:Nat
 high:Nat
 ro:Bool
 jM:Nat
 exp:Int
 due:Bool
 D8:Int
 now:Int
 op:List UInt8
 sm:Bool
def lM:Rc:=⟨fun _=>none,0,0,0,false,0,0,false,0,0,[],false⟩
def fJ (sn:Nat):Nat:=(sn+1)%1024
def cO (st:Rc) (sn:Nat):Nat:=(sn+1024-st.next)%1024
def qh (m:Nat→Option Sp):Nat→Nat→Nat
 |0,sn=>sn
 |f+1,sn=>if gB (m sn)=true then qh m f (fJ sn) else sn
def vQ (c:Cf) (st:Rc):Rc:= {st with ro:=true,jM:=st.high,exp:=IntKind.i64.wrap (st.now+c.reorder)}
def jX (st:Rc) (now:Int):Rc:= {st with now:=if st.now<now then now else st.now}
def vR (c:Cf) (st:Rc):Rc:=
 let s2:Rc:= {st with status:=qh st.m 1024 st.jM,due:=true,ro:=false}
 if s2.high≠s2.status then vQ c s2 else s2
def dI (c:Cf) (st:Rc) (now:Int):Rc:=
 if st.ro=false∨(jX st now).now<st.exp then jX st now else vR c (jX st now)
def rF (p:List UInt8) (a b:Bool):List (Fl × UInt8):=p.mapIdx (fun j x=>((true,decide (j=0)&&a,decide (j+1=p.length)&&b),x))
def gZ (s e:Bool) (n:Nat):Nat→List (List UInt8)→List (Fl × UInt8)
 |_,[]=> []
 |i,p::r=>rF p (decide (0<i)||s) (decide (i+1<n)||e)++gZ s e n (i+1) r
def Cw:List (Fl × UInt8)→Nat→List Fl × List UInt8→List Fl × List UInt8
 | [],_,x=>x
 |(f,b)::r,at_,x=>Cw r (at_+1) (if (fQ x.1 at_).1=true then x else (x.1.set at_ f,x.2.set at_ b))
def jY (k:Nat) (l:List Fl):List Fl:=l++List.replicate (k-l.length) UR
def oC (k:Nat) (l:List UInt8):List UInt8:=l++List.replicate (k-l.length) 0
def nD (x:kP):Nat:=x.off+aj x.ps
def FU (x:kP):Bool:= !x.sg||x.la
def FV (p:Sp) (x:kP):Bool:=match p.size with
 |some k=> !(decide (nD x≤k)&&(!FU x||decide (nD x=k)))
 |none=>FU x&&(decide (nD x<p.fl.length)&&(p.fl.drop (nD x)).any (fun f=>f.1))
def iH (p:Sp) (x:kP):Sp:=
 let y:=Cw (gZ x.s x.e x.ps.length 0 x.ps) x.off (jY (nD x) p.fl,oC (nD x) p.da)
 ⟨y.1,y.2,if FU x=true then some (nD x) else p.size⟩
def ul (b:List UInt8) (begins last:Bool) (op:List UInt8) (sm:Bool):List UInt8 × Bool × List (List UInt8):=
 if begins=false∧sm=false then (op,false,[])
 else
  let o2:=(if begins=true then [] else op)++b
  if o2.length≤9000∧last=false then (o2,true,[])
  else ([],false,if o2.length≤9000 then [o2] else [])
def vS (fl:List Fl) (da:List UInt8) (n:Nat):Nat→Nat→Nat→List UInt8→Bool→List UInt8 × Bool × List (List UInt8)
 |0,_,_,op,sm=>(op,sm,[])
 |k+1,i,fr,op,sm=>
  if i<n∧(fQ fl i).2.1=false then vS fl da n k (i+1) fr op sm
  else
   let y:=ul ((da.take i).drop fr) (fQ fl fr).2.1 (decide (i<n)||(fQ fl (i-1)).2.2) op sm
   let z:=vS fl da n k (i+1) i y.1 y.2.1
   (z.1,z.2.1,y.2.2++z.2.2)
def kG (m:Nat→Option Sp) (k:Nat) (v:Option Sp):Nat→Option Sp:=fun j=>if j=k then v else m j
def Cx (p:Sp):Nat:=p.size.getD 0
def FW (st:Rc) (p:Sp):List UInt8 × Bool × List (List UInt8):=vS p.fl p.da (Cx p) (Cx p) 1 0 st.op st.sm
def zq (st:Rc) (p:Sp):Rc:= {st with op:=(FW st p).1,sm:=(FW st p).2.1,m:=kG st.m st.next none,next:=fJ st.next}
def fB:Nat→Rc→Rc × List (List UInt8)
 |0,st=>(st,[])
 |f+1,st=>match st.m st.next with
  |none=>(st,[])
  |some p=>if lK p=true then ((fB f (zq st p)).1,(FW st p).2.2++(fB f (zq st p)).2) else (st,[])
def qi (st:Rc) (x:kP) (p:Sp):Rc:=
 let s1:Rc:= {st with m:=kG st.m x.sn (some (iH p x)),due:=st.due||x.po}
 let s2:Rc:= {s1 with high:=if cO s1 s1.high≤cO s1 x.sn then fJ x.sn else s1.high}
 {s2 with status:=qh s2.m 1024 s2.status}
def L6 (c:Cf) (st:Rc):Rc:=
 let s1:Rc:=if cO st st.jM=0∨512<cO st st.jM then {st with ro:=false} else st
 if s1.ro=false∧s1.high≠s1.next then vQ c s1 else s1
def jG (st:Rc) (sn:Nat):Sp:=(st.m sn).getD FT
def L8 (c:Cf) (st:Rc) (x:kP):Rc × List (List UInt8) × Nat:=
 if 512≤cO st x.sn then ({st with due:=st.due||x.po},[],0)
 else if FV (jG st x.sn) x=true then (st,[],9)
 else
  let D:=fB 1024 (qi st x (jG st x.sn))
  (L6 c D.1,D.2,0)
def jH (c:Cf) (st:Rc) (now:Int) (bs:List UInt8):Rc × List (List UInt8) × Nat:=
 match Bt bs with
 | .inl er=>(dI c st now,[],er)
 | .inr x=>L8 c (dI c st now) x
def eY:List Fl→Nat→Nat→List (Nat × Nat)
 | [],i,fr=>if fr<i then [(fr,i-1)] else []
 |f::r,i,fr=>if f.1=false then eY r (i+1) fr else if fr<i then (fr,i-1)::eY r (i+1) (i+1) else eY r (i+1) (i+1)
def eO (sn:Nat) (x:Nat × Nat):Nk:=⟨sn,true,x.1,x.2⟩
def mM (sn:Nat):Option Sp→List Nk
 |none=> [⟨sn,false,0,0⟩]
 |some p=>match p.size with
  |some k=>(eY (jY k p.fl) 0 0).map (eO sn)
  |none=>(eY p.fl 0 0).map (eO sn)++ [⟨sn,true,p.fl.length,32767⟩]
def um (st:Rc):Nat→Nat→List Nk→Nat × List Nk
 |0,_,l=>(st.status,l)
 |k+1,sn,l=>
  if sn=st.status then (st.status,l)
  else if gB (st.m sn)=true then um st k (fJ sn) l
  else if 512<l.length+(mM sn (st.m sn)).length then (sn,l)
  else um st k (fJ sn) (l++mM sn (st.m sn))
def uo (st:Rc):Nat × List Nk:=um st 1024 st.next []
def rG (st:Rc) (now:Int):Bool:=st.due&&decide (st.D8≤(if now<st.now then st.now else now))
end
end Go.Proofs.YtbhiklnljiehiaaGreat
