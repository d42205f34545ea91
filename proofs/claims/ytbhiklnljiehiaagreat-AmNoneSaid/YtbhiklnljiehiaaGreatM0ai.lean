/- ampdu.Decode: must, got, the chunk. ampdu.Decode: errors are recovered. ampdu.Decode. amrecv: what a receiver computes (plain functions). -/
import Derived.Test.YtbhiklnljiehiaaGreatM0ad
import Derived.Test.YtbhiklnljiehiaaGreatM0ae
import Derived.Test.YtbhiklnljiehiaaGreatM0ah
import Derived.WideLaws
namespace Go.Proofs.YtbhiklnljiehiaaGreat
open Go.RowKit Go.Shelf
attribute [local go_sem] Oper.semAt_some
theorem iq (er:Int) (w:World):Calls Tryz.prog 150 #[.bool true,.int .i64 er] w fun e w'=>e= .returned (.tuple #[])∧w=w':=by
 go_enter Tryz.func150,Tryz.ntmps150;go_wp2
 go_end0
 exact ⟨rfl,rfl⟩
theorem fC (er:Int) (w:World):Calls Tryz.prog 150 #[.bool false,.int .i64 er] w fun e w'=>e=raise er∧w=w':=by
 unfold raise;go_enter Tryz.func150,Tryz.ntmps150;go_wp2;exact ⟨rfl,rfl,rfl⟩
theorem CU (x:Int) (w:World):Calls Tryz.prog 188 #[.int .u64 x,.int .i64 0] w fun e w'=>e= .returned (.int .u64 x)∧w=w':=by
 go_enter Tryz.func188,Tryz.ntmps188;go_wp2_with (go_at_call 150;refine (iq _ _).mono ?_;rintro e w' ⟨rfl,rfl⟩);go_ret;exact ⟨rfl,rfl⟩
theorem Mg (x er:Int) (KZ:(er==0)=false) (w:World):Calls Tryz.prog 188 #[.int .u64 x,.int .i64 er] w fun e w'=>e=raise er∧w=w':=by
 go_enter Tryz.func188,Tryz.ntmps188;go_wp2_with (go_at_call 150;refine (fC _ _).mono ?_;rintro e w' ⟨rfl,rfl⟩);exact ⟨rfl,rfl,rfl⟩
theorem yo (A:Option Addr) (n c:Nat) (w:World):Calls Tryz.prog 149 #[.slice A n c,.int .i64 0] w fun e w'=>e= .returned (.slice A n c)∧w=w':=by
 go_enter Tryz.func149,Tryz.ntmps149;go_wp2_with (go_at_call 150;refine (iq _ _).mono ?_;rintro e w' ⟨rfl,rfl⟩);go_ret;exact ⟨rfl,rfl⟩
theorem Bi (A:Option Addr) (n c:Nat) (er:Int) (KZ:(er==0)=false) (w:World):Calls Tryz.prog 149 #[.slice A n c,.int .i64 er] w fun e w'=>e=raise er∧w=w':=by
 go_enter Tryz.func149,Tryz.ntmps149;go_wp2_with (go_at_call 150;refine (fC _ _).mono ?_;rintro e w' ⟨rfl,rfl⟩);exact ⟨rfl,rfl,rfl⟩
theorem uP {w w':World} {b b':Nat} {e e':TypeId} {n n':Nat} {v v':Value} {xs xs':List Value} (h:w.ownsRow b e 1 v n xs) (h':w.ownsRow b' e' 1 v' n' xs') (hne:e≠e') (hg:w.grownBy w' v'.ownBlock):w'.ownsRow b e 1 v n xs:=by
 refine h.kept hg ?_;rcases hv:v.ownBlock with _|j
 ·exact .inl rfl
 ·refine .inr (fun e1=> ?_);obtain ⟨o1,ho1,⟨cs1,WL,rfl⟩,_⟩:=bT h hv;obtain ⟨o2,ho2,⟨cs2,WM,rfl⟩,_⟩:=bT h' e1.symm;rw[ho1] at ho2;cases ho2;exact hne rfl
def iM (bs:List UInt8) (more:Bool) (pos:Nat):Sum Nat (List (List UInt8)):=
 match qO bs more pos with
 | .inl er=> .inl er
 | .inr (ls,p)=>jX ls (bs.drop (p/8))
def Pw (w:World) (r:Nat) (s e:Bool) (R:Sum Nat (List (List UInt8))) (en:Ending) (w':World):Prop:=
 Kept (fun k _=>k=r∨w.heap.size≤k) w w'∧
 ((∃er:Nat,R= .inl er∧en=raise er)∨(∃ps A c,R= .inr ps∧en= .returned (.agg #[.bool s,.bool e,.slice A ps.length c])∧eH w' w.heap.size (.slice A ps.length c) ps))
set_option maxRecDepth 100000 in
set_option maxHeartbeats 8000000 in
theorem JU (r d:Nat) (v:Value) (A0:Option Addr) (n0 c0:Nat) (bs:List UInt8) (s e more:Bool) (pos:Nat) (w:World) (h:jF w r v bs pos) (hd:au w d 234 #[.pointer (some ⟨r,0,none⟩),.slice A0 n0 c0])
 (hb:∀W,Kept (fun k _=>k=r∨w.heap.size≤k) w W→Sl W W.heap.size A0 n0 c0 (bV bs)) (hsm:bs.length≤1000000000) (hp:pos≤8*bs.length):
 Calls Tryz.prog 151 #[.pointer (some ⟨d,0,none⟩),.bool s,.bool e,.bool more] w (Pw w r s e (iM bs more pos)):=by
 obtain ⟨i0,hi,hz0,hz1,hz2⟩:=info_parts xE;obtain ⟨j0,hj0,hm0,hm1,hm2⟩:=info_parts sD;have hrd:d≠r:=by
  rintro rfl;have h1:=h.1;unfold au at h1 hd;rw[h1] at hd;injection hd with hd
  injection hd with _ h2
  exact absurd h2 (by decide)
 have hdl:=hd.lt;have hrl:=h.1.lt;have um:=Lib.hid hsm;have HP:=Lib.hid hp;have HB:=Lib.hid hb;clear hsm hp hb;obtain ⟨R,hR⟩:∃R,fM bs 64 more pos []=R:=⟨_,rfl⟩
 have hRR:qO bs more pos=jI bs R:=by rw[←hR];rfl
 obtain ⟨CR,hCR⟩:∃CR,iM bs more pos=CR:=⟨_,rfl⟩
 have Px:=hCR;unfold iM at Px;rw[hCR];rw[hRR] at Px;have HR:=Lib.hid hR;have Xu:=Lib.hid Px;clear hR hRR hCR Px;go_enter Tryz.func151,Tryz.ntmps151;go_wp2;have hk0:Kept (fun k _=>k=r∨w.heap.size≤k) w ((w.alloc (.cells #[.bool false,.bool false,.slice none 0 0] 145)).alloc (.cells #[.bool s,.bool e,.slice none 0 0] 145)):=((Kept.refl _ w).alloc _).alloc _;have br0:=(au.new w 145 #[.bool false,.bool false,.slice none 0 0]).alloc (.cells #[.bool s,.bool e,.slice none 0 0] 145);have bc0:=au.new (w.alloc (.cells #[.bool false,.bool false,.slice none 0 0] 145)) 145 #[.bool s,.bool e,.slice none 0 0];have h0:jF ((w.alloc (.cells #[.bool false,.bool false,.slice none 0 0] 145)).alloc (.cells #[.bool s,.bool e,.slice none 0 0] 145)) r v bs pos:=⟨(h.1.alloc _).alloc _,(h.2.alloc _).alloc _⟩;have hsz0:w.heap.size+2≤((w.alloc (.cells #[.bool false,.bool false,.slice none 0 0] 145)).alloc (.cells #[.bool s,.bool e,.slice none 0 0] 145)).heap.size:=by simp
 rw[World.size_alloc] at bc0;generalize (w.alloc (.cells #[.bool false,.bool false,.slice none 0 0] 145)).alloc (.cells #[.bool s,.bool e,.slice none 0 0] 145)=w0 at*
 go_loopw [3,10,11] (fun m l s wr=>∃(acc:List Nat) (more':Bool) (q:Nat),m= .bool more'∧s= .int .i64 (acc.sum:Nat)∧acc.length≤63∧acc.sum≤2047*acc.length∧(∀x∈acc,x≤2047)∧fM bs (64-acc.length) more' q acc=R∧
  jF wr r v bs q∧q≤8*bs.length∧wr.ownsRow w0.heap.size 3 1 l acc.length (iI acc)∧Kept (fun k _=>k=r∨w0.heap.size≤k) w0 wr) (fun _ l _ _=>64-uE l)
 case atStart=>exact ⟨[],more,pos,rfl,rfl,by simp,by simp,by simp,HR.out,h0,HP.out,World.ownsRow_nil _ _ _ _,Kept.refl _ _⟩
 case round=>
  obtain ⟨acc,more',q,rfl,rfl,hal,hsum,hmem,hread,hrq,hq,how,hkp⟩:=hrel;have Mh:Kept (fun k _=>k=r∨w.heap.size≤k) w wr:=hk0.trans (hkp.mono fun k _ e=>e.imp id (fun e=>by omega));have hd1:=hd.kept Mh (by rintro (e|e);exact hrd e;omega);have Oo:=hd1.cell 0;simp at Oo;have RA:=Lib.hid hread;have HQ:=Lib.hid hq;have Xv:=Lib.hid hmem;clear hread hq hmem;cases more' with
  |true=>
   obtain ⟨f,hf⟩:∃f,64-acc.length=f+1:=⟨63-acc.length,by omega⟩
   have qY:=RA.out;rw[hf] at qY;simp only[fM] at qY;have HR2:=Lib.hid qY;have HFF:=Lib.hid hf;clear qY hf;by_cases hfit:8*bs.length<q+12
   ·have hget:=Bc r v bs q 12 wr hrq HQ.out um.out (by omega) (by have:=HQ.out;omega);have oU:R= .inl 5:=by have:=HR2.out;rw[if_pos hfit] at this;exact this.symm
    have HG:=Lib.hid hget;have H5:=Lib.hid oU;clear hget oU hfit;go_wp2_with fail;refine HG.out.mono ?_;rintro e1 w1 ⟨rfl,hr1,hk1⟩;go_wp2_with (go_at_call 188;refine (Mg _ _ rfl _).mono ?_;rintro e2 w2 ⟨rfl,rfl⟩);exact ⟨rfl,Mh.trans (hk1.mono fun _ _ e=> .inl e),.inl ⟨5,by rw[←Xu.out,H5.out];rfl,rfl⟩⟩
   ·have hget:=Ct r v bs q 12 wr hrq um.out (by omega) (by omega);have hV:=oW (aH bs q 12);rw[eT] at hV;have hR2:=HR2.out;rw[if_neg hfit] at hR2;have HG:=Lib.hid hget;have abU:=Lib.hid hfit;clear hget hfit HR2;generalize val (aH bs q 12)=V at*;have hand:=O7 V hV;have abV:IntKind.i64.wrap ((V%2048:Nat):Int)=((V%2048:Nat):Int):=IntWalk.i64_in _ (by omega);obtain ⟨n,hn⟩:∃n,V%2048=n:=⟨_,rfl⟩
    obtain ⟨m',hm'⟩:∃m',decide (V/2048=1)=m':=⟨_,rfl⟩
    have hmo:((V:Int)/2048==1)=m':=by rw[←hm',Bool.eq_iff_iff];simp;omega
    rw[hn] at hand abV hR2;rw[hm'] at hR2;have hn2:n<2048:=by omega
    have HR3:=Lib.hid hR2;clear hR2 hn hm' hV;obtain ⟨A,c,rfl,hsl,_⟩:=aZ how;by_cases hbad:n=0∨63≤acc.length
    ·have uQ:R= .inl 9:=by have:=HR3.out;rw[if_pos hbad] at this;exact this.symm
     have H9:=Lib.hid uQ;clear uQ;by_cases h00:n=0
     ·subst h00;clear hbad HR3;go_wp2_with fail;refine HG.out.mono ?_;rintro e1 w1 ⟨rfl,hr1,hk1⟩;go_wp2_with (first|(go_at_call 188;refine (CU _ _).mono ?_;rintro e2 w2 ⟨rfl,rfl⟩)|(go_at_call 150;((with_reducible refine (fC _ _).mono ?_);rintro e3 w3 ⟨rfl,rfl⟩)));exact ⟨rfl,Mh.trans (hk1.mono fun _ _ e=> .inl e),.inl ⟨9,by rw[←Xu.out,H9.out];rfl,rfl⟩⟩
     ·have hn0:0<n:=by omega
      have hb3:decide ((acc.length:Int)<63)=false:=by simp;omega
      have hb4:63≤acc.length:=by omega
      clear hbad HR3 h00;go_wp2_with fail;refine HG.out.mono ?_;rintro e1 w1 ⟨rfl,hr1,hk1⟩;go_wp2_with (first|(go_at_call 188;refine (CU _ _).mono ?_;rintro e2 w2 ⟨rfl,rfl⟩)|(go_at_call 150;((with_reducible refine (fC _ _).mono ?_);rintro e3 w3 ⟨rfl,rfl⟩)));exact ⟨rfl,Mh.trans (hk1.mono fun _ _ e=> .inl e),.inl ⟨9,by rw[←Xu.out,H9.out];rfl,rfl⟩⟩
    ·have zG:=HR3.out;rw[if_neg hbad] at zG;have hb2:0<n:=by omega
     have hb3:decide ((acc.length:Int)<63)=true:=by simp;omega
     have aif:acc.length<63:=by omega
     have HR4:=Lib.hid zG;have HN0:=Lib.hid hbad;clear zG hbad HR3;go_wp2_with fail;refine HG.out.mono ?_;rintro e1 w1 ⟨rfl,hr1,hk1⟩;have GR:=hkp.trans (hk1.mono (M':=fun k _=>k=r∨w0.heap.size≤k) fun _ _ e=> .inl e);have yt:=jl how hk1 (fun j o _ hj e=>by have:=(how.lt j hj).1;omega);go_wp2_with (first
      |(go_at_call 188;refine (CU _ _).mono ?_;rintro e2 w2 ⟨rfl,rfl⟩)
      |(go_at_call 150;((with_reducible refine (iq _ _).mono ?_);rintro e3 w3 ⟨rfl,rfl⟩))
      |(at_builtin;refine wpList_append_own _ rfl _ _ 75 rfl w0.heap.size 3 i0 (.int .i64 0) 1 8 Gp hi hz0 hz1 hz2 rfl (by decide) _ _ _ rfl (yt.alloc _) ⟨w1.heap.size,0,none⟩ 1 1 [.int .i64 n] rfl rfl ?c1 ?c2 ?c3 ?c4 ?c5 ?_))
     case c1=>exact cell_one_new _ _ _
     case c2=>simp[Value.oneCell']
     case c3=>unfold maxLen;omega
     case c4=>omega
     case c5=>have:=GR.size;simp;omega
     intro v' w2 hown' hgrow _;have hr2:jF w2 r v bs (q+12):=by
      refine ⟨(hr1.1.alloc _).grown hgrow (fun e=>aI yt hr1.1 (by decide) e.symm),(hr1.2.alloc _).kept hgrow ?_⟩;rcases hq:v.ownBlock with _|j
      ·exact .inl rfl
      ·refine .inr (fun e=> ?_);obtain ⟨o1,ho1,⟨cs1,WL,rfl⟩,_⟩:=bT hr1.2 hq;obtain ⟨o2,ho2,⟨cs2,WM,rfl⟩,_⟩:=bT yt e.symm;rw[ho1] at ho2;cases ho2
     have hlv:=Gx hown';have HLV:=Lib.hid hlv;clear hlv;go_wp2;refine ⟨⟨acc++ [n],m',q+12,rfl,by simp,by simp;omega,by simp;omega,?_,?_,hr2,by have:=abU.out;omega,by simpa[iI] using hown',(GR.alloc _).grown hgrow (fun j hj o _=> .inr ((yt.lt j hj).1))⟩,by rw[HLV.out];simp[uE];omega⟩
     ·intro x hx;rcases List.mem_append.1 hx with hx|hx
      ·exact Xv.out x hx
      ·simp at hx;omega
     ·have:=HR4.out;rw[show f=64-(acc++ [n]).length by have:=HFF.out;simp;omega] at this;exact this
  |false=>
   have Ex:R= .inr (acc,q):=by
    have:=RA.out;rw[←this];cases 64-acc.length<;>rfl
   have zZ:=xQ r v bs q wr hrq um.out HQ.out;have hpq:q+mK q≤8*bs.length:=by have:=HQ.out;unfold mK;omega
   have qX:=Lib.hid zZ;have RD:=Lib.hid Ex;have HPQ:=Lib.hid hpq;clear zZ Ex hpq;obtain ⟨A,c,rfl,hsl,_⟩:=aZ how;by_cases hz:val (aH bs q (mK q))=0
   ·have Ja:CR=jX acc (bs.drop ((q+mK q)/8)):=by rw[←Xu.out,RD.out];simp only[jI,if_pos hz]
    have zZ:=qX.out;simp only[if_pos hz] at zZ;have RE:=Lib.hid Ja;have Py:=Lib.hid zZ;clear Ja zZ hz qX;go_wp2_with fail;refine Py.out.mono ?_;rintro e1 w1 ⟨rfl,hr1,hk1⟩;have yt:=jl how hk1 (fun j o _ hj e=>by have:=(how.lt j hj).1;omega);have GR:=hkp.trans (hk1.mono (M':=fun k _=>k=r∨w0.heap.size≤k) fun _ _ e=> .inl e);have Aa:=Mh.trans (hk1.mono (M':=fun k _=>k=r∨w.heap.size≤k) fun _ _ e=> .inl e);have hb1:=HB.out w1 Aa;have hd1:=hd.kept Aa (by rintro (e|e);exact hrd e;omega);have bc1:=bc0.kept GR (by rintro (e|e);omega;omega);have Gc:=br0.kept GR (by rintro (e|e);omega;omega);clear hkp Mh how hsl hrq Oo Py RD RA HQ hk1;generalize q+mK q=p at*;go_wp2_with (go_at_call 150;((with_reducible refine (iq _ _).mono ?_);rintro e3 w3 ⟨rfl,rfl⟩));have Oo:=hd1.cell 0;have cd1:=hd1.cell 1;simp at Oo cd1;have hat:∀W,jF W r v bs p→Calls Tryz.prog 189 #[.pointer (some ⟨r,0,none⟩)] W fun e w'=>e= .returned (.int .i64 p)∧w'=W:=fun W hW=>(Tc r v bs p W hW).mono fun _ _ hh=>⟨hh.1,hh.2.symm⟩
    have HAT:=Lib.hid hat;have hn0:bs.length=n0:=by simpa using hb1.len
    have hcap:=hb1.cap;have hmx:=hb1.mx;have abW:=um.out;have hpq:=HPQ.out;obtain ⟨q,hq⟩:∃q,p/8=q:=⟨_,rfl⟩
    have hqw:IntKind.i64.wrap ((p:Int)/8)=(q:Int):=by rw[←hq];rw[IntWalk.i64_in _ (by omega)];omega
    have hq1:q≤n0:=by omega
    have hdata:Sl w1 w1.heap.size (if c0=q then A0 else A0.map (·.add q)) (n0-q) (c0-q) (bV (bs.drop q)):=by
     have:=hb1.cut hq1;unfold bV at this ⊢
     rwa [List.map_drop]
    have HPR:=Lib.hid (show CR=jX acc (bs.drop q) by rw[RE.out,hq]);have hdl:(bs.drop q).length=n0-q:=by rw[List.length_drop,hn0]
    have abX:n0-q≤1000000000:=by omega
    have HQQ:=Lib.hid hq;clear hat hq RE hn0 abW hpq;refine wp_region_still_tail 11 (by kernel_rfl) (by kernel_rfl) ?_;simp only[List.take_succ_cons,List.take_zero,List.drop_succ_cons,List.drop_zero]
    still_step
    still_step
    still_step
    still_step
    still_step
    still_step
    still_step
    still_step
    still_call (HAT.out _ hr1)
    still_step
    still_step
    refine wpStill_nil ?_;change wpList _ _ _ _ _ w1.drew;generalize (if c0=q then A0 else Option.map (fun x=>x.add q) A0)=A1 at*;generalize bs.drop q=D at*;generalize n0-q=m at*;have hcl:=kN A1 m (c0-q) D w1.drew hdata.drew abX;have HC:=Lib.hid hcl;have yu:=Lib.hid hdl;clear hcl hdata hdl hb1 hd1 hr1 Oo cd1 hcap hmx hqw hq1 HAT HQQ HPQ
    replace Aa:=Aa.drew
    replace bc1:=bc1.drew
    replace Gc:=Gc.drew
    replace yt:=(aR yt (show w.heap.size≤w0.heap.size by omega)).drew'
    have Pz:w.heap.size+2≤w1.drew.heap.size:=Nat.le_trans hsz0 GR.drew.size;clear GR;generalize w1.drew=w2 at*;go_wp2_with fail;refine HC.out.mono ?_;rintro e2 w3 ⟨v3,rfl,hv3,hb3⟩
    replace Aa:=Aa.trans ((Kept.of_below hb3).mono (M':=fun k _=>k=r∨w.heap.size≤k) (fun j _ hj=> .inr (by omega)))
    replace bc1:=bc1.below hb3 bc1.lt
    replace Gc:=Gc.below hb3 Gc.lt
    replace yt:=own_below yt hb3 (Nat.le_refl _)
    replace hv3:=aR hv3 (show w.heap.size≤w2.heap.size by omega)
    replace Pz:w.heap.size+2≤w3.heap.size:=Nat.le_trans Pz hb3.size
    clear HC hb3;by_cases h5:D.length≤acc.sum
    ·have RF:CR= .inl 5:=by rw[HPR.out];unfold jX;rw[if_pos h5]
     have HP5:=Lib.hid RF;clear RF;obtain ⟨A2,c2,rfl,_⟩:=aZ hv3;have h5':¬acc.sum<m:=by have:=yu.out;omega
     clear h5;go_wp2_with (go_at_call 150;((with_reducible refine (fC _ _).mono ?_);rintro e3 w3 ⟨rfl,rfl⟩));exact ⟨rfl,Aa,.inl ⟨5,HP5.out,rfl⟩⟩
    ·by_cases h9:32767<D.length
     ·have RF:CR= .inl 9:=by rw[HPR.out];unfold jX;rw[if_neg h5,if_pos h9]
      have TG:=Lib.hid RF;clear RF;obtain ⟨A2,c2,rfl,_⟩:=aZ hv3;have h5':acc.sum<m:=by have:=yu.out;omega
      have h9':decide ((m:Int)≤32767)=false:=by have:=yu.out;simp;omega
      clear h5 h9;go_wp2_with (first|(go_at_call 150;((with_reducible refine (fC _ _).mono ?_);rintro e3 w3 ⟨rfl,rfl⟩))|(go_at_call 150;((with_reducible refine (iq _ _).mono ?_);rintro e3 w3 ⟨rfl,rfl⟩)));exact ⟨rfl,Aa,.inl ⟨9,TG.out,rfl⟩⟩
     ·have RF:CR= .inr (splitBy acc D):=by rw[HPR.out];unfold jX;rw[if_neg h5,if_neg h9]
      have OP:=Lib.hid RF;clear RF HPR;have h5':acc.sum<m:=by have:=yu.out;omega
      have h9':decide ((m:Int)≤32767)=true:=by have:=yu.out;simp;omega
      have hm9:m≤32767:=by have:=yu.out;omega
      obtain ⟨g,cap,rfl,hgl,kz⟩:=hv3.form (by omega);have hcap2:m≤cap∧cap≤9223372036854775807:=by
       obtain ⟨A',c',e',hs',_⟩:=aZ hv3;injection e' with _ _ e3
       subst e3;exact ⟨hs'.cap,hs'.mx⟩
      clear h5 h9;go_wp2_with (go_at_call 150;((with_reducible refine (iq _ _).mono ?_);rintro e3 w3 ⟨rfl,rfl⟩));clear h9'
      go_loopw [14,80] (fun vd i wr=>∃(k:Nat) (vo:Value),k≤acc.length∧i= .int .i64 k∧vd= .slice (some ⟨g,(acc.take k).sum,none⟩) (m-(acc.take k).sum) (cap-(acc.take k).sum)∧au wr (w.heap.size+1) 145 #[.bool s,.bool e,vo]∧au wr w.heap.size 145 #[.bool false,.bool false,.slice none 0 0]∧
       wr.ownsRow w.heap.size 31 1 vo k (iJ g acc k)∧wr.ownsRow w.heap.size 5 1 (.slice (some ⟨g,0,none⟩) m cap) m (bV D)∧wr.ownsRow w.heap.size 3 1 (.slice A acc.length c) acc.length (iI acc)∧Kept (fun k _=>k=r∨w.heap.size≤k) w wr∧w.heap.size+2≤wr.heap.size) (fun _ i _=>acc.length-(intOf i).toNat)
      case atStart=>exact ⟨0,_,Nat.zero_le _,rfl,by simp,bc1,Gc,World.ownsRow_nil _ _ _ _,hv3,yt,Aa,Pz⟩
      case round=>
       clear hv3 bc1 Gc yt Aa Pz;obtain ⟨k,vo,hk,rfl,rfl,bc,br,iH,hvd,hvl,Mh,hws⟩:=hrel;have hsk:=j4 acc k;by_cases hlt:k<acc.length
       ·obtain ⟨n,hn⟩:∃n,acc[k]? =some n:=⟨_,List.getElem?_eq_getElem hlt⟩
        have hn2:=Xv.out n (List.mem_of_getElem? hn);have hsn:=sw acc k n hn;have ail:=j4 acc (k+1);obtain ⟨adl,u,rfl,_,hu,hcu⟩:=(ed hvl).get hlt;have hu':u= .int .i64 (n:Int):=by
         unfold iI at hu;rw[List.getElem?_map,hn] at hu;simpa using hu.symm
        subst hu';have hpv:=zT g acc k n hn;generalize (List.take k acc).sum=S at*;have Og:=Lib.hid hsn;have HPV:=Lib.hid hpv;have hSn:S+n≤acc.sum:=by omega
        clear hsn hpv hu hn;have hne:¬cap-S=n:=by omega
        have hle1:n≤m-S:=by omega
        have hle2:n≤cap-S:=by omega
        obtain ⟨Ao,co,rfl,hso,_⟩:=aZ iH;have c2:=bc.cell 2;have f2:=bc.frozen 2;simp at c2;have c2a:=(World.cell?_alloc_lt wr (.cells #[.slice (some ⟨g,S,none⟩) n n] 31) ⟨w.heap.size+1,2,none⟩ bc.lt).trans c2;go_upto_region 17 with (fail)
        go_cut [] from 84 to 92 (fun wx=>∃(A5:Option Addr) (c5:Nat),au wx (w.heap.size+1) 145 #[.bool s,.bool e,.slice A5 (k+1) c5]∧au wx w.heap.size 145 #[.bool false,.bool false,.slice none 0 0]∧wx.ownsRow w.heap.size 31 1 (.slice A5 (k+1) c5) (k+1) (iJ g acc (k+1))∧
         wx.ownsRow w.heap.size 5 1 (.slice (some ⟨g,0,none⟩) m cap) m (bV D)∧wx.ownsRow w.heap.size 3 1 (.slice (some adl) acc.length c) acc.length (iI acc)∧Kept (fun k _=>k=r∨w.heap.size≤k) w wx∧w.heap.size+2≤wx.heap.size)
        case first=>
         go_region_law ((refine eU _ (by rfl) _ _ 37 (by rfl) w.heap.size 31 j0 (.slice none 0 0) 24 vK hj0 hm0 hm1 hm2 rfl (.slice Ao k co) k (iJ g acc k) (by rfl) (World.ownsRow.drew' (iH.alloc (.cells #[.slice (some ⟨g,S,none⟩) n n] 31))) (wr.alloc (.cells #[.slice (some ⟨g,S,none⟩) n n] 31)).heap.size (some ⟨wr.heap.size,0,none⟩) 1 1 [.slice (some ⟨g,S,none⟩) n n] (by rfl) (qj wr (.slice (some ⟨g,S,none⟩) n n) 31) (by simp[Value.oneCell']) (by unfold maxLen;omega) (by omega) (by simp;omega) ?_;intro v5 w5 hown5 dF _;obtain ⟨A5,c5,rfl,hs5,_⟩:=aZ hown5;have wQ:=(bc.alloc (.cells #[.slice (some ⟨g,S,none⟩) n n] 31)).drew.grown dF (fun e=>aI iH bc (by decide) e.symm);have q2:=wQ.cell 2;have q3:=wQ.frozen 2;simp at q2))
         all_goals
          go_wp2_with fail;go_meet;have Ey:=World.ownsRow.drew' (iH.alloc (.cells #[.slice (some ⟨g,S,none⟩) n n] 31));have Mi:=uP (World.ownsRow.drew' (hvd.alloc (.cells #[.slice (some ⟨g,S,none⟩) n n] 31))) Ey (by decide) dF;have TH:=uP (World.ownsRow.drew' (hvl.alloc (.cells #[.slice (some ⟨g,S,none⟩) n n] 31))) Ey (by decide) dF;have abY:=(br.alloc (.cells #[.slice (some ⟨g,S,none⟩) n n] 31)).drew.grown dF (fun e=>aI iH br (by decide) e.symm);refine ⟨A5,c5,by simpa using wQ.av 2 (.slice A5 (k+1) c5),abY.far (by simp) _,?_,aJ (i:=2) Mi wQ (by decide) _,aJ (i:=2) TH wQ (by decide) _,
           ((Mh.alloc _).drew.grown dF (fun j hj o _=> .inr ((iH.lt j hj).1))).setCell (p:=⟨w.heap.size+1,2,none⟩) (fun _ _=> .inr (by simp)) _,?_⟩
          ·rw[HPV.out];exact aJ (i:=2) hown5 wQ (by decide) _
          ·have:=dF.size;simp at this ⊢;omega
        case rest=>
         obtain ⟨A5,c5,VL,VM,mV,Mi,TH,TI,abZ⟩:=hcut;go_wp2
         go_roundw
         case rel=>exact ⟨k+1,_,by omega,by go_num,by rw[Og.out,Nat.sub_sub,Nat.sub_sub],VL,VM,mV,Mi,TH,TI,abZ⟩
         case measure=>simp[intOf];omega
       ·obtain rfl:k=acc.length:=by omega
        have hS:(acc.take acc.length).sum=acc.sum:=by rw[List.take_of_length_le (Nat.le_refl _)]
        rw[hS];obtain ⟨Ao,co,rfl,hso,_⟩:=aZ iH;have c2:=bc.cell 2;have f2:=bc.frozen 2;simp at c2;go_wp2_with (at_builtin;refine wpList_append_own _ rfl _ _ 37 rfl w.heap.size 31 j0 (.slice none 0 0) 1 24 vK hj0 hm0 hm1 hm2 rfl (by decide) _ _ _ rfl (iH.alloc _) ⟨wr.heap.size,0,none⟩ 1 1 [.slice (some ⟨g,acc.sum,none⟩) (m-acc.sum) (cap-acc.sum)] rfl rfl ?c1 ?c2 ?c3 ?c4 ?c5 ?_)
        case c1=>exact cell_one_new _ _ _
        case c2=>simp[Value.oneCell']
        case c3=>unfold maxLen;omega
        case c4=>omega
        case c5=>simp;omega
        intro v' w4 hown' hgrow _;obtain ⟨A5,c5,rfl,hs5,_⟩:=aZ hown';have Xw:=uP (hvd.alloc (.cells #[.slice (some ⟨g,acc.sum,none⟩) (m-acc.sum) (cap-acc.sum)] 31)) (iH.alloc _) (by decide) hgrow;have TJ:=(bc.alloc (.cells #[.slice (some ⟨g,acc.sum,none⟩) (m-acc.sum) (cap-acc.sum)] 31)).grown hgrow (fun e=>aI iH bc (by decide) e.symm);have RG:=(br.alloc (.cells #[.slice (some ⟨g,acc.sum,none⟩) (m-acc.sum) (cap-acc.sum)] 31)).grown hgrow (fun e=>aI iH br (by decide) e.symm);have Xx:=(Mh.alloc (.cells #[.slice (some ⟨g,acc.sum,none⟩) (m-acc.sum) (cap-acc.sum)] 31)).grown hgrow (fun j hj o _=> .inr ((iH.lt j hj).1));have mV:=aJ (i:=2) hown' TJ (by decide) (.slice A5 (acc.length+1) c5);have Mi:=aJ (i:=2) Xw TJ (by decide) (.slice A5 (acc.length+1) c5);have VM:=RG.far (p:=⟨w.heap.size+1,2,none⟩) (by simp) (.slice A5 (acc.length+1) c5);have VL:=TJ.av 2 (.slice A5 (acc.length+1) c5);have TI:=Xx.setCell (p:=⟨w.heap.size+1,2,none⟩) (fun _ _=> .inr (by simp)) (.slice A5 (acc.length+1) c5);have k2:=TJ.cell 2;have k3:=TJ.frozen 2;have k0:=TJ.cell 0;have k1:=TJ.cell 1;have g0:=RG.cell 0;have g1:=RG.cell 1;have g2:=RG.cell 2;have g3:=RG.frozen 0;have g4:=RG.frozen 1;have g5:=RG.frozen 2;simp at VL k2 k0 k1 g0 g1 g2;clear iH hvd hvl bc br Mh Xw hown' hgrow hs5 hso c2 f2 Xx RG;go_wp2_with fail;have TK:=((VM.av 0 (.bool s)).av 1 (.bool e)).av 2 (.slice A5 (acc.length+1) c5);simp at TK
        have Xy:∀{ty:TypeId} {vv:Value} {nn:Nat} {xs:List Value},(w4.setCell ⟨w.heap.size+1,2,none⟩ (.slice A5 (acc.length+1) c5)).ownsRow w.heap.size ty 1 vv nn xs→ty≠145→
         ((((w4.setCell ⟨w.heap.size+1,2,none⟩ (.slice A5 (acc.length+1) c5)).setCell ⟨w.heap.size,0,none⟩ (.bool s)).setCell ⟨w.heap.size,1,none⟩ (.bool e)).setCell ⟨w.heap.size,2,none⟩ (.slice A5 (acc.length+1) c5)).ownsRow w.heap.size ty 1 vv nn xs:=fun hh ht=>
         aJ (i:=2) (aJ (i:=1) (aJ (i:=0) hh VM ht _) (VM.av 0 (.bool s)) ht _) ((VM.av 0 (.bool s)).av 1 (.bool e)) ht _
        have ab0:=((TI.setCell (p:=⟨w.heap.size,0,none⟩) (fun _ _=> .inr (Nat.le_refl _)) (.bool s)).setCell (p:=⟨w.heap.size,1,none⟩) (fun _ _=> .inr (Nat.le_refl _)) (.bool e)).setCell (p:=⟨w.heap.size,2,none⟩) (fun _ _=> .inr (Nat.le_refl _)) (.slice A5 (acc.length+1) c5);have q0:=TK.cell 0;have q1:=TK.cell 1;have q2:=TK.cell 2;simp at q0 q1 q2;have PD:=kS acc D;refine ⟨rfl,.agg #[.bool s,.bool e,.slice A5 (acc.length+1) c5],by simp[results,Tryz.results151,go_sem,q0,q1,q2],ab0,.inr ⟨splitBy acc D,A5,c5,OP.out,by rw[PD],?_⟩⟩;rw[PD];refine ⟨iJ g acc acc.length++ [.slice (some ⟨g,acc.sum,none⟩) (m-acc.sum) (cap-acc.sum)],g,cap,D,?_,?_,?_⟩
        ·rw[PD];exact Xy mV (by decide)
        ·rw[yu.out];exact Xy Mi (by decide)
        ·intro i p hi;have hil:i<acc.length+1:=by
          have:=(List.getElem?_eq_some_iff.1 hi).1;rw[PD] at this;exact this
         have hpl:(iJ g acc acc.length).length=acc.length:=by simp[iJ]
         by_cases hik:i<acc.length
         ·obtain ⟨n,hn⟩:∃n,acc[i]? =some n:=⟨_,List.getElem?_eq_getElem hik⟩
          rw[vF acc D i n hn] at hi;injection hi with hi
          have hsn:=sw acc i n hn;have hsl:=j4 acc (i+1);have hlen:p.length=n:=by rw[←hi,List.length_take,List.length_drop,yu.out];omega
          refine ⟨(acc.take i).sum,n,?_,by omega,by omega,by rw[hlen];exact hi.symm⟩;rw[List.getElem?_append_left (by omega),hlen];simp[iJ,hik,(List.getElem?_eq_some_iff.1 hn).2]
         ·obtain rfl:i=acc.length:=by omega
          rw[r9] at hi;injection hi with hi
          have hlen:p.length=m-acc.sum:=by rw[←hi,List.length_drop,yu.out]
          refine ⟨acc.sum,cap-acc.sum,?_,by omega,by omega,?_⟩
          ·rw[List.getElem?_append_right (by omega),hpl,hlen];simp
          ·rw[hlen,←hi,List.take_of_length_le (by rw[List.length_drop,yu.out];omega)]
   ·have Ja:CR= .inl 9:=by rw[←Xu.out,RD.out];simp only[jI,if_neg hz]
    have zZ:=qX.out;simp only[if_neg hz] at zZ;have RE:=Lib.hid Ja;have Py:=Lib.hid zZ;clear Ja zZ hz qX;go_wp2_with fail;refine Py.out.mono ?_;rintro e1 w1 ⟨rfl,hr1,hk1⟩;go_wp2_with (go_at_call 150;((with_reducible refine (fC _ _).mono ?_);rintro e3 w3 ⟨rfl,rfl⟩));exact ⟨rfl,Mh.trans (hk1.mono fun _ _ e=> .inl e),.inl ⟨9,RE.out,rfl⟩⟩
end Go.Proofs.YtbhiklnljiehiaaGreat
namespace Go.Proofs.YtbhiklnljiehiaaGreat
open Go.RowKit
theorem GU (bp be:Nat) (w:World):
 CallsD Tryz.prog 148 #[.pointer (some ⟨bp,0,none⟩),.pointer (some ⟨be,0,none⟩)] .returning w fun e u' w'=>e= .returned (.tuple #[])∧u'= .returning∧w=w':=by
 have hnn:=run_eql_nil_nil (P:=Tryz.prog) w (t:=20) (by kernel_rfl);refine callsD_of_wpS Tryz.func148 rfl fun c₀ cs hu=> ?_
 apply wpS_seq;apply wpS_region;generalize hQ:Exit.thenS _ _=Q;simp[wpOpsS,go_sem,recoverD,hu,Tryz.ntmps148];subst hQ;simp only[Exit.thenS];refine wpS_of_wp ?_;change Code.wp _ _ (iR Tryz.prog Tryz.f148 c₀ cs (c₀::cs) _) {tmps:= #[.pointer (some ⟨bp,0,none⟩),.pointer (some ⟨be,0,none⟩),.nilIface,undef,undef,.nilIface,undef,undef,undef,undef,undef,undef,undef,undef,undef,undef,undef,undef],defers:= []} w;go_wp2;cases c₀
 simp_all [iR,bodyPostS,results,Tryz.results148]
set_option maxHeartbeats 800000 in
set_option maxRecDepth 100000 in
theorem CV (bp be:Nat) (er:Int) (v0 v1 v2 v3 v4 v5 v6 v7 v8:Value) (w:World) (hp:au w bp 148 #[v0,v1,v2,v3,v4,v5,v6,v7]) (he:au w be 53 #[v8]) (hne:be≠bp):
 CallsD Tryz.prog 148 #[.pointer (some ⟨bp,0,none⟩),.pointer (some ⟨be,0,none⟩)] (.panicking [{v:= .iface 53 (.int .i64 er),recovered:=false}]) w fun e u' w'=>e= .returned (.tuple #[])∧u'= .panicking [{v:= .iface 53 (.int .i64 er),recovered:=true}]∧
  au w' bp 148 #[.int .i64 0,.bool false,.bool false,.bool false,.int .i64 0,.bool false,.bool false,.slice none 0 0]∧au w' be 53 #[.int .i64 er]∧Kept (fun k _=>k=bp∨k=be) w w':=by
 have hnn:=run_eql_held_nil (P:=Tryz.prog) w 20 53 (.int .i64 er) (by kernel_rfl);have hta:=kL er w;refine callsD_of_wpS Tryz.func148 rfl fun c₀ cs hu=> ?_
 apply wpS_seq;apply wpS_region;generalize hQ:Exit.thenS _ _=Q;simp[wpOpsS,go_sem,recoverD,hu,Tryz.ntmps148];subst hQ;simp only[Exit.thenS];refine wpS_of_wp ?_;change Code.wp _ _ (iR Tryz.prog Tryz.f148 c₀ cs _ _) {tmps:= #[.pointer (some ⟨bp,0,none⟩),.pointer (some ⟨be,0,none⟩),.iface 53 (.int .i64 er),undef,undef,.iface 53 (.int .i64 er),undef,undef,undef,undef,undef,undef,undef,undef,undef,undef,undef,undef],defers:= []} w;obtain ⟨c0,c1,c2,c3,c4,c5,c6,c7⟩:=hp.eight;have f0:=hp.frozen 0;have f1:=hp.frozen 1;have f2:=hp.frozen 2;have f3:=hp.frozen 3;have f4:=hp.frozen 4;have f5:=hp.frozen 5;have f6:=hp.frozen 6;have f7:=hp.frozen 7;have c8:=he.cell 0;have f8:=he.frozen 0;simp at c8;go_wp2;refine ⟨rfl,_,rfl,.tuple #[],by simp[results,Tryz.results148],rfl,rfl,?_,?_,?_⟩
 ·exact (hp.Mf (.int .i64 0) (.bool false) (.bool false) (.bool false) (.int .i64 0) (.bool false) (.bool false) (.slice none 0 0)).far (p:=⟨be,0,none⟩) (fun e=>hne e.symm) (.int .i64 er)
 ·have:=((((((((he.far (p:=⟨bp,0,none⟩) hne (.int .i64 0)).far (p:=⟨bp,1,none⟩) hne (.bool false)).far (p:=⟨bp,2,none⟩) hne (.bool false)).far (p:=⟨bp,3,none⟩) hne (.bool false)).far (p:=⟨bp,4,none⟩) hne (.int .i64 0)).far (p:=⟨bp,5,none⟩) hne (.bool false)).far (p:=⟨bp,6,none⟩) hne (.bool false)).far (p:=⟨bp,7,none⟩) hne (.slice none 0 0)).av 0 (.int .i64 er);simpa using this
 ·exact (((((((((Kept.refl _ w).setCell (p:=⟨bp,0,none⟩) (fun _ _=> .inl rfl) _).setCell (p:=⟨bp,1,none⟩) (fun _ _=> .inl rfl) _).setCell (p:=⟨bp,2,none⟩) (fun _ _=> .inl rfl) _).setCell (p:=⟨bp,3,none⟩) (fun _ _=> .inl rfl) _).setCell (p:=⟨bp,4,none⟩) (fun _ _=> .inl rfl) _).setCell (p:=⟨bp,5,none⟩) (fun _ _=> .inl rfl) _).setCell (p:=⟨bp,6,none⟩) (fun _ _=> .inl rfl) _).setCell (p:=⟨bp,7,none⟩) (fun _ _=> .inl rfl) _).setCell (p:=⟨be,0,none⟩) (fun _ _=> .inr rfl) _
structure kE where
 sn:Nat
 po:Bool
 sg:Bool
 la:Bool
 off:Nat
 s:Bool
 e:Bool
 ps:List (List UInt8)
def Ab (bs:List UInt8):Sum Nat kE:=
 if bs.length<2 then .inl 5
 else if val (aH bs 0 1)≠1 then .inl 9
 else if val (aH bs 1 1)=1 then
  if bs.length<4 then .inl 5
  else match iM bs (decide (val (aH bs 5 1)=1)) 32 with
   | .inl er=> .inl er
   | .inr ps=>if gK (val (aH bs 6 10):Nat) true (decide (val (aH bs 16 1)=1)) (val (aH bs 17 15):Nat) ps=true then
    .inr ⟨val (aH bs 6 10),decide (val (aH bs 2 1)=1),true,decide (val (aH bs 16 1)=1),val (aH bs 17 15),decide (val (aH bs 3 1)=0),decide (val (aH bs 4 1)=0),ps⟩ else .inl 9
 else match iM bs (decide (val (aH bs 5 1)=1)) 16 with
  | .inl er=> .inl er
  | .inr ps=>if gK (val (aH bs 6 10):Nat) false false (0:Nat) ps=true then
   .inr ⟨val (aH bs 6 10),decide (val (aH bs 2 1)=1),false,false,0,decide (val (aH bs 3 1)=0),decide (val (aH bs 4 1)=0),ps⟩ else .inl 9
def GV (w:World) (R:Sum Nat kE) (e:Ending) (w':World):Prop:=
 Below w.heap.size w w'∧
 (
  (∃er:Nat,R= .inl er∧e= .returned (.tuple #[.agg (bq 0 false false false 0 false false none 0 0),.int .i64 er]))∨
  (∃(p:kE) (A:Option Addr) (c:Nat),R= .inr p∧e= .returned (.tuple #[.agg (bq p.sn p.po p.sg p.la p.off p.s p.e A p.ps.length c),.int .i64 0])∧eH w' w.heap.size (.slice A p.ps.length c) p.ps))
theorem lm (w W:World) (R:Sum Nat kE) (er:Nat) (T:Array Value) (v0 v1 v2 v3 v4 v5 v6 v7 v8:Value) (h2:T[2]? =some (.pointer (some ⟨w.heap.size,0,none⟩))) (h3:T[3]? =some (.pointer (some ⟨w.heap.size+1,0,none⟩)))
 (hp:au W w.heap.size 148 #[v0,v1,v2,v3,v4,v5,v6,v7]) (he:au W (w.heap.size+1) 53 #[v8]) (hB:Below w.heap.size w W) (hR:R= .inl er):
 bodyPostD Tryz.prog Tryz.f95 (GV w R) (.panic [{v:= .iface 53 (.int .i64 er),recovered:=false}]) {tmps:=T,defers:= [{target:= .fn (.func 148) #[.pointer (some ⟨w.heap.size,0,none⟩),.pointer (some ⟨w.heap.size+1,0,none⟩)],args:= #[]}]} W:=by
 refine leaves_cons (f:=148) (args:= #[.pointer (some ⟨w.heap.size,0,none⟩),.pointer (some ⟨w.heap.size+1,0,none⟩)]) (by simp) (by simp[go_sem]) ?_;refine (CV _ _ (er:Int) _ _ _ _ _ _ _ _ _ W hp he (by omega)).mono ?_;rintro e u' w'' ⟨rfl,rfl,hp',he',hk⟩;obtain ⟨c0,c1,c2,c3,c4,c5,c6,c7⟩:=hp'.eight;have c8:=he'.cell 0;simp at c8;refine ⟨.tuple #[.agg (bq 0 false false false 0 false false none 0 0),.int .i64 er],?_,hB.trans (hk.below (fun k _ e=>by omega) hB.size),.inl ⟨er,hR,rfl⟩⟩;simp[results,Tryz.results95,go_sem,h2,h3,c0,c1,c2,c3,c4,c5,c6,c7,c8,bq]
theorem JV (w W:World) (R:Sum Nat kE) (T:Array Value) (p:kE) (A:Option Addr) (c Z:Nat) (h2:T[2]? =some (.pointer (some ⟨w.heap.size,0,none⟩))) (h3:T[3]? =some (.pointer (some ⟨w.heap.size+1,0,none⟩)))
 (hp:au W w.heap.size 148 (bq p.sn p.po p.sg p.la p.off p.s p.e A p.ps.length c)) (he:au W (w.heap.size+1) 53 #[.int .i64 0]) (hB:Below w.heap.size w W) (hR:R= .inr p) (hpo:eH W Z (.slice A p.ps.length c) p.ps) (hZ:w.heap.size≤Z):
 bodyPostD Tryz.prog Tryz.f95 (GV w R) .ret {tmps:=T,defers:= [{target:= .fn (.func 148) #[.pointer (some ⟨w.heap.size,0,none⟩),.pointer (some ⟨w.heap.size+1,0,none⟩)],args:= #[]}]} W:=by
 refine leaves_cons (f:=148) (args:= #[.pointer (some ⟨w.heap.size,0,none⟩),.pointer (some ⟨w.heap.size+1,0,none⟩)]) (by simp) (by simp[go_sem]) ?_;refine (GU _ _ _).mono ?_;rintro e9 u9 w9 ⟨rfl,rfl,rfl⟩;unfold bq at hp;obtain ⟨c0,c1,c2,c3,c4,c5,c6,c7⟩:=hp.eight;have c8:=he.cell 0;simp at c8;refine ⟨.tuple #[.agg (bq p.sn p.po p.sg p.la p.off p.s p.e A p.ps.length c),.int .i64 0],?_,hB,.inr ⟨p,A,c,hR,rfl,hpo.base hZ⟩⟩;simp[results,Tryz.results95,go_sem,h2,h3,c0,c1,c2,c3,c4,c5,c6,c7,c8,bq]
end Go.Proofs.YtbhiklnljiehiaaGreat
namespace Go.Proofs.YtbhiklnljiehiaaGreat
open Go.RowKit Go.Shelf
attribute [local go_sem] Oper.semAt_some
theorem yw {bs:List UInt8} {mo:Bool} {q:Nat} {ps:List (List UInt8)} (h:iM bs mo q= .inr ps):ps.length≤64∧∀p∈ps,p.length≤32767:=by
 unfold iM at h;cases hl:qO bs mo q with
 |inl er=>rw[hl] at h;cases h
 |inr lp=>
  obtain ⟨ls,p⟩:=lp;rw[hl] at h;obtain ⟨TL,JW⟩:=Ck hl;simp only at h;generalize bs.drop (p/8)=D at h;unfold jX at h;split at h
  ·cases h
  ·split at h
   ·cases h
   ·injection h with h
    subst h;refine ⟨by rw[kS];omega,fun x hx=> ?_⟩;obtain ⟨i,hi⟩:=List.mem_iff_getElem?.1 hx;by_cases hil:i<ls.length
    ·rw[vF ls D i _ (List.getElem?_eq_getElem hil)] at hi;injection hi with hi
     rw[←hi,List.length_take,List.length_drop];omega
    ·have ab1:i=ls.length:=by
      have:=(List.getElem?_eq_some_iff.1 hi).1;rw[kS] at this;omega
     rw[ab1,r9] at hi;injection hi with hi
     rw[←hi,List.length_drop];omega
theorem au.PE {w:World} {g' t:Nat} {cs:Array Value} (h:au w g' t cs) {g:Nat} (hne:g'≠g) (u0 u1 u2 u3 u4 u5 u6 u7:Value):au ((((((((w.setCell ⟨g,0,none⟩ u0).setCell ⟨g,1,none⟩ u1).setCell ⟨g,2,none⟩ u2).setCell ⟨g,3,none⟩ u3).setCell ⟨g,4,none⟩ u4).setCell ⟨g,5,none⟩ u5).setCell ⟨g,6,none⟩ u6).setCell ⟨g,7,none⟩ u7) g' t cs:=
 (((((((h.far (p:=⟨g,0,none⟩) hne u0).far (p:=⟨g,1,none⟩) hne u1).far (p:=⟨g,2,none⟩) hne u2).far (p:=⟨g,3,none⟩) hne u3).far (p:=⟨g,4,none⟩) hne u4).far (p:=⟨g,5,none⟩) hne u5).far (p:=⟨g,6,none⟩) hne u6).far (p:=⟨g,7,none⟩) hne u7
theorem Ez {w:World} {base:Nat} {e t:TypeId} {v:Value} {n g:Nat} {xs:List Value} {cs:Array Value} (h:w.ownsRow base e 1 v n xs) (b:au w g t cs) (hne:e≠t) (u0 u1 u2 u3 u4 u5 u6 u7:Value):(((((((((w.setCell ⟨g,0,none⟩ u0).setCell ⟨g,1,none⟩ u1).setCell ⟨g,2,none⟩ u2).setCell ⟨g,3,none⟩ u3).setCell ⟨g,4,none⟩ u4).setCell ⟨g,5,none⟩ u5).setCell ⟨g,6,none⟩ u6).setCell ⟨g,7,none⟩ u7)).ownsRow base e 1 v n xs:=by
 have b0:=b.av 0 u0;have b1:=b0.av 1 u1;have b2:=b1.av 2 u2;have b3:=b2.av 3 u3;have b4:=b3.av 4 u4;have b5:=b4.av 5 u5;have b6:=b5.av 6 u6;exact aJ (i:=7) (aJ (i:=6) (aJ (i:=5) (aJ (i:=4) (aJ (i:=3) (aJ (i:=2) (aJ (i:=1) (aJ (i:=0) h b hne _) b0 hne _) b1 hne _) b2 hne _) b3 hne _) b4 hne _) b5 hne _) b6 hne _
set_option maxRecDepth 100000 in
set_option maxHeartbeats 8000000 in
theorem EA (A:Option Addr) (n c:Nat) (bs:List UInt8) (w:World) (h:Sl w w.heap.size A n c (bV bs)) (hsm:n≤1000000):
 Calls Tryz.prog 95 #[.slice A n c] w (GV w (Ab bs)):=by
 have hlen:bs.length=n:=by simpa using h.len
 obtain ⟨R,hR⟩:∃R,Ab bs=R:=⟨_,rfl⟩
 rw[hR];have HR:=Lib.hid hR;clear hR;have hB0:=((Below.refl w.heap.size w).alloc (Nat.le_refl _) (.cells (bq 0 false false false 0 false false none 0 0) 148)).alloc (by simp) (.cells #[.int .i64 0] 53);have hs0:=(h.below hB0).more hB0.size;have hnr:=qC A n c bs _ hs0 (by omega);have Mj:=(au.new w 148 (bq 0 false false false 0 false false none 0 0)).alloc (.cells #[.int .i64 0] 53);have wD:=au.new (w.alloc (.cells (bq 0 false false false 0 false false none 0 0) 148)) 53 #[.int .i64 0];rw[World.size_alloc] at wD;unfold bq at hnr hB0 Mj wD;have Xz:=Lib.hid hnr;have HB0:=Lib.hid hB0;have um:=Lib.hid hsm;have jN:=Lib.hid hlen;clear hnr hB0 hs0 hsm hlen
 go_enter_defers Tryz.func95,Tryz.ntmps95
 go_wp2_with fail;refine Xz.out.mono ?_;rintro e1 w1 ⟨r,v,rfl,hr,hrd,hb1⟩;have XA:=Mj.below hb1 Mj.lt;have rT:=wD.below hb1 wD.lt;have hB1:Below w.heap.size w w1:=HB0.out.trans (hb1.mono HB0.out.size);have ab2:w.heap.size+1<r:=by simp at hr;omega
 have hrl:=hrd.1.lt;clear Mj wD hb1 hr Xz HB0;have hW2:∃w2,(w1.alloc (.cells #[.pointer (some ⟨r,0,none⟩),.slice A n c] 234)).alloc (.cells #[.int .i64 1,.int .i64 1,.int .i64 1,.int .i64 1,.int .i64 1,.int .i64 1,.int .i64 10] 3)=w2:=⟨_,rfl⟩
 obtain ⟨w2,hw2⟩:=hW2;have Ld:=(XA.alloc (.cells #[.pointer (some ⟨r,0,none⟩),.slice A n c] 234)).alloc (.cells #[.int .i64 1,.int .i64 1,.int .i64 1,.int .i64 1,.int .i64 1,.int .i64 1,.int .i64 10] 3);have oV:=(rT.alloc (.cells #[.pointer (some ⟨r,0,none⟩),.slice A n c] 234)).alloc (.cells #[.int .i64 1,.int .i64 1,.int .i64 1,.int .i64 1,.int .i64 1,.int .i64 1,.int .i64 10] 3);rw[hw2] at Ld oV;have hB2:Below w.heap.size w w2:=by rw[←hw2];exact (hB1.alloc hB1.size _).alloc (by have:=hB1.size;simp;omega) _
 have qY:jF w2 r v bs 0:=by rw[←hw2];exact ⟨(hrd.1.alloc _).alloc _,(hrd.2.alloc _).alloc _⟩
 have hd2:au w2 w1.heap.size 234 #[.pointer (some ⟨r,0,none⟩),.slice A n c]:=by rw[←hw2];exact (au.new w1 _ _).alloc _
 have hb2:au w2 (w1.heap.size+1) 3 (iI [1,1,1,1,1,1,10]).toArray:=by
  rw[←hw2];have:=au.new (w1.alloc (.cells #[.pointer (some ⟨r,0,none⟩),.slice A n c] 234)) 3 #[.int .i64 1,.int .i64 1,.int .i64 1,.int .i64 1,.int .i64 1,.int .i64 1,.int .i64 10];rw[World.size_alloc] at this;exact this
 go_wp2_with fail;clear hrd XA rT hB1 hw2;have hdr:w1.heap.size≠r:=by omega
 generalize w1.heap.size=d at*;have hbl:bs.length≤1000000:=by have:=jN.out;have:=um.out;omega
 by_cases h2:bs.length<2
 ·have oU:R= .inl 5:=by rw[←HR.out];unfold Ab;rw[if_pos h2]
  have vN:=Lib.hid oU;clear oU;have hga:=jm r (d+1) v bs 0 [1,1,1,1,1,1,10] w2 qY (by omega) (by simp) (by simp) hb2 (by omega) (by simp;omega);simp only[List.length_cons,List.length_nil,Nat.zero_add,Nat.reduceAdd] at hga;refine hga.mono ?_;rintro e3 w3 ⟨rfl,lF,hk3⟩;have hB3:Below w.heap.size w w3:=hB2.trans (hk3.below (B:=w.heap.size) (fun k _ e=>by have:=hB2.size;omega) hB2.size);have uR:=Ld.kept hk3 (by have:=Ld.lt;omega);have nK:=oV.kept hk3 (by have:=oV.lt;omega);clear hga h2 hbl;go_wp2_with (go_at_call 149;((with_reducible refine (Bi _ _ _ _ rfl _).mono ?_);rintro e4 w4 ⟨rfl,rfl⟩));exact lm w _ R 5 _ _ _ _ _ _ _ _ _ _ rfl rfl uR nK hB3 vN.out
 ·have hga:=mQ r (d+1) v bs 0 [1,1,1,1,1,1,10] w2 qY (by omega) (by simp) (by simp) hb2 (by simp;omega);simp only[List.length_cons,List.length_nil,Nat.zero_add,Nat.reduceAdd] at hga;refine hga.mono ?_;rintro e3 w3 ⟨vo,rfl,iH,lF,hk3⟩;have hB3:Below w.heap.size w w3:=hB2.trans (hk3.below (B:=w.heap.size) (fun k _ e=>by have:=hB2.size;omega) hB2.size);have uR:=Ld.kept hk3 (by have:=Ld.lt;omega);have nK:=oV.kept hk3 (by have:=oV.lt;omega);have hd3:=hd2.kept hk3 (by have:=hd2.lt;omega);have oF:=HR.out;unfold Ab at oF;rw[if_neg h2] at oF;have hgv:getAll bs 0 [1,1,1,1,1,1,10]= [val (aH bs 0 1),val (aH bs 1 1),val (aH bs 2 1),val (aH bs 3 1),val (aH bs 4 1),val (aH bs 5 1),val (aH bs 6 10)]:=rfl;rw[hgv] at iH;have hx6:val (aH bs 6 10)<1024:=by have:=oW (aH bs 6 10);rw[eT] at this;exact this
  have ab3:=hd2.lt;have CW:2≤bs.length:=by omega
  clear hgv hga hb2 qY hB2 Ld oV hd2 hk3 h2;simp only[List.length_cons,List.length_nil,Nat.zero_add,Nat.reduceAdd] at iH;rw[show (0:Nat)+ [1,1,1,1,1,1,10].sum=16 from rfl] at lF;generalize val (aH bs 0 1)=x0 at*;generalize val (aH bs 1 1)=x1 at*;generalize val (aH bs 2 1)=x2 at*;generalize val (aH bs 3 1)=x3 at*;generalize val (aH bs 4 1)=x4 at*;generalize val (aH bs 5 1)=x5 at*;generalize val (aH bs 6 10)=x6 at*;obtain ⟨gl,Tp,rfl,hgl,kz⟩:=iH.form (by omega);have l0:=iH.cellAt 0 (by omega);have l1:=iH.cellAt 1 (by omega);have l2:=iH.cellAt 2 (by omega);have l6:=iH.cellAt 6 (by omega);simp[nT] at l0 l1 l2 l6;by_cases h0:x0=1
  ·subst h0;simp only[ne_eq,not_true,if_false] at oF;have HR1:=Lib.hid oF;clear oF;have hwx:IntKind.i64.wrap (x6:Int)=x6:=IntWalk.i64_in _ (by omega);have bq1:((x1:Int)==1)=decide (x1=1):=by rw[Bool.eq_iff_iff];simp;omega
   have bq2:((x2:Int)==1)=decide (x2=1):=by rw[Bool.eq_iff_iff];simp;omega
   obtain ⟨sg,hsg⟩:∃sg,decide (x1=1)=sg:=⟨_,rfl⟩
   obtain ⟨po,hpo⟩:∃po,decide (x2=1)=po:=⟨_,rfl⟩
   rw[hsg] at bq1;rw[hpo] at bq2 HR1;have Xf:w3.drew.cell? ⟨gl,1,none⟩=some (.int .u64 x1):=l1;have l2':w3.drew.cell? ⟨gl,2,none⟩=some (.int .u64 x2):=l2;have l6':w3.drew.cell? ⟨gl,6,none⟩=some (.int .u64 x6):=l6;have HSG:=Lib.hid hsg;clear hsg hpo;obtain ⟨p0,p1,p2,p3,p4,p5,p6,p7⟩:=uR.eight;have f0:=uR.frozen 0;have f1:=uR.frozen 1;have f2:=uR.frozen 2;have f3:=uR.frozen 3;have f4:=uR.frozen 4;have f5:=uR.frozen 5;have f6:=uR.frozen 6;have f7:=uR.frozen 7;go_wp2_with (first|(go_at_call 149;((with_reducible refine (yo _ _ _ _).mono ?_);rintro e4 w4 ⟨rfl,rfl⟩))|(go_at_call 150;((with_reducible refine (iq _ _).mono ?_);rintro e4 w4 ⟨rfl,rfl⟩)));refine wp_region_noPanic ?_
   go_region
   refine NoPanic.normal ?_;have RH:=(uR.Mf (.int .i64 x6) (.bool po) (.bool sg) (.bool false) (.int .i64 0) (.bool false) (.bool false) (.slice none 0 0)).drew;have Oq:=(nK.PE (g:=w.heap.size) (by omega) (.int .i64 x6) (.bool po) (.bool sg) (.bool false) (.int .i64 0) (.bool false) (.bool false) (.slice none 0 0)).drew;have hd4:=(hd3.PE (g:=w.heap.size) (by omega) (.int .i64 x6) (.bool po) (.bool sg) (.bool false) (.int .i64 0) (.bool false) (.bool false) (.slice none 0 0)).drew;have Ey:=World.ownsRow.drew' (Ez iH uR (by decide) (.int .i64 x6) (.bool po) (.bool sg) (.bool false) (.int .i64 0) (.bool false) (.bool false) (.slice none 0 0));have hB4:=(nU hB3 (Nat.le_refl _) (.int .i64 x6) (.bool po) (.bool sg) (.bool false) (.int .i64 0) (.bool false) (.bool false) (.slice none 0 0)).drew;have RI:=(lF.1.PE (g:=w.heap.size) (by omega) (.int .i64 x6) (.bool po) (.bool sg) (.bool false) (.int .i64 0) (.bool false) (.bool false) (.slice none 0 0)).drew;have RJ:=World.ownsRow.drew' (Ez lF.2 uR (by decide) (.int .i64 x6) (.bool po) (.bool sg) (.bool false) (.int .i64 0) (.bool false) (.bool false) (.slice none 0 0));clear p0 p1 p2 p3 p4 p5 p6 p7 f0 f1 f2 f3 f4 f5 f6 f7 uR nK hd3 iH hB3 lF l0 l1 l2 l6 Xf l2' l6' bq1 bq2 hwx
   generalize ((((((((w3.setCell ⟨w.heap.size,0,none⟩ (.int .i64 x6)).setCell ⟨w.heap.size,1,none⟩ (.bool po)).setCell ⟨w.heap.size,2,none⟩ (.bool sg)).setCell ⟨w.heap.size,3,none⟩ (.bool false)).setCell ⟨w.heap.size,4,none⟩ (.int .i64 0)).setCell ⟨w.heap.size,5,none⟩ (.bool false)).setCell ⟨w.heap.size,6,none⟩ (.bool false)).setCell ⟨w.heap.size,7,none⟩ (.slice none 0 0)).drew=w4 at*;have xS:jF w4 r v bs 16:=⟨RI,RJ⟩;clear RI RJ
   replace Ey:=aR Ey (show w.heap.size+2≤_ by omega)
   obtain ⟨p0,p1,p2,p3,p4,p5,p6,p7⟩:=RH.eight;go_upto_if 41 with (fail)
   go_cut [6] from 42 to 60 (fun s6 wx=>∃(la:Bool) (off q:Nat),au wx w.heap.size 148 #[.int .i64 x6,.bool po,.bool sg,.bool la,.int .i64 off,.bool false,.bool false,.slice none 0 0]∧au wx (w.heap.size+1) 53 #[.int .i64 0]∧au wx d 234 #[.pointer (some ⟨r,0,none⟩),.slice A n c]∧
    wx.ownsRow (w.heap.size+2) 204 1 (.slice (some ⟨gl,0,none⟩) 7 Tp) 7 (nT [1,x1,x2,x3,x4,x5,x6])∧jF wx r v bs q∧Below w.heap.size w wx∧q≤8*bs.length∧off≤32767∧
    R=(match iM bs (decide (x5=1)) q with| .inl er=> .inl er| .inr ps=>if gK (x6:Nat) sg la (off:Nat) ps=true then .inr ⟨x6,po,sg,la,off,decide (x3=0),decide (x4=0),ps⟩ else .inl 9))
   case first=>
    have Oo:=hd4.cell 0;simp at Oo;by_cases hx1:x1=1
    ·have hsg:=HSG.out;rw[decide_eq_true hx1] at hsg;have hR2:=HR1.out;rw[if_pos hx1] at hR2;subst hsg;have yx:=RH.alloc (.cells #[.int .i64 1,.int .i64 15] 3);have sM:=Oq.alloc (.cells #[.int .i64 1,.int .i64 15] 3);have hd5:=hd4.alloc (.cells #[.int .i64 1,.int .i64 15] 3);have mV:=Ey.alloc (.cells #[.int .i64 1,.int .i64 15] 3);have lg:=hB4.alloc hB4.size (.cells #[.int .i64 1,.int .i64 15] 3);have qZ:jF (w4.alloc (.cells #[.int .i64 1,.int .i64 15] 3)) r v bs 16:=⟨xS.1.alloc _,xS.2.alloc _⟩;have hb5:au (w4.alloc (.cells #[.int .i64 1,.int .i64 15] 3)) w4.heap.size 3 (iI [1,15]).toArray:=au.new w4 3 #[.int .i64 1,.int .i64 15];by_cases h4:bs.length<4
     ·rw[if_pos h4] at hR2;have HR2:=Lib.hid hR2.symm;have hga:=jm r w4.heap.size v bs 16 [1,15] _ qZ (by omega) (by simp) (by simp) hb5 (by omega) (by simp;omega);simp only[List.length_cons,List.length_nil,Nat.zero_add,Nat.reduceAdd] at hga;have Td:=Lib.hid hga;clear hga hR2 h4 hx1;go_wp2_with fail;refine Td.out.mono ?_;rintro e6 w6 ⟨rfl,sK,lG⟩;have PG:Below w.heap.size w w6:=lg.trans (lG.below (B:=w.heap.size) (fun k _ e=>by have:=lg.size;omega) lg.size);have Ae:=yx.kept lG (by have:=yx.lt;omega);have Le:=sM.kept lG (by have:=sM.lt;omega);go_wp2_with (go_at_call 149;((with_reducible refine (Bi _ _ _ _ rfl _).mono ?_);rintro e7 w7 ⟨rfl,rfl⟩));exact lm w _ R 5 _ _ _ _ _ _ _ _ _ _ rfl rfl Ae Le PG HR2.out
     ·rw[if_neg h4] at hR2;have hga:=mQ r w4.heap.size v bs 16 [1,15] _ qZ (by omega) (by simp) (by simp) hb5 (by simp;omega);simp only[List.length_cons,List.length_nil,Nat.zero_add,Nat.reduceAdd] at hga;have Td:=Lib.hid hga;have HR2:=Lib.hid hR2.symm;have aiq:4≤bs.length:=by omega
      clear hga hR2 h4 hx1;go_wp2_with fail;refine Td.out.mono ?_;rintro e6 w6 ⟨vm,rfl,XB,sK,lG⟩;have PG:Below w.heap.size w w6:=lg.trans (lG.below (B:=w.heap.size) (fun k _ e=>by have:=lg.size;omega) lg.size);have Ae:=yx.kept lG (by have:=yx.lt;omega);have Le:=sM.kept lG (by have:=sM.lt;omega);have hd6:=hd5.kept lG (by have:=hd5.lt;omega);have Po:=jl mV lG (fun j o _ hj e=>by have:=(mV.lt j hj);obtain rfl:gl=j:=(by simpa[Value.ownBlock] using hj);omega);have hgv:getAll bs 16 [1,15]= [val (aH bs 16 1),val (aH bs 17 15)]:=rfl;rw[hgv] at XB;have hx8:val (aH bs 17 15)<32768:=by have:=oW (aH bs 17 15);rw[eT] at this;exact this
      have PI:=HR2.out;clear hgv HR2;simp only[List.length_cons,List.length_nil,Nat.zero_add,Nat.reduceAdd] at XB;rw[show (16:Nat)+ [1,15].sum=32 from rfl] at sK;generalize val (aH bs 16 1)=y0 at*;generalize val (aH bs 17 15)=y1 at*;have HR3:=Lib.hid PI;clear PI;obtain ⟨gm,air,rfl,hgm,ais⟩:=XB.form (by omega);have m0:=XB.cellAt 0 (by omega);have m1:=XB.cellAt 1 (by omega);simp[nT] at m0 m1;have m0':w6.drew.cell? ⟨gm,0,none⟩=some (.int .u64 y0):=m0;have m1':w6.drew.cell? ⟨gm,1,none⟩=some (.int .u64 y1):=m1;have hwy:IntKind.i64.wrap (y1:Int)=y1:=IntWalk.i64_in _ (by omega);have bqy:((y0:Int)==1)=decide (y0=1):=by rw[Bool.eq_iff_iff];simp;omega
      obtain ⟨la,hla⟩:∃la,decide (y0=1)=la:=⟨_,rfl⟩
      rw[hla] at bqy HR3;clear hla;obtain ⟨z0,z1,z2,z3,z4,z5,z6,z7⟩:=Ae.eight;have f3:=Ae.frozen 3;have f4:=Ae.frozen 4;go_wp2_with (go_at_call 149;((with_reducible refine (yo _ _ _ _).mono ?_);rintro e7 w7 ⟨rfl,rfl⟩));refine wp_region_noPanic ?_
      go_region
      refine NoPanic.normal ?_;go_wp2_with fail;go_meet;have VN:=((Ae.av 3 (.bool la)).av 4 (.int .i64 y1)).drew;simp at VN;refine ⟨la,y1,32,VN,((Le.far (p:=⟨w.heap.size,3,none⟩) (by simp) (.bool la)).far (p:=⟨w.heap.size,4,none⟩) (by simp) (.int .i64 y1)).drew,((hd6.far (p:=⟨w.heap.size,3,none⟩) (by simp;omega) (.bool la)).far (p:=⟨w.heap.size,4,none⟩) (by simp;omega) (.int .i64 y1)).drew,
       World.ownsRow.drew' (aJ (i:=4) (aJ (i:=3) Po Ae (by decide) (.bool la)) (Ae.av 3 (.bool la)) (by decide) _),
       ⟨((sK.1.far (p:=⟨w.heap.size,3,none⟩) (by simp;omega) (.bool la)).far (p:=⟨w.heap.size,4,none⟩) (by simp;omega) (.int .i64 y1)).drew,World.ownsRow.drew' (aJ (i:=4) (aJ (i:=3) sK.2 Ae (by decide) (.bool la)) (Ae.av 3 (.bool la)) (by decide) _)⟩,
       ((PG.setCell (p:=⟨w.heap.size,3,none⟩) (by simp) (.bool la)).setCell (p:=⟨w.heap.size,4,none⟩) (by simp) (.int .i64 y1)).drew,by omega,by omega,HR3.out⟩
    ·have hsg:=HSG.out;rw[decide_eq_false hx1] at hsg;have hR2:=HR1.out;rw[if_neg hx1] at hR2;subst hsg;have HR2:=Lib.hid hR2.symm;clear hR2 hx1;go_wp2_with fail;go_meet;exact ⟨false,0,16,RH,Oq,hd4,Ey,xS,hB4,by omega,by omega,HR2.out⟩
   case rest=>
    obtain ⟨la,off,q,yx,sM,hd5,mV,qZ,lg,hq,hoff,oU⟩:=hcut;have vN:=Lib.hid oU;clear oU HR1 HR p0 p1 p2 p3 p4 p5 p6 p7 RH Oq hd4 Ey xS hB4;have l3:=mV.cellAt 3 (by omega);have l4:=mV.cellAt 4 (by omega);have l5:=mV.cellAt 5 (by omega);simp[nT] at l3 l4 l5;have b3:((x3:Int)==0)=decide (x3=0):=by rw[Bool.eq_iff_iff];simp
    have b4:((x4:Int)==0)=decide (x4=0):=by rw[Bool.eq_iff_iff];simp
    have b5:((x5:Int)==1)=decide (x5=1):=by rw[Bool.eq_iff_iff];simp;omega
    generalize decide (x3=0)=s at*;generalize decide (x4=0)=e at*;generalize decide (x5=1)=mo at*;have hch:=JU r d v A n c bs s e mo q wc.drew qZ hd5.drew (fun W hW=>(h.below (lg.drew.trans (hW.below (B:=w.heap.size) (fun k _ e=>by have:=lg.size;simp at e;omega) lg.size))).more (by have:=lg.size;have:=hW.size;simp at this;omega)) (by omega) hq;have nV:=Lib.hid hch;clear hch;go_wp2_with fail;refine wp_region_still_tail 13 (by kernel_rfl) (by kernel_rfl) ?_;simp only[List.take_succ_cons,List.take_zero,List.drop_succ_cons,List.drop_zero]
    still_step
    still_step
    still_step
    still_step
    still_step
    still_step
    still_step
    still_step
    still_step
    still_step
    still_step
    still_step
    still_step
    refine wpStill_nil ?_;change wpList _ _ _ _ _ wc.drew
    replace yx:=yx.drew
    replace sM:=sM.drew
    replace lg:=lg.drew
    clear hd5 mV qZ l3 l4 l5 b3 b4 b5;have hwc:w.heap.size+1<wc.drew.heap.size:=sM.lt;generalize wc.drew=w5 at*;go_wp2_with fail;refine nV.out.mono ?_;rintro e6 w6 ⟨lG,h6⟩;have PG:Below w.heap.size w w6:=lg.trans (lG.below (B:=w.heap.size) (fun k _ e=>by omega) lg.size);have Ae:=yx.kept lG (by omega);have Le:=sM.kept lG (by omega);rcases h6 with ⟨er,hl,rfl⟩|⟨ps,Ao,co,hl,rfl,hpo⟩
    ·have Mk:=Lib.hid (show R= .inl er by rw[vN.out,hl]);clear hl;go_wp2;exact lm w _ R er _ _ _ _ _ _ _ _ _ _ rfl rfl Ae Le PG Mk.out
    ·have hRp:R=if gK (x6:Nat) sg la (off:Nat) ps=true then .inr ⟨x6,po,sg,la,off,s,e,ps⟩ else .inl 9:=by rw[vN.out,hl]
     have DV:=Lib.hid hRp;have hcp:=Lib.hid (yw hl);clear hRp hl vN nV lg yx sM;obtain ⟨z0,z1,z2,z3,z4,z5,z6,z7⟩:=Ae.eight;have f5:=Ae.frozen 5;have f6:=Ae.frozen 6;have f7:=Ae.frozen 7;have VN:=((Ae.av 5 (.bool s)).av 6 (.bool e)).av 7 (.slice Ao ps.length co);have be7:=((Le.far (p:=⟨w.heap.size,5,none⟩) (by simp) (.bool s)).far (p:=⟨w.heap.size,6,none⟩) (by simp) (.bool e)).far (p:=⟨w.heap.size,7,none⟩) (by simp) (.slice Ao ps.length co);have Pj:=((PG.setCell (p:=⟨w.heap.size,5,none⟩) (by simp) (.bool s)).setCell (p:=⟨w.heap.size,6,none⟩) (by simp) (.bool e)).setCell (p:=⟨w.heap.size,7,none⟩) (by simp) (.slice Ao ps.length co);have XC:eH (((w6.setCell ⟨w.heap.size,5,none⟩ (.bool s)).setCell ⟨w.heap.size,6,none⟩ (.bool e)).setCell ⟨w.heap.size,7,none⟩ (.slice Ao ps.length co)) w5.heap.size (.slice Ao ps.length co) ps:=
      hpo.kept (fun k o hk ho=>by
       rw[Below.heap_setCell _ _ _ k (by simp;omega),Below.heap_setCell _ _ _ k (by simp;omega),Below.heap_setCell _ _ _ k (by simp;omega)];exact ho)
     simp at VN;obtain ⟨Ax,cx,yA,hvx,wE⟩:=XC.WR;injection hvx with hx1 _ hx2
     subst hx1 hx2;have hva:=rq x6 po sg la off s e Ao ps.length co yA ps _ wE (by have:=hcp.out.1;omega) (fun p hp=>by have:=hcp.out.2 p hp;omega);unfold bq at hva;have I6:=Lib.hid hva;have RL:=Lib.hid XC;clear hva wE;go_wp2_with fail;refine I6.out.mono ?_;rintro e8 w8 ⟨rfl,Me⟩;have Ml:=VN.below Me VN.lt;have be8:=be7.below Me be7.lt;have hB8:=Pj.trans (Me.mono Pj.size);by_cases hvv:gK (x6:Nat) sg la (off:Nat) ps=true
     ·have Bj:=Lib.hid (show R= .inr ⟨x6,po,sg,la,off,s,e,ps⟩ by rw[DV.out,if_pos hvv]);rw[hvv];clear hvv;have XD:eH w8 w5.heap.size (.slice Ao ps.length co) ps:=RL.out.kept (fun k o _ ho=>(Me.block k (lt_of_heap ho)).trans ho);have ab5:=Lib.hid XD;clear XD;clear z0 z1 z2 z3 z4 z5 z6 z7 f5 f6 f7;obtain ⟨z0,z1,z2,z3,z4,z5,z6,z7⟩:=Ml.eight;have f0:=Ml.frozen 0;have f1:=Ml.frozen 1;have f2:=Ml.frozen 2;have f3:=Ml.frozen 3;have f4:=Ml.frozen 4;have f5:=Ml.frozen 5;have f6:=Ml.frozen 6;have f7:=Ml.frozen 7;have f8:=be8.frozen 0;have z8:=be8.cell 0;simp at z8;go_wp2_with (go_at_call 150;((with_reducible refine (iq _ _).mono ?_);rintro e9 w9 ⟨rfl,rfl⟩));have GX:=(Ml.Mf (.int .i64 x6) (.bool po) (.bool sg) (.bool la) (.int .i64 off) (.bool s) (.bool e) (.slice Ao ps.length co)).far (p:=⟨w.heap.size+1,0,none⟩) (by simp) (.int .i64 0);have TM:=(be8.PE (g:=w.heap.size) (by omega) (.int .i64 x6) (.bool po) (.bool sg) (.bool la) (.int .i64 off) (.bool s) (.bool e) (.slice Ao ps.length co)).av 0 (.int .i64 0);have PK:=(nU hB8 (Nat.le_refl _) (.int .i64 x6) (.bool po) (.bool sg) (.bool la) (.int .i64 off) (.bool s) (.bool e) (.slice Ao ps.length co)).setCell (p:=⟨w.heap.size+1,0,none⟩) (by simp) (.int .i64 0);refine JV w _ R _ ⟨x6,po,sg,la,off,s,e,ps⟩ Ao co w5.heap.size rfl rfl GX TM PK Bj.out (ab5.out.kept (fun k o hk ho=> ?_)) (by omega)
      have hs:=fun (X:World) (g i:Nat) (u:Value) (hg:g<w5.heap.size)=>Below.heap_setCell X ⟨g,i,none⟩ u k (by simp;omega)
      rw[hs _ _ _ _ (by omega),hs _ _ _ _ (by omega),hs _ _ _ _ (by omega),hs _ _ _ _ (by omega),hs _ _ _ _ (by omega),hs _ _ _ _ (by omega),hs _ _ _ _ (by omega),hs _ _ _ _ (by omega),hs _ _ _ _ (by omega)];exact ho
     ·have Bj:=Lib.hid (show R= .inl 9 by rw[DV.out,if_neg hvv]);rw[Bool.not_eq_true] at hvv;rw[hvv];clear hvv;go_wp2_with (go_at_call 150;((with_reducible refine (fC _ _).mono ?_);rintro e9 w9 ⟨rfl,rfl⟩));exact lm w _ R 9 _ _ _ _ _ _ _ _ _ _ rfl rfl Ml be8 hB8 Bj.out
  ·rw[if_pos h0] at oF;have HR1:=Lib.hid oF.symm;have hx0:((x0:Int)==1)=false:=by simp;omega
   clear oF h0;go_wp2_with (first|(go_at_call 149;((with_reducible refine (yo _ _ _ _).mono ?_);rintro e4 w4 ⟨rfl,rfl⟩))|(go_at_call 150;((with_reducible refine (fC _ _).mono ?_);rintro e4 w4 ⟨rfl,rfl⟩)));exact lm w _ R 9 _ _ _ _ _ _ _ _ _ _ rfl rfl uR nK hB3 HR1.out
end Go.Proofs.YtbhiklnljiehiaaGreat
namespace Go.Proofs.YtbhiklnljiehiaaGreat
section
abbrev Fl:=Bool × Bool × Bool
def RN:Fl:=(false,false,false)
structure Sp where
 fl:List Fl
 da:List UInt8
 size:Option Nat
def EB:Sp:=⟨[],[],none⟩
def fJ (l:List Fl) (i:Nat):Fl:=l[i]?.getD RN
def pN (l:List Fl):Nat:=(l.map (fun f=>f.1.toNat)).sum
def lq (p:Sp):Bool:=match p.size with
 |none=>false
 |some k=>decide (0<k)&&decide (pN p.fl=k)
def fO:Option Sp→Bool
 |none=>false
 |some p=>lq p
structure Rc where
 m:Nat→Option Sp
 next:Nat
 status:Nat
 high:Nat
 ro:Bool
 jB:Nat
 exp:Int
 due:Bool
 CX:Int
 now:Int
 op:List UInt8
 sm:Bool
def iN:Rc:=⟨fun _=>none,0,0,0,false,0,0,false,0,0,[],false⟩
def fD (sn:Nat):Nat:=(sn+1)%1024
def bX (st:Rc) (sn:Nat):Nat:=(sn+1024-st.next)%1024
def pO (m:Nat→Option Sp):Nat→Nat→Nat
 |0,sn=>sn
 |f+1,sn=>if fO (m sn)=true then pO m f (fD sn) else sn
def uS (c:Cf) (st:Rc):Rc:= {st with ro:=true,jB:=st.high,exp:=IntKind.i64.wrap (st.now+c.reorder)}
def jO (st:Rc) (now:Int):Rc:= {st with now:=if st.now<now then now else st.now}
def uT (c:Cf) (st:Rc):Rc:=
 let s2:Rc:= {st with status:=pO st.m 1024 st.jB,due:=true,ro:=false}
 if s2.high≠s2.status then uS c s2 else s2
def dP (c:Cf) (st:Rc) (now:Int):Rc:=
 if st.ro=false∨(jO st now).now<st.exp then jO st now else uT c (jO st now)
def qF (p:List UInt8) (a b:Bool):List (Fl × UInt8):=p.mapIdx (fun j x=>((true,decide (j=0)&&a,decide (j+1=p.length)&&b),x))
def gL (s e:Bool) (n:Nat):Nat→List (List UInt8)→List (Fl × UInt8)
 |_,[]=> []
 |i,p::r=>qF p (decide (0<i)||s) (decide (i+1<n)||e)++gL s e n (i+1) r
def Bl:List (Fl × UInt8)→Nat→List Fl × List UInt8→List Fl × List UInt8
 | [],_,x=>x
 |(f,b)::r,at_,x=>Bl r (at_+1) (if (fJ x.1 at_).1=true then x else (x.1.set at_ f,x.2.set at_ b))
def jP (k:Nat) (l:List Fl):List Fl:=l++List.replicate (k-l.length) RN
def nW (k:Nat) (l:List UInt8):List UInt8:=l++List.replicate (k-l.length) 0
def mW (x:kE):Nat:=x.off+ah x.ps
def EC (x:kE):Bool:= !x.sg||x.la
def ED (p:Sp) (x:kE):Bool:=match p.size with
 |some k=> !(decide (mW x≤k)&&(!EC x||decide (mW x=k)))
 |none=>EC x&&(decide (mW x<p.fl.length)&&(p.fl.drop (mW x)).any (fun f=>f.1))
def iw (p:Sp) (x:kE):Sp:=
 let y:=Bl (gL x.s x.e x.ps.length 0 x.ps) x.off (jP (mW x) p.fl,nW (mW x) p.da)
 ⟨y.1,y.2,if EC x=true then some (mW x) else p.size⟩
def sN (b:List UInt8) (begins last:Bool) (op:List UInt8) (sm:Bool):List UInt8 × Bool × List (List UInt8):=
 if begins=false∧sm=false then (op,false,[])
 else
  let o2:=(if begins=true then [] else op)++b
  if o2.length≤9000∧last=false then (o2,true,[])
  else ([],false,if o2.length≤9000 then [o2] else [])
def uU (fl:List Fl) (da:List UInt8) (n:Nat):Nat→Nat→Nat→List UInt8→Bool→List UInt8 × Bool × List (List UInt8)
 |0,_,_,op,sm=>(op,sm,[])
 |k+1,i,fr,op,sm=>
  if i<n∧(fJ fl i).2.1=false then uU fl da n k (i+1) fr op sm
  else
   let y:=sN ((da.take i).drop fr) (fJ fl fr).2.1 (decide (i<n)||(fJ fl (i-1)).2.2) op sm
   let z:=uU fl da n k (i+1) i y.1 y.2.1
   (z.1,z.2.1,y.2.2++z.2.2)
def j6 (m:Nat→Option Sp) (k:Nat) (v:Option Sp):Nat→Option Sp:=fun j=>if j=k then v else m j
def Bn (p:Sp):Nat:=p.size.getD 0
def EF (st:Rc) (p:Sp):List UInt8 × Bool × List (List UInt8):=uU p.fl p.da (Bn p) (Bn p) 1 0 st.op st.sm
def yB (st:Rc) (p:Sp):Rc:= {st with op:=(EF st p).1,sm:=(EF st p).2.1,m:=j6 st.m st.next none,next:=fD st.next}
def eY:Nat→Rc→Rc × List (List UInt8)
 |0,st=>(st,[])
 |f+1,st=>match st.m st.next with
  |none=>(st,[])
  |some p=>if lq p=true then ((eY f (yB st p)).1,(EF st p).2.2++(eY f (yB st p)).2) else (st,[])
def pP (st:Rc) (x:kE) (p:Sp):Rc:=
 let s1:Rc:= {st with m:=j6 st.m x.sn (some (iw p x)),due:=st.due||x.po}
 let s2:Rc:= {s1 with high:=if bX s1 s1.high≤bX s1 x.sn then fD x.sn else s1.high}
 {s2 with status:=pO s2.m 1024 s2.status}
def JX (c:Cf) (st:Rc):Rc:=
 let s1:Rc:=if bX st st.jB=0∨512<bX st st.jB then {st with ro:=false} else st
 if s1.ro=false∧s1.high≠s1.next then uS c s1 else s1
def jq (st:Rc) (sn:Nat):Sp:=(st.m sn).getD EB
def JY (c:Cf) (st:Rc) (x:kE):Rc × List (List UInt8) × Nat:=
 if 512≤bX st x.sn then ({st with due:=st.due||x.po},[],0)
 else if ED (jq st x.sn) x=true then (st,[],9)
 else
  let D:=eY 1024 (pP st x (jq st x.sn))
  (JX c D.1,D.2,0)
def jr (c:Cf) (st:Rc) (now:Int) (bs:List UInt8):Rc × List (List UInt8) × Nat:=
 match Ab bs with
 | .inl er=>(dP c st now,[],er)
 | .inr x=>JY c (dP c st now) x
def eO:List Fl→Nat→Nat→List (Nat × Nat)
 | [],i,fr=>if fr<i then [(fr,i-1)] else []
 |f::r,i,fr=>if f.1=false then eO r (i+1) fr else if fr<i then (fr,i-1)::eO r (i+1) (i+1) else eO r (i+1) (i+1)
def eD (sn:Nat) (x:Nat × Nat):Nk:=⟨sn,true,x.1,x.2⟩
def mq (sn:Nat):Option Sp→List Nk
 |none=> [⟨sn,false,0,0⟩]
 |some p=>match p.size with
  |some k=>(eO (jP k p.fl) 0 0).map (eD sn)
  |none=>(eO p.fl 0 0).map (eD sn)++ [⟨sn,true,p.fl.length,32767⟩]
def sO (st:Rc):Nat→Nat→List Nk→Nat × List Nk
 |0,_,l=>(st.status,l)
 |k+1,sn,l=>
  if sn=st.status then (st.status,l)
  else if fO (st.m sn)=true then sO st k (fD sn) l
  else if 512<l.length+(mq sn (st.m sn)).length then (sn,l)
  else sO st k (fD sn) (l++mq sn (st.m sn))
def sP (st:Rc):Nat × List Nk:=sO st 1024 st.next []
def qG (st:Rc) (now:Int):Bool:=st.due&&decide (st.CX≤(if now<st.now then st.now else now))
end
end Go.Proofs.YtbhiklnljiehiaaGreat
