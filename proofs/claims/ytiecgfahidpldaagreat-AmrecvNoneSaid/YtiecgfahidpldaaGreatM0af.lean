/- ampdu.Decode: must, got, the chunk. ampdu.Decode: errors are recovered. ampdu.Decode. amrecv: what a receiver computes (plain functions). amrecv: storing bytes; delivering a whole PDU (plain). -/
import Derived.Test.YtiecgfahidpldaaGreatM0ac
import Derived.Test.YtiecgfahidpldaaGreatM0ad
import Derived.Test.YtiecgfahidpldaaGreatM0ae
import Derived.WideLaws
namespace Go.Proofs.YtiecgfahidpldaaGreat
open Go.RowKit Go.Shelf
attribute [local go_sem] Oper.semAt_some
theorem bU (er:Int) (w:World):Calls Tryz.prog 69 #[.bool true,.int .i64 er] w fun e w'=>e= .returned (.tuple #[])∧w=w':=by
 go_enter Tryz.func69,Tryz.ntmps69;go_wp2
 go_end0
 exact ⟨rfl,rfl⟩
theorem bF (er:Int) (w:World):Calls Tryz.prog 69 #[.bool false,.int .i64 er] w fun e w'=>e=raise er∧w=w':=by
 unfold raise;go_enter Tryz.func69,Tryz.ntmps69;go_wp2;exact ⟨rfl,rfl,rfl⟩
theorem pF (x:Int) (w:World):Calls Tryz.prog 116 #[.int .u64 x,.int .i64 0] w fun e w'=>e= .returned (.int .u64 x)∧w=w':=by
 go_enter Tryz.func116,Tryz.ntmps116;go_wp2_with (go_at_call 69;refine (bU _ _).mono ?_;rintro e w' ⟨rfl,rfl⟩);go_ret;exact ⟨rfl,rfl⟩
theorem xG (x er:Int) (Mq:(er==0)=false) (w:World):Calls Tryz.prog 116 #[.int .u64 x,.int .i64 er] w fun e w'=>e=raise er∧w=w':=by
 go_enter Tryz.func116,Tryz.ntmps116;go_wp2_with (go_at_call 69;refine (bF _ _).mono ?_;rintro e w' ⟨rfl,rfl⟩);exact ⟨rfl,rfl,rfl⟩
theorem lT (A:Option Addr) (n c:Nat) (w:World):Calls Tryz.prog 67 #[.slice A n c,.int .i64 0] w fun e w'=>e= .returned (.slice A n c)∧w=w':=by
 go_enter Tryz.func67,Tryz.ntmps67;go_wp2_with (go_at_call 69;refine (bU _ _).mono ?_;rintro e w' ⟨rfl,rfl⟩);go_ret;exact ⟨rfl,rfl⟩
theorem om (A:Option Addr) (n c:Nat) (er:Int) (Mq:(er==0)=false) (w:World):Calls Tryz.prog 67 #[.slice A n c,.int .i64 er] w fun e w'=>e=raise er∧w=w':=by
 go_enter Tryz.func67,Tryz.ntmps67;go_wp2_with (go_at_call 69;refine (bF _ _).mono ?_;rintro e w' ⟨rfl,rfl⟩);exact ⟨rfl,rfl,rfl⟩
theorem jZ {w w':World} {b b':Nat} {e e':TypeId} {n n':Nat} {v v':Value} {xs xs':List Value} (h:w.ownsRow b e 1 v n xs) (h':w.ownsRow b' e' 1 v' n' xs') (hne:e≠e') (hg:w.grownBy w' v'.ownBlock):w'.ownsRow b e 1 v n xs:=by
 refine h.kept hg ?_;rcases hv:v.ownBlock with _|j
 ·exact .inl rfl
 ·refine .inr (fun e1=> ?_);obtain ⟨o1,ho1,⟨cs1,Ji,rfl⟩,_⟩:=aQ h hv;obtain ⟨o2,ho2,⟨cs2,Jj,rfl⟩,_⟩:=aQ h' e1.symm;rw[ho1] at ho2;cases ho2;exact hne rfl
def cB (bs:List UInt8) (more:Bool) (pos:Nat):Sum Nat (List (List UInt8)):=
 match iT bs more pos with
 | .inl er=> .inl er
 | .inr (ls,p)=>dV ls (bs.drop (p/8))
def zM (w:World) (r:Nat) (s e:Bool) (R:Sum Nat (List (List UInt8))) (en:Ending) (w':World):Prop:=
 Kept (fun k _=>k=r∨w.heap.size≤k) w w'∧
 ((∃er:Nat,R= .inl er∧en=raise er)∨(∃ps A c,R= .inr ps∧en= .returned (.agg #[.bool s,.bool e,.slice A ps.length c])∧aX w' w.heap.size (.slice A ps.length c) ps))
set_option maxRecDepth 100000 in
set_option maxHeartbeats 8000000 in
theorem vz (r d:Nat) (v:Value) (A0:Option Addr) (n0 c0:Nat) (bs:List UInt8) (s e more:Bool) (pos:Nat) (w:World) (h:ic w r v bs pos) (hd:av w d 128 #[.pointer (some ⟨r,0,none⟩),.slice A0 n0 c0])
 (hb:∀W,Kept (fun k _=>k=r∨w.heap.size≤k) w W→Sl W W.heap.size A0 n0 c0 (bE bs)) (hsm:bs.length≤1000000000) (hp:pos≤8*bs.length):
 Calls Tryz.prog 70 #[.pointer (some ⟨d,0,none⟩),.bool s,.bool e,.bool more] w (zM w r s e (cB bs more pos)):=by
 obtain ⟨i0,hi,hz0,hz1,hz2⟩:=info_parts lC;obtain ⟨j0,hj0,hm0,hm1,hm2⟩:=info_parts uq;have hrd:d≠r:=by
  rintro rfl;have h1:=h.1;unfold av at h1 hd;rw[h1] at hd;injection hd with hd
  injection hd with _ h2
  exact absurd h2 (by decide)
 have hdl:=hd.lt;have hrl:=h.1.lt;have qE:=Lib.hid hsm;have HP:=Lib.hid hp;have HB:=Lib.hid hb;clear hsm hp hb;obtain ⟨R,hR⟩:∃R,bM bs 64 more pos []=R:=⟨_,rfl⟩
 have hRR:iT bs more pos=dJ bs R:=by rw[←hR];rfl
 obtain ⟨CR,Js⟩:∃CR,cB bs more pos=CR:=⟨_,rfl⟩
 have zN:=Js;unfold cB at zN;rw[Js];rw[hRR] at zN;have HR:=Lib.hid hR;have Ex:=Lib.hid zN;clear hR hRR Js zN;go_enter Tryz.func70,Tryz.ntmps70;go_wp2;have hk0:Kept (fun k _=>k=r∨w.heap.size≤k) w ((w.alloc (.cells #[.bool false,.bool false,.slice none 0 0] 70)).alloc (.cells #[.bool s,.bool e,.slice none 0 0] 70)):=((Kept.refl _ w).alloc _).alloc _;have OO:=(av.new w 70 #[.bool false,.bool false,.slice none 0 0]).alloc (.cells #[.bool s,.bool e,.slice none 0 0] 70);have bc0:=av.new (w.alloc (.cells #[.bool false,.bool false,.slice none 0 0] 70)) 70 #[.bool s,.bool e,.slice none 0 0];have h0:ic ((w.alloc (.cells #[.bool false,.bool false,.slice none 0 0] 70)).alloc (.cells #[.bool s,.bool e,.slice none 0 0] 70)) r v bs pos:=⟨(h.1.alloc _).alloc _,(h.2.alloc _).alloc _⟩;have hsz0:w.heap.size+2≤((w.alloc (.cells #[.bool false,.bool false,.slice none 0 0] 70)).alloc (.cells #[.bool s,.bool e,.slice none 0 0] 70)).heap.size:=by simp
 rw[World.size_alloc] at bc0;generalize (w.alloc (.cells #[.bool false,.bool false,.slice none 0 0] 70)).alloc (.cells #[.bool s,.bool e,.slice none 0 0] 70)=w0 at*
 go_loopw [3,10,11] (fun m l s wr=>∃(acc:List Nat) (more':Bool) (q:Nat),m= .bool more'∧s= .int .i64 (acc.sum:Nat)∧acc.length≤63∧acc.sum≤2047*acc.length∧(∀x∈acc,x≤2047)∧bM bs (64-acc.length) more' q acc=R∧
  ic wr r v bs q∧q≤8*bs.length∧wr.ownsRow w0.heap.size 3 1 l acc.length (dx acc)∧Kept (fun k _=>k=r∨w0.heap.size≤k) w0 wr) (fun _ l _ _=>64-sN l)
 case atStart=>exact ⟨[],more,pos,rfl,rfl,by simp,by simp,by simp,HR.out,h0,HP.out,World.ownsRow_nil _ _ _ _,Kept.refl _ _⟩
 case round=>
  obtain ⟨acc,more',q,rfl,rfl,hal,hsum,hmem,hread,hrq,hq,how,hkp⟩:=hrel;have xH:Kept (fun k _=>k=r∨w.heap.size≤k) w wr:=hk0.trans (hkp.mono fun k _ e=>e.imp id (fun e=>by omega));have hd1:=hd.kept xH (by rintro (e|e);exact hrd e;omega);have CB:=hd1.cell 0;simp at CB;have Jt:=Lib.hid hread;have HQ:=Lib.hid hq;have Ey:=Lib.hid hmem;clear hread hq hmem;cases more' with
  |true=>
   obtain ⟨f,hf⟩:∃f,64-acc.length=f+1:=⟨63-acc.length,by omega⟩
   have qO:=Jt.out;rw[hf] at qO;simp only[bM] at qO;have HR2:=Lib.hid qO;have OP:=Lib.hid hf;clear qO hf;by_cases hfit:8*bs.length<q+12
   ·have hget:=og r v bs q 12 wr hrq HQ.out qE.out (by omega) (by have:=HQ.out;omega);have vB:R= .inl 5:=by have:=HR2.out;rw[if_pos hfit] at this;exact this.symm
    have HG:=Lib.hid hget;have H5:=Lib.hid vB;clear hget vB hfit;go_wp2_with fail;refine HG.out.mono ?_;rintro e1 w1 ⟨rfl,hr1,hk1⟩;go_wp2_with (go_at_call 116;refine (xG _ _ rfl _).mono ?_;rintro e2 w2 ⟨rfl,rfl⟩);exact ⟨rfl,xH.trans (hk1.mono fun _ _ e=> .inl e),.inl ⟨5,by rw[←Ex.out,H5.out];rfl,rfl⟩⟩
   ·have hget:=o6 r v bs q 12 wr hrq qE.out (by omega) (by omega);have hV:=oU (aA bs q 12);rw[dU] at hV;have hR2:=HR2.out;rw[if_neg hfit] at hR2;have HG:=Lib.hid hget;have Ju:=Lib.hid hfit;clear hget hfit HR2;generalize val (aA bs q 12)=V at*;have hand:=zK V hV;have Jv:IntKind.i64.wrap ((V%2048:Nat):Int)=((V%2048:Nat):Int):=IntWalk.i64_in _ (by omega);obtain ⟨n,hn⟩:∃n,V%2048=n:=⟨_,rfl⟩
    obtain ⟨m',hm'⟩:∃m',decide (V/2048=1)=m':=⟨_,rfl⟩
    have hmo:((V:Int)/2048==1)=m':=by rw[←hm',Bool.eq_iff_iff];simp;omega
    rw[hn] at hand Jv hR2;rw[hm'] at hR2;have hn2:n<2048:=by omega
    have HR3:=Lib.hid hR2;clear hR2 hn hm' hV;obtain ⟨A,c,rfl,hsl,_⟩:=aK how;by_cases hbad:n=0∨63≤acc.length
    ·have wM:R= .inl 9:=by have:=HR3.out;rw[if_pos hbad] at this;exact this.symm
     have H9:=Lib.hid wM;clear wM;by_cases h00:n=0
     ·subst h00;clear hbad HR3;go_wp2_with fail;refine HG.out.mono ?_;rintro e1 w1 ⟨rfl,hr1,hk1⟩;go_wp2_with (first|(go_at_call 116;refine (pF _ _).mono ?_;rintro e2 w2 ⟨rfl,rfl⟩)|(go_at_call 69;((with_reducible refine (bF _ _).mono ?_);rintro e3 w3 ⟨rfl,rfl⟩)));exact ⟨rfl,xH.trans (hk1.mono fun _ _ e=> .inl e),.inl ⟨9,by rw[←Ex.out,H9.out];rfl,rfl⟩⟩
     ·have hn0:0<n:=by omega
      have hb3:decide ((acc.length:Int)<63)=false:=by simp;omega
      have hb4:63≤acc.length:=by omega
      clear hbad HR3 h00;go_wp2_with fail;refine HG.out.mono ?_;rintro e1 w1 ⟨rfl,hr1,hk1⟩;go_wp2_with (first|(go_at_call 116;refine (pF _ _).mono ?_;rintro e2 w2 ⟨rfl,rfl⟩)|(go_at_call 69;((with_reducible refine (bF _ _).mono ?_);rintro e3 w3 ⟨rfl,rfl⟩)));exact ⟨rfl,xH.trans (hk1.mono fun _ _ e=> .inl e),.inl ⟨9,by rw[←Ex.out,H9.out];rfl,rfl⟩⟩
    ·have pG:=HR3.out;rw[if_neg hbad] at pG;have hb2:0<n:=by omega
     have hb3:decide ((acc.length:Int)<63)=true:=by simp;omega
     have OQ:acc.length<63:=by omega
     have HR4:=Lib.hid pG;have RZ:=Lib.hid hbad;clear pG hbad HR3;go_wp2_with fail;refine HG.out.mono ?_;rintro e1 w1 ⟨rfl,hr1,hk1⟩;have sV:=hkp.trans (hk1.mono (M':=fun k _=>k=r∨w0.heap.size≤k) fun _ _ e=> .inl e);have lU:=ig how hk1 (fun j o _ hj e=>by have:=(how.lt j hj).1;omega);go_wp2_with (first
      |(go_at_call 116;refine (pF _ _).mono ?_;rintro e2 w2 ⟨rfl,rfl⟩)
      |(go_at_call 69;((with_reducible refine (bU _ _).mono ?_);rintro e3 w3 ⟨rfl,rfl⟩))
      |(at_builtin;refine wpList_append_own _ rfl _ _ 162 rfl w0.heap.size 3 i0 (.int .i64 0) 1 8 sI hi hz0 hz1 hz2 rfl (by decide) _ _ _ rfl (lU.alloc _) ⟨w1.heap.size,0,none⟩ 1 1 [.int .i64 n] rfl rfl ?c1 ?c2 ?c3 ?c4 ?c5 ?_))
     case c1=>exact cell_one_new _ _ _
     case c2=>simp[Value.oneCell']
     case c3=>unfold maxLen;omega
     case c4=>omega
     case c5=>have:=sV.size;simp;omega
     intro v' w2 hown' hgrow _;have hr2:ic w2 r v bs (q+12):=by
      refine ⟨(hr1.1.alloc _).grown hgrow (fun e=>au lU hr1.1 (by decide) e.symm),(hr1.2.alloc _).kept hgrow ?_⟩;rcases hq:v.ownBlock with _|j
      ·exact .inl rfl
      ·refine .inr (fun e=> ?_);obtain ⟨o1,ho1,⟨cs1,Ji,rfl⟩,_⟩:=aQ hr1.2 hq;obtain ⟨o2,ho2,⟨cs2,Jj,rfl⟩,_⟩:=aQ lU e.symm;rw[ho1] at ho2;cases ho2
     have hlv:=sO hown';have OT:=Lib.hid hlv;clear hlv;go_wp2;refine ⟨⟨acc++ [n],m',q+12,rfl,by simp,by simp;omega,by simp;omega,?_,?_,hr2,by have:=Ju.out;omega,by simpa[dx] using hown',(sV.alloc _).grown hgrow (fun j hj o _=> .inr ((lU.lt j hj).1))⟩,by rw[OT.out];simp[sN];omega⟩
     ·intro x hx;rcases List.mem_append.1 hx with hx|hx
      ·exact Ey.out x hx
      ·simp at hx;omega
     ·have:=HR4.out;rw[show f=64-(acc++ [n]).length by have:=OP.out;simp;omega] at this;exact this
  |false=>
   have vC:R= .inr (acc,q):=by
    have:=Jt.out;rw[←this];cases 64-acc.length<;>rfl
   have nL:=sK r v bs q wr hrq qE.out HQ.out;have hpq:q+gP q≤8*bs.length:=by have:=HQ.out;unfold gP;omega
   have pI:=Lib.hid nL;have Bj:=Lib.hid vC;have Mr:=Lib.hid hpq;clear nL vC hpq;obtain ⟨A,c,rfl,hsl,_⟩:=aK how;by_cases hz:val (aA bs q (gP q))=0
   ·have Ez:CR=dV acc (bs.drop ((q+gP q)/8)):=by rw[←Ex.out,Bj.out];simp only[dJ,if_pos hz]
    have nL:=pI.out;simp only[if_pos hz] at nL;have Hy:=Lib.hid Ez;have zO:=Lib.hid nL;clear Ez nL hz pI;go_wp2_with fail;refine zO.out.mono ?_;rintro e1 w1 ⟨rfl,hr1,hk1⟩;have lU:=ig how hk1 (fun j o _ hj e=>by have:=(how.lt j hj).1;omega);have sV:=hkp.trans (hk1.mono (M':=fun k _=>k=r∨w0.heap.size≤k) fun _ _ e=> .inl e);have nN:=xH.trans (hk1.mono (M':=fun k _=>k=r∨w.heap.size≤k) fun _ _ e=> .inl e);have hb1:=HB.out w1 nN;have hd1:=hd.kept nN (by rintro (e|e);exact hrd e;omega);have bc1:=bc0.kept sV (by rintro (e|e);omega;omega);have r9:=OO.kept sV (by rintro (e|e);omega;omega);clear hkp xH how hsl hrq CB zO Bj Jt HQ hk1;generalize q+gP q=p at*;go_wp2_with (go_at_call 69;((with_reducible refine (bU _ _).mono ?_);rintro e3 w3 ⟨rfl,rfl⟩));have CB:=hd1.cell 0;have Hz:=hd1.cell 1;simp at CB Hz;have hat:∀W,ic W r v bs p→Calls Tryz.prog 118 #[.pointer (some ⟨r,0,none⟩)] W fun e w'=>e= .returned (.int .i64 p)∧w'=W:=fun W hW=>(Co r v bs p W hW).mono fun _ _ hh=>⟨hh.1,hh.2.symm⟩
    have HAT:=Lib.hid hat;have hn0:bs.length=n0:=by simpa using hb1.len
    have hcap:=hb1.cap;have hmx:=hb1.mx;have Jw:=qE.out;have hpq:=Mr.out;obtain ⟨q,hq⟩:∃q,p/8=q:=⟨_,rfl⟩
    have OU:IntKind.i64.wrap ((p:Int)/8)=(q:Int):=by rw[←hq];rw[IntWalk.i64_in _ (by omega)];omega
    have hq1:q≤n0:=by omega
    have hdata:Sl w1 w1.heap.size (if c0=q then A0 else A0.map (·.add q)) (n0-q) (c0-q) (bE (bs.drop q)):=by
     have:=hb1.cut hq1;unfold bE at this ⊢
     rwa [List.map_drop]
    have H7:=Lib.hid (show CR=dV acc (bs.drop q) by rw[Hy.out,hq]);have hdl:(bs.drop q).length=n0-q:=by rw[List.length_drop,hn0]
    have Jy:n0-q≤1000000000:=by omega
    have OV:=Lib.hid hq;clear hat hq Hy hn0 Jw hpq;refine wp_region_still_tail 11 (by kernel_rfl) (by kernel_rfl) ?_;simp only[List.take_succ_cons,List.take_zero,List.drop_succ_cons,List.drop_zero]
    still_step
    still_step
    still_step
    still_step
    still_step
    still_step
    still_step
    still_step
    still_call (HAT.out _ hr1)
    still_step
    still_step
    refine wpStill_nil ?_;change wpList _ _ _ _ _ w1.drew;generalize (if c0=q then A0 else Option.map (fun x=>x.add q) A0)=A1 at*;generalize bs.drop q=D at*;generalize n0-q=m at*;have hcl:=jU A1 m (c0-q) D w1.drew hdata.drew Jy;have HC:=Lib.hid hcl;have ql:=Lib.hid hdl;clear hcl hdata hdl hb1 hd1 hr1 CB Hz hcap hmx OU hq1 HAT OV Mr
    replace nN:=nN.drew
    replace bc1:=bc1.drew
    replace r9:=r9.drew
    replace lU:=(aW lU (show w.heap.size≤w0.heap.size by omega)).drew'
    have zP:w.heap.size+2≤w1.drew.heap.size:=Nat.le_trans hsz0 sV.drew.size;clear sV;generalize w1.drew=w2 at*;go_wp2_with fail;refine HC.out.mono ?_;rintro e2 w3 ⟨v3,rfl,hv3,hb3⟩
    replace nN:=nN.trans ((Kept.of_below hb3).mono (M':=fun k _=>k=r∨w.heap.size≤k) (fun j _ hj=> .inr (by omega)))
    replace bc1:=bc1.below hb3 bc1.lt
    replace r9:=r9.below hb3 r9.lt
    replace lU:=own_below lU hb3 (Nat.le_refl _)
    replace hv3:=aW hv3 (show w.heap.size≤w2.heap.size by omega)
    replace zP:w.heap.size+2≤w3.heap.size:=Nat.le_trans zP hb3.size
    clear HC hb3;by_cases h5:D.length≤acc.sum
    ·have Bl:CR= .inl 5:=by rw[H7.out];unfold dV;rw[if_pos h5]
     have OW:=Lib.hid Bl;clear Bl;obtain ⟨A2,c2,rfl,_⟩:=aK hv3;have h5':¬acc.sum<m:=by have:=ql.out;omega
     clear h5;go_wp2_with (go_at_call 69;((with_reducible refine (bF _ _).mono ?_);rintro e3 w3 ⟨rfl,rfl⟩));exact ⟨rfl,nN,.inl ⟨5,OW.out,rfl⟩⟩
    ·by_cases h9:32767<D.length
     ·have Bl:CR= .inl 9:=by rw[H7.out];unfold dV;rw[if_neg h5,if_pos h9]
      have CF:=Lib.hid Bl;clear Bl;obtain ⟨A2,c2,rfl,_⟩:=aK hv3;have h5':acc.sum<m:=by have:=ql.out;omega
      have Ms:decide ((m:Int)≤32767)=false:=by have:=ql.out;simp;omega
      clear h5 h9;go_wp2_with (first|(go_at_call 69;((with_reducible refine (bF _ _).mono ?_);rintro e3 w3 ⟨rfl,rfl⟩))|(go_at_call 69;((with_reducible refine (bU _ _).mono ?_);rintro e3 w3 ⟨rfl,rfl⟩)));exact ⟨rfl,nN,.inl ⟨9,CF.out,rfl⟩⟩
     ·have Bl:CR= .inr (splitBy acc D):=by rw[H7.out];unfold dV;rw[if_neg h5,if_neg h9]
      have I8:=Lib.hid Bl;clear Bl H7;have h5':acc.sum<m:=by have:=ql.out;omega
      have Ms:decide ((m:Int)≤32767)=true:=by have:=ql.out;simp;omega
      have R3:m≤32767:=by have:=ql.out;omega
      obtain ⟨g,cap,rfl,hgl,qB⟩:=hv3.form (by omega);have hcap2:m≤cap∧cap≤9223372036854775807:=by
       obtain ⟨A',c',e',hs',_⟩:=aK hv3;injection e' with _ _ e3
       subst e3;exact ⟨hs'.cap,hs'.mx⟩
      clear h5 h9;go_wp2_with (go_at_call 69;((with_reducible refine (bU _ _).mono ?_);rintro e3 w3 ⟨rfl,rfl⟩));clear Ms
      go_loopw [14,80] (fun vd i wr=>∃(k:Nat) (vo:Value),k≤acc.length∧i= .int .i64 k∧vd= .slice (some ⟨g,(acc.take k).sum,none⟩) (m-(acc.take k).sum) (cap-(acc.take k).sum)∧av wr (w.heap.size+1) 70 #[.bool s,.bool e,vo]∧av wr w.heap.size 70 #[.bool false,.bool false,.slice none 0 0]∧
       wr.ownsRow w.heap.size 22 1 vo k (cu g acc k)∧wr.ownsRow w.heap.size 5 1 (.slice (some ⟨g,0,none⟩) m cap) m (bE D)∧wr.ownsRow w.heap.size 3 1 (.slice A acc.length c) acc.length (dx acc)∧Kept (fun k _=>k=r∨w.heap.size≤k) w wr∧w.heap.size+2≤wr.heap.size) (fun _ i _=>acc.length-(intOf i).toNat)
      case atStart=>exact ⟨0,_,Nat.zero_le _,rfl,by simp,bc1,r9,World.ownsRow_nil _ _ _ _,hv3,lU,nN,zP⟩
      case round=>
       clear hv3 bc1 r9 lU nN zP;obtain ⟨k,vo,hk,rfl,rfl,bc,br,lV,hvd,hvl,xH,hws⟩:=hrel;have hsk:=dY acc k;by_cases hlt:k<acc.length
       ·obtain ⟨n,hn⟩:∃n,acc[k]? =some n:=⟨_,List.getElem?_eq_getElem hlt⟩
        have hn2:=Ey.out n (List.mem_of_getElem? hn);have hsn:=jr acc k n hn;have OX:=dY acc (k+1);obtain ⟨OY,u,rfl,_,hu,Ht⟩:=(uw hvl).get hlt;have hu':u= .int .i64 (n:Int):=by
         unfold dx at hu;rw[List.getElem?_map,hn] at hu;simpa using hu.symm
        subst hu';have hpv:=nJ g acc k n hn;generalize (List.take k acc).sum=S at*;have Be:=Lib.hid hsn;have OZ:=Lib.hid hpv;have R4:S+n≤acc.sum:=by omega
        clear hsn hpv hu hn;have hne:¬cap-S=n:=by omega
        have hle1:n≤m-S:=by omega
        have hle2:n≤cap-S:=by omega
        obtain ⟨Ao,co,rfl,hso,_⟩:=aK lV;have c2:=bc.cell 2;have f2:=bc.frozen 2;simp at c2;have R5:=(World.cell?_alloc_lt wr (.cells #[.slice (some ⟨g,S,none⟩) n n] 22) ⟨w.heap.size+1,2,none⟩ bc.lt).trans c2;go_upto_region 17 with (fail)
        go_cut [] from 84 to 92 (fun wx=>∃(A5:Option Addr) (c5:Nat),av wx (w.heap.size+1) 70 #[.bool s,.bool e,.slice A5 (k+1) c5]∧av wx w.heap.size 70 #[.bool false,.bool false,.slice none 0 0]∧wx.ownsRow w.heap.size 22 1 (.slice A5 (k+1) c5) (k+1) (cu g acc (k+1))∧
         wx.ownsRow w.heap.size 5 1 (.slice (some ⟨g,0,none⟩) m cap) m (bE D)∧wx.ownsRow w.heap.size 3 1 (.slice (some OY) acc.length c) acc.length (dx acc)∧Kept (fun k _=>k=r∨w.heap.size≤k) w wx∧w.heap.size+2≤wx.heap.size)
        case first=>
         go_region_law ((refine gW _ (by rfl) _ _ 34 (by rfl) w.heap.size 22 j0 (.slice none 0 0) 24 xC hj0 hm0 hm1 hm2 rfl (.slice Ao k co) k (cu g acc k) (by rfl) (World.ownsRow.drew' (lV.alloc (.cells #[.slice (some ⟨g,S,none⟩) n n] 22))) (wr.alloc (.cells #[.slice (some ⟨g,S,none⟩) n n] 22)).heap.size (some ⟨wr.heap.size,0,none⟩) 1 1 [.slice (some ⟨g,S,none⟩) n n] (by rfl) (uy wr (.slice (some ⟨g,S,none⟩) n n) 22) (by simp[Value.oneCell']) (by unfold maxLen;omega) (by omega) (by simp;omega) ?_;intro v5 w5 hown5 bZ _;obtain ⟨A5,c5,rfl,hs5,_⟩:=aK hown5;have xE:=(bc.alloc (.cells #[.slice (some ⟨g,S,none⟩) n n] 22)).drew.grown bZ (fun e=>au lV bc (by decide) e.symm);have q2:=xE.cell 2;have q3:=xE.frozen 2;simp at q2))
         all_goals
          go_wp2_with fail;go_meet;have qP:=World.ownsRow.drew' (lV.alloc (.cells #[.slice (some ⟨g,S,none⟩) n n] 22));have xI:=jZ (World.ownsRow.drew' (hvd.alloc (.cells #[.slice (some ⟨g,S,none⟩) n n] 22))) qP (by decide) bZ;have CG:=jZ (World.ownsRow.drew' (hvl.alloc (.cells #[.slice (some ⟨g,S,none⟩) n n] 22))) qP (by decide) bZ;have Jz:=(br.alloc (.cells #[.slice (some ⟨g,S,none⟩) n n] 22)).drew.grown bZ (fun e=>au lV br (by decide) e.symm);refine ⟨A5,c5,by simpa using xE.aF 2 (.slice A5 (k+1) c5),Jz.far (by simp) _,?_,aD (i:=2) xI xE (by decide) _,aD (i:=2) CG xE (by decide) _,
           ((xH.alloc _).drew.grown bZ (fun j hj o _=> .inr ((lV.lt j hj).1))).setCell (p:=⟨w.heap.size+1,2,none⟩) (fun _ _=> .inr (by simp)) _,?_⟩
          ·rw[OZ.out];exact aD (i:=2) hown5 xE (by decide) _
          ·have:=bZ.size;simp at this ⊢;omega
        case rest=>
         obtain ⟨A5,c5,JA,DY,lW,xI,CG,CJ,JB⟩:=hcut;go_wp2
         go_roundw
         case rel=>exact ⟨k+1,_,by omega,by go_num,by rw[Be.out,Nat.sub_sub,Nat.sub_sub],JA,DY,lW,xI,CG,CJ,JB⟩
         case measure=>simp[intOf];omega
       ·obtain rfl:k=acc.length:=by omega
        have hS:(acc.take acc.length).sum=acc.sum:=by rw[List.take_of_length_le (Nat.le_refl _)]
        rw[hS];obtain ⟨Ao,co,rfl,hso,_⟩:=aK lV;have c2:=bc.cell 2;have f2:=bc.frozen 2;simp at c2;go_wp2_with (at_builtin;refine wpList_append_own _ rfl _ _ 34 rfl w.heap.size 22 j0 (.slice none 0 0) 1 24 xC hj0 hm0 hm1 hm2 rfl (by decide) _ _ _ rfl (lV.alloc _) ⟨wr.heap.size,0,none⟩ 1 1 [.slice (some ⟨g,acc.sum,none⟩) (m-acc.sum) (cap-acc.sum)] rfl rfl ?c1 ?c2 ?c3 ?c4 ?c5 ?_)
        case c1=>exact cell_one_new _ _ _
        case c2=>simp[Value.oneCell']
        case c3=>unfold maxLen;omega
        case c4=>omega
        case c5=>simp;omega
        intro v' w4 hown' hgrow _;obtain ⟨A5,c5,rfl,hs5,_⟩:=aK hown';have EA:=jZ (hvd.alloc (.cells #[.slice (some ⟨g,acc.sum,none⟩) (m-acc.sum) (cap-acc.sum)] 22)) (lV.alloc _) (by decide) hgrow;have CK:=(bc.alloc (.cells #[.slice (some ⟨g,acc.sum,none⟩) (m-acc.sum) (cap-acc.sum)] 22)).grown hgrow (fun e=>au lV bc (by decide) e.symm);have Bn:=(br.alloc (.cells #[.slice (some ⟨g,acc.sum,none⟩) (m-acc.sum) (cap-acc.sum)] 22)).grown hgrow (fun e=>au lV br (by decide) e.symm);have EB:=(xH.alloc (.cells #[.slice (some ⟨g,acc.sum,none⟩) (m-acc.sum) (cap-acc.sum)] 22)).grown hgrow (fun j hj o _=> .inr ((lV.lt j hj).1));have lW:=aD (i:=2) hown' CK (by decide) (.slice A5 (acc.length+1) c5);have xI:=aD (i:=2) EA CK (by decide) (.slice A5 (acc.length+1) c5);have DY:=Bn.far (p:=⟨w.heap.size+1,2,none⟩) (by simp) (.slice A5 (acc.length+1) c5);have JA:=CK.aF 2 (.slice A5 (acc.length+1) c5);have CJ:=EB.setCell (p:=⟨w.heap.size+1,2,none⟩) (fun _ _=> .inr (by simp)) (.slice A5 (acc.length+1) c5);have k2:=CK.cell 2;have k3:=CK.frozen 2;have k0:=CK.cell 0;have k1:=CK.cell 1;have g0:=Bn.cell 0;have g1:=Bn.cell 1;have g2:=Bn.cell 2;have g3:=Bn.frozen 0;have g4:=Bn.frozen 1;have g5:=Bn.frozen 2;simp at JA k2 k0 k1 g0 g1 g2;clear lV hvd hvl bc br xH EA hown' hgrow hs5 hso c2 f2 EB Bn;go_wp2_with fail;have CL:=((DY.aF 0 (.bool s)).aF 1 (.bool e)).aF 2 (.slice A5 (acc.length+1) c5);simp at CL
        have EC:∀{ty:TypeId} {vv:Value} {nn:Nat} {xs:List Value},(w4.setCell ⟨w.heap.size+1,2,none⟩ (.slice A5 (acc.length+1) c5)).ownsRow w.heap.size ty 1 vv nn xs→ty≠70→
         ((((w4.setCell ⟨w.heap.size+1,2,none⟩ (.slice A5 (acc.length+1) c5)).setCell ⟨w.heap.size,0,none⟩ (.bool s)).setCell ⟨w.heap.size,1,none⟩ (.bool e)).setCell ⟨w.heap.size,2,none⟩ (.slice A5 (acc.length+1) c5)).ownsRow w.heap.size ty 1 vv nn xs:=fun hh ht=>
         aD (i:=2) (aD (i:=1) (aD (i:=0) hh DY ht _) (DY.aF 0 (.bool s)) ht _) ((DY.aF 0 (.bool s)).aF 1 (.bool e)) ht _
        have JC:=((CJ.setCell (p:=⟨w.heap.size,0,none⟩) (fun _ _=> .inr (Nat.le_refl _)) (.bool s)).setCell (p:=⟨w.heap.size,1,none⟩) (fun _ _=> .inr (Nat.le_refl _)) (.bool e)).setCell (p:=⟨w.heap.size,2,none⟩) (fun _ _=> .inr (Nat.le_refl _)) (.slice A5 (acc.length+1) c5);have q0:=CL.cell 0;have q1:=CL.cell 1;have q2:=CL.cell 2;simp at q0 q1 q2;have zQ:=eP acc D;refine ⟨rfl,.agg #[.bool s,.bool e,.slice A5 (acc.length+1) c5],by simp[results,Tryz.results70,go_sem,q0,q1,q2],JC,.inr ⟨splitBy acc D,A5,c5,I8.out,by rw[zQ],?_⟩⟩;rw[zQ];refine ⟨cu g acc acc.length++ [.slice (some ⟨g,acc.sum,none⟩) (m-acc.sum) (cap-acc.sum)],g,cap,D,?_,?_,?_⟩
        ·rw[zQ];exact EC lW (by decide)
        ·rw[ql.out];exact EC xI (by decide)
        ·intro i p hi;have hil:i<acc.length+1:=by
          have:=(List.getElem?_eq_some_iff.1 hi).1;rw[zQ] at this;exact this
         have hpl:(cu g acc acc.length).length=acc.length:=by simp[cu]
         by_cases hik:i<acc.length
         ·obtain ⟨n,hn⟩:∃n,acc[i]? =some n:=⟨_,List.getElem?_eq_getElem hik⟩
          rw[kF acc D i n hn] at hi;injection hi with hi
          have hsn:=jr acc i n hn;have hsl:=dY acc (i+1);have hlen:p.length=n:=by rw[←hi,List.length_take,List.length_drop,ql.out];omega
          refine ⟨(acc.take i).sum,n,?_,by omega,by omega,by rw[hlen];exact hi.symm⟩;rw[List.getElem?_append_left (by omega),hlen];simp[cu,hik,(List.getElem?_eq_some_iff.1 hn).2]
         ·obtain rfl:i=acc.length:=by omega
          rw[jk] at hi;injection hi with hi
          have hlen:p.length=m-acc.sum:=by rw[←hi,List.length_drop,ql.out]
          refine ⟨acc.sum,cap-acc.sum,?_,by omega,by omega,?_⟩
          ·rw[List.getElem?_append_right (by omega),hpl,hlen];simp
          ·rw[hlen,←hi,List.take_of_length_le (by rw[List.length_drop,ql.out];omega)]
   ·have Ez:CR= .inl 9:=by rw[←Ex.out,Bj.out];simp only[dJ,if_neg hz]
    have nL:=pI.out;simp only[if_neg hz] at nL;have Hy:=Lib.hid Ez;have zO:=Lib.hid nL;clear Ez nL hz pI;go_wp2_with fail;refine zO.out.mono ?_;rintro e1 w1 ⟨rfl,hr1,hk1⟩;go_wp2_with (go_at_call 69;((with_reducible refine (bF _ _).mono ?_);rintro e3 w3 ⟨rfl,rfl⟩));exact ⟨rfl,xH.trans (hk1.mono fun _ _ e=> .inl e),.inl ⟨9,Hy.out,rfl⟩⟩
end Go.Proofs.YtiecgfahidpldaaGreat
namespace Go.Proofs.YtiecgfahidpldaaGreat
open Go.RowKit
theorem sW (bp be:Nat) (w:World):
 CallsD Tryz.prog 65 #[.pointer (some ⟨bp,0,none⟩),.pointer (some ⟨be,0,none⟩)] .returning w fun e u' w'=>e= .returned (.tuple #[])∧u'= .returning∧w=w':=by
 have hnn:=run_eql_nil_nil (P:=Tryz.prog) w (t:=20) (by kernel_rfl);refine callsD_of_wpS Tryz.func65 rfl fun c₀ cs hu=> ?_
 apply wpS_seq;apply wpS_region;generalize hQ:Exit.thenS _ _=Q;simp[wpOpsS,go_sem,recoverD,hu,Tryz.ntmps65];subst hQ;simp only[Exit.thenS];refine wpS_of_wp ?_;change Code.wp _ _ (iK Tryz.prog Tryz.f65 c₀ cs (c₀::cs) _) {tmps:= #[.pointer (some ⟨bp,0,none⟩),.pointer (some ⟨be,0,none⟩),.nilIface,undef,undef,.nilIface,undef,undef,undef,undef,undef,undef,undef,undef,undef,undef,undef,undef],defers:= []} w;go_wp2;cases c₀
 simp_all [iK,bodyPostS,results,Tryz.results65]
set_option maxHeartbeats 800000 in
set_option maxRecDepth 100000 in
theorem pJ (bp be:Nat) (er:Int) (v0 v1 v2 v3 v4 v5 v6 v7 v8:Value) (w:World) (hp:av w bp 72 #[v0,v1,v2,v3,v4,v5,v6,v7]) (he:av w be 35 #[v8]) (hne:be≠bp):
 CallsD Tryz.prog 65 #[.pointer (some ⟨bp,0,none⟩),.pointer (some ⟨be,0,none⟩)] (.panicking [{v:= .iface 35 (.int .i64 er),recovered:=false}]) w fun e u' w'=>e= .returned (.tuple #[])∧u'= .panicking [{v:= .iface 35 (.int .i64 er),recovered:=true}]∧
  av w' bp 72 #[.int .i64 0,.bool false,.bool false,.bool false,.int .i64 0,.bool false,.bool false,.slice none 0 0]∧av w' be 35 #[.int .i64 er]∧Kept (fun k _=>k=bp∨k=be) w w':=by
 have hnn:=run_eql_held_nil (P:=Tryz.prog) w 20 35 (.int .i64 er) (by kernel_rfl);have O0:=jw er w;refine callsD_of_wpS Tryz.func65 rfl fun c₀ cs hu=> ?_
 apply wpS_seq;apply wpS_region;generalize hQ:Exit.thenS _ _=Q;simp[wpOpsS,go_sem,recoverD,hu,Tryz.ntmps65];subst hQ;simp only[Exit.thenS];refine wpS_of_wp ?_;change Code.wp _ _ (iK Tryz.prog Tryz.f65 c₀ cs _ _) {tmps:= #[.pointer (some ⟨bp,0,none⟩),.pointer (some ⟨be,0,none⟩),.iface 35 (.int .i64 er),undef,undef,.iface 35 (.int .i64 er),undef,undef,undef,undef,undef,undef,undef,undef,undef,undef,undef,undef],defers:= []} w;obtain ⟨c0,c1,c2,c3,c4,c5,c6,c7⟩:=hp.eight;have f0:=hp.frozen 0;have f1:=hp.frozen 1;have f2:=hp.frozen 2;have f3:=hp.frozen 3;have f4:=hp.frozen 4;have f5:=hp.frozen 5;have f6:=hp.frozen 6;have f7:=hp.frozen 7;have c8:=he.cell 0;have f8:=he.frozen 0;simp at c8;go_wp2;refine ⟨rfl,_,rfl,.tuple #[],by simp[results,Tryz.results65],rfl,rfl,?_,?_,?_⟩
 ·exact (hp.zL (.int .i64 0) (.bool false) (.bool false) (.bool false) (.int .i64 0) (.bool false) (.bool false) (.slice none 0 0)).far (p:=⟨be,0,none⟩) (fun e=>hne e.symm) (.int .i64 er)
 ·have:=((((((((he.far (p:=⟨bp,0,none⟩) hne (.int .i64 0)).far (p:=⟨bp,1,none⟩) hne (.bool false)).far (p:=⟨bp,2,none⟩) hne (.bool false)).far (p:=⟨bp,3,none⟩) hne (.bool false)).far (p:=⟨bp,4,none⟩) hne (.int .i64 0)).far (p:=⟨bp,5,none⟩) hne (.bool false)).far (p:=⟨bp,6,none⟩) hne (.bool false)).far (p:=⟨bp,7,none⟩) hne (.slice none 0 0)).aF 0 (.int .i64 er);simpa using this
 ·exact (((((((((Kept.refl _ w).setCell (p:=⟨bp,0,none⟩) (fun _ _=> .inl rfl) _).setCell (p:=⟨bp,1,none⟩) (fun _ _=> .inl rfl) _).setCell (p:=⟨bp,2,none⟩) (fun _ _=> .inl rfl) _).setCell (p:=⟨bp,3,none⟩) (fun _ _=> .inl rfl) _).setCell (p:=⟨bp,4,none⟩) (fun _ _=> .inl rfl) _).setCell (p:=⟨bp,5,none⟩) (fun _ _=> .inl rfl) _).setCell (p:=⟨bp,6,none⟩) (fun _ _=> .inl rfl) _).setCell (p:=⟨bp,7,none⟩) (fun _ _=> .inl rfl) _).setCell (p:=⟨be,0,none⟩) (fun _ _=> .inr rfl) _
structure fu where
 sn:Nat
 po:Bool
 sg:Bool
 la:Bool
 off:Nat
 s:Bool
 e:Bool
 ps:List (List UInt8)
def nO (bs:List UInt8):Sum Nat fu:=
 if bs.length<2 then .inl 5
 else if val (aA bs 0 1)≠1 then .inl 9
 else if val (aA bs 1 1)=1 then
  if bs.length<4 then .inl 5
  else match cB bs (decide (val (aA bs 5 1)=1)) 32 with
   | .inl er=> .inl er
   | .inr ps=>if fI (val (aA bs 6 10):Nat) true (decide (val (aA bs 16 1)=1)) (val (aA bs 17 15):Nat) ps=true then
    .inr ⟨val (aA bs 6 10),decide (val (aA bs 2 1)=1),true,decide (val (aA bs 16 1)=1),val (aA bs 17 15),decide (val (aA bs 3 1)=0),decide (val (aA bs 4 1)=0),ps⟩ else .inl 9
 else match cB bs (decide (val (aA bs 5 1)=1)) 16 with
  | .inl er=> .inl er
  | .inr ps=>if fI (val (aA bs 6 10):Nat) false false (0:Nat) ps=true then
   .inr ⟨val (aA bs 6 10),decide (val (aA bs 2 1)=1),false,false,0,decide (val (aA bs 3 1)=0),decide (val (aA bs 4 1)=0),ps⟩ else .inl 9
def sZ (w:World) (R:Sum Nat fu) (e:Ending) (w':World):Prop:=
 Below w.heap.size w w'∧
 (
  (∃er:Nat,R= .inl er∧e= .returned (.tuple #[.agg (bC 0 false false false 0 false false none 0 0),.int .i64 er]))∨
  (∃(p:fu) (A:Option Addr) (c:Nat),R= .inr p∧e= .returned (.tuple #[.agg (bC p.sn p.po p.sg p.la p.off p.s p.e A p.ps.length c),.int .i64 0])∧aX w' w.heap.size (.slice A p.ps.length c) p.ps))
theorem eT (w W:World) (R:Sum Nat fu) (er:Nat) (T:Array Value) (v0 v1 v2 v3 v4 v5 v6 v7 v8:Value) (h2:T[2]? =some (.pointer (some ⟨w.heap.size,0,none⟩))) (h3:T[3]? =some (.pointer (some ⟨w.heap.size+1,0,none⟩)))
 (hp:av W w.heap.size 72 #[v0,v1,v2,v3,v4,v5,v6,v7]) (he:av W (w.heap.size+1) 35 #[v8]) (hB:Below w.heap.size w W) (hR:R= .inl er):
 bodyPostD Tryz.prog Tryz.f24 (sZ w R) (.panic [{v:= .iface 35 (.int .i64 er),recovered:=false}]) {tmps:=T,defers:= [{target:= .fn (.func 65) #[.pointer (some ⟨w.heap.size,0,none⟩),.pointer (some ⟨w.heap.size+1,0,none⟩)],args:= #[]}]} W:=by
 refine leaves_cons (f:=65) (args:= #[.pointer (some ⟨w.heap.size,0,none⟩),.pointer (some ⟨w.heap.size+1,0,none⟩)]) (by simp) (by simp[go_sem]) ?_;refine (pJ _ _ (er:Int) _ _ _ _ _ _ _ _ _ W hp he (by omega)).mono ?_;rintro e u' w'' ⟨rfl,rfl,hp',he',hk⟩;obtain ⟨c0,c1,c2,c3,c4,c5,c6,c7⟩:=hp'.eight;have c8:=he'.cell 0;simp at c8;refine ⟨.tuple #[.agg (bC 0 false false false 0 false false none 0 0),.int .i64 er],?_,hB.trans (hk.below (fun k _ e=>by omega) hB.size),.inl ⟨er,hR,rfl⟩⟩;simp[results,Tryz.results24,go_sem,h2,h3,c0,c1,c2,c3,c4,c5,c6,c7,c8,bC]
theorem vD (w W:World) (R:Sum Nat fu) (T:Array Value) (p:fu) (A:Option Addr) (c Z:Nat) (h2:T[2]? =some (.pointer (some ⟨w.heap.size,0,none⟩))) (h3:T[3]? =some (.pointer (some ⟨w.heap.size+1,0,none⟩)))
 (hp:av W w.heap.size 72 (bC p.sn p.po p.sg p.la p.off p.s p.e A p.ps.length c)) (he:av W (w.heap.size+1) 35 #[.int .i64 0]) (hB:Below w.heap.size w W) (hR:R= .inr p) (hpo:aX W Z (.slice A p.ps.length c) p.ps) (hZ:w.heap.size≤Z):
 bodyPostD Tryz.prog Tryz.f24 (sZ w R) .ret {tmps:=T,defers:= [{target:= .fn (.func 65) #[.pointer (some ⟨w.heap.size,0,none⟩),.pointer (some ⟨w.heap.size+1,0,none⟩)],args:= #[]}]} W:=by
 refine leaves_cons (f:=65) (args:= #[.pointer (some ⟨w.heap.size,0,none⟩),.pointer (some ⟨w.heap.size+1,0,none⟩)]) (by simp) (by simp[go_sem]) ?_;refine (sW _ _ _).mono ?_;rintro e9 u9 w9 ⟨rfl,rfl,rfl⟩;unfold bC at hp;obtain ⟨c0,c1,c2,c3,c4,c5,c6,c7⟩:=hp.eight;have c8:=he.cell 0;simp at c8;refine ⟨.tuple #[.agg (bC p.sn p.po p.sg p.la p.off p.s p.e A p.ps.length c),.int .i64 0],?_,hB,.inr ⟨p,A,c,hR,rfl,hpo.base hZ⟩⟩;simp[results,Tryz.results24,go_sem,h2,h3,c0,c1,c2,c3,c4,c5,c6,c7,c8,bC]
end Go.Proofs.YtiecgfahidpldaaGreat
namespace Go.Proofs.YtiecgfahidpldaaGreat
open Go.RowKit Go.Shelf
attribute [local go_sem] Oper.semAt_some
theorem lX {bs:List UInt8} {mo:Bool} {q:Nat} {ps:List (List UInt8)} (h:cB bs mo q= .inr ps):ps.length≤64∧∀p∈ps,p.length≤32767:=by
 unfold cB at h;cases hl:iT bs mo q with
 |inl er=>rw[hl] at h;cases h
 |inr lp=>
  obtain ⟨ls,p⟩:=lp;rw[hl] at h;obtain ⟨CO,vE⟩:=oV hl;simp only at h;generalize bs.drop (p/8)=D at h;unfold dV at h;split at h
  ·cases h
  ·split at h
   ·cases h
   ·injection h with h
    subst h;refine ⟨by rw[eP];omega,fun x hx=> ?_⟩;obtain ⟨i,hi⟩:=List.mem_iff_getElem?.1 hx;by_cases hil:i<ls.length
    ·rw[kF ls D i _ (List.getElem?_eq_getElem hil)] at hi;injection hi with hi
     rw[←hi,List.length_take,List.length_drop];omega
    ·have JD:i=ls.length:=by
      have:=(List.getElem?_eq_some_iff.1 hi).1;rw[eP] at this;omega
     rw[JD,jk] at hi;injection hi with hi
     rw[←hi,List.length_drop];omega
theorem av.zR {w:World} {g' t:Nat} {cs:Array Value} (h:av w g' t cs) {g:Nat} (hne:g'≠g) (u0 u1 u2 u3 u4 u5 u6 u7:Value):av ((((((((w.setCell ⟨g,0,none⟩ u0).setCell ⟨g,1,none⟩ u1).setCell ⟨g,2,none⟩ u2).setCell ⟨g,3,none⟩ u3).setCell ⟨g,4,none⟩ u4).setCell ⟨g,5,none⟩ u5).setCell ⟨g,6,none⟩ u6).setCell ⟨g,7,none⟩ u7) g' t cs:=
 (((((((h.far (p:=⟨g,0,none⟩) hne u0).far (p:=⟨g,1,none⟩) hne u1).far (p:=⟨g,2,none⟩) hne u2).far (p:=⟨g,3,none⟩) hne u3).far (p:=⟨g,4,none⟩) hne u4).far (p:=⟨g,5,none⟩) hne u5).far (p:=⟨g,6,none⟩) hne u6).far (p:=⟨g,7,none⟩) hne u7
theorem qQ {w:World} {base:Nat} {e t:TypeId} {v:Value} {n g:Nat} {xs:List Value} {cs:Array Value} (h:w.ownsRow base e 1 v n xs) (b:av w g t cs) (hne:e≠t) (u0 u1 u2 u3 u4 u5 u6 u7:Value):(((((((((w.setCell ⟨g,0,none⟩ u0).setCell ⟨g,1,none⟩ u1).setCell ⟨g,2,none⟩ u2).setCell ⟨g,3,none⟩ u3).setCell ⟨g,4,none⟩ u4).setCell ⟨g,5,none⟩ u5).setCell ⟨g,6,none⟩ u6).setCell ⟨g,7,none⟩ u7)).ownsRow base e 1 v n xs:=by
 have b0:=b.aF 0 u0;have b1:=b0.aF 1 u1;have b2:=b1.aF 2 u2;have b3:=b2.aF 3 u3;have b4:=b3.aF 4 u4;have b5:=b4.aF 5 u5;have b6:=b5.aF 6 u6;exact aD (i:=7) (aD (i:=6) (aD (i:=5) (aD (i:=4) (aD (i:=3) (aD (i:=2) (aD (i:=1) (aD (i:=0) h b hne _) b0 hne _) b1 hne _) b2 hne _) b3 hne _) b4 hne _) b5 hne _) b6 hne _
set_option maxRecDepth 100000 in
set_option maxHeartbeats 8000000 in
theorem qR (A:Option Addr) (n c:Nat) (bs:List UInt8) (w:World) (h:Sl w w.heap.size A n c (bE bs)) (hsm:n≤1000000):
 Calls Tryz.prog 24 #[.slice A n c] w (sZ w (nO bs)):=by
 have hlen:bs.length=n:=by simpa using h.len
 obtain ⟨R,hR⟩:∃R,nO bs=R:=⟨_,rfl⟩
 rw[hR];have HR:=Lib.hid hR;clear hR;have hB0:=((Below.refl w.heap.size w).alloc (Nat.le_refl _) (.cells (bC 0 false false false 0 false false none 0 0) 72)).alloc (by simp) (.cells #[.int .i64 0] 35);have hs0:=(h.below hB0).more hB0.size;have hnr:=nG A n c bs _ hs0 (by omega);have H8:=(av.new w 72 (bC 0 false false false 0 false false none 0 0)).alloc (.cells #[.int .i64 0] 35);have zS:=av.new (w.alloc (.cells (bC 0 false false false 0 false false none 0 0) 72)) 35 #[.int .i64 0];rw[World.size_alloc] at zS;unfold bC at hnr hB0 H8 zS;have Mt:=Lib.hid hnr;have HB0:=Lib.hid hB0;have qE:=Lib.hid hsm;have tq:=Lib.hid hlen;clear hnr hB0 hs0 hsm hlen
 go_enter_defers Tryz.func24,Tryz.ntmps24
 go_wp2_with fail;refine Mt.out.mono ?_;rintro e1 w1 ⟨r,v,rfl,hr,hrd,hb1⟩;have Mv:=H8.below hb1 H8.lt;have lJ:=zS.below hb1 zS.lt;have hB1:Below w.heap.size w w1:=HB0.out.trans (hb1.mono HB0.out.size);have O1:w.heap.size+1<r:=by simp at hr;omega
 have hrl:=hrd.1.lt;clear H8 zS hb1 hr Mt HB0;have hW2:∃w2,(w1.alloc (.cells #[.pointer (some ⟨r,0,none⟩),.slice A n c] 128)).alloc (.cells #[.int .i64 1,.int .i64 1,.int .i64 1,.int .i64 1,.int .i64 1,.int .i64 1,.int .i64 10] 3)=w2:=⟨_,rfl⟩
 obtain ⟨w2,hw2⟩:=hW2;have DZ:=(Mv.alloc (.cells #[.pointer (some ⟨r,0,none⟩),.slice A n c] 128)).alloc (.cells #[.int .i64 1,.int .i64 1,.int .i64 1,.int .i64 1,.int .i64 1,.int .i64 1,.int .i64 10] 3);have qT:=(lJ.alloc (.cells #[.pointer (some ⟨r,0,none⟩),.slice A n c] 128)).alloc (.cells #[.int .i64 1,.int .i64 1,.int .i64 1,.int .i64 1,.int .i64 1,.int .i64 1,.int .i64 10] 3);rw[hw2] at DZ qT;have hB2:Below w.heap.size w w2:=by rw[←hw2];exact (hB1.alloc hB1.size _).alloc (by have:=hB1.size;simp;omega) _
 have qO:ic w2 r v bs 0:=by rw[←hw2];exact ⟨(hrd.1.alloc _).alloc _,(hrd.2.alloc _).alloc _⟩
 have hd2:av w2 w1.heap.size 128 #[.pointer (some ⟨r,0,none⟩),.slice A n c]:=by rw[←hw2];exact (av.new w1 _ _).alloc _
 have hb2:av w2 (w1.heap.size+1) 3 (dx [1,1,1,1,1,1,10]).toArray:=by
  rw[←hw2];have:=av.new (w1.alloc (.cells #[.pointer (some ⟨r,0,none⟩),.slice A n c] 128)) 3 #[.int .i64 1,.int .i64 1,.int .i64 1,.int .i64 1,.int .i64 1,.int .i64 1,.int .i64 10];rw[World.size_alloc] at this;exact this
 go_wp2_with fail;clear hrd Mv lJ hB1 hw2;have hdr:w1.heap.size≠r:=by omega
 generalize w1.heap.size=d at*;have hbl:bs.length≤1000000:=by have:=tq.out;have:=qE.out;omega
 by_cases h2:bs.length<2
 ·have vB:R= .inl 5:=by rw[←HR.out];unfold nO;rw[if_pos h2]
  have qm:=Lib.hid vB;clear vB;have hga:=jv r (d+1) v bs 0 [1,1,1,1,1,1,10] w2 qO (by omega) (by simp) (by simp) hb2 (by omega) (by simp;omega);simp only[List.length_cons,List.length_nil,Nat.zero_add,Nat.reduceAdd] at hga;refine hga.mono ?_;rintro e3 w3 ⟨rfl,nI,hk3⟩;have hB3:Below w.heap.size w w3:=hB2.trans (hk3.below (B:=w.heap.size) (fun k _ e=>by have:=hB2.size;omega) hB2.size);have si:=DZ.kept hk3 (by have:=DZ.lt;omega);have vF:=qT.kept hk3 (by have:=qT.lt;omega);clear hga h2 hbl;go_wp2_with (go_at_call 67;((with_reducible refine (om _ _ _ _ rfl _).mono ?_);rintro e4 w4 ⟨rfl,rfl⟩));exact eT w _ R 5 _ _ _ _ _ _ _ _ _ _ rfl rfl si vF hB3 qm.out
 ·have hga:=ol r (d+1) v bs 0 [1,1,1,1,1,1,10] w2 qO (by omega) (by simp) (by simp) hb2 (by simp;omega);simp only[List.length_cons,List.length_nil,Nat.zero_add,Nat.reduceAdd] at hga;refine hga.mono ?_;rintro e3 w3 ⟨vo,rfl,lV,nI,hk3⟩;have hB3:Below w.heap.size w w3:=hB2.trans (hk3.below (B:=w.heap.size) (fun k _ e=>by have:=hB2.size;omega) hB2.size);have si:=DZ.kept hk3 (by have:=DZ.lt;omega);have vF:=qT.kept hk3 (by have:=qT.lt;omega);have hd3:=hd2.kept hk3 (by have:=hd2.lt;omega);have kU:=HR.out;unfold nO at kU;rw[if_neg h2] at kU;have hgv:getAll bs 0 [1,1,1,1,1,1,10]= [val (aA bs 0 1),val (aA bs 1 1),val (aA bs 2 1),val (aA bs 3 1),val (aA bs 4 1),val (aA bs 5 1),val (aA bs 6 10)]:=rfl;rw[hgv] at lV;have hx6:val (aA bs 6 10)<1024:=by have:=oU (aA bs 6 10);rw[dU] at this;exact this
  have O3:=hd2.lt;have vG:2≤bs.length:=by omega
  clear hgv hga hb2 qO hB2 DZ qT hd2 hk3 h2;simp only[List.length_cons,List.length_nil,Nat.zero_add,Nat.reduceAdd] at lV;rw[show (0:Nat)+ [1,1,1,1,1,1,10].sum=16 from rfl] at nI;generalize val (aA bs 0 1)=x0 at*;generalize val (aA bs 1 1)=x1 at*;generalize val (aA bs 2 1)=x2 at*;generalize val (aA bs 3 1)=x3 at*;generalize val (aA bs 4 1)=x4 at*;generalize val (aA bs 5 1)=x5 at*;generalize val (aA bs 6 10)=x6 at*;obtain ⟨gl,JE,rfl,hgl,qB⟩:=lV.form (by omega);have l0:=lV.cellAt 0 (by omega);have l1:=lV.cellAt 1 (by omega);have l2:=lV.cellAt 2 (by omega);have l6:=lV.cellAt 6 (by omega);simp[o7] at l0 l1 l2 l6;by_cases h0:x0=1
  ·subst h0;simp only[ne_eq,not_true,if_false] at kU;have HR1:=Lib.hid kU;clear kU;have hwx:IntKind.i64.wrap (x6:Int)=x6:=IntWalk.i64_in _ (by omega);have Mx:((x1:Int)==1)=decide (x1=1):=by rw[Bool.eq_iff_iff];simp;omega
   have My:((x2:Int)==1)=decide (x2=1):=by rw[Bool.eq_iff_iff];simp;omega
   obtain ⟨sg,hsg⟩:∃sg,decide (x1=1)=sg:=⟨_,rfl⟩
   obtain ⟨po,hpo⟩:∃po,decide (x2=1)=po:=⟨_,rfl⟩
   rw[hsg] at Mx;rw[hpo] at My HR1;have O4:w3.drew.cell? ⟨gl,1,none⟩=some (.int .u64 x1):=l1;have O5:w3.drew.cell? ⟨gl,2,none⟩=some (.int .u64 x2):=l2;have O6:w3.drew.cell? ⟨gl,6,none⟩=some (.int .u64 x6):=l6;have MC:=Lib.hid hsg;clear hsg hpo;obtain ⟨p0,p1,p2,p3,p4,p5,p6,p7⟩:=si.eight;have f0:=si.frozen 0;have f1:=si.frozen 1;have f2:=si.frozen 2;have f3:=si.frozen 3;have f4:=si.frozen 4;have f5:=si.frozen 5;have f6:=si.frozen 6;have f7:=si.frozen 7;go_wp2_with (first|(go_at_call 67;((with_reducible refine (lT _ _ _ _).mono ?_);rintro e4 w4 ⟨rfl,rfl⟩))|(go_at_call 69;((with_reducible refine (bU _ _).mono ?_);rintro e4 w4 ⟨rfl,rfl⟩)));refine wp_region_noPanic ?_
   go_region
   refine NoPanic.normal ?_;have Ia:=(si.zL (.int .i64 x6) (.bool po) (.bool sg) (.bool false) (.int .i64 0) (.bool false) (.bool false) (.slice none 0 0)).drew;have CP:=(vF.zR (g:=w.heap.size) (by omega) (.int .i64 x6) (.bool po) (.bool sg) (.bool false) (.int .i64 0) (.bool false) (.bool false) (.slice none 0 0)).drew;have hd4:=(hd3.zR (g:=w.heap.size) (by omega) (.int .i64 x6) (.bool po) (.bool sg) (.bool false) (.int .i64 0) (.bool false) (.bool false) (.slice none 0 0)).drew;have qP:=World.ownsRow.drew' (qQ lV si (by decide) (.int .i64 x6) (.bool po) (.bool sg) (.bool false) (.int .i64 0) (.bool false) (.bool false) (.slice none 0 0));have hB4:=(iY hB3 (Nat.le_refl _) (.int .i64 x6) (.bool po) (.bool sg) (.bool false) (.int .i64 0) (.bool false) (.bool false) (.slice none 0 0)).drew;have Bo:=(nI.1.zR (g:=w.heap.size) (by omega) (.int .i64 x6) (.bool po) (.bool sg) (.bool false) (.int .i64 0) (.bool false) (.bool false) (.slice none 0 0)).drew;have Bp:=World.ownsRow.drew' (qQ nI.2 si (by decide) (.int .i64 x6) (.bool po) (.bool sg) (.bool false) (.int .i64 0) (.bool false) (.bool false) (.slice none 0 0));clear p0 p1 p2 p3 p4 p5 p6 p7 f0 f1 f2 f3 f4 f5 f6 f7 si vF hd3 lV hB3 nI l0 l1 l2 l6 O4 O5 O6 Mx My hwx
   generalize ((((((((w3.setCell ⟨w.heap.size,0,none⟩ (.int .i64 x6)).setCell ⟨w.heap.size,1,none⟩ (.bool po)).setCell ⟨w.heap.size,2,none⟩ (.bool sg)).setCell ⟨w.heap.size,3,none⟩ (.bool false)).setCell ⟨w.heap.size,4,none⟩ (.int .i64 0)).setCell ⟨w.heap.size,5,none⟩ (.bool false)).setCell ⟨w.heap.size,6,none⟩ (.bool false)).setCell ⟨w.heap.size,7,none⟩ (.slice none 0 0)).drew=w4 at*;have qL:ic w4 r v bs 16:=⟨Bo,Bp⟩;clear Bo Bp
   replace qP:=aW qP (show w.heap.size+2≤_ by omega)
   obtain ⟨p0,p1,p2,p3,p4,p5,p6,p7⟩:=Ia.eight;go_upto_if 41 with (fail)
   go_cut [6] from 42 to 60 (fun s6 wx=>∃(la:Bool) (off q:Nat),av wx w.heap.size 72 #[.int .i64 x6,.bool po,.bool sg,.bool la,.int .i64 off,.bool false,.bool false,.slice none 0 0]∧av wx (w.heap.size+1) 35 #[.int .i64 0]∧av wx d 128 #[.pointer (some ⟨r,0,none⟩),.slice A n c]∧
    wx.ownsRow (w.heap.size+2) 133 1 (.slice (some ⟨gl,0,none⟩) 7 JE) 7 (o7 [1,x1,x2,x3,x4,x5,x6])∧ic wx r v bs q∧Below w.heap.size w wx∧q≤8*bs.length∧off≤32767∧
    R=(match cB bs (decide (x5=1)) q with| .inl er=> .inl er| .inr ps=>if fI (x6:Nat) sg la (off:Nat) ps=true then .inr ⟨x6,po,sg,la,off,decide (x3=0),decide (x4=0),ps⟩ else .inl 9))
   case first=>
    have CB:=hd4.cell 0;simp at CB;by_cases hx1:x1=1
    ·have hsg:=MC.out;rw[decide_eq_true hx1] at hsg;have hR2:=HR1.out;rw[if_pos hx1] at hR2;subst hsg;have zT:=Ia.alloc (.cells #[.int .i64 1,.int .i64 15] 3);have za:=CP.alloc (.cells #[.int .i64 1,.int .i64 15] 3);have hd5:=hd4.alloc (.cells #[.int .i64 1,.int .i64 15] 3);have lW:=qP.alloc (.cells #[.int .i64 1,.int .i64 15] 3);have lS:=hB4.alloc hB4.size (.cells #[.int .i64 1,.int .i64 15] 3);have xJ:ic (w4.alloc (.cells #[.int .i64 1,.int .i64 15] 3)) r v bs 16:=⟨qL.1.alloc _,qL.2.alloc _⟩;have hb5:av (w4.alloc (.cells #[.int .i64 1,.int .i64 15] 3)) w4.heap.size 3 (dx [1,15]).toArray:=av.new w4 3 #[.int .i64 1,.int .i64 15];by_cases h4:bs.length<4
     ·rw[if_pos h4] at hR2;have HR2:=Lib.hid hR2.symm;have hga:=jv r w4.heap.size v bs 16 [1,15] _ xJ (by omega) (by simp) (by simp) hb5 (by omega) (by simp;omega);simp only[List.length_cons,List.length_nil,Nat.zero_add,Nat.reduceAdd] at hga;have Cq:=Lib.hid hga;clear hga hR2 h4 hx1;go_wp2_with fail;refine Cq.out.mono ?_;rintro e6 w6 ⟨rfl,zU,kV⟩;have zV:Below w.heap.size w w6:=lS.trans (kV.below (B:=w.heap.size) (fun k _ e=>by have:=lS.size;omega) lS.size);have qU:=zT.kept kV (by have:=zT.lt;omega);have zW:=za.kept kV (by have:=za.lt;omega);go_wp2_with (go_at_call 67;((with_reducible refine (om _ _ _ _ rfl _).mono ?_);rintro e7 w7 ⟨rfl,rfl⟩));exact eT w _ R 5 _ _ _ _ _ _ _ _ _ _ rfl rfl qU zW zV HR2.out
     ·rw[if_neg h4] at hR2;have hga:=ol r w4.heap.size v bs 16 [1,15] _ xJ (by omega) (by simp) (by simp) hb5 (by simp;omega);simp only[List.length_cons,List.length_nil,Nat.zero_add,Nat.reduceAdd] at hga;have Cq:=Lib.hid hga;have HR2:=Lib.hid hR2.symm;have O7:4≤bs.length:=by omega
      clear hga hR2 h4 hx1;go_wp2_with fail;refine Cq.out.mono ?_;rintro e6 w6 ⟨vm,rfl,ED,zU,kV⟩;have zV:Below w.heap.size w w6:=lS.trans (kV.below (B:=w.heap.size) (fun k _ e=>by have:=lS.size;omega) lS.size);have qU:=zT.kept kV (by have:=zT.lt;omega);have zW:=za.kept kV (by have:=za.lt;omega);have hd6:=hd5.kept kV (by have:=hd5.lt;omega);have JF:=ig lW kV (fun j o _ hj e=>by have:=(lW.lt j hj);obtain rfl:gl=j:=(by simpa[Value.ownBlock] using hj);omega);have hgv:getAll bs 16 [1,15]= [val (aA bs 16 1),val (aA bs 17 15)]:=rfl;rw[hgv] at ED;have R6:val (aA bs 17 15)<32768:=by have:=oU (aA bs 17 15);rw[dU] at this;exact this
      have ME:=HR2.out;clear hgv HR2;simp only[List.length_cons,List.length_nil,Nat.zero_add,Nat.reduceAdd] at ED;rw[show (16:Nat)+ [1,15].sum=32 from rfl] at zU;generalize val (aA bs 16 1)=y0 at*;generalize val (aA bs 17 15)=y1 at*;have HR3:=Lib.hid ME;clear ME;obtain ⟨gm,O8,rfl,hgm,O9⟩:=ED.form (by omega);have m0:=ED.cellAt 0 (by omega);have m1:=ED.cellAt 1 (by omega);simp[o7] at m0 m1;have R7:w6.drew.cell? ⟨gm,0,none⟩=some (.int .u64 y0):=m0;have R8:w6.drew.cell? ⟨gm,1,none⟩=some (.int .u64 y1):=m1;have R9:IntKind.i64.wrap (y1:Int)=y1:=IntWalk.i64_in _ (by omega);have Pb:((y0:Int)==1)=decide (y0=1):=by rw[Bool.eq_iff_iff];simp;omega
      obtain ⟨la,hla⟩:∃la,decide (y0=1)=la:=⟨_,rfl⟩
      rw[hla] at Pb HR3;clear hla;obtain ⟨z0,z1,z2,z3,z4,z5,z6,z7⟩:=qU.eight;have f3:=qU.frozen 3;have f4:=qU.frozen 4;go_wp2_with (go_at_call 67;((with_reducible refine (lT _ _ _ _).mono ?_);rintro e7 w7 ⟨rfl,rfl⟩));refine wp_region_noPanic ?_
      go_region
      refine NoPanic.normal ?_;go_wp2_with fail;go_meet;have D3:=((qU.aF 3 (.bool la)).aF 4 (.int .i64 y1)).drew;simp at D3;refine ⟨la,y1,32,D3,((zW.far (p:=⟨w.heap.size,3,none⟩) (by simp) (.bool la)).far (p:=⟨w.heap.size,4,none⟩) (by simp) (.int .i64 y1)).drew,((hd6.far (p:=⟨w.heap.size,3,none⟩) (by simp;omega) (.bool la)).far (p:=⟨w.heap.size,4,none⟩) (by simp;omega) (.int .i64 y1)).drew,
       World.ownsRow.drew' (aD (i:=4) (aD (i:=3) JF qU (by decide) (.bool la)) (qU.aF 3 (.bool la)) (by decide) _),
       ⟨((zU.1.far (p:=⟨w.heap.size,3,none⟩) (by simp;omega) (.bool la)).far (p:=⟨w.heap.size,4,none⟩) (by simp;omega) (.int .i64 y1)).drew,World.ownsRow.drew' (aD (i:=4) (aD (i:=3) zU.2 qU (by decide) (.bool la)) (qU.aF 3 (.bool la)) (by decide) _)⟩,
       ((zV.setCell (p:=⟨w.heap.size,3,none⟩) (by simp) (.bool la)).setCell (p:=⟨w.heap.size,4,none⟩) (by simp) (.int .i64 y1)).drew,by omega,by omega,HR3.out⟩
    ·have hsg:=MC.out;rw[decide_eq_false hx1] at hsg;have hR2:=HR1.out;rw[if_neg hx1] at hR2;subst hsg;have HR2:=Lib.hid hR2.symm;clear hR2 hx1;go_wp2_with fail;go_meet;exact ⟨false,0,16,Ia,CP,hd4,qP,qL,hB4,by omega,by omega,HR2.out⟩
   case rest=>
    obtain ⟨la,off,q,zT,za,hd5,lW,xJ,lS,hq,hoff,vB⟩:=hcut;have qm:=Lib.hid vB;clear vB HR1 HR p0 p1 p2 p3 p4 p5 p6 p7 Ia CP hd4 qP qL hB4;have l3:=lW.cellAt 3 (by omega);have l4:=lW.cellAt 4 (by omega);have l5:=lW.cellAt 5 (by omega);simp[o7] at l3 l4 l5;have b3:((x3:Int)==0)=decide (x3=0):=by rw[Bool.eq_iff_iff];simp
    have b4:((x4:Int)==0)=decide (x4=0):=by rw[Bool.eq_iff_iff];simp
    have b5:((x5:Int)==1)=decide (x5=1):=by rw[Bool.eq_iff_iff];simp;omega
    generalize decide (x3=0)=s at*;generalize decide (x4=0)=e at*;generalize decide (x5=1)=mo at*;have hch:=vz r d v A n c bs s e mo q wc.drew xJ hd5.drew (fun W hW=>(h.below (lS.drew.trans (hW.below (B:=w.heap.size) (fun k _ e=>by have:=lS.size;simp at e;omega) lS.size))).more (by have:=lS.size;have:=hW.size;simp at this;omega)) (by omega) hq;have MF:=Lib.hid hch;clear hch;go_wp2_with fail;refine wp_region_still_tail 13 (by kernel_rfl) (by kernel_rfl) ?_;simp only[List.take_succ_cons,List.take_zero,List.drop_succ_cons,List.drop_zero]
    still_step
    still_step
    still_step
    still_step
    still_step
    still_step
    still_step
    still_step
    still_step
    still_step
    still_step
    still_step
    still_step
    refine wpStill_nil ?_;change wpList _ _ _ _ _ wc.drew
    replace zT:=zT.drew
    replace za:=za.drew
    replace lS:=lS.drew
    clear hd5 lW xJ l3 l4 l5 b3 b4 b5;have hwc:w.heap.size+1<wc.drew.heap.size:=za.lt;generalize wc.drew=w5 at*;go_wp2_with fail;refine MF.out.mono ?_;rintro e6 w6 ⟨kV,h6⟩;have zV:Below w.heap.size w w6:=lS.trans (kV.below (B:=w.heap.size) (fun k _ e=>by omega) lS.size);have qU:=zT.kept kV (by omega);have zW:=za.kept kV (by omega);rcases h6 with ⟨er,hl,rfl⟩|⟨ps,Ao,co,hl,rfl,hpo⟩
    ·have Pd:=Lib.hid (show R= .inl er by rw[qm.out,hl]);clear hl;go_wp2;exact eT w _ R er _ _ _ _ _ _ _ _ _ _ rfl rfl qU zW zV Pd.out
    ·have MG:R=if fI (x6:Nat) sg la (off:Nat) ps=true then .inr ⟨x6,po,sg,la,off,s,e,ps⟩ else .inl 9:=by rw[qm.out,hl]
     have uz:=Lib.hid MG;have hcp:=Lib.hid (lX hl);clear MG hl qm MF lS zT za;obtain ⟨z0,z1,z2,z3,z4,z5,z6,z7⟩:=qU.eight;have f5:=qU.frozen 5;have f6:=qU.frozen 6;have f7:=qU.frozen 7;have D3:=((qU.aF 5 (.bool s)).aF 6 (.bool e)).aF 7 (.slice Ao ps.length co);have MH:=((zW.far (p:=⟨w.heap.size,5,none⟩) (by simp) (.bool s)).far (p:=⟨w.heap.size,6,none⟩) (by simp) (.bool e)).far (p:=⟨w.heap.size,7,none⟩) (by simp) (.slice Ao ps.length co);have zb:=((zV.setCell (p:=⟨w.heap.size,5,none⟩) (by simp) (.bool s)).setCell (p:=⟨w.heap.size,6,none⟩) (by simp) (.bool e)).setCell (p:=⟨w.heap.size,7,none⟩) (by simp) (.slice Ao ps.length co);have EF:aX (((w6.setCell ⟨w.heap.size,5,none⟩ (.bool s)).setCell ⟨w.heap.size,6,none⟩ (.bool e)).setCell ⟨w.heap.size,7,none⟩ (.slice Ao ps.length co)) w5.heap.size (.slice Ao ps.length co) ps:=
      hpo.kept (fun k o hk ho=>by
       rw[Below.heap_setCell _ _ _ k (by simp;omega),Below.heap_setCell _ _ _ k (by simp;omega),Below.heap_setCell _ _ _ k (by simp;omega)];exact ho)
     simp at D3;obtain ⟨Ax,cx,Pe,Pf,EG⟩:=EF.OL;injection Pf with hx1 _ hx2
     subst hx1 hx2;have hva:=sQ x6 po sg la off s e Ao ps.length co Pe ps _ EG (by have:=hcp.out.1;omega) (fun p hp=>by have:=hcp.out.2 p hp;omega);unfold bC at hva;have JG:=Lib.hid hva;have Pg:=Lib.hid EF;clear hva EG;go_wp2_with fail;refine JG.out.mono ?_;rintro e8 w8 ⟨rfl,ze⟩;have xK:=D3.below ze D3.lt;have Ib:=MH.below ze MH.lt;have Bq:=zb.trans (ze.mono zb.size);by_cases hvv:fI (x6:Nat) sg la (off:Nat) ps=true
     ·have D4:=Lib.hid (show R= .inr ⟨x6,po,sg,la,off,s,e,ps⟩ by rw[uz.out,if_pos hvv]);rw[hvv];clear hvv;have EH:aX w8 w5.heap.size (.slice Ao ps.length co) ps:=Pg.out.kept (fun k o _ ho=>(ze.block k (lt_of_heap ho)).trans ho);have JH:=Lib.hid EH;clear EH;clear z0 z1 z2 z3 z4 z5 z6 z7 f5 f6 f7;obtain ⟨z0,z1,z2,z3,z4,z5,z6,z7⟩:=xK.eight;have f0:=xK.frozen 0;have f1:=xK.frozen 1;have f2:=xK.frozen 2;have f3:=xK.frozen 3;have f4:=xK.frozen 4;have f5:=xK.frozen 5;have f6:=xK.frozen 6;have f7:=xK.frozen 7;have f8:=Ib.frozen 0;have z8:=Ib.cell 0;simp at z8;go_wp2_with (go_at_call 69;((with_reducible refine (bU _ _).mono ?_);rintro e9 w9 ⟨rfl,rfl⟩));have Ph:=(xK.zL (.int .i64 x6) (.bool po) (.bool sg) (.bool la) (.int .i64 off) (.bool s) (.bool e) (.slice Ao ps.length co)).far (p:=⟨w.heap.size+1,0,none⟩) (by simp) (.int .i64 0);have Pj:=(Ib.zR (g:=w.heap.size) (by omega) (.int .i64 x6) (.bool po) (.bool sg) (.bool la) (.int .i64 off) (.bool s) (.bool e) (.slice Ao ps.length co)).aF 0 (.int .i64 0);have Ic:=(iY Bq (Nat.le_refl _) (.int .i64 x6) (.bool po) (.bool sg) (.bool la) (.int .i64 off) (.bool s) (.bool e) (.slice Ao ps.length co)).setCell (p:=⟨w.heap.size+1,0,none⟩) (by simp) (.int .i64 0);refine vD w _ R _ ⟨x6,po,sg,la,off,s,e,ps⟩ Ao co w5.heap.size rfl rfl Ph Pj Ic D4.out (JH.out.kept (fun k o hk ho=> ?_)) (by omega)
      have hs:=fun (X:World) (g i:Nat) (u:Value) (hg:g<w5.heap.size)=>Below.heap_setCell X ⟨g,i,none⟩ u k (by simp;omega)
      rw[hs _ _ _ _ (by omega),hs _ _ _ _ (by omega),hs _ _ _ _ (by omega),hs _ _ _ _ (by omega),hs _ _ _ _ (by omega),hs _ _ _ _ (by omega),hs _ _ _ _ (by omega),hs _ _ _ _ (by omega),hs _ _ _ _ (by omega)];exact ho
     ·have D4:=Lib.hid (show R= .inl 9 by rw[uz.out,if_neg hvv]);rw[Bool.not_eq_true] at hvv;rw[hvv];clear hvv;go_wp2_with (go_at_call 69;((with_reducible refine (bF _ _).mono ?_);rintro e9 w9 ⟨rfl,rfl⟩));exact eT w _ R 9 _ _ _ _ _ _ _ _ _ _ rfl rfl xK Ib Bq D4.out
  ·rw[if_pos h0] at kU;have HR1:=Lib.hid kU.symm;have hx0:((x0:Int)==1)=false:=by simp;omega
   clear kU h0;go_wp2_with (first|(go_at_call 67;((with_reducible refine (lT _ _ _ _).mono ?_);rintro e4 w4 ⟨rfl,rfl⟩))|(go_at_call 69;((with_reducible refine (bF _ _).mono ?_);rintro e4 w4 ⟨rfl,rfl⟩)));exact eT w _ R 9 _ _ _ _ _ _ _ _ _ _ rfl rfl si vF hB3 HR1.out
end Go.Proofs.YtiecgfahidpldaaGreat
namespace Go.Proofs.YtiecgfahidpldaaGreat
section
abbrev Fl:=Bool × Bool × Bool
def CQ:Fl:=(false,false,false)
structure Sp where
 fl:List Fl
 da:List UInt8
 size:Option Nat
def qV:Sp:=⟨[],[],none⟩
def bK (l:List Fl) (i:Nat):Fl:=l[i]?.getD CQ
def iy (l:List Fl):Nat:=(l.map (fun f=>f.1.toNat)).sum
def eU (p:Sp):Bool:=match p.size with
 |none=>false
 |some k=>decide (0<k)&&decide (iy p.fl=k)
def bP:Option Sp→Bool
 |none=>false
 |some p=>eU p
structure Rc where
 m:Nat→Option Sp
 next:Nat
 status:Nat
 high:Nat
 ro:Bool
 bX:Nat
 exp:Int
 due:Bool
 iZ:Int
 now:Int
 op:List UInt8
 sm:Bool
def oo:Rc:=⟨fun _=>none,0,0,0,false,0,0,false,0,0,[],false⟩
def bH (sn:Nat):Nat:=(sn+1)%1024
def aI (st:Rc) (sn:Nat):Nat:=(sn+1024-st.next)%1024
def iA (m:Nat→Option Sp):Nat→Nat→Nat
 |0,sn=>sn
 |f+1,sn=>if bP (m sn)=true then iA m f (bH sn) else sn
def j3 (c:Cf) (st:Rc):Rc:= {st with ro:=true,bX:=st.high,exp:=IntKind.i64.wrap (st.now+c.reorder)}
def dM (st:Rc) (now:Int):Rc:= {st with now:=if st.now<now then now else st.now}
def j4 (c:Cf) (st:Rc):Rc:=
 let s2:Rc:= {st with status:=iA st.m 1024 st.bX,due:=true,ro:=false}
 if s2.high≠s2.status then j3 c s2 else s2
def bV (c:Cf) (st:Rc) (now:Int):Rc:=
 if st.ro=false∨(dM st now).now<st.exp then dM st now else j4 c (dM st now)
def iP (p:List UInt8) (a b:Bool):List (Fl × UInt8):=p.mapIdx (fun j x=>((true,decide (j=0)&&a,decide (j+1=p.length)&&b),x))
def dh (s e:Bool) (n:Nat):Nat→List (List UInt8)→List (Fl × UInt8)
 |_,[]=> []
 |i,p::r=>iP p (decide (0<i)||s) (decide (i+1<n)||e)++dh s e n (i+1) r
def qo:List (Fl × UInt8)→Nat→List Fl × List UInt8→List Fl × List UInt8
 | [],_,x=>x
 |(f,b)::r,at_,x=>qo r (at_+1) (if (bK x.1 at_).1=true then x else (x.1.set at_ f,x.2.set at_ b))
def fT (k:Nat) (l:List Fl):List Fl:=l++List.replicate (k-l.length) CQ
def ja (k:Nat) (l:List UInt8):List UInt8:=l++List.replicate (k-l.length) 0
def jB (x:fu):Nat:=x.off+aB x.ps
def vH (x:fu):Bool:= !x.sg||x.la
def qW (p:Sp) (x:fu):Bool:=match p.size with
 |some k=> !(decide (jB x≤k)&&(!vH x||decide (jB x=k)))
 |none=>vH x&&(decide (jB x<p.fl.length)&&(p.fl.drop (jB x)).any (fun f=>f.1))
def dz (p:Sp) (x:fu):Sp:=
 let y:=qo (dh x.s x.e x.ps.length 0 x.ps) x.off (fT (jB x) p.fl,ja (jB x) p.da)
 ⟨y.1,y.2,if vH x=true then some (jB x) else p.size⟩
def jC (b:List UInt8) (begins last:Bool) (op:List UInt8) (sm:Bool):List UInt8 × Bool × List (List UInt8):=
 if begins=false∧sm=false then (op,false,[])
 else
  let o2:=(if begins=true then [] else op)++b
  if o2.length≤9000∧last=false then (o2,true,[])
  else ([],false,if o2.length≤9000 then [o2] else [])
def j5 (fl:List Fl) (da:List UInt8) (n:Nat):Nat→Nat→Nat→List UInt8→Bool→List UInt8 × Bool × List (List UInt8)
 |0,_,_,op,sm=>(op,sm,[])
 |k+1,i,fr,op,sm=>
  if i<n∧(bK fl i).2.1=false then j5 fl da n k (i+1) fr op sm
  else
   let y:=jC ((da.take i).drop fr) (bK fl fr).2.1 (decide (i<n)||(bK fl (i-1)).2.2) op sm
   let z:=j5 fl da n k (i+1) i y.1 y.2.1
   (z.1,z.2.1,y.2.2++z.2.2)
def dZ (m:Nat→Option Sp) (k:Nat) (v:Option Sp):Nat→Option Sp:=fun j=>if j=k then v else m j
def oq (p:Sp):Nat:=p.size.getD 0
def qX (st:Rc) (p:Sp):List UInt8 × Bool × List (List UInt8):=j5 p.fl p.da (oq p) (oq p) 1 0 st.op st.sm
def lY (st:Rc) (p:Sp):Rc:= {st with op:=(qX st p).1,sm:=(qX st p).2.1,m:=dZ st.m st.next none,next:=bH st.next}
def bu:Nat→Rc→Rc × List (List UInt8)
 |0,st=>(st,[])
 |f+1,st=>match st.m st.next with
  |none=>(st,[])
  |some p=>if eU p=true then ((bu f (lY st p)).1,(qX st p).2.2++(bu f (lY st p)).2) else (st,[])
def iB (st:Rc) (x:fu) (p:Sp):Rc:=
 let s1:Rc:= {st with m:=dZ st.m x.sn (some (dz p x)),due:=st.due||x.po}
 let s2:Rc:= {s1 with high:=if aI s1 s1.high≤aI s1 x.sn then bH x.sn else s1.high}
 {s2 with status:=iA s2.m 1024 s2.status}
def vI (c:Cf) (st:Rc):Rc:=
 let s1:Rc:=if aI st st.bX=0∨512<aI st st.bX then {st with ro:=false} else st
 if s1.ro=false∧s1.high≠s1.next then j3 c s1 else s1
def dA (st:Rc) (sn:Nat):Sp:=(st.m sn).getD qV
def vJ (c:Cf) (st:Rc) (x:fu):Rc × List (List UInt8) × Nat:=
 if 512≤aI st x.sn then ({st with due:=st.due||x.po},[],0)
 else if qW (dA st x.sn) x=true then (st,[],9)
 else
  let D:=bu 1024 (iB st x (dA st x.sn))
  (vI c D.1,D.2,0)
def bI (c:Cf) (st:Rc) (now:Int) (bs:List UInt8):Rc × List (List UInt8) × Nat:=
 match nO bs with
 | .inl er=>(bV c st now,[],er)
 | .inr x=>vJ c (bV c st now) x
def aY:List Fl→Nat→Nat→List (Nat × Nat)
 | [],i,fr=>if fr<i then [(fr,i-1)] else []
 |f::r,i,fr=>if f.1=false then aY r (i+1) fr else if fr<i then (fr,i-1)::aY r (i+1) (i+1) else aY r (i+1) (i+1)
def aV (sn:Nat) (x:Nat × Nat):Nk:=⟨sn,true,x.1,x.2⟩
def fJ (sn:Nat):Option Sp→List Nk
 |none=> [⟨sn,false,0,0⟩]
 |some p=>match p.size with
  |some k=>(aY (fT k p.fl) 0 0).map (aV sn)
  |none=>(aY p.fl 0 0).map (aV sn)++ [⟨sn,true,p.fl.length,32767⟩]
def jD (st:Rc):Nat→Nat→List Nk→Nat × List Nk
 |0,_,l=>(st.status,l)
 |k+1,sn,l=>
  if sn=st.status then (st.status,l)
  else if bP (st.m sn)=true then jD st k (bH sn) l
  else if 512<l.length+(fJ sn (st.m sn)).length then (sn,l)
  else jD st k (bH sn) (l++fJ sn (st.m sn))
def jE (st:Rc):Nat × List Nk:=jD st 1024 st.next []
end
section
theorem ou {l:List Fl} {i:Nat} {f:Fl} (h:l[i]? =some f):bK l i=f:=by unfold bK;rw[h];rfl
theorem jF:∀(l:List (Fl × UInt8)) (a:Nat) (x:List Fl × List UInt8),(qo l a x).1.length=x.1.length∧(qo l a x).2.length=x.2.length
 | [],_,_=>⟨rfl,rfl⟩
 |(f,b)::r,a,x=>by
  unfold qo;have h:=jF r (a+1) (if (bK x.1 a).1=true then x else (x.1.set a f,x.2.set a b));rw[h.1,h.2];split<;>simp
theorem pK:∀(l m:List (Fl × UInt8)) (a:Nat) (x:List Fl × List UInt8),qo (l++m) a x=qo m (a+l.length) (qo l a x)
 | [],_,_,_=>rfl
 |(f,b)::r,m,a,x=>by
  rw[List.cons_append,qo,qo,pK r m,List.length_cons,show a+1+r.length=a+(r.length+1) by omega]
theorem j6 (p:List UInt8) (a b:Bool):(iP p a b).length=p.length:=by simp[iP]
theorem vK (p:List UInt8) (a b:Bool) (j:Nat):(iP p a b)[j]? =p[j]?.map (fun x=>((true,decide (j=0)&&a,decide (j+1=p.length)&&b),x)):=by simp[iP]
theorem lZ (s e:Bool) (n:Nat):∀(i:Nat) (ps:List (List UInt8)),(dh s e n i ps).length=aB ps
 |_,[]=>rfl
 |i,p::r=>by
  rw[dh,List.length_append,j6,lZ s e n (i+1) r];simp[aB]
theorem vL (f:Fl) (l:List Fl):iy (f::l)=f.1.toNat+iy l:=by simp[iy]
theorem kW:∀l:List Fl,iy l≤l.length
 | []=>by simp[iy]
 |f::l=>by
  have:=kW l;rw[vL,List.length_cons];cases f.1<;>simp<;>omega
end
end Go.Proofs.YtiecgfahidpldaaGreat
