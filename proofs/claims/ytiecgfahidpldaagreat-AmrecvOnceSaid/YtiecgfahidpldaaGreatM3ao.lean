/- ampdu.Decode: must, got, the chunk. ampdu.Decode: errors are recovered. ampdu.Decode. amsend: Submit. -/
import Derived.Test.YtiecgfahidpldaaGreatM3ae
import Derived.Test.YtiecgfahidpldaaGreatM3af
import Derived.Test.YtiecgfahidpldaaGreatM3ai
import Derived.WideLaws
import Derived.Deep.RegionLaw
namespace Go.Proofs.YtiecgfahidpldaaGreat
open Go.RowKit Go.Shelf
attribute [local go_sem] Oper.semAt_some
theorem iI (er:Int) (w:World):Calls Tryz.prog 69 #[.bool true,.int .i64 er] w fun e w'=>e= .returned (.tuple #[])∧w=w':=by
 go_enter Tryz.func69,Tryz.ntmps69;go_wp2
 go_end0
 exact ⟨rfl,rfl⟩
theorem fI (er:Int) (w:World):Calls Tryz.prog 69 #[.bool false,.int .i64 er] w fun e w'=>e=raise er∧w=w':=by
 unfold raise;go_enter Tryz.func69,Tryz.ntmps69;go_wp2;exact ⟨rfl,rfl,rfl⟩
theorem D6 (x:Int) (w:World):Calls Tryz.prog 116 #[.int .u64 x,.int .i64 0] w fun e w'=>e= .returned (.int .u64 x)∧w=w':=by
 go_enter Tryz.func116,Tryz.ntmps116;go_wp2_with (go_at_call 69;refine (iI _ _).mono ?_;rintro e w' ⟨rfl,rfl⟩);go_ret;exact ⟨rfl,rfl⟩
theorem Oq (x er:Int) (her:(er==0)=false) (w:World):Calls Tryz.prog 116 #[.int .u64 x,.int .i64 er] w fun e w'=>e=raise er∧w=w':=by
 go_enter Tryz.func116,Tryz.ntmps116;go_wp2_with (go_at_call 69;refine (fI _ _).mono ?_;rintro e w' ⟨rfl,rfl⟩);exact ⟨rfl,rfl,rfl⟩
theorem zh (A:Option Addr) (n c:Nat) (w:World):Calls Tryz.prog 67 #[.slice A n c,.int .i64 0] w fun e w'=>e= .returned (.slice A n c)∧w=w':=by
 go_enter Tryz.func67,Tryz.ntmps67;go_wp2_with (go_at_call 69;refine (iI _ _).mono ?_;rintro e w' ⟨rfl,rfl⟩);go_ret;exact ⟨rfl,rfl⟩
theorem Cz (A:Option Addr) (n c:Nat) (er:Int) (her:(er==0)=false) (w:World):Calls Tryz.prog 67 #[.slice A n c,.int .i64 er] w fun e w'=>e=raise er∧w=w':=by
 go_enter Tryz.func67,Tryz.ntmps67;go_wp2_with (go_at_call 69;refine (fI _ _).mono ?_;rintro e w' ⟨rfl,rfl⟩);exact ⟨rfl,rfl,rfl⟩
theorem vF {w w':World} {b b':Nat} {e e':TypeId} {n n':Nat} {v v':Value} {xs xs':List Value} (h:w.ownsRow b e 1 v n xs) (h':w.ownsRow b' e' 1 v' n' xs') (hne:e≠e') (hg:w.grownBy w' v'.ownBlock):w'.ownsRow b e 1 v n xs:=by
 refine h.kept hg ?_;rcases hv:v.ownBlock with _|j
 ·exact .inl rfl
 ·refine .inr (fun e1=> ?_);obtain ⟨o1,ho1,⟨cs1,Yh,rfl⟩,_⟩:=bV h hv;obtain ⟨o2,ho2,⟨cs2,Yi,rfl⟩,_⟩:=bV h' e1.symm;rw[ho1] at ho2;cases ho2;exact hne rfl
def gT (bs:List UInt8) (more:Bool) (pos:Nat):Sum Nat (List (List UInt8)):=
 match oI bs more pos with
 | .inl er=> .inl er
 | .inr (ls,p)=>jB ls (bs.drop (p/8))
def Rz (w:World) (r:Nat) (s e:Bool) (R:Sum Nat (List (List UInt8))) (en:Ending) (w':World):Prop:=
 Kept (fun k _=>k=r∨w.heap.size≤k) w w'∧
 ((∃er:Nat,R= .inl er∧en=raise er)∨(∃ps A c,R= .inr ps∧en= .returned (.agg #[.bool s,.bool e,.slice A ps.length c])∧eY w' w.heap.size (.slice A ps.length c) ps))
set_option maxRecDepth 100000 in
set_option maxHeartbeats 8000000 in
theorem Lr (r d:Nat) (v:Value) (A0:Option Addr) (n0 c0:Nat) (bs:List UInt8) (s e more:Bool) (pos:Nat) (w:World) (h:qx w r v bs pos) (hd:aA w d 128 #[.pointer (some ⟨r,0,none⟩),.slice A0 n0 c0])
 (hb:∀W,Kept (fun k _=>k=r∨w.heap.size≤k) w W→Sl W W.heap.size A0 n0 c0 (cu bs)) (hsm:bs.length≤1000000000) (hp:pos≤8*bs.length):
 Calls Tryz.prog 70 #[.pointer (some ⟨d,0,none⟩),.bool s,.bool e,.bool more] w (Rz w r s e (gT bs more pos)):=by
 obtain ⟨i0,hi,hz0,hz1,hz2⟩:=info_parts xY;obtain ⟨j0,hj0,hm0,hm1,hm2⟩:=info_parts lD;have hrd:d≠r:=by
  rintro rfl;have h1:=h.1;unfold aA at h1 hd;rw[h1] at hd;injection hd with hd
  injection hd with _ h2
  exact absurd h2 (by decide)
 have hdl:=hd.lt;have hrl:=h.1.lt;have sN:=Lib.hid hsm;have HP:=Lib.hid hp;have HB:=Lib.hid hb;clear hsm hp hb;obtain ⟨R,hR⟩:∃R,eU bs 64 more pos []=R:=⟨_,rfl⟩
 have hRR:oI bs more pos=jc bs R:=by rw[←hR];rfl
 obtain ⟨CR,hCR⟩:∃CR,gT bs more pos=CR:=⟨_,rfl⟩
 have RA:=hCR;unfold gT at RA;rw[hCR];rw[hRR] at RA;have HR:=Lib.hid hR;have Zn:=Lib.hid RA;clear hR hRR hCR RA;go_enter Tryz.func70,Tryz.ntmps70;go_wp2;have hk0:Kept (fun k _=>k=r∨w.heap.size≤k) w ((w.alloc (.cells #[.bool false,.bool false,.slice none 0 0] 70)).alloc (.cells #[.bool s,.bool e,.slice none 0 0] 70)):=((Kept.refl _ w).alloc _).alloc _;have br0:=(aA.new w 70 #[.bool false,.bool false,.slice none 0 0]).alloc (.cells #[.bool s,.bool e,.slice none 0 0] 70);have bc0:=aA.new (w.alloc (.cells #[.bool false,.bool false,.slice none 0 0] 70)) 70 #[.bool s,.bool e,.slice none 0 0];have h0:qx ((w.alloc (.cells #[.bool false,.bool false,.slice none 0 0] 70)).alloc (.cells #[.bool s,.bool e,.slice none 0 0] 70)) r v bs pos:=⟨(h.1.alloc _).alloc _,(h.2.alloc _).alloc _⟩;have hsz0:w.heap.size+2≤((w.alloc (.cells #[.bool false,.bool false,.slice none 0 0] 70)).alloc (.cells #[.bool s,.bool e,.slice none 0 0] 70)).heap.size:=by simp
 rw[World.size_alloc] at bc0;generalize (w.alloc (.cells #[.bool false,.bool false,.slice none 0 0] 70)).alloc (.cells #[.bool s,.bool e,.slice none 0 0] 70)=w0 at*
 go_loopw [3,10,11] (fun m l s wr=>∃(acc:List Nat) (more':Bool) (q:Nat),m= .bool more'∧s= .int .i64 (acc.sum:Nat)∧acc.length≤63∧acc.sum≤2047*acc.length∧(∀x∈acc,x≤2047)∧eU bs (64-acc.length) more' q acc=R∧
  qx wr r v bs q∧q≤8*bs.length∧wr.ownsRow w0.heap.size 3 1 l acc.length (jE acc)∧Kept (fun k _=>k=r∨w0.heap.size≤k) w0 wr) (fun _ l _ _=>64-Iw l)
 case atStart=>exact ⟨[],more,pos,rfl,rfl,by simp,by simp,by simp,HR.out,h0,HP.out,World.ownsRow_nil _ _ _ _,Kept.refl _ _⟩
 case round=>
  obtain ⟨acc,more',q,rfl,rfl,hal,hsum,hmem,hread,hrq,hq,how,hkp⟩:=hrel;have Ot:Kept (fun k _=>k=r∨w.heap.size≤k) w wr:=hk0.trans (hkp.mono fun k _ e=>e.imp id (fun e=>by omega));have hd1:=hd.kept Ot (by rintro (e|e);exact hrd e;omega);have VH:=hd1.cell 0;simp at VH;have HRD:=Lib.hid hread;have HQ:=Lib.hid hq;have Zo:=Lib.hid hmem;clear hread hq hmem;cases more' with
  |true=>
   obtain ⟨f,hf⟩:∃f,64-acc.length=f+1:=⟨63-acc.length,by omega⟩
   have F6:=HRD.out;rw[hf] at F6;simp only[eU] at F6;have HR2:=Lib.hid F6;have HFF:=Lib.hid hf;clear F6 hf;by_cases hfit:8*bs.length<q+12
   ·have hget:=BU r v bs q 12 wr hrq HQ.out sN.out (by omega) (by have:=HQ.out;omega);have Ls:R= .inl 5:=by have:=HR2.out;rw[if_pos hfit] at this;exact this.symm
    have HG:=Lib.hid hget;have H5:=Lib.hid Ls;clear hget Ls hfit;go_wp2_with fail;refine HG.out.mono ?_;rintro e1 w1 ⟨rfl,hr1,hk1⟩;go_wp2_with (go_at_call 116;refine (Oq _ _ rfl _).mono ?_;rintro e2 w2 ⟨rfl,rfl⟩);exact ⟨rfl,Ot.trans (hk1.mono fun _ _ e=> .inl e),.inl ⟨5,by rw[←Zn.out,H5.out];rfl,rfl⟩⟩
   ·have hget:=Dr r v bs q 12 wr hrq sN.out (by omega) (by omega);have hV:=Di (aG bs q 12);rw[ko] at hV;have hR2:=HR2.out;rw[if_neg hfit] at hR2;have HG:=Lib.hid hget;have aey:=Lib.hid hfit;clear hget hfit HR2;generalize val (aG bs q 12)=V at*;have hand:=Qy V hV;have aez:IntKind.i64.wrap ((V%2048:Nat):Int)=((V%2048:Nat):Int):=IntWalk.i64_in _ (by omega);obtain ⟨n,hn⟩:∃n,V%2048=n:=⟨_,rfl⟩
    obtain ⟨m',hm'⟩:∃m',decide (V/2048=1)=m':=⟨_,rfl⟩
    have hmo:((V:Int)/2048==1)=m':=by rw[←hm',Bool.eq_iff_iff];simp;omega
    rw[hn] at hand aez hR2;rw[hm'] at hR2;have hn2:n<2048:=by omega
    have HR3:=Lib.hid hR2;clear hR2 hn hm' hV;obtain ⟨A,c,rfl,hsl,_⟩:=aP how;by_cases hbad:n=0∨63≤acc.length
    ·have xJ:R= .inl 9:=by have:=HR3.out;rw[if_pos hbad] at this;exact this.symm
     have H9:=Lib.hid xJ;clear xJ;by_cases h00:n=0
     ·subst h00;clear hbad HR3;go_wp2_with fail;refine HG.out.mono ?_;rintro e1 w1 ⟨rfl,hr1,hk1⟩;go_wp2_with (first|(go_at_call 116;refine (D6 _ _).mono ?_;rintro e2 w2 ⟨rfl,rfl⟩)|(go_at_call 69;((with_reducible refine (fI _ _).mono ?_);rintro e3 w3 ⟨rfl,rfl⟩)));exact ⟨rfl,Ot.trans (hk1.mono fun _ _ e=> .inl e),.inl ⟨9,by rw[←Zn.out,H9.out];rfl,rfl⟩⟩
     ·have hn0:0<n:=by omega
      have hb3:decide ((acc.length:Int)<63)=false:=by simp;omega
      have hb4:63≤acc.length:=by omega
      clear hbad HR3 h00;go_wp2_with fail;refine HG.out.mono ?_;rintro e1 w1 ⟨rfl,hr1,hk1⟩;go_wp2_with (first|(go_at_call 116;refine (D6 _ _).mono ?_;rintro e2 w2 ⟨rfl,rfl⟩)|(go_at_call 69;((with_reducible refine (fI _ _).mono ?_);rintro e3 w3 ⟨rfl,rfl⟩)));exact ⟨rfl,Ot.trans (hk1.mono fun _ _ e=> .inl e),.inl ⟨9,by rw[←Zn.out,H9.out];rfl,rfl⟩⟩
    ·have D7:=HR3.out;rw[if_neg hbad] at D7;have hb2:0<n:=by omega
     have hb3:decide ((acc.length:Int)<63)=true:=by simp;omega
     have akT:acc.length<63:=by omega
     have HR4:=Lib.hid D7;have HN0:=Lib.hid hbad;clear D7 hbad HR3;go_wp2_with fail;refine HG.out.mono ?_;rintro e1 w1 ⟨rfl,hr1,hk1⟩;have Jq:=hkp.trans (hk1.mono (M':=fun k _=>k=r∨w0.heap.size≤k) fun _ _ e=> .inl e);have zi:=kH how hk1 (fun j o _ hj e=>by have:=(how.lt j hj).1;omega);go_wp2_with (first
      |(go_at_call 116;refine (D6 _ _).mono ?_;rintro e2 w2 ⟨rfl,rfl⟩)
      |(go_at_call 69;((with_reducible refine (iI _ _).mono ?_);rintro e3 w3 ⟨rfl,rfl⟩))
      |(at_builtin;refine wpList_append_own _ rfl _ _ 162 rfl w0.heap.size 3 i0 (.int .i64 0) 1 8 Io hi hz0 hz1 hz2 rfl (by decide) _ _ _ rfl (zi.alloc _) ⟨w1.heap.size,0,none⟩ 1 1 [.int .i64 n] rfl rfl ?c1 ?c2 ?c3 ?c4 ?c5 ?_))
     case c1=>exact cell_one_new _ _ _
     case c2=>simp[Value.oneCell']
     case c3=>unfold maxLen;omega
     case c4=>omega
     case c5=>have:=Jq.size;simp;omega
     intro v' w2 hown' hgrow _;have hr2:qx w2 r v bs (q+12):=by
      refine ⟨(hr1.1.alloc _).grown hgrow (fun e=>aF zi hr1.1 (by decide) e.symm),(hr1.2.alloc _).kept hgrow ?_⟩;rcases hq:v.ownBlock with _|j
      ·exact .inl rfl
      ·refine .inr (fun e=> ?_);obtain ⟨o1,ho1,⟨cs1,Yh,rfl⟩,_⟩:=bV hr1.2 hq;obtain ⟨o2,ho2,⟨cs2,Yi,rfl⟩,_⟩:=bV zi e.symm;rw[ho1] at ho2;cases ho2
     have hlv:=Iy hown';have HLV:=Lib.hid hlv;clear hlv;go_wp2;refine ⟨⟨acc++ [n],m',q+12,rfl,by simp,by simp;omega,by simp;omega,?_,?_,hr2,by have:=aey.out;omega,by simpa[jE] using hown',(Jq.alloc _).grown hgrow (fun j hj o _=> .inr ((zi.lt j hj).1))⟩,by rw[HLV.out];simp[Iw];omega⟩
     ·intro x hx;rcases List.mem_append.1 hx with hx|hx
      ·exact Zo.out x hx
      ·simp at hx;omega
     ·have:=HR4.out;rw[show f=64-(acc++ [n]).length by have:=HFF.out;simp;omega] at this;exact this
  |false=>
   have Ia:R= .inr (acc,q):=by
    have:=HRD.out;rw[←this];cases 64-acc.length<;>rfl
   have Bo:=Iu r v bs q wr hrq sN.out HQ.out;have hpq:q+kT q≤8*bs.length:=by have:=HQ.out;unfold kT;omega
   have xB:=Lib.hid Bo;have Ov:=Lib.hid Ia;have Xx:=Lib.hid hpq;clear Bo Ia hpq;obtain ⟨A,c,rfl,hsl,_⟩:=aP how;by_cases hz:val (aG bs q (kT q))=0
   ·have Zp:CR=jB acc (bs.drop ((q+kT q)/8)):=by rw[←Zn.out,Ov.out];simp only[jc,if_pos hz]
    have Bo:=xB.out;simp only[if_pos hz] at Bo;have HRF:=Lib.hid Zp;have RB:=Lib.hid Bo;clear Zp Bo hz xB;go_wp2_with fail;refine RB.out.mono ?_;rintro e1 w1 ⟨rfl,hr1,hk1⟩;have zi:=kH how hk1 (fun j o _ hj e=>by have:=(how.lt j hj).1;omega);have Jq:=hkp.trans (hk1.mono (M':=fun k _=>k=r∨w0.heap.size≤k) fun _ _ e=> .inl e);have Bp:=Ot.trans (hk1.mono (M':=fun k _=>k=r∨w.heap.size≤k) fun _ _ e=> .inl e);have hb1:=HB.out w1 Bp;have hd1:=hd.kept Bp (by rintro (e|e);exact hrd e;omega);have bc1:=bc0.kept Jq (by rintro (e|e);omega;omega);have Hq:=br0.kept Jq (by rintro (e|e);omega;omega);clear hkp Ot how hsl hrq VH RB Ov HRD HQ hk1;generalize q+kT q=p at*;go_wp2_with (go_at_call 69;((with_reducible refine (iI _ _).mono ?_);rintro e3 w3 ⟨rfl,rfl⟩));have VH:=hd1.cell 0;have cd1:=hd1.cell 1;simp at VH cd1;have hat:∀W,qx W r v bs p→Calls Tryz.prog 118 #[.pointer (some ⟨r,0,none⟩)] W fun e w'=>e= .returned (.int .i64 p)∧w'=W:=fun W hW=>(UN r v bs p W hW).mono fun _ _ hh=>⟨hh.1,hh.2.symm⟩
    have HAT:=Lib.hid hat;have hn0:bs.length=n0:=by simpa using hb1.len
    have hcap:=hb1.cap;have hmx:=hb1.mx;have aeA:=sN.out;have hpq:=Xx.out;obtain ⟨q,hq⟩:∃q,p/8=q:=⟨_,rfl⟩
    have hqw:IntKind.i64.wrap ((p:Int)/8)=(q:Int):=by rw[←hq];rw[IntWalk.i64_in _ (by omega)];omega
    have hq1:q≤n0:=by omega
    have hdata:Sl w1 w1.heap.size (if c0=q then A0 else A0.map (·.add q)) (n0-q) (c0-q) (cu (bs.drop q)):=by
     have:=hb1.cut hq1;unfold cu at this ⊢
     rwa [List.map_drop]
    have XE:=Lib.hid (show CR=jB acc (bs.drop q) by rw[HRF.out,hq]);have hdl:(bs.drop q).length=n0-q:=by rw[List.length_drop,hn0]
    have aeB:n0-q≤1000000000:=by omega
    have HQQ:=Lib.hid hq;clear hat hq HRF hn0 aeA hpq;refine wp_region_still_tail 11 (by kernel_rfl) (by kernel_rfl) ?_;simp only[List.take_succ_cons,List.take_zero,List.drop_succ_cons,List.drop_zero]
    still_step
    still_step
    still_step
    still_step
    still_step
    still_step
    still_step
    still_step
    still_call (HAT.out _ hr1)
    still_step
    still_step
    refine wpStill_nil ?_;change wpList _ _ _ _ _ w1.drew;generalize (if c0=q then A0 else Option.map (fun x=>x.add q) A0)=A1 at*;generalize bs.drop q=D at*;generalize n0-q=m at*;have hcl:=jU A1 m (c0-q) D w1.drew hdata.drew aeB;have HC:=Lib.hid hcl;have wh:=Lib.hid hdl;clear hcl hdata hdl hb1 hd1 hr1 VH cd1 hcap hmx hqw hq1 HAT HQQ Xx
    replace Bp:=Bp.drew
    replace bc1:=bc1.drew
    replace Hq:=Hq.drew
    replace zi:=(aW zi (show w.heap.size≤w0.heap.size by omega)).drew'
    have RD:w.heap.size+2≤w1.drew.heap.size:=Nat.le_trans hsz0 Jq.drew.size;clear Jq;generalize w1.drew=w2 at*;go_wp2_with fail;refine HC.out.mono ?_;rintro e2 w3 ⟨v3,rfl,hv3,hb3⟩
    replace Bp:=Bp.trans ((Kept.of_below hb3).mono (M':=fun k _=>k=r∨w.heap.size≤k) (fun j _ hj=> .inr (by omega)))
    replace bc1:=bc1.below hb3 bc1.lt
    replace Hq:=Hq.below hb3 Hq.lt
    replace zi:=own_below zi hb3 (Nat.le_refl _)
    replace hv3:=aW hv3 (show w.heap.size≤w2.heap.size by omega)
    replace RD:w.heap.size+2≤w3.heap.size:=Nat.le_trans RD hb3.size
    clear HC hb3;by_cases h5:D.length≤acc.sum
    ·have TT:CR= .inl 5:=by rw[XE.out];unfold jB;rw[if_pos h5]
     have HP5:=Lib.hid TT;clear TT;obtain ⟨A2,c2,rfl,_⟩:=aP hv3;have h5':¬acc.sum<m:=by have:=wh.out;omega
     clear h5;go_wp2_with (go_at_call 69;((with_reducible refine (fI _ _).mono ?_);rintro e3 w3 ⟨rfl,rfl⟩));exact ⟨rfl,Bp,.inl ⟨5,HP5.out,rfl⟩⟩
    ·by_cases h9:32767<D.length
     ·have TT:CR= .inl 9:=by rw[XE.out];unfold jB;rw[if_neg h5,if_pos h9]
      have VI:=Lib.hid TT;clear TT;obtain ⟨A2,c2,rfl,_⟩:=aP hv3;have h5':acc.sum<m:=by have:=wh.out;omega
      have h9':decide ((m:Int)≤32767)=false:=by have:=wh.out;simp;omega
      clear h5 h9;go_wp2_with (first|(go_at_call 69;((with_reducible refine (fI _ _).mono ?_);rintro e3 w3 ⟨rfl,rfl⟩))|(go_at_call 69;((with_reducible refine (iI _ _).mono ?_);rintro e3 w3 ⟨rfl,rfl⟩)));exact ⟨rfl,Bp,.inl ⟨9,VI.out,rfl⟩⟩
     ·have TT:CR= .inr (splitBy acc D):=by rw[XE.out];unfold jB;rw[if_neg h5,if_neg h9]
      have Ql:=Lib.hid TT;clear TT XE;have h5':acc.sum<m:=by have:=wh.out;omega
      have h9':decide ((m:Int)≤32767)=true:=by have:=wh.out;simp;omega
      have hm9:m≤32767:=by have:=wh.out;omega
      obtain ⟨g,cap,rfl,hgl,lN⟩:=hv3.form (by omega);have hcap2:m≤cap∧cap≤9223372036854775807:=by
       obtain ⟨A',c',e',hs',_⟩:=aP hv3;injection e' with _ _ e3
       subst e3;exact ⟨hs'.cap,hs'.mx⟩
      clear h5 h9;go_wp2_with (go_at_call 69;((with_reducible refine (iI _ _).mono ?_);rintro e3 w3 ⟨rfl,rfl⟩));clear h9'
      go_loopw [14,80] (fun vd i wr=>∃(k:Nat) (vo:Value),k≤acc.length∧i= .int .i64 k∧vd= .slice (some ⟨g,(acc.take k).sum,none⟩) (m-(acc.take k).sum) (cap-(acc.take k).sum)∧aA wr (w.heap.size+1) 70 #[.bool s,.bool e,vo]∧aA wr w.heap.size 70 #[.bool false,.bool false,.slice none 0 0]∧
       wr.ownsRow w.heap.size 22 1 vo k (iV g acc k)∧wr.ownsRow w.heap.size 5 1 (.slice (some ⟨g,0,none⟩) m cap) m (cu D)∧wr.ownsRow w.heap.size 3 1 (.slice A acc.length c) acc.length (jE acc)∧Kept (fun k _=>k=r∨w.heap.size≤k) w wr∧w.heap.size+2≤wr.heap.size) (fun _ i _=>acc.length-(intOf i).toNat)
      case atStart=>exact ⟨0,_,Nat.zero_le _,rfl,by simp,bc1,Hq,World.ownsRow_nil _ _ _ _,hv3,zi,Bp,RD⟩
      case round=>
       clear hv3 bc1 Hq zi Bp RD;obtain ⟨k,vo,hk,rfl,rfl,bc,br,jM,hvd,hvl,Ot,hws⟩:=hrel;have hsk:=kI acc k;by_cases hlt:k<acc.length
       ·obtain ⟨n,hn⟩:∃n,acc[k]? =some n:=⟨_,List.getElem?_eq_getElem hlt⟩
        have hn2:=Zo.out n (List.mem_of_getElem? hn);have hsn:=sU acc k n hn;have akX:=kI acc (k+1);obtain ⟨adl,u,rfl,_,hu,hcu⟩:=(dZ hvl).get hlt;have hu':u= .int .i64 (n:Int):=by
         unfold jE at hu;rw[List.getElem?_map,hn] at hu;simpa using hu.symm
        subst hu';have hpv:=AY g acc k n hn;generalize (List.take k acc).sum=S at*;have PW:=Lib.hid hsn;have HPV:=Lib.hid hpv;have hSn:S+n≤acc.sum:=by omega
        clear hsn hpv hu hn;have hne:¬cap-S=n:=by omega
        have hle1:n≤m-S:=by omega
        have hle2:n≤cap-S:=by omega
        obtain ⟨Ao,co,rfl,hso,_⟩:=aP jM;have c2:=bc.cell 2;have f2:=bc.frozen 2;simp at c2;have c2a:=(World.cell?_alloc_lt wr (.cells #[.slice (some ⟨g,S,none⟩) n n] 22) ⟨w.heap.size+1,2,none⟩ bc.lt).trans c2;go_upto_region 17 with (fail)
        go_cut [] from 84 to 92 (fun wx=>∃(A5:Option Addr) (c5:Nat),aA wx (w.heap.size+1) 70 #[.bool s,.bool e,.slice A5 (k+1) c5]∧aA wx w.heap.size 70 #[.bool false,.bool false,.slice none 0 0]∧wx.ownsRow w.heap.size 22 1 (.slice A5 (k+1) c5) (k+1) (iV g acc (k+1))∧
         wx.ownsRow w.heap.size 5 1 (.slice (some ⟨g,0,none⟩) m cap) m (cu D)∧wx.ownsRow w.heap.size 3 1 (.slice (some adl) acc.length c) acc.length (jE acc)∧Kept (fun k _=>k=r∨w.heap.size≤k) w wx∧w.heap.size+2≤wx.heap.size)
        case first=>
         go_region_law ((refine dS _ (by rfl) _ _ 34 (by rfl) w.heap.size 22 j0 (.slice none 0 0) 24 und22 hj0 hm0 hm1 hm2 rfl (.slice Ao k co) k (iV g acc k) (by rfl) (World.ownsRow.drew' (jM.alloc (.cells #[.slice (some ⟨g,S,none⟩) n n] 22))) (wr.alloc (.cells #[.slice (some ⟨g,S,none⟩) n n] 22)).heap.size (some ⟨wr.heap.size,0,none⟩) 1 1 [.slice (some ⟨g,S,none⟩) n n] (by rfl) (ku wr (.slice (some ⟨g,S,none⟩) n n) 22) (by simp[Value.oneCell']) (by unfold maxLen;omega) (by omega) (by simp;omega) ?_;intro v5 w5 hown5 bF _;obtain ⟨A5,c5,rfl,hs5,_⟩:=aP hown5;have uO:=(bc.alloc (.cells #[.slice (some ⟨g,S,none⟩) n n] 22)).drew.grown bF (fun e=>aF jM bc (by decide) e.symm);have q2:=uO.cell 2;have q3:=uO.frozen 2;simp at q2))
         all_goals
          go_wp2_with fail;go_meet;have F7:=World.ownsRow.drew' (jM.alloc (.cells #[.slice (some ⟨g,S,none⟩) n n] 22));have Ow:=vF (World.ownsRow.drew' (hvd.alloc (.cells #[.slice (some ⟨g,S,none⟩) n n] 22))) F7 (by decide) bF;have VJ:=vF (World.ownsRow.drew' (hvl.alloc (.cells #[.slice (some ⟨g,S,none⟩) n n] 22))) F7 (by decide) bF;have aeC:=(br.alloc (.cells #[.slice (some ⟨g,S,none⟩) n n] 22)).drew.grown bF (fun e=>aF jM br (by decide) e.symm);refine ⟨A5,c5,by simpa using uO.aC 2 (.slice A5 (k+1) c5),aeC.far (by simp) _,?_,aO (i:=2) Ow uO (by decide) _,aO (i:=2) VJ uO (by decide) _,
           ((Ot.alloc _).drew.grown bF (fun j hj o _=> .inr ((jM.lt j hj).1))).setCell (p:=⟨w.heap.size+1,2,none⟩) (fun _ _=> .inr (by simp)) _,?_⟩
          ·rw[HPV.out];exact aO (i:=2) hown5 uO (by decide) _
          ·have:=bF.size;simp at this ⊢;omega
        case rest=>
         obtain ⟨A5,c5,Xu,XI,nE,Ow,VJ,VK,aeD⟩:=hcut;go_wp2
         go_roundw
         case rel=>exact ⟨k+1,_,by omega,by go_num,by rw[PW.out,Nat.sub_sub,Nat.sub_sub],Xu,XI,nE,Ow,VJ,VK,aeD⟩
         case measure=>simp[intOf];omega
       ·obtain rfl:k=acc.length:=by omega
        have hS:(acc.take acc.length).sum=acc.sum:=by rw[List.take_of_length_le (Nat.le_refl _)]
        rw[hS];obtain ⟨Ao,co,rfl,hso,_⟩:=aP jM;have c2:=bc.cell 2;have f2:=bc.frozen 2;simp at c2;go_wp2_with (at_builtin;refine wpList_append_own _ rfl _ _ 34 rfl w.heap.size 22 j0 (.slice none 0 0) 1 24 und22 hj0 hm0 hm1 hm2 rfl (by decide) _ _ _ rfl (jM.alloc _) ⟨wr.heap.size,0,none⟩ 1 1 [.slice (some ⟨g,acc.sum,none⟩) (m-acc.sum) (cap-acc.sum)] rfl rfl ?c1 ?c2 ?c3 ?c4 ?c5 ?_)
        case c1=>exact cell_one_new _ _ _
        case c2=>simp[Value.oneCell']
        case c3=>unfold maxLen;omega
        case c4=>omega
        case c5=>simp;omega
        intro v' w4 hown' hgrow _;obtain ⟨A5,c5,rfl,hs5,_⟩:=aP hown';have Zq:=vF (hvd.alloc (.cells #[.slice (some ⟨g,acc.sum,none⟩) (m-acc.sum) (cap-acc.sum)] 22)) (jM.alloc _) (by decide) hgrow;have VL:=(bc.alloc (.cells #[.slice (some ⟨g,acc.sum,none⟩) (m-acc.sum) (cap-acc.sum)] 22)).grown hgrow (fun e=>aF jM bc (by decide) e.symm);have TU:=(br.alloc (.cells #[.slice (some ⟨g,acc.sum,none⟩) (m-acc.sum) (cap-acc.sum)] 22)).grown hgrow (fun e=>aF jM br (by decide) e.symm);have Zr:=(Ot.alloc (.cells #[.slice (some ⟨g,acc.sum,none⟩) (m-acc.sum) (cap-acc.sum)] 22)).grown hgrow (fun j hj o _=> .inr ((jM.lt j hj).1));have nE:=aO (i:=2) hown' VL (by decide) (.slice A5 (acc.length+1) c5);have Ow:=aO (i:=2) Zq VL (by decide) (.slice A5 (acc.length+1) c5);have XI:=TU.far (p:=⟨w.heap.size+1,2,none⟩) (by simp) (.slice A5 (acc.length+1) c5);have Xu:=VL.aC 2 (.slice A5 (acc.length+1) c5);have VK:=Zr.setCell (p:=⟨w.heap.size+1,2,none⟩) (fun _ _=> .inr (by simp)) (.slice A5 (acc.length+1) c5);have k2:=VL.cell 2;have k3:=VL.frozen 2;have k0:=VL.cell 0;have k1:=VL.cell 1;have g0:=TU.cell 0;have g1:=TU.cell 1;have g2:=TU.cell 2;have g3:=TU.frozen 0;have g4:=TU.frozen 1;have g5:=TU.frozen 2;simp at Xu k2 k0 k1 g0 g1 g2;clear jM hvd hvl bc br Ot Zq hown' hgrow hs5 hso c2 f2 Zr TU;go_wp2_with fail;have VM:=((XI.aC 0 (.bool s)).aC 1 (.bool e)).aC 2 (.slice A5 (acc.length+1) c5);simp at VM
        have Zs:∀{ty:TypeId} {vv:Value} {nn:Nat} {xs:List Value},(w4.setCell ⟨w.heap.size+1,2,none⟩ (.slice A5 (acc.length+1) c5)).ownsRow w.heap.size ty 1 vv nn xs→ty≠70→
         ((((w4.setCell ⟨w.heap.size+1,2,none⟩ (.slice A5 (acc.length+1) c5)).setCell ⟨w.heap.size,0,none⟩ (.bool s)).setCell ⟨w.heap.size,1,none⟩ (.bool e)).setCell ⟨w.heap.size,2,none⟩ (.slice A5 (acc.length+1) c5)).ownsRow w.heap.size ty 1 vv nn xs:=fun hh ht=>
         aO (i:=2) (aO (i:=1) (aO (i:=0) hh XI ht _) (XI.aC 0 (.bool s)) ht _) ((XI.aC 0 (.bool s)).aC 1 (.bool e)) ht _
        have aeE:=((VK.setCell (p:=⟨w.heap.size,0,none⟩) (fun _ _=> .inr (Nat.le_refl _)) (.bool s)).setCell (p:=⟨w.heap.size,1,none⟩) (fun _ _=> .inr (Nat.le_refl _)) (.bool e)).setCell (p:=⟨w.heap.size,2,none⟩) (fun _ _=> .inr (Nat.le_refl _)) (.slice A5 (acc.length+1) c5);have q0:=VM.cell 0;have q1:=VM.cell 1;have q2:=VM.cell 2;simp at q0 q1 q2;have RE:=lK acc D;refine ⟨rfl,.agg #[.bool s,.bool e,.slice A5 (acc.length+1) c5],by simp[results,Tryz.results70,go_sem,q0,q1,q2],aeE,.inr ⟨splitBy acc D,A5,c5,Ql.out,by rw[RE],?_⟩⟩;rw[RE];refine ⟨iV g acc acc.length++ [.slice (some ⟨g,acc.sum,none⟩) (m-acc.sum) (cap-acc.sum)],g,cap,D,?_,?_,?_⟩
        ·rw[RE];exact Zs nE (by decide)
        ·rw[wh.out];exact Zs Ow (by decide)
        ·intro i p hi;have hil:i<acc.length+1:=by
          have:=(List.getElem?_eq_some_iff.1 hi).1;rw[RE] at this;exact this
         have hpl:(iV g acc acc.length).length=acc.length:=by simp[iV]
         by_cases hik:i<acc.length
         ·obtain ⟨n,hn⟩:∃n,acc[i]? =some n:=⟨_,List.getElem?_eq_getElem hik⟩
          rw[vR acc D i n hn] at hi;injection hi with hi
          have hsn:=sU acc i n hn;have hsl:=kI acc (i+1);have hlen:p.length=n:=by rw[←hi,List.length_take,List.length_drop,wh.out];omega
          refine ⟨(acc.take i).sum,n,?_,by omega,by omega,by rw[hlen];exact hi.symm⟩;rw[List.getElem?_append_left (by omega),hlen];simp[iV,hik,(List.getElem?_eq_some_iff.1 hn).2]
         ·obtain rfl:i=acc.length:=by omega
          rw[sM] at hi;injection hi with hi
          have hlen:p.length=m-acc.sum:=by rw[←hi,List.length_drop,wh.out]
          refine ⟨acc.sum,cap-acc.sum,?_,by omega,by omega,?_⟩
          ·rw[List.getElem?_append_right (by omega),hpl,hlen];simp
          ·rw[hlen,←hi,List.take_of_length_le (by rw[List.length_drop,wh.out];omega)]
   ·have Zp:CR= .inl 9:=by rw[←Zn.out,Ov.out];simp only[jc,if_neg hz]
    have Bo:=xB.out;simp only[if_neg hz] at Bo;have HRF:=Lib.hid Zp;have RB:=Lib.hid Bo;clear Zp Bo hz xB;go_wp2_with fail;refine RB.out.mono ?_;rintro e1 w1 ⟨rfl,hr1,hk1⟩;go_wp2_with (go_at_call 69;((with_reducible refine (fI _ _).mono ?_);rintro e3 w3 ⟨rfl,rfl⟩));exact ⟨rfl,Ot.trans (hk1.mono fun _ _ e=> .inl e),.inl ⟨9,HRF.out,rfl⟩⟩
end Go.Proofs.YtiecgfahidpldaaGreat
namespace Go.Proofs.YtiecgfahidpldaaGreat
open Go.RowKit
theorem Jr (bp be:Nat) (w:World):
 CallsD Tryz.prog 65 #[.pointer (some ⟨bp,0,none⟩),.pointer (some ⟨be,0,none⟩)] .returning w fun e u' w'=>e= .returned (.tuple #[])∧u'= .returning∧w=w':=by
 have hnn:=run_eql_nil_nil (P:=Tryz.prog) w (t:=20) (by kernel_rfl);refine callsD_of_wpS Tryz.func65 rfl fun c₀ cs hu=> ?_
 apply wpS_seq;apply wpS_region;generalize hQ:Exit.thenS _ _=Q;simp[wpOpsS,go_sem,recoverD,hu,Tryz.ntmps65];subst hQ;simp only[Exit.thenS];refine wpS_of_wp ?_;change Code.wp _ _ (qQ Tryz.prog Tryz.f65 c₀ cs (c₀::cs) _) {tmps:= #[.pointer (some ⟨bp,0,none⟩),.pointer (some ⟨be,0,none⟩),.nilIface,undef,undef,.nilIface,undef,undef,undef,undef,undef,undef,undef,undef,undef,undef,undef,undef],defers:= []} w;go_wp2;cases c₀
 simp_all [qQ,bodyPostS,results,Tryz.results65]
set_option maxHeartbeats 800000 in
set_option maxRecDepth 100000 in
theorem D8 (bp be:Nat) (er:Int) (v0 v1 v2 v3 v4 v5 v6 v7 v8:Value) (w:World) (hp:aA w bp 72 #[v0,v1,v2,v3,v4,v5,v6,v7]) (he:aA w be 35 #[v8]) (hne:be≠bp):
 CallsD Tryz.prog 65 #[.pointer (some ⟨bp,0,none⟩),.pointer (some ⟨be,0,none⟩)] (.panicking [{v:= .iface 35 (.int .i64 er),recovered:=false}]) w fun e u' w'=>e= .returned (.tuple #[])∧u'= .panicking [{v:= .iface 35 (.int .i64 er),recovered:=true}]∧
  aA w' bp 72 #[.int .i64 0,.bool false,.bool false,.bool false,.int .i64 0,.bool false,.bool false,.slice none 0 0]∧aA w' be 35 #[.int .i64 er]∧Kept (fun k _=>k=bp∨k=be) w w':=by
 have hnn:=run_eql_held_nil (P:=Tryz.prog) w 20 35 (.int .i64 er) (by kernel_rfl);have hta:=sW er w;refine callsD_of_wpS Tryz.func65 rfl fun c₀ cs hu=> ?_
 apply wpS_seq;apply wpS_region;generalize hQ:Exit.thenS _ _=Q;simp[wpOpsS,go_sem,recoverD,hu,Tryz.ntmps65];subst hQ;simp only[Exit.thenS];refine wpS_of_wp ?_;change Code.wp _ _ (qQ Tryz.prog Tryz.f65 c₀ cs _ _) {tmps:= #[.pointer (some ⟨bp,0,none⟩),.pointer (some ⟨be,0,none⟩),.iface 35 (.int .i64 er),undef,undef,.iface 35 (.int .i64 er),undef,undef,undef,undef,undef,undef,undef,undef,undef,undef,undef,undef],defers:= []} w;obtain ⟨c0,c1,c2,c3,c4,c5,c6,c7⟩:=hp.eight;have f0:=hp.frozen 0;have f1:=hp.frozen 1;have f2:=hp.frozen 2;have f3:=hp.frozen 3;have f4:=hp.frozen 4;have f5:=hp.frozen 5;have f6:=hp.frozen 6;have f7:=hp.frozen 7;have c8:=he.cell 0;have f8:=he.frozen 0;simp at c8;go_wp2;refine ⟨rfl,_,rfl,.tuple #[],by simp[results,Tryz.results65],rfl,rfl,?_,?_,?_⟩
 ·exact (hp.Ba (.int .i64 0) (.bool false) (.bool false) (.bool false) (.int .i64 0) (.bool false) (.bool false) (.slice none 0 0)).far (p:=⟨be,0,none⟩) (fun e=>hne e.symm) (.int .i64 er)
 ·have:=((((((((he.far (p:=⟨bp,0,none⟩) hne (.int .i64 0)).far (p:=⟨bp,1,none⟩) hne (.bool false)).far (p:=⟨bp,2,none⟩) hne (.bool false)).far (p:=⟨bp,3,none⟩) hne (.bool false)).far (p:=⟨bp,4,none⟩) hne (.int .i64 0)).far (p:=⟨bp,5,none⟩) hne (.bool false)).far (p:=⟨bp,6,none⟩) hne (.bool false)).far (p:=⟨bp,7,none⟩) hne (.slice none 0 0)).aC 0 (.int .i64 er);simpa using this
 ·exact (((((((((Kept.refl _ w).setCell (p:=⟨bp,0,none⟩) (fun _ _=> .inl rfl) _).setCell (p:=⟨bp,1,none⟩) (fun _ _=> .inl rfl) _).setCell (p:=⟨bp,2,none⟩) (fun _ _=> .inl rfl) _).setCell (p:=⟨bp,3,none⟩) (fun _ _=> .inl rfl) _).setCell (p:=⟨bp,4,none⟩) (fun _ _=> .inl rfl) _).setCell (p:=⟨bp,5,none⟩) (fun _ _=> .inl rfl) _).setCell (p:=⟨bp,6,none⟩) (fun _ _=> .inl rfl) _).setCell (p:=⟨bp,7,none⟩) (fun _ _=> .inl rfl) _).setCell (p:=⟨be,0,none⟩) (fun _ _=> .inr rfl) _
structure iN where
 sn:Nat
 po:Bool
 sg:Bool
 la:Bool
 off:Nat
 s:Bool
 e:Bool
 ps:List (List UInt8)
def oZ (bs:List UInt8):Sum Nat iN:=
 if bs.length<2 then .inl 5
 else if val (aG bs 0 1)≠1 then .inl 9
 else if val (aG bs 1 1)=1 then
  if bs.length<4 then .inl 5
  else match gT bs (decide (val (aG bs 5 1)=1)) 32 with
   | .inl er=> .inl er
   | .inr ps=>if eP (val (aG bs 6 10):Nat) true (decide (val (aG bs 16 1)=1)) (val (aG bs 17 15):Nat) ps=true then
    .inr ⟨val (aG bs 6 10),decide (val (aG bs 2 1)=1),true,decide (val (aG bs 16 1)=1),val (aG bs 17 15),decide (val (aG bs 3 1)=0),decide (val (aG bs 4 1)=0),ps⟩ else .inl 9
 else match gT bs (decide (val (aG bs 5 1)=1)) 16 with
  | .inl er=> .inl er
  | .inr ps=>if eP (val (aG bs 6 10):Nat) false false (0:Nat) ps=true then
   .inr ⟨val (aG bs 6 10),decide (val (aG bs 2 1)=1),false,false,0,decide (val (aG bs 3 1)=0),decide (val (aG bs 4 1)=0),ps⟩ else .inl 9
def Js (w:World) (R:Sum Nat iN) (e:Ending) (w':World):Prop:=
 Below w.heap.size w w'∧
 (
  (∃er:Nat,R= .inl er∧e= .returned (.tuple #[.agg (aY 0 false false false 0 false false none 0 0),.int .i64 er]))∨
  (∃(p:iN) (A:Option Addr) (c:Nat),R= .inr p∧e= .returned (.tuple #[.agg (aY p.sn p.po p.sg p.la p.off p.s p.e A p.ps.length c),.int .i64 0])∧eY w' w.heap.size (.slice A p.ps.length c) p.ps))
theorem mD (w W:World) (R:Sum Nat iN) (er:Nat) (T:Array Value) (v0 v1 v2 v3 v4 v5 v6 v7 v8:Value) (h2:T[2]? =some (.pointer (some ⟨w.heap.size,0,none⟩))) (h3:T[3]? =some (.pointer (some ⟨w.heap.size+1,0,none⟩)))
 (hp:aA W w.heap.size 72 #[v0,v1,v2,v3,v4,v5,v6,v7]) (he:aA W (w.heap.size+1) 35 #[v8]) (hB:Below w.heap.size w W) (hR:R= .inl er):
 bodyPostD Tryz.prog Tryz.f24 (Js w R) (.panic [{v:= .iface 35 (.int .i64 er),recovered:=false}]) {tmps:=T,defers:= [{target:= .fn (.func 65) #[.pointer (some ⟨w.heap.size,0,none⟩),.pointer (some ⟨w.heap.size+1,0,none⟩)],args:= #[]}]} W:=by
 refine leaves_cons (f:=65) (args:= #[.pointer (some ⟨w.heap.size,0,none⟩),.pointer (some ⟨w.heap.size+1,0,none⟩)]) (by simp) (by simp[go_sem]) ?_;refine (D8 _ _ (er:Int) _ _ _ _ _ _ _ _ _ W hp he (by omega)).mono ?_;rintro e u' w'' ⟨rfl,rfl,hp',he',hk⟩;obtain ⟨c0,c1,c2,c3,c4,c5,c6,c7⟩:=hp'.eight;have c8:=he'.cell 0;simp at c8;refine ⟨.tuple #[.agg (aY 0 false false false 0 false false none 0 0),.int .i64 er],?_,hB.trans (hk.below (fun k _ e=>by omega) hB.size),.inl ⟨er,hR,rfl⟩⟩;simp[results,Tryz.results24,go_sem,h2,h3,c0,c1,c2,c3,c4,c5,c6,c7,c8,aY]
theorem Lt (w W:World) (R:Sum Nat iN) (T:Array Value) (p:iN) (A:Option Addr) (c Z:Nat) (h2:T[2]? =some (.pointer (some ⟨w.heap.size,0,none⟩))) (h3:T[3]? =some (.pointer (some ⟨w.heap.size+1,0,none⟩)))
 (hp:aA W w.heap.size 72 (aY p.sn p.po p.sg p.la p.off p.s p.e A p.ps.length c)) (he:aA W (w.heap.size+1) 35 #[.int .i64 0]) (hB:Below w.heap.size w W) (hR:R= .inr p) (hpo:eY W Z (.slice A p.ps.length c) p.ps) (hZ:w.heap.size≤Z):
 bodyPostD Tryz.prog Tryz.f24 (Js w R) .ret {tmps:=T,defers:= [{target:= .fn (.func 65) #[.pointer (some ⟨w.heap.size,0,none⟩),.pointer (some ⟨w.heap.size+1,0,none⟩)],args:= #[]}]} W:=by
 refine leaves_cons (f:=65) (args:= #[.pointer (some ⟨w.heap.size,0,none⟩),.pointer (some ⟨w.heap.size+1,0,none⟩)]) (by simp) (by simp[go_sem]) ?_;refine (Jr _ _ _).mono ?_;rintro e9 u9 w9 ⟨rfl,rfl,rfl⟩;unfold aY at hp;obtain ⟨c0,c1,c2,c3,c4,c5,c6,c7⟩:=hp.eight;have c8:=he.cell 0;simp at c8;refine ⟨.tuple #[.agg (aY p.sn p.po p.sg p.la p.off p.s p.e A p.ps.length c),.int .i64 0],?_,hB,.inr ⟨p,A,c,hR,rfl,hpo.base hZ⟩⟩;simp[results,Tryz.results24,go_sem,h2,h3,c0,c1,c2,c3,c4,c5,c6,c7,c8,aY]
end Go.Proofs.YtiecgfahidpldaaGreat
namespace Go.Proofs.YtiecgfahidpldaaGreat
open Go.RowKit Go.Shelf
attribute [local go_sem] Oper.semAt_some
theorem zk {bs:List UInt8} {mo:Bool} {q:Nat} {ps:List (List UInt8)} (h:gT bs mo q= .inr ps):ps.length≤64∧∀p∈ps,p.length≤32767:=by
 unfold gT at h;cases hl:oI bs mo q with
 |inl er=>rw[hl] at h;cases h
 |inr lp=>
  obtain ⟨ls,p⟩:=lp;rw[hl] at h;obtain ⟨VN,Lu⟩:=Dj hl;simp only at h;generalize bs.drop (p/8)=D at h;unfold jB at h;split at h
  ·cases h
  ·split at h
   ·cases h
   ·injection h with h
    subst h;refine ⟨by rw[lK];omega,fun x hx=> ?_⟩;obtain ⟨i,hi⟩:=List.mem_iff_getElem?.1 hx;by_cases hil:i<ls.length
    ·rw[vR ls D i _ (List.getElem?_eq_getElem hil)] at hi;injection hi with hi
     rw[←hi,List.length_take,List.length_drop];omega
    ·have aeF:i=ls.length:=by
      have:=(List.getElem?_eq_some_iff.1 hi).1;rw[lK] at this;omega
     rw[aeF,sM] at hi;injection hi with hi
     rw[←hi,List.length_drop];omega
theorem aA.RF {w:World} {g' t:Nat} {cs:Array Value} (h:aA w g' t cs) {g:Nat} (hne:g'≠g) (u0 u1 u2 u3 u4 u5 u6 u7:Value):aA ((((((((w.setCell ⟨g,0,none⟩ u0).setCell ⟨g,1,none⟩ u1).setCell ⟨g,2,none⟩ u2).setCell ⟨g,3,none⟩ u3).setCell ⟨g,4,none⟩ u4).setCell ⟨g,5,none⟩ u5).setCell ⟨g,6,none⟩ u6).setCell ⟨g,7,none⟩ u7) g' t cs:=
 (((((((h.far (p:=⟨g,0,none⟩) hne u0).far (p:=⟨g,1,none⟩) hne u1).far (p:=⟨g,2,none⟩) hne u2).far (p:=⟨g,3,none⟩) hne u3).far (p:=⟨g,4,none⟩) hne u4).far (p:=⟨g,5,none⟩) hne u5).far (p:=⟨g,6,none⟩) hne u6).far (p:=⟨g,7,none⟩) hne u7
theorem F8 {w:World} {base:Nat} {e t:TypeId} {v:Value} {n g:Nat} {xs:List Value} {cs:Array Value} (h:w.ownsRow base e 1 v n xs) (b:aA w g t cs) (hne:e≠t) (u0 u1 u2 u3 u4 u5 u6 u7:Value):(((((((((w.setCell ⟨g,0,none⟩ u0).setCell ⟨g,1,none⟩ u1).setCell ⟨g,2,none⟩ u2).setCell ⟨g,3,none⟩ u3).setCell ⟨g,4,none⟩ u4).setCell ⟨g,5,none⟩ u5).setCell ⟨g,6,none⟩ u6).setCell ⟨g,7,none⟩ u7)).ownsRow base e 1 v n xs:=by
 have b0:=b.aC 0 u0;have b1:=b0.aC 1 u1;have b2:=b1.aC 2 u2;have b3:=b2.aC 3 u3;have b4:=b3.aC 4 u4;have b5:=b4.aC 5 u5;have b6:=b5.aC 6 u6;exact aO (i:=7) (aO (i:=6) (aO (i:=5) (aO (i:=4) (aO (i:=3) (aO (i:=2) (aO (i:=1) (aO (i:=0) h b hne _) b0 hne _) b1 hne _) b2 hne _) b3 hne _) b4 hne _) b5 hne _) b6 hne _
set_option maxRecDepth 100000 in
set_option maxHeartbeats 8000000 in
theorem wE (A:Option Addr) (n c:Nat) (bs:List UInt8) (w:World) (h:Sl w w.heap.size A n c (cu bs)) (hsm:n≤1000000):
 Calls Tryz.prog 24 #[.slice A n c] w (Js w (oZ bs)):=by
 have hlen:bs.length=n:=by simpa using h.len
 obtain ⟨R,hR⟩:∃R,oZ bs=R:=⟨_,rfl⟩
 rw[hR];have HR:=Lib.hid hR;clear hR;have hB0:=((Below.refl w.heap.size w).alloc (Nat.le_refl _) (.cells (aY 0 false false false 0 false false none 0 0) 72)).alloc (by simp) (.cells #[.int .i64 0] 35);have hs0:=(h.below hB0).more hB0.size;have hnr:=AU A n c bs _ hs0 (by omega);have bp0:=(aA.new w 72 (aY 0 false false false 0 false false none 0 0)).alloc (.cells #[.int .i64 0] 35);have MK:=aA.new (w.alloc (.cells (aY 0 false false false 0 false false none 0 0) 72)) 35 #[.int .i64 0];rw[World.size_alloc] at MK;unfold aY at hnr hB0 bp0 MK;have HNR:=Lib.hid hnr;have HB0:=Lib.hid hB0;have sN:=Lib.hid hsm;have iM:=Lib.hid hlen;clear hnr hB0 hs0 hsm hlen
 go_enter_defers Tryz.func24,Tryz.ntmps24
 go_wp2_with fail;refine HNR.out.mono ?_;rintro e1 w1 ⟨r,v,rfl,hr,hrd,hb1⟩;have bp1:=bp0.below hb1 bp0.lt;have yx:=MK.below hb1 MK.lt;have hB1:Below w.heap.size w w1:=HB0.out.trans (hb1.mono HB0.out.size);have ak0:w.heap.size+1<r:=by simp at hr;omega
 have hrl:=hrd.1.lt;clear bp0 MK hb1 hr HNR HB0;have hW2:∃w2,(w1.alloc (.cells #[.pointer (some ⟨r,0,none⟩),.slice A n c] 128)).alloc (.cells #[.int .i64 1,.int .i64 1,.int .i64 1,.int .i64 1,.int .i64 1,.int .i64 1,.int .i64 10] 3)=w2:=⟨_,rfl⟩
 obtain ⟨w2,hw2⟩:=hW2;have XJ:=(bp1.alloc (.cells #[.pointer (some ⟨r,0,none⟩),.slice A n c] 128)).alloc (.cells #[.int .i64 1,.int .i64 1,.int .i64 1,.int .i64 1,.int .i64 1,.int .i64 1,.int .i64 10] 3);have Bd:=(yx.alloc (.cells #[.pointer (some ⟨r,0,none⟩),.slice A n c] 128)).alloc (.cells #[.int .i64 1,.int .i64 1,.int .i64 1,.int .i64 1,.int .i64 1,.int .i64 1,.int .i64 10] 3);rw[hw2] at XJ Bd;have hB2:Below w.heap.size w w2:=by rw[←hw2];exact (hB1.alloc hB1.size _).alloc (by have:=hB1.size;simp;omega) _
 have F6:qx w2 r v bs 0:=by rw[←hw2];exact ⟨(hrd.1.alloc _).alloc _,(hrd.2.alloc _).alloc _⟩
 have hd2:aA w2 w1.heap.size 128 #[.pointer (some ⟨r,0,none⟩),.slice A n c]:=by rw[←hw2];exact (aA.new w1 _ _).alloc _
 have hb2:aA w2 (w1.heap.size+1) 3 (jE [1,1,1,1,1,1,10]).toArray:=by
  rw[←hw2];have:=aA.new (w1.alloc (.cells #[.pointer (some ⟨r,0,none⟩),.slice A n c] 128)) 3 #[.int .i64 1,.int .i64 1,.int .i64 1,.int .i64 1,.int .i64 1,.int .i64 1,.int .i64 10];rw[World.size_alloc] at this;exact this
 go_wp2_with fail;clear hrd bp1 yx hB1 hw2;have hdr:w1.heap.size≠r:=by omega
 generalize w1.heap.size=d at*;have hbl:bs.length≤1000000:=by have:=iM.out;have:=sN.out;omega
 by_cases h2:bs.length<2
 ·have Ls:R= .inl 5:=by rw[←HR.out];unfold oZ;rw[if_pos h2]
  have Bq:=Lib.hid Ls;clear Ls;have hga:=sV r (d+1) v bs 0 [1,1,1,1,1,1,10] w2 F6 (by omega) (by simp) (by simp) hb2 (by omega) (by simp;omega);simp only[List.length_cons,List.length_nil,Nat.zero_add,Nat.reduceAdd] at hga;refine hga.mono ?_;rintro e3 w3 ⟨rfl,AX,hk3⟩;have hB3:Below w.heap.size w w3:=hB2.trans (hk3.below (B:=w.heap.size) (fun k _ e=>by have:=hB2.size;omega) hB2.size);have Ib:=XJ.kept hk3 (by have:=XJ.lt;omega);have yZ:=Bd.kept hk3 (by have:=Bd.lt;omega);clear hga h2 hbl;go_wp2_with (go_at_call 67;((with_reducible refine (Cz _ _ _ _ rfl _).mono ?_);rintro e4 w4 ⟨rfl,rfl⟩));exact mD w _ R 5 _ _ _ _ _ _ _ _ _ _ rfl rfl Ib yZ hB3 Bq.out
 ·have hga:=BZ r (d+1) v bs 0 [1,1,1,1,1,1,10] w2 F6 (by omega) (by simp) (by simp) hb2 (by simp;omega);simp only[List.length_cons,List.length_nil,Nat.zero_add,Nat.reduceAdd] at hga;refine hga.mono ?_;rintro e3 w3 ⟨vo,rfl,jM,AX,hk3⟩;have hB3:Below w.heap.size w w3:=hB2.trans (hk3.below (B:=w.heap.size) (fun k _ e=>by have:=hB2.size;omega) hB2.size);have Ib:=XJ.kept hk3 (by have:=XJ.lt;omega);have yZ:=Bd.kept hk3 (by have:=Bd.lt;omega);have hd3:=hd2.kept hk3 (by have:=hd2.lt;omega);have vG:=HR.out;unfold oZ at vG;rw[if_neg h2] at vG;have hgv:getAll bs 0 [1,1,1,1,1,1,10]= [val (aG bs 0 1),val (aG bs 1 1),val (aG bs 2 1),val (aG bs 3 1),val (aG bs 4 1),val (aG bs 5 1),val (aG bs 6 10)]:=rfl;rw[hgv] at jM;have hx6:val (aG bs 6 10)<1024:=by have:=Di (aG bs 6 10);rw[ko] at this;exact this
  have ak1:=hd2.lt;have DD:2≤bs.length:=by omega
  clear hgv hga hb2 F6 hB2 XJ Bd hd2 hk3 h2;simp only[List.length_cons,List.length_nil,Nat.zero_add,Nat.reduceAdd] at jM;rw[show (0:Nat)+ [1,1,1,1,1,1,10].sum=16 from rfl] at AX;generalize val (aG bs 0 1)=x0 at*;generalize val (aG bs 1 1)=x1 at*;generalize val (aG bs 2 1)=x2 at*;generalize val (aG bs 3 1)=x3 at*;generalize val (aG bs 4 1)=x4 at*;generalize val (aG bs 5 1)=x5 at*;generalize val (aG bs 6 10)=x6 at*;obtain ⟨gl,aeG,rfl,hgl,lN⟩:=jM.form (by omega);have l0:=jM.cellAt 0 (by omega);have l1:=jM.cellAt 1 (by omega);have l2:=jM.cellAt 2 (by omega);have l6:=jM.cellAt 6 (by omega);simp[Dt] at l0 l1 l2 l6;by_cases h0:x0=1
  ·subst h0;simp only[ne_eq,not_true,if_false] at vG;have HR1:=Lib.hid vG;clear vG;have hwx:IntKind.i64.wrap (x6:Int)=x6:=IntWalk.i64_in _ (by omega);have bq1:((x1:Int)==1)=decide (x1=1):=by rw[Bool.eq_iff_iff];simp;omega
   have bq2:((x2:Int)==1)=decide (x2=1):=by rw[Bool.eq_iff_iff];simp;omega
   obtain ⟨sg,hsg⟩:∃sg,decide (x1=1)=sg:=⟨_,rfl⟩
   obtain ⟨po,hpo⟩:∃po,decide (x2=1)=po:=⟨_,rfl⟩
   rw[hsg] at bq1;rw[hpo] at bq2 HR1;have l1':w3.drew.cell? ⟨gl,1,none⟩=some (.int .u64 x1):=l1;have l2':w3.drew.cell? ⟨gl,2,none⟩=some (.int .u64 x2):=l2;have l6':w3.drew.cell? ⟨gl,6,none⟩=some (.int .u64 x6):=l6;have HSG:=Lib.hid hsg;clear hsg hpo;obtain ⟨p0,p1,p2,p3,p4,p5,p6,p7⟩:=Ib.eight;have f0:=Ib.frozen 0;have f1:=Ib.frozen 1;have f2:=Ib.frozen 2;have f3:=Ib.frozen 3;have f4:=Ib.frozen 4;have f5:=Ib.frozen 5;have f6:=Ib.frozen 6;have f7:=Ib.frozen 7;go_wp2_with (first|(go_at_call 67;((with_reducible refine (zh _ _ _ _).mono ?_);rintro e4 w4 ⟨rfl,rfl⟩))|(go_at_call 69;((with_reducible refine (iI _ _).mono ?_);rintro e4 w4 ⟨rfl,rfl⟩)));refine wp_region_noPanic ?_
   go_region
   refine NoPanic.normal ?_;have TV:=(Ib.Ba (.int .i64 x6) (.bool po) (.bool sg) (.bool false) (.int .i64 0) (.bool false) (.bool false) (.slice none 0 0)).drew;have VO:=(yZ.RF (g:=w.heap.size) (by omega) (.int .i64 x6) (.bool po) (.bool sg) (.bool false) (.int .i64 0) (.bool false) (.bool false) (.slice none 0 0)).drew;have hd4:=(hd3.RF (g:=w.heap.size) (by omega) (.int .i64 x6) (.bool po) (.bool sg) (.bool false) (.int .i64 0) (.bool false) (.bool false) (.slice none 0 0)).drew;have F7:=World.ownsRow.drew' (F8 jM Ib (by decide) (.int .i64 x6) (.bool po) (.bool sg) (.bool false) (.int .i64 0) (.bool false) (.bool false) (.slice none 0 0));have hB4:=(iG hB3 (Nat.le_refl _) (.int .i64 x6) (.bool po) (.bool sg) (.bool false) (.int .i64 0) (.bool false) (.bool false) (.slice none 0 0)).drew;have TW:=(AX.1.RF (g:=w.heap.size) (by omega) (.int .i64 x6) (.bool po) (.bool sg) (.bool false) (.int .i64 0) (.bool false) (.bool false) (.slice none 0 0)).drew;have TX:=World.ownsRow.drew' (F8 AX.2 Ib (by decide) (.int .i64 x6) (.bool po) (.bool sg) (.bool false) (.int .i64 0) (.bool false) (.bool false) (.slice none 0 0));clear p0 p1 p2 p3 p4 p5 p6 p7 f0 f1 f2 f3 f4 f5 f6 f7 Ib yZ hd3 jM hB3 AX l0 l1 l2 l6 l1' l2' l6' bq1 bq2 hwx
   generalize ((((((((w3.setCell ⟨w.heap.size,0,none⟩ (.int .i64 x6)).setCell ⟨w.heap.size,1,none⟩ (.bool po)).setCell ⟨w.heap.size,2,none⟩ (.bool sg)).setCell ⟨w.heap.size,3,none⟩ (.bool false)).setCell ⟨w.heap.size,4,none⟩ (.int .i64 0)).setCell ⟨w.heap.size,5,none⟩ (.bool false)).setCell ⟨w.heap.size,6,none⟩ (.bool false)).setCell ⟨w.heap.size,7,none⟩ (.slice none 0 0)).drew=w4 at*;have Fe:qx w4 r v bs 16:=⟨TW,TX⟩;clear TW TX
   replace F7:=aW F7 (show w.heap.size+2≤_ by omega)
   obtain ⟨p0,p1,p2,p3,p4,p5,p6,p7⟩:=TV.eight;go_upto_if 41 with (fail)
   go_cut [6] from 42 to 60 (fun s6 wx=>∃(la:Bool) (off q:Nat),aA wx w.heap.size 72 #[.int .i64 x6,.bool po,.bool sg,.bool la,.int .i64 off,.bool false,.bool false,.slice none 0 0]∧aA wx (w.heap.size+1) 35 #[.int .i64 0]∧aA wx d 128 #[.pointer (some ⟨r,0,none⟩),.slice A n c]∧
    wx.ownsRow (w.heap.size+2) 133 1 (.slice (some ⟨gl,0,none⟩) 7 aeG) 7 (Dt [1,x1,x2,x3,x4,x5,x6])∧qx wx r v bs q∧Below w.heap.size w wx∧q≤8*bs.length∧off≤32767∧
    R=(match gT bs (decide (x5=1)) q with| .inl er=> .inl er| .inr ps=>if eP (x6:Nat) sg la (off:Nat) ps=true then .inr ⟨x6,po,sg,la,off,decide (x3=0),decide (x4=0),ps⟩ else .inl 9))
   case first=>
    have VH:=hd4.cell 0;simp at VH;by_cases hx1:x1=1
    ·have hsg:=HSG.out;rw[decide_eq_true hx1] at hsg;have hR2:=HR1.out;rw[if_pos hx1] at hR2;subst hsg;have RG:=TV.alloc (.cells #[.int .i64 1,.int .i64 15] 3);have FM:=VO.alloc (.cells #[.int .i64 1,.int .i64 15] 3);have hd5:=hd4.alloc (.cells #[.int .i64 1,.int .i64 15] 3);have nE:=F7.alloc (.cells #[.int .i64 1,.int .i64 15] 3);have oD:=hB4.alloc hB4.size (.cells #[.int .i64 1,.int .i64 15] 3);have Ox:qx (w4.alloc (.cells #[.int .i64 1,.int .i64 15] 3)) r v bs 16:=⟨Fe.1.alloc _,Fe.2.alloc _⟩;have hb5:aA (w4.alloc (.cells #[.int .i64 1,.int .i64 15] 3)) w4.heap.size 3 (jE [1,15]).toArray:=aA.new w4 3 #[.int .i64 1,.int .i64 15];by_cases h4:bs.length<4
     ·rw[if_pos h4] at hR2;have HR2:=Lib.hid hR2.symm;have hga:=sV r w4.heap.size v bs 16 [1,15] _ Ox (by omega) (by simp) (by simp) hb5 (by omega) (by simp;omega);simp only[List.length_cons,List.length_nil,Nat.zero_add,Nat.reduceAdd] at hga;have Nc:=Lib.hid hga;clear hga hR2 h4 hx1;go_wp2_with fail;refine Nc.out.mono ?_;rintro e6 w6 ⟨rfl,RH,pP⟩;have Ic:Below w.heap.size w w6:=oD.trans (pP.below (B:=w.heap.size) (fun k _ e=>by have:=oD.size;omega) oD.size);have Ga:=RG.kept pP (by have:=RG.lt;omega);have RI:=FM.kept pP (by have:=FM.lt;omega);go_wp2_with (go_at_call 67;((with_reducible refine (Cz _ _ _ _ rfl _).mono ?_);rintro e7 w7 ⟨rfl,rfl⟩));exact mD w _ R 5 _ _ _ _ _ _ _ _ _ _ rfl rfl Ga RI Ic HR2.out
     ·rw[if_neg h4] at hR2;have hga:=BZ r w4.heap.size v bs 16 [1,15] _ Ox (by omega) (by simp) (by simp) hb5 (by simp;omega);simp only[List.length_cons,List.length_nil,Nat.zero_add,Nat.reduceAdd] at hga;have Nc:=Lib.hid hga;have HR2:=Lib.hid hR2.symm;have ak5:4≤bs.length:=by omega
      clear hga hR2 h4 hx1;go_wp2_with fail;refine Nc.out.mono ?_;rintro e6 w6 ⟨vm,rfl,Zt,RH,pP⟩;have Ic:Below w.heap.size w w6:=oD.trans (pP.below (B:=w.heap.size) (fun k _ e=>by have:=oD.size;omega) oD.size);have Ga:=RG.kept pP (by have:=RG.lt;omega);have RI:=FM.kept pP (by have:=FM.lt;omega);have hd6:=hd5.kept pP (by have:=hd5.lt;omega);have aeH:=kH nE pP (fun j o _ hj e=>by have:=(nE.lt j hj);obtain rfl:gl=j:=(by simpa[Value.ownBlock] using hj);omega);have hgv:getAll bs 16 [1,15]= [val (aG bs 16 1),val (aG bs 17 15)]:=rfl;rw[hgv] at Zt;have hx8:val (aG bs 17 15)<32768:=by have:=Di (aG bs 17 15);rw[ko] at this;exact this
      have TS:=HR2.out;clear hgv HR2;simp only[List.length_cons,List.length_nil,Nat.zero_add,Nat.reduceAdd] at Zt;rw[show (16:Nat)+ [1,15].sum=32 from rfl] at RH;generalize val (aG bs 16 1)=y0 at*;generalize val (aG bs 17 15)=y1 at*;have HR3:=Lib.hid TS;clear TS;obtain ⟨gm,ak6,rfl,hgm,ak7⟩:=Zt.form (by omega);have m0:=Zt.cellAt 0 (by omega);have m1:=Zt.cellAt 1 (by omega);simp[Dt] at m0 m1;have m0':w6.drew.cell? ⟨gm,0,none⟩=some (.int .u64 y0):=m0;have m1':w6.drew.cell? ⟨gm,1,none⟩=some (.int .u64 y1):=m1;have hwy:IntKind.i64.wrap (y1:Int)=y1:=IntWalk.i64_in _ (by omega);have bqy:((y0:Int)==1)=decide (y0=1):=by rw[Bool.eq_iff_iff];simp;omega
      obtain ⟨la,hla⟩:∃la,decide (y0=1)=la:=⟨_,rfl⟩
      rw[hla] at bqy HR3;clear hla;obtain ⟨z0,z1,z2,z3,z4,z5,z6,z7⟩:=Ga.eight;have f3:=Ga.frozen 3;have f4:=Ga.frozen 4;go_wp2_with (go_at_call 67;((with_reducible refine (zh _ _ _ _).mono ?_);rintro e7 w7 ⟨rfl,rfl⟩));refine wp_region_noPanic ?_
      go_region
      refine NoPanic.normal ?_;go_wp2_with fail;go_meet;have XK:=((Ga.aC 3 (.bool la)).aC 4 (.int .i64 y1)).drew;simp at XK;refine ⟨la,y1,32,XK,((RI.far (p:=⟨w.heap.size,3,none⟩) (by simp) (.bool la)).far (p:=⟨w.heap.size,4,none⟩) (by simp) (.int .i64 y1)).drew,((hd6.far (p:=⟨w.heap.size,3,none⟩) (by simp;omega) (.bool la)).far (p:=⟨w.heap.size,4,none⟩) (by simp;omega) (.int .i64 y1)).drew,
       World.ownsRow.drew' (aO (i:=4) (aO (i:=3) aeH Ga (by decide) (.bool la)) (Ga.aC 3 (.bool la)) (by decide) _),
       ⟨((RH.1.far (p:=⟨w.heap.size,3,none⟩) (by simp;omega) (.bool la)).far (p:=⟨w.heap.size,4,none⟩) (by simp;omega) (.int .i64 y1)).drew,World.ownsRow.drew' (aO (i:=4) (aO (i:=3) RH.2 Ga (by decide) (.bool la)) (Ga.aC 3 (.bool la)) (by decide) _)⟩,
       ((Ic.setCell (p:=⟨w.heap.size,3,none⟩) (by simp) (.bool la)).setCell (p:=⟨w.heap.size,4,none⟩) (by simp) (.int .i64 y1)).drew,by omega,by omega,HR3.out⟩
    ·have hsg:=HSG.out;rw[decide_eq_false hx1] at hsg;have hR2:=HR1.out;rw[if_neg hx1] at hR2;subst hsg;have HR2:=Lib.hid hR2.symm;clear hR2 hx1;go_wp2_with fail;go_meet;exact ⟨false,0,16,TV,VO,hd4,F7,Fe,hB4,by omega,by omega,HR2.out⟩
   case rest=>
    obtain ⟨la,off,q,RG,FM,hd5,nE,Ox,oD,hq,hoff,Ls⟩:=hcut;have Bq:=Lib.hid Ls;clear Ls HR1 HR p0 p1 p2 p3 p4 p5 p6 p7 TV VO hd4 F7 Fe hB4;have l3:=nE.cellAt 3 (by omega);have l4:=nE.cellAt 4 (by omega);have l5:=nE.cellAt 5 (by omega);simp[Dt] at l3 l4 l5;have b3:((x3:Int)==0)=decide (x3=0):=by rw[Bool.eq_iff_iff];simp
    have b4:((x4:Int)==0)=decide (x4=0):=by rw[Bool.eq_iff_iff];simp
    have b5:((x5:Int)==1)=decide (x5=1):=by rw[Bool.eq_iff_iff];simp;omega
    generalize decide (x3=0)=s at*;generalize decide (x4=0)=e at*;generalize decide (x5=1)=mo at*;have hch:=Lr r d v A n c bs s e mo q wc.drew Ox hd5.drew (fun W hW=>(h.below (oD.drew.trans (hW.below (B:=w.heap.size) (fun k _ e=>by have:=oD.size;simp at e;omega) oD.size))).more (by have:=oD.size;have:=hW.size;simp at this;omega)) (by omega) hq;have oF:=Lib.hid hch;clear hch;go_wp2_with fail;refine wp_region_still_tail 13 (by kernel_rfl) (by kernel_rfl) ?_;simp only[List.take_succ_cons,List.take_zero,List.drop_succ_cons,List.drop_zero]
    still_step
    still_step
    still_step
    still_step
    still_step
    still_step
    still_step
    still_step
    still_step
    still_step
    still_step
    still_step
    still_step
    refine wpStill_nil ?_;change wpList _ _ _ _ _ wc.drew
    replace RG:=RG.drew
    replace FM:=FM.drew
    replace oD:=oD.drew
    clear hd5 nE Ox l3 l4 l5 b3 b4 b5;have hwc:w.heap.size+1<wc.drew.heap.size:=FM.lt;generalize wc.drew=w5 at*;go_wp2_with fail;refine oF.out.mono ?_;rintro e6 w6 ⟨pP,h6⟩;have Ic:Below w.heap.size w w6:=oD.trans (pP.below (B:=w.heap.size) (fun k _ e=>by omega) oD.size);have Ga:=RG.kept pP (by omega);have RI:=FM.kept pP (by omega);rcases h6 with ⟨er,hl,rfl⟩|⟨ps,Ao,co,hl,rfl,hpo⟩
    ·have NM:=Lib.hid (show R= .inl er by rw[Bq.out,hl]);clear hl;go_wp2;exact mD w _ R er _ _ _ _ _ _ _ _ _ _ rfl rfl Ga RI Ic NM.out
    ·have hRp:R=if eP (x6:Nat) sg la (off:Nat) ps=true then .inr ⟨x6,po,sg,la,off,s,e,ps⟩ else .inl 9:=by rw[Bq.out,hl]
     have Hu:=Lib.hid hRp;have hcp:=Lib.hid (zk hl);clear hRp hl Bq oF oD RG FM;obtain ⟨z0,z1,z2,z3,z4,z5,z6,z7⟩:=Ga.eight;have f5:=Ga.frozen 5;have f6:=Ga.frozen 6;have f7:=Ga.frozen 7;have XK:=((Ga.aC 5 (.bool s)).aC 6 (.bool e)).aC 7 (.slice Ao ps.length co);have be7:=((RI.far (p:=⟨w.heap.size,5,none⟩) (by simp) (.bool s)).far (p:=⟨w.heap.size,6,none⟩) (by simp) (.bool e)).far (p:=⟨w.heap.size,7,none⟩) (by simp) (.slice Ao ps.length co);have II:=((Ic.setCell (p:=⟨w.heap.size,5,none⟩) (by simp) (.bool s)).setCell (p:=⟨w.heap.size,6,none⟩) (by simp) (.bool e)).setCell (p:=⟨w.heap.size,7,none⟩) (by simp) (.slice Ao ps.length co);have Zu:eY (((w6.setCell ⟨w.heap.size,5,none⟩ (.bool s)).setCell ⟨w.heap.size,6,none⟩ (.bool e)).setCell ⟨w.heap.size,7,none⟩ (.slice Ao ps.length co)) w5.heap.size (.slice Ao ps.length co) ps:=
      hpo.kept (fun k o hk ho=>by
       rw[Below.heap_setCell _ _ _ k (by simp;omega),Below.heap_setCell _ _ _ k (by simp;omega),Below.heap_setCell _ _ _ k (by simp;omega)];exact ho)
     simp at XK;obtain ⟨Ax,cx,yK,hvx,wR⟩:=Zu.Nh;injection hvx with hx1 _ hx2
     subst hx1 hx2;have hva:=oP x6 po sg la off s e Ao ps.length co yK ps _ wR (by have:=hcp.out.1;omega) (fun p hp=>by have:=hcp.out.2 p hp;omega);unfold aY at hva;have MJ:=Lib.hid hva;have Tz:=Lib.hid Zu;clear hva wR;go_wp2_with fail;refine MJ.out.mono ?_;rintro e8 w8 ⟨rfl,tC⟩;have Oy:=XK.below tC XK.lt;have be8:=be7.below tC be7.lt;have Qb:=II.trans (tC.mono II.size);by_cases hvv:eP (x6:Nat) sg la (off:Nat) ps=true
     ·have EM:=Lib.hid (show R= .inr ⟨x6,po,sg,la,off,s,e,ps⟩ by rw[Hu.out,if_pos hvv]);rw[hvv];clear hvv;have Zv:eY w8 w5.heap.size (.slice Ao ps.length co) ps:=Tz.out.kept (fun k o _ ho=>(tC.block k (lt_of_heap ho)).trans ho);have aeI:=Lib.hid Zv;clear Zv;clear z0 z1 z2 z3 z4 z5 z6 z7 f5 f6 f7;obtain ⟨z0,z1,z2,z3,z4,z5,z6,z7⟩:=Oy.eight;have f0:=Oy.frozen 0;have f1:=Oy.frozen 1;have f2:=Oy.frozen 2;have f3:=Oy.frozen 3;have f4:=Oy.frozen 4;have f5:=Oy.frozen 5;have f6:=Oy.frozen 6;have f7:=Oy.frozen 7;have f8:=be8.frozen 0;have z8:=be8.cell 0;simp at z8;go_wp2_with (go_at_call 69;((with_reducible refine (iI _ _).mono ?_);rintro e9 w9 ⟨rfl,rfl⟩));have bp9:=(Oy.Ba (.int .i64 x6) (.bool po) (.bool sg) (.bool la) (.int .i64 off) (.bool s) (.bool e) (.slice Ao ps.length co)).far (p:=⟨w.heap.size+1,0,none⟩) (by simp) (.int .i64 0);have be9:=(be8.RF (g:=w.heap.size) (by omega) (.int .i64 x6) (.bool po) (.bool sg) (.bool la) (.int .i64 off) (.bool s) (.bool e) (.slice Ao ps.length co)).aC 0 (.int .i64 0);have VP:=(iG Qb (Nat.le_refl _) (.int .i64 x6) (.bool po) (.bool sg) (.bool la) (.int .i64 off) (.bool s) (.bool e) (.slice Ao ps.length co)).setCell (p:=⟨w.heap.size+1,0,none⟩) (by simp) (.int .i64 0);refine Lt w _ R _ ⟨x6,po,sg,la,off,s,e,ps⟩ Ao co w5.heap.size rfl rfl bp9 be9 VP EM.out (aeI.out.kept (fun k o hk ho=> ?_)) (by omega)
      have hs:=fun (X:World) (g i:Nat) (u:Value) (hg:g<w5.heap.size)=>Below.heap_setCell X ⟨g,i,none⟩ u k (by simp;omega)
      rw[hs _ _ _ _ (by omega),hs _ _ _ _ (by omega),hs _ _ _ _ (by omega),hs _ _ _ _ (by omega),hs _ _ _ _ (by omega),hs _ _ _ _ (by omega),hs _ _ _ _ (by omega),hs _ _ _ _ (by omega),hs _ _ _ _ (by omega)];exact ho
     ·have EM:=Lib.hid (show R= .inl 9 by rw[Hu.out,if_neg hvv]);rw[Bool.not_eq_true] at hvv;rw[hvv];clear hvv;go_wp2_with (go_at_call 69;((with_reducible refine (fI _ _).mono ?_);rintro e9 w9 ⟨rfl,rfl⟩));exact mD w _ R 9 _ _ _ _ _ _ _ _ _ _ rfl rfl Oy be8 Qb EM.out
  ·rw[if_pos h0] at vG;have HR1:=Lib.hid vG.symm;have hx0:((x0:Int)==1)=false:=by simp;omega
   clear vG h0;go_wp2_with (first|(go_at_call 67;((with_reducible refine (zh _ _ _ _).mono ?_);rintro e4 w4 ⟨rfl,rfl⟩))|(go_at_call 69;((with_reducible refine (fI _ _).mono ?_);rintro e4 w4 ⟨rfl,rfl⟩)));exact mD w _ R 9 _ _ _ _ _ _ _ _ _ _ rfl rfl Ib yZ hB3 HR1.out
end Go.Proofs.YtiecgfahidpldaaGreat
namespace Go.Proofs.YtiecgfahidpldaaGreat
section
open Go.RowKit Go.Shelf
attribute [local go_sem] Oper.semAt_some
section
variable {D F:Nat→Prop} {g:Nat} {c:Cf} {st:Sd} {vq vo:Value} {vs os:List Value} {w:World}
def TY (w:World) (D F:Nat→Prop) (g:Nat) (c:Cf) (R:Sd × Int) (e:Ending) (w':World):Prop:=e= .returned (.int .i64 R.2)∧lZ w D F g c R.1 w'
set_option maxRecDepth 10000 in
set_option maxHeartbeats 1000000 in
theorem Gb (h:dY w D F g c st vq vs vo os) (ht:M8 c) (hsum:aZ st≤1048576) (NH:st.queue.length≤1048576) {A:Option Addr} {n cc:Nat} {x:List UInt8} (hx:Sl w w.heap.size A n cc (cu x)):
 Calls Tryz.prog 48 #[.pointer (some ⟨g,0,none⟩),.slice A n cc] w (TY w D F g c (eB c st x)):=by
 have hch:=gL h ht.timer.1;have oF:=Lib.hid hch;have HH:=Lib.hid h;have hxl:x.length=n:=by have:=hx.len;simpa using this
 have hcap:=hx.cap;have hmx:=hx.mx;clear hch;cases hf:st.failed with
 |true=>
  rw[hf] at oF;have hfin:eB c st x=(st,8):=by unfold eB;rw[if_pos hf]
  rw[hfin];simp only[if_pos] at oF;clear h hf hfin;go_enter Tryz.func48,Tryz.ntmps48;go_wp2_with fail;refine oF.out.mono ?_;rintro e1 w1 ⟨rfl,rfl⟩;go_wp2;go_ret;exact ⟨rfl,HH.out.o (Kept.refl _ w)⟩
 |false=>
  rw[hf] at oF;simp only[Bool.false_eq_true,if_false] at oF;by_cases h0:n=0
  ·have hfin:eB c st x=(st,2):=by unfold eB;rw[if_neg (by simp[hf]),if_pos (.inl (by omega))]
   rw[hfin];have d0:((n:Int)==0)=true:=by simp;omega
   have H0:=Lib.hid h0;clear h hf hfin h0 hx hxl;go_enter Tryz.func48,Tryz.ntmps48;go_wp2_with fail;refine oF.out.mono ?_;rintro e1 w1 ⟨rfl,rfl⟩;go_wp2;go_ret;exact ⟨rfl,HH.out.o (Kept.refl _ w)⟩
  have d0:((n:Int)==0)=false:=by simp;omega
  by_cases h9:9000<n
  ·have hfin:eB c st x=(st,2):=by unfold eB;rw[if_neg (by simp[hf]),if_pos (.inr (by omega))]
   rw[hfin];have d1:decide ((9000:Int)<n)=true:=by simp;omega
   clear h hf hfin hx hxl;go_enter Tryz.func48,Tryz.ntmps48;go_wp2_with fail;refine oF.out.mono ?_;rintro e1 w1 ⟨rfl,rfl⟩;go_wp2;go_ret;exact ⟨rfl,HH.out.o (Kept.refl _ w)⟩
  have d1:decide ((9000:Int)<n)=false:=by simp;omega
  have E7:=fun k=>uY (h.drewN k) hsum
  have Zm:=Lib.hid E7;have y6:=h.blk.cell 6;simp[dh] at y6;by_cases hfu:c.cap<(aZ st:Int)+(n:Int)
  ·have hfin:eB c st x=(st,7):=by unfold eB;rw[if_neg (by simp[hf]),if_neg (by omega),if_pos (by omega)]
   rw[hfin];have d2:decide (c.cap<(aZ st:Int)+(n:Int))=true:=decide_eq_true hfu;clear h hf hfin hx hxl E7;generalize aZ st=H at*;have hwr:IntKind.i64.wrap ((H:Int)+n)=(H:Int)+n:=IntWalk.i64_in _ (by omega);go_enter Tryz.func48,Tryz.ntmps48;go_wp2_with fail;refine oF.out.mono ?_;rintro e1 w1 ⟨rfl,rfl⟩;go_wp2_with fail
   go_quiet ((go_at_call 99;exact Calls.quiet_of_same ((Zm.out _).mono fun _ _ hh=>⟨hh.1,hh.2.symm⟩)))
   go_wp2;go_ret;exact ⟨rfl,(HH.out.o (Kept.refl _ w)).drewN _⟩
  ·have hfin:eB c st x=(gI st x,0):=by unfold eB;rw[if_neg (by simp[hf]),if_neg (by omega),if_neg (by omega)]
   rw[hfin];have d2:decide (c.cap<(aZ st:Int)+(n:Int))=false:=decide_eq_false hfu;generalize aZ st=H at*;have hwr:IntKind.i64.wrap ((H:Int)+n)=(H:Int)+n:=IntWalk.i64_in _ (by omega);obtain ⟨j0,hj0,hm0,hm1,hm2⟩:=info_parts lD;have hcl:=fun k=>jU A n cc x (w.drewN k) (hx.drewN k) (by omega)
   have pJ:=Lib.hid hcl;have y7:=h.blk.cell 7;have f7:=h.blk.frozen 7;simp[dh] at y7;obtain ⟨Av,cv,rfl,hsv⟩:=h.qr.sl;have hgl:=h.blk.lt;clear h hf hfin E7 hcl hsv;go_enter Tryz.func48,Tryz.ntmps48;go_wp2_with fail;refine oF.out.mono ?_;rintro e1 w1 ⟨rfl,rfl⟩;go_wp2_with fail
   go_quiet ((go_at_call 99;exact Calls.quiet_of_same ((Zm.out _).mono fun _ _ hh=>⟨hh.1,hh.2.symm⟩)))
   go_wp2_with fail;have CB:=HH.out.drewN (nq);have hk0:Kept (fun k _=>D k) w (w.drewN nq):=(Kept.refl _ w).iA nq;have hcl0:Calls Tryz.prog 46 #[.slice A n cc] (w.drewN nq).drew (qi (w.drewN nq).heap.size 5 (w.drewN nq).drew n (cu x)):=pJ.out (nq+1);have hz0:=Lib.hid (show (w.drewN nq).heap.size=w.heap.size from rfl);generalize w.drewN nq=w0 at*;have x0:=CB.blk.cell 7;have f0:=CB.blk.frozen 7;simp[dh] at x0;have VQ:g<w0.heap.size:=CB.blk.lt;have P9:=Lib.hid CB;have aeJ:=Lib.hid hcl0;have HK0:=Lib.hid hk0;have HXL:=Lib.hid hxl;clear CB hcl0 hk0 y6 y7 f7 hx pJ Zm oF hxl
   go_region_law (first
    |((refine AO (by rfl) _ _ 34 (by rfl) j0 (.slice none 0 0) 24 und22 hj0 hm0 hm1 hm2 rfl (by rfl) ((P9.out.qr.drew.below hb1 (Nat.le_refl _)).alloc (.cells #[.slice A1 n c1] 22)) ⟨w1.heap.size,0,none⟩ 1 (.slice A1 n c1) (by rfl) (World.news_of_block (heap_alloc_new w1 _) 0 _ rfl) rfl (by unfold maxLen;omega) (by omega) (by simp) ?_;intro v5 w5 hown5 bF QK;obtain ⟨A5,c5,rfl,hs5⟩:=hown5.sl;have uO:=((P9.out.blk.drew.below hb1 P9.out.blk.lt).alloc (.cells #[.slice A1 n c1] 22)).grown bF (fun e=>((P9.out.qr.drew.below hb1 (Nat.le_refl _)).alloc (.cells #[.slice A1 n c1] 22)).qw ((P9.out.blk.drew.below hb1 P9.out.blk.lt).alloc (.cells #[.slice A1 n c1] 22)) (by decide) e.symm);have q2:=uO.cell 7;have q3:=uO.frozen 7;simp[dh] at q2))
    |((go_simp;(with_reducible refine aeJ.out.mono ?_);rintro e1 w1 ⟨v1,rfl,hv1,hb1⟩;obtain ⟨A1,c1,rfl,hs1,_⟩:=aP hv1;have Qc:=(hb1.cell (p:=⟨g,7,none⟩) VQ).trans x0;have U9:g<w1.heap.size:=Nat.lt_of_lt_of_le VQ hb1.size;have ald:=(World.cell?_alloc_lt w1 (.cells #[.slice A1 n c1] 22) ⟨g,7,none⟩ U9).trans Qc;have f0':=(hb1.frozen (p:=⟨g,7,none⟩) VQ).trans f0)))
   all_goals
    go_wp2;go_ret;have RJ:=HXL.out;subst RJ;exact ⟨rfl,lZ.step (HK0.out.iA 1) (dX.refl _ _) (dX.refl _ _) (dY.rG (w:=w0.drewN 1) (P9.out.drewN 1) (by omega) hb1 hv1 hown5 bF QK)⟩
end
end
end Go.Proofs.YtiecgfahidpldaaGreat
