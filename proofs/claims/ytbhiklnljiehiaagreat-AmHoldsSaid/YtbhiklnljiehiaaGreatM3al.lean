/- ampdu.Decode: must, got, the chunk. ampd. -/
import Derived.Test.YtbhiklnljiehiaaGreatM3ai
import Derived.Test.YtbhiklnljiehiaaGreatM3aj
import Derived.Test.YtbhiklnljiehiaaGreatM3ak
set_option maxHeartbeats 8000000
set_option maxRecDepth 100000
namespace Go.Proofs.YtbhiklnljiehiaaGreat
open Maps RowKit Shelf Tryz
attribute [local go_sem] Oper.semAt_some
theorem jN (er:Int) (w:World):Calls prog 150 #[.bool true,er] w fun e w'=>e= .returned (.tuple #[])/\w=w':=by
 go_enter func150,ntmps150;go_wp2
 go_end0
 exact ⟨rfl,rfl⟩
theorem iJ (er:Int) (w:World):Calls prog 150 #[.bool false,er] w fun e w'=>e=raise er/\w=w':=by
 unfold raise;go_enter func150,ntmps150;go_wp2;exact ⟨rfl,rfl,rfl⟩
theorem Km (x:Int) (w:World):Calls prog 188 #[.int .u64 x,.int .i64 0] w fun e w'=>e= .returned (.int .u64 x)/\w=w':=by
 go_enter func188,ntmps188;go_wp2_with (go_at_call 150;refine (jN _ _).mono ?_;rintro e w' ⟨rfl,rfl⟩);go_ret;exact ⟨rfl,rfl⟩
theorem Ut (x er:Int) (TA:(er==0)=false) (w:World):Calls prog 188 #[.int .u64 x,er] w fun e w'=>e=raise er/\w=w':=by
 go_enter func188,ntmps188;go_wp2_with (go_at_call 150;refine (iJ _ _).mono ?_;rintro e w' ⟨rfl,rfl⟩);exact ⟨rfl,rfl,rfl⟩
theorem E5 (A:Option Addr) (n c:Nat) (w:World):Calls prog 149 #[.slice A n c,.int .i64 0] w fun e w'=>e= .returned (.slice A n c)/\w=w':=by
 go_enter func149,ntmps149;go_wp2_with (go_at_call 150;refine (jN _ _).mono ?_;rintro e w' ⟨rfl,rfl⟩);go_ret;exact ⟨rfl,rfl⟩
theorem I5 (A:Option Addr) (n c:Nat) (er:Int) (TA:(er==0)=false) (w:World):Calls prog 149 #[.slice A n c,er] w fun e w'=>e=raise er/\w=w':=by
 go_enter func149,ntmps149;go_wp2_with (go_at_call 150;refine (iJ _ _).mono ?_;rintro e w' ⟨rfl,rfl⟩);exact ⟨rfl,rfl,rfl⟩
theorem BM {w w':World} {b b':Nat} {e e':TypeId} {n n':Nat} {v v':Value} {xs xs':List Value} (h:w.ownsRow b e 1 v n xs) (h':w.ownsRow b' e' 1 v' n' xs') (hne:e≠e') (hg:w.grownBy w' v'.ownBlock):w'.ownsRow b e 1 v n xs:=by
 refine h.kept hg ?_;rcases hv:v.ownBlock with _|j
 ·exact .inl rfl
 ·refine .inr (fun e1=> ?_);obtain ⟨o1,ho1,⟨cs1,fr1,rfl⟩,_⟩:=dR h hv;obtain ⟨o2,ho2,⟨cs2,fr2,rfl⟩,_⟩:=dR h' e1.symm;rw[ho1] at ho2;cases ho2;exact hne rfl
def jr (bs:List UInt8) (more:Bool) (pos:Nat):Sum Nat (List (List UInt8)):=
 match uh bs more pos with
 | .inl er=> .inl er
 | .inr (ls,p)=>mE ls (bs.drop (p/8))
def XW (w:World) (r:Nat) (s e:Bool) (R:Sum Nat (List (List UInt8))) (en:Ending) (w':World):Prop:=
 Kept (fun k _=>k=r\/w<=k) w w'/\
 ((∃er:Nat,R= .inl er/\en=raise er)\/(∃ps A c,R= .inr ps/\en= .returned (.agg #[.bool s,.bool e,.slice A ps.length c])/\gV w' w (.slice A ps.length c) ps))
theorem RG (r d:Nat) (v:Value) (A0:Option Addr) (n0 c0:Nat) (bs:List UInt8) (s e more:Bool) (pos:Nat) (w:World) (h:ni w r v bs pos) (hd:av w d 234 #[.pointer (some r),.slice A0 n0 c0])
 (hb:∀W,Kept (fun k _=>k=r\/w<=k) w W->Sl W W.heap.size A0 n0 c0 (dz bs)) (hsm:bs.length<=1000000000) (hp:pos<=8*bs.length):
 Calls prog 151 #[.pointer (some d),.bool s,.bool e,.bool more] w (XW w r s e (jr bs more pos)):=by
 obtain ⟨i0,hi,hz0,hz1,hz2⟩:=vz EF;obtain ⟨j0,hj0,hm0,hm1,hm2⟩:=vz uq;have hrd:d≠r:=by
  rintro rfl;have h1:=h.1;unfold av at h1 hd;rw[h1] at hd;injection hd with hd
  injection hd with _ h2
  exact absurd h2 (by decide)
 have hdl:=hd.lt;have hrl:=h.1.lt;have zP:=ah hsm;have HP:=ah hp;have HB:=ah hb;clear hsm hp hb;obtain ⟨R,hR⟩:∃R,gT bs 64 more pos []=R:=⟨_,rfl⟩
 have hRR:uh bs more pos=kZ bs R:=by rw[<-hR];rfl
 obtain ⟨CR,hCR⟩:∃CR,jr bs more pos=CR:=⟨_,rfl⟩
 have XX:=hCR;unfold jr at XX;rw[hCR];rw[hRR] at XX;have HR:=ah hR;have HCR:=ah XX;clear hR hRR hCR XX;go_enter func151,ntmps151;go_wp2;have hk0:Kept (fun k _=>k=r\/w<=k) w ((w.alloc (.cells #[.bool false,.bool false,.slice none 0 0] 145)).alloc (.cells #[.bool s,.bool e,.slice none 0 0] 145)):=((Kept.refl _ w).alloc _).alloc _;have br0:=(av.new w 145 #[.bool false,.bool false,.slice none 0 0]).alloc (.cells #[.bool s,.bool e,.slice none 0 0] 145);have bc0:=av.new (w.alloc (.cells #[.bool false,.bool false,.slice none 0 0] 145)) 145 #[.bool s,.bool e,.slice none 0 0];have h0:ni ((w.alloc (.cells #[.bool false,.bool false,.slice none 0 0] 145)).alloc (.cells #[.bool s,.bool e,.slice none 0 0] 145)) r v bs pos:=⟨(h.1.alloc _).alloc _,(h.2.alloc _).alloc _⟩;have hsz0:w.heap.size+2<=((w.alloc (.cells #[.bool false,.bool false,.slice none 0 0] 145)).alloc (.cells #[.bool s,.bool e,.slice none 0 0] 145)).heap.size:=by simp
 rw[mZ] at bc0;generalize (w.alloc (.cells #[.bool false,.bool false,.slice none 0 0] 145)).alloc (.cells #[.bool s,.bool e,.slice none 0 0] 145)=w0 at*
 go_loopw [3,10,11] (fun m l s wr=>∃(acc:List Nat) (more':Bool) (q:Nat),m= .bool more'/\s= .int .i64 (acc.sum:Nat)/\acc.length<=63/\acc.sum<=2047*acc.length/\(∀x∈acc,x<=2047)/\gT bs (64-acc.length) more' q acc=R/\
  ni wr r v bs q/\q<=8*bs.length/\wr.ownsRow w0 3 1 l acc.length (kM acc)/\Kept (fun k _=>k=r\/w0<=k) w0 wr) (fun _ l _ _=>64-BJ l)
 case atStart=>exact ⟨[],more,pos,rfl,rfl,by simp,by simp,by simp,HR.out,h0,HP.out,jl _ _ _ _,Kept.refl _ _⟩
 case round=>
  obtain ⟨acc,more',q,rfl,rfl,hal,hsum,hmem,hread,hrq,hq,how,hkp⟩:=hrel;have Uu:Kept (fun k _=>k=r\/w<=k) w wr:=hk0.trans (hkp.mono fun k _ e=>e.imp id (fun e=>by omega));have hd1:=hd.kept Uu (by rintro (e|e);exact hrd e;omega);have WY:=hd1.cell 0;simp at WY;have ZY:=ah hread;have HQ:=ah hq;have afo:=ah hmem;clear hread hq hmem;cases more' with
  |true=>
   obtain ⟨f,hf⟩:∃f,64-acc.length=f+1:=⟨63-acc.length,by omega⟩
   have yG:=ZY.out;rw[hf] at yG;simp only[gT] at yG;have HR2:=ah yG;have HFF:=ah hf;clear yG hf;by_cases hfit:8*bs.length<q+12
   ·have hget:=IZ r v bs q 12 wr hrq HQ.out zP.out (by omega) (by have:=HQ.out;omega);have vJ:R= .inl 5:=by have:=HR2.out;rw[bD hfit] at this;exact this.symm
    have HG:=ah hget;have H5:=ah vJ;clear hget vJ hfit;go_wp2_with fail;refine HG.out.mono ?_;rintro e1 w1 ⟨rfl,hr1,hk1⟩;go_wp2_with (go_at_call 188;refine (Ut _ _ rfl _).mono ?_;rintro e2 w2 ⟨rfl,rfl⟩);exact ⟨rfl,Uu.trans (hk1.mono fun _ _ e=> .inl e),.inl ⟨5,by rw[<-HCR.out,H5.out];rfl,rfl⟩⟩
   ·have hget:=Kg r v bs q 12 wr hrq zP.out (by omega) (by omega);have hV:=vR (ax bs q 12);rw[gF] at hV;have hR2:=HR2.out;rw[aP hfit] at hR2;have HG:=ah hget;have akm:=ah hfit;clear hget hfit HR2;generalize val (ax bs q 12)=V at*;have hand:=XO V hV;have akn:IntKind.i64.wrap ((V%2048:Nat):Int)=((V%2048:Nat):Int):=iG _ (by omega);obtain ⟨n,hn⟩:∃n,V%2048=n:=⟨_,rfl⟩
    obtain ⟨m',hm'⟩:∃m',decide (V/2048=1)=m':=⟨_,rfl⟩
    have hmo:((V:Int)/2048==1)=m':=by rw[<-hm',mr];simp;omega
    rw[hn] at hand akn hR2;rw[hm'] at hR2;have hn2:n<2048:=by omega
    have HR3:=ah hR2;clear hR2 hn hm' hV;obtain ⟨A,c,rfl,hsl,_⟩:=aY how;by_cases hbad:n=0\/63<=acc.length
    ·have BN:R= .inl 9:=by have:=HR3.out;rw[bD hbad] at this;exact this.symm
     have H9:=ah BN;clear BN;by_cases h00:n=0
     ·subst h00;clear hbad HR3;go_wp2_with fail;refine HG.out.mono ?_;rintro e1 w1 ⟨rfl,hr1,hk1⟩;go_wp2_with (first|(go_at_call 188;refine (Km _ _).mono ?_;rintro e2 w2 ⟨rfl,rfl⟩)|(go_at_call 150;((with_reducible refine (iJ _ _).mono ?_);rintro e3 w3 ⟨rfl,rfl⟩)));exact ⟨rfl,Uu.trans (hk1.mono fun _ _ e=> .inl e),.inl ⟨9,by rw[<-HCR.out,H9.out];rfl,rfl⟩⟩
     ·have hn0:0<n:=by omega
      have hb3:decide ((acc.length:Int)<63)=false:=by simp;omega
      have hb4:63<=acc.length:=by omega
      clear hbad HR3 h00;go_wp2_with fail;refine HG.out.mono ?_;rintro e1 w1 ⟨rfl,hr1,hk1⟩;go_wp2_with (first|(go_at_call 188;refine (Km _ _).mono ?_;rintro e2 w2 ⟨rfl,rfl⟩)|(go_at_call 150;((with_reducible refine (iJ _ _).mono ?_);rintro e3 w3 ⟨rfl,rfl⟩)));exact ⟨rfl,Uu.trans (hk1.mono fun _ _ e=> .inl e),.inl ⟨9,by rw[<-HCR.out,H9.out];rfl,rfl⟩⟩
    ·have GK:=HR3.out;rw[aP hbad] at GK;have hb2:0<n:=by omega
     have hb3:decide ((acc.length:Int)<63)=true:=by simp;omega
     have aqR:acc.length<63:=by omega
     have HR4:=ah GK;have HN0:=ah hbad;clear GK hbad HR3;go_wp2_with fail;refine HG.out.mono ?_;rintro e1 w1 ⟨rfl,hr1,hk1⟩;have OW:=hkp.trans (hk1.mono (M':=fun k _=>k=r\/w0<=k) fun _ _ e=> .inl e);have E6:=mI how hk1 (fun j o _ hj e=>by have:=(how.lt j hj).1;omega);go_wp2_with (first
      |(go_at_call 188;refine (Km _ _).mono ?_;rintro e2 w2 ⟨rfl,rfl⟩)
      |(go_at_call 150;((with_reducible refine (jN _ _).mono ?_);rintro e3 w3 ⟨rfl,rfl⟩))
      |(at_builtin;refine IA _ rfl _ _ 75 rfl w0 3 i0 (.int .i64 0) 1 8 Oy hi hz0 hz1 hz2 rfl (by decide) _ _ _ rfl (E6.alloc _) ⟨w1,0,none⟩ 1 1 [.int .i64 n] rfl rfl ?c1 ?c2 ?c3 ?c4 ?c5 ?_))
     case c1=>exact cell_one_new _ _ _
     case c2=>simp[Value.oneCell']
     case c3=>unfold maxLen;omega
     case c4=>omega
     case c5=>have:=OW.size;simp;omega
     intro v' w2 hown' hgrow _;have hr2:ni w2 r v bs (q+12):=by
      refine ⟨(hr1.1.alloc _).grown hgrow (fun e=>aK E6 hr1.1 (by decide) e.symm),(hr1.2.alloc _).kept hgrow ?_⟩;rcases hq:v.ownBlock with _|j
      ·exact .inl rfl
      ·refine .inr (fun e=> ?_);obtain ⟨o1,ho1,⟨cs1,fr1,rfl⟩,_⟩:=dR hr1.2 hq;obtain ⟨o2,ho2,⟨cs2,fr2,rfl⟩,_⟩:=dR E6 e.symm;rw[ho1] at ho2;cases ho2
     have hlv:=OH hown';have HLV:=ah hlv;clear hlv;go_wp2;refine ⟨⟨acc++ [n],m',q+12,rfl,by simp,by simp;omega,by simp;omega,?_,?_,hr2,by have:=akm.out;omega,by simpa[kM] using hown',(OW.alloc _).grown hgrow (fun j hj o _=> .inr ((E6.lt j hj).1))⟩,by rw[HLV.out];simp[BJ];omega⟩
     ·intro x hx;rcases iH.1 hx with hx|hx
      ·exact afo.out x hx
      ·simp at hx;omega
     ·have:=HR4.out;rw[show f=64-(acc++ [n]).length by have:=HFF.out;simp;omega] at this;exact this
  |false=>
   have Mj:R= .inr (acc,q):=by
    have:=ZY.out;rw[<-this];cases 64-acc.length<;>rfl
   have Ht:=ER r v bs q wr hrq zP.out HQ.out;have hpq:q+nH q<=8*bs.length:=by have:=HQ.out;unfold nH;omega
   have yE:=ah Ht;have ZZ:=ah Mj;have HPQ:=ah hpq;clear Ht Mj hpq;obtain ⟨A,c,rfl,hsl,_⟩:=aY how;by_cases hz:val (ax bs q (nH q))=0
   ·have QG:CR=mE acc (bs.drop ((q+nH q)/8)):=by rw[<-HCR.out,ZZ.out];simp only[kZ,bD hz]
    have Ht:=yE.out;simp only[bD hz] at Ht;have Z0:=ah QG;have XY:=ah Ht;clear QG Ht hz yE;go_wp2_with fail;refine XY.out.mono ?_;rintro e1 w1 ⟨rfl,hr1,hk1⟩;have E6:=mI how hk1 (fun j o _ hj e=>by have:=(how.lt j hj).1;omega);have OW:=hkp.trans (hk1.mono (M':=fun k _=>k=r\/w0<=k) fun _ _ e=> .inl e);have Hu:=Uu.trans (hk1.mono (M':=fun k _=>k=r\/w<=k) fun _ _ e=> .inl e);have hb1:=HB.out w1 Hu;have hd1:=hd.kept Hu (by rintro (e|e);exact hrd e;omega);have bc1:=bc0.kept OW (by rintro (e|e);omega;omega);have Oi:=br0.kept OW (by rintro (e|e);omega;omega);clear hkp Uu how hsl hrq WY XY ZZ ZY HQ hk1;generalize q+nH q=p at*;go_wp2_with (go_at_call 150;((with_reducible refine (jN _ _).mono ?_);rintro e3 w3 ⟨rfl,rfl⟩));have WY:=hd1.cell 0;have cd1:=hd1.cell 1;simp at WY cd1;have hat:∀W,ni W r v bs p->Calls prog 189 #[.pointer (some r)] W fun e w'=>e= .returned p/\w'=W:=fun W hW=>(abp r v bs p W hW).mono fun _ _ hh=>⟨hh.1,hh.2.symm⟩
    have HAT:=ah hat;have hn0:bs.length=n0:=by simpa using hb1.len
    have hcap:=hb1.cap;have hmx:=hb1.mx;have ako:=zP.out;have hpq:=HPQ.out;obtain ⟨q,hq⟩:∃q,p/8=q:=⟨_,rfl⟩
    have hqw:IntKind.i64.wrap ((p:Int)/8)=(q:Int):=by rw[<-hq];rw[iG _ (by omega)];omega
    have hq1:q<=n0:=by omega
    have hdata:Sl w1 w1 (if c0=q then A0 else A0.map (·.add q)) (n0-q) (c0-q) (dz (bs.drop q)):=by
     have:=hb1.cut hq1;unfold dz at this ⊢
     rwa [List.map_drop]
    have HPR:=ah (show CR=mE acc (bs.drop q) by rw[Z0.out,hq]);have hdl:(bs.drop q).length=n0-q:=by rw[kC,hn0]
    have akp:n0-q<=1000000000:=by omega
    have HQQ:=ah hq;clear hat hq Z0 hn0 ako hpq;refine wp_region_still_tail 11 (by kernel_rfl) (by kernel_rfl) ?_;simp only[kJ,nu,pV,ny]
    still_step
    still_step
    still_step
    still_step
    still_step
    still_step
    still_step
    still_step
    still_call (HAT.out _ hr1)
    still_step
    still_step
    refine oK ?_;change wpList _ _ _ _ _ w1.drew;generalize (if c0=q then A0 else Option.map (fun x=>x.add q) A0)=A1 at*;generalize bs.drop q=D at*;generalize n0-q=m at*;have hcl:=pO A1 m (c0-q) D w1.drew hdata.drew akp;have HC:=ah hcl;have E7:=ah hdl;clear hcl hdata hdl hb1 hd1 hr1 WY cd1 hcap hmx hqw hq1 HAT HQQ HPQ
    replace Hu:=Hu.drew
    replace bc1:=bc1.drew
    replace Oi:=Oi.drew
    replace E6:=(bF E6 (show w.heap.size<=w0.heap.size by omega)).drew'
    have XZ:w.heap.size+2<=w1.drew.heap.size:=gG hsz0 OW.drew.size;clear OW;generalize w1.drew=w2 at*;go_wp2_with fail;refine HC.out.mono ?_;rintro e2 w3 ⟨v3,rfl,hv3,hb3⟩
    replace Hu:=Hu.trans ((Kept.of_below hb3).mono (M':=fun k _=>k=r\/w<=k) (fun j _ hj=> .inr (by omega)))
    replace bc1:=bc1.below hb3 bc1.lt
    replace Oi:=Oi.below hb3 Oi.lt
    replace E6:=own_below E6 hb3 (aL)
    replace hv3:=bF hv3 (show w.heap.size<=w2.heap.size by omega)
    replace XZ:w.heap.size+2<=w3.heap.size:=gG XZ hb3.size
    clear HC hb3;by_cases h5:D.length<=acc.sum
    ·have Z4:CR= .inl 5:=by rw[HPR.out];unfold mE;rw[bD h5]
     have HP5:=ah Z4;clear Z4;obtain ⟨A2,c2,rfl,_⟩:=aY hv3;have h5':¬acc.sum<m:=by have:=E7.out;omega
     clear h5;go_wp2_with (go_at_call 150;((with_reducible refine (iJ _ _).mono ?_);rintro e3 w3 ⟨rfl,rfl⟩));exact ⟨rfl,Hu,.inl ⟨5,HP5.out,rfl⟩⟩
    ·by_cases h9:32767<D.length
     ·have Z4:CR= .inl 9:=by rw[HPR.out];unfold mE;rw[aP h5,bD h9]
      have HP9:=ah Z4;clear Z4;obtain ⟨A2,c2,rfl,_⟩:=aY hv3;have h5':acc.sum<m:=by have:=E7.out;omega
      have h9':decide ((m:Int)<=32767)=false:=by have:=E7.out;simp;omega
      clear h5 h9;go_wp2_with (first|(go_at_call 150;((with_reducible refine (iJ _ _).mono ?_);rintro e3 w3 ⟨rfl,rfl⟩))|(go_at_call 150;((with_reducible refine (jN _ _).mono ?_);rintro e3 w3 ⟨rfl,rfl⟩)));exact ⟨rfl,Hu,.inl ⟨9,HP9.out,rfl⟩⟩
     ·have Z4:CR= .inr (splitBy acc D):=by rw[HPR.out];unfold mE;rw[aP h5,aP h9]
      have Qy:=ah Z4;clear Z4 HPR;have h5':acc.sum<m:=by have:=E7.out;omega
      have h9':decide ((m:Int)<=32767)=true:=by have:=E7.out;simp;omega
      have hm9:m<=32767:=by have:=E7.out;omega
      obtain ⟨g,cap,rfl,hgl,oL⟩:=hv3.form (by omega);have hcap2:m<=cap/\cap<=9223372036854775807:=by
       obtain ⟨A',c',e',hs',_⟩:=aY hv3;injection e' with _ _ e3
       subst e3;exact ⟨hs'.cap,hs'.mx⟩
      clear h5 h9;go_wp2_with (go_at_call 150;((with_reducible refine (jN _ _).mono ?_);rintro e3 w3 ⟨rfl,rfl⟩));clear h9'
      go_loopw [14,80] (fun vd i wr=>∃(k:Nat) (vo:Value),k<=acc.length/\i= .int .i64 k/\vd= .slice (some ⟨g,(acc.take k).sum,none⟩) (m-(acc.take k).sum) (cap-(acc.take k).sum)/\av wr (w+1) 145 #[.bool s,.bool e,vo]/\av wr w 145 #[.bool false,.bool false,.slice none 0 0]/\
       wr.ownsRow w 31 1 vo k (kN g acc k)/\wr.ownsRow w 5 1 (.slice (some ⟨g,0,none⟩) m cap) m (dz D)/\wr.ownsRow w 3 1 (.slice A acc.length c) acc.length (kM acc)/\Kept (fun k _=>k=r\/w<=k) w wr/\w.heap.size+2<=wr.heap.size) (fun _ i _=>acc.length-(intOf i).toNat)
      case atStart=>exact ⟨0,_,eH _,rfl,by simp,bc1,Oi,jl _ _ _ _,hv3,E6,Hu,XZ⟩
      case round=>
       clear hv3 bc1 Oi E6 Hu XZ;obtain ⟨k,vo,hk,rfl,rfl,bc,br,kG,hvd,hvl,Uu,hws⟩:=hrel;have hsk:=ol acc k;by_cases hlt:k<acc.length
       ·obtain ⟨n,hn⟩:∃n,acc[k]? =some n:=⟨_,gX hlt⟩
        have hn2:=afo.out n (iT hn);have hsn:=zX acc k n hn;have aqV:=ol acc (k+1);obtain ⟨adl,u,rfl,_,hu,hcu⟩:=(gK hvl).get hlt;have hu':u= .int .i64 (n:Int):=by
         unfold kM at hu;rw[oW,hn] at hu;simpa using hu.symm
        subst hu';have hpv:=Hq g acc k n hn;generalize (List.take k acc).sum=S at*;have WS:=ah hsn;have HPV:=ah hpv;have hSn:S+n<=acc.sum:=by omega
        clear hsn hpv hu hn;have hne:¬cap-S=n:=by omega
        have hle1:n<=m-S:=by omega
        have hle2:n<=cap-S:=by omega
        obtain ⟨Ao,co,rfl,hso,_⟩:=aY kG;have c2:=bc.cell 2;have f2:=bc.frozen 2;simp at c2;have c2a:=(yx wr (.cells #[.slice (some ⟨g,S,none⟩) n n] 31) ⟨w+1,2,none⟩ bc.lt).trans c2;go_upto_region 17 with (fail)
        go_cut [] from 84 to 92 (fun wx=>∃(A5:Option Addr) (c5:Nat),av wx (w+1) 145 #[.bool s,.bool e,.slice A5 (k+1) c5]/\av wx w 145 #[.bool false,.bool false,.slice none 0 0]/\wx.ownsRow w 31 1 (.slice A5 (k+1) c5) (k+1) (kN g acc (k+1))/\
         wx.ownsRow w 5 1 (.slice (some ⟨g,0,none⟩) m cap) m (dz D)/\wx.ownsRow w 3 1 (.slice (some adl) acc.length c) acc.length (kM acc)/\Kept (fun k _=>k=r\/w<=k) w wx/\w.heap.size+2<=wx.heap.size)
        case first=>
         go_region_law ((refine fA _ (by rfl) _ _ 37 (by rfl) w 31 j0 (.slice none 0 0) 24 wE hj0 hm0 hm1 hm2 rfl (.slice Ao k co) k (kN g acc k) (by rfl) (World.ownsRow.drew' (kG.alloc (.cells #[.slice (some ⟨g,S,none⟩) n n] 31))) (wr.alloc (.cells #[.slice (some ⟨g,S,none⟩) n n] 31)).heap.size (some ⟨wr,0,none⟩) 1 1 [.slice (some ⟨g,S,none⟩) n n] (by rfl) (pG wr (.slice (some ⟨g,S,none⟩) n n) 31) (by simp[Value.oneCell']) (by unfold maxLen;omega) (by omega) (by simp;omega) ?_;intro v5 w5 hown5 dV _;obtain ⟨A5,c5,rfl,hs5,_⟩:=aY hown5;have vI:=(bc.alloc (.cells #[.slice (some ⟨g,S,none⟩) n n] 31)).drew.grown dV (fun e=>aK kG bc (by decide) e.symm);have q2:=vI.cell 2;have q3:=vI.frozen 2;simp at q2))
         all_goals
          go_wp2_with fail;go_meet;have Mk:=World.ownsRow.drew' (kG.alloc (.cells #[.slice (some ⟨g,S,none⟩) n n] 31));have Uv:=BM (World.ownsRow.drew' (hvd.alloc (.cells #[.slice (some ⟨g,S,none⟩) n n] 31))) Mk (by decide) dV;have abF:=BM (World.ownsRow.drew' (hvl.alloc (.cells #[.slice (some ⟨g,S,none⟩) n n] 31))) Mk (by decide) dV;have akq:=(br.alloc (.cells #[.slice (some ⟨g,S,none⟩) n n] 31)).drew.grown dV (fun e=>aK kG br (by decide) e.symm);refine ⟨A5,c5,by simpa using vI.ay 2 (.slice A5 (k+1) c5),akq.far (by simp) _,?_,aN (i:=2) Uv vI (by decide) _,aN (i:=2) abF vI (by decide) _,
           ((Uu.alloc _).drew.grown dV (fun j hj o _=> .inr ((kG.lt j hj).1))).setCell (p:=⟨w+1,2,none⟩) (fun _ _=> .inr (by simp)) _,?_⟩
          ·rw[HPV.out];exact aN (i:=2) hown5 vI (by decide) _
          ·have:=dV.size;simp at this ⊢;omega
        case rest=>
         obtain ⟨A5,c5,bc5,br5,sO,Uv,abF,abG,akr⟩:=hcut;go_wp2
         go_roundw
         case rel=>exact ⟨k+1,_,by omega,by go_num,by rw[WS.out,Nat.sub_sub,Nat.sub_sub],bc5,br5,sO,Uv,abF,abG,akr⟩
         case measure=>simp[intOf];omega
       ·obtain rfl:k=acc.length:=by omega
        have hS:(acc.take acc.length).sum=acc.sum:=by rw[kI (aL)]
        rw[hS];obtain ⟨Ao,co,rfl,hso,_⟩:=aY kG;have c2:=bc.cell 2;have f2:=bc.frozen 2;simp at c2;go_wp2_with (at_builtin;refine IA _ rfl _ _ 37 rfl w 31 j0 (.slice none 0 0) 1 24 wE hj0 hm0 hm1 hm2 rfl (by decide) _ _ _ rfl (kG.alloc _) ⟨wr,0,none⟩ 1 1 [.slice (some ⟨g,acc.sum,none⟩) (m-acc.sum) (cap-acc.sum)] rfl rfl ?c1 ?c2 ?c3 ?c4 ?c5 ?_)
        case c1=>exact cell_one_new _ _ _
        case c2=>simp[Value.oneCell']
        case c3=>unfold maxLen;omega
        case c4=>omega
        case c5=>simp;omega
        intro v' w4 hown' hgrow _;obtain ⟨A5,c5,rfl,hs5,_⟩:=aY hown';have afp:=BM (hvd.alloc (.cells #[.slice (some ⟨g,acc.sum,none⟩) (m-acc.sum) (cap-acc.sum)] 31)) (kG.alloc _) (by decide) hgrow;have bc4:=(bc.alloc (.cells #[.slice (some ⟨g,acc.sum,none⟩) (m-acc.sum) (cap-acc.sum)] 31)).grown hgrow (fun e=>aK kG bc (by decide) e.symm);have Z5:=(br.alloc (.cells #[.slice (some ⟨g,acc.sum,none⟩) (m-acc.sum) (cap-acc.sum)] 31)).grown hgrow (fun e=>aK kG br (by decide) e.symm);have afq:=(Uu.alloc (.cells #[.slice (some ⟨g,acc.sum,none⟩) (m-acc.sum) (cap-acc.sum)] 31)).grown hgrow (fun j hj o _=> .inr ((kG.lt j hj).1));have sO:=aN (i:=2) hown' bc4 (by decide) (.slice A5 (acc.length+1) c5);have Uv:=aN (i:=2) afp bc4 (by decide) (.slice A5 (acc.length+1) c5);have br5:=Z5.far (p:=⟨w+1,2,none⟩) (by simp) (.slice A5 (acc.length+1) c5);have bc5:=bc4.ay 2 (.slice A5 (acc.length+1) c5);have abG:=afq.setCell (p:=⟨w+1,2,none⟩) (fun _ _=> .inr (by simp)) (.slice A5 (acc.length+1) c5);have k2:=bc4.cell 2;have k3:=bc4.frozen 2;have k0:=bc4.cell 0;have k1:=bc4.cell 1;have g0:=Z5.cell 0;have g1:=Z5.cell 1;have g2:=Z5.cell 2;have g3:=Z5.frozen 0;have g4:=Z5.frozen 1;have g5:=Z5.frozen 2;simp at bc5 k2 k0 k1 g0 g1 g2;clear kG hvd hvl bc br Uu afp hown' hgrow hs5 hso c2 f2 afq Z5;go_wp2_with fail;have br6:=((br5.ay 0 (.bool s)).ay 1 (.bool e)).ay 2 (.slice A5 (acc.length+1) c5);simp at br6
        have afr:∀{ty:TypeId} {vv:Value} {nn:Nat} {xs:List Value},(w4.setCell ⟨w+1,2,none⟩ (.slice A5 (acc.length+1) c5)).ownsRow w.heap.size ty 1 vv nn xs->ty≠145->
         ((((w4.setCell ⟨w+1,2,none⟩ (.slice A5 (acc.length+1) c5)).setCell w (.bool s)).setCell ⟨w,1,none⟩ (.bool e)).setCell ⟨w,2,none⟩ (.slice A5 (acc.length+1) c5)).ownsRow w.heap.size ty 1 vv nn xs:=fun hh ht=>
         aN (i:=2) (aN (i:=1) (aN (i:=0) hh br5 ht _) (br5.ay 0 (.bool s)) ht _) ((br5.ay 0 (.bool s)).ay 1 (.bool e)) ht _
        have aks:=((abG.setCell (p:=⟨w,0,none⟩) (fun _ _=> .inr (aL)) (.bool s)).setCell (p:=⟨w,1,none⟩) (fun _ _=> .inr (aL)) (.bool e)).setCell (p:=⟨w,2,none⟩) (fun _ _=> .inr (aL)) (.slice A5 (acc.length+1) c5);have q0:=br6.cell 0;have q1:=br6.cell 1;have q2:=br6.cell 2;simp at q0 q1 q2;have X0:=qa acc D;refine ⟨rfl,.agg #[.bool s,.bool e,.slice A5 (acc.length+1) c5],by simp[results,results151,go_sem,q0,q1,q2],aks,.inr ⟨splitBy acc D,A5,c5,Qy.out,by rw[X0],?_⟩⟩;rw[X0];refine ⟨kN g acc acc.length++ [.slice (some ⟨g,acc.sum,none⟩) (m-acc.sum) (cap-acc.sum)],g,cap,D,?_,?_,?_⟩
        ·rw[X0];exact afr sO (by decide)
        ·rw[E7.out];exact afr Uv (by decide)
        ·intro i p hi;have hil:i<acc.length+1:=by
          have:=(pN.1 hi).1;rw[X0] at this;exact this
         have hpl:(kN g acc acc.length).length=acc.length:=by simp[kN]
         by_cases hik:i<acc.length
         ·obtain ⟨n,hn⟩:∃n,acc[i]? =some n:=⟨_,gX hik⟩
          rw[CF acc D i n hn] at hi;injection hi with hi
          have hsn:=zX acc i n hn;have hsl:=ol acc (i+1);have hlen:p.length=n:=by rw[<-hi,kz,kC,E7.out];omega
          refine ⟨(acc.take i).sum,n,?_,by omega,by omega,by rw[hlen];exact hi.symm⟩;rw[mh (by omega),hlen];simp[kN,hik,(List.getElem?_eq_some_iff.1 hn).2]
         ·obtain rfl:i=acc.length:=by omega
          rw[zO] at hi;injection hi with hi
          have hlen:p.length=m-acc.sum:=by rw[<-hi,kC,E7.out]
          refine ⟨acc.sum,cap-acc.sum,?_,by omega,by omega,?_⟩
          ·rw[oI (by omega),hpl,hlen];simp
          ·rw[hlen,<-hi,kI (by rw[kC,E7.out];omega)]
   ·have QG:CR= .inl 9:=by rw[<-HCR.out,ZZ.out];simp only[kZ,aP hz]
    have Ht:=yE.out;simp only[aP hz] at Ht;have Z0:=ah QG;have XY:=ah Ht;clear QG Ht hz yE;go_wp2_with fail;refine XY.out.mono ?_;rintro e1 w1 ⟨rfl,hr1,hk1⟩;go_wp2_with (go_at_call 150;((with_reducible refine (iJ _ _).mono ?_);rintro e3 w3 ⟨rfl,rfl⟩));exact ⟨rfl,Uu.trans (hk1.mono fun _ _ e=> .inl e),.inl ⟨9,Z0.out,rfl⟩⟩
theorem OX (bp be:Nat) (w:World):
 CallsD prog 148 #[.pointer (some bp),.pointer (some be)] .returning w fun e u' w'=>e= .returned (.tuple #[])/\u'= .returning/\w=w':=by
 have hnn:=run_eql_nil_nil (P:=prog) w (t:=20) (by kernel_rfl);refine xP func148 rfl fun c₀ cs hu=> ?_
 apply wpS_seq;apply xU;generalize hQ:Exit.thenS _ _=Q;simp[wpOpsS,go_sem,recoverD,hu,ntmps148];subst hQ;simp only[Exit.thenS];refine xV ?_;change Code.wp _ _ (kT prog Tryz.f148 c₀ cs (c₀::cs) _) {tmps:= #[.pointer (some bp),.pointer (some be),.nilIface,undef,undef,.nilIface,undef,undef,undef,undef,undef,undef,undef,undef,undef,undef,undef,undef],defers:= []} w;go_wp2;cases c₀
 simp_all [kT,bodyPostS,results,results148]
theorem Kn (bp be:Nat) (er:Int) (v0 v1 v2 v3 v4 v5 v6 v7 v8:Value) (w:World) (hp:av w bp 148 #[v0,v1,v2,v3,v4,v5,v6,v7]) (he:av w be 53 #[v8]) (hne:be≠bp):
 CallsD prog 148 #[.pointer (some bp),.pointer (some be)] (.panicking [{v:= .iface 53 er,recovered:=false}]) w fun e u' w'=>e= .returned (.tuple #[])/\u'= .panicking [{v:= .iface 53 er,recovered:=true}]/\
  av w' bp 148 #[.int .i64 0,.bool false,.bool false,.bool false,.int .i64 0,.bool false,.bool false,.slice none 0 0]/\av w' be 53 #[er]/\Kept (fun k _=>k=bp\/k=be) w w':=by
 have hnn:=run_eql_held_nil (P:=prog) w 20 53 er (by kernel_rfl);have hta:=pE er w;refine xP func148 rfl fun c₀ cs hu=> ?_
 apply wpS_seq;apply xU;generalize hQ:Exit.thenS _ _=Q;simp[wpOpsS,go_sem,recoverD,hu,ntmps148];subst hQ;simp only[Exit.thenS];refine xV ?_;change Code.wp _ _ (kT prog Tryz.f148 c₀ cs _ _) {tmps:= #[.pointer (some bp),.pointer (some be),.iface 53 er,undef,undef,.iface 53 er,undef,undef,undef,undef,undef,undef,undef,undef,undef,undef,undef,undef],defers:= []} w;obtain ⟨c0,c1,c2,c3,c4,c5,c6,c7⟩:=hp.eight;have f0:=hp.frozen 0;have f1:=hp.frozen 1;have f2:=hp.frozen 2;have f3:=hp.frozen 3;have f4:=hp.frozen 4;have f5:=hp.frozen 5;have f6:=hp.frozen 6;have f7:=hp.frozen 7;have c8:=he.cell 0;have f8:=he.frozen 0;simp at c8;go_wp2;refine ⟨rfl,_,rfl,.tuple #[],by simp[results,results148],rfl,rfl,?_,?_,?_⟩
 ·exact (hp.Us (.int .i64 0) (.bool false) (.bool false) (.bool false) (.int .i64 0) (.bool false) (.bool false) (.slice none 0 0)).far (p:=⟨be,0,none⟩) (fun e=>hne e.symm) er
 ·have:=((((((((he.far (p:=⟨bp,0,none⟩) hne (.int .i64 0)).far (p:=⟨bp,1,none⟩) hne (.bool false)).far (p:=⟨bp,2,none⟩) hne (.bool false)).far (p:=⟨bp,3,none⟩) hne (.bool false)).far (p:=⟨bp,4,none⟩) hne (.int .i64 0)).far (p:=⟨bp,5,none⟩) hne (.bool false)).far (p:=⟨bp,6,none⟩) hne (.bool false)).far (p:=⟨bp,7,none⟩) hne (.slice none 0 0)).ay 0 er;simpa using this
 ·exact (((((((((Kept.refl _ w).setCell (p:=⟨bp,0,none⟩) (fun _ _=> .inl rfl) _).setCell (p:=⟨bp,1,none⟩) (fun _ _=> .inl rfl) _).setCell (p:=⟨bp,2,none⟩) (fun _ _=> .inl rfl) _).setCell (p:=⟨bp,3,none⟩) (fun _ _=> .inl rfl) _).setCell (p:=⟨bp,4,none⟩) (fun _ _=> .inl rfl) _).setCell (p:=⟨bp,5,none⟩) (fun _ _=> .inl rfl) _).setCell (p:=⟨bp,6,none⟩) (fun _ _=> .inl rfl) _).setCell (p:=⟨bp,7,none⟩) (fun _ _=> .inl rfl) _).setCell (p:=⟨be,0,none⟩) (fun _ _=> .inr rfl) _
structure jY where
 sn:Nat
 po:Bool
 sg:Bool
 la:Bool
 off:Nat
 s:Bool
 e:Bool
 ps:List (List UInt8)
def qx (bs:List UInt8):Sum Nat jY:=
 if bs.length<2 then .inl 5
 else if val (ax bs 0 1)≠1 then .inl 9
 else if val (ax bs 1 1)=1 then
  if bs.length<4 then .inl 5
  else match jr bs (decide (val (ax bs 5 1)=1)) 32 with
   | .inl er=> .inl er
   | .inr ps=>if iZ (val (ax bs 6 10):Nat) true (decide (val (ax bs 16 1)=1)) (val (ax bs 17 15):Nat) ps=true then
    .inr ⟨val (ax bs 6 10),decide (val (ax bs 2 1)=1),true,decide (val (ax bs 16 1)=1),val (ax bs 17 15),decide (val (ax bs 3 1)=0),decide (val (ax bs 4 1)=0),ps⟩ else .inl 9
 else match jr bs (decide (val (ax bs 5 1)=1)) 16 with
  | .inl er=> .inl er
  | .inr ps=>if iZ (val (ax bs 6 10):Nat) false false (0:Nat) ps=true then
   .inr ⟨val (ax bs 6 10),decide (val (ax bs 2 1)=1),false,false,0,decide (val (ax bs 3 1)=0),decide (val (ax bs 4 1)=0),ps⟩ else .inl 9
def OY (w:World) (R:Sum Nat jY) (e:Ending) (w':World):Prop:=
 Below w w w'/\
 (
  (∃er:Nat,R= .inl er/\e= .returned (.tuple #[.agg (dh 0 false false false 0 false false none 0 0),er]))\/
  (∃(p:jY) (A:Option Addr) (c:Nat),R= .inr p/\e= .returned (.tuple #[.agg (dh p.sn p.po p.sg p.la p.off p.s p.e A p.ps.length c),.int .i64 0])/\gV w' w (.slice A p.ps.length c) p.ps))
theorem qy (w W:World) (R:Sum Nat jY) (er:Nat) (T:Array Value) (v0 v1 v2 v3 v4 v5 v6 v7 v8:Value) (h2:T[2]? =some (.pointer (some w))) (h3:T[3]? =some (.pointer (some ⟨w+1,0,none⟩)))
 (hp:av W w 148 #[v0,v1,v2,v3,v4,v5,v6,v7]) (he:av W (w+1) 53 #[v8]) (hB:Below w w W) (hR:R= .inl er):
 bodyPostD prog Tryz.f95 (OY w R) (.panic [{v:= .iface 53 er,recovered:=false}]) {tmps:=T,defers:= [{target:= .fn (.func 148) #[.pointer (some w),.pointer (some ⟨w+1,0,none⟩)],args:= #[]}]} W:=by
 refine nD (f:=148) (args:= #[.pointer (some w),.pointer (some ⟨w+1,0,none⟩)]) (by simp) (by simp[go_sem]) ?_;refine (Kn _ _ (er:Int) _ _ _ _ _ _ _ _ _ W hp he (by omega)).mono ?_;rintro e u' w'' ⟨rfl,rfl,hp',he',hk⟩;obtain ⟨c0,c1,c2,c3,c4,c5,c6,c7⟩:=hp'.eight;have c8:=he'.cell 0;simp at c8;refine ⟨.tuple #[.agg (dh 0 false false false 0 false false none 0 0),er],?_,hB.trans (hk.below (fun k _ e=>by omega) hB.size),.inl ⟨er,hR,rfl⟩⟩;simp[results,results95,go_sem,h2,h3,c0,c1,c2,c3,c4,c5,c6,c7,c8,dh]
theorem RH (w W:World) (R:Sum Nat jY) (T:Array Value) (p:jY) (A:Option Addr) (c Z:Nat) (h2:T[2]? =some (.pointer (some w))) (h3:T[3]? =some (.pointer (some ⟨w+1,0,none⟩)))
 (hp:av W w 148 (dh p.sn p.po p.sg p.la p.off p.s p.e A p.ps.length c)) (he:av W (w+1) 53 #[.int .i64 0]) (hB:Below w w W) (hR:R= .inr p) (hpo:gV W Z (.slice A p.ps.length c) p.ps) (hZ:w.heap.size<=Z):
 bodyPostD prog Tryz.f95 (OY w R) .ret {tmps:=T,defers:= [{target:= .fn (.func 148) #[.pointer (some w),.pointer (some ⟨w+1,0,none⟩)],args:= #[]}]} W:=by
 refine nD (f:=148) (args:= #[.pointer (some w),.pointer (some ⟨w+1,0,none⟩)]) (by simp) (by simp[go_sem]) ?_;refine (OX _ _ _).mono ?_;rintro e9 u9 w9 ⟨rfl,rfl,rfl⟩;unfold dh at hp;obtain ⟨c0,c1,c2,c3,c4,c5,c6,c7⟩:=hp.eight;have c8:=he.cell 0;simp at c8;refine ⟨.tuple #[.agg (dh p.sn p.po p.sg p.la p.off p.s p.e A p.ps.length c),.int .i64 0],?_,hB,.inr ⟨p,A,c,hR,rfl,hpo.base hZ⟩⟩;simp[results,results95,go_sem,h2,h3,c0,c1,c2,c3,c4,c5,c6,c7,c8,dh]
theorem E8 {bs:List UInt8} {mo:Bool} {q:Nat} {ps:List (List UInt8)} (h:jr bs mo q= .inr ps):ps.length<=64/\∀p∈ps,p.length<=32767:=by
 unfold jr at h;cases hl:uh bs mo q with
 |inl er=>rw[hl] at h;cases h
 |inr lp=>
  obtain ⟨ls,p⟩:=lp;rw[hl] at h;obtain ⟨abJ,RI⟩:=J4 hl;simp only at h;generalize bs.drop (p/8)=D at h;unfold mE at h;split at h
  ·cases h
  ·split at h
   ·cases h
   ·injection h with h
    subst h;refine ⟨by rw[qa];omega,fun x hx=> ?_⟩;obtain ⟨i,hi⟩:=El.1 hx;by_cases hil:i<ls.length
    ·rw[CF ls D i _ (gX hil)] at hi;injection hi with hi
     rw[<-hi,kz,kC];omega
    ·have akt:i=ls.length:=by
      have:=(pN.1 hi).1;rw[qa] at this;omega
     rw[akt,zO] at hi;injection hi with hi
     rw[<-hi,kC];omega
theorem av.X3 {w:World} {g' t:Nat} {cs:Array Value} (h:av w g' t cs) {g:Nat} (hne:g'≠g) (u0 u1 u2 u3 u4 u5 u6 u7:Value):av ((((((((w.setCell g u0).setCell ⟨g,1,none⟩ u1).setCell ⟨g,2,none⟩ u2).setCell ⟨g,3,none⟩ u3).setCell ⟨g,4,none⟩ u4).setCell ⟨g,5,none⟩ u5).setCell ⟨g,6,none⟩ u6).setCell ⟨g,7,none⟩ u7) g' t cs:=
 (((((((h.far (p:=⟨g,0,none⟩) hne u0).far (p:=⟨g,1,none⟩) hne u1).far (p:=⟨g,2,none⟩) hne u2).far (p:=⟨g,3,none⟩) hne u3).far (p:=⟨g,4,none⟩) hne u4).far (p:=⟨g,5,none⟩) hne u5).far (p:=⟨g,6,none⟩) hne u6).far (p:=⟨g,7,none⟩) hne u7
theorem Ml {w:World} {base:Nat} {e t:TypeId} {v:Value} {n g:Nat} {xs:List Value} {cs:Array Value} (h:w.ownsRow base e 1 v n xs) (b:av w g t cs) (hne:e≠t) (u0 u1 u2 u3 u4 u5 u6 u7:Value):(((((((((w.setCell g u0).setCell ⟨g,1,none⟩ u1).setCell ⟨g,2,none⟩ u2).setCell ⟨g,3,none⟩ u3).setCell ⟨g,4,none⟩ u4).setCell ⟨g,5,none⟩ u5).setCell ⟨g,6,none⟩ u6).setCell ⟨g,7,none⟩ u7)).ownsRow base e 1 v n xs:=by
 have b0:=b.ay 0 u0;have b1:=b0.ay 1 u1;have b2:=b1.ay 2 u2;have b3:=b2.ay 3 u3;have b4:=b3.ay 4 u4;have b5:=b4.ay 5 u5;have b6:=b5.ay 6 u6;exact aN (i:=7) (aN (i:=6) (aN (i:=5) (aN (i:=4) (aN (i:=3) (aN (i:=2) (aN (i:=1) (aN (i:=0) h b hne _) b0 hne _) b1 hne _) b2 hne _) b3 hne _) b4 hne _) b5 hne _) b6 hne _
theorem Mm (A:Option Addr) (n c:Nat) (bs:List UInt8) (w:World) (h:Sl w w A n c (dz bs)) (hsm:n<=1000000):
 Calls prog 95 #[.slice A n c] w (OY w (qx bs)):=by
 have hlen:bs.length=n:=by simpa using h.len
 obtain ⟨R,hR⟩:∃R,qx bs=R:=⟨_,rfl⟩
 rw[hR];have HR:=ah hR;clear hR;have hB0:=((bS w w).alloc (aL) (.cells (dh 0 false false false 0 false false none 0 0) 148)).alloc (by simp) (.cells #[.int .i64 0] 53);have hs0:=(h.below hB0).more hB0.size;have hnr:=yc A n c bs _ hs0 (by omega);have Uw:=(av.new w 148 (dh 0 false false false 0 false false none 0 0)).alloc (.cells #[.int .i64 0] 53);have Dy:=av.new (w.alloc (.cells (dh 0 false false false 0 false false none 0 0) 148)) 53 #[.int .i64 0];rw[mZ] at Dy;unfold dh at hnr hB0 Uw Dy;have HNR:=ah hnr;have HB0:=ah hB0;have zP:=ah hsm;have kH:=ah hlen;clear hnr hB0 hs0 hsm hlen
 go_enter_defers func95,ntmps95
 go_wp2_with fail;refine HNR.out.mono ?_;rintro e1 w1 ⟨r,v,rfl,hr,hrd,hb1⟩;have bp1:=Uw.below hb1 Uw.lt;have zq:=Dy.below hb1 Dy.lt;have hB1:Below w w w1:=HB0.out.trans (hb1.mono HB0.out.size);have aku:w.heap.size+1<r:=by simp at hr;omega
 have hrl:=hrd.1.lt;clear Uw Dy hb1 hr HNR HB0;have hW2:∃w2,(w1.alloc (.cells #[.pointer (some r),.slice A n c] 234)).alloc (.cells #[.int .i64 1,.int .i64 1,.int .i64 1,.int .i64 1,.int .i64 1,.int .i64 1,.int .i64 10] 3)=w2:=⟨_,rfl⟩
 obtain ⟨w2,hw2⟩:=hW2;have TD:=(bp1.alloc (.cells #[.pointer (some r),.slice A n c] 234)).alloc (.cells #[.int .i64 1,.int .i64 1,.int .i64 1,.int .i64 1,.int .i64 1,.int .i64 1,.int .i64 10] 3);have vK:=(zq.alloc (.cells #[.pointer (some r),.slice A n c] 234)).alloc (.cells #[.int .i64 1,.int .i64 1,.int .i64 1,.int .i64 1,.int .i64 1,.int .i64 1,.int .i64 10] 3);rw[hw2] at TD vK;have hB2:Below w w w2:=by rw[<-hw2];exact (hB1.alloc hB1.size _).alloc (by have:=hB1.size;simp;omega) _
 have yG:ni w2 r v bs 0:=by rw[<-hw2];exact ⟨(hrd.1.alloc _).alloc _,(hrd.2.alloc _).alloc _⟩
 have hd2:av w2 w1 234 #[.pointer (some r),.slice A n c]:=by rw[<-hw2];exact (av.new w1 _ _).alloc _
 have hb2:av w2 (w1+1) 3 (kM [1,1,1,1,1,1,10]).toArray:=by
  rw[<-hw2];have:=av.new (w1.alloc (.cells #[.pointer (some r),.slice A n c] 234)) 3 #[.int .i64 1,.int .i64 1,.int .i64 1,.int .i64 1,.int .i64 1,.int .i64 1,.int .i64 10];rw[mZ] at this;exact this
 go_wp2_with fail;clear hrd bp1 zq hB1 hw2;have hdr:w1.heap.size≠r:=by omega
 generalize w1.heap.size=d at*;have hbl:bs.length<=1000000:=by have:=kH.out;have:=zP.out;omega
 by_cases h2:bs.length<2
 ·have vJ:R= .inl 5:=by rw[<-HR.out];unfold qx;rw[bD h2]
  have CO:=ah vJ;clear vJ;have hga:=mJ r (d+1) v bs 0 [1,1,1,1,1,1,10] w2 yG (by omega) (by simp) (by simp) hb2 (by omega) (by simp;omega);simp only[jh,gQ,jA,Nat.reduceAdd] at hga;refine hga.mono ?_;rintro e3 w3 ⟨rfl,qN,hk3⟩;have hB3:Below w w w3:=hB2.trans (hk3.below (B:=w.heap.size) (fun k _ e=>by have:=hB2.size;omega) hB2.size);have BO:=TD.kept hk3 (by have:=TD.lt;omega);have tX:=vK.kept hk3 (by have:=vK.lt;omega);clear hga h2 hbl;go_wp2_with (go_at_call 149;((with_reducible refine (I5 _ _ _ _ rfl _).mono ?_);rintro e4 w4 ⟨rfl,rfl⟩));exact qy w _ R 5 _ _ _ _ _ _ _ _ _ _ rfl rfl BO tX hB3 CO.out
 ·have hga:=sM r (d+1) v bs 0 [1,1,1,1,1,1,10] w2 yG (by omega) (by simp) (by simp) hb2 (by simp;omega);simp only[jh,gQ,jA,Nat.reduceAdd] at hga;refine hga.mono ?_;rintro e3 w3 ⟨vo,rfl,kG,qN,hk3⟩;have hB3:Below w w w3:=hB2.trans (hk3.below (B:=w.heap.size) (fun k _ e=>by have:=hB2.size;omega) hB2.size);have BO:=TD.kept hk3 (by have:=TD.lt;omega);have tX:=vK.kept hk3 (by have:=vK.lt;omega);have hd3:=hd2.kept hk3 (by have:=hd2.lt;omega);have tY:=HR.out;unfold qx at tY;rw[aP h2] at tY;have hgv:getAll bs 0 [1,1,1,1,1,1,10]= [val (ax bs 0 1),val (ax bs 1 1),val (ax bs 2 1),val (ax bs 3 1),val (ax bs 4 1),val (ax bs 5 1),val (ax bs 6 10)]:=rfl;rw[hgv] at kG;have hx6:val (ax bs 6 10)<1024:=by have:=vR (ax bs 6 10);rw[gF] at this;exact this
  have akv:=hd2.lt;have Ko:2<=bs.length:=by omega
  clear hgv hga hb2 yG hB2 TD vK hd2 hk3 h2;simp only[jh,gQ,jA,Nat.reduceAdd] at kG;rw[show (0:Nat)+ [1,1,1,1,1,1,10].sum=16 from rfl] at qN;generalize val (ax bs 0 1)=x0 at*;generalize val (ax bs 1 1)=x1 at*;generalize val (ax bs 2 1)=x2 at*;generalize val (ax bs 3 1)=x3 at*;generalize val (ax bs 4 1)=x4 at*;generalize val (ax bs 5 1)=x5 at*;generalize val (ax bs 6 10)=x6 at*;obtain ⟨gl,abK,rfl,hgl,oL⟩:=kG.form (by omega);have l0:=kG.cellAt 0 (by omega);have l1:=kG.cellAt 1 (by omega);have l2:=kG.cellAt 2 (by omega);have l6:=kG.cellAt 6 (by omega);simp[uo] at l0 l1 l2 l6;by_cases h0:x0=1
  ·subst h0;simp only[ne_eq,not_true,l7] at tY;have HR1:=ah tY;clear tY;have hwx:IntKind.i64.wrap (x6:Int)=x6:=iG _ (by omega);have bq1:((x1:Int)==1)=decide (x1=1):=by rw[mr];simp;omega
   have bq2:((x2:Int)==1)=decide (x2=1):=by rw[mr];simp;omega
   obtain ⟨sg,hsg⟩:∃sg,decide (x1=1)=sg:=⟨_,rfl⟩
   obtain ⟨po,hpo⟩:∃po,decide (x2=1)=po:=⟨_,rfl⟩
   rw[hsg] at bq1;rw[hpo] at bq2 HR1;have l1':w3.drew.cell? ⟨gl,1,none⟩=some (.int .u64 x1):=l1;have l2':w3.drew.cell? ⟨gl,2,none⟩=some (.int .u64 x2):=l2;have l6':w3.drew.cell? ⟨gl,6,none⟩=some (.int .u64 x6):=l6;have HSG:=ah hsg;clear hsg hpo;obtain ⟨p0,p1,p2,p3,p4,p5,p6,p7⟩:=BO.eight;have f0:=BO.frozen 0;have f1:=BO.frozen 1;have f2:=BO.frozen 2;have f3:=BO.frozen 3;have f4:=BO.frozen 4;have f5:=BO.frozen 5;have f6:=BO.frozen 6;have f7:=BO.frozen 7;go_wp2_with (first|(go_at_call 149;((with_reducible refine (E5 _ _ _ _).mono ?_);rintro e4 w4 ⟨rfl,rfl⟩))|(go_at_call 150;((with_reducible refine (jN _ _).mono ?_);rintro e4 w4 ⟨rfl,rfl⟩)));refine wp_region_noPanic ?_
   go_region
   refine NoPanic.normal ?_;have Z6:=(BO.Us x6 (.bool po) (.bool sg) (.bool false) (.int .i64 0) (.bool false) (.bool false) (.slice none 0 0)).drew;have WZ:=(tX.X3 (g:=w.heap.size) (by omega) x6 (.bool po) (.bool sg) (.bool false) (.int .i64 0) (.bool false) (.bool false) (.slice none 0 0)).drew;have hd4:=(hd3.X3 (g:=w.heap.size) (by omega) x6 (.bool po) (.bool sg) (.bool false) (.int .i64 0) (.bool false) (.bool false) (.slice none 0 0)).drew;have Mk:=World.ownsRow.drew' (Ml kG BO (by decide) x6 (.bool po) (.bool sg) (.bool false) (.int .i64 0) (.bool false) (.bool false) (.slice none 0 0));have hB4:=(uw hB3 (aL) x6 (.bool po) (.bool sg) (.bool false) (.int .i64 0) (.bool false) (.bool false) (.slice none 0 0)).drew;have Z7:=(qN.1.X3 (g:=w.heap.size) (by omega) x6 (.bool po) (.bool sg) (.bool false) (.int .i64 0) (.bool false) (.bool false) (.slice none 0 0)).drew;have Z8:=World.ownsRow.drew' (Ml qN.2 BO (by decide) x6 (.bool po) (.bool sg) (.bool false) (.int .i64 0) (.bool false) (.bool false) (.slice none 0 0));clear p0 p1 p2 p3 p4 p5 p6 p7 f0 f1 f2 f3 f4 f5 f6 f7 BO tX hd3 kG hB3 qN l0 l1 l2 l6 l1' l2' l6' bq1 bq2 hwx;generalize ((((((((w3.setCell w x6).setCell ⟨w,1,none⟩ (.bool po)).setCell ⟨w,2,none⟩ (.bool sg)).setCell ⟨w,3,none⟩ (.bool false)).setCell ⟨w,4,none⟩ (.int .i64 0)).setCell ⟨w,5,none⟩ (.bool false)).setCell ⟨w,6,none⟩ (.bool false)).setCell ⟨w,7,none⟩ (.slice none 0 0)).drew=w4 at*
   have ET:ni w4 r v bs 16:=⟨Z7,Z8⟩;clear Z7 Z8
   replace Mk:=bF Mk (show w.heap.size+2<=_ by omega)
   obtain ⟨p0,p1,p2,p3,p4,p5,p6,p7⟩:=Z6.eight;go_upto_if 41 with (fail)
   go_cut [6] from 42 to 60 (fun s6 wx=>∃(la:Bool) (off q:Nat),av wx w 148 #[x6,.bool po,.bool sg,.bool la,off,.bool false,.bool false,.slice none 0 0]/\av wx (w+1) 53 #[.int .i64 0]/\av wx d 234 #[.pointer (some r),.slice A n c]/\
    wx.ownsRow (w+2) 204 1 (.slice (some ⟨gl,0,none⟩) 7 abK) 7 (uo [1,x1,x2,x3,x4,x5,x6])/\ni wx r v bs q/\Below w w wx/\q<=8*bs.length/\off<=32767/\
    R=(match jr bs (decide (x5=1)) q with| .inl er=> .inl er| .inr ps=>if iZ (x6:Nat) sg la (off:Nat) ps=true then .inr ⟨x6,po,sg,la,off,decide (x3=0),decide (x4=0),ps⟩ else .inl 9))
   case first=>
    have WY:=hd4.cell 0;simp at WY;by_cases hx1:x1=1
    ·have hsg:=HSG.out;rw[iK hx1] at hsg;have hR2:=HR1.out;rw[bD hx1] at hR2;subst hsg;have E9:=Z6.alloc (.cells #[.int .i64 1,.int .i64 15] 3);have Ae:=WZ.alloc (.cells #[.int .i64 1,.int .i64 15] 3);have hd5:=hd4.alloc (.cells #[.int .i64 1,.int .i64 15] 3);have sO:=Mk.alloc (.cells #[.int .i64 1,.int .i64 15] 3);have qw:=hB4.alloc hB4.size (.cells #[.int .i64 1,.int .i64 15] 3);have yH:ni (w4.alloc (.cells #[.int .i64 1,.int .i64 15] 3)) r v bs 16:=⟨ET.1.alloc _,ET.2.alloc _⟩;have hb5:av (w4.alloc (.cells #[.int .i64 1,.int .i64 15] 3)) w4 3 (kM [1,15]).toArray:=av.new w4 3 #[.int .i64 1,.int .i64 15];by_cases h4:bs.length<4
     ·rw[bD h4] at hR2;have HR2:=ah hR2.symm;have hga:=mJ r w4 v bs 16 [1,15] _ yH (by omega) (by simp) (by simp) hb5 (by omega) (by simp;omega);simp only[jh,gQ,jA,Nat.reduceAdd] at hga;have HGA:=ah hga;clear hga hR2 h4 hx1;go_wp2_with fail;refine HGA.out.mono ?_;rintro e6 w6 ⟨rfl,Ag,qP⟩;have X4:Below w w w6:=qw.trans (qP.below (B:=w.heap.size) (fun k _ e=>by have:=qw.size;omega) qw.size);have Hw:=E9.kept qP (by have:=E9.lt;omega);have TE:=Ae.kept qP (by have:=Ae.lt;omega);go_wp2_with (go_at_call 149;((with_reducible refine (I5 _ _ _ _ rfl _).mono ?_);rintro e7 w7 ⟨rfl,rfl⟩));exact qy w _ R 5 _ _ _ _ _ _ _ _ _ _ rfl rfl Hw TE X4 HR2.out
     ·rw[aP h4] at hR2;have hga:=sM r w4 v bs 16 [1,15] _ yH (by omega) (by simp) (by simp) hb5 (by simp;omega);simp only[jh,gQ,jA,Nat.reduceAdd] at hga;have HGA:=ah hga;have HR2:=ah hR2.symm;have aq0:4<=bs.length:=by omega
      clear hga hR2 h4 hx1;go_wp2_with fail;refine HGA.out.mono ?_;rintro e6 w6 ⟨vm,rfl,hvm,Ag,qP⟩;have X4:Below w w w6:=qw.trans (qP.below (B:=w.heap.size) (fun k _ e=>by have:=qw.size;omega) qw.size);have Hw:=E9.kept qP (by have:=E9.lt;omega);have TE:=Ae.kept qP (by have:=Ae.lt;omega);have hd6:=hd5.kept qP (by have:=hd5.lt;omega);have X5:=mI sO qP (fun j o _ hj e=>by have:=(sO.lt j hj);obtain rfl:gl=j:=(by simpa[Value.ownBlock] using hj);omega);have hgv:getAll bs 16 [1,15]= [val (ax bs 16 1),val (ax bs 17 15)]:=rfl;rw[hgv] at hvm;have hx8:val (ax bs 17 15)<32768:=by have:=vR (ax bs 17 15);rw[gF] at this;exact this
      have X6:=HR2.out;clear hgv HR2;simp only[jh,gQ,jA,Nat.reduceAdd] at hvm;rw[show (16:Nat)+ [1,15].sum=32 from rfl] at Ag;generalize val (ax bs 16 1)=y0 at*;generalize val (ax bs 17 15)=y1 at*;have HR3:=ah X6;clear X6;obtain ⟨gm,aq1,rfl,hgm,aq2⟩:=hvm.form (by omega);have m0:=hvm.cellAt 0 (by omega);have m1:=hvm.cellAt 1 (by omega);simp[uo] at m0 m1;have m0':w6.drew.cell? gm=some (.int .u64 y0):=m0;have RJ:w6.drew.cell? ⟨gm,1,none⟩=some (.int .u64 y1):=m1;have hwy:IntKind.i64.wrap (y1:Int)=y1:=iG _ (by omega);have bqy:((y0:Int)==1)=decide (y0=1):=by rw[mr];simp;omega
      obtain ⟨la,hla⟩:∃la,decide (y0=1)=la:=⟨_,rfl⟩
      rw[hla] at bqy HR3;clear hla;obtain ⟨z0,z1,z2,z3,z4,z5,z6,z7⟩:=Hw.eight;have f3:=Hw.frozen 3;have f4:=Hw.frozen 4;go_wp2_with (go_at_call 149;((with_reducible refine (E5 _ _ _ _).mono ?_);rintro e7 w7 ⟨rfl,rfl⟩));refine wp_region_noPanic ?_
      go_region
      refine NoPanic.normal ?_;go_wp2_with fail;go_meet;have bp7:=((Hw.ay 3 (.bool la)).ay 4 y1).drew;simp at bp7;refine ⟨la,y1,32,bp7,((TE.far (p:=⟨w,3,none⟩) (by simp) (.bool la)).far (p:=⟨w,4,none⟩) (by simp) y1).drew,((hd6.far (p:=⟨w,3,none⟩) (by simp;omega) (.bool la)).far (p:=⟨w,4,none⟩) (by simp;omega) y1).drew,
       World.ownsRow.drew' (aN (i:=4) (aN (i:=3) X5 Hw (by decide) (.bool la)) (Hw.ay 3 (.bool la)) (by decide) _),
       ⟨((Ag.1.far (p:=⟨w,3,none⟩) (by simp;omega) (.bool la)).far (p:=⟨w,4,none⟩) (by simp;omega) y1).drew,World.ownsRow.drew' (aN (i:=4) (aN (i:=3) Ag.2 Hw (by decide) (.bool la)) (Hw.ay 3 (.bool la)) (by decide) _)⟩,
       ((X4.setCell (p:=⟨w,3,none⟩) (by simp) (.bool la)).setCell (p:=⟨w,4,none⟩) (by simp) y1).drew,by omega,by omega,HR3.out⟩
    ·have hsg:=HSG.out;rw[iP hx1] at hsg;have hR2:=HR1.out;rw[aP hx1] at hR2;subst hsg;have HR2:=ah hR2.symm;clear hR2 hx1;go_wp2_with fail;go_meet;exact ⟨false,0,16,Z6,WZ,hd4,Mk,ET,hB4,by omega,by omega,HR2.out⟩
   case rest=>
    obtain ⟨la,off,q,E9,Ae,hd5,sO,yH,qw,hq,hoff,vJ⟩:=hcut;have CO:=ah vJ;clear vJ HR1 HR p0 p1 p2 p3 p4 p5 p6 p7 Z6 WZ hd4 Mk ET hB4;have l3:=sO.cellAt 3 (by omega);have l4:=sO.cellAt 4 (by omega);have l5:=sO.cellAt 5 (by omega);simp[uo] at l3 l4 l5;have b3:((x3:Int)==0)=decide (x3=0):=by rw[mr];simp
    have b4:((x4:Int)==0)=decide (x4=0):=by rw[mr];simp
    have b5:((x5:Int)==1)=decide (x5=1):=by rw[mr];simp;omega
    generalize decide (x3=0)=s at*;generalize decide (x4=0)=e at*;generalize decide (x5=1)=mo at*;have hch:=RG r d v A n c bs s e mo q wc.drew yH hd5.drew (fun W hW=>(h.below (qw.drew.trans (hW.below (B:=w.heap.size) (fun k _ e=>by have:=qw.size;simp at e;omega) qw.size))).more (by have:=qw.size;have:=hW.size;simp at this;omega)) (by omega) hq;have uy:=ah hch;clear hch;go_wp2_with fail;refine wp_region_still_tail 13 (by kernel_rfl) (by kernel_rfl) ?_;simp only[kJ,nu,pV,ny]
    still_step
    still_step
    still_step
    still_step
    still_step
    still_step
    still_step
    still_step
    still_step
    still_step
    still_step
    still_step
    still_step
    refine oK ?_;change wpList _ _ _ _ _ wc.drew
    replace E9:=E9.drew
    replace Ae:=Ae.drew
    replace qw:=qw.drew
    clear hd5 sO yH l3 l4 l5 b3 b4 b5;have hwc:w.heap.size+1<wc.drew.heap.size:=Ae.lt;generalize wc.drew=w5 at*;go_wp2_with fail;refine uy.out.mono ?_;rintro e6 w6 ⟨qP,h6⟩;have X4:Below w w w6:=qw.trans (qP.below (B:=w.heap.size) (fun k _ e=>by omega) qw.size);have Hw:=E9.kept qP (by omega);have TE:=Ae.kept qP (by omega);rcases h6 with ⟨er,hl,rfl⟩|⟨ps,Ao,co,hl,rfl,hpo⟩
    ·have Ux:=ah (show R= .inl er by rw[CO.out,hl]);clear hl;go_wp2;exact qy w _ R er _ _ _ _ _ _ _ _ _ _ rfl rfl Hw TE X4 Ux.out
    ·have hRp:R=if iZ (x6:Nat) sg la (off:Nat) ps=true then .inr ⟨x6,po,sg,la,off,s,e,ps⟩ else .inl 9:=by rw[CO.out,hl]
     have QH:=ah hRp;have hcp:=ah (E8 hl);clear hRp hl CO uy qw E9 Ae;obtain ⟨z0,z1,z2,z3,z4,z5,z6,z7⟩:=Hw.eight;have f5:=Hw.frozen 5;have f6:=Hw.frozen 6;have f7:=Hw.frozen 7;have bp7:=((Hw.ay 5 (.bool s)).ay 6 (.bool e)).ay 7 (.slice Ao ps.length co);have be7:=((TE.far (p:=⟨w,5,none⟩) (by simp) (.bool s)).far (p:=⟨w,6,none⟩) (by simp) (.bool e)).far (p:=⟨w,7,none⟩) (by simp) (.slice Ao ps.length co);have XV:=((X4.setCell (p:=⟨w,5,none⟩) (by simp) (.bool s)).setCell (p:=⟨w,6,none⟩) (by simp) (.bool e)).setCell (p:=⟨w,7,none⟩) (by simp) (.slice Ao ps.length co);have afw:gV (((w6.setCell ⟨w,5,none⟩ (.bool s)).setCell ⟨w,6,none⟩ (.bool e)).setCell ⟨w,7,none⟩ (.slice Ao ps.length co)) w5 (.slice Ao ps.length co) ps:=
      hpo.kept (fun k o hk ho=>by
       rw[lZ _ _ _ k (by simp;omega),lZ _ _ _ k (by simp;omega),lZ _ _ _ k (by simp;omega)];exact ho)
     simp at bp7;obtain ⟨Ax,cx,Fe,hvx,Dz⟩:=afw.WV;injection hvx with hx1 _ hx2
     subst hx1 hx2;have hva:=yC x6 po sg la off s e Ao ps.length co Fe ps _ Dz (by have:=hcp.out.1;omega) (fun p hp=>by have:=hcp.out.2 p hp;omega);unfold dh at hva;have QI:=ah hva;have Z9:=ah afw;clear hva Dz;go_wp2_with fail;refine QI.out.mono ?_;rintro e8 w8 ⟨rfl,OP⟩;have Uy:=bp7.below OP bp7.lt;have be8:=be7.below OP be7.lt;have hB8:=XV.trans (OP.mono XV.size);by_cases hvv:iZ (x6:Nat) sg la (off:Nat) ps=true
     ·have I6:=ah (show R= .inr ⟨x6,po,sg,la,off,s,e,ps⟩ by rw[QH.out,bD hvv]);rw[hvv];clear hvv;have afx:gV w8 w5 (.slice Ao ps.length co) ps:=Z9.out.kept (fun k o _ ho=>(OP.block k (lt_of_heap ho)).trans ho);have akx:=ah afx;clear afx;clear z0 z1 z2 z3 z4 z5 z6 z7 f5 f6 f7;obtain ⟨z0,z1,z2,z3,z4,z5,z6,z7⟩:=Uy.eight;have f0:=Uy.frozen 0;have f1:=Uy.frozen 1;have f2:=Uy.frozen 2;have f3:=Uy.frozen 3;have f4:=Uy.frozen 4;have f5:=Uy.frozen 5;have f6:=Uy.frozen 6;have f7:=Uy.frozen 7;have f8:=be8.frozen 0;have z8:=be8.cell 0;simp at z8;go_wp2_with (go_at_call 150;((with_reducible refine (jN _ _).mono ?_);rintro e9 w9 ⟨rfl,rfl⟩));have OZ:=(Uy.Us x6 (.bool po) (.bool sg) (.bool la) off (.bool s) (.bool e) (.slice Ao ps.length co)).far (p:=⟨w+1,0,none⟩) (by simp) (.int .i64 0);have be9:=(be8.X3 (g:=w.heap.size) (by omega) x6 (.bool po) (.bool sg) (.bool la) off (.bool s) (.bool e) (.slice Ao ps.length co)).ay 0 (.int .i64 0);have X7:=(uw hB8 (aL) x6 (.bool po) (.bool sg) (.bool la) off (.bool s) (.bool e) (.slice Ao ps.length co)).setCell (p:=⟨w+1,0,none⟩) (by simp) (.int .i64 0);refine RH w _ R _ ⟨x6,po,sg,la,off,s,e,ps⟩ Ao co w5 rfl rfl OZ be9 X7 I6.out (akx.out.kept (fun k o hk ho=> ?_)) (by omega);have hs:=fun (X:World) (g i:Nat) (u:Value) (hg:g<w5)=>lZ X ⟨g,i,none⟩ u k (by simp;omega)
      rw[hs _ _ _ _ (by omega),hs _ _ _ _ (by omega),hs _ _ _ _ (by omega),hs _ _ _ _ (by omega),hs _ _ _ _ (by omega),hs _ _ _ _ (by omega),hs _ _ _ _ (by omega),hs _ _ _ _ (by omega),hs _ _ _ _ (by omega)];exact ho
     ·have I6:=ah (show R= .inl 9 by rw[QH.out,aP hvv]);rw[Bool.not_eq_true] at hvv;rw[hvv];clear hvv;go_wp2_with (go_at_call 150;((with_reducible refine (iJ _ _).mono ?_);rintro e9 w9 ⟨rfl,rfl⟩));exact qy w _ R 9 _ _ _ _ _ _ _ _ _ _ rfl rfl Uy be8 hB8 I6.out
  ·rw[bD h0] at tY;have HR1:=ah tY.symm;have hx0:((x0:Int)==1)=false:=by simp;omega
   clear tY h0;go_wp2_with (first|(go_at_call 149;((with_reducible refine (E5 _ _ _ _).mono ?_);rintro e4 w4 ⟨rfl,rfl⟩))|(go_at_call 150;((with_reducible refine (iJ _ _).mono ?_);rintro e4 w4 ⟨rfl,rfl⟩)));exact qy w _ R 9 _ _ _ _ _ _ _ _ _ _ rfl rfl BO tX hB3 HR1.out
abbrev Fl:=Bool × Bool × Bool
def fl0:Fl:=(false,false,false)
structure Sp where
 fl:List Fl
 da:List UInt8
 size:Option Nat
def Ff:Sp:=⟨[],[],none⟩
def dZ (l:List Fl) (i:Nat):Fl:=l[i]?.getD fl0
def om (l:List Fl):Nat:=(l.map (fun f=>f.1.toNat)).sum
def fP (p:Sp):Bool:=match p.size with
 |none=>false
 |some k=>decide (0<k)&&decide (om p.fl=k)
def dW:Option Sp->Bool
 |none=>false
 |some p=>fP p
structure Rc where
 m:Nat->Option Sp
 next:Nat
 status:Nat
 high:Nat
 ro:Bool
 gW:Nat
 exp:Int
 due:Bool
 fJ:Int
 now:Int
 op:List UInt8
 sm:Bool
def gL:Rc:=⟨fun _=>none,0,0,0,false,0,0,false,0,0,[],false⟩
def eD (sn:Nat):Nat:=(sn+1)%1024
def bZ (st:Rc) (sn:Nat):Nat:=(sn+1024-st.next)%1024
def lN (m:Nat->Option Sp):Nat->Nat->Nat
 |0,sn=>sn
 |f+1,sn=>if dW (m sn)=true then lN m f (eD sn) else sn
def jO (c:Cf) (st:Rc):Rc:= {st with ro:=true,gW:=st.high,exp:=IntKind.i64.wrap (st.now+c.reorder)}
def gP (st:Rc) (now:Int):Rc:= {st with now:=if st.now<now then now else st.now}
def rT (c:Cf) (st:Rc):Rc:=
 let s2:Rc:= {st with status:=lN st.m 1024 st.gW,due:=true,ro:=false}
 if s2.high≠s2.status then jO c s2 else s2
def aM (c:Cf) (st:Rc) (now:Int):Rc:=
 if st.ro=false\/(gP st now).now<st.exp then gP st now else rT c (gP st now)
def lQ (p:List UInt8) (a b:Bool):List (Fl × UInt8):=p.mapIdx (fun j x=>((true,decide (j=0)&&a,decide (j+1=p.length)&&b),x))
def eG (s e:Bool) (n:Nat):Nat->List (List UInt8)->List (Fl × UInt8)
 |_,[]=> []
 |i,p::r=>lQ p (decide (0<i)||s) (decide (i+1<n)||e)++eG s e n (i+1) r
def DY:List (Fl × UInt8)->Nat->List Fl × List UInt8->List Fl × List UInt8
 | [],_,x=>x
 |(f,b)::r,at_,x=>DY r (at_+1) (if (dZ x.1 at_).1=true then x else (x.1.set at_ f,x.2.set at_ b))
def je (k:Nat) (l:List Fl):List Fl:=l++List.replicate (k-l.length) fl0
def qQ (k:Nat) (l:List UInt8):List UInt8:=l++List.replicate (k-l.length) 0
def jm (x:jY):Nat:=x.off+aj x.ps
def BP (x:jY):Bool:= !x.sg||x.la
def Hy (p:Sp) (x:jY):Bool:=match p.size with
 |some k=> !(decide (jm x<=k)&&(!BP x||decide (jm x=k)))
 |none=>BP x&&(decide (jm x<p.fl.length)&&(p.fl.drop (jm x)).any (fun f=>f.1))
def eF (p:Sp) (x:jY):Sp:=
 let y:=DY (eG x.s x.e x.ps.length 0 x.ps) x.off (je (jm x) p.fl,qQ (jm x) p.da)
 ⟨y.1,y.2,if BP x=true then some (jm x) else p.size⟩
def uU (b:List UInt8) (begins last:Bool) (op:List UInt8) (sm:Bool):List UInt8 × Bool × List (List UInt8):=
 if begins=false/\sm=false then (op,false,[])
 else
  let o2:=(if begins=true then [] else op)++b
  if o2.length<=9000/\last=false then (o2,true,[])
  else ([],false,if o2.length<=9000 then [o2] else [])
def rU (fl:List Fl) (da:List UInt8) (n:Nat):Nat->Nat->Nat->List UInt8->Bool->List UInt8 × Bool × List (List UInt8)
 |0,_,_,op,sm=>(op,sm,[])
 |k+1,i,fr,op,sm=>
  if i<n/\(dZ fl i).2.1=false then rU fl da n k (i+1) fr op sm
  else
   let y:=uU ((da.take i).drop fr) (dZ fl fr).2.1 (decide (i<n)||(dZ fl (i-1)).2.2) op sm
   let z:=rU fl da n k (i+1) i y.1 y.2.1
   (z.1,z.2.1,y.2.2++z.2.2)
def fK (m:Nat->Option Sp) (k:Nat) (v:Option Sp):Nat->Option Sp:=fun j=>if j=k then v else m j
def CQ (p:Sp):Nat:=p.size.getD 0
def BQ (st:Rc) (p:Sp):List UInt8 × Bool × List (List UInt8):=rU p.fl p.da (CQ p) (CQ p) 1 0 st.op st.sm
def Ah (st:Rc) (p:Sp):Rc:= {st with op:=(BQ st p).1,sm:=(BQ st p).2.1,m:=fK st.m st.next none,next:=eD st.next}
def bK:Nat->Rc->Rc × List (List UInt8)
 |0,st=>(st,[])
 |f+1,st=>match st.m st.next with
  |none=>(st,[])
  |some p=>if fP p=true then ((bK f (Ah st p)).1,(BQ st p).2.2++(bK f (Ah st p)).2) else (st,[])
def iD (st:Rc) (x:jY) (p:Sp):Rc:=
 let s1:Rc:= {st with m:=fK st.m x.sn (some (eF p x)),due:=st.due||x.po}
 let s2:Rc:= {s1 with high:=if bZ s1 s1.high<=bZ s1 x.sn then eD x.sn else s1.high}
 {s2 with status:=lN s2.m 1024 s2.status}
def rV (c:Cf) (st:Rc):Rc:=
 let s1:Rc:=if bZ st st.gW=0\/512<bZ st st.gW then {st with ro:=false} else st
 if s1.ro=false/\s1.high≠s1.next then jO c s1 else s1
def d9 (st:Rc) (sn:Nat):Sp:=(st.m sn).getD Ff
def iM (c:Cf) (st:Rc) (x:jY):Rc × List (List UInt8) × Nat:=
 if 512<=bZ st x.sn then ({st with due:=st.due||x.po},[],0)
 else if Hy (d9 st x.sn) x=true then (st,[],9)
 else
  let D:=bK 1024 (iD st x (d9 st x.sn))
  (rV c D.1,D.2,0)
def fZ (c:Cf) (st:Rc) (now:Int) (bs:List UInt8):Rc × List (List UInt8) × Nat:=
 match qx bs with
 | .inl er=>(aM c st now,[],er)
 | .inr x=>iM c (aM c st now) x
def dS:List Fl->Nat->Nat->List (Nat × Nat)
 | [],i,fr=>if fr<i then [(fr,i-1)] else []
 |f::r,i,fr=>if f.1=false then dS r (i+1) fr else if fr<i then (fr,i-1)::dS r (i+1) (i+1) else dS r (i+1) (i+1)
def eT (sn:Nat) (x:Nat × Nat):Nk:=⟨sn,true,x.1,x.2⟩
def jf (sn:Nat):Option Sp->List Nk
 |none=> [⟨sn,false,0,0⟩]
 |some p=>match p.size with
  |some k=>(dS (je k p.fl) 0 0).map (eT sn)
  |none=>(dS p.fl 0 0).map (eT sn)++ [⟨sn,true,p.fl.length,32767⟩]
def pI (st:Rc):Nat->Nat->List Nk->Nat × List Nk
 |0,_,l=>(st.status,l)
 |k+1,sn,l=>
  if sn=st.status then (st.status,l)
  else if dW (st.m sn)=true then pI st k (eD sn) l
  else if 512<l.length+(jf sn (st.m sn)).length then (sn,l)
  else pI st k (eD sn) (l++jf sn (st.m sn))
def iR (st:Rc):Nat × List Nk:=pI st 1024 st.next []
def uV (st:Rc) (now:Int):Bool:=st.due&&decide (st.fJ<=(if now<st.now then st.now else now))
structure Agr (F:List (Fl × UInt8)) (x:List Fl × List UInt8):Prop where
 ll:x.2.length=x.1.length
 le:x.1.length<=F.length
 eq:∀(i:Nat) (f:Fl) (b:UInt8),x.1[i]? =some f->x.2[i]? =some b->f.1=true->F[i]? =some (f,b)
theorem jZ {l:List Fl} {i:Nat} {f:Fl} (h:l[i]? =some f):dZ l i=f:=by unfold dZ;rw[h];rfl
theorem pJ:∀(l:List (Fl × UInt8)) (a:Nat) (x:List Fl × List UInt8),(DY l a x).1.length=x.1.length/\(DY l a x).2.length=x.2.length
 | [],_,_=>⟨rfl,rfl⟩
 |(f,b)::r,a,x=>by
  unfold DY;have h:=pJ r (a+1) (if (dZ x.1 a).1=true then x else (x.1.set a f,x.2.set a b));rw[h.1,h.2];split<;>simp
theorem Kq:∀(l m:List (Fl × UInt8)) (a:Nat) (x:List Fl × List UInt8),DY (l++m) a x=DY m (a+l.length) (DY l a x)
 | [],_,_,_=>rfl
 |(f,b)::r,m,a,x=>by
  rw[qJ,DY,DY,Kq r m,jh,show a+1+r.length=a+(r.length+1) by omega]
theorem QJ {F:List (Fl × UInt8)}:∀(l:List (Fl × UInt8)) (a:Nat) (x:List Fl × List UInt8),Agr F x->(∀(j:Nat) z,l[j]? =some z->F[a+j]? =some z)->Agr F (DY l a x)
 | [],_,_,h,_=>h
 |(f,b)::r,a,x,h,hl=>by
  unfold DY;refine QJ r (a+1) _ ?_ (fun j z hj=>by have:=hl (j+1) z (by simpa using hj);rwa [show a+(j+1)=a+1+j by omega] at this);split
  ·exact h
  ·refine ⟨by simpa using h.ll,by simpa using h.le,fun i g c hg hc ht=> ?_⟩;dsimp only at hg hc;rw[IC] at hg hc;by_cases hi:a=i
   ·subst hi;have h0:=hl 0 (f,b) rfl;rw[uf] at h0;rw[bD rfl] at hg hc;split at hg
    ·split at hc
     ·cases hg;cases hc;exact h0
     ·cases hc
    ·cases hg
   ·rw[aP hi] at hg hc;exact h.eq i g c hg hc ht
theorem Aj:∀(l:List (Fl × UInt8)) (a:Nat) (x:List Fl × List UInt8) (i:Nat),(dZ x.1 i).1=true->(dZ (DY l a x).1 i).1=true
 | [],_,_,_,h=>h
 |(f,b)::r,a,x,i,h=>by
  unfold DY;refine Aj r (a+1) _ i ?_;split
  ·exact h
  ·rename_i hn;have hi:a≠i:=fun e=>hn (by rw[e];exact h)
   unfold dZ at h ⊢;dsimp only;rw[LU hi];exact h
theorem Kr:∀(l:List (Fl × UInt8)) (a:Nat) (x:List Fl × List UInt8),(∀z∈l,z.1.1=true)->a+l.length<=x.1.length->∀i,a<=i->i<a+l.length->(dZ (DY l a x).1 i).1=true
 | [],a,_,_,_,i,h1,h2=>by simp at h2;omega
 |(f,b)::r,a,x,hz,hle,i,h1,h2=>by
  unfold DY;simp only[jh] at hle h2;by_cases hi:i=a
  ·subst hi;refine Aj r (i+1) _ i ?_;split
   ·assumption
   ·unfold dZ;dsimp only;rw[Iy (by omega)];exact hz (f,b) (by simp)
  ·refine Kr r (a+1) _ (fun z hm=>hz z (by simp[hm])) ?_ i (by omega) (by omega);split
   ·omega
   ·simp;omega
theorem abN {F:List (Fl × UInt8)} {p:Sp} {k:Nat} (h:Agr F (p.fl,p.da)) (hk:k<=F.length):Agr F (je k p.fl,qQ k p.da):=by
 have h1:=h.ll;have h2:=h.le;dsimp only at h1 h2;refine ⟨by simp[je,qQ,h1],by simp[je];omega,fun i f b hf hb ht=> ?_⟩;simp only[je,qQ] at hf hb;rw[List.getElem?_append] at hf hb;rw[h1] at hb;split at hf
 ·rename_i hlt;rw[bD hlt] at hb;exact h.eq i f b hf hb ht
 ·rw[List.getElem?_replicate] at hf;split at hf
  ·cases hf;simp[fl0] at ht
  ·cases hf
theorem Uz (k:Nat) (l:List Fl) (i:Nat):(dZ (je k l) i).1=(dZ l i).1:=by
 unfold dZ je;rw[List.getElem?_append];split
 ·rfl
 ·rename_i hn;rw[kV (by omega:l.length<=i),List.getElem?_replicate];split<;>rfl
theorem fT (p:List UInt8) (a b:Bool):(lQ p a b).length=p.length:=by simp[lQ]
theorem sP (p:List UInt8) (a b:Bool) (j:Nat):(lQ p a b)[j]? =p[j]?.map (fun x=>((true,decide (j=0)&&a,decide (j+1=p.length)&&b),x)):=by simp[lQ]
theorem lq (s e:Bool) (n:Nat):∀(i:Nat) (ps:List (List UInt8)),(eG s e n i ps).length=aj ps
 |_,[]=>rfl
 |i,p::r=>by
  rw[eG,l8,fT,lq s e n (i+1) r];simp[aj]
theorem yI (s e:Bool) (n:Nat):∀(i:Nat) (ps:List (List UInt8)),∀z∈eG s e n i ps,z.1.1=true
 |_,[],z,h=>by simp[eG] at h
 |i,p::r,z,h=>by
  rw[eG,iH] at h;rcases h with h|h
  ·obtain ⟨j,hj⟩:=El.1 h;rw[sP] at hj;cases hp:p[j]? with
   |none=>rw[hp] at hj;cases hj
   |some x=>rw[hp] at hj;cases hj;rfl
  ·exact yI s e n (i+1) r z h
theorem BR (f:Fl) (l:List Fl):om (f::l)=f.1.toNat+om l:=by simp[om]
theorem xu:∀l:List Fl,om l<=l.length
 | []=>by simp[om]
 |f::l=>by
  have:=xu l;rw[BR,jh];cases f.1<;>simp<;>omega
theorem Ak:∀l:List Fl,om l=l.length->∀(i:Nat) (f:Fl),l[i]? =some f->f.1=true
 | [],_,i,f,h=>by simp at h
 |g::l,hl,i,f,h=>by
  have:=xu l;rw[BR,jh] at hl;have hg:g.1=true:=by
   cases hh:g.1 with
   |true=>rfl
   |false=>rw[hh] at hl;simp at hl;omega
  cases i with
  |zero=>simp at h;rw[<-h];exact hg
  |succ i=>
   rw[hg] at hl;exact Ak l (by simp at hl;omega) i f (by simpa using h)
theorem oq:∀l:List Fl,(∀i,i<l.length->(dZ l i).1=true)->om l=l.length
 | [],_=>rfl
 |g::l,h=>by
  have h0:=h 0 (by simp);have h1:g.1=true:=by simpa[dZ] using h0
  rw[BR,jh,h1,oq l (fun i hi=>by have:=h (i+1) (by simp;omega);simpa[dZ] using this)];simp;omega
theorem Agr.whole {F:List (Fl × UInt8)} {x:List Fl × List UInt8} (h:Agr F x) (hg:om x.1=F.length):x.1=F.map Prod.fst/\x.2=F.map Prod.snd:=by
 have h1:=xu x.1;have h2:=h.le;have h3:=h.ll;have hlen:x.1.length=F.length:=by omega
 have hall:=Ak x.1 (by omega);have key:∀i,i<F.length->x.1[i]? =F[i]?.map Prod.fst/\x.2[i]? =F[i]?.map Prod.snd:=fun i hi=>by
  have e1:x.1[i]? =some x.1[i]:=gX (by omega);have e2:x.2[i]? =some x.2[i]:=gX (by omega);have:=h.eq i _ _ e1 e2 (hall i _ e1);rw[this,e1,e2];exact ⟨rfl,rfl⟩
 constructor
 ·apply zG;intro i;rw[oW];by_cases hi:i<F.length
  ·exact (key i hi).1
  ·rw[kV (by omega),kV (by omega)];rfl
 ·apply zG;intro i;rw[oW];by_cases hi:i<F.length
  ·exact (key i hi).2
  ·rw[kV (by omega),kV (by omega)];rfl
def I7 (s e:Bool) (n:Nat):Nat->List (List UInt8)->List UInt8->Bool->List UInt8 × Bool × List (List UInt8)
 |_,[],op,sm=>(op,sm,[])
 |i,p::r,op,sm=>
  let y:=uU p (decide (0<i)||s) (decide (i+1<n)||e) op sm
  let z:=I7 s e n (i+1) r y.1 y.2.1
  (z.1,z.2.1,y.2.2++z.2.2)
theorem Fg (s e:Bool) (n:Nat):∀(i:Nat) (ps:List (List UInt8)),(eG s e n i ps).map Prod.snd=ps.flatten
 |_,[]=>rfl
 |i,p::r=>by
  rw[eG,Er,Fg s e n (i+1) r,List.flatten_cons]
  congr 1
  apply zG;intro j;rw[oW,sP];cases p[j]? <;>rfl
theorem Mq (fl:List Fl) (da:List UInt8) (n fr:Nat) (op:List UInt8) (sm:Bool):∀(d k i:Nat),(∀j,j<d->i+j<n/\(dZ fl (i+j)).2.1=false)->rU fl da n (k+d) i fr op sm=rU fl da n k (i+d) fr op sm
 |0,_,_,_=>rfl
 |d+1,k,i,h=>by
  have h0:=h 0 (by omega);rw[uf] at h0;rw[<-zH,rU,bD h0,Mq fl da n fr op sm d k (i+1) (fun j hj=>by have:=h (j+1) (by omega);rwa [show i+(j+1)=i+1+j by omega] at this)];rw[show i+1+d=i+(d+1) by omega]
theorem Mr (s e:Bool) (n:Nat) (fl:List Fl) (da:List UInt8) (N:Nat):∀(r:List (List UInt8)) (i o:Nat) (op:List UInt8) (sm:Bool),(∀p∈r,1<=p.length)->i+r.length=n->o+aj r=N->
 (∀j,fl[o+j]? =(eG s e n i r)[j]?.map Prod.fst)->da.drop o=r.flatten->rU fl da N (N-o) (o+1) o op sm=I7 s e n i r op sm
 | [],i,o,op,sm,_,_,hN,_,_=>by
  have:N-o=0:=by simp[aj] at hN;omega
  rw[this];rfl
 |p::r,i,o,op,sm,hp,hi,hN,hf,hd=>by
  have hp1:=hp p (by simp);have hsum:aj (p::r)=p.length+aj r:=by simp[aj]
  rw[hsum] at hN;have hfl:∀j,j<p.length->fl[o+j]? =some (true,decide (j=0)&&(decide (0<i)||s),decide (j+1=p.length)&&(decide (i+1<n)||e)):=fun j hj=>by
   rw[hf j,eG,mh (by rw[fT];exact hj),sP,gX hj];rfl
  have hnext:∀j,fl[o+p.length+j]? =(eG s e n (i+1) r)[j]?.map Prod.fst:=fun j=>by
   rw[zH,hf (p.length+j),eG,oI (by rw[fT];omega),fT,Nat.add_sub_cancel_left]
  have hda:da.drop (o+p.length)=r.flatten:=by
   rw[<-List.drop_drop,hd,List.flatten_cons,List.drop_left]
  have CU:=Mq fl da N o op sm (p.length-1) (N-o-(p.length-1)) (o+1) (fun j hj=>by
   refine ⟨by omega,?_⟩;rw[show o+1+j=o+(j+1) by omega,jZ (hfl (j+1) (by omega))];simp)
  rw[show N-o-(p.length-1)+(p.length-1)=N-o by omega,show o+1+(p.length-1)=o+p.length by omega] at CU;rw[CU];rw[show N-o-(p.length-1)=(N-(o+p.length))+1 by omega,rU];have hcond:¬(o+p.length<N/\(dZ fl (o+p.length)).2.1=false):=by
   rintro ⟨h1,h2⟩;cases r with
   |nil=>simp[aj] at hN;omega
   |cons q t=>
    have hq:=hp q (by simp);have:=hnext 0;rw[uf,eG,mh (by rw[fT];omega),sP,gX (show 0<q.length by omega)] at this;rw[jZ this] at h2;simp at h2
  rw[aP hcond];have hb:(da.take (o+p.length)).drop o=p:=by
   rw[List.drop_take,Nat.add_sub_cancel_left,hd,List.flatten_cons,List.take_left]
  have aky:(dZ fl o).2.1=(decide (0<i)||s):=by
   have:=hfl 0 hp1;rw[uf] at this;rw[jZ this];simp
  have hlast:(decide (o+p.length<N)||(dZ fl (o+p.length-1)).2.2)=(decide (i+1<n)||e):=by
   have:=hfl (p.length-1) (by omega);rw[show o+(p.length-1)=o+p.length-1 by omega] at this;rw[jZ this];cases r with
   |nil=>
    have h1:aj ([]:List (List UInt8))=0:=rfl;rw[h1] at hN;rw[show decide (o+p.length<N)=false by simp;omega];rw[show decide (p.length-1+1=p.length)=true by simp;omega];simp
   |cons q t=>
    have hq:=hp q (by simp);have h1:aj (q::t)=q.length+aj t:=by simp[aj]
    rw[h1] at hN;simp only[jh] at hi;rw[show decide (o+p.length<N)=true by simp;omega,show decide (i+1<n)=true by simp;omega];rfl
  rw[hb,aky,hlast,I7];dsimp only;rw[Mr s e n fl da N r (i+1) (o+p.length) _ _ (fun q hq=>hp q (by simp[hq])) (by simp only[jh] at hi;omega) (by omega) hnext hda]
theorem I8 (s e:Bool) (n:Nat):∀(r:List (List UInt8)) (i:Nat) (op b0:List UInt8) (sm sm0:Bool),r≠ []->i+r.length=n->(∀p∈r,b0.length+p.length<=9000)->
 (((decide (0<i)||s)=true/\b0= [])\/((decide (0<i)||s)=false/\sm=true/\op=b0))->
 I7 s e n i r op sm=((og b0 sm0 r e).2.1,(og b0 sm0 r e).2.2,(og b0 sm0 r e).1)
 | [],_,_,_,_,_,h,_,_,_=>absurd rfl h
 |p::r,i,op,b0,sm,sm0,_,hi,hl,hc=>by
  have hpl:=hl p (by simp);have hpart:∀last,uU p (decide (0<i)||s) last op sm=if last=true then ([],false,[b0++p]) else (b0++p,true,[]):=fun last=>by
   have hle:(b0++p).length<=9000:=by rw[l8];exact hpl
   have he:(if (decide (0<i)||s)=true then [] else op)=b0:=by
    rcases hc with ⟨h1,h2⟩|⟨h1,_,h3⟩
    ·rw[bD h1,h2]
    ·rw[h1,aP (by simp),h3]
   have hn:¬((decide (0<i)||s)=false/\sm=false):=by
    rcases hc with ⟨h1,_⟩|⟨_,h2,_⟩
    ·rw[h1];simp
    ·rw[h2];simp
   unfold uU;rw[aP hn,he];dsimp only;cases last with
   |true=>rw[aP (by simp),bD hle,bD rfl]
   |false=>rw[bD ⟨hle,rfl⟩,aP (by simp)]
  rw[I7,hpart];cases r with
  |nil=>
   simp only[jh,gQ] at hi;rw[show decide (i+1<n)=false by simp;omega,uP];cases e<;>simp[I7,og]
  |cons q t=>
   simp only[jh] at hi;rw[show decide (i+1<n)=true by simp;omega,Bool.true_or,bD rfl];dsimp only;rw[I8 s e n (q::t) (i+1) [] [] false false (by simp) (by simp only[jh];omega) (fun x hx=>by have:=hl x (by simp at hx ⊢;right;exact hx);simp;omega) (.inl ⟨by simp,rfl⟩)];simp[og]
theorem Ea:prog.underlying 128=some (.map 3 161):=by kernel_rfl
theorem AX:prog.underlying 3=some (.int .i64):=by kernel_rfl
theorem Pt (w:World):(zeroValue 161).run prog w= .ok (.pointer none) w:=by kernel_rfl
section
variable {P:Program} {t k e:TypeId} {w w':World} {b n:Nat} {F:Nat->Option Value}
theorem ku.af3 (h:ku P k w b n F) (hk:P.underlying k=some (.int .i64)) (ht:P.underlying t=some (.map k e)) {z:Value} (hz:(zeroValue e).run P w= .ok z w) {j:Nat} (hj:j<=9223372036854775807):
 (Instr.lookup t (.map (some b)) j false).run P w= .ok ((F j).getD z) w:=by
 obtain ⟨D,h1,_,h2⟩:=h;obtain ⟨v,ps,hr,hv⟩:=h1.lookup (zd:= .held z) (zp:= []) (int_keyed hk) ht hz rfl (keyOf_int_mk hk (KG hj));obtain ⟨e1,e2⟩:=h2 j hj;rw[hr];simp only[U2,sj,BA] at hv;cases hF:F j with
 |none=>
  rw[hF] at e1;have:=Maps.atKey_of_not_has (by simpa using e1) (.held z);rw[this] at hv;cases hv.1;rfl
 |some u=>
  rw[e2 u hF] at hv;cases hv.1;rfl
end
def Bu (l:List Fl):List Value:=l.flatMap (fun f=> [.bool f.1,.bool f.2.1,.bool f.2.2])
theorem qD (f:Fl) (l:List Fl):Bu (f::l)= .bool f.1:: .bool f.2.1:: .bool f.2.2::Bu l:=by simp[Bu]
theorem Pv (l:List Fl):(Bu l).length=l.length*3:=by
 induction l with
 |nil=>rfl
 |cons r t ih=>
  rw[qD];simp only[jh,ih];omega
theorem Yy (a b:List Fl):Bu (a++b)=Bu a++Bu b:=by simp[Bu]
theorem Eb:∀(l:List Fl) (j:Nat) (f:Fl),l[j]? =some f->(Bu l)[j*3]? =some (.bool f.1)/\(Bu l)[j*3+1]? =some (.bool f.2.1)/\(Bu l)[j*3+2]? =some (.bool f.2.2)
 | [],j,r,h=>by simp at h
 |x::t,0,r,h=>by
  simp at h;subst h;rw[qD];exact ⟨rfl,rfl,rfl⟩
 |x::t,j+1,r,h=>by
  have ih:=Eb t j r (by simpa using h);rw[qD,show (j+1)*3=j*3+1+1+1 by omega];exact ih
theorem QZ:∀(l:List Fl) (j:Nat) (f:Fl),j<l.length->(((Bu l).set (j*3) (.bool f.1)).set (j*3+1) (.bool f.2.1)).set (j*3+2) (.bool f.2.2)=Bu (l.set j f)
 | [],j,f,h=>by simp at h
 |x::t,0,f,_=>by
  rw[qD];show _=Bu (f::t)
  rw[qD];rfl
 |x::t,j+1,f,h=>by
  have ih:=QZ t j f (by simpa using h);rw[qD,kK,qD,<-ih,show (j+1)*3=j*3+1+1+1 by omega];rfl
structure qV (w:World) (A:Option Addr) (n c:Nat) (l:List Fl):Prop where
 len:l.length=n
 cap:n<=c
 mx:c<=9223372036854775807
 at_:0<n->∃g o,A=some ⟨g,o,none⟩/\g<w.heap.size/\∀j f,l[j]? =some f->w.cell? ⟨g,o+j*3,none⟩=some (.bool f.1)/\w.cell? ⟨g,o+j*3+1,none⟩=some (.bool f.2.1)/\w.cell? ⟨g,o+j*3+2,none⟩=some (.bool f.2.2)
section
variable {w w':World} {A:Option Addr} {n c:Nat} {l:List Fl}
theorem qV.below (h:qV w A n c l) (hb:Below w w w'):qV w' A n c l:=
 ⟨h.len,h.cap,h.mx,fun hn=>by
  obtain ⟨g,o,e,hg,hc⟩:=h.at_ hn;refine ⟨g,o,e,zD hg hb.size,fun j f hj=> ?_⟩;obtain ⟨a,b,d⟩:=hc j f hj;exact ⟨(hb.cell (p:=⟨g,_,none⟩) hg).trans a,(hb.cell (p:=⟨g,_,none⟩) hg).trans b,(hb.cell (p:=⟨g,_,none⟩) hg).trans d⟩⟩
theorem qV.eu {base:Nat} {v:Value} (h:w.ownsRow base 174 3 v l.length (Bu l)):∃A c,v= .slice A l.length c/\qV w A l.length c l:=by
 rcases h.2 with ⟨rfl,hn⟩|⟨g,cap,cur,rfl,hb,hg,hnc,hcm,hcs,ht⟩
 ·have:=nV hn;subst this;exact ⟨none,0,rfl,rfl,eH _,by omega,fun h=>absurd h (by simp)⟩
 ·refine ⟨_,_,rfl,⟨rfl,hnc,by unfold maxLen at hcm;omega,fun _=>⟨g,0,rfl,lt_of_heap hg,fun j f hj=> ?_⟩⟩⟩;have hc:=fun j u (hu:(Bu l)[j]? =some u)=>h.cells (g:=g) rfl j u hu
  obtain ⟨g1,g2,g3⟩:=Eb l j f hj;have k1:=hc _ _ g1;have k2:=hc _ _ g2;have k3:=hc _ _ g3;rw[Addr.add_lit] at k1 k2 k3;rw[jA] at k1 k2 k3;rw[jA];exact ⟨k1,k2,k3⟩
theorem qV.drop {g o k:Nat} (h:qV w (some ⟨g,o,none⟩) n c l) (hk:k<n):qV w (some ⟨g,o+k*3,none⟩) (n-k) (c-k) (l.drop k):=by
 have hl:=h.len;have hc:=h.cap;have hm:=h.mx;refine ⟨by rw[kC];omega,by omega,by omega,fun _=> ?_⟩;obtain ⟨g',o',e,hb,hcl⟩:=h.at_ (by omega);cases e;refine ⟨g,_,rfl,hb,fun j f hj=> ?_⟩;rw[vg] at hj;have:=hcl _ f hj
 rwa [show o+(k+j)*3=o+k*3+j*3 by omega] at this
end
def dY (p:Sp):Int:=match p.size with
 |none=> -1
 |some k=>(k:Int)
structure uG (w:World) (b:Nat) (p:Sp) (vf vd:Value):Prop where
 blk:av w b 165 #[vf,vd,.int .i64 (dY p)]
 fr:w.ownsRow 0 174 3 vf p.fl.length (Bu p.fl)
 dr:w.ownsRow 0 5 1 vd p.da.length (dz p.da)
structure DF (p:Sp):Prop where
 ll:p.da.length=p.fl.length
 le:p.fl.length<=32767
 sz:∀k,p.size=some k->k<=32767
theorem DF.i {p:Sp} (h:DF p): -1<=dY p/\dY p<=32767:=by
 unfold dY;cases hs:p.size with
 |none=>simp
 |some k=>
  have:=h.sz k hs;dsimp only;omega
def Sc (c:Cf) (M:Nat) (vo:Value) (st:Rc):Array Value:=
 #[c.Oh,c.byte,c.timer,c.reorder,c.cu,c.fF,c.cap,.map (some M),.int .i64 (st.next:Nat),.int .i64 (st.status:Nat),.int .i64 (st.high:Nat),.bool st.ro,.int .i64 (st.gW:Nat),st.exp,.bool st.due,st.fJ,st.now,vo,.bool st.sm]
structure jo (w:World) (T:Nat->Nat) (g M n:Nat) (c:Cf) (st:Rc) (vo:Value):Prop where
 blk:av w g 130 (Sc c M vo st)
 tg:T g=1
 tM:T M=2
 lt:∀k,T k≠0->k<w.heap.size
 yL:w.ownsRow 0 5 1 vo st.op.length (dz st.op)
 od:∀k,vo.ownBlock=some k->T k=3
 mp:∃F,ku prog 3 w M n F/\∀k,(st.m k=none->F k=none)/\∀p,st.m k=some p->∃b vf vd,F k=some (.pointer (some ⟨b,0,none⟩))/\uG w b p vf vd/\T b=3*k+4/\(∀j,vf.ownBlock=some j->T j=3*k+5)/\(∀j,vd.ownBlock=some j->T j=3*k+6)
def MT (T:Nat->Nat) (k:Nat) (_:Obj):Prop:=T k≠0
structure fM (st:Rc):Prop where
 n1:st.next<=1023
 n2:st.status<=1023
 n3:st.high<=1023
 n4:st.gW<=1023
 m:∀k p,st.m k=some p->k<=1023/\bZ st k<512/\DF p
 op:st.op.length<=9000
 t1:0<=st.now
 t2:st.now<=9223372036854775807
section
variable {w w':World} {T:Nat->Nat} {g M n:Nat} {c:Cf} {st:Rc} {vo:Value}
theorem dw {base size m:Nat} {e:TypeId} {v:Value} {xs:List Value} (h:w.ownsRow base e size v m xs) (hk:∀k,v.ownBlock=some k->w'.heap[k]? =w.heap[k]?):w'.ownsRow base e size v m xs:=by
 rcases h.2 with ⟨rfl,h0⟩|⟨g',cap,cur,rfl,h1,h2,h3⟩
 ·exact ⟨h.1,.inl ⟨rfl,h0⟩⟩
 ·exact ⟨h.1,.inr ⟨g',cap,cur,rfl,h1,(hk g' rfl).trans h2,h3⟩⟩
theorem uG.stay {b:Nat} {p:Sp} {vf vd:Value} (h:uG w b p vf vd) (h0:w'.heap[b]? =w.heap[b]?) (h1:∀k,vf.ownBlock=some k->w'.heap[k]? =w.heap[k]?) (h2:∀k,vd.ownBlock=some k->w'.heap[k]? =w.heap[k]?):uG w' b p vf vd:=
 ⟨h0.trans h.blk,dw h.fr h1,dw h.dr h2⟩
theorem jo.stay (h:jo w T g M n c st vo) (hk:∀k,T k≠0->w'.heap[k]? =w.heap[k]?):jo w' T g M n c st vo:=by
 obtain ⟨F,h1,h2⟩:=h.mp;refine ⟨(hk g (by rw[h.tg];omega)).trans h.blk,h.tg,h.tM,fun k hf=> ?_,dw h.yL fun k e=>hk k (by rw[h.od k e];omega),h.od,F,h1.same (hk M (by rw[h.tM];omega)),fun k=>⟨(h2 k).1,fun p hp=> ?_⟩⟩
 ·have h3:=h.lt k hf;have h4:=hk k hf;rw[rH h3] at h4;exact lt_of_heap h4
 ·obtain ⟨b,vf,vd,e,hs,t1,t2,t3⟩:=(h2 k).2 p hp;exact ⟨b,vf,vd,e,hs.stay (hk b (by omega)) (fun j hj=>hk j (by rw[t2 j hj];omega)) (fun j hj=>hk j (by rw[t3 j hj];omega)),t1,t2,t3⟩
theorem jo.below (h:jo w T g M n c st vo) (hb:Below w w w'):jo w' T g M n c st vo:=h.stay fun k hk=>hb.block k (h.lt k hk)
theorem jo.drew (h:jo w T g M n c st vo):jo w.drew T g M n c st vo:=h.below (bS _ w).drew
theorem jo.drewN (h:jo w T g M n c st vo) (k:Nat):jo (w.drewN k) T g M n c st vo:=h.below ((bS _ w).drewN k)
theorem jo.alloc (h:jo w T g M n c st vo) (o:Obj):jo (w.alloc o) T g M n c st vo:=h.below ((bS _ w).alloc (aL) o)
theorem jo.far {Q:Nat->Obj->Prop} (h:jo w T g M n c st vo) (hk:Kept Q w w') (hm:∀k o,Q k o->T k=0):jo w' T g M n c st vo:=
 h.stay fun k hf=>by
  have h1:=h.lt k hf;have h2:w.heap[k]? =some w.heap[k]:=rH h1;rw[h2];exact hk.same k _ h2 fun hM=>hf (hm k _ hM)
theorem jo.put (h:jo w T g M n c st vo) (i:Nat) (u:Value) {st':Rc} (he:(Sc c M vo st).setIfInBounds i u=Sc c M vo st') (hm:st'.m=st.m) (ho:st'.op=st.op):jo (w.setCell ⟨g,i,none⟩ u) T g M n c st' vo:=by
 have hk:∀k,T k≠1->(w.setCell ⟨g,i,none⟩ u).heap[k]? =w.heap[k]? :=fun k hk=>lZ w ⟨g,i,none⟩ u k (fun e=>by have e2:k=g:=e;rw[e2] at hk;exact hk h.tg)
 obtain ⟨F,h1,h2⟩:=h.mp;refine ⟨?_,h.tg,h.tM,fun k hf=>by simpa[World.setCell] using h.lt k hf,?_,h.od,F,h1.same (hk M (by rw[h.tM];omega)),fun k=>⟨by rw[hm];exact (h2 k).1,fun p hp=> ?_⟩⟩
 ·have:=h.blk.ay i u;rw[he] at this;exact this
 ·rw[ho];exact dw h.yL fun k e=>hk k (by rw[h.od k e];omega)
 ·rw[hm] at hp;obtain ⟨b,vf,vd,e,hs,t1,t2,t3⟩:=(h2 k).2 p hp;exact ⟨b,vf,vd,e,hs.stay (hk b (by omega)) (fun j hj=>hk j (by rw[t2 j hj];omega)) (fun j hj=>hk j (by rw[t3 j hj];omega)),t1,t2,t3⟩
theorem jo.cell (h:jo w T g M n c st vo) (i:Nat):w.cell? ⟨g,i,none⟩=(Sc c M vo st)[i]? :=h.blk.cell i
theorem jo.cells (h:jo w T g M n c st vo):w.cell? ⟨g,3,none⟩=some (.int .i64 c.reorder)/\w.cell? ⟨g,4,none⟩=some (.int .i64 c.cu)/\w.cell? ⟨g,7,none⟩=some (.map (some M))/\w.cell? ⟨g,8,none⟩=some (.int .i64 (st.next:Nat))/\w.cell? ⟨g,9,none⟩=some (.int .i64 (st.status:Nat))/\w.cell? ⟨g,10,none⟩=some (.int .i64 (st.high:Nat))/\
 w.cell? ⟨g,11,none⟩=some (.bool st.ro)/\w.cell? ⟨g,12,none⟩=some (.int .i64 (st.gW:Nat))/\w.cell? ⟨g,13,none⟩=some (.int .i64 st.exp)/\w.cell? ⟨g,14,none⟩=some (.bool st.due)/\w.cell? ⟨g,15,none⟩=some (.int .i64 st.fJ)/\w.cell? ⟨g,16,none⟩=some (.int .i64 st.now)/\w.cell? ⟨g,17,none⟩=some vo/\w.cell? ⟨g,18,none⟩=some (.bool st.sm):=
 ⟨h.blk.cell 3,h.blk.cell 4,h.blk.cell 7,h.blk.cell 8,h.blk.cell 9,h.blk.cell 10,h.blk.cell 11,h.blk.cell 12,h.blk.cell 13,h.blk.cell 14,h.blk.cell 15,h.blk.cell 16,h.blk.cell 17,h.blk.cell 18⟩
end
end Go.Proofs.YtbhiklnljiehiaaGreat
