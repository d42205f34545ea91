/- law37: works: the examples, computed. -/
import Derived.Test.YtbhiklnljiehiaaGreatM3bp
import Derived.Lib.BytesEntry
set_option maxHeartbeats 4000000
set_option maxRecDepth 100000
namespace Go.Proofs.YtbhiklnljiehiaaGreat
open RowKit Shelf Tryz
attribute [local go_sem] Oper.semAt_some
theorem fu.mono {c:Cf} {s:Sd} {K K':Nat} (h:fu c s K) (hk:K<=K'):fu c s K':=⟨h.cf,h.inv,h.bnd.mono hk⟩
theorem zk {c:Cf} {s:Sd} {r:Rc} {K:Nat} (ho:fu c s K) (hr:wW c r) {now:Int} (hn:now<=9223372036854775807) (n:Int):fu c (aF c s r now n).1 (K+6)/\wW c (aF c s r now n).2.1:=by
 have ht:=ho.tick now hn;unfold aF;split
 ·exact ⟨ho.mono (by omega),hr⟩
 split
 ·exact ⟨ho.mono (by omega),hr⟩
 split
 ·exact ⟨ht.mono (by omega),hr⟩
 split
 ·exact ⟨ht.mono (by omega),(hr.goes hn).ko hn n⟩
 ·exact ⟨(ht.ko now n hn).mono (by omega),hr.goes hn⟩
theorem nR {c:Cf} {s:Sd} {r:Rc} {K:Nat} (ho:fu c s K) (hr:wW c r) {now:Int} (hn:now<=9223372036854775807) (x:List UInt8):fu c (aS c s r now x).1 (K+3)/\wW c (aS c s r now x).2.1:=by
 unfold aS;split
 ·exact ⟨ho.mono (by omega),hr⟩
 split
 ·split
  ·exact ⟨ho.mono (by omega),hr⟩
  ·exact ⟨ho.status now _ _ hn,hr⟩
 ·exact ⟨ho.mono (by omega),hr.recv hn x⟩
theorem Tj {a0 a1 a2 a3 a4 a5 a6:Int} (h:eU a0 a1 a2 a3 a4 a5 a6=true):CfR (uK a0 a1 a2 a3 a4 a5 a6):=by
 unfold eU at h;simp only[gD] at h;obtain ⟨_,_,_,h4,_,_⟩:=h;have q3:=jR h4 a3 (by simp);have q4:=jR h4 a4 (by simp);exact ⟨q3.1,q3.2,q4.1,q4.2⟩
theorem tT {a0 a1 a2 a3 a4 a5 a6:Int} (h:eU a0 a1 a2 a3 a4 a5 a6=true):fu (uK a0 a1 a2 a3 a4 a5 a6) dO 0:=⟨NE h,vC.new,lK.new⟩
theorem xH {a0 a1 a2 a3 a4 a5 a6:Int} (h:eU a0 a1 a2 a3 a4 a5 a6=true):wW (uK a0 a1 a2 a3 a4 a5 a6) gL:=⟨Tj h,NR.1,NR.2⟩
def kc:Cf:=uK 0 0 10 0 0 1 1000
def k1:Sd:=(bV kc dO [104,105]).1
theorem ko1:(bV kc dO [104,105]).2=0:=by decide+kernel
def k2:Sd × Rc × List UInt8 × Int:=aF kc k1 gL 0 9
theorem ko2:k2.2.2=([160,0,104,105],0):=by decide+kernel
def k3:Sd × Rc × List (List UInt8) × Int:=aS kc dO gL 0 [160,0,104,105]
theorem ko3:k3.2.2=([[104,105]],0):=by decide+kernel
theorem ko4:uV k3.2.1 0=true:=by decide+kernel
def k5:Sd × Rc × List UInt8 × Int:=aF kc k3.1 k3.2.1 0 9
theorem ko5:k5.2.2=([0,4],0):=by decide+kernel
def k6:Sd × Rc × List (List UInt8) × Int:=aS kc k2.1 k2.2.1 0 [0,4]
theorem ko6:k6.2.2=([],0):=by decide+kernel
def k7:Sd × Rc × List (List UInt8) × Int:=aS kc k6.1 k6.2.1 0 []
theorem ko7:k7.2.2=([],5):=by decide+kernel
def k8:Sd × Rc × List (List UInt8) × Int:=aS kc k7.1 k7.2.1 0 [128]
theorem ko8:k8.2.2=([],5):=by decide+kernel
def k9:Sd × Rc × List (List UInt8) × Int:=aS kc k8.1 k8.2.1 0 [0,20]
theorem ko9:k9.2.2=([],6):=by decide+kernel
theorem am2:k9.1.done=1:=by decide+kernel
theorem kR:eU 0 0 10 0 0 1 1000=true:=by decide
theorem aiw:fu kc k1 0:=(tT kR).iY _
theorem ZE:fu kc k2.1 6/\wW kc k2.2.1:=zk aiw (xH kR) (by decide) 9
theorem aix:fu kc k3.1 3/\wW kc k3.2.1:=nR (tT kR) (xH kR) (by decide) _
theorem ZF:fu kc k6.1 9/\wW kc k6.2.1:=nR ZE.1 ZE.2 (by decide) _
theorem ZG:fu kc k7.1 12/\wW kc k7.2.1:=nR ZF.1 ZF.2 (by decide) _
theorem ZH:fu kc k8.1 15/\wW kc k8.2.1:=nR ZG.1 ZG.2 (by decide) _
theorem am3:fu kc k9.1 18/\wW kc k9.2.1:=nR ZH.1 ZH.2 (by decide) _
theorem Wx (W:World) (l:List UInt8) (hl:l.length<=1000) (fr:Nat × Nat):Sl (W.alloc (.cells (dz l).toArray 5 fr)) (W.alloc (.cells (dz l).toArray 5 fr)).heap.size (some ⟨W,0,none⟩) l.length l.length (dz l):=by
 have:=BK (sN W (.cells (dz l).toArray 5 fr)) (xs:=dz l) (by simp) (by simp;omega);simpa using this
theorem Rn {W:World} {F:Fp} (hF:∀k,F k->k<W.heap.size) (l:List UInt8) (hl:l.length<=1000):∀W2,Kept (fun k o=>F k/\(U8 o->F.b k)) (W.alloc (.cells (dz l).toArray 5)) W2->Sl W2 W2.heap.size (some ⟨W,0,none⟩) l.length l.length (dz l):=by
 intro W2 hk;have hb0:=av.new W 5 (dz l).toArray;have hb:av W2 W 5 (dz l).toArray:=(kg hk hb0.lt fun o e=>by have:=hF _ e.1;omega).trans hb0;exact ⟨by simp,aL,by omega,fun h0=>⟨_,rfl,hb.lt,fun j u hu=>by
  rw[Addr.add_lit,jA];exact (hb.cell j).trans (by simpa using hu)⟩⟩
theorem adN (W:World):Sl W W none 0 0 (dz []):=⟨rfl,aL,by omega,fun h=>by omega⟩
theorem oD (w:World):Calls prog 10 #[] w fun e w'=>e= .returned (.bool true)/\Below w w w':=by
 have hN0:=JR 0 0 10 0 0 1 1000;unfold Be at hN0;have HN:=ah hN0;clear hN0;have kcv:=fun (w:World) (C:Array Value) (n c:Nat)=>Lib.run_convert_bytes_const (P:=prog) w 31 5 C n c und29 und5
 go_enter func10,ntmps10;go_wp2_with fail;have HB0:=ah ((bS _ w).alloc (aL) (.cells #[.int .i64 0,.int .i64 0,.int .i64 10,.int .i64 0,.int .i64 0,.int .i64 1,.int .i64 1000] 23));have Xm:=ah (av.new w 23 #[.int .i64 0,.int .i64 0,.int .i64 10,.int .i64 0,.int .i64 0,.int .i64 1,.int .i64 1000]);generalize w.alloc (.cells #[.int .i64 0,.int .i64 0,.int .i64 10,.int .i64 0,.int .i64 0,.int .i64 1,.int .i64 1000] 23)=W0 at*;refine (HN.out W0).mono ?_;rintro e1 w1 ⟨hb1,⟨_,ga,Fa,rfl,hEa,hFa⟩|⟨hf,_⟩⟩
 ·have bc1:=Xm.out.below hb1 Xm.out.lt;obtain ⟨x0,x1,x2,x3,x4,x5,x6⟩:=wX (a0:=0) (a1:=0) (a2:=10) (a3:=0) (a4:=0) (a5:=1) (a6:=1000) bc1;have HEA:=ah hEa;have HFA:=ah hFa;have HB1:=ah (HB0.out.trans (hb1.mono HB0.out.size));have HZ1:=ah hb1.size;clear hEa hFa hb1 bc1;go_wp2_with fail;clear x0 x1 x2 x3 x4 x5 x6;refine (HN.out w1).mono ?_;rintro e2 w2 ⟨hb2,⟨_,gb,Fb,rfl,hEb,hFb⟩|⟨hf,_⟩⟩
  ·have hT:Two w ga gb kc dO gL 0 dO gL 0 Fa Fb w2:=by
    refine ⟨HB1.out.trans (hb2.mono HB1.out.size),HEA.out.below hb2,hEb,fun k hk=>⟨?_,fun e=> ?_⟩,fun k hk=> ?_⟩
    ·have:=HFA.out k hk;have:=HB0.out.size;omega
    ·have:=hFb k e;have:=HEA.out.lt k hk;omega
    ·have:=hFb k hk;have:=HB1.out.size;omega
   have Wy:=hT.below ((bS _ w2).alloc (aL) (.cells (dz [104,105]).toArray 5 (2,3)));have hc1:=Qp Wy (tT kR) (Wx w2 [104,105] (by decide) (2,3));have TL:=ah hc1;have HTA:=ah Wy;have HZW:=ah hT.oz.size;clear hT Wy hc1 hEb hFb hb2 HEA HFA HB1 HZ1 HN HB0 Xm;go_wp2_with (go_at_call 20;refine (pR _ _).mono ?_;rintro e1 w2 ⟨rfl,rfl⟩);refine TL.out.mono ?_;rintro e3 w3 ⟨Fa3,rfl,X6⟩;rw[show (bV kc dO [104,105]).2=0 from ko1];have hT3:Two w ga gb kc k1 gL 0 dO gL 0 Fa3 Fb w3:=HTA.out.call X6;have HT3:=ah hT3;have HC3:=ah (JU hT3 aiw (by omega) (xH kR) 0 9 (by decide) (by decide));clear X6 hT3 TL HTA;go_wp2_with (go_at_call 20;refine (pR _ _).mono ?_;rintro e1 w2 ⟨rfl,rfl⟩);refine HC3.out.mono ?_;rintro e4 w4 ⟨v4,wY,rfl,GK,hx4⟩;have NP:Two w ga gb kc k2.1 k2.2.1 0 dO gL 0 wY Fb w4:=HT3.out.call GK;rw[show (aF kc k1 gL 0 9).2.2.2=0 from congrArg Prod.snd ko2];rw[show (aF kc k1 gL 0 9).2.2.1= [160,0,104,105] from congrArg Prod.fst ko2] at hx4;obtain ⟨A4,c4,hv4,hs4⟩:=hx4.sl;have Vi:v4= .slice A4 4 c4:=hv4;subst Vi;have adQ:NY w4 w Fb wY (.slice A4 4 c4) [160,0,104,105]:=hx4.swap;have HC5:=ah (oC NP.swap (tT kR) (by omega) (xH kR) (by decide) 0 (by decide) A4 4 c4 [160,0,104,105] (adQ.arg rfl) (by omega));have NQ:=ah NP;have HX4:=ah adQ;clear GK hx4 adQ hs4 hv4 NP HC3 HT3;go_wp2_with fail;refine HC5.out.mono ?_
   rintro e5 w5 ⟨v5,vs5,n5,Fb5,rfl,hn5,vJ,hl5⟩;have GV:Two w gb ga kc k3.1 k3.2.1 n5 k2.1 k2.2.1 0 Fb5 wY w5:=NQ.out.swap.call vJ;rw[show (aS kc dO gL 0 [160,0,104,105]).2.2.2=0 from congrArg Prod.snd ko3];rw[show (aS kc dO gL 0 [160,0,104,105]).2.2.1= [[104,105]] from congrArg Prod.fst ko3] at hl5;have hx5:=HX4.out.call vJ;obtain ⟨A5,c5,hv5,_⟩:=aY hl5.1;have am4:v5= .slice A5 1 c5:=hv5;subst am4;have HC6:=ah (Lt GV.ea 0);have LM:=ah GV;have HX5:=ah hx5;have HL5:=ah hl5;have HN5:=ah hn5;clear vJ hl5 hx5 GV hv5 HC5 NQ HX4 hn5;go_wp2_with fail;refine HC6.out.mono ?_;rintro e6 w6 ⟨rfl,hb6⟩;rw[show uV k3.2.1 0=true from ko4];have HC7:=ah (JU (LM.out.below hb6) aix.1 (by omega) aix.2 0 9 (by decide) (by decide));have HT6:=ah (LM.out.below hb6);have HX6:=ah (HX5.out.below hb6);have HL6:=ah (HL5.out.below hb6);clear hb6 HC6 LM HX5 HL5;go_wp2_with fail;refine HC7.out.mono ?_;rintro e7 w7 ⟨v7,Fb7,rfl,Oq,hy7⟩;have hT7:Two w gb ga kc k5.1 k5.2.1 n5 k2.1 k2.2.1 0 Fb7 wY w7:=HT6.out.call Oq;rw[show (aF kc k3.1 k3.2.1 0 9).2.2.2=0 from congrArg Prod.snd ko5];rw[show (aF kc k3.1 k3.2.1 0 9).2.2.1= [0,4] from congrArg Prod.fst ko5] at hy7;obtain ⟨A7,c7,hv7,_⟩:=hy7.sl;have YN:v7= .slice A7 2 c7:=hv7;subst YN;have adR:NY w7 w wY Fb7 (.slice A7 2 c7) [0,4]:=hy7.swap;have HC8:=ah (oC hT7.swap ZE.1 (by omega) ZE.2 (by decide) 0 (by decide) A7 2 c7 [0,4] (adR.arg rfl) (by omega))
   have HT7:=ah hT7.swap;have HY7:=ah adR;have HX7:=ah (HX6.out.call Oq).swap;have HL7:=ah (HL6.out.call Oq).swap;clear Oq hy7 adR hT7 hv7 HC7 HT6 HX6 HL6;go_wp2_with fail;refine HC8.out.mono ?_;rintro e8 w8 ⟨v8,vs8,n8,Fa8,rfl,hn8,Xr,hl8⟩;have Zx:Two w ga gb kc k6.1 k6.2.1 n8 k5.1 k5.2.1 n5 Fa8 Fb7 w8:=HT7.out.call Xr;rw[show (aS kc k2.1 k2.2.1 0 [0,4]).2.2.2=0 from congrArg Prod.snd ko6];rw[show (aS kc k2.1 k2.2.1 0 [0,4]).2.2.1= [] from congrArg Prod.fst ko6] at hl8;obtain ⟨A8,c8,OO,_⟩:=aY hl8.1;have am7:v8= .slice A8 0 c8:=OO;subst am7;have HC9:=ah (oC Zx ZF.1 (by omega) ZF.2 (by unfold maxLen;omega) 0 (by decide) none 0 0 [] (fun W2 _=>adN W2) (by omega));have HT8:=ah Zx;have HY8:=ah (HY7.out.call Xr);have HX8:=ah (HX7.out.call Xr);have HL8:=ah (HL7.out.call Xr);have HN8:=ah hn8;clear Xr hl8 Zx OO HC8 HT7 HX7 HL7 HY7 hn8;go_wp2_with fail;refine HC9.out.mono ?_;rintro e9 w9 ⟨v9,vs9,n9,Fa9,rfl,hn9,BN,VR⟩;have hT9:Two w ga gb kc k7.1 k7.2.1 n9 k5.1 k5.2.1 n5 Fa9 Fb7 w9:=HT8.out.call BN;rw[show (aS kc k6.1 k6.2.1 0 []).2.2.2=5 from congrArg Prod.snd ko7];have Wy:=hT9.below ((bS _ w9).alloc (aL) (.cells (dz [128]).toArray 5));have DL:=ah (oC Wy ZG.1 (by omega) ZG.2 (by have:=HN8.out;unfold maxLen;omega) 0 (by decide) (some ⟨w9,0,none⟩) 1 1 [128] (Rn hT9.ea.lt [128] (by decide)) (by omega));have HTA:=ah Wy
   have HYA:=ah ((HY8.out.call BN).below ((bS _ w9).alloc (aL) (.cells (dz [128]).toArray 5)));have HXA:=ah ((HX8.out.call BN).below ((bS _ w9).alloc (aL) (.cells (dz [128]).toArray 5)));have Xu:=ah ((HL8.out.call BN).below ((bS _ w9).alloc (aL) (.cells (dz [128]).toArray 5)));have HN9:=ah hn9;clear BN VR hT9 Wy HC9 HT8 HX8 HL8 HY8 hn9;go_wp2_with fail;refine DL.out.mono ?_;rintro eA wA ⟨vA,vsA,nA,FaA,rfl,hnA,hRA,hlA⟩;have Wy:Two w ga gb kc k8.1 k8.2.1 nA k5.1 k5.2.1 n5 FaA Fb7 wA:=HTA.out.call hRA;rw[show (aS kc k7.1 k7.2.1 0 [128]).2.2.2=5 from congrArg Prod.snd ko8];have hTB:=Wy.below ((bS _ wA).alloc (aL) (.cells (dz [0,20]).toArray 5));have HCB:=ah (oC hTB ZH.1 (by omega) ZH.2 (by have:=HN8.out;have:=HN9.out;unfold maxLen;omega) 0 (by decide) (some ⟨wA,0,none⟩) 2 2 [0,20] (Rn Wy.ea.lt [0,20] (by decide)) (by omega));have HTB:=ah hTB;have HYB:=ah ((HYA.out.call hRA).below ((bS _ wA).alloc (aL) (.cells (dz [0,20]).toArray 5)));have HXB:=ah ((HXA.out.call hRA).below ((bS _ wA).alloc (aL) (.cells (dz [0,20]).toArray 5)));have HLB:=ah ((Xu.out.call hRA).below ((bS _ wA).alloc (aL) (.cells (dz [0,20]).toArray 5)));clear hRA hlA Wy hTB DL HTA HXA Xu HYA;go_wp2_with fail;refine HCB.out.mono ?_;rintro eB wB ⟨vB,vsB,nB,FaB,rfl,hnB,hRB,hlB⟩;have hTB:Two w ga gb kc k9.1 k9.2.1 nB k5.1 k5.2.1 n5 FaB Fb7 wB:=HTB.out.call hRB;rw[show (aS kc k8.1 k8.2.1 0 [0,20]).2.2.2=6 from congrArg Prod.snd ko9]
   have hxB:=HXB.out.call hRB;have hyB:=HYB.out.call hRB;have hlB:=HLB.out.call hRB;obtain ⟨Ax,cx,hvx,hsx⟩:=hxB.sl;cases hvx;obtain ⟨Ay,cy,hvy,hsy⟩:=hyB.sl;cases hvy;obtain ⟨Al,cl,hvl,hsl,_⟩:=aY hlB.1;cases hvl;obtain ⟨vi,hvi,hbi⟩:=hlB.2.2 0 [104,105] rfl;obtain ⟨Ai,ci,am9,hsi⟩:=hbi.sl;subst am9;obtain ⟨al,hal,aut,hcl⟩:=hsl.at_ (by decide);subst hal;have cl0:wB.cell? al=some (.slice Ai 2 ci):=by have:=hcl 0 _ hvi;simpa[Addr.add] using this
   have q1:(convert 31 9 (.slice A4 4 c4)).run prog wB= .ok (.string ⟨#[160,0,104,105]⟩) wB:=zY hsx;have q2:(convert 31 9 (.slice A7 2 c7)).run prog wB= .ok (.string ⟨#[0,4]⟩) wB:=zY hsy;have q3:(convert 31 9 (.slice Ai 2 ci)).run prog wB= .ok (.string ⟨#[104,105]⟩) wB:=zY hsi;have HCC:=ah (jT hTB.ea am3.1);have HBL:=ah hTB.oz;clear hRB hTB hxB hyB hlB hbi hsl hsx hsy hsi hcl hvi HCB HTB HXB HLB HYB;go_wp2_with (first|(go_at_call 20;refine (pR _ _).mono ?_;rintro e1 w2 ⟨rfl,rfl⟩)|(go_at_call 25;refine HCC.out.mono ?_;rintro eC wC ⟨rfl,hbC⟩;rw[show k9.1.done=1 from am2]));go_ret;exact ⟨rfl,HBL.out.trans (hbC.mono HBL.out.size)⟩
  ·exact absurd hf (by decide)
 ·exact absurd hf (by decide)
end Go.Proofs.YtbhiklnljiehiaaGreat
