/- amrecv: take. -/
import Derived.Test.YtbhiklnljiehiaaGreatM3ao
set_option maxHeartbeats 40000000
set_option maxRecDepth 100000
namespace Go.Proofs.YtbhiklnljiehiaaGreat
open RowKit Shelf Tryz
attribute [local go_sem] Oper.semAt_some
theorem kQ {c p q:Prop} [Decidable c] (h:¬c) (hq:q):if c then p else q:=by rw[aP h];exact hq
def Gv (w:World) (b:Nat) (sp:Sp) (vf vd:Value) (x:jY) (e:Ending) (w':World):Prop:=
 if Hy sp x=true then e=KH 9/\Below w w w'
 else e= .returned (.tuple #[])/\∃oP oG,uG w' b (eF sp x) oP oG/\(∀k,oP.ownBlock=some k->vf.ownBlock=some k\/w.heap.size<=k)/\(∀k,oG.ownBlock=some k->vd.ownBlock=some k\/w.heap.size<=k)/\Kept (TkM b vf vd) w w'
theorem Ta (b:Nat) (sp:Sp) (vf vd:Value) (x:jY) (A:Option Addr) (c:Nat) (vs:List Value) (w:World) (h:uG w b sp vf vd) (ho:DF sp) (hs:jW w w A x.ps.length c vs x.ps) (hlen:x.ps.length<=64) (hpos:1<=x.ps.length) (hsum:x.off+aj x.ps<=32767)
 (hst:∀W,Kept (TkM b vf vd) w W->jW W W.heap.size A x.ps.length c vs x.ps):
 Calls prog 98 #[.pointer (some b),.agg (dh x.sn x.po x.sg x.la x.off x.s x.e A x.ps.length c)] w (Gv w b sp vf vd x):=by
 obtain ⟨sn,po,sg,la,off,s,e,ps⟩:=x;dsimp only at hs hlen hpos hsum hst ⊢;have bp:=(av.new w 161 #[.pointer (some b)]).alloc (.cells (dh sn po sg la off s e A ps.length c) 148);have bx:=av.new (w.alloc (.cells #[.pointer (some b)] 161)) 148 (dh sn po sg la off s e A ps.length c);have hB:=((bS w w).alloc (aL) (.cells #[.pointer (some b)] 161)).alloc (by simp) (.cells (dh sn po sg la off s e A ps.length c) 148);simp only[mZ] at bx;have HS0:=ah (hst w (Kept.refl _ w));have HB:=ah hB;have HST:=ah hst;have HO:=ah ho;have kH:=ah hlen;have atJ:=ah hpos;have Kj:=ah hsum;have HH:=ah h;have Dx:∀p∈ps,p.length<=1099511627776:=fun p hp=>by have:=jw hp;omega
 have ahU:=ah Dx;obtain ⟨fin,hfin⟩:∃fin,(!sg||la)=fin:=⟨_,rfl⟩
 obtain ⟨en,hen⟩:∃en,off+aj ps=en:=⟨_,rfl⟩
 have hbad:Hy sp ⟨sn,po,sg,la,off,s,e,ps⟩=match sp.size with
  |some k=> !(decide (en<=k)&&(!fin||decide (en=k)))
  |none=>fin&&(decide (en<sp.fl.length)&&(sp.fl.drop en).any (fun f=>f.1)):=by
  unfold Hy jm BP;dsimp only;rw[hen,hfin];cases sp.size<;>rfl
 have HBAD:=ah hbad;have lz:=ah hfin;have O8:=ah hen;have hbl:=h.blk.lt;clear hB hst ho hlen hpos h hs hfin Dx hen hbad;unfold dh at*;refine (xI (n:=5)).1 ?_;refine Em func98 rfl trivial ?_ rfl;simp only[ntmps98,vP,jh,gQ,Nat.reduceAdd,Nat.reduceSub,zA,zz,zF,zB,pY,qJ];refine xW.2 ?_;obtain ⟨x0,x1,x2,x3,x4,x5,x6,x7⟩:=bx.eight;have y0:=bp.cell 0;simp at y0;go_upto_region 1 with (fail)
 generalize (w.alloc (.cells #[.pointer (some b)] 161)).alloc (.cells #[sn,.bool po,.bool sg,.bool la,off,.bool s,.bool e,.slice A ps.length c] 148)=w0 at*;go_cut [4] from 11 to 17 (fun s4 wx=>s4= .bool fin/\wx=w0)
 case first=>
  have hfin:=lz.out;cases sg with
  |true=>
   obtain rfl:la=fin:=by simpa using hfin
   clear hfin;go_wp2_with fail;go_meet;exact ⟨rfl,rfl⟩
  |false=>
   obtain rfl:true=fin:=by simpa using hfin
   clear hfin;go_wp2_with fail;go_meet;exact ⟨rfl,rfl⟩
 case rest=>
 obtain ⟨rfl,rfl⟩:=hcut;have ahV:w.heap.size+1<wc.heap.size:=bx.lt;have hS0:=(HS0.out.below HB.out).more HB.out.size;have hsz:=vX s e A ps.length c vs ps wc.drew hS0.drew' (by have:=kH.out;omega) ahU.out;have HZ:=ah hsz;have IQ:=ah hS0;clear hsz hS0 ahU;have hen:=O8.out;have hwrap:IntKind.i64.wrap ((off:Int)+aj ps)=(en:Int):=by rw[iG _ (by omega)];omega
 generalize hSS:aj ps=S at*;have WT:=ah hSS;clear hSS;have Ko:w.heap.size+1<wc.drew.heap.size:=ahV;go_upto_region 2 with (fail)
 go_cut [5] from 18 to 23 (fun s5 wx=>s5= .int .i64 (en:Nat)/\Below wc wc wx)
 case first=>
  go_region_held3 (fun w'=>w'.cell? ⟨w+1,4,none⟩=some (.int .i64 off)/\w'.cell? ⟨w+1,5,none⟩=some (.bool s)/\w'.cell? ⟨w+1,6,none⟩=some (.bool e)/\w'.cell? ⟨w+1,7,none⟩=some (.slice A ps.length c))
   (first|(refine ⟨(hb2.cell (p:=⟨w+1,4,none⟩) Ko).trans x4,(hb2.cell (p:=⟨w+1,5,none⟩) Ko).trans x5,(hb2.cell (p:=⟨w+1,6,none⟩) Ko).trans x6,(hb2.cell (p:=⟨w+1,7,none⟩) Ko).trans x7⟩)|go_keep)
   ((go_at_call 88;refine HZ.out.mono ?_;rintro e2 w2 ⟨rfl,hb2⟩))
  go_wp2_with fail;go_meet;exact ⟨rfl,((bS _ wc).drew).trans hb2⟩
 case rest=>
 obtain ⟨rfl,hb2⟩:=hcut;generalize wc=w3 at*
 replace bp:=bp.below hb2 bp.lt
 replace bx:=bx.below hb2 bx.lt
 have hB3:=HB.out.trans (hb2.mono HB.out.size);have hh3:uG w3 b sp vf vd:=HH.out.stay (hB3.block b hbl) (fun k hk=>hB3.block k (HH.out.fr.lt k hk).2) (fun k hk=>hB3.block k (HH.out.dr.lt k hk).2);clear x0 x1 x2 x3 x4 x5 x6 x7 y0 hb2 HB ahV Ko HZ IQ hwrap hen;have HBP:=ah bp;have GU:=ah bx;have HB3:=ah hB3;have y0:=bp.cell 0;simp at y0;obtain ⟨z0,z1,z2⟩:w3.cell? b=some vf/\w3.cell? ⟨b,1,none⟩=some vd/\w3.cell? ⟨b,2,none⟩=some (.int .i64 (dY sp)):=⟨hh3.blk.cell 0,hh3.blk.cell 1,hh3.blk.cell 2⟩;have hle:=HO.out.le;have HH3:=ah hh3;clear bp bx hB3 hh3;have ahX:∀wx,Hy sp ⟨sn,po,sg,la,off,s,e,ps⟩=true->Below w3 w3 wx->Gv w b sp vf vd ⟨sn,po,sg,la,off,s,e,ps⟩ (KH 9) wx:=fun wx h1 h2=>by
  unfold Gv;rw[bD h1];exact ⟨rfl,HB3.out.trans (h2.mono HB3.out.size)⟩
 have Zs:=ah ahX;clear ahX;go_upto_if 28 with (fail)
 go_cut [] from 24 to 66 (fun wx=>Hy sp ⟨sn,po,sg,la,off,s,e,ps⟩=false/\Below w3 w3 wx)
 case first=>
  cases hsz:sp.size with
  |some k=>
   have hbad:=HBAD.out;rw[hsz] at hbad;dsimp only at hbad;have hsi:dY sp=(k:Int):=by unfold dY;rw[hsz]
   rw[hsi] at z2;rw[show decide (dY sp≥0)=true by rw[hsi];simp];have hk:=HO.out.sz k hsz;clear hsz hsi;by_cases h1:en<=k
   ·rw[iK h1,Du] at hbad;cases fin with
    |false=>
     have HB2:=ah hbad;clear hbad;go_wp2_with (go_at_call 96;refine (uH _ _).mono ?_;rintro e1 w4 ⟨rfl,rfl⟩);go_meet;exact ⟨HB2.out,bS _ _⟩
    |true=>
     by_cases h2:en=k
     ·have HB2:=ah hbad;have HH2:=ah h2;have hne:((en:Int)==(k:Int))=true:=by simp;omega
      clear hbad h2;go_wp2_with (go_at_call 96;refine (uH _ _).mono ?_;rintro e1 w4 ⟨rfl,rfl⟩);go_meet;exact ⟨by rw[HB2.out,HH2.out];simp,bS _ _⟩
     ·have HB2:=ah hbad;have HH2:=ah h2;have hne:((en:Int)==(k:Int))=false:=by simp;omega
      clear hbad;go_wp2_with (go_at_call 96;refine (rC _ _).mono ?_;rintro e1 w4 ⟨rfl,rfl⟩);exact Zs.out _ (by rw[HB2.out];simp[HH2.out]) (bS _ _)
   ·have HB2:=ah hbad;have HH1:=ah h1;clear hbad;go_wp2_with (go_at_call 96;refine (rC _ _).mono ?_;rintro e1 w4 ⟨rfl,rfl⟩);exact Zs.out _ (by rw[HB2.out,iP HH1.out];rfl) (bS _ _)
  |none=>
   have hbad:=HBAD.out;rw[hsz] at hbad;dsimp only at hbad;have hsi:dY sp= -1:=by unfold dY;rw[hsz]
   rw[hsi] at z2;rw[show decide (dY sp≥0)=false by rw[hsi];rfl];clear hsz hsi;obtain ⟨Af,cf,rfl,hfs⟩:=qV.eu HH3.out.fr;have hcap:=hfs.cap;have hmx:=hfs.mx;cases fin with
   |false=>
    have HB2:=ah hbad;clear hbad hfs;go_wp2_with fail;go_meet;exact ⟨HB2.out,bS _ _⟩
   |true=>
    by_cases h1:en<sp.fl.length
    ·rw[iK h1,Du,Du] at hbad;obtain ⟨gf,of,rfl,hgf,_⟩:=hfs.at_ (by omega);have hq:=U4 (hfs.drop h1) (by omega);generalize (sp.fl.drop en).any (fun f=>f.1)=got at*;have HB2:=ah hbad;have HQ:=ah hq;have d1:decide (en<sp.fl.length)=true:=iK h1;have h1':(en:Int)<(sp.fl.length:Int):=by omega
     clear hbad hfs hq;cases got with
     |false=>
      go_wp2_with (first
       |(go_at_call 153;refine HQ.out.mono ?_;rintro e1 w4 ⟨rfl,hb4⟩)
       |(go_at_call 96;refine (uH _ _).mono ?_;rintro e1 w4 ⟨rfl,rfl⟩))
      go_meet;exact ⟨HB2.out,hb4⟩
     |true=>
      go_wp2_with (first
       |(go_at_call 153;refine HQ.out.mono ?_;rintro e1 w4 ⟨rfl,hb4⟩)
       |(go_at_call 96;refine (rC _ _).mono ?_;rintro e1 w5 ⟨rfl,rfl⟩))
      exact Zs.out _ HB2.out hb4
    ·rw[iP h1,Bool.false_and,Bool.and_false] at hbad;have HB2:=ah hbad;clear hbad hfs;go_wp2_with fail;go_meet;exact ⟨HB2.out,bS _ _⟩
 case rest=>
 obtain ⟨hnb,hb4⟩:=hcut;generalize wc=w4 at*;have hT:vH w b vf vd #[sn,.bool po,.bool sg,.bool la,off,.bool s,.bool e,.slice A ps.length c] (dY sp) vf vd sp.fl sp.da w3:=
  ⟨HH3.out.blk,HH3.out.fr,HH3.out.dr,fun k hk=> .inl hk,fun k hk=> .inl hk,(Kept.of_below HB3.out).iI fun k o ho hm=>by have:=lt_of_heap ho;omega,HBP.out,GU.out,hbl⟩
 have NP:=hT.below hb4;have NQ:=ah NP;have HNB:=ah hnb;have hll:=HO.out.ll;clear hT NP hb4 hnb Zs HBAD HH3 HBP GU HB3 y0 z0 z1 z2 HH HS0;have y0:=NQ.out.bp.cell 0;simp at y0;obtain ⟨z0,z1,z2⟩:w4.cell? b=some vf/\w4.cell? ⟨b,1,none⟩=some vd/\w4.cell? ⟨b,2,none⟩=some (.int .i64 (dY sp)):=⟨NQ.out.blk.cell 0,NQ.out.blk.cell 1,NQ.out.blk.cell 2⟩;obtain ⟨Af,cf,rfl,hfs⟩:=qV.eu NQ.out.fr;have hcap:=hfs.cap;have hmx:=hfs.mx;have atL:en<=32767:=by have:=O8.out;omega
 have hwn:IntKind.i64.wrap ((en:Int)-(sp.fl.length:Int))=(en:Int)-(sp.fl.length:Int):=iG _ (by omega);have HHL:=ah hll;clear hfs hll;go_upto_if 75 with (fail)
 obtain ⟨K,hK⟩:∃K:Int,K=(en:Int)-(sp.fl.length:Int):=⟨_,rfl⟩
 rw[<-hK];go_cut [] from 75 to 93 (fun wx=>∃oP oG,vH w b (.slice Af sp.fl.length cf) vd #[sn,.bool po,.bool sg,.bool la,off,.bool s,.bool e,.slice A ps.length c] (dY sp) oP oG (je en sp.fl) (qQ en sp.da) wx)
 case first=>
  by_cases hn:sp.fl.length<en
  ·obtain ⟨kn,rfl⟩:∃kn:Nat,K=(kn:Int):=⟨en-sp.fl.length,by omega⟩
   have hkn:en-sp.fl.length=kn:=by omega
   have hkp:0<kn:=by omega
   have hkb:kn<=32767:=by omega
   have he1:Bu sp.fl++(Builtin.zeroCells (Value.agg #[.bool false,.bool false,.bool false]).cells kn).toList=Bu (je en sp.fl):=by
    show Bu sp.fl++(Builtin.zeroCells #[.bool false,.bool false,.bool false] kn).toList=Bu (je en sp.fl)
    rw[M5,<-Yy];unfold je;rw[hkn]
   have he2:dz sp.da++(Builtin.zeroCells (Value.int .u8 0).cells kn).toList=dz (qQ en sp.da):=by
    show dz sp.da++(Builtin.zeroCells #[.int .u8 0] kn).toList=dz (qQ en sp.da)
    rw[M6];unfold qQ;rw[HHL.out,hkn];simp[dz]
   have hl1:(je en sp.fl).length=sp.fl.length+kn:=by unfold je;rw[l8,LQ,hkn]
   have hl2:(qQ en sp.da).length=sp.da.length+kn:=by unfold qQ;rw[l8,LQ,HHL.out,hkn]
   have hz1:∀u∈(Builtin.zeroCells #[.bool false,.bool false,.bool false] kn).toList,u.oneCell'=true:=by
    rw[M5];intro u hu;simp only[Bu,List.mem_flatMap,nE,Dp,uQ] at hu;obtain ⟨r,_,rfl|rfl|rfl⟩:=hu<;>rfl
   have hz2:∀u∈(Builtin.zeroCells #[.int .u8 0] kn).toList,u.oneCell'=true:=by
    rw[M6];intro u hu;simp only[dz,List.mem_map] at hu;obtain ⟨r,_,rfl⟩:=hu;rfl
   obtain ⟨i1,hi1,amu,adg,amv⟩:=Va;obtain ⟨i2,hi2,amw,amx,amy⟩:=vz xg;have HE1:=ah he1;have HE2:=ah he2;have HL1:=ah hl1;have HL2:=ah hl2;have HKN:=ah hkn;have fz0:=NQ.out.blk.frozen 0;have hown1:=NQ.out.drew.fr;clear he1 he2 hl1 hl2 hK hkn;go_upto_region 9 with (fail)
   go_cut [] from 75 to 84 (fun wx=>∃v2,vH w b (.slice Af sp.fl.length cf) vd #[sn,.bool po,.bool sg,.bool la,off,.bool s,.bool e,.slice A ps.length c] (dY sp) v2 vd (je en sp.fl) sp.da wx)
   case first=>
    refine wp_region_noPanic ?_;refine bX (fun w'=>w'.cell? w=some (.pointer (some b))/\w'.cell? b=some (.slice Af sp.fl.length cf)) [9] (by kernel_rfl) ?_;have hHeld:=(show (fun w':World=>w'.cell? w=some (.pointer (some b))/\w'.cell? b=some (.slice Af sp.fl.length cf)) _ from ⟨y0,z0⟩);refine jq [2,3,4,6,9] 1 ?_;refine aW 2 ?_;refine aW 3 ?_;refine jq [6,9] 4 ?_;refine aW 5 ?_;refine jq [7,8,9] 0 ?_;refine aU (i:=6) rfl (by kernel_rfl) (by rfl) (fun K hK=> ?_);refine uX _ _ _ 163 3 rfl 0 174 i1 (.agg #[.bool false,.bool false,.bool false]) 3 3 .i64 .i64 Vb AX hi1 amu adg amv rfl (by decide) (.slice Af sp.fl.length cf) sp.fl.length (Bu sp.fl) (by rfl) hown1 kn (by rfl) hkp hz1 (by unfold maxLen;omega) (by omega) (eH _) ?_;rintro v2 w5 hr5 hg5 hv5;rw[HE1.out,<-HL1.out] at hr5;obtain ⟨A2,c2,rfl,_⟩:=qV.eu hr5;have hb5:=NQ.out.drew.blk.grown hg5 (mP hown1 NQ.out.drew.blk (by decide));have hp5:=NQ.out.drew.bp.grown hg5 (mP hown1 NQ.out.drew.bp (by decide));have q0:=hp5.cell 0;have q1:=hb5.cell 0;have q2:=hb5.frozen 0;simp at q0 q1;have LM:=ah (NQ.out.drew.flags hr5 hg5 hv5);clear hr5 hg5 hv5 hb5 hp5;refine hK _ _ ⟨q0,q1⟩ ?_;clear hK K hHeld;have hHeld:=(show (fun w':World=>w'.cell? w=some (.pointer (some b))/\w'.cell? b=some (.slice Af sp.fl.length cf)) _ from ⟨q0,q1⟩)
    try simp only[Act.put,gJ]
    refine aW 7 ?_;refine aW 8 ?_;refine dB (i:=9) rfl (by kernel_rfl) (by kernel_rfl) (by rfl) (fun K hK=> ?_);go_simp;refine hK _ _ ?_;clear hK K
    try simp only[Act.put,gJ]
    refine bW (by kernel_rfl) ?_ _;simp only[NoPanic];go_wp2_with fail;go_meet;exact ⟨_,LM.out⟩
   case rest=>
   obtain ⟨v2,GV⟩:=hcut;have LM:=ah GV;have y0:=GV.bp.cell 0;simp at y0;have z1:wc.cell? ⟨b,1,none⟩=some vd:=GV.blk.cell 1;have fz1:=GV.blk.frozen 1;have hown2:=GV.drew.dr;have hdl:sp.da.length<=32767:=by have:=HHL.out;omega
   clear GV hown1 fz0 z0;go_upto_region 10 with (fail)
   go_cut [] from 75 to 93 (fun wx=>∃v2 v3,vH w b (.slice Af sp.fl.length cf) vd #[sn,.bool po,.bool sg,.bool la,off,.bool s,.bool e,.slice A ps.length c] (dY sp) v2 v3 (je en sp.fl) (qQ en sp.da) wx)
   case first=>
    refine wp_region_noPanic ?_;refine bX (fun w'=>w'.cell? w=some (.pointer (some b))/\w'.cell? ⟨b,1,none⟩=some (vd)) [9] (by kernel_rfl) ?_;have hHeld:=(show (fun w':World=>w'.cell? w=some (.pointer (some b))/\w'.cell? ⟨b,1,none⟩=some (vd)) _ from ⟨y0,z1⟩);refine jq [2,3,4,6,9] 1 ?_;refine aW 2 ?_;refine aW 3 ?_;refine jq [6,9] 4 ?_;refine aW 5 ?_;refine jq [7,8,9] 0 ?_;refine aU (i:=6) rfl (by kernel_rfl) (by rfl) (fun K hK=> ?_);refine uX _ _ _ 31 3 rfl 0 5 i2 (.int .u8 0) 1 1 .i64 .i64 und29 AX hi2 amw amx amy rfl (by decide) vd sp.da.length (dz sp.da) (by rfl) hown2 kn (by rfl) hkp hz2 (by unfold maxLen;omega) (by omega) (eH _) ?_;rintro v3 w6 hr6 XQ hv6;rw[HE2.out,<-HL2.out] at hr6;obtain ⟨A3,c3,rfl,_,_⟩:=aY hr6;have hb6:=LM.out.drew.blk.grown XQ (mP hown2 LM.out.drew.blk (by decide));have hp6:=LM.out.drew.bp.grown XQ (mP hown2 LM.out.drew.bp (by decide));have q0:=hp6.cell 0;have q1:=hb6.cell 1;have q2:=hb6.frozen 1;simp at q0 q1;have HT6:=ah (LM.out.drew.data hr6 XQ hv6);clear hr6 XQ hv6 hb6 hp6;refine hK _ _ ⟨q0,q1⟩ ?_;clear hK K hHeld;have hHeld:=(show (fun w':World=>w'.cell? w=some (.pointer (some b))/\w'.cell? ⟨b,1,none⟩=some (vd)) _ from ⟨q0,q1⟩)
    try simp only[Act.put,gJ]
    refine aW 7 ?_;refine aW 8 ?_;refine dB (i:=9) rfl (by kernel_rfl) (by kernel_rfl) (by rfl) (fun K hK=> ?_);go_simp;refine hK _ _ ?_;clear hK K
    try simp only[Act.put,gJ]
    refine bW (by kernel_rfl) ?_ _;simp only[NoPanic];go_wp2_with fail;go_meet;exact ⟨_,_,HT6.out⟩
   case rest=>
   obtain ⟨v2,v3,hT6⟩:=hcut;go_wp2_with fail;go_meet;exact ⟨_,_,hT6⟩
  ·have he1:je en sp.fl=sp.fl:=by unfold je;rw[show en-sp.fl.length=0 by omega];simp
   have he2:qQ en sp.da=sp.da:=by have:=HHL.out;unfold qQ;rw[show en-sp.da.length=0 by omega];simp
   have HE1:=ah he1;have HE2:=ah he2;have hn2:(en:Int)-(sp.fl.length:Int)<=0:=by omega
   clear he1 he2;go_wp2_with fail;go_meet;rw[HE1.out,HE2.out];exact ⟨_,_,NQ.out⟩
 case rest=>
 obtain ⟨LJ,LK,hT⟩:=hcut;have ahY:(je en sp.fl).length=max sp.fl.length en:=by unfold je;rw[l8,LQ];omega
 have YP:(qQ en sp.da).length=max sp.fl.length en:=by unfold qQ;rw[l8,LQ,HHL.out];omega
 obtain ⟨x0,hx0⟩:∃x0:List Fl × List UInt8,x0=(je en sp.fl,qQ en sp.da):=⟨_,rfl⟩
 have hT:vH w b (.slice Af sp.fl.length cf) vd #[sn,.bool po,.bool sg,.bool la,off,.bool s,.bool e,.slice A ps.length c] (dY sp) LJ LK x0.1 x0.2 wc:=by rw[hx0];exact hT
 obtain ⟨L,hL⟩:∃L,L=max sp.fl.length en:=⟨_,rfl⟩
 have hl1:x0.1.length=L:=by rw[hx0];exact ahY.trans hL.symm
 have hl2:x0.2.length=L:=by rw[hx0];exact YP.trans hL.symm
 have hLe:en<=L:=by omega
 have hLb:L<=32767:=by omega
 have HX0:=ah hx0;have HL1:=ah hl1;have HL2:=ah hl2;have hdi:=av.new wc 3 #[.int .i64 0];have GV:=hT.alloc (.cells #[.int .i64 0] 3);have atN:w.heap.size<=wc.heap.size:=hT.kp.size;have apw:=hT.bx.lt;clear ahY YP hx0 hL hl1 hl2 NQ y0 z0 z1 z2 hcap hmx hwn HHL hT hK hle;go_upto_region 12 with (fail)
 generalize wc.alloc (.cells #[.int .i64 0] 3)=w5 at*;generalize wc.heap.size=bi at*;have hS5:=HST.out w5 GV.kp;have hbd:=E4 sn po sg la off s e A ps.length c vs ps w5 hS5 (by have:=kH.out;omega) (by omega) (by have:=WT.out;omega);unfold dh at hbd;have TG:=ah hbd;have LM:=ah GV;have HDI:=ah hdi;obtain ⟨q0,q1,q2,q3,q4,q5,q6,q7⟩:=GV.bx.eight;clear hbd hS5 GV hdi;go_wp2_with fail;refine TG.out.mono ?_;rintro e5 w6 ⟨g,v,rfl,XQ,bg,hv6,hb6⟩;have hT6:=LM.out.below hb6;have amC:=HDI.out.below hb6 HDI.out.lt;clear TG q0 q1 q2 q3 q4 q5 q6 q7;go_wp2_with fail;have nK:prog.follows .mixedOrders=true:=by kernel_rfl
 have hI0:TkI w b (.slice Af sp.fl.length cf) vd #[sn,.bool po,.bool sg,.bool la,off,.bool s,.bool e,.slice A ps.length c] (dY sp) LJ LK s e off ps x0 bi w6 0 w6:=⟨hT6,amC,Kept.refl _ _⟩;have QM:=hb6.size;have apx:=HDI.out.lt;have hww:w.heap.size<=w6.heap.size:=by omega
 have hbb:b<w:=hbl;have hgb:g≠b:=by omega
 have hgi:g≠bi:=by omega
 have ahZ:∀j,LJ.ownBlock=some j->j<w5.heap.size:=fun j hj=>(LM.out.fr.lt j hj).2
 have ah0:∀j,LK.ownBlock=some j->j<w5.heap.size:=fun j hj=>(LM.out.dr.lt j hj).2
 have hvl:=fun j hj=>hv6.lt j hj
 apply xW (n:=5).1;apply qp (gf:=197) (lb:= #[.pointer (some g)]) rfl (by omega) rfl trivial (enters_of func197 (by kernel_rfl) rfl)
  (CK _ (by omega) g w5 v off ps (by omega) (by have:=WT.out;omega) (by have:=kH.out;omega) (YB b LJ LK bi w6) w6 bg hv6 (by rintro (h|h|h|h|h)<;>first|omega|(have:=ahZ g h;omega)|(have:=ah0 g h;omega)|(have:=bg.lt;omega)) (fun j _ hj=>by have h9:=hvl j hj;rintro (h|h|h|h|h)<;>first|omega|(have:=ahZ j h;omega)|(have:=ah0 j h;omega)))
  Kept.trans (fun W l o o' hl ho hc _=>(Kept.refl _ W).grown (nX W l o') (fun j e _ _=>by cases e;exact .inr (.inr (.inr (.inr hl))))) (bS _ _) (fun _=>rfl)
  (TkI w b (.slice Af sp.fl.length cf) vd #[sn,.bool po,.bool sg,.bool la,off,.bool s,.bool e,.slice A ps.length c] (dY sp) LJ LK s e off ps x0 bi w6) (YC _ _ _ _ _ _ _ _ _ _ _ _ _ _ _ hww) hI0
 case hassign=>
  intro l k W K hK;simp only[DX]
  gi_wp2
  exact hK
 case hbody=>
  intro l k W hk hI;have hpk:ps[k]? =some (ps[k]?.getD []):=by rw[gX hk];rfl
  have hsn:=jG ps k hk;have hsl:=gG (fB ps (k+1)) (Nat.le_of_eq WT.out);have hJ0:M4 w b (.slice Af sp.fl.length cf) vd #[sn,.bool po,.bool sg,.bool la,off,.bool s,.bool e,.slice A ps.length c] (dY sp) LJ LK (GN s e off ps x0 k 0).1 (GN s e off ps x0 k 0).2 bi w6 W k W:=
   ⟨by rw[U6];exact hI.t,hI.di,hI.kp,Kept.refl _ _,⟨aL,fun _ _ _ h _=>h⟩⟩
  obtain ⟨ka,hka⟩:∃ka,off+aj (ps.take k)=ka:=⟨_,rfl⟩
  have hkb:off+aj (ps.take (k+1))=ka+(ps[k]?.getD []).length:=by omega
  obtain ⟨N,hN⟩:∃N,N=(ps[k]?.getD []).length:=⟨_,rfl⟩
  rw[<-hN] at hkb;obtain ⟨E,hE⟩:∃E,E=ka+N:=⟨_,rfl⟩
  rw[show (off:Int)+((aj (ps.take k):Nat):Int)=(ka:Int) by omega,show (off:Int)+((aj (ps.take (k+1)):Nat):Int)=(E:Int) by omega];have hkN:ka+N<=en:=by have:=O8.out;omega
  have HKA:=ah hka;have HN:=ah hN;have HE:=ah hE;have Yh:=ah hkb;have HJ0:=ah hJ0;have HPK:=ah hpk;have hEn:E<=en:=by omega
  clear hpk hsn hsl hJ0 hka hkb hN hE hkN
  gi_wp2
  gi_loopw [10] (fun s10 wr=>∃j a:Nat,j<=N/\a=ka+j/\s10= .int .i64 (a:Int)/\M4 w b (.slice Af sp.fl.length cf) vd #[sn,.bool po,.bool sg,.bool la,off,.bool s,.bool e,.slice A ps.length c] (dY sp) LJ LK (GN s e off ps x0 k j).1 (GN s e off ps x0 k j).2 bi w6 W k wr) (fun s10 _=>E-(intOf s10).toNat)
  case atStart=>exact ⟨0,ka,eH _,rfl,rfl,HJ0.out⟩
  case round=>
   obtain ⟨j,a,hj,ha,rfl,hJ⟩:=hrel;have hwz:=hJ.kp.size;have HA:=ah ha;have haE:a<=E:=by have:=HE.out;omega
   obtain ⟨z,hz⟩:∃z,z=GN s e off ps x0 k j:=⟨_,rfl⟩
   rw[<-hz] at hJ;by_cases hlt:j<N
   ·have hsu:=U9 (s:=s) (e:=e) (off:=off) (ps:=ps) (x0:=x0) (k:=k) (j:=j) (by rw[<-HN.out];exact hlt);rw[<-hz,HKA.out,<-HN.out,<-ha] at hsu;have hln:=YA (s:=s) (e:=e) (off:=off) (ps:=ps) (x0:=x0) (k:=k) j;rw[<-hz,HL1.out,HL2.out] at hln;obtain ⟨fl,da⟩:=z;dsimp only at hJ hsu hln;obtain ⟨hfl,hdl⟩:=hln;have hfr:=hJ.t.fr;have hdr:=hJ.t.dr;have hL0:0<L:=by have:=HE.out;omega
    have hfr2:=hfr;have adq:=hdr;rw[hfl] at hfr2;rw[hdl] at adq;obtain ⟨gf,cf1,rfl,amf,amg,atP⟩:=AZ hfr2 hL0;obtain ⟨gd,cd1,rfl,amh,ami,atQ⟩:=AZ adq hL0;clear hfr2 adq;have hfs:qV wr (some ⟨gf,0,none⟩) L cf1 fl:=by
     obtain ⟨A',c',e',hs'⟩:=qV.eu hfr;rw[hfl] at e' hs';cases e';exact hs'
    obtain ⟨ad,Ai,ci,rfl,hbk,hck,AJ⟩:=(HST.out wr hJ.t.kp).get hk;rw[<-HN.out] at hck AJ;obtain ⟨ai,u,rfl,hab,hu,hcu⟩:=AJ.get hlt;obtain ⟨x,hx⟩:∃x,(ps[k]?.getD [])[j]? =some x:=⟨_,gX (by rw[<-HN.out];exact hlt)⟩
    have hux:u=bv x:=by
     simp only[dz,oW,hx,G8,sj] at hu;exact hu.symm
    subst hux;simp only[bv] at hcu;rw[hx,Cy] at hsu;have hhas:Calls prog 156 #[.slice (some ⟨gf,0,none⟩) L cf1,.int .i64 (a:Int),.int .i64 0] wr fun e w'=>e= .returned (.bool (dZ fl a).1)/\wr=w':=FM hfs a (by omega) 0 (by omega)
    have y0:=hJ.t.bp.cell 0;simp at y0;obtain ⟨z0,z1,z2⟩:wr.cell? b=some (.slice (some ⟨gf,0,none⟩) L cf1)/\wr.cell? ⟨b,1,none⟩=some (.slice (some ⟨gd,0,none⟩) L cd1)/\wr.cell? ⟨b,2,none⟩=some (.int .i64 (dY sp)):=⟨hJ.t.blk.cell 0,hJ.t.blk.cell 1,hJ.t.blk.cell 2⟩;obtain ⟨q0,q1,q2,q3,q4,q5,q6,q7⟩:=hJ.t.bx.eight;have yi:=hJ.di.cell 0;simp at yi;have apy:=AJ.cap;have apz:=AJ.mx;have hat:a<L:=by have:=HE.out;omega
    have Ih:=ah hhas;have Xf:=ah hsu;have xA:=ah hfl;have E7:=ah hdl;have HJ:=ah hJ;have hlt2:(a:Int)<(E:Int):=by have:=HE.out;omega
    have hkn:(k:Int)<(ps.length:Int):=by omega
    have hwj:IntKind.i64.wrap ((a:Int)-(ka:Int))=(j:Int):=by rw[iG _ (by omega)];omega
    clear hz hfr hdr hfs hhas hsu hfl hdl hJ AJ hx hu q0 q1 q2 q3 q4 z2 ha;cases Tc:(dZ fl a).1 with
    |true=>
     rw[Tc] at Ih;have hsu:=Xf.out;rw[bD Tc] at hsu;have ah2:(GN s e off ps x0 k (j+1)).1=fl:=by rw[hsu]
     have ah3:(GN s e off ps x0 k (j+1)).2=da:=by rw[hsu]
     have Yn:=HJ.out;rw[<-ah2,<-ah3] at Yn;have HJ1:=ah Yn;clear hsu Tc ah2 ah3 Yn
     gi_wp2_with (refine ⟨trivial,?_⟩;gi_at_call 156;refine (IE l ((xI (n:=2)).2 Ih.out)).mono ?_;rintro e1 w1 ⟨rfl,rfl⟩)
     go_round
     case rel=>exact ⟨j+1,a+1,by omega,by have:=HA.out;omega,by go_num,HJ1.out⟩
     case measure=>simp[intOf];omega
    |false=>
     rw[Tc] at Ih;have hsu:=Xf.out;rw[aP (by rw[Tc];simp)] at hsu;have HSV:=ah hsu;clear hsu Tc
     gi_wp2_with (refine ⟨trivial,?_⟩;gi_at_call 156;refine (IE l ((xI (n:=2)).2 Ih.out)).mono ?_;rintro e1 w1 ⟨rfl,rfl⟩)
     have hSt:wr.drew=wr.drew:=rfl;refine bR 17 nK (by kernel_rfl) ?hout1 (by kernel_rfl) ?_
     case hout1=>
      rintro ⟨a',w',hh⟩;exact hh
     simp only[kJ,nu,pV,ny]
     repeat (with_reducible refine Dt (fun K hK=> ?_);go_simp;(try refine kQ (by decide) ?_);with_reducible refine hK _ ?_;clear hK K)
     with_reducible refine oK ?_
     change wpList _ _ _ _ _ wr.drew;have Zt:=ah (HJ.out.drew hwz);have hdz:=Zt.out.t.dr;rw[E7.out] at hdz;have amD:=hdz.frozenAt a;have hdc:wr.drew.cell? ⟨gd,a,none⟩=some (.int .u8 ((da[a]?.getD 0).toNat:Int)):=by
      have h9:=Zt.out.t.dr;rw[E7.out] at h9;rw[h9.cellAt a (by omega),dz,oW,gX (by rw[E7.out];exact hat)];rfl
     clear hdz;generalize wr.drew=wt at*;go_wp2;have adr:=Zt.out.ab9 E7.out (at_:=a) x;simp only[bv] at adr;generalize wt.setCell ⟨gd,a,none⟩ (.int .u8 (x.toNat:Int))=wq at*;have qX:=ah adr;obtain ⟨b1,hb1⟩:∃b1,b1=(decide (j=0)&&(decide (0<k)||s)):=⟨_,rfl⟩
     obtain ⟨b2,hb2⟩:∃b2,b2=(decide (j+1=N)&&(decide (k+1<ps.length)||e)):=⟨_,rfl⟩
     have hsv:=HSV.out;rw[<-hb1,<-hb2] at hsv;have Lp:=ah (show (GN s e off ps x0 k (j+1)).1=fl.set a (true,b1,b2) by rw[hsv]);have wV:=ah (show (GN s e off ps x0 k (j+1)).2=da.set a x by rw[hsv]);have HB1:=ah hb1;have HB2:=ah hb2;clear HSV Xf hsv hb1 hb2 adr HJ Zt y0 z0 z1 q5 q6 q7 yi amD hdc Ih;have y0:=qX.out.t.bp.cell 0;simp at y0;have z0:wq.cell? b=some (.slice (some ⟨gf,0,none⟩) L cf1):=qX.out.t.blk.cell 0;obtain ⟨q0,q1,q2,q3,q4,q5,q6,q7⟩:=qX.out.t.bx.eight;have yi:=qX.out.di.cell 0;simp at yi;have hwE:IntKind.i64.wrap ((E:Int)-1)=(E:Int)-1:=iG _ (by omega);have hwk:IntKind.i64.wrap ((k:Int)+1)=(k:Int)+1:=iG _ (by have:=kH.out;omega);have Zu:∀X:World,X.ownsRow 0 174 3 (.slice (some ⟨gf,0,none⟩) L cf1) fl.length (Bu fl)->fl.length=L->a<L->X.cell? ⟨gf,a*3,none⟩=some (.bool (dZ fl a).1)/\X.cell? ⟨gf,a*3+1,none⟩=some (.bool (dZ fl a).2.1)/\X.cell? ⟨gf,a*3+2,none⟩=some (.bool (dZ fl a).2.2):=fun X hX h1 h2=>by
      have hg:=gX (l:=fl) (i:=a) (by omega);obtain ⟨e1,e2,e3⟩:=Eb fl a _ hg;rw[jZ hg];rw[h1] at hX;exact ⟨(hX.cellAt _ (by omega)).trans e1,(hX.cellAt _ (by omega)).trans e2,(hX.cellAt _ (by omega)).trans e3⟩
     clear q0 q1 q2 q3 q4;by_cases hj0:j=0
     ·have d1:((a:Int)==(ka:Int))=true:=by have:=HA.out;simp;omega
      by_cases hk0:0<k
      ·have d3:decide ((k:Int)>0)=true:=by simp;exact hk0
       have d3b:decide (0<k)=true:=iK hk0;obtain rfl:b1=true:=by rw[HB1.out];simp[hj0,hk0]
       have HJ1:=ah hj0;have yN:=ah hk0;clear hj0 hk0 HB1;by_cases Gw:j+1=N
       ·have d2:((a:Int)==(E:Int)-1)=true:=by have:=HA.out;have:=HE.out;simp;omega
        by_cases tN:k+1<ps.length
        ·have d4:decide ((k:Int)+1<(ps.length:Int))=true:=by simp;omega
         have d4b:decide (k+1<ps.length)=true:=iK tN;obtain rfl:b2=true:=by rw[HB2.out];simp[Gw,tN]
         clear Gw tN HB2;refine bR 37 nK (by kernel_rfl) ?ads (by kernel_rfl) ?_
         case ads=>
          rintro ⟨a',w',hh⟩;exact hh
         simp only[kJ,nu,pV,ny]
         repeat (with_reducible refine Dt (fun K hK=> ?_);go_simp;(try refine kQ (by decide) ?_);with_reducible refine hK _ ?_;clear hK K)
         with_reducible refine oK ?_
         change wpList _ _ _ _ _ wq.drew;have jS:=ah (qX.out.drew (by have:=qX.out.kp.size;exact this));obtain ⟨g0,g1,g2⟩:=Zu wq.drew jS.out.t.fr xA.out hat;have gz:=jS.out.t.fr;rw[xA.out] at gz
         replace gz:=gz.frozenAt
         generalize wq.drew=wv at*;go_wp2
         gi_wp2_with fail
         go_round
         case rel=>exact ⟨j+1,a+1,by omega,by have:=HA.out;omega,by go_num,by rw[Lp.out,wV.out];exact jS.out.FQ xA.out hat (true,_,_)⟩
         case measure=>simp[intOf];omega
        ·have d4:decide ((k:Int)+1<(ps.length:Int))=false:=by simp;omega
         have d4b:decide (k+1<ps.length)=false:=iP tN;obtain rfl:b2=e:=by rw[HB2.out];simp[Gw,tN]
         clear Gw tN HB2;refine bR 37 nK (by kernel_rfl) ?adt (by kernel_rfl) ?_
         case adt=>
          rintro ⟨a',w',hh⟩;exact hh
         simp only[kJ,nu,pV,ny]
         repeat (with_reducible refine Dt (fun K hK=> ?_);go_simp;(try refine kQ (by decide) ?_);with_reducible refine hK _ ?_;clear hK K)
         with_reducible refine oK ?_
         change wpList _ _ _ _ _ wq.drew;have jS:=ah (qX.out.drew (by have:=qX.out.kp.size;exact this));obtain ⟨g0,g1,g2⟩:=Zu wq.drew jS.out.t.fr xA.out hat;have gz:=jS.out.t.fr;rw[xA.out] at gz
         replace gz:=gz.frozenAt
         generalize wq.drew=wv at*;go_wp2
         gi_wp2_with fail
         go_round
         case rel=>exact ⟨j+1,a+1,by omega,by have:=HA.out;omega,by go_num,by rw[Lp.out,wV.out];exact jS.out.FQ xA.out hat (true,_,_)⟩
         case measure=>simp[intOf];omega
       ·have d2:((a:Int)==(E:Int)-1)=false:=by have:=HA.out;have:=HE.out;simp;omega
        obtain rfl:b2=false:=by rw[HB2.out];simp[Gw]
        clear Gw HB2;refine bR 37 nK (by kernel_rfl) ?adu (by kernel_rfl) ?_
        case adu=>
         rintro ⟨a',w',hh⟩;exact hh
        simp only[kJ,nu,pV,ny]
        repeat (with_reducible refine Dt (fun K hK=> ?_);go_simp;(try refine kQ (by decide) ?_);with_reducible refine hK _ ?_;clear hK K)
        with_reducible refine oK ?_
        change wpList _ _ _ _ _ wq.drew;have jS:=ah (qX.out.drew (by have:=qX.out.kp.size;exact this));obtain ⟨g0,g1,g2⟩:=Zu wq.drew jS.out.t.fr xA.out hat;have gz:=jS.out.t.fr;rw[xA.out] at gz
        replace gz:=gz.frozenAt
        generalize wq.drew=wv at*;go_wp2
        gi_wp2_with fail
        go_round
        case rel=>exact ⟨j+1,a+1,by omega,by have:=HA.out;omega,by go_num,by rw[Lp.out,wV.out];exact jS.out.FQ xA.out hat (true,_,_)⟩
        case measure=>simp[intOf];omega
      ·have d3:decide ((k:Int)>0)=false:=by simp;omega
       have d3b:decide (0<k)=false:=iP hk0;obtain rfl:b1=s:=by rw[HB1.out];simp[hj0,hk0]
       clear hj0 hk0 HB1;by_cases Gw:j+1=N
       ·have d2:((a:Int)==(E:Int)-1)=true:=by have:=HA.out;have:=HE.out;simp;omega
        by_cases tN:k+1<ps.length
        ·have d4:decide ((k:Int)+1<(ps.length:Int))=true:=by simp;omega
         have d4b:decide (k+1<ps.length)=true:=iK tN;obtain rfl:b2=true:=by rw[HB2.out];simp[Gw,tN]
         clear Gw tN HB2;refine bR 37 nK (by kernel_rfl) ?adw (by kernel_rfl) ?_
         case adw=>
          rintro ⟨a',w',hh⟩;exact hh
         simp only[kJ,nu,pV,ny]
         repeat (with_reducible refine Dt (fun K hK=> ?_);go_simp;(try refine kQ (by decide) ?_);with_reducible refine hK _ ?_;clear hK K)
         with_reducible refine oK ?_
         change wpList _ _ _ _ _ wq.drew;have jS:=ah (qX.out.drew (by have:=qX.out.kp.size;exact this));obtain ⟨g0,g1,g2⟩:=Zu wq.drew jS.out.t.fr xA.out hat;have gz:=jS.out.t.fr;rw[xA.out] at gz
         replace gz:=gz.frozenAt
         generalize wq.drew=wv at*;go_wp2
         gi_wp2_with fail
         go_round
         case rel=>exact ⟨j+1,a+1,by omega,by have:=HA.out;omega,by go_num,by rw[Lp.out,wV.out];exact jS.out.FQ xA.out hat (true,_,_)⟩
         case measure=>simp[intOf];omega
        ·have d4:decide ((k:Int)+1<(ps.length:Int))=false:=by simp;omega
         have d4b:decide (k+1<ps.length)=false:=iP tN;obtain rfl:b2=e:=by rw[HB2.out];simp[Gw,tN]
         clear Gw tN HB2;refine bR 37 nK (by kernel_rfl) ?adx (by kernel_rfl) ?_
         case adx=>
          rintro ⟨a',w',hh⟩;exact hh
         simp only[kJ,nu,pV,ny]
         repeat (with_reducible refine Dt (fun K hK=> ?_);go_simp;(try refine kQ (by decide) ?_);with_reducible refine hK _ ?_;clear hK K)
         with_reducible refine oK ?_
         change wpList _ _ _ _ _ wq.drew;have jS:=ah (qX.out.drew (by have:=qX.out.kp.size;exact this));obtain ⟨g0,g1,g2⟩:=Zu wq.drew jS.out.t.fr xA.out hat;have gz:=jS.out.t.fr;rw[xA.out] at gz
         replace gz:=gz.frozenAt
         generalize wq.drew=wv at*;go_wp2
         gi_wp2_with fail
         go_round
         case rel=>exact ⟨j+1,a+1,by omega,by have:=HA.out;omega,by go_num,by rw[Lp.out,wV.out];exact jS.out.FQ xA.out hat (true,_,_)⟩
         case measure=>simp[intOf];omega
       ·have d2:((a:Int)==(E:Int)-1)=false:=by have:=HA.out;have:=HE.out;simp;omega
        obtain rfl:b2=false:=by rw[HB2.out];simp[Gw]
        clear Gw HB2;refine bR 37 nK (by kernel_rfl) ?ady (by kernel_rfl) ?_
        case ady=>
         rintro ⟨a',w',hh⟩;exact hh
        simp only[kJ,nu,pV,ny]
        repeat (with_reducible refine Dt (fun K hK=> ?_);go_simp;(try refine kQ (by decide) ?_);with_reducible refine hK _ ?_;clear hK K)
        with_reducible refine oK ?_
        change wpList _ _ _ _ _ wq.drew;have jS:=ah (qX.out.drew (by have:=qX.out.kp.size;exact this));obtain ⟨g0,g1,g2⟩:=Zu wq.drew jS.out.t.fr xA.out hat;have gz:=jS.out.t.fr;rw[xA.out] at gz
        replace gz:=gz.frozenAt
        generalize wq.drew=wv at*;go_wp2
        gi_wp2_with fail
        go_round
        case rel=>exact ⟨j+1,a+1,by omega,by have:=HA.out;omega,by go_num,by rw[Lp.out,wV.out];exact jS.out.FQ xA.out hat (true,_,_)⟩
        case measure=>simp[intOf];omega
     ·have d1:((a:Int)==(ka:Int))=false:=by have:=HA.out;simp;omega
      obtain rfl:b1=false:=by rw[HB1.out];simp[hj0]
      clear hj0 HB1;by_cases Gw:j+1=N
      ·have d2:((a:Int)==(E:Int)-1)=true:=by have:=HA.out;have:=HE.out;simp;omega
       by_cases tN:k+1<ps.length
       ·have d4:decide ((k:Int)+1<(ps.length:Int))=true:=by simp;omega
        have d4b:decide (k+1<ps.length)=true:=iK tN;obtain rfl:b2=true:=by rw[HB2.out];simp[Gw,tN]
        clear Gw tN HB2;refine bR 37 nK (by kernel_rfl) ?adz (by kernel_rfl) ?_
        case adz=>
         rintro ⟨a',w',hh⟩;exact hh
        simp only[kJ,nu,pV,ny]
        repeat (with_reducible refine Dt (fun K hK=> ?_);go_simp;(try refine kQ (by decide) ?_);with_reducible refine hK _ ?_;clear hK K)
        with_reducible refine oK ?_
        change wpList _ _ _ _ _ wq.drew;have jS:=ah (qX.out.drew (by have:=qX.out.kp.size;exact this));obtain ⟨g0,g1,g2⟩:=Zu wq.drew jS.out.t.fr xA.out hat;have gz:=jS.out.t.fr;rw[xA.out] at gz
        replace gz:=gz.frozenAt
        generalize wq.drew=wv at*;go_wp2
        gi_wp2_with fail
        go_round
        case rel=>exact ⟨j+1,a+1,by omega,by have:=HA.out;omega,by go_num,by rw[Lp.out,wV.out];exact jS.out.FQ xA.out hat (true,_,_)⟩
        case measure=>simp[intOf];omega
       ·have d4:decide ((k:Int)+1<(ps.length:Int))=false:=by simp;omega
        have d4b:decide (k+1<ps.length)=false:=iP tN;obtain rfl:b2=e:=by rw[HB2.out];simp[Gw,tN]
        clear Gw tN HB2;refine bR 37 nK (by kernel_rfl) ?adA (by kernel_rfl) ?_
        case adA=>
         rintro ⟨a',w',hh⟩;exact hh
        simp only[kJ,nu,pV,ny]
        repeat (with_reducible refine Dt (fun K hK=> ?_);go_simp;(try refine kQ (by decide) ?_);with_reducible refine hK _ ?_;clear hK K)
        with_reducible refine oK ?_
        change wpList _ _ _ _ _ wq.drew;have jS:=ah (qX.out.drew (by have:=qX.out.kp.size;exact this));obtain ⟨g0,g1,g2⟩:=Zu wq.drew jS.out.t.fr xA.out hat;have gz:=jS.out.t.fr;rw[xA.out] at gz
        replace gz:=gz.frozenAt
        generalize wq.drew=wv at*;go_wp2
        gi_wp2_with fail
        go_round
        case rel=>exact ⟨j+1,a+1,by omega,by have:=HA.out;omega,by go_num,by rw[Lp.out,wV.out];exact jS.out.FQ xA.out hat (true,_,_)⟩
        case measure=>simp[intOf];omega
      ·have d2:((a:Int)==(E:Int)-1)=false:=by have:=HA.out;have:=HE.out;simp;omega
       obtain rfl:b2=false:=by rw[HB2.out];simp[Gw]
       clear Gw HB2;refine bR 37 nK (by kernel_rfl) ?adB (by kernel_rfl) ?_
       case adB=>
        rintro ⟨a',w',hh⟩;exact hh
       simp only[kJ,nu,pV,ny]
       repeat (with_reducible refine Dt (fun K hK=> ?_);go_simp;(try refine kQ (by decide) ?_);with_reducible refine hK _ ?_;clear hK K)
       with_reducible refine oK ?_
       change wpList _ _ _ _ _ wq.drew;have jS:=ah (qX.out.drew (by have:=qX.out.kp.size;exact this));obtain ⟨g0,g1,g2⟩:=Zu wq.drew jS.out.t.fr xA.out hat;have gz:=jS.out.t.fr;rw[xA.out] at gz
       replace gz:=gz.frozenAt
       generalize wq.drew=wv at*;go_wp2
       gi_wp2_with fail
       go_round
       case rel=>exact ⟨j+1,a+1,by omega,by have:=HA.out;omega,by go_num,by rw[Lp.out,wV.out];exact jS.out.FQ xA.out hat (true,_,_)⟩
       case measure=>simp[intOf];omega
   ·have Gw:j=N:=by omega
    have amE:a=E:=by have:=HA.out;have:=HE.out;omega
    have adC:=U7 (s:=s) (e:=e) (off:=off) (x0:=x0) hk;rw[<-HN.out,<-Gw,<-hz] at adC;rw[adC] at hJ;have hlt2:¬(a:Int)<(E:Int):=by omega
    have yi:=hJ.di.cell 0;have fi:=hJ.di.frozen 0;simp at yi;have hwk:IntKind.i64.wrap ((k:Int)+1)=(k:Int)+1:=iG _ (by have:=kH.out;omega);have hnx:=hJ.next (by omega) (by omega) (by omega) (by omega)
    rw[show ((k+1:Nat):Int)=(k:Int)+1 by omega] at hnx;have Jh:=ah hnx;clear adC Gw amE hz hJ hnx ha
    gi_wp2_with fail
    exact ⟨Jh.out.kf,Jh.out.k2,Jh.out.t,by simpa using Jh.out.di,Jh.out.kp⟩
 case hdone=>
  intro D W hD hI MI;have htk:eF sp ⟨sn,po,sg,la,off,s,e,ps⟩=⟨(Xj s e off ps x0 ps.length).1,(Xj s e off ps x0 ps.length).2,if fin=true then some en else sp.size⟩:=by
   have he:off+aj ps=en:=by rw[WT.out];exact O8.out
   unfold eF Xj jm BP;dsimp only;rw[HX0.out,he,lz.out,kI (aL)]
  have y0:=hI.t.bp.cell 0;simp at y0;have z2:W.cell? ⟨b,2,none⟩=some (.int .i64 (dY sp)):=hI.t.blk.cell 2;have fz2:=hI.t.blk.frozen 2;have PG:=ah htk;have HI:=ah hI;clear htk hI;cases fin with
  |false=>
   have hs2:dY (eF sp ⟨sn,po,sg,la,off,s,e,ps⟩)=dY sp:=by rw[PG.out];rfl
   have hfin:=HI.out.t.af6 (.deferred none) MI rfl (by omega);have HS2:=ah hs2;have HF:=ah hfin;clear hs2 hfin
   gi_wp2
   go_wp2;refine ⟨by simp,.inl ⟨_,_,rfl,Cx MI,?_⟩⟩;refine ⟨.tuple #[],zJ rfl _ _ _,?_⟩;unfold Gv;rw[aP (by rw[HNB.out];simp)];have h9:=HF.out;have h8:=PG.out;refine ⟨rfl,LJ,LK,⟨by rw[HS2.out];exact h9.blk,by rw[h8];exact h9.fr,by rw[h8];exact h9.dr⟩,h9.bf,h9.bd,h9.kp⟩
  |true=>
   have hs2:dY (eF sp ⟨sn,po,sg,la,off,s,e,ps⟩)=(en:Int):=by rw[PG.out];rfl
   have hd2:(W.setCell ⟨b,2,none⟩ (.int .i64 (en:Int))).heap[D]? =some (.deferred (some [])):=(zC W ⟨b,2,none⟩ (.int .i64 (en:Int))).same D _ MI rfl;have hfin:=(HI.out.t.akX (en:Int)).af6 (.deferred none) hd2 rfl (by omega);have HS2:=ah hs2;have HF:=ah hfin;clear hs2 hfin
   gi_wp2
   go_wp2;refine ⟨by simp,.inl ⟨_,_,rfl,Cx hd2,?_⟩⟩;refine ⟨.tuple #[],zJ rfl _ _ _,?_⟩;unfold Gv;rw[aP (by rw[HNB.out];simp)];have h9:=HF.out;have h8:=PG.out;refine ⟨rfl,LJ,LK,⟨by rw[HS2.out];exact h9.blk,by rw[h8];exact h9.fr,by rw[h8];exact h9.dr⟩,h9.bf,h9.bd,h9.kp⟩
end Go.Proofs.YtbhiklnljiehiaaGreat
