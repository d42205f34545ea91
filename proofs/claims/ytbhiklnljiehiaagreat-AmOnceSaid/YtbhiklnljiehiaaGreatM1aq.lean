/- amrecv: take. -/
import Derived.Test.YtbhiklnljiehiaaGreatM1ao
namespace Go.Proofs.YtbhiklnljiehiaaGreat
section
open Go.RowKit Go.Shelf
attribute [local go_sem] Oper.semAt_some
theorem jy {c p q:Prop} [Decidable c] (h:¬c) (hq:q):if c then p else q:=by rw[if_neg h];exact hq
def Cm (w:World) (b:Nat) (sp:Sp) (vf vd:Value) (x:jv) (e:Ending) (w':World):Prop:=
 if Df sp x=true then e=Fz 9∧Below w.heap.size w w'
 else e= .returned (.tuple #[])∧∃lW lS,qw w' b (ed sp x) lW lS∧(∀k,lW.ownBlock=some k→vf.ownBlock=some k∨w.heap.size≤k)∧(∀k,lS.ownBlock=some k→vd.ownBlock=some k∨w.heap.size≤k)∧Kept (Vw b vf vd) w w'
set_option maxRecDepth 100000 in
set_option maxHeartbeats 40000000 in
theorem NJ (b:Nat) (sp:Sp) (vf vd:Value) (x:jv) (A:Option Addr) (c:Nat) (vs:List Value) (w:World) (h:qw w b sp vf vd) (ho:zo sp) (hs:jd w w.heap.size A x.ps.length c vs x.ps) (hlen:x.ps.length≤64) (hpos:1≤x.ps.length) (hsum:x.off+aj x.ps≤32767)
 (hst:∀W,Kept (Vw b vf vd) w W→jd W W.heap.size A x.ps.length c vs x.ps):
 Calls Tryz.prog 98 #[.pointer (some ⟨b,0,none⟩),.agg (bP x.sn x.po x.sg x.la x.off x.s x.e A x.ps.length c)] w (Cm w b sp vf vd x):=by
 obtain ⟨sn,po,sg,la,off,s,e,ps⟩:=x;dsimp only at hs hlen hpos hsum hst ⊢;have bp:=(au.new w 161 #[.pointer (some ⟨b,0,none⟩)]).alloc (.cells (bP sn po sg la off s e A ps.length c) 148);have bx:=au.new (w.alloc (.cells #[.pointer (some ⟨b,0,none⟩)] 161)) 148 (bP sn po sg la off s e A ps.length c);have hB:=((Below.refl w.heap.size w).alloc (aN) (.cells #[.pointer (some ⟨b,0,none⟩)] 161)).alloc (by simp) (.cells (bP sn po sg la off s e A ps.length c) 148);simp only[World.size_alloc] at bx;have HS0:=ah (hst w (Kept.refl _ w));have HB:=ah hB;have HST:=ah hst;have HO:=ah ho;have jF:=ah hlen;have aow:=ah hpos;have E6:=ah hsum;have HH:=ah h;have zh:∀p∈ps,p.length≤1099511627776:=fun p hp=>by have:=iI hp;omega
 have ac3:=ah zh;obtain ⟨fin,hfin⟩:∃fin,(!sg||la)=fin:=⟨_,rfl⟩
 obtain ⟨en,hen⟩:∃en,off+aj ps=en:=⟨_,rfl⟩
 have hbad:Df sp ⟨sn,po,sg,la,off,s,e,ps⟩=match sp.size with
  |some k=> !(decide (en≤k)&&(!fin||decide (en=k)))
  |none=>fin&&(decide (en<sp.fl.length)&&(sp.fl.drop en).any (fun f=>f.1)):=by
  unfold Df jV xK;dsimp only;rw[hen,hfin];cases sp.size<;>rfl
 have HBAD:=ah hbad;have jJ:=ah hfin;have Kl:=ah hen;have hbl:=h.blk.lt;clear hB hst ho hlen hpos h hs hfin zh hen hbad;unfold bP at*;refine (callsIn_wide (n:=5)).1 ?_;refine callsIn_of_wp_marks Tryz.func98 rfl trivial ?_ rfl;simp only[Tryz.ntmps98,List.size_toArray,List.length_cons,List.length_nil,Nat.reduceAdd,Nat.reduceSub,Array.replicate_succ,Array.replicate_zero,List.push_toArray,List.append_toArray,List.nil_append,List.cons_append];refine wpIn_wide.2 ?_;obtain ⟨x0,x1,x2,x3,x4,x5,x6,x7⟩:=bx.eight;have y0:=bp.cell 0;simp at y0;go_upto_region 1 with (fail)
 generalize (w.alloc (.cells #[.pointer (some ⟨b,0,none⟩)] 161)).alloc (.cells #[.int .i64 sn,.bool po,.bool sg,.bool la,.int .i64 off,.bool s,.bool e,.slice A ps.length c] 148)=w0 at*;go_cut [4] from 11 to 17 (fun s4 wx=>s4= .bool fin∧wx=w0)
 case first=>
  have hfin:=jJ.out;cases sg with
  |true=>
   obtain rfl:la=fin:=by simpa using hfin
   clear hfin;go_wp2_with fail;go_meet;exact ⟨rfl,rfl⟩
  |false=>
   obtain rfl:true=fin:=by simpa using hfin
   clear hfin;go_wp2_with fail;go_meet;exact ⟨rfl,rfl⟩
 case rest=>
 obtain ⟨rfl,rfl⟩:=hcut;have ac4:w.heap.size+1<wc.heap.size:=bx.lt;have hS0:=(HS0.out.below HB.out).more HB.out.size;have hsz:=ru s e A ps.length c vs ps wc.drew hS0.drew' (by have:=jF.out;omega) ac3.out;have HZ:=ah hsz;have DR:=ah hS0;clear hsz hS0 ac3;have hen:=Kl.out;have hwrap:IntKind.i64.wrap ((off:Int)+aj ps)=(en:Int):=by rw[IntWalk.i64_in _ (by omega)];omega
 generalize hSS:aj ps=S at*;have RJ:=ah hSS;clear hSS;have Ff:w.heap.size+1<wc.drew.heap.size:=ac4;go_upto_region 2 with (fail)
 go_cut [5] from 18 to 23 (fun s5 wx=>s5= .int .i64 (en:Nat)∧Below wc.heap.size wc wx)
 case first=>
  go_region_held3 (fun w'=>w'.cell? ⟨w.heap.size+1,4,none⟩=some (.int .i64 off)∧w'.cell? ⟨w.heap.size+1,5,none⟩=some (.bool s)∧w'.cell? ⟨w.heap.size+1,6,none⟩=some (.bool e)∧w'.cell? ⟨w.heap.size+1,7,none⟩=some (.slice A ps.length c))
   (first|(refine ⟨(hb2.cell (p:=⟨w.heap.size+1,4,none⟩) Ff).trans x4,(hb2.cell (p:=⟨w.heap.size+1,5,none⟩) Ff).trans x5,(hb2.cell (p:=⟨w.heap.size+1,6,none⟩) Ff).trans x6,(hb2.cell (p:=⟨w.heap.size+1,7,none⟩) Ff).trans x7⟩)|go_keep)
   ((go_at_call 88;refine HZ.out.mono ?_;rintro e2 w2 ⟨rfl,hb2⟩))
  go_wp2_with fail;go_meet;exact ⟨rfl,((Below.refl _ wc).drew).trans hb2⟩
 case rest=>
 obtain ⟨rfl,hb2⟩:=hcut;generalize wc=w3 at*
 replace bp:=bp.below hb2 bp.lt
 replace bx:=bx.below hb2 bx.lt
 have hB3:=HB.out.trans (hb2.mono HB.out.size);have hh3:qw w3 b sp vf vd:=HH.out.stay (hB3.block b hbl) (fun k hk=>hB3.block k (HH.out.fr.lt k hk).2) (fun k hk=>hB3.block k (HH.out.dr.lt k hk).2);clear x0 x1 x2 x3 x4 x5 x6 x7 y0 hb2 HB ac4 Ff HZ DR hwrap hen;have HBP:=ah bp;have CV:=ah bx;have HB3:=ah hB3;have y0:=bp.cell 0;simp at y0;obtain ⟨z0,z1,z2⟩:w3.cell? ⟨b,0,none⟩=some vf∧w3.cell? ⟨b,1,none⟩=some vd∧w3.cell? ⟨b,2,none⟩=some (.int .i64 (dA sp)):=⟨hh3.blk.cell 0,hh3.blk.cell 1,hh3.blk.cell 2⟩;have hle:=HO.out.le;have HH3:=ah hh3;clear bp bx hB3 hh3;have ac6:∀wx,Df sp ⟨sn,po,sg,la,off,s,e,ps⟩=true→Below w3.heap.size w3 wx→Cm w b sp vf vd ⟨sn,po,sg,la,off,s,e,ps⟩ (Fz 9) wx:=fun wx h1 h2=>by
  unfold Cm;rw[if_pos h1];exact ⟨rfl,HB3.out.trans (h2.mono HB3.out.size)⟩
 have UE:=ah ac6;clear ac6;go_upto_if 28 with (fail)
 go_cut [] from 24 to 66 (fun wx=>Df sp ⟨sn,po,sg,la,off,s,e,ps⟩=false∧Below w3.heap.size w3 wx)
 case first=>
  cases hsz:sp.size with
  |some k=>
   have hbad:=HBAD.out;rw[hsz] at hbad;dsimp only at hbad;have hsi:dA sp=(k:Int):=by unfold dA;rw[hsz]
   rw[hsi] at z2;rw[show decide (dA sp≥0)=true by rw[hsi];simp];have hk:=HO.out.sz k hsz;clear hsz hsi;by_cases h1:en≤k
   ·rw[decide_eq_true h1,Bool.true_and] at hbad;cases fin with
    |false=>
     have HB2:=ah hbad;clear hbad;go_wp2_with (go_at_call 96;refine (qx _ _).mono ?_;rintro e1 w4 ⟨rfl,rfl⟩);go_meet;exact ⟨HB2.out,Below.refl _ _⟩
    |true=>
     by_cases h2:en=k
     ·have HB2:=ah hbad;have HH2:=ah h2;have hne:((en:Int)==(k:Int))=true:=by simp;omega
      clear hbad h2;go_wp2_with (go_at_call 96;refine (qx _ _).mono ?_;rintro e1 w4 ⟨rfl,rfl⟩);go_meet;exact ⟨by rw[HB2.out,HH2.out];simp,Below.refl _ _⟩
     ·have HB2:=ah hbad;have HH2:=ah h2;have hne:((en:Int)==(k:Int))=false:=by simp;omega
      clear hbad;go_wp2_with (go_at_call 96;refine (nV _ _).mono ?_;rintro e1 w4 ⟨rfl,rfl⟩);exact UE.out _ (by rw[HB2.out];simp[HH2.out]) (Below.refl _ _)
   ·have HB2:=ah hbad;have HH1:=ah h1;clear hbad;go_wp2_with (go_at_call 96;refine (nV _ _).mono ?_;rintro e1 w4 ⟨rfl,rfl⟩);exact UE.out _ (by rw[HB2.out,decide_eq_false HH1.out];rfl) (Below.refl _ _)
  |none=>
   have hbad:=HBAD.out;rw[hsz] at hbad;dsimp only at hbad;have hsi:dA sp= -1:=by unfold dA;rw[hsz]
   rw[hsi] at z2;rw[show decide (dA sp≥0)=false by rw[hsi];rfl];clear hsz hsi;obtain ⟨Af,cf,rfl,hfs⟩:=nH.dH HH3.out.fr;have hcap:=hfs.cap;have hmx:=hfs.mx;cases fin with
   |false=>
    have HB2:=ah hbad;clear hbad hfs;go_wp2_with fail;go_meet;exact ⟨HB2.out,Below.refl _ _⟩
   |true=>
    by_cases h1:en<sp.fl.length
    ·rw[decide_eq_true h1,Bool.true_and,Bool.true_and] at hbad;obtain ⟨gf,of,rfl,hgf,_⟩:=hfs.at_ (by omega);have hq:=PE (hfs.drop h1) (by omega);generalize (sp.fl.drop en).any (fun f=>f.1)=got at*;have HB2:=ah hbad;have HQ:=ah hq;have d1:decide (en<sp.fl.length)=true:=decide_eq_true h1;have h1':(en:Int)<(sp.fl.length:Int):=by omega
     clear hbad hfs hq;cases got with
     |false=>
      go_wp2_with (first
       |(go_at_call 153;refine HQ.out.mono ?_;rintro e1 w4 ⟨rfl,hb4⟩)
       |(go_at_call 96;refine (qx _ _).mono ?_;rintro e1 w4 ⟨rfl,rfl⟩))
      go_meet;exact ⟨HB2.out,hb4⟩
     |true=>
      go_wp2_with (first
       |(go_at_call 153;refine HQ.out.mono ?_;rintro e1 w4 ⟨rfl,hb4⟩)
       |(go_at_call 96;refine (nV _ _).mono ?_;rintro e1 w5 ⟨rfl,rfl⟩))
      exact UE.out _ HB2.out hb4
    ·rw[decide_eq_false h1,Bool.false_and,Bool.and_false] at hbad;have HB2:=ah hbad;clear hbad hfs;go_wp2_with fail;go_meet;exact ⟨HB2.out,Below.refl _ _⟩
 case rest=>
 obtain ⟨hnb,hb4⟩:=hcut;generalize wc=w4 at*;have hT:qT w b vf vd #[.int .i64 sn,.bool po,.bool sg,.bool la,.int .i64 off,.bool s,.bool e,.slice A ps.length c] (dA sp) vf vd sp.fl sp.da w3:=
  ⟨HH3.out.blk,HH3.out.fr,HH3.out.dr,fun k hk=> .inl hk,fun k hk=> .inl hk,(Kept.of_below HB3.out).gH fun k o ho hm=>by have:=lt_of_heap ho;omega,HBP.out,CV.out,hbl⟩
 have I8:=hT.below hb4;have Ja:=ah I8;have HNB:=ah hnb;have hll:=HO.out.ll;clear hT I8 hb4 hnb UE HBAD HH3 HBP CV HB3 y0 z0 z1 z2 HH HS0;have y0:=Ja.out.bp.cell 0;simp at y0;obtain ⟨z0,z1,z2⟩:w4.cell? ⟨b,0,none⟩=some vf∧w4.cell? ⟨b,1,none⟩=some vd∧w4.cell? ⟨b,2,none⟩=some (.int .i64 (dA sp)):=⟨Ja.out.blk.cell 0,Ja.out.blk.cell 1,Ja.out.blk.cell 2⟩;obtain ⟨Af,cf,rfl,hfs⟩:=nH.dH Ja.out.fr;have hcap:=hfs.cap;have hmx:=hfs.mx;have aoy:en≤32767:=by have:=Kl.out;omega
 have hwn:IntKind.i64.wrap ((en:Int)-(sp.fl.length:Int))=(en:Int)-(sp.fl.length:Int):=IntWalk.i64_in _ (by omega);have ZW:=ah hll;clear hfs hll;go_upto_if 75 with (fail)
 obtain ⟨K,hK⟩:∃K:Int,K=(en:Int)-(sp.fl.length:Int):=⟨_,rfl⟩
 rw[←hK];go_cut [] from 75 to 93 (fun wx=>∃lW lS,qT w b (.slice Af sp.fl.length cf) vd #[.int .i64 sn,.bool po,.bool sg,.bool la,.int .i64 off,.bool s,.bool e,.slice A ps.length c] (dA sp) lW lS (iP en sp.fl) (oF en sp.da) wx)
 case first=>
  by_cases hn:sp.fl.length<en
  ·obtain ⟨kn,rfl⟩:∃kn:Nat,K=(kn:Int):=⟨en-sp.fl.length,by omega⟩
   have hkn:en-sp.fl.length=kn:=by omega
   have hkp:0<kn:=by omega
   have hkb:kn≤32767:=by omega
   have he1:xg sp.fl++(Builtin.zeroCells (Value.agg #[.bool false,.bool false,.bool false]).cells kn).toList=xg (iP en sp.fl):=by
    show xg sp.fl++(Builtin.zeroCells #[.bool false,.bool false,.bool false] kn).toList=xg (iP en sp.fl)
    rw[Ii,←Tw];unfold iP;rw[hkn]
   have he2:bQ sp.da++(Builtin.zeroCells (Value.int .u8 0).cells kn).toList=bQ (oF en sp.da):=by
    show bQ sp.da++(Builtin.zeroCells #[.int .u8 0] kn).toList=bQ (oF en sp.da)
    rw[Ij];unfold oF;rw[ZW.out,hkn];simp[bQ]
   have hl1:(iP en sp.fl).length=sp.fl.length+kn:=by unfold iP;rw[List.length_append,List.length_replicate,hkn]
   have hl2:(oF en sp.da).length=sp.da.length+kn:=by unfold oF;rw[List.length_append,List.length_replicate,ZW.out,hkn]
   have hz1:∀u∈(Builtin.zeroCells #[.bool false,.bool false,.bool false] kn).toList,u.oneCell'=true:=by
    rw[Ii];intro u hu;simp only[xg,List.mem_flatMap,List.mem_cons,List.not_mem_nil,or_false] at hu;obtain ⟨r,_,rfl|rfl|rfl⟩:=hu<;>rfl
   have hz2:∀u∈(Builtin.zeroCells #[.int .u8 0] kn).toList,u.oneCell'=true:=by
    rw[Ij];intro u hu;simp only[bQ,List.mem_map] at hu;obtain ⟨r,_,rfl⟩:=hu;rfl
   obtain ⟨i1,hi1,ahD,Yv,ahE⟩:=PN;obtain ⟨i2,hi2,ahF,ahG,ahH⟩:=info_parts si;have Xy:=ah he1;have HE2:=ah he2;have HL1:=ah hl1;have HL2:=ah hl2;have HKN:=ah hkn;have fz0:=Ja.out.blk.frozen 0;have hown1:=Ja.out.drew.fr;clear he1 he2 hl1 hl2 hK hkn;go_upto_region 9 with (fail)
   go_cut [] from 75 to 84 (fun wx=>∃v2,qT w b (.slice Af sp.fl.length cf) vd #[.int .i64 sn,.bool po,.bool sg,.bool la,.int .i64 off,.bool s,.bool e,.slice A ps.length c] (dA sp) v2 vd (iP en sp.fl) sp.da wx)
   case first=>
    refine wp_region_noPanic ?_;refine bJ (fun w'=>w'.cell? ⟨w.heap.size,0,none⟩=some (.pointer (some ⟨b,0,none⟩))∧w'.cell? ⟨b,0,none⟩=some (.slice Af sp.fl.length cf)) [9] (by kernel_rfl) ?_;have hHeld:=(show (fun w':World=>w'.cell? ⟨w.heap.size,0,none⟩=some (.pointer (some ⟨b,0,none⟩))∧w'.cell? ⟨b,0,none⟩=some (.slice Af sp.fl.length cf)) _ from ⟨y0,z0⟩);refine iw [2,3,4,6,9] 1 ?_ rfl (Or.inl ⟨by rfl,?_⟩) hHeld ?_;rotate_left
    ·intro w' hSw;obtain ⟨hS1,hS2⟩:=hSw;go_simp
     try with_reducible rfl
    try simp only[Act.put,aD,aF,aG,ay,aA,aB]
    refine aT 2 rfl hHeld ?_
    try simp only[Act.put,aD,aF,aG,ay,aA,aB]
    refine aT 3 rfl hHeld ?_
    try simp only[Act.put,aD,aF,aG,ay,aA,aB]
    refine iw [6,9] 4 ?_ rfl (Or.inl ⟨by rfl,?_⟩) hHeld ?_;rotate_left
    ·intro w' hSw;obtain ⟨hS1,hS2⟩:=hSw;go_simp
     try with_reducible rfl
    try simp only[Act.put,aD,aF,aG,ay,aA,aB]
    refine aT 5 rfl hHeld ?_
    try simp only[Act.put,aD,aF,aG,ay,aA,aB]
    refine iw [7,8,9] 0 ?_ rfl (Or.inl ⟨by rfl,?_⟩) hHeld ?_;rotate_left
    ·intro w' hSw;obtain ⟨hS1,hS2⟩:=hSw;go_simp
     try with_reducible rfl
    try simp only[Act.put,aD,aF,ay,aA,aB]
    refine aR (i:=6) rfl (by kernel_rfl) (by rfl) (fun K hK=> ?_);refine qM _ _ _ 163 3 rfl 0 174 i1 (.agg #[.bool false,.bool false,.bool false]) 3 3 .i64 .i64 PR vZ hi1 ahD Yv ahE rfl (by decide) (.slice Af sp.fl.length cf) sp.fl.length (xg sp.fl) (by rfl) hown1 kn (by rfl) hkp hz1 (by unfold maxLen;omega) (by omega) (Nat.zero_le _) ?_;rintro v2 w5 hr5 hg5 hv5;rw[Xy.out,←HL1.out] at hr5;obtain ⟨A2,c2,rfl,_⟩:=nH.dH hr5;have hb5:=Ja.out.drew.blk.grown hg5 (kg hown1 Ja.out.drew.blk (by decide));have hp5:=Ja.out.drew.bp.grown hg5 (kg hown1 Ja.out.drew.bp (by decide));have q0:=hp5.cell 0;have q1:=hb5.cell 0;have q2:=hb5.frozen 0;simp at q0 q1;have GA:=ah (Ja.out.drew.flags hr5 hg5 hv5);clear hr5 hg5 hv5 hb5 hp5;refine hK _ _ ⟨q0,q1⟩ ?_;clear hK K hHeld;have hHeld:=(show (fun w':World=>w'.cell? ⟨w.heap.size,0,none⟩=some (.pointer (some ⟨b,0,none⟩))∧w'.cell? ⟨b,0,none⟩=some (.slice Af sp.fl.length cf)) _ from ⟨q0,q1⟩)
    try simp only[Act.put,aD,aF,aG,ay,aA,aB]
    refine aT 7 rfl hHeld ?_
    try simp only[Act.put,aD,aF,aG,ay,aA,aB]
    refine aT 8 rfl hHeld ?_
    try simp only[Act.put,aD,aF,aG,ay,aA,aB]
    refine bW (i:=9) rfl (by kernel_rfl) (by kernel_rfl) (by rfl) (fun K hK=> ?_);go_simp;refine hK _ _ ?_;clear hK K
    try simp only[Act.put,aD,aF,aG,ay,aA,aB]
    refine bI (by kernel_rfl) ?_ _;simp only[NoPanic];go_wp2_with fail;go_meet;exact ⟨_,GA.out⟩
   case rest=>
   obtain ⟨v2,CY⟩:=hcut;have GA:=ah CY;have y0:=CY.bp.cell 0;simp at y0;have z1:wc.cell? ⟨b,1,none⟩=some vd:=CY.blk.cell 1;have fz1:=CY.blk.frozen 1;have hown2:=CY.drew.dr;have hdl:sp.da.length≤32767:=by have:=ZW.out;omega
   clear CY hown1 fz0 z0;go_upto_region 10 with (fail)
   go_cut [] from 75 to 93 (fun wx=>∃v2 v3,qT w b (.slice Af sp.fl.length cf) vd #[.int .i64 sn,.bool po,.bool sg,.bool la,.int .i64 off,.bool s,.bool e,.slice A ps.length c] (dA sp) v2 v3 (iP en sp.fl) (oF en sp.da) wx)
   case first=>
    refine wp_region_noPanic ?_;refine bJ (fun w'=>w'.cell? ⟨w.heap.size,0,none⟩=some (.pointer (some ⟨b,0,none⟩))∧w'.cell? ⟨b,1,none⟩=some (vd)) [9] (by kernel_rfl) ?_;have hHeld:=(show (fun w':World=>w'.cell? ⟨w.heap.size,0,none⟩=some (.pointer (some ⟨b,0,none⟩))∧w'.cell? ⟨b,1,none⟩=some (vd)) _ from ⟨y0,z1⟩);refine iw [2,3,4,6,9] 1 ?_ rfl (Or.inl ⟨by rfl,?_⟩) hHeld ?_;rotate_left
    ·intro w' hSw;obtain ⟨hS1,hS2⟩:=hSw;go_simp
     try with_reducible rfl
    try simp only[Act.put,aD,aF,aG,ay,aA,aB]
    refine aT 2 rfl hHeld ?_
    try simp only[Act.put,aD,aF,aG,ay,aA,aB]
    refine aT 3 rfl hHeld ?_
    try simp only[Act.put,aD,aF,aG,ay,aA,aB]
    refine iw [6,9] 4 ?_ rfl (Or.inl ⟨by rfl,?_⟩) hHeld ?_;rotate_left
    ·intro w' hSw;obtain ⟨hS1,hS2⟩:=hSw;go_simp
     try with_reducible rfl
    try simp only[Act.put,aD,aF,aG,ay,aA,aB]
    refine aT 5 rfl hHeld ?_
    try simp only[Act.put,aD,aF,aG,ay,aA,aB]
    refine iw [7,8,9] 0 ?_ rfl (Or.inl ⟨by rfl,?_⟩) hHeld ?_;rotate_left
    ·intro w' hSw;obtain ⟨hS1,hS2⟩:=hSw;go_simp
     try with_reducible rfl
    try simp only[Act.put,aD,aF,ay,aA,aB]
    refine aR (i:=6) rfl (by kernel_rfl) (by rfl) (fun K hK=> ?_);refine qM _ _ _ 31 3 rfl 0 5 i2 (.int .u8 0) 1 1 .i64 .i64 und29 vZ hi2 ahF ahG ahH rfl (by decide) vd sp.da.length (bQ sp.da) (by rfl) hown2 kn (by rfl) hkp hz2 (by unfold maxLen;omega) (by omega) (Nat.zero_le _) ?_;rintro v3 w6 hr6 SI hv6;rw[HE2.out,←HL2.out] at hr6;obtain ⟨A3,c3,rfl,_,_⟩:=aS hr6;have hb6:=GA.out.drew.blk.grown SI (kg hown2 GA.out.drew.blk (by decide));have hp6:=GA.out.drew.bp.grown SI (kg hown2 GA.out.drew.bp (by decide));have q0:=hp6.cell 0;have q1:=hb6.cell 1;have q2:=hb6.frozen 1;simp at q0 q1;have HT6:=ah (GA.out.drew.data hr6 SI hv6);clear hr6 SI hv6 hb6 hp6;refine hK _ _ ⟨q0,q1⟩ ?_;clear hK K hHeld;have hHeld:=(show (fun w':World=>w'.cell? ⟨w.heap.size,0,none⟩=some (.pointer (some ⟨b,0,none⟩))∧w'.cell? ⟨b,1,none⟩=some (vd)) _ from ⟨q0,q1⟩)
    try simp only[Act.put,aD,aF,aG,ay,aA,aB]
    refine aT 7 rfl hHeld ?_
    try simp only[Act.put,aD,aF,aG,ay,aA,aB]
    refine aT 8 rfl hHeld ?_
    try simp only[Act.put,aD,aF,aG,ay,aA,aB]
    refine bW (i:=9) rfl (by kernel_rfl) (by kernel_rfl) (by rfl) (fun K hK=> ?_);go_simp;refine hK _ _ ?_;clear hK K
    try simp only[Act.put,aD,aF,aG,ay,aA,aB]
    refine bI (by kernel_rfl) ?_ _;simp only[NoPanic];go_wp2_with fail;go_meet;exact ⟨_,_,HT6.out⟩
   case rest=>
   obtain ⟨v2,v3,hT6⟩:=hcut;go_wp2_with fail;go_meet;exact ⟨_,_,hT6⟩
  ·have he1:iP en sp.fl=sp.fl:=by unfold iP;rw[show en-sp.fl.length=0 by omega];simp
   have he2:oF en sp.da=sp.da:=by have:=ZW.out;unfold oF;rw[show en-sp.da.length=0 by omega];simp
   have Xy:=ah he1;have HE2:=ah he2;have hn2:(en:Int)-(sp.fl.length:Int)≤0:=by omega
   clear he1 he2;go_wp2_with fail;go_meet;rw[Xy.out,HE2.out];exact ⟨_,_,Ja.out⟩
 case rest=>
 obtain ⟨Gx,Gy,hT⟩:=hcut;have ac7:(iP en sp.fl).length=max sp.fl.length en:=by unfold iP;rw[List.length_append,List.length_replicate];omega
 have TY:(oF en sp.da).length=max sp.fl.length en:=by unfold oF;rw[List.length_append,List.length_replicate,ZW.out];omega
 obtain ⟨x0,hx0⟩:∃x0:List Fl × List UInt8,x0=(iP en sp.fl,oF en sp.da):=⟨_,rfl⟩
 have hT:qT w b (.slice Af sp.fl.length cf) vd #[.int .i64 sn,.bool po,.bool sg,.bool la,.int .i64 off,.bool s,.bool e,.slice A ps.length c] (dA sp) Gx Gy x0.1 x0.2 wc:=by rw[hx0];exact hT
 obtain ⟨L,hL⟩:∃L,L=max sp.fl.length en:=⟨_,rfl⟩
 have hl1:x0.1.length=L:=by rw[hx0];exact ac7.trans hL.symm
 have hl2:x0.2.length=L:=by rw[hx0];exact TY.trans hL.symm
 have hLe:en≤L:=by omega
 have hLb:L≤32767:=by omega
 have HX0:=ah hx0;have HL1:=ah hl1;have HL2:=ah hl2;have hdi:=au.new wc 3 #[.int .i64 0];have CY:=hT.alloc (.cells #[.int .i64 0] 3);have aoA:w.heap.size≤wc.heap.size:=hT.kp.size;have akB:=hT.bx.lt;clear ac7 TY hx0 hL hl1 hl2 Ja y0 z0 z1 z2 hcap hmx hwn ZW hT hK hle;go_upto_region 12 with (fail)
 generalize wc.alloc (.cells #[.int .i64 0] 3)=w5 at*;generalize wc.heap.size=bi at*;have hS5:=HST.out w5 CY.kp;have hbd:=AU sn po sg la off s e A ps.length c vs ps w5 hS5 (by have:=jF.out;omega) (by omega) (by have:=RJ.out;omega);unfold bP at hbd;have Ol:=ah hbd;have GA:=ah CY;have HDI:=ah hdi;obtain ⟨q0,q1,q2,q3,q4,q5,q6,q7⟩:=CY.bx.eight;clear hbd hS5 CY hdi;go_wp2_with fail;refine Ol.out.mono ?_;rintro e5 w6 ⟨g,v,rfl,SI,bg,hv6,hb6⟩;have hT6:=GA.out.below hb6;have ahL:=HDI.out.below hb6 HDI.out.lt;clear Ol q0 q1 q2 q3 q4 q5 q6 q7;go_wp2_with fail;have kW:Tryz.prog.follows .mixedOrders=true:=by kernel_rfl
 have hI0:TkI w b (.slice Af sp.fl.length cf) vd #[.int .i64 sn,.bool po,.bool sg,.bool la,.int .i64 off,.bool s,.bool e,.slice A ps.length c] (dA sp) Gx Gy s e off ps x0 bi w6 0 w6:=⟨hT6,ahL,Kept.refl _ _⟩;have LF:=hb6.size;have akC:=HDI.out.lt;have hww:w.heap.size≤w6.heap.size:=by omega
 have hbb:b<w.heap.size:=hbl;have hgb:g≠b:=by omega
 have hgi:g≠bi:=by omega
 have ac8:∀j,Gx.ownBlock=some j→j<w5.heap.size:=fun j hj=>(GA.out.fr.lt j hj).2
 have ac9:∀j,Gy.ownBlock=some j→j<w5.heap.size:=fun j hj=>(GA.out.dr.lt j hj).2
 have hvl:=fun j hj=>hv6.lt j hj
 apply wpIn_wide (n:=5).1;apply mQ (gf:=197) (lb:= #[.pointer (some ⟨g,0,none⟩)]) rfl (by omega) rfl trivial (enters_of Tryz.func197 (by kernel_rfl) rfl)
  (yC _ (by omega) g w5.heap.size v off ps (by omega) (by have:=RJ.out;omega) (by have:=jF.out;omega) (TF b Gx Gy bi w6.heap.size) w6 bg hv6 (by rintro (h|h|h|h|h)<;>first|omega|(have:=ac8 g h;omega)|(have:=ac9 g h;omega)|(have:=bg.lt;omega)) (fun j _ hj=>by have h9:=hvl j hj;rintro (h|h|h|h|h)<;>first|omega|(have:=ac8 j h;omega)|(have:=ac9 j h;omega)))
  Kept.trans (fun W l o o' hl ho hc _=>(Kept.refl _ W).grown (grownBy_putObj' W l o') (fun j e _ _=>by cases e;exact .inr (.inr (.inr (.inr hl))))) (Below.refl _ _) (fun _=>rfl)
  (TkI w b (.slice Af sp.fl.length cf) vd #[.int .i64 sn,.bool po,.bool sg,.bool la,.int .i64 off,.bool s,.bool e,.slice A ps.length c] (dA sp) Gx Gy s e off ps x0 bi w6) (TG _ _ _ _ _ _ _ _ _ _ _ _ _ _ _ hww) hI0
 case hassign=>
  intro l k W K hK;simp only[zB]
  gi_wp2
  exact hK
 case hbody=>
  intro l k W hk hI;have hpk:ps[k]? =some (ps[k]?.getD []):=by rw[List.getElem?_eq_getElem hk];rfl
  have hsn:=iQ ps k hk;have hsl:=Nat.le_trans (dQ ps (k+1)) (Nat.le_of_eq RJ.out);have hJ0:Ih w b (.slice Af sp.fl.length cf) vd #[.int .i64 sn,.bool po,.bool sg,.bool la,.int .i64 off,.bool s,.bool e,.slice A ps.length c] (dA sp) Gx Gy (CU s e off ps x0 k 0).1 (CU s e off ps x0 k 0).2 bi w6 W k W:=
   ⟨by rw[PI];exact hI.t,hI.di,hI.kp,Kept.refl _ _,⟨aN,fun _ _ _ h _=>h⟩⟩
  obtain ⟨ka,hka⟩:∃ka,off+aj (ps.take k)=ka:=⟨_,rfl⟩
  have hkb:off+aj (ps.take (k+1))=ka+(ps[k]?.getD []).length:=by omega
  obtain ⟨N,hN⟩:∃N,N=(ps[k]?.getD []).length:=⟨_,rfl⟩
  rw[←hN] at hkb;obtain ⟨E,hE⟩:∃E,E=ka+N:=⟨_,rfl⟩
  rw[show (off:Int)+((aj (ps.take k):Nat):Int)=(ka:Int) by omega,show (off:Int)+((aj (ps.take (k+1)):Nat):Int)=(E:Int) by omega];have hkN:ka+N≤en:=by have:=Kl.out;omega
  have HKA:=ah hka;have HN:=ah hN;have HE:=ah hE;have TD:=ah hkb;have HJ0:=ah hJ0;have HPK:=ah hpk;have hEn:E≤en:=by omega
  clear hpk hsn hsl hJ0 hka hkb hN hE hkN
  gi_wp2
  gi_loopw [10] (fun s10 wr=>∃j a:Nat,j≤N∧a=ka+j∧s10= .int .i64 (a:Int)∧Ih w b (.slice Af sp.fl.length cf) vd #[.int .i64 sn,.bool po,.bool sg,.bool la,.int .i64 off,.bool s,.bool e,.slice A ps.length c] (dA sp) Gx Gy (CU s e off ps x0 k j).1 (CU s e off ps x0 k j).2 bi w6 W k wr) (fun s10 _=>E-(intOf s10).toNat)
  case atStart=>exact ⟨0,ka,Nat.zero_le _,rfl,rfl,HJ0.out⟩
  case round=>
   obtain ⟨j,a,hj,ha,rfl,hJ⟩:=hrel;have hwz:=hJ.kp.size;have HA:=ah ha;have haE:a≤E:=by have:=HE.out;omega
   obtain ⟨z,hz⟩:∃z,z=CU s e off ps x0 k j:=⟨_,rfl⟩
   rw[←hz] at hJ;by_cases hlt:j<N
   ·have hsu:=PL (s:=s) (e:=e) (off:=off) (ps:=ps) (x0:=x0) (k:=k) (j:=j) (by rw[←HN.out];exact hlt);rw[←hz,HKA.out,←HN.out,←ha] at hsu;have hln:=TE (s:=s) (e:=e) (off:=off) (ps:=ps) (x0:=x0) (k:=k) j;rw[←hz,HL1.out,HL2.out] at hln;obtain ⟨fl,da⟩:=z;dsimp only at hJ hsu hln;obtain ⟨hfl,hdl⟩:=hln;have hfr:=hJ.t.fr;have hdr:=hJ.t.dr;have hL0:0<L:=by have:=HE.out;omega
    have hfr2:=hfr;have YH:=hdr;rw[hfl] at hfr2;rw[hdl] at YH;obtain ⟨gf,cf1,rfl,ahp,ahq,aoC⟩:=wD hfr2 hL0;obtain ⟨gd,cd1,rfl,ahr,ahs,aoD⟩:=wD YH hL0;clear hfr2 YH;have hfs:nH wr (some ⟨gf,0,none⟩) L cf1 fl:=by
     obtain ⟨A',c',e',hs'⟩:=nH.dH hfr;rw[hfl] at e' hs';cases e';exact hs'
    obtain ⟨ad,Ai,ci,rfl,hbk,hck,wo⟩:=(HST.out wr hJ.t.kp).get hk;rw[←HN.out] at hck wo;obtain ⟨ai,u,rfl,hab,hu,hcu⟩:=wo.get hlt;obtain ⟨x,hx⟩:∃x,(ps[k]?.getD [])[j]? =some x:=⟨_,List.getElem?_eq_getElem (by rw[←HN.out];exact hlt)⟩
    have hux:u=bv x:=by
     simp only[bQ,List.getElem?_map,hx,Option.map_some,Option.some.injEq] at hu;exact hu.symm
    subst hux;simp only[bv] at hcu;rw[hx,Option.getD_some] at hsu;have hhas:Calls Tryz.prog 156 #[.slice (some ⟨gf,0,none⟩) L cf1,.int .i64 (a:Int),.int .i64 0] wr fun e w'=>e= .returned (.bool (eP fl a).1)∧wr=w':=Bu hfs a (by omega) 0 (by omega)
    have y0:=hJ.t.bp.cell 0;simp at y0;obtain ⟨z0,z1,z2⟩:wr.cell? ⟨b,0,none⟩=some (.slice (some ⟨gf,0,none⟩) L cf1)∧wr.cell? ⟨b,1,none⟩=some (.slice (some ⟨gd,0,none⟩) L cd1)∧wr.cell? ⟨b,2,none⟩=some (.int .i64 (dA sp)):=⟨hJ.t.blk.cell 0,hJ.t.blk.cell 1,hJ.t.blk.cell 2⟩;obtain ⟨q0,q1,q2,q3,q4,q5,q6,q7⟩:=hJ.t.bx.eight;have yi:=hJ.di.cell 0;simp at yi;have akD:=wo.cap;have akE:=wo.mx;have hat:a<L:=by have:=HE.out;omega
    have Dn:=ah hhas;have RU:=ah hsu;have sI:=ah hfl;have AY:=ah hdl;have HJ:=ah hJ;have hlt2:(a:Int)<(E:Int):=by have:=HE.out;omega
    have hkn:(k:Int)<(ps.length:Int):=by omega
    have hwj:IntKind.i64.wrap ((a:Int)-(ka:Int))=(j:Int):=by rw[IntWalk.i64_in _ (by omega)];omega
    clear hz hfr hdr hfs hhas hsu hfl hdl hJ wo hx hu q0 q1 q2 q3 q4 z2 ha;cases NK:(eP fl a).1 with
    |true=>
     rw[NK] at Dn;have hsu:=RU.out;rw[if_pos NK] at hsu;have adb:(CU s e off ps x0 k (j+1)).1=fl:=by rw[hsu]
     have ade:(CU s e off ps x0 k (j+1)).2=da:=by rw[hsu]
     have Ui:=HJ.out;rw[←adb,←ade] at Ui;have HJ1:=ah Ui;clear hsu NK adb ade Ui
     gi_wp2_with (refine ⟨trivial,?_⟩;gi_at_call 156;refine (CallsIn.inRound l ((callsIn_wide (n:=2)).2 Dn.out)).mono ?_;rintro e1 w1 ⟨rfl,rfl⟩)
     go_round
     case rel=>exact ⟨j+1,a+1,by omega,by have:=HA.out;omega,by go_num,HJ1.out⟩
     case measure=>simp[intOf];omega
    |false=>
     rw[NK] at Dn;have hsu:=RU.out;rw[if_neg (by rw[NK];simp)] at hsu;have HSV:=ah hsu;clear hsu NK
     gi_wp2_with (refine ⟨trivial,?_⟩;gi_at_call 156;refine (CallsIn.inRound l ((callsIn_wide (n:=2)).2 Dn.out)).mono ?_;rintro e1 w1 ⟨rfl,rfl⟩)
     have hSt:wr.drew=wr.drew:=rfl;refine bu 17 kW (by kernel_rfl) ?hout1 (by kernel_rfl) ?_
     case hout1=>
      rintro ⟨a',w',hh⟩;exact hh
     simp only[List.take_succ_cons,List.take_zero,List.drop_succ_cons,List.drop_zero]
     repeat (with_reducible refine wpStill_step (fun K hK=> ?_);go_simp;(try refine jy (by decide) ?_);with_reducible refine hK _ ?_;clear hK K)
     with_reducible refine wpStill_nil ?_
     change wpList _ _ _ _ _ wr.drew;have UF:=ah (HJ.out.drew hwz);have hdz:=UF.out.t.dr;rw[AY.out] at hdz;have ahM:=hdz.frozenAt a;have hdc:wr.drew.cell? ⟨gd,a,none⟩=some (.int .u8 ((da[a]?.getD 0).toNat:Int)):=by
      have h9:=UF.out.t.dr;rw[AY.out] at h9;rw[h9.cellAt a (by omega),bQ,List.getElem?_map,List.getElem?_eq_getElem (by rw[AY.out];exact hat)];rfl
     clear hdz;generalize wr.drew=wt at*;go_wp2;have YI:=UF.out.Xz AY.out (at_:=a) x;simp only[bv] at YI;generalize wt.setCell ⟨gd,a,none⟩ (.int .u8 (x.toNat:Int))=wq at*;have nK:=ah YI;obtain ⟨b1,hb1⟩:∃b1,b1=(decide (j=0)&&(decide (0<k)||s)):=⟨_,rfl⟩
     obtain ⟨b2,hb2⟩:∃b2,b2=(decide (j+1=N)&&(decide (k+1<ps.length)||e)):=⟨_,rfl⟩
     have hsv:=HSV.out;rw[←hb1,←hb2] at hsv;have Gh:=ah (show (CU s e off ps x0 k (j+1)).1=fl.set a (true,b1,b2) by rw[hsv]);have lX:=ah (show (CU s e off ps x0 k (j+1)).2=da.set a x by rw[hsv]);have HB1:=ah hb1;have HB2:=ah hb2;clear HSV RU hsv hb1 hb2 YI HJ UF y0 z0 z1 q5 q6 q7 yi ahM hdc Dn;have y0:=nK.out.t.bp.cell 0;simp at y0;have z0:wq.cell? ⟨b,0,none⟩=some (.slice (some ⟨gf,0,none⟩) L cf1):=nK.out.t.blk.cell 0;obtain ⟨q0,q1,q2,q3,q4,q5,q6,q7⟩:=nK.out.t.bx.eight;have yi:=nK.out.di.cell 0;simp at yi;have hwE:IntKind.i64.wrap ((E:Int)-1)=(E:Int)-1:=IntWalk.i64_in _ (by omega);have hwk:IntKind.i64.wrap ((k:Int)+1)=(k:Int)+1:=IntWalk.i64_in _ (by have:=jF.out;omega);have UG:∀X:World,X.ownsRow 0 174 3 (.slice (some ⟨gf,0,none⟩) L cf1) fl.length (xg fl)→fl.length=L→a<L→X.cell? ⟨gf,a*3,none⟩=some (.bool (eP fl a).1)∧X.cell? ⟨gf,a*3+1,none⟩=some (.bool (eP fl a).2.1)∧X.cell? ⟨gf,a*3+2,none⟩=some (.bool (eP fl a).2.2):=fun X hX h1 h2=>by
      have hg:=List.getElem?_eq_getElem (l:=fl) (i:=a) (by omega);obtain ⟨e1,e2,e3⟩:=zH fl a _ hg;rw[jS hg];rw[h1] at hX;exact ⟨(hX.cellAt _ (by omega)).trans e1,(hX.cellAt _ (by omega)).trans e2,(hX.cellAt _ (by omega)).trans e3⟩
     clear q0 q1 q2 q3 q4;by_cases hj0:j=0
     ·have d1:((a:Int)==(ka:Int))=true:=by have:=HA.out;simp;omega
      by_cases hk0:0<k
      ·have d3:decide ((k:Int)>0)=true:=by simp;exact hk0
       have d3b:decide (0<k)=true:=decide_eq_true hk0;obtain rfl:b1=true:=by rw[HB1.out];simp[hj0,hk0]
       have HJ1:=ah hj0;have wL:=ah hk0;clear hj0 hk0 HB1;by_cases Cn:j+1=N
       ·have d2:((a:Int)==(E:Int)-1)=true:=by have:=HA.out;have:=HE.out;simp;omega
        by_cases pN:k+1<ps.length
        ·have d4:decide ((k:Int)+1<(ps.length:Int))=true:=by simp;omega
         have d4b:decide (k+1<ps.length)=true:=decide_eq_true pN;obtain rfl:b2=true:=by rw[HB2.out];simp[Cn,pN]
         clear Cn pN HB2;refine bu 37 kW (by kernel_rfl) ?YJ (by kernel_rfl) ?_
         case YJ=>
          rintro ⟨a',w',hh⟩;exact hh
         simp only[List.take_succ_cons,List.take_zero,List.drop_succ_cons,List.drop_zero]
         repeat (with_reducible refine wpStill_step (fun K hK=> ?_);go_simp;(try refine jy (by decide) ?_);with_reducible refine hK _ ?_;clear hK K)
         with_reducible refine wpStill_nil ?_
         change wpList _ _ _ _ _ wq.drew;have ja:=ah (nK.out.drew (by have:=nK.out.kp.size;exact this));obtain ⟨g0,g1,g2⟩:=UG wq.drew ja.out.t.fr sI.out hat;have gz:=ja.out.t.fr;rw[sI.out] at gz
         replace gz:=gz.frozenAt
         generalize wq.drew=wv at*;go_wp2
         gi_wp2_with fail
         go_round
         case rel=>exact ⟨j+1,a+1,by omega,by have:=HA.out;omega,by go_num,by rw[Gh.out,lX.out];exact ja.out.BD sI.out hat (true,_,_)⟩
         case measure=>simp[intOf];omega
        ·have d4:decide ((k:Int)+1<(ps.length:Int))=false:=by simp;omega
         have d4b:decide (k+1<ps.length)=false:=decide_eq_false pN;obtain rfl:b2=e:=by rw[HB2.out];simp[Cn,pN]
         clear Cn pN HB2;refine bu 37 kW (by kernel_rfl) ?YK (by kernel_rfl) ?_
         case YK=>
          rintro ⟨a',w',hh⟩;exact hh
         simp only[List.take_succ_cons,List.take_zero,List.drop_succ_cons,List.drop_zero]
         repeat (with_reducible refine wpStill_step (fun K hK=> ?_);go_simp;(try refine jy (by decide) ?_);with_reducible refine hK _ ?_;clear hK K)
         with_reducible refine wpStill_nil ?_
         change wpList _ _ _ _ _ wq.drew;have ja:=ah (nK.out.drew (by have:=nK.out.kp.size;exact this));obtain ⟨g0,g1,g2⟩:=UG wq.drew ja.out.t.fr sI.out hat;have gz:=ja.out.t.fr;rw[sI.out] at gz
         replace gz:=gz.frozenAt
         generalize wq.drew=wv at*;go_wp2
         gi_wp2_with fail
         go_round
         case rel=>exact ⟨j+1,a+1,by omega,by have:=HA.out;omega,by go_num,by rw[Gh.out,lX.out];exact ja.out.BD sI.out hat (true,_,_)⟩
         case measure=>simp[intOf];omega
       ·have d2:((a:Int)==(E:Int)-1)=false:=by have:=HA.out;have:=HE.out;simp;omega
        obtain rfl:b2=false:=by rw[HB2.out];simp[Cn]
        clear Cn HB2;refine bu 37 kW (by kernel_rfl) ?YL (by kernel_rfl) ?_
        case YL=>
         rintro ⟨a',w',hh⟩;exact hh
        simp only[List.take_succ_cons,List.take_zero,List.drop_succ_cons,List.drop_zero]
        repeat (with_reducible refine wpStill_step (fun K hK=> ?_);go_simp;(try refine jy (by decide) ?_);with_reducible refine hK _ ?_;clear hK K)
        with_reducible refine wpStill_nil ?_
        change wpList _ _ _ _ _ wq.drew;have ja:=ah (nK.out.drew (by have:=nK.out.kp.size;exact this));obtain ⟨g0,g1,g2⟩:=UG wq.drew ja.out.t.fr sI.out hat;have gz:=ja.out.t.fr;rw[sI.out] at gz
        replace gz:=gz.frozenAt
        generalize wq.drew=wv at*;go_wp2
        gi_wp2_with fail
        go_round
        case rel=>exact ⟨j+1,a+1,by omega,by have:=HA.out;omega,by go_num,by rw[Gh.out,lX.out];exact ja.out.BD sI.out hat (true,_,_)⟩
        case measure=>simp[intOf];omega
      ·have d3:decide ((k:Int)>0)=false:=by simp;omega
       have d3b:decide (0<k)=false:=decide_eq_false hk0;obtain rfl:b1=s:=by rw[HB1.out];simp[hj0,hk0]
       clear hj0 hk0 HB1;by_cases Cn:j+1=N
       ·have d2:((a:Int)==(E:Int)-1)=true:=by have:=HA.out;have:=HE.out;simp;omega
        by_cases pN:k+1<ps.length
        ·have d4:decide ((k:Int)+1<(ps.length:Int))=true:=by simp;omega
         have d4b:decide (k+1<ps.length)=true:=decide_eq_true pN;obtain rfl:b2=true:=by rw[HB2.out];simp[Cn,pN]
         clear Cn pN HB2;refine bu 37 kW (by kernel_rfl) ?YM (by kernel_rfl) ?_
         case YM=>
          rintro ⟨a',w',hh⟩;exact hh
         simp only[List.take_succ_cons,List.take_zero,List.drop_succ_cons,List.drop_zero]
         repeat (with_reducible refine wpStill_step (fun K hK=> ?_);go_simp;(try refine jy (by decide) ?_);with_reducible refine hK _ ?_;clear hK K)
         with_reducible refine wpStill_nil ?_
         change wpList _ _ _ _ _ wq.drew;have ja:=ah (nK.out.drew (by have:=nK.out.kp.size;exact this));obtain ⟨g0,g1,g2⟩:=UG wq.drew ja.out.t.fr sI.out hat;have gz:=ja.out.t.fr;rw[sI.out] at gz
         replace gz:=gz.frozenAt
         generalize wq.drew=wv at*;go_wp2
         gi_wp2_with fail
         go_round
         case rel=>exact ⟨j+1,a+1,by omega,by have:=HA.out;omega,by go_num,by rw[Gh.out,lX.out];exact ja.out.BD sI.out hat (true,_,_)⟩
         case measure=>simp[intOf];omega
        ·have d4:decide ((k:Int)+1<(ps.length:Int))=false:=by simp;omega
         have d4b:decide (k+1<ps.length)=false:=decide_eq_false pN;obtain rfl:b2=e:=by rw[HB2.out];simp[Cn,pN]
         clear Cn pN HB2;refine bu 37 kW (by kernel_rfl) ?YN (by kernel_rfl) ?_
         case YN=>
          rintro ⟨a',w',hh⟩;exact hh
         simp only[List.take_succ_cons,List.take_zero,List.drop_succ_cons,List.drop_zero]
         repeat (with_reducible refine wpStill_step (fun K hK=> ?_);go_simp;(try refine jy (by decide) ?_);with_reducible refine hK _ ?_;clear hK K)
         with_reducible refine wpStill_nil ?_
         change wpList _ _ _ _ _ wq.drew;have ja:=ah (nK.out.drew (by have:=nK.out.kp.size;exact this));obtain ⟨g0,g1,g2⟩:=UG wq.drew ja.out.t.fr sI.out hat;have gz:=ja.out.t.fr;rw[sI.out] at gz
         replace gz:=gz.frozenAt
         generalize wq.drew=wv at*;go_wp2
         gi_wp2_with fail
         go_round
         case rel=>exact ⟨j+1,a+1,by omega,by have:=HA.out;omega,by go_num,by rw[Gh.out,lX.out];exact ja.out.BD sI.out hat (true,_,_)⟩
         case measure=>simp[intOf];omega
       ·have d2:((a:Int)==(E:Int)-1)=false:=by have:=HA.out;have:=HE.out;simp;omega
        obtain rfl:b2=false:=by rw[HB2.out];simp[Cn]
        clear Cn HB2;refine bu 37 kW (by kernel_rfl) ?YO (by kernel_rfl) ?_
        case YO=>
         rintro ⟨a',w',hh⟩;exact hh
        simp only[List.take_succ_cons,List.take_zero,List.drop_succ_cons,List.drop_zero]
        repeat (with_reducible refine wpStill_step (fun K hK=> ?_);go_simp;(try refine jy (by decide) ?_);with_reducible refine hK _ ?_;clear hK K)
        with_reducible refine wpStill_nil ?_
        change wpList _ _ _ _ _ wq.drew;have ja:=ah (nK.out.drew (by have:=nK.out.kp.size;exact this));obtain ⟨g0,g1,g2⟩:=UG wq.drew ja.out.t.fr sI.out hat;have gz:=ja.out.t.fr;rw[sI.out] at gz
        replace gz:=gz.frozenAt
        generalize wq.drew=wv at*;go_wp2
        gi_wp2_with fail
        go_round
        case rel=>exact ⟨j+1,a+1,by omega,by have:=HA.out;omega,by go_num,by rw[Gh.out,lX.out];exact ja.out.BD sI.out hat (true,_,_)⟩
        case measure=>simp[intOf];omega
     ·have d1:((a:Int)==(ka:Int))=false:=by have:=HA.out;simp;omega
      obtain rfl:b1=false:=by rw[HB1.out];simp[hj0]
      clear hj0 HB1;by_cases Cn:j+1=N
      ·have d2:((a:Int)==(E:Int)-1)=true:=by have:=HA.out;have:=HE.out;simp;omega
       by_cases pN:k+1<ps.length
       ·have d4:decide ((k:Int)+1<(ps.length:Int))=true:=by simp;omega
        have d4b:decide (k+1<ps.length)=true:=decide_eq_true pN;obtain rfl:b2=true:=by rw[HB2.out];simp[Cn,pN]
        clear Cn pN HB2;refine bu 37 kW (by kernel_rfl) ?YP (by kernel_rfl) ?_
        case YP=>
         rintro ⟨a',w',hh⟩;exact hh
        simp only[List.take_succ_cons,List.take_zero,List.drop_succ_cons,List.drop_zero]
        repeat (with_reducible refine wpStill_step (fun K hK=> ?_);go_simp;(try refine jy (by decide) ?_);with_reducible refine hK _ ?_;clear hK K)
        with_reducible refine wpStill_nil ?_
        change wpList _ _ _ _ _ wq.drew;have ja:=ah (nK.out.drew (by have:=nK.out.kp.size;exact this));obtain ⟨g0,g1,g2⟩:=UG wq.drew ja.out.t.fr sI.out hat;have gz:=ja.out.t.fr;rw[sI.out] at gz
        replace gz:=gz.frozenAt
        generalize wq.drew=wv at*;go_wp2
        gi_wp2_with fail
        go_round
        case rel=>exact ⟨j+1,a+1,by omega,by have:=HA.out;omega,by go_num,by rw[Gh.out,lX.out];exact ja.out.BD sI.out hat (true,_,_)⟩
        case measure=>simp[intOf];omega
       ·have d4:decide ((k:Int)+1<(ps.length:Int))=false:=by simp;omega
        have d4b:decide (k+1<ps.length)=false:=decide_eq_false pN;obtain rfl:b2=e:=by rw[HB2.out];simp[Cn,pN]
        clear Cn pN HB2;refine bu 37 kW (by kernel_rfl) ?YQ (by kernel_rfl) ?_
        case YQ=>
         rintro ⟨a',w',hh⟩;exact hh
        simp only[List.take_succ_cons,List.take_zero,List.drop_succ_cons,List.drop_zero]
        repeat (with_reducible refine wpStill_step (fun K hK=> ?_);go_simp;(try refine jy (by decide) ?_);with_reducible refine hK _ ?_;clear hK K)
        with_reducible refine wpStill_nil ?_
        change wpList _ _ _ _ _ wq.drew;have ja:=ah (nK.out.drew (by have:=nK.out.kp.size;exact this));obtain ⟨g0,g1,g2⟩:=UG wq.drew ja.out.t.fr sI.out hat;have gz:=ja.out.t.fr;rw[sI.out] at gz
        replace gz:=gz.frozenAt
        generalize wq.drew=wv at*;go_wp2
        gi_wp2_with fail
        go_round
        case rel=>exact ⟨j+1,a+1,by omega,by have:=HA.out;omega,by go_num,by rw[Gh.out,lX.out];exact ja.out.BD sI.out hat (true,_,_)⟩
        case measure=>simp[intOf];omega
      ·have d2:((a:Int)==(E:Int)-1)=false:=by have:=HA.out;have:=HE.out;simp;omega
       obtain rfl:b2=false:=by rw[HB2.out];simp[Cn]
       clear Cn HB2;refine bu 37 kW (by kernel_rfl) ?YR (by kernel_rfl) ?_
       case YR=>
        rintro ⟨a',w',hh⟩;exact hh
       simp only[List.take_succ_cons,List.take_zero,List.drop_succ_cons,List.drop_zero]
       repeat (with_reducible refine wpStill_step (fun K hK=> ?_);go_simp;(try refine jy (by decide) ?_);with_reducible refine hK _ ?_;clear hK K)
       with_reducible refine wpStill_nil ?_
       change wpList _ _ _ _ _ wq.drew;have ja:=ah (nK.out.drew (by have:=nK.out.kp.size;exact this));obtain ⟨g0,g1,g2⟩:=UG wq.drew ja.out.t.fr sI.out hat;have gz:=ja.out.t.fr;rw[sI.out] at gz
       replace gz:=gz.frozenAt
       generalize wq.drew=wv at*;go_wp2
       gi_wp2_with fail
       go_round
       case rel=>exact ⟨j+1,a+1,by omega,by have:=HA.out;omega,by go_num,by rw[Gh.out,lX.out];exact ja.out.BD sI.out hat (true,_,_)⟩
       case measure=>simp[intOf];omega
   ·have Cn:j=N:=by omega
    have ahN:a=E:=by have:=HA.out;have:=HE.out;omega
    have YS:=PK (s:=s) (e:=e) (off:=off) (x0:=x0) hk;rw[←HN.out,←Cn,←hz] at YS;rw[YS] at hJ;have hlt2:¬(a:Int)<(E:Int):=by omega
    have yi:=hJ.di.cell 0;have fi:=hJ.di.frozen 0;simp at yi;have hwk:IntKind.i64.wrap ((k:Int)+1)=(k:Int)+1:=IntWalk.i64_in _ (by have:=jF.out;omega);have hnx:=hJ.next (by omega) (by omega) (by omega) (by omega)
    rw[show ((k+1:Nat):Int)=(k:Int)+1 by omega] at hnx;have El:=ah hnx;clear YS Cn ahN hz hJ hnx ha
    gi_wp2_with fail
    exact ⟨El.out.kf,El.out.k2,El.out.t,by simpa using El.out.di,El.out.kp⟩
 case hdone=>
  intro D W hD hI Ie;have htk:ed sp ⟨sn,po,sg,la,off,s,e,ps⟩=⟨(R3 s e off ps x0 ps.length).1,(R3 s e off ps x0 ps.length).2,if fin=true then some en else sp.size⟩:=by
   have he:off+aj ps=en:=by rw[RJ.out];exact Kl.out
   unfold ed R3 jV xK;dsimp only;rw[HX0.out,he,jJ.out,List.take_of_length_le (aN)]
  have y0:=hI.t.bp.cell 0;simp at y0;have z2:W.cell? ⟨b,2,none⟩=some (.int .i64 (dA sp)):=hI.t.blk.cell 2;have fz2:=hI.t.blk.frozen 2;have J5:=ah htk;have HI:=ah hI;clear htk hI;cases fin with
  |false=>
   have hs2:dA (ed sp ⟨sn,po,sg,la,off,s,e,ps⟩)=dA sp:=by rw[J5.out];rfl
   have hfin:=HI.out.t.abd (.deferred none) Ie rfl (by omega);have HS2:=ah hs2;have HF:=ah hfin;clear hs2 hfin
   gi_wp2
   go_wp2;refine ⟨by simp,.inl ⟨_,_,rfl,run_takeDeferred Ie,?_⟩⟩;refine ⟨.tuple #[],results_none rfl _ _ _,?_⟩;unfold Cm;rw[if_neg (by rw[HNB.out];simp)];have h9:=HF.out;have h8:=J5.out;refine ⟨rfl,Gx,Gy,⟨by rw[HS2.out];exact h9.blk,by rw[h8];exact h9.fr,by rw[h8];exact h9.dr⟩,h9.bf,h9.bd,h9.kp⟩
  |true=>
   have hs2:dA (ed sp ⟨sn,po,sg,la,off,s,e,ps⟩)=(en:Int):=by rw[J5.out];rfl
   have hd2:(W.setCell ⟨b,2,none⟩ (.int .i64 (en:Int))).heap[D]? =some (.deferred (some [])):=(KeepsOthers.setCell W ⟨b,2,none⟩ (.int .i64 (en:Int))).same D _ Ie rfl;have hfin:=(HI.out.t.af4 (en:Int)).abd (.deferred none) hd2 rfl (by omega);have HS2:=ah hs2;have HF:=ah hfin;clear hs2 hfin
   gi_wp2
   go_wp2;refine ⟨by simp,.inl ⟨_,_,rfl,run_takeDeferred hd2,?_⟩⟩;refine ⟨.tuple #[],results_none rfl _ _ _,?_⟩;unfold Cm;rw[if_neg (by rw[HNB.out];simp)];have h9:=HF.out;have h8:=J5.out;refine ⟨rfl,Gx,Gy,⟨by rw[HS2.out];exact h9.blk,by rw[h8];exact h9.fr,by rw[h8];exact h9.dr⟩,h9.bf,h9.bd,h9.kp⟩
end
end Go.Proofs.YtbhiklnljiehiaaGreat
