/- amrecv: take. -/
import Derived.Test.YtbhiklnljiehiaaGreatM2ao
namespace Go.Proofs.YtbhiklnljiehiaaGreat
section
open Go.RowKit Go.Shelf
attribute [local go_sem] Oper.semAt_some
theorem iX {c p q:Prop} [Decidable c] (h:¬c) (hq:q):if c then p else q:=by rw[if_neg h];exact hq
def Aa (w:World) (b:Nat) (sp:Sp) (vf vd:Value) (x:kP) (e:Ending) (w':World):Prop:=
 if FV sp x=true then e=Ed 9∧Below w.heap.size w w'
 else e= .returned (.tuple #[])∧∃kR kK,oD w' b (iH sp x) kR kK∧(∀k,kR.ownBlock=some k→vf.ownBlock=some k∨w.heap.size≤k)∧(∀k,kK.ownBlock=some k→vd.ownBlock=some k∨w.heap.size≤k)∧Kept (UT b vf vd) w w'
set_option maxRecDepth 100000 in
set_option maxHeartbeats 40000000 in
theorem M5 (b:Nat) (sp:Sp) (vf vd:Value) (x:kP) (A:Option Addr) (c:Nat) (vs:List Value) (w:World) (h:oD w b sp vf vd) (ho:xH sp) (hs:iO w w.heap.size A x.ps.length c vs x.ps) (hlen:x.ps.length≤64) (hpos:1≤x.ps.length) (hsum:x.off+aj x.ps≤32767)
 (hst:∀W,Kept (UT b vf vd) w W→iO W W.heap.size A x.ps.length c vs x.ps):
 Calls Tryz.prog 98 #[.pointer (some ⟨b,0,none⟩),.agg (bH x.sn x.po x.sg x.la x.off x.s x.e A x.ps.length c)] w (Aa w b sp vf vd x):=by
 obtain ⟨sn,po,sg,la,off,s,e,ps⟩:=x;dsimp only at hs hlen hpos hsum hst ⊢;have bp:=(au.new w 161 #[.pointer (some ⟨b,0,none⟩)]).alloc (.cells (bH sn po sg la off s e A ps.length c) 148);have bx:=au.new (w.alloc (.cells #[.pointer (some ⟨b,0,none⟩)] 161)) 148 (bH sn po sg la off s e A ps.length c);have hB:=((Below.refl w.heap.size w).alloc (aN) (.cells #[.pointer (some ⟨b,0,none⟩)] 161)).alloc (by simp) (.cells (bH sn po sg la off s e A ps.length c) 148);simp only[World.size_alloc] at bx;have HS0:=ah (hst w (Kept.refl _ w));have HB:=ah hB;have HST:=ah hst;have HO:=ah ho;have jw:=ah hlen;have amZ:=ah hpos;have DY:=ah hsum;have HH:=ah h;have xD:∀p∈ps,p.length≤1099511627776:=fun p hp=>by have:=gW hp;omega
 have abS:=ah xD;obtain ⟨fin,hfin⟩:∃fin,(!sg||la)=fin:=⟨_,rfl⟩
 obtain ⟨en,hen⟩:∃en,off+aj ps=en:=⟨_,rfl⟩
 have hbad:FV sp ⟨sn,po,sg,la,off,s,e,ps⟩=match sp.size with
  |some k=> !(decide (en≤k)&&(!fin||decide (en=k)))
  |none=>fin&&(decide (en<sp.fl.length)&&(sp.fl.drop en).any (fun f=>f.1)):=by
  unfold FV nD FU;dsimp only;rw[hen,hfin];cases sp.size<;>rfl
 have HBAD:=ah hbad;have je:=ah hfin;have Jn:=ah hen;have hbl:=h.blk.lt;clear hB hst ho hlen hpos h hs hfin xD hen hbad;unfold bH at*;refine (callsIn_wide (n:=5)).1 ?_;refine callsIn_of_wp_marks Tryz.func98 rfl trivial ?_ rfl;simp only[Tryz.ntmps98,List.size_toArray,List.length_cons,List.length_nil,Nat.reduceAdd,Nat.reduceSub,Array.replicate_succ,Array.replicate_zero,List.push_toArray,List.append_toArray,List.nil_append,List.cons_append];refine wpIn_wide.2 ?_;obtain ⟨x0,x1,x2,x3,x4,x5,x6,x7⟩:=bx.eight;have y0:=bp.cell 0;simp at y0;go_upto_region 1 with (fail)
 generalize (w.alloc (.cells #[.pointer (some ⟨b,0,none⟩)] 161)).alloc (.cells #[.int .i64 sn,.bool po,.bool sg,.bool la,.int .i64 off,.bool s,.bool e,.slice A ps.length c] 148)=w0 at*;go_cut [4] from 11 to 17 (fun s4 wx=>s4= .bool fin∧wx=w0)
 case first=>
  have hfin:=je.out;cases sg with
  |true=>
   obtain rfl:la=fin:=by simpa using hfin
   clear hfin;go_wp2_with fail;go_meet;exact ⟨rfl,rfl⟩
  |false=>
   obtain rfl:true=fin:=by simpa using hfin
   clear hfin;go_wp2_with fail;go_meet;exact ⟨rfl,rfl⟩
 case rest=>
 obtain ⟨rfl,rfl⟩:=hcut;have abT:w.heap.size+1<wc.heap.size:=bx.lt;have hS0:=(HS0.out.below HB.out).more HB.out.size;have hsz:=pU s e A ps.length c vs ps wc.drew hS0.drew' (by have:=jw.out;omega) abS.out;have HZ:=ah hsz;have rU:=ah hS0;clear hsz hS0 abS;have hen:=Jn.out;have hwrap:IntKind.i64.wrap ((off:Int)+aj ps)=(en:Int):=by rw[IntWalk.i64_in _ (by omega)];omega
 generalize hSS:aj ps=S at*;have QT:=ah hSS;clear hSS;have D7:w.heap.size+1<wc.drew.heap.size:=abT;go_upto_region 2 with (fail)
 go_cut [5] from 18 to 23 (fun s5 wx=>s5= .int .i64 (en:Nat)∧Below wc.heap.size wc wx)
 case first=>
  go_region_held3 (fun w'=>w'.cell? ⟨w.heap.size+1,4,none⟩=some (.int .i64 off)∧w'.cell? ⟨w.heap.size+1,5,none⟩=some (.bool s)∧w'.cell? ⟨w.heap.size+1,6,none⟩=some (.bool e)∧w'.cell? ⟨w.heap.size+1,7,none⟩=some (.slice A ps.length c))
   (first|(refine ⟨(hb2.cell (p:=⟨w.heap.size+1,4,none⟩) D7).trans x4,(hb2.cell (p:=⟨w.heap.size+1,5,none⟩) D7).trans x5,(hb2.cell (p:=⟨w.heap.size+1,6,none⟩) D7).trans x6,(hb2.cell (p:=⟨w.heap.size+1,7,none⟩) D7).trans x7⟩)|go_keep)
   ((go_at_call 88;refine HZ.out.mono ?_;rintro e2 w2 ⟨rfl,hb2⟩))
  go_wp2_with fail;go_meet;exact ⟨rfl,((Below.refl _ wc).drew).trans hb2⟩
 case rest=>
 obtain ⟨rfl,hb2⟩:=hcut;generalize wc=w3 at*
 replace bp:=bp.below hb2 bp.lt
 replace bx:=bx.below hb2 bx.lt
 have hB3:=HB.out.trans (hb2.mono HB.out.size);have hh3:oD w3 b sp vf vd:=HH.out.stay (hB3.block b hbl) (fun k hk=>hB3.block k (HH.out.fr.lt k hk).2) (fun k hk=>hB3.block k (HH.out.dr.lt k hk).2);clear x0 x1 x2 x3 x4 x5 x6 x7 y0 hb2 HB abT D7 HZ rU hwrap hen;have HBP:=ah bp;have AR:=ah bx;have HB3:=ah hB3;have y0:=bp.cell 0;simp at y0;obtain ⟨z0,z1,z2⟩:w3.cell? ⟨b,0,none⟩=some vf∧w3.cell? ⟨b,1,none⟩=some vd∧w3.cell? ⟨b,2,none⟩=some (.int .i64 (dx sp)):=⟨hh3.blk.cell 0,hh3.blk.cell 1,hh3.blk.cell 2⟩;have hle:=HO.out.le;have HH3:=ah hh3;clear bp bx hB3 hh3;have abV:∀wx,FV sp ⟨sn,po,sg,la,off,s,e,ps⟩=true→Below w3.heap.size w3 wx→Aa w b sp vf vd ⟨sn,po,sg,la,off,s,e,ps⟩ (Ed 9) wx:=fun wx h1 h2=>by
  unfold Aa;rw[if_pos h1];exact ⟨rfl,HB3.out.trans (h2.mono HB3.out.size)⟩
 have T7:=ah abV;clear abV;go_upto_if 28 with (fail)
 go_cut [] from 24 to 66 (fun wx=>FV sp ⟨sn,po,sg,la,off,s,e,ps⟩=false∧Below w3.heap.size w3 wx)
 case first=>
  cases hsz:sp.size with
  |some k=>
   have hbad:=HBAD.out;rw[hsz] at hbad;dsimp only at hbad;have hsi:dx sp=(k:Int):=by unfold dx;rw[hsz]
   rw[hsi] at z2;rw[show decide (dx sp≥0)=true by rw[hsi];simp];have hk:=HO.out.sz k hsz;clear hsz hsi;by_cases h1:en≤k
   ·rw[decide_eq_true h1,Bool.true_and] at hbad;cases fin with
    |false=>
     have HB2:=ah hbad;clear hbad;go_wp2_with (go_at_call 96;refine (oF _ _).mono ?_;rintro e1 w4 ⟨rfl,rfl⟩);go_meet;exact ⟨HB2.out,Below.refl _ _⟩
    |true=>
     by_cases h2:en=k
     ·have HB2:=ah hbad;have HH2:=ah h2;have hne:((en:Int)==(k:Int))=true:=by simp;omega
      clear hbad h2;go_wp2_with (go_at_call 96;refine (oF _ _).mono ?_;rintro e1 w4 ⟨rfl,rfl⟩);go_meet;exact ⟨by rw[HB2.out,HH2.out];simp,Below.refl _ _⟩
     ·have HB2:=ah hbad;have HH2:=ah h2;have hne:((en:Int)==(k:Int))=false:=by simp;omega
      clear hbad;go_wp2_with (go_at_call 96;refine (mr _ _).mono ?_;rintro e1 w4 ⟨rfl,rfl⟩);exact T7.out _ (by rw[HB2.out];simp[HH2.out]) (Below.refl _ _)
   ·have HB2:=ah hbad;have HH1:=ah h1;clear hbad;go_wp2_with (go_at_call 96;refine (mr _ _).mono ?_;rintro e1 w4 ⟨rfl,rfl⟩);exact T7.out _ (by rw[HB2.out,decide_eq_false HH1.out];rfl) (Below.refl _ _)
  |none=>
   have hbad:=HBAD.out;rw[hsz] at hbad;dsimp only at hbad;have hsi:dx sp= -1:=by unfold dx;rw[hsz]
   rw[hsi] at z2;rw[show decide (dx sp≥0)=false by rw[hsi];rfl];clear hsz hsi;obtain ⟨Af,cf,rfl,hfs⟩:=lV.cB HH3.out.fr;have hcap:=hfs.cap;have hmx:=hfs.mx;cases fin with
   |false=>
    have HB2:=ah hbad;clear hbad hfs;go_wp2_with fail;go_meet;exact ⟨HB2.out,Below.refl _ _⟩
   |true=>
    by_cases h1:en<sp.fl.length
    ·rw[decide_eq_true h1,Bool.true_and,Bool.true_and] at hbad;obtain ⟨gf,of,rfl,hgf,_⟩:=hfs.at_ (by omega);have hq:=O5 (hfs.drop h1) (by omega);generalize (sp.fl.drop en).any (fun f=>f.1)=got at*;have HB2:=ah hbad;have HQ:=ah hq;have d1:decide (en<sp.fl.length)=true:=decide_eq_true h1;have h1':(en:Int)<(sp.fl.length:Int):=by omega
     clear hbad hfs hq;cases got with
     |false=>
      go_wp2_with (first
       |(go_at_call 153;refine HQ.out.mono ?_;rintro e1 w4 ⟨rfl,hb4⟩)
       |(go_at_call 96;refine (oF _ _).mono ?_;rintro e1 w4 ⟨rfl,rfl⟩))
      go_meet;exact ⟨HB2.out,hb4⟩
     |true=>
      go_wp2_with (first
       |(go_at_call 153;refine HQ.out.mono ?_;rintro e1 w4 ⟨rfl,hb4⟩)
       |(go_at_call 96;refine (mr _ _).mono ?_;rintro e1 w5 ⟨rfl,rfl⟩))
      exact T7.out _ HB2.out hb4
    ·rw[decide_eq_false h1,Bool.false_and,Bool.and_false] at hbad;have HB2:=ah hbad;clear hbad hfs;go_wp2_with fail;go_meet;exact ⟨HB2.out,Below.refl _ _⟩
 case rest=>
 obtain ⟨hnb,hb4⟩:=hcut;generalize wc=w4 at*;have hT:pF w b vf vd #[.int .i64 sn,.bool po,.bool sg,.bool la,.int .i64 off,.bool s,.bool e,.slice A ps.length c] (dx sp) vf vd sp.fl sp.da w3:=
  ⟨HH3.out.blk,HH3.out.fr,HH3.out.dr,fun k hk=> .inl hk,fun k hk=> .inl hk,(Kept.of_below HB3.out).fE fun k o ho hm=>by have:=lt_of_heap ho;omega,HBP.out,AR.out,hbl⟩
 have M3:=hT.below hb4;have Le:=ah M3;have HNB:=ah hnb;have hll:=HO.out.ll;clear hT M3 hb4 hnb T7 HBAD HH3 HBP AR HB3 y0 z0 z1 z2 HH HS0;have y0:=Le.out.bp.cell 0;simp at y0;obtain ⟨z0,z1,z2⟩:w4.cell? ⟨b,0,none⟩=some vf∧w4.cell? ⟨b,1,none⟩=some vd∧w4.cell? ⟨b,2,none⟩=some (.int .i64 (dx sp)):=⟨Le.out.blk.cell 0,Le.out.blk.cell 1,Le.out.blk.cell 2⟩;obtain ⟨Af,cf,rfl,hfs⟩:=lV.cB Le.out.fr;have hcap:=hfs.cap;have hmx:=hfs.mx;have am1:en≤32767:=by have:=Jn.out;omega
 have hwn:IntKind.i64.wrap ((en:Int)-(sp.fl.length:Int))=(en:Int)-(sp.fl.length:Int):=IntWalk.i64_in _ (by omega);have Y3:=ah hll;clear hfs hll;go_upto_if 75 with (fail)
 obtain ⟨K,hK⟩:∃K:Int,K=(en:Int)-(sp.fl.length:Int):=⟨_,rfl⟩
 rw[←hK];go_cut [] from 75 to 93 (fun wx=>∃kR kK,pF w b (.slice Af sp.fl.length cf) vd #[.int .i64 sn,.bool po,.bool sg,.bool la,.int .i64 off,.bool s,.bool e,.slice A ps.length c] (dx sp) kR kK (jY en sp.fl) (oC en sp.da) wx)
 case first=>
  by_cases hn:sp.fl.length<en
  ·obtain ⟨kn,rfl⟩:∃kn:Nat,K=(kn:Int):=⟨en-sp.fl.length,by omega⟩
   have hkn:en-sp.fl.length=kn:=by omega
   have hkp:0<kn:=by omega
   have hkb:kn≤32767:=by omega
   have he1:uZ sp.fl++(Builtin.zeroCells (Value.agg #[.bool false,.bool false,.bool false]).cells kn).toList=uZ (jY en sp.fl):=by
    show uZ sp.fl++(Builtin.zeroCells #[.bool false,.bool false,.bool false] kn).toList=uZ (jY en sp.fl)
    rw[Gd,←Ss];unfold jY;rw[hkn]
   have he2:bO sp.da++(Builtin.zeroCells (Value.int .u8 0).cells kn).toList=bO (oC en sp.da):=by
    show bO sp.da++(Builtin.zeroCells #[.int .u8 0] kn).toList=bO (oC en sp.da)
    rw[Gf];unfold oC;rw[Y3.out,hkn];simp[bO]
   have hl1:(jY en sp.fl).length=sp.fl.length+kn:=by unfold jY;rw[List.length_append,List.length_replicate,hkn]
   have hl2:(oC en sp.da).length=sp.da.length+kn:=by unfold oC;rw[List.length_append,List.length_replicate,Y3.out,hkn]
   have hz1:∀u∈(Builtin.zeroCells #[.bool false,.bool false,.bool false] kn).toList,u.oneCell'=true:=by
    rw[Gd];intro u hu;simp only[uZ,List.mem_flatMap,List.mem_cons,List.not_mem_nil,or_false] at hu;obtain ⟨r,_,rfl|rfl|rfl⟩:=hu<;>rfl
   have hz2:∀u∈(Builtin.zeroCells #[.int .u8 0] kn).toList,u.oneCell'=true:=by
    rw[Gf];intro u hu;simp only[bO,List.mem_map] at hu;obtain ⟨r,_,rfl⟩:=hu;rfl
   obtain ⟨i1,hi1,agk,XM,agl⟩:=Pb;obtain ⟨i2,hi2,agm,agn,agp⟩:=info_parts qK;have WK:=ah he1;have HE2:=ah he2;have HL1:=ah hl1;have HL2:=ah hl2;have HKN:=ah hkn;have fz0:=Le.out.blk.frozen 0;have hown1:=Le.out.drew.fr;clear he1 he2 hl1 hl2 hK hkn;go_upto_region 9 with (fail)
   go_cut [] from 75 to 84 (fun wx=>∃v2,pF w b (.slice Af sp.fl.length cf) vd #[.int .i64 sn,.bool po,.bool sg,.bool la,.int .i64 off,.bool s,.bool e,.slice A ps.length c] (dx sp) v2 vd (jY en sp.fl) sp.da wx)
   case first=>
    refine wp_region_noPanic ?_;refine aZ (fun w'=>w'.cell? ⟨w.heap.size,0,none⟩=some (.pointer (some ⟨b,0,none⟩))∧w'.cell? ⟨b,0,none⟩=some (.slice Af sp.fl.length cf)) [9] (by kernel_rfl) ?_;have hHeld:=(show (fun w':World=>w'.cell? ⟨w.heap.size,0,none⟩=some (.pointer (some ⟨b,0,none⟩))∧w'.cell? ⟨b,0,none⟩=some (.slice Af sp.fl.length cf)) _ from ⟨y0,z0⟩);refine gV [2,3,4,6,9] 1 ?_ rfl (Or.inl ⟨by rfl,?_⟩) hHeld ?_;rotate_left
    ·intro w' hSw;obtain ⟨hS1,hS2⟩:=hSw;go_simp
     try with_reducible rfl
    try simp only[Act.put,aB,aC,aD,ax,ay,aA]
    refine aY 2 rfl hHeld ?_
    try simp only[Act.put,aB,aC,aD,ax,ay,aA]
    refine aY 3 rfl hHeld ?_
    try simp only[Act.put,aB,aC,aD,ax,ay,aA]
    refine gV [6,9] 4 ?_ rfl (Or.inl ⟨by rfl,?_⟩) hHeld ?_;rotate_left
    ·intro w' hSw;obtain ⟨hS1,hS2⟩:=hSw;go_simp
     try with_reducible rfl
    try simp only[Act.put,aB,aC,aD,ax,ay,aA]
    refine aY 5 rfl hHeld ?_
    try simp only[Act.put,aB,aC,aD,ax,ay,aA]
    refine gV [7,8,9] 0 ?_ rfl (Or.inl ⟨by rfl,?_⟩) hHeld ?_;rotate_left
    ·intro w' hSw;obtain ⟨hS1,hS2⟩:=hSw;go_simp
     try with_reducible rfl
    try simp only[Act.put,aB,aC,ax,ay,aA]
    refine aR (i:=6) rfl (by kernel_rfl) (by rfl) (fun K hK=> ?_);refine oW _ _ _ 163 3 rfl 0 174 i1 (.agg #[.bool false,.bool false,.bool false]) 3 3 .i64 .i64 Pd uw hi1 agk XM agl rfl (by decide) (.slice Af sp.fl.length cf) sp.fl.length (uZ sp.fl) (by rfl) hown1 kn (by rfl) hkp hz1 (by unfold maxLen;omega) (by omega) (Nat.zero_le _) ?_;rintro v2 w5 hr5 hg5 hv5;rw[WK.out,←HL1.out] at hr5;obtain ⟨A2,c2,rfl,_⟩:=lV.cB hr5;have hb5:=Le.out.drew.blk.grown hg5 (jI hown1 Le.out.drew.blk (by decide));have hp5:=Le.out.drew.bp.grown hg5 (jI hown1 Le.out.drew.bp (by decide));have q0:=hp5.cell 0;have q1:=hb5.cell 0;have q2:=hb5.frozen 0;simp at q0 q1;have Lb:=ah (Le.out.drew.flags hr5 hg5 hv5);clear hr5 hg5 hv5 hb5 hp5;refine hK _ _ ⟨q0,q1⟩ ?_;clear hK K hHeld;have hHeld:=(show (fun w':World=>w'.cell? ⟨w.heap.size,0,none⟩=some (.pointer (some ⟨b,0,none⟩))∧w'.cell? ⟨b,0,none⟩=some (.slice Af sp.fl.length cf)) _ from ⟨q0,q1⟩)
    try simp only[Act.put,aB,aC,aD,ax,ay,aA]
    refine aY 7 rfl hHeld ?_
    try simp only[Act.put,aB,aC,aD,ax,ay,aA]
    refine aY 8 rfl hHeld ?_
    try simp only[Act.put,aB,aC,aD,ax,ay,aA]
    refine bD (i:=9) rfl (by kernel_rfl) (by kernel_rfl) (by rfl) (fun K hK=> ?_);go_simp;refine hK _ _ ?_;clear hK K
    try simp only[Act.put,aB,aC,aD,ax,ay,aA]
    refine bu (by kernel_rfl) ?_ _;simp only[NoPanic];go_wp2_with fail;go_meet;exact ⟨_,Lb.out⟩
   case rest=>
   obtain ⟨v2,E9⟩:=hcut;have Lb:=ah E9;have y0:=E9.bp.cell 0;simp at y0;have z1:wc.cell? ⟨b,1,none⟩=some vd:=E9.blk.cell 1;have fz1:=E9.blk.frozen 1;have hown2:=E9.drew.dr;have hdl:sp.da.length≤32767:=by have:=Y3.out;omega
   clear E9 hown1 fz0 z0;go_upto_region 10 with (fail)
   go_cut [] from 75 to 93 (fun wx=>∃v2 v3,pF w b (.slice Af sp.fl.length cf) vd #[.int .i64 sn,.bool po,.bool sg,.bool la,.int .i64 off,.bool s,.bool e,.slice A ps.length c] (dx sp) v2 v3 (jY en sp.fl) (oC en sp.da) wx)
   case first=>
    refine wp_region_noPanic ?_;refine aZ (fun w'=>w'.cell? ⟨w.heap.size,0,none⟩=some (.pointer (some ⟨b,0,none⟩))∧w'.cell? ⟨b,1,none⟩=some (vd)) [9] (by kernel_rfl) ?_;have hHeld:=(show (fun w':World=>w'.cell? ⟨w.heap.size,0,none⟩=some (.pointer (some ⟨b,0,none⟩))∧w'.cell? ⟨b,1,none⟩=some (vd)) _ from ⟨y0,z1⟩);refine gV [2,3,4,6,9] 1 ?_ rfl (Or.inl ⟨by rfl,?_⟩) hHeld ?_;rotate_left
    ·intro w' hSw;obtain ⟨hS1,hS2⟩:=hSw;go_simp
     try with_reducible rfl
    try simp only[Act.put,aB,aC,aD,ax,ay,aA]
    refine aY 2 rfl hHeld ?_
    try simp only[Act.put,aB,aC,aD,ax,ay,aA]
    refine aY 3 rfl hHeld ?_
    try simp only[Act.put,aB,aC,aD,ax,ay,aA]
    refine gV [6,9] 4 ?_ rfl (Or.inl ⟨by rfl,?_⟩) hHeld ?_;rotate_left
    ·intro w' hSw;obtain ⟨hS1,hS2⟩:=hSw;go_simp
     try with_reducible rfl
    try simp only[Act.put,aB,aC,aD,ax,ay,aA]
    refine aY 5 rfl hHeld ?_
    try simp only[Act.put,aB,aC,aD,ax,ay,aA]
    refine gV [7,8,9] 0 ?_ rfl (Or.inl ⟨by rfl,?_⟩) hHeld ?_;rotate_left
    ·intro w' hSw;obtain ⟨hS1,hS2⟩:=hSw;go_simp
     try with_reducible rfl
    try simp only[Act.put,aB,aC,ax,ay,aA]
    refine aR (i:=6) rfl (by kernel_rfl) (by rfl) (fun K hK=> ?_);refine oW _ _ _ 31 3 rfl 0 5 i2 (.int .u8 0) 1 1 .i64 .i64 und29 uw hi2 agm agn agp rfl (by decide) vd sp.da.length (bO sp.da) (by rfl) hown2 kn (by rfl) hkp hz2 (by unfold maxLen;omega) (by omega) (Nat.zero_le _) ?_;rintro v3 w6 hr6 Se hv6;rw[HE2.out,←HL2.out] at hr6;obtain ⟨A3,c3,rfl,_,_⟩:=bq hr6;have hb6:=Lb.out.drew.blk.grown Se (jI hown2 Lb.out.drew.blk (by decide));have hp6:=Lb.out.drew.bp.grown Se (jI hown2 Lb.out.drew.bp (by decide));have q0:=hp6.cell 0;have q1:=hb6.cell 1;have q2:=hb6.frozen 1;simp at q0 q1;have HT6:=ah (Lb.out.drew.data hr6 Se hv6);clear hr6 Se hv6 hb6 hp6;refine hK _ _ ⟨q0,q1⟩ ?_;clear hK K hHeld;have hHeld:=(show (fun w':World=>w'.cell? ⟨w.heap.size,0,none⟩=some (.pointer (some ⟨b,0,none⟩))∧w'.cell? ⟨b,1,none⟩=some (vd)) _ from ⟨q0,q1⟩)
    try simp only[Act.put,aB,aC,aD,ax,ay,aA]
    refine aY 7 rfl hHeld ?_
    try simp only[Act.put,aB,aC,aD,ax,ay,aA]
    refine aY 8 rfl hHeld ?_
    try simp only[Act.put,aB,aC,aD,ax,ay,aA]
    refine bD (i:=9) rfl (by kernel_rfl) (by kernel_rfl) (by rfl) (fun K hK=> ?_);go_simp;refine hK _ _ ?_;clear hK K
    try simp only[Act.put,aB,aC,aD,ax,ay,aA]
    refine bu (by kernel_rfl) ?_ _;simp only[NoPanic];go_wp2_with fail;go_meet;exact ⟨_,_,HT6.out⟩
   case rest=>
   obtain ⟨v2,v3,hT6⟩:=hcut;go_wp2_with fail;go_meet;exact ⟨_,_,hT6⟩
  ·have he1:jY en sp.fl=sp.fl:=by unfold jY;rw[show en-sp.fl.length=0 by omega];simp
   have he2:oC en sp.da=sp.da:=by have:=Y3.out;unfold oC;rw[show en-sp.da.length=0 by omega];simp
   have WK:=ah he1;have HE2:=ah he2;have hn2:(en:Int)-(sp.fl.length:Int)≤0:=by omega
   clear he1 he2;go_wp2_with fail;go_meet;rw[WK.out,HE2.out];exact ⟨_,_,Le.out⟩
 case rest=>
 obtain ⟨E6,E7,hT⟩:=hcut;have abW:(jY en sp.fl).length=max sp.fl.length en:=by unfold jY;rw[List.length_append,List.length_replicate];omega
 have Tk:(oC en sp.da).length=max sp.fl.length en:=by unfold oC;rw[List.length_append,List.length_replicate,Y3.out];omega
 obtain ⟨x0,hx0⟩:∃x0:List Fl × List UInt8,x0=(jY en sp.fl,oC en sp.da):=⟨_,rfl⟩
 have hT:pF w b (.slice Af sp.fl.length cf) vd #[.int .i64 sn,.bool po,.bool sg,.bool la,.int .i64 off,.bool s,.bool e,.slice A ps.length c] (dx sp) E6 E7 x0.1 x0.2 wc:=by rw[hx0];exact hT
 obtain ⟨L,hL⟩:∃L,L=max sp.fl.length en:=⟨_,rfl⟩
 have hl1:x0.1.length=L:=by rw[hx0];exact abW.trans hL.symm
 have hl2:x0.2.length=L:=by rw[hx0];exact Tk.trans hL.symm
 have hLe:en≤L:=by omega
 have hLb:L≤32767:=by omega
 have HX0:=ah hx0;have HL1:=ah hl1;have HL2:=ah hl2;have hdi:=au.new wc 3 #[.int .i64 0];have E9:=hT.alloc (.cells #[.int .i64 0] 3);have am4:w.heap.size≤wc.heap.size:=hT.kp.size;have ai8:=hT.bx.lt;clear abW Tk hx0 hL hl1 hl2 Le y0 z0 z1 z2 hcap hmx hwn Y3 hT hK hle;go_upto_region 12 with (fail)
 generalize wc.alloc (.cells #[.int .i64 0] 3)=w5 at*;generalize wc.heap.size=bi at*;have hS5:=HST.out w5 E9.kp;have hbd:=zh sn po sg la off s e A ps.length c vs ps w5 hS5 (by have:=jw.out;omega) (by omega) (by have:=QT.out;omega);unfold bH at hbd;have NB:=ah hbd;have Lb:=ah E9;have HDI:=ah hdi;obtain ⟨q0,q1,q2,q3,q4,q5,q6,q7⟩:=E9.bx.eight;clear hbd hS5 E9 hdi;go_wp2_with fail;refine NB.out.mono ?_;rintro e5 w6 ⟨g,v,rfl,Se,bg,hv6,hb6⟩;have hT6:=Lb.out.below hb6;have agu:=HDI.out.below hb6 HDI.out.lt;clear NB q0 q1 q2 q3 q4 q5 q6 q7;go_wp2_with fail;have jZ:Tryz.prog.follows .mixedOrders=true:=by kernel_rfl
 have hI0:TkI w b (.slice Af sp.fl.length cf) vd #[.int .i64 sn,.bool po,.bool sg,.bool la,.int .i64 off,.bool s,.bool e,.slice A ps.length c] (dx sp) E6 E7 s e off ps x0 bi w6 0 w6:=⟨hT6,agu,Kept.refl _ _⟩;have KG:=hb6.size;have ai9:=HDI.out.lt;have hww:w.heap.size≤w6.heap.size:=by omega
 have hbb:b<w.heap.size:=hbl;have hgb:g≠b:=by omega
 have hgi:g≠bi:=by omega
 have abX:∀j,E6.ownBlock=some j→j<w5.heap.size:=fun j hj=>(Lb.out.fr.lt j hj).2
 have abY:∀j,E7.ownBlock=some j→j<w5.heap.size:=fun j hj=>(Lb.out.dr.lt j hj).2
 have hvl:=fun j hj=>hv6.lt j hj
 apply wpIn_wide (n:=5).1;apply lH (gf:=197) (lb:= #[.pointer (some ⟨g,0,none⟩)]) rfl (by omega) rfl trivial (enters_of Tryz.func197 (by kernel_rfl) rfl)
  (wO _ (by omega) g w5.heap.size v off ps (by omega) (by have:=QT.out;omega) (by have:=jw.out;omega) (SG b E6 E7 bi w6.heap.size) w6 bg hv6 (by rintro (h|h|h|h|h)<;>first|omega|(have:=abX g h;omega)|(have:=abY g h;omega)|(have:=bg.lt;omega)) (fun j _ hj=>by have h9:=hvl j hj;rintro (h|h|h|h|h)<;>first|omega|(have:=abX j h;omega)|(have:=abY j h;omega)))
  Kept.trans (fun W l o o' hl ho hc _=>(Kept.refl _ W).grown (grownBy_putObj' W l o') (fun j e _ _=>by cases e;exact .inr (.inr (.inr (.inr hl))))) (Below.refl _ _) (fun _=>rfl)
  (TkI w b (.slice Af sp.fl.length cf) vd #[.int .i64 sn,.bool po,.bool sg,.bool la,.int .i64 off,.bool s,.bool e,.slice A ps.length c] (dx sp) E6 E7 s e off ps x0 bi w6) (SH _ _ _ _ _ _ _ _ _ _ _ _ _ _ _ hww) hI0
 case hassign=>
  intro l k W K hK;simp only[xW]
  gi_wp2
  exact hK
 case hbody=>
  intro l k W hk hI;have hpk:ps[k]? =some (ps[k]?.getD []):=by rw[List.getElem?_eq_getElem hk];rfl
  have hsn:=fH ps k hk;have hsl:=Nat.le_trans (bV ps (k+1)) (Nat.le_of_eq QT.out);have hJ0:Gc w b (.slice Af sp.fl.length cf) vd #[.int .i64 sn,.bool po,.bool sg,.bool la,.int .i64 off,.bool s,.bool e,.slice A ps.length c] (dx sp) E6 E7 (AP s e off ps x0 k 0).1 (AP s e off ps x0 k 0).2 bi w6 W k W:=
   ⟨by rw[O7];exact hI.t,hI.di,hI.kp,Kept.refl _ _,⟨aN,fun _ _ _ h _=>h⟩⟩
  obtain ⟨ka,hka⟩:∃ka,off+aj (ps.take k)=ka:=⟨_,rfl⟩
  have hkb:off+aj (ps.take (k+1))=ka+(ps[k]?.getD []).length:=by omega
  obtain ⟨N,hN⟩:∃N,N=(ps[k]?.getD []).length:=⟨_,rfl⟩
  rw[←hN] at hkb;obtain ⟨E,hE⟩:∃E,E=ka+N:=⟨_,rfl⟩
  rw[show (off:Int)+((aj (ps.take k):Nat):Int)=(ka:Int) by omega,show (off:Int)+((aj (ps.take (k+1)):Nat):Int)=(E:Int) by omega];have hkN:ka+N≤en:=by have:=Jn.out;omega
  have Z5:=ah hka;have HN:=ah hN;have HE:=ah hE;have SC:=ah hkb;have Z4:=ah hJ0;have HPK:=ah hpk;have hEn:E≤en:=by omega
  clear hpk hsn hsl hJ0 hka hkb hN hE hkN
  gi_wp2
  gi_loopw [10] (fun s10 wr=>∃j a:Nat,j≤N∧a=ka+j∧s10= .int .i64 (a:Int)∧Gc w b (.slice Af sp.fl.length cf) vd #[.int .i64 sn,.bool po,.bool sg,.bool la,.int .i64 off,.bool s,.bool e,.slice A ps.length c] (dx sp) E6 E7 (AP s e off ps x0 k j).1 (AP s e off ps x0 k j).2 bi w6 W k wr) (fun s10 _=>E-(intOf s10).toNat)
  case atStart=>exact ⟨0,ka,Nat.zero_le _,rfl,rfl,Z4.out⟩
  case round=>
   obtain ⟨j,a,hj,ha,rfl,hJ⟩:=hrel;have hwz:=hJ.kp.size;have HA:=ah ha;have haE:a≤E:=by have:=HE.out;omega
   obtain ⟨z,hz⟩:∃z,z=AP s e off ps x0 k j:=⟨_,rfl⟩
   rw[←hz] at hJ;by_cases hlt:j<N
   ·have hsu:=O9 (s:=s) (e:=e) (off:=off) (ps:=ps) (x0:=x0) (k:=k) (j:=j) (by rw[←HN.out];exact hlt);rw[←hz,Z5.out,←HN.out,←ha] at hsu;have hln:=SF (s:=s) (e:=e) (off:=off) (ps:=ps) (x0:=x0) (k:=k) j;rw[←hz,HL1.out,HL2.out] at hln;obtain ⟨fl,da⟩:=z;dsimp only at hJ hsu hln;obtain ⟨hfl,hdl⟩:=hln;have hfr:=hJ.t.fr;have hdr:=hJ.t.dr;have hL0:0<L:=by have:=HE.out;omega
    have hfr2:=hfr;have XZ:=hdr;rw[hfl] at hfr2;rw[hdl] at XZ;obtain ⟨gf,cf1,rfl,af5,af6,am6⟩:=uF hfr2 hL0;obtain ⟨gd,cd1,rfl,af7,af8,am7⟩:=uF XZ hL0;clear hfr2 XZ;have hfs:lV wr (some ⟨gf,0,none⟩) L cf1 fl:=by
     obtain ⟨A',c',e',hs'⟩:=lV.cB hfr;rw[hfl] at e' hs';cases e';exact hs'
    obtain ⟨ad,Ai,ci,rfl,hbk,hck,uD⟩:=(HST.out wr hJ.t.kp).get hk;rw[←HN.out] at hck uD;obtain ⟨ai,u,rfl,hab,hu,hcu⟩:=uD.get hlt;obtain ⟨x,hx⟩:∃x,(ps[k]?.getD [])[j]? =some x:=⟨_,List.getElem?_eq_getElem (by rw[←HN.out];exact hlt)⟩
    have hux:u=bv x:=by
     simp only[bO,List.getElem?_map,hx,Option.map_some,Option.some.injEq] at hu;exact hu.symm
    subst hux;simp only[bv] at hcu;rw[hx,Option.getD_some] at hsu;have hhas:Calls Tryz.prog 156 #[.slice (some ⟨gf,0,none⟩) L cf1,.int .i64 (a:Int),.int .i64 0] wr fun e w'=>e= .returned (.bool (fQ fl a).1)∧wr=w':=zw hfs a (by omega) 0 (by omega)
    have y0:=hJ.t.bp.cell 0;simp at y0;obtain ⟨z0,z1,z2⟩:wr.cell? ⟨b,0,none⟩=some (.slice (some ⟨gf,0,none⟩) L cf1)∧wr.cell? ⟨b,1,none⟩=some (.slice (some ⟨gd,0,none⟩) L cd1)∧wr.cell? ⟨b,2,none⟩=some (.int .i64 (dx sp)):=⟨hJ.t.blk.cell 0,hJ.t.blk.cell 1,hJ.t.blk.cell 2⟩;obtain ⟨q0,q1,q2,q3,q4,q5,q6,q7⟩:=hJ.t.bx.eight;have yi:=hJ.di.cell 0;simp at yi;have aja:=uD.cap;have ajb:=uD.mx;have hat:a<L:=by have:=HE.out;omega
    have BA:=ah hhas;have QW:=ah hsu;have qQ:=ah hfl;have zl:=ah hdl;have HJ:=ah hJ;have hlt2:(a:Int)<(E:Int):=by have:=HE.out;omega
    have hkn:(k:Int)<(ps.length:Int):=by omega
    have hwj:IntKind.i64.wrap ((a:Int)-(ka:Int))=(j:Int):=by rw[IntWalk.i64_in _ (by omega)];omega
    clear hz hfr hdr hfs hhas hsu hfl hdl hJ uD hx hu q0 q1 q2 q3 q4 z2 ha;cases M6:(fQ fl a).1 with
    |true=>
     rw[M6] at BA;have hsu:=QW.out;rw[if_pos M6] at hsu;have ab0:(AP s e off ps x0 k (j+1)).1=fl:=by rw[hsu]
     have ab1:(AP s e off ps x0 k (j+1)).2=da:=by rw[hsu]
     have TE:=HJ.out;rw[←ab0,←ab1] at TE;have HJ1:=ah TE;clear hsu M6 ab0 ab1 TE
     gi_wp2_with (refine ⟨trivial,?_⟩;gi_at_call 156;refine (CallsIn.inRound l ((callsIn_wide (n:=2)).2 BA.out)).mono ?_;rintro e1 w1 ⟨rfl,rfl⟩)
     go_round
     case rel=>exact ⟨j+1,a+1,by omega,by have:=HA.out;omega,by go_num,HJ1.out⟩
     case measure=>simp[intOf];omega
    |false=>
     rw[M6] at BA;have hsu:=QW.out;rw[if_neg (by rw[M6];simp)] at hsu;have HSV:=ah hsu;clear hsu M6
     gi_wp2_with (refine ⟨trivial,?_⟩;gi_at_call 156;refine (CallsIn.inRound l ((callsIn_wide (n:=2)).2 BA.out)).mono ?_;rintro e1 w1 ⟨rfl,rfl⟩)
     have hSt:wr.drew=wr.drew:=rfl;refine aV 17 jZ (by kernel_rfl) ?hout1 (by kernel_rfl) ?_
     case hout1=>
      rintro ⟨a',w',hh⟩;exact hh
     simp only[List.take_succ_cons,List.take_zero,List.drop_succ_cons,List.drop_zero]
     repeat (with_reducible refine wpStill_step (fun K hK=> ?_);go_simp;(try refine iX (by decide) ?_);with_reducible refine hK _ ?_;clear hK K)
     with_reducible refine wpStill_nil ?_
     change wpList _ _ _ _ _ wr.drew;have Ua:=ah (HJ.out.drew hwz);have hdz:=Ua.out.t.dr;rw[zl.out] at hdz;have agv:=hdz.frozenAt a;have hdc:wr.drew.cell? ⟨gd,a,none⟩=some (.int .u8 ((da[a]?.getD 0).toNat:Int)):=by
      have h9:=Ua.out.t.dr;rw[zl.out] at h9;rw[h9.cellAt a (by omega),bO,List.getElem?_map,List.getElem?_eq_getElem (by rw[zl.out];exact hat)];rfl
     clear hdz;generalize wr.drew=wt at*;go_wp2;have X0:=Ua.out.WL zl.out (at_:=a) x;simp only[bv] at X0;generalize wt.setCell ⟨gd,a,none⟩ (.int .u8 (x.toNat:Int))=wq at*;have lY:=ah X0;obtain ⟨b1,hb1⟩:∃b1,b1=(decide (j=0)&&(decide (0<k)||s)):=⟨_,rfl⟩
     obtain ⟨b2,hb2⟩:∃b2,b2=(decide (j+1=N)&&(decide (k+1<ps.length)||e)):=⟨_,rfl⟩
     have hsv:=HSV.out;rw[←hb1,←hb2] at hsv;have EH:=ah (show (AP s e off ps x0 k (j+1)).1=fl.set a (true,b1,b2) by rw[hsv]);have EI:=ah (show (AP s e off ps x0 k (j+1)).2=da.set a x by rw[hsv]);have HB1:=ah hb1;have HB2:=ah hb2;clear HSV QW hsv hb1 hb2 X0 HJ Ua y0 z0 z1 q5 q6 q7 yi agv hdc BA;have y0:=lY.out.t.bp.cell 0;simp at y0;have z0:wq.cell? ⟨b,0,none⟩=some (.slice (some ⟨gf,0,none⟩) L cf1):=lY.out.t.blk.cell 0;obtain ⟨q0,q1,q2,q3,q4,q5,q6,q7⟩:=lY.out.t.bx.eight;have yi:=lY.out.di.cell 0;simp at yi;have hwE:IntKind.i64.wrap ((E:Int)-1)=(E:Int)-1:=IntWalk.i64_in _ (by omega);have hwk:IntKind.i64.wrap ((k:Int)+1)=(k:Int)+1:=IntWalk.i64_in _ (by have:=jw.out;omega);have Ub:∀X:World,X.ownsRow 0 174 3 (.slice (some ⟨gf,0,none⟩) L cf1) fl.length (uZ fl)→fl.length=L→a<L→X.cell? ⟨gf,a*3,none⟩=some (.bool (fQ fl a).1)∧X.cell? ⟨gf,a*3+1,none⟩=some (.bool (fQ fl a).2.1)∧X.cell? ⟨gf,a*3+2,none⟩=some (.bool (fQ fl a).2.2):=fun X hX h1 h2=>by
      have hg:=List.getElem?_eq_getElem (l:=fl) (i:=a) (by omega);obtain ⟨e1,e2,e3⟩:=xZ fl a _ hg;rw[Cy hg];rw[h1] at hX;exact ⟨(hX.cellAt _ (by omega)).trans e1,(hX.cellAt _ (by omega)).trans e2,(hX.cellAt _ (by omega)).trans e3⟩
     clear q0 q1 q2 q3 q4;by_cases hj0:j=0
     ·have d1:((a:Int)==(ka:Int))=true:=by have:=HA.out;simp;omega
      by_cases hk0:0<k
      ·have d3:decide ((k:Int)>0)=true:=by simp;exact hk0
       have d3b:decide (0<k)=true:=decide_eq_true hk0;obtain rfl:b1=true:=by rw[HB1.out];simp[hj0,hk0]
       have HJ1:=ah hj0;have tJ:=ah hk0;clear hj0 hk0 HB1;by_cases Ab:j+1=N
       ·have d2:((a:Int)==(E:Int)-1)=true:=by have:=HA.out;have:=HE.out;simp;omega
        by_cases nP:k+1<ps.length
        ·have d4:decide ((k:Int)+1<(ps.length:Int))=true:=by simp;omega
         have d4b:decide (k+1<ps.length)=true:=decide_eq_true nP;obtain rfl:b2=true:=by rw[HB2.out];simp[Ab,nP]
         clear Ab nP HB2;refine aV 37 jZ (by kernel_rfl) ?X3 (by kernel_rfl) ?_
         case X3=>
          rintro ⟨a',w',hh⟩;exact hh
         simp only[List.take_succ_cons,List.take_zero,List.drop_succ_cons,List.drop_zero]
         repeat (with_reducible refine wpStill_step (fun K hK=> ?_);go_simp;(try refine iX (by decide) ?_);with_reducible refine hK _ ?_;clear hK K)
         with_reducible refine wpStill_nil ?_
         change wpList _ _ _ _ _ wq.drew;have iI:=ah (lY.out.drew (by have:=lY.out.kp.size;exact this));obtain ⟨g0,g1,g2⟩:=Ub wq.drew iI.out.t.fr qQ.out hat;have gz:=iI.out.t.fr;rw[qQ.out] at gz
         replace gz:=gz.frozenAt
         generalize wq.drew=wv at*;go_wp2
         gi_wp2_with fail
         go_round
         case rel=>exact ⟨j+1,a+1,by omega,by have:=HA.out;omega,by go_num,by rw[EH.out,EI.out];exact iI.out.zz qQ.out hat (true,_,_)⟩
         case measure=>simp[intOf];omega
        ·have d4:decide ((k:Int)+1<(ps.length:Int))=false:=by simp;omega
         have d4b:decide (k+1<ps.length)=false:=decide_eq_false nP;obtain rfl:b2=e:=by rw[HB2.out];simp[Ab,nP]
         clear Ab nP HB2;refine aV 37 jZ (by kernel_rfl) ?X4 (by kernel_rfl) ?_
         case X4=>
          rintro ⟨a',w',hh⟩;exact hh
         simp only[List.take_succ_cons,List.take_zero,List.drop_succ_cons,List.drop_zero]
         repeat (with_reducible refine wpStill_step (fun K hK=> ?_);go_simp;(try refine iX (by decide) ?_);with_reducible refine hK _ ?_;clear hK K)
         with_reducible refine wpStill_nil ?_
         change wpList _ _ _ _ _ wq.drew;have iI:=ah (lY.out.drew (by have:=lY.out.kp.size;exact this));obtain ⟨g0,g1,g2⟩:=Ub wq.drew iI.out.t.fr qQ.out hat;have gz:=iI.out.t.fr;rw[qQ.out] at gz
         replace gz:=gz.frozenAt
         generalize wq.drew=wv at*;go_wp2
         gi_wp2_with fail
         go_round
         case rel=>exact ⟨j+1,a+1,by omega,by have:=HA.out;omega,by go_num,by rw[EH.out,EI.out];exact iI.out.zz qQ.out hat (true,_,_)⟩
         case measure=>simp[intOf];omega
       ·have d2:((a:Int)==(E:Int)-1)=false:=by have:=HA.out;have:=HE.out;simp;omega
        obtain rfl:b2=false:=by rw[HB2.out];simp[Ab]
        clear Ab HB2;refine aV 37 jZ (by kernel_rfl) ?X5 (by kernel_rfl) ?_
        case X5=>
         rintro ⟨a',w',hh⟩;exact hh
        simp only[List.take_succ_cons,List.take_zero,List.drop_succ_cons,List.drop_zero]
        repeat (with_reducible refine wpStill_step (fun K hK=> ?_);go_simp;(try refine iX (by decide) ?_);with_reducible refine hK _ ?_;clear hK K)
        with_reducible refine wpStill_nil ?_
        change wpList _ _ _ _ _ wq.drew;have iI:=ah (lY.out.drew (by have:=lY.out.kp.size;exact this));obtain ⟨g0,g1,g2⟩:=Ub wq.drew iI.out.t.fr qQ.out hat;have gz:=iI.out.t.fr;rw[qQ.out] at gz
        replace gz:=gz.frozenAt
        generalize wq.drew=wv at*;go_wp2
        gi_wp2_with fail
        go_round
        case rel=>exact ⟨j+1,a+1,by omega,by have:=HA.out;omega,by go_num,by rw[EH.out,EI.out];exact iI.out.zz qQ.out hat (true,_,_)⟩
        case measure=>simp[intOf];omega
      ·have d3:decide ((k:Int)>0)=false:=by simp;omega
       have d3b:decide (0<k)=false:=decide_eq_false hk0;obtain rfl:b1=s:=by rw[HB1.out];simp[hj0,hk0]
       clear hj0 hk0 HB1;by_cases Ab:j+1=N
       ·have d2:((a:Int)==(E:Int)-1)=true:=by have:=HA.out;have:=HE.out;simp;omega
        by_cases nP:k+1<ps.length
        ·have d4:decide ((k:Int)+1<(ps.length:Int))=true:=by simp;omega
         have d4b:decide (k+1<ps.length)=true:=decide_eq_true nP;obtain rfl:b2=true:=by rw[HB2.out];simp[Ab,nP]
         clear Ab nP HB2;refine aV 37 jZ (by kernel_rfl) ?X6 (by kernel_rfl) ?_
         case X6=>
          rintro ⟨a',w',hh⟩;exact hh
         simp only[List.take_succ_cons,List.take_zero,List.drop_succ_cons,List.drop_zero]
         repeat (with_reducible refine wpStill_step (fun K hK=> ?_);go_simp;(try refine iX (by decide) ?_);with_reducible refine hK _ ?_;clear hK K)
         with_reducible refine wpStill_nil ?_
         change wpList _ _ _ _ _ wq.drew;have iI:=ah (lY.out.drew (by have:=lY.out.kp.size;exact this));obtain ⟨g0,g1,g2⟩:=Ub wq.drew iI.out.t.fr qQ.out hat;have gz:=iI.out.t.fr;rw[qQ.out] at gz
         replace gz:=gz.frozenAt
         generalize wq.drew=wv at*;go_wp2
         gi_wp2_with fail
         go_round
         case rel=>exact ⟨j+1,a+1,by omega,by have:=HA.out;omega,by go_num,by rw[EH.out,EI.out];exact iI.out.zz qQ.out hat (true,_,_)⟩
         case measure=>simp[intOf];omega
        ·have d4:decide ((k:Int)+1<(ps.length:Int))=false:=by simp;omega
         have d4b:decide (k+1<ps.length)=false:=decide_eq_false nP;obtain rfl:b2=e:=by rw[HB2.out];simp[Ab,nP]
         clear Ab nP HB2;refine aV 37 jZ (by kernel_rfl) ?X7 (by kernel_rfl) ?_
         case X7=>
          rintro ⟨a',w',hh⟩;exact hh
         simp only[List.take_succ_cons,List.take_zero,List.drop_succ_cons,List.drop_zero]
         repeat (with_reducible refine wpStill_step (fun K hK=> ?_);go_simp;(try refine iX (by decide) ?_);with_reducible refine hK _ ?_;clear hK K)
         with_reducible refine wpStill_nil ?_
         change wpList _ _ _ _ _ wq.drew;have iI:=ah (lY.out.drew (by have:=lY.out.kp.size;exact this));obtain ⟨g0,g1,g2⟩:=Ub wq.drew iI.out.t.fr qQ.out hat;have gz:=iI.out.t.fr;rw[qQ.out] at gz
         replace gz:=gz.frozenAt
         generalize wq.drew=wv at*;go_wp2
         gi_wp2_with fail
         go_round
         case rel=>exact ⟨j+1,a+1,by omega,by have:=HA.out;omega,by go_num,by rw[EH.out,EI.out];exact iI.out.zz qQ.out hat (true,_,_)⟩
         case measure=>simp[intOf];omega
       ·have d2:((a:Int)==(E:Int)-1)=false:=by have:=HA.out;have:=HE.out;simp;omega
        obtain rfl:b2=false:=by rw[HB2.out];simp[Ab]
        clear Ab HB2;refine aV 37 jZ (by kernel_rfl) ?X8 (by kernel_rfl) ?_
        case X8=>
         rintro ⟨a',w',hh⟩;exact hh
        simp only[List.take_succ_cons,List.take_zero,List.drop_succ_cons,List.drop_zero]
        repeat (with_reducible refine wpStill_step (fun K hK=> ?_);go_simp;(try refine iX (by decide) ?_);with_reducible refine hK _ ?_;clear hK K)
        with_reducible refine wpStill_nil ?_
        change wpList _ _ _ _ _ wq.drew;have iI:=ah (lY.out.drew (by have:=lY.out.kp.size;exact this));obtain ⟨g0,g1,g2⟩:=Ub wq.drew iI.out.t.fr qQ.out hat;have gz:=iI.out.t.fr;rw[qQ.out] at gz
        replace gz:=gz.frozenAt
        generalize wq.drew=wv at*;go_wp2
        gi_wp2_with fail
        go_round
        case rel=>exact ⟨j+1,a+1,by omega,by have:=HA.out;omega,by go_num,by rw[EH.out,EI.out];exact iI.out.zz qQ.out hat (true,_,_)⟩
        case measure=>simp[intOf];omega
     ·have d1:((a:Int)==(ka:Int))=false:=by have:=HA.out;simp;omega
      obtain rfl:b1=false:=by rw[HB1.out];simp[hj0]
      clear hj0 HB1;by_cases Ab:j+1=N
      ·have d2:((a:Int)==(E:Int)-1)=true:=by have:=HA.out;have:=HE.out;simp;omega
       by_cases nP:k+1<ps.length
       ·have d4:decide ((k:Int)+1<(ps.length:Int))=true:=by simp;omega
        have d4b:decide (k+1<ps.length)=true:=decide_eq_true nP;obtain rfl:b2=true:=by rw[HB2.out];simp[Ab,nP]
        clear Ab nP HB2;refine aV 37 jZ (by kernel_rfl) ?X9 (by kernel_rfl) ?_
        case X9=>
         rintro ⟨a',w',hh⟩;exact hh
        simp only[List.take_succ_cons,List.take_zero,List.drop_succ_cons,List.drop_zero]
        repeat (with_reducible refine wpStill_step (fun K hK=> ?_);go_simp;(try refine iX (by decide) ?_);with_reducible refine hK _ ?_;clear hK K)
        with_reducible refine wpStill_nil ?_
        change wpList _ _ _ _ _ wq.drew;have iI:=ah (lY.out.drew (by have:=lY.out.kp.size;exact this));obtain ⟨g0,g1,g2⟩:=Ub wq.drew iI.out.t.fr qQ.out hat;have gz:=iI.out.t.fr;rw[qQ.out] at gz
        replace gz:=gz.frozenAt
        generalize wq.drew=wv at*;go_wp2
        gi_wp2_with fail
        go_round
        case rel=>exact ⟨j+1,a+1,by omega,by have:=HA.out;omega,by go_num,by rw[EH.out,EI.out];exact iI.out.zz qQ.out hat (true,_,_)⟩
        case measure=>simp[intOf];omega
       ·have d4:decide ((k:Int)+1<(ps.length:Int))=false:=by simp;omega
        have d4b:decide (k+1<ps.length)=false:=decide_eq_false nP;obtain rfl:b2=e:=by rw[HB2.out];simp[Ab,nP]
        clear Ab nP HB2;refine aV 37 jZ (by kernel_rfl) ?Ya (by kernel_rfl) ?_
        case Ya=>
         rintro ⟨a',w',hh⟩;exact hh
        simp only[List.take_succ_cons,List.take_zero,List.drop_succ_cons,List.drop_zero]
        repeat (with_reducible refine wpStill_step (fun K hK=> ?_);go_simp;(try refine iX (by decide) ?_);with_reducible refine hK _ ?_;clear hK K)
        with_reducible refine wpStill_nil ?_
        change wpList _ _ _ _ _ wq.drew;have iI:=ah (lY.out.drew (by have:=lY.out.kp.size;exact this));obtain ⟨g0,g1,g2⟩:=Ub wq.drew iI.out.t.fr qQ.out hat;have gz:=iI.out.t.fr;rw[qQ.out] at gz
        replace gz:=gz.frozenAt
        generalize wq.drew=wv at*;go_wp2
        gi_wp2_with fail
        go_round
        case rel=>exact ⟨j+1,a+1,by omega,by have:=HA.out;omega,by go_num,by rw[EH.out,EI.out];exact iI.out.zz qQ.out hat (true,_,_)⟩
        case measure=>simp[intOf];omega
      ·have d2:((a:Int)==(E:Int)-1)=false:=by have:=HA.out;have:=HE.out;simp;omega
       obtain rfl:b2=false:=by rw[HB2.out];simp[Ab]
       clear Ab HB2;refine aV 37 jZ (by kernel_rfl) ?Yb (by kernel_rfl) ?_
       case Yb=>
        rintro ⟨a',w',hh⟩;exact hh
       simp only[List.take_succ_cons,List.take_zero,List.drop_succ_cons,List.drop_zero]
       repeat (with_reducible refine wpStill_step (fun K hK=> ?_);go_simp;(try refine iX (by decide) ?_);with_reducible refine hK _ ?_;clear hK K)
       with_reducible refine wpStill_nil ?_
       change wpList _ _ _ _ _ wq.drew;have iI:=ah (lY.out.drew (by have:=lY.out.kp.size;exact this));obtain ⟨g0,g1,g2⟩:=Ub wq.drew iI.out.t.fr qQ.out hat;have gz:=iI.out.t.fr;rw[qQ.out] at gz
       replace gz:=gz.frozenAt
       generalize wq.drew=wv at*;go_wp2
       gi_wp2_with fail
       go_round
       case rel=>exact ⟨j+1,a+1,by omega,by have:=HA.out;omega,by go_num,by rw[EH.out,EI.out];exact iI.out.zz qQ.out hat (true,_,_)⟩
       case measure=>simp[intOf];omega
   ·have Ab:j=N:=by omega
    have agw:a=E:=by have:=HA.out;have:=HE.out;omega
    have Yc:=O8 (s:=s) (e:=e) (off:=off) (x0:=x0) hk;rw[←HN.out,←Ab,←hz] at Yc;rw[Yc] at hJ;have hlt2:¬(a:Int)<(E:Int):=by omega
    have yi:=hJ.di.cell 0;have fi:=hJ.di.frozen 0;simp at yi;have hwk:IntKind.i64.wrap ((k:Int)+1)=(k:Int)+1:=IntWalk.i64_in _ (by have:=jw.out;omega);have hnx:=hJ.next (by omega) (by omega) (by omega) (by omega)
    rw[show ((k+1:Nat):Int)=(k:Int)+1 by omega] at hnx;have AQ:=ah hnx;clear Yc Ab agw hz hJ hnx ha
    gi_wp2_with fail
    exact ⟨AQ.out.kf,AQ.out.k2,AQ.out.t,by simpa using AQ.out.di,AQ.out.kp⟩
 case hdone=>
  intro D W hD hI Ga;have htk:iH sp ⟨sn,po,sg,la,off,s,e,ps⟩=⟨(Ra s e off ps x0 ps.length).1,(Ra s e off ps x0 ps.length).2,if fin=true then some en else sp.size⟩:=by
   have he:off+aj ps=en:=by rw[QT.out];exact Jn.out
   unfold iH Ra nD FU;dsimp only;rw[HX0.out,he,je.out,List.take_of_length_le (aN)]
  have y0:=hI.t.bp.cell 0;simp at y0;have z2:W.cell? ⟨b,2,none⟩=some (.int .i64 (dx sp)):=hI.t.blk.cell 2;have fz2:=hI.t.blk.frozen 2;have Jv:=ah htk;have HI:=ah hI;clear htk hI;cases fin with
  |false=>
   have hs2:dx (iH sp ⟨sn,po,sg,la,off,s,e,ps⟩)=dx sp:=by rw[Jv.out];rfl
   have hfin:=HI.out.t.aac (.deferred none) Ga rfl (by omega);have HS2:=ah hs2;have HF:=ah hfin;clear hs2 hfin
   gi_wp2
   go_wp2;refine ⟨by simp,.inl ⟨_,_,rfl,run_takeDeferred Ga,?_⟩⟩;refine ⟨.tuple #[],results_none rfl _ _ _,?_⟩;unfold Aa;rw[if_neg (by rw[HNB.out];simp)];have h9:=HF.out;have h8:=Jv.out;refine ⟨rfl,E6,E7,⟨by rw[HS2.out];exact h9.blk,by rw[h8];exact h9.fr,by rw[h8];exact h9.dr⟩,h9.bf,h9.bd,h9.kp⟩
  |true=>
   have hs2:dx (iH sp ⟨sn,po,sg,la,off,s,e,ps⟩)=(en:Int):=by rw[Jv.out];rfl
   have hd2:(W.setCell ⟨b,2,none⟩ (.int .i64 (en:Int))).heap[D]? =some (.deferred (some [])):=(KeepsOthers.setCell W ⟨b,2,none⟩ (.int .i64 (en:Int))).same D _ Ga rfl;have hfin:=(HI.out.t.aeL (en:Int)).aac (.deferred none) hd2 rfl (by omega);have HS2:=ah hs2;have HF:=ah hfin;clear hs2 hfin
   gi_wp2
   go_wp2;refine ⟨by simp,.inl ⟨_,_,rfl,run_takeDeferred hd2,?_⟩⟩;refine ⟨.tuple #[],results_none rfl _ _ _,?_⟩;unfold Aa;rw[if_neg (by rw[HNB.out];simp)];have h9:=HF.out;have h8:=Jv.out;refine ⟨rfl,E6,E7,⟨by rw[HS2.out];exact h9.blk,by rw[h8];exact h9.fr,by rw[h8];exact h9.dr⟩,h9.bf,h9.bd,h9.kp⟩
end
end Go.Proofs.YtbhiklnljiehiaaGreat
