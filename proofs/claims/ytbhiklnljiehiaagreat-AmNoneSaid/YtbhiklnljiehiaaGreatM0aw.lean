/- amrecv: take. -/
import Derived.Test.YtbhiklnljiehiaaGreatM0al
namespace Go.Proofs.YtbhiklnljiehiaaGreat
section
open Go.RowKit Go.Shelf
attribute [local go_sem] Oper.semAt_some
theorem iP {c p q:Prop} [Decidable c] (h:¬c) (hq:q):if c then p else q:=by rw[if_neg h];exact hq
def zl (w:World) (b:Nat) (sp:Sp) (vf vd:Value) (x:kE) (e:Ending) (w':World):Prop:=
 if ED sp x=true then e=C5 9∧Below w.heap.size w w'
 else e= .returned (.tuple #[])∧∃kG ku,nX w' b (iw sp x) kG ku∧(∀k,kG.ownBlock=some k→vf.ownBlock=some k∨w.heap.size≤k)∧(∀k,ku.ownBlock=some k→vd.ownBlock=some k∨w.heap.size≤k)∧Kept (RO b vf vd) w w'
set_option maxRecDepth 100000 in
set_option maxHeartbeats 40000000 in
theorem KL (b:Nat) (sp:Sp) (vf vd:Value) (x:kE) (A:Option Addr) (c:Nat) (vs:List Value) (w:World) (h:nX w b sp vf vd) (ho:wF sp) (hs:jg w w.heap.size A x.ps.length c vs x.ps) (hlen:x.ps.length≤64) (hpos:1≤x.ps.length) (hsum:x.off+ah x.ps≤32767)
 (hst:∀W,Kept (RO b vf vd) w W→jg W W.heap.size A x.ps.length c vs x.ps):
 Calls Tryz.prog 98 #[.pointer (some ⟨b,0,none⟩),.agg (bq x.sn x.po x.sg x.la x.off x.s x.e A x.ps.length c)] w (zl w b sp vf vd x):=by
 obtain ⟨sn,po,sg,la,off,s,e,ps⟩:=x;dsimp only at hs hlen hpos hsum hst ⊢;have bp:=(au.new w 161 #[.pointer (some ⟨b,0,none⟩)]).alloc (.cells (bq sn po sg la off s e A ps.length c) 148);have bx:=au.new (w.alloc (.cells #[.pointer (some ⟨b,0,none⟩)] 161)) 148 (bq sn po sg la off s e A ps.length c);have hB:=((Below.refl w.heap.size w).alloc (Nat.le_refl _) (.cells #[.pointer (some ⟨b,0,none⟩)] 161)).alloc (by simp) (.cells (bq sn po sg la off s e A ps.length c) 148);simp only[World.size_alloc] at bx;have HS0:=Lib.hid (hst w (Kept.refl _ w));have HB:=Lib.hid hB;have HST:=Lib.hid hst;have HO:=Lib.hid ho;have jN:=Lib.hid hlen;have akG:=Lib.hid hpos;have CK:=Lib.hid hsum;have HH:=Lib.hid h;have wu:∀p∈ps,p.length≤1099511627776:=fun p hp=>by have:=gJ hp;omega
 have Zw:=Lib.hid wu;obtain ⟨fin,hfin⟩:∃fin,(!sg||la)=fin:=⟨_,rfl⟩
 obtain ⟨en,hen⟩:∃en,off+ah ps=en:=⟨_,rfl⟩
 have hbad:ED sp ⟨sn,po,sg,la,off,s,e,ps⟩=match sp.size with
  |some k=> !(decide (en≤k)&&(!fin||decide (en=k)))
  |none=>fin&&(decide (en<sp.fl.length)&&(sp.fl.drop en).any (fun f=>f.1)):=by
  unfold ED mW EC;dsimp only;rw[hen,hfin];cases sp.size<;>rfl
 have HBAD:=Lib.hid hbad;have iW:=Lib.hid hfin;have Hf:=Lib.hid hen;have hbl:=h.blk.lt;clear hB hst ho hlen hpos h hs hfin wu hen hbad;unfold bq at*;refine (callsIn_wide (n:=5)).1 ?_;refine callsIn_of_wp_marks Tryz.func98 rfl trivial ?_ rfl;simp only[Tryz.ntmps98,List.size_toArray,List.length_cons,List.length_nil,Nat.reduceAdd,Nat.reduceSub,Array.replicate_succ,Array.replicate_zero,List.push_toArray,List.append_toArray,List.nil_append,List.cons_append];refine wpIn_wide.2 ?_;obtain ⟨x0,x1,x2,x3,x4,x5,x6,x7⟩:=bx.eight;have y0:=bp.cell 0;simp at y0;go_upto_region 1 with (fail)
 generalize (w.alloc (.cells #[.pointer (some ⟨b,0,none⟩)] 161)).alloc (.cells #[.int .i64 sn,.bool po,.bool sg,.bool la,.int .i64 off,.bool s,.bool e,.slice A ps.length c] 148)=w0 at*;go_cut [4] from 11 to 17 (fun s4 wx=>s4= .bool fin∧wx=w0)
 case first=>
  have hfin:=iW.out;cases sg with
  |true=>
   obtain rfl:la=fin:=by simpa using hfin
   clear hfin;go_wp2_with fail;go_meet;exact ⟨rfl,rfl⟩
  |false=>
   obtain rfl:true=fin:=by simpa using hfin
   clear hfin;go_wp2_with fail;go_meet;exact ⟨rfl,rfl⟩
 case rest=>
 obtain ⟨rfl,rfl⟩:=hcut;have Zx:w.heap.size+1<wc.heap.size:=bx.lt;have hS0:=(HS0.out.below HB.out).more HB.out.size;have hsz:=pz s e A ps.length c vs ps wc.drew hS0.drew' (by have:=jN.out;omega) Zw.out;have HZ:=Lib.hid hsz;have AU:=Lib.hid hS0;clear hsz hS0 Zw;have hen:=Hf.out;have hwrap:IntKind.i64.wrap ((off:Int)+ah ps)=(en:Int):=by rw[IntWalk.i64_in _ (by omega)];omega
 generalize hSS:ah ps=S at*;have Oh:=Lib.hid hSS;clear hSS;have CW:w.heap.size+1<wc.drew.heap.size:=Zx;go_upto_region 2 with (fail)
 go_cut [5] from 18 to 23 (fun s5 wx=>s5= .int .i64 (en:Nat)∧Below wc.heap.size wc wx)
 case first=>
  go_region_held3 (fun w'=>w'.cell? ⟨w.heap.size+1,4,none⟩=some (.int .i64 off)∧w'.cell? ⟨w.heap.size+1,5,none⟩=some (.bool s)∧w'.cell? ⟨w.heap.size+1,6,none⟩=some (.bool e)∧w'.cell? ⟨w.heap.size+1,7,none⟩=some (.slice A ps.length c))
   (first|(refine ⟨(hb2.cell (p:=⟨w.heap.size+1,4,none⟩) CW).trans x4,(hb2.cell (p:=⟨w.heap.size+1,5,none⟩) CW).trans x5,(hb2.cell (p:=⟨w.heap.size+1,6,none⟩) CW).trans x6,(hb2.cell (p:=⟨w.heap.size+1,7,none⟩) CW).trans x7⟩)|go_keep)
   ((go_at_call 88;refine HZ.out.mono ?_;rintro e2 w2 ⟨rfl,hb2⟩))
  go_wp2_with fail;go_meet;exact ⟨rfl,((Below.refl _ wc).drew).trans hb2⟩
 case rest=>
 obtain ⟨rfl,hb2⟩:=hcut;generalize wc=w3 at*
 replace bp:=bp.below hb2 bp.lt
 replace bx:=bx.below hb2 bx.lt
 have hB3:=HB.out.trans (hb2.mono HB.out.size);have hh3:nX w3 b sp vf vd:=HH.out.stay (hB3.block b hbl) (fun k hk=>hB3.block k (HH.out.fr.lt k hk).2) (fun k hk=>hB3.block k (HH.out.dr.lt k hk).2);clear x0 x1 x2 x3 x4 x5 x6 x7 y0 hb2 HB Zx CW HZ AU hwrap hen;have HBP:=Lib.hid bp;have uj:=Lib.hid bx;have HB3:=Lib.hid hB3;have y0:=bp.cell 0;simp at y0;obtain ⟨z0,z1,z2⟩:w3.cell? ⟨b,0,none⟩=some vf∧w3.cell? ⟨b,1,none⟩=some vd∧w3.cell? ⟨b,2,none⟩=some (.int .i64 (cB sp)):=⟨hh3.blk.cell 0,hh3.blk.cell 1,hh3.blk.cell 2⟩;have hle:=HO.out.le;have Zy:=Lib.hid hh3;clear bp bx hB3 hh3;have Zz:∀wx,ED sp ⟨sn,po,sg,la,off,s,e,ps⟩=true→Below w3.heap.size w3 wx→zl w b sp vf vd ⟨sn,po,sg,la,off,s,e,ps⟩ (C5 9) wx:=fun wx h1 h2=>by
  unfold zl;rw[if_pos h1];exact ⟨rfl,HB3.out.trans (h2.mono HB3.out.size)⟩
 have QW:=Lib.hid Zz;clear Zz;go_upto_if 28 with (fail)
 go_cut [] from 24 to 66 (fun wx=>ED sp ⟨sn,po,sg,la,off,s,e,ps⟩=false∧Below w3.heap.size w3 wx)
 case first=>
  cases hsz:sp.size with
  |some k=>
   have hbad:=HBAD.out;rw[hsz] at hbad;dsimp only at hbad;have hsi:cB sp=(k:Int):=by unfold cB;rw[hsz]
   rw[hsi] at z2;rw[show decide (cB sp≥0)=true by rw[hsi];simp];have hk:=HO.out.sz k hsz;clear hsz hsi;by_cases h1:en≤k
   ·rw[decide_eq_true h1,Bool.true_and] at hbad;cases fin with
    |false=>
     have HB2:=Lib.hid hbad;clear hbad;go_wp2_with (go_at_call 96;refine (nY _ _).mono ?_;rintro e1 w4 ⟨rfl,rfl⟩);go_meet;exact ⟨HB2.out,Below.refl _ _⟩
    |true=>
     by_cases h2:en=k
     ·have HB2:=Lib.hid hbad;have HH2:=Lib.hid h2;have hne:((en:Int)==(k:Int))=true:=by simp;omega
      clear hbad h2;go_wp2_with (go_at_call 96;refine (nY _ _).mono ?_;rintro e1 w4 ⟨rfl,rfl⟩);go_meet;exact ⟨by rw[HB2.out,HH2.out];simp,Below.refl _ _⟩
     ·have HB2:=Lib.hid hbad;have HH2:=Lib.hid h2;have hne:((en:Int)==(k:Int))=false:=by simp;omega
      clear hbad;go_wp2_with (go_at_call 96;refine (lW _ _).mono ?_;rintro e1 w4 ⟨rfl,rfl⟩);exact QW.out _ (by rw[HB2.out];simp[HH2.out]) (Below.refl _ _)
   ·have HB2:=Lib.hid hbad;have HH1:=Lib.hid h1;clear hbad;go_wp2_with (go_at_call 96;refine (lW _ _).mono ?_;rintro e1 w4 ⟨rfl,rfl⟩);exact QW.out _ (by rw[HB2.out,decide_eq_false HH1.out];rfl) (Below.refl _ _)
  |none=>
   have hbad:=HBAD.out;rw[hsz] at hbad;dsimp only at hbad;have hsi:cB sp= -1:=by unfold cB;rw[hsz]
   rw[hsi] at z2;rw[show decide (cB sp≥0)=false by rw[hsi];rfl];clear hsz hsi;obtain ⟨Af,cf,rfl,hfs⟩:=lH.cK Zy.out.fr;have hcap:=hfs.cap;have hmx:=hfs.mx;cases fin with
   |false=>
    have HB2:=Lib.hid hbad;clear hbad hfs;go_wp2_with fail;go_meet;exact ⟨HB2.out,Below.refl _ _⟩
   |true=>
    by_cases h1:en<sp.fl.length
    ·rw[decide_eq_true h1,Bool.true_and,Bool.true_and] at hbad;obtain ⟨gf,of,rfl,hgf,_⟩:=hfs.at_ (by omega);have hq:=Mt (hfs.drop h1) (by omega);generalize (sp.fl.drop en).any (fun f=>f.1)=got at*;have HB2:=Lib.hid hbad;have HQ:=Lib.hid hq;have d1:decide (en<sp.fl.length)=true:=decide_eq_true h1;have h1':(en:Int)<(sp.fl.length:Int):=by omega
     clear hbad hfs hq;cases got with
     |false=>
      go_wp2_with (first
       |(go_at_call 153;refine HQ.out.mono ?_;rintro e1 w4 ⟨rfl,hb4⟩)
       |(go_at_call 96;refine (nY _ _).mono ?_;rintro e1 w4 ⟨rfl,rfl⟩))
      go_meet;exact ⟨HB2.out,hb4⟩
     |true=>
      go_wp2_with (first
       |(go_at_call 153;refine HQ.out.mono ?_;rintro e1 w4 ⟨rfl,hb4⟩)
       |(go_at_call 96;refine (lW _ _).mono ?_;rintro e1 w5 ⟨rfl,rfl⟩))
      exact QW.out _ HB2.out hb4
    ·rw[decide_eq_false h1,Bool.false_and,Bool.and_false] at hbad;have HB2:=Lib.hid hbad;clear hbad hfs;go_wp2_with fail;go_meet;exact ⟨HB2.out,Below.refl _ _⟩
 case rest=>
 obtain ⟨hnb,hb4⟩:=hcut;generalize wc=w4 at*;have hT:oP w b vf vd #[.int .i64 sn,.bool po,.bool sg,.bool la,.int .i64 off,.bool s,.bool e,.slice A ps.length c] (cB sp) vf vd sp.fl sp.da w3:=
  ⟨Zy.out.blk,Zy.out.fr,Zy.out.dr,fun k hk=> .inl hk,fun k hk=> .inl hk,(Kept.of_below HB3.out).fA fun k o ho hm=>by have:=lt_of_heap ho;omega,HBP.out,uj.out,hbl⟩
 have FL:=hT.below hb4;have FM:=Lib.hid FL;have HNB:=Lib.hid hnb;have hll:=HO.out.ll;clear hT FL hb4 hnb QW HBAD Zy HBP uj HB3 y0 z0 z1 z2 HH HS0;have y0:=FM.out.bp.cell 0;simp at y0;obtain ⟨z0,z1,z2⟩:w4.cell? ⟨b,0,none⟩=some vf∧w4.cell? ⟨b,1,none⟩=some vd∧w4.cell? ⟨b,2,none⟩=some (.int .i64 (cB sp)):=⟨FM.out.blk.cell 0,FM.out.blk.cell 1,FM.out.blk.cell 2⟩;obtain ⟨Af,cf,rfl,hfs⟩:=lH.cK FM.out.fr;have hcap:=hfs.cap;have hmx:=hfs.mx;have akI:en≤32767:=by have:=Hf.out;omega
 have hwn:IntKind.i64.wrap ((en:Int)-(sp.fl.length:Int))=(en:Int)-(sp.fl.length:Int):=IntWalk.i64_in _ (by omega);have Wp:=Lib.hid hll;clear hfs hll;go_upto_if 75 with (fail)
 obtain ⟨K,hK⟩:∃K:Int,K=(en:Int)-(sp.fl.length:Int):=⟨_,rfl⟩
 rw[←hK];go_cut [] from 75 to 93 (fun wx=>∃kG ku,oP w b (.slice Af sp.fl.length cf) vd #[.int .i64 sn,.bool po,.bool sg,.bool la,.int .i64 off,.bool s,.bool e,.slice A ps.length c] (cB sp) kG ku (jP en sp.fl) (nW en sp.da) wx)
 case first=>
  by_cases hn:sp.fl.length<en
  ·obtain ⟨kn,rfl⟩:∃kn:Nat,K=(kn:Int):=⟨en-sp.fl.length,by omega⟩
   have hkn:en-sp.fl.length=kn:=by omega
   have hkp:0<kn:=by omega
   have hkb:kn≤32767:=by omega
   have he1:uh sp.fl++(Builtin.zeroCells (Value.agg #[.bool false,.bool false,.bool false]).cells kn).toList=uh (jP en sp.fl):=by
    show uh sp.fl++(Builtin.zeroCells #[.bool false,.bool false,.bool false] kn).toList=uh (jP en sp.fl)
    rw[EM,←PL];unfold jP;rw[hkn]
   have he2:bV sp.da++(Builtin.zeroCells (Value.int .u8 0).cells kn).toList=bV (nW en sp.da):=by
    show bV sp.da++(Builtin.zeroCells #[.int .u8 0] kn).toList=bV (nW en sp.da)
    rw[EN];unfold nW;rw[Wp.out,hkn];simp[bV]
   have hl1:(jP en sp.fl).length=sp.fl.length+kn:=by unfold jP;rw[List.length_append,List.length_replicate,hkn]
   have hl2:(nW en sp.da).length=sp.da.length+kn:=by unfold nW;rw[List.length_append,List.length_replicate,Wp.out,hkn]
   have hz1:∀u∈(Builtin.zeroCells #[.bool false,.bool false,.bool false] kn).toList,u.oneCell'=true:=by
    rw[EM];intro u hu;simp only[uh,List.mem_flatMap,List.mem_cons,List.not_mem_nil,or_false] at hu;obtain ⟨r,_,rfl|rfl|rfl⟩:=hu<;>rfl
   have hz2:∀u∈(Builtin.zeroCells #[.int .u8 0] kn).toList,u.oneCell'=true:=by
    rw[EN];intro u hu;simp only[bV,List.mem_map] at hu;obtain ⟨r,_,rfl⟩:=hu;rfl
   obtain ⟨i1,hi1,adW,UZ,adX⟩:=ME;obtain ⟨i2,hi2,adY,adZ,ad1⟩:=info_parts qh;have TW:=Lib.hid he1;have HE2:=Lib.hid he2;have HL1:=Lib.hid hl1;have HL2:=Lib.hid hl2;have HKN:=Lib.hid hkn;have fz0:=FM.out.blk.frozen 0;have hown1:=FM.out.drew.fr;clear he1 he2 hl1 hl2 hK hkn;go_upto_region 9 with (fail)
   go_cut [] from 75 to 84 (fun wx=>∃v2,oP w b (.slice Af sp.fl.length cf) vd #[.int .i64 sn,.bool po,.bool sg,.bool la,.int .i64 off,.bool s,.bool e,.slice A ps.length c] (cB sp) v2 vd (jP en sp.fl) sp.da wx)
   case first=>
    refine wp_region_noPanic ?_;refine aY (fun w'=>w'.cell? ⟨w.heap.size,0,none⟩=some (.pointer (some ⟨b,0,none⟩))∧w'.cell? ⟨b,0,none⟩=some (.slice Af sp.fl.length cf)) [9] (by kernel_rfl) ?_;have hHeld:=(show (fun w':World=>w'.cell? ⟨w.heap.size,0,none⟩=some (.pointer (some ⟨b,0,none⟩))∧w'.cell? ⟨b,0,none⟩=some (.slice Af sp.fl.length cf)) _ from ⟨y0,z0⟩);refine iK [2,3,4,6,9] 1 ?_ rfl (Or.inl ⟨by rfl,?_⟩) hHeld ?_;rotate_left
    ·intro w' hSw;obtain ⟨hS1,hS2⟩:=hSw;go_simp
     try with_reducible rfl
    try simp only[Act.put,aB,aC,aD,ax,ay,aA]
    refine aT 2 ?_ rfl (Or.inl ⟨by rfl,?_⟩) hHeld ?_;rotate_left
    ·intro w' hSw;go_simp
     try with_reducible rfl
    try simp only[Act.put,aB,aC,aD,ax,ay,aA]
    refine aT 3 ?_ rfl (Or.inl ⟨by rfl,?_⟩) hHeld ?_;rotate_left
    ·intro w' hSw;go_simp
     try with_reducible rfl
    try simp only[Act.put,aB,aC,aD,ax,ay,aA]
    refine iK [6,9] 4 ?_ rfl (Or.inl ⟨by rfl,?_⟩) hHeld ?_;rotate_left
    ·intro w' hSw;obtain ⟨hS1,hS2⟩:=hSw;go_simp
     try with_reducible rfl
    try simp only[Act.put,aB,aC,aD,ax,ay,aA]
    refine aT 5 ?_ rfl (Or.inl ⟨by rfl,?_⟩) hHeld ?_;rotate_left
    ·intro w' hSw;go_simp
     try with_reducible rfl
    try simp only[Act.put,aB,aC,aD,ax,ay,aA]
    refine iK [7,8,9] 0 ?_ rfl (Or.inl ⟨by rfl,?_⟩) hHeld ?_;rotate_left
    ·intro w' hSw;obtain ⟨hS1,hS2⟩:=hSw;go_simp
     try with_reducible rfl
    try simp only[Act.put,aB,aC,ax,ay,aA]
    refine aQ (i:=6) rfl (by kernel_rfl) (by rfl) (fun K hK=> ?_);refine oG _ _ _ 163 3 rfl 0 174 i1 (.agg #[.bool false,.bool false,.bool false]) 3 3 .i64 .i64 MF sS hi1 adW UZ adX rfl (by decide) (.slice Af sp.fl.length cf) sp.fl.length (uh sp.fl) (by rfl) hown1 kn (by rfl) hkp hz1 (by unfold maxLen;omega) (by omega) (Nat.zero_le _) ?_;rintro v2 w5 hr5 hg5 hv5;rw[TW.out,←HL1.out] at hr5;obtain ⟨A2,c2,rfl,_⟩:=lH.cK hr5;have hb5:=FM.out.drew.blk.grown hg5 (jv hown1 FM.out.drew.blk (by decide));have hp5:=FM.out.drew.bp.grown hg5 (jv hown1 FM.out.drew.bp (by decide));have q0:=hp5.cell 0;have q1:=hb5.cell 0;have q2:=hb5.frozen 0;simp at q0 q1;have DZ:=Lib.hid (FM.out.drew.flags hr5 hg5 hv5);clear hr5 hg5 hv5 hb5 hp5;refine hK _ _ ⟨q0,q1⟩ ?_;clear hK K hHeld;have hHeld:=(show (fun w':World=>w'.cell? ⟨w.heap.size,0,none⟩=some (.pointer (some ⟨b,0,none⟩))∧w'.cell? ⟨b,0,none⟩=some (.slice Af sp.fl.length cf)) _ from ⟨q0,q1⟩)
    try simp only[Act.put,aB,aC,aD,ax,ay,aA]
    refine aT 7 ?_ rfl (Or.inl ⟨by rfl,?_⟩) hHeld ?_;rotate_left
    ·intro w' hSw;go_simp
     try with_reducible rfl
    try simp only[Act.put,aB,aC,aD,ax,ay,aA]
    refine aT 8 ?_ rfl (Or.inl ⟨by rfl,?_⟩) hHeld ?_;rotate_left
    ·intro w' hSw;go_simp
     try with_reducible rfl
    try simp only[Act.put,aB,aC,aD,ax,ay,aA]
    refine bH (i:=9) rfl (by kernel_rfl) (by kernel_rfl) (by rfl) (fun K hK=> ?_);go_simp;refine hK _ _ ?_;clear hK K
    try simp only[Act.put,aB,aC,aD,ax,ay,aA]
    refine aX (by kernel_rfl) ?_ _;simp only[NoPanic];go_wp2_with fail;go_meet;exact ⟨_,DZ.out⟩
   case rest=>
   obtain ⟨v2,zK⟩:=hcut;have DZ:=Lib.hid zK;have y0:=zK.bp.cell 0;simp at y0;have z1:wc.cell? ⟨b,1,none⟩=some vd:=zK.blk.cell 1;have fz1:=zK.blk.frozen 1;have hown2:=zK.drew.dr;have hdl:sp.da.length≤32767:=by have:=Wp.out;omega
   clear zK hown1 fz0 z0;go_upto_region 10 with (fail)
   go_cut [] from 75 to 93 (fun wx=>∃v2 v3,oP w b (.slice Af sp.fl.length cf) vd #[.int .i64 sn,.bool po,.bool sg,.bool la,.int .i64 off,.bool s,.bool e,.slice A ps.length c] (cB sp) v2 v3 (jP en sp.fl) (nW en sp.da) wx)
   case first=>
    refine wp_region_noPanic ?_;refine aY (fun w'=>w'.cell? ⟨w.heap.size,0,none⟩=some (.pointer (some ⟨b,0,none⟩))∧w'.cell? ⟨b,1,none⟩=some (vd)) [9] (by kernel_rfl) ?_;have hHeld:=(show (fun w':World=>w'.cell? ⟨w.heap.size,0,none⟩=some (.pointer (some ⟨b,0,none⟩))∧w'.cell? ⟨b,1,none⟩=some (vd)) _ from ⟨y0,z1⟩);refine iK [2,3,4,6,9] 1 ?_ rfl (Or.inl ⟨by rfl,?_⟩) hHeld ?_;rotate_left
    ·intro w' hSw;obtain ⟨hS1,hS2⟩:=hSw;go_simp
     try with_reducible rfl
    try simp only[Act.put,aB,aC,aD,ax,ay,aA]
    refine aT 2 ?_ rfl (Or.inl ⟨by rfl,?_⟩) hHeld ?_;rotate_left
    ·intro w' hSw;go_simp
     try with_reducible rfl
    try simp only[Act.put,aB,aC,aD,ax,ay,aA]
    refine aT 3 ?_ rfl (Or.inl ⟨by rfl,?_⟩) hHeld ?_;rotate_left
    ·intro w' hSw;go_simp
     try with_reducible rfl
    try simp only[Act.put,aB,aC,aD,ax,ay,aA]
    refine iK [6,9] 4 ?_ rfl (Or.inl ⟨by rfl,?_⟩) hHeld ?_;rotate_left
    ·intro w' hSw;obtain ⟨hS1,hS2⟩:=hSw;go_simp
     try with_reducible rfl
    try simp only[Act.put,aB,aC,aD,ax,ay,aA]
    refine aT 5 ?_ rfl (Or.inl ⟨by rfl,?_⟩) hHeld ?_;rotate_left
    ·intro w' hSw;go_simp
     try with_reducible rfl
    try simp only[Act.put,aB,aC,aD,ax,ay,aA]
    refine iK [7,8,9] 0 ?_ rfl (Or.inl ⟨by rfl,?_⟩) hHeld ?_;rotate_left
    ·intro w' hSw;obtain ⟨hS1,hS2⟩:=hSw;go_simp
     try with_reducible rfl
    try simp only[Act.put,aB,aC,ax,ay,aA]
    refine aQ (i:=6) rfl (by kernel_rfl) (by rfl) (fun K hK=> ?_);refine oG _ _ _ 31 3 rfl 0 5 i2 (.int .u8 0) 1 1 .i64 .i64 und29 sS hi2 adY adZ ad1 rfl (by decide) vd sp.da.length (bV sp.da) (by rfl) hown2 kn (by rfl) hkp hz2 (by unfold maxLen;omega) (by omega) (Nat.zero_le _) ?_;rintro v3 w6 hr6 Pt hv6;rw[HE2.out,←HL2.out] at hr6;obtain ⟨A3,c3,rfl,_,_⟩:=aZ hr6;have hb6:=DZ.out.drew.blk.grown Pt (jv hown2 DZ.out.drew.blk (by decide));have hp6:=DZ.out.drew.bp.grown Pt (jv hown2 DZ.out.drew.bp (by decide));have q0:=hp6.cell 0;have q1:=hb6.cell 1;have q2:=hb6.frozen 1;simp at q0 q1;have HT6:=Lib.hid (DZ.out.drew.data hr6 Pt hv6);clear hr6 Pt hv6 hb6 hp6;refine hK _ _ ⟨q0,q1⟩ ?_;clear hK K hHeld;have hHeld:=(show (fun w':World=>w'.cell? ⟨w.heap.size,0,none⟩=some (.pointer (some ⟨b,0,none⟩))∧w'.cell? ⟨b,1,none⟩=some (vd)) _ from ⟨q0,q1⟩)
    try simp only[Act.put,aB,aC,aD,ax,ay,aA]
    refine aT 7 ?_ rfl (Or.inl ⟨by rfl,?_⟩) hHeld ?_;rotate_left
    ·intro w' hSw;go_simp
     try with_reducible rfl
    try simp only[Act.put,aB,aC,aD,ax,ay,aA]
    refine aT 8 ?_ rfl (Or.inl ⟨by rfl,?_⟩) hHeld ?_;rotate_left
    ·intro w' hSw;go_simp
     try with_reducible rfl
    try simp only[Act.put,aB,aC,aD,ax,ay,aA]
    refine bH (i:=9) rfl (by kernel_rfl) (by kernel_rfl) (by rfl) (fun K hK=> ?_);go_simp;refine hK _ _ ?_;clear hK K
    try simp only[Act.put,aB,aC,aD,ax,ay,aA]
    refine aX (by kernel_rfl) ?_ _;simp only[NoPanic];go_wp2_with fail;go_meet;exact ⟨_,_,HT6.out⟩
   case rest=>
   obtain ⟨v2,v3,hT6⟩:=hcut;go_wp2_with fail;go_meet;exact ⟨_,_,hT6⟩
  ·have he1:jP en sp.fl=sp.fl:=by unfold jP;rw[show en-sp.fl.length=0 by omega];simp
   have he2:nW en sp.da=sp.da:=by have:=Wp.out;unfold nW;rw[show en-sp.da.length=0 by omega];simp
   have TW:=Lib.hid he1;have HE2:=Lib.hid he2;have hn2:(en:Int)-(sp.fl.length:Int)≤0:=by omega
   clear he1 he2;go_wp2_with fail;go_meet;rw[TW.out,HE2.out];exact ⟨_,_,FM.out⟩
 case rest=>
 obtain ⟨DW,DX,hT⟩:=hcut;have ZA:(jP en sp.fl).length=max sp.fl.length en:=by unfold jP;rw[List.length_append,List.length_replicate];omega
 have Qk:(nW en sp.da).length=max sp.fl.length en:=by unfold nW;rw[List.length_append,List.length_replicate,Wp.out];omega
 obtain ⟨x0,hx0⟩:∃x0:List Fl × List UInt8,x0=(jP en sp.fl,nW en sp.da):=⟨_,rfl⟩
 have hT:oP w b (.slice Af sp.fl.length cf) vd #[.int .i64 sn,.bool po,.bool sg,.bool la,.int .i64 off,.bool s,.bool e,.slice A ps.length c] (cB sp) DW DX x0.1 x0.2 wc:=by rw[hx0];exact hT
 obtain ⟨L,hL⟩:∃L,L=max sp.fl.length en:=⟨_,rfl⟩
 have hl1:x0.1.length=L:=by rw[hx0];exact ZA.trans hL.symm
 have hl2:x0.2.length=L:=by rw[hx0];exact Qk.trans hL.symm
 have hLe:en≤L:=by omega
 have hLb:L≤32767:=by omega
 have HX0:=Lib.hid hx0;have HL1:=Lib.hid hl1;have HL2:=Lib.hid hl2;have hdi:=au.new wc 3 #[.int .i64 0];have zK:=hT.alloc (.cells #[.int .i64 0] 3);have akK:w.heap.size≤wc.heap.size:=hT.kp.size;have agH:=hT.bx.lt;clear ZA Qk hx0 hL hl1 hl2 FM y0 z0 z1 z2 hcap hmx hwn Wp hT hK hle;go_upto_region 12 with (fail)
 generalize wc.alloc (.cells #[.int .i64 0] 3)=w5 at*;generalize wc.heap.size=bi at*;have hS5:=HST.out w5 zK.kp;have hbd:=yj sn po sg la off s e A ps.length c vs ps w5 hS5 (by have:=jN.out;omega) (by omega) (by have:=Oh.out;omega);unfold bq at hbd;have K9:=Lib.hid hbd;have DZ:=Lib.hid zK;have HDI:=Lib.hid hdi;obtain ⟨q0,q1,q2,q3,q4,q5,q6,q7⟩:=zK.bx.eight;clear hbd hS5 zK hdi;go_wp2_with fail;refine K9.out.mono ?_;rintro e5 w6 ⟨g,v,rfl,Pt,bg,hv6,hb6⟩;have hT6:=DZ.out.below hb6;have ad6:=HDI.out.below hb6 HDI.out.lt;clear K9 q0 q1 q2 q3 q4 q5 q6 q7;go_wp2_with fail;have jQ:Tryz.prog.follows .mixedOrders=true:=by kernel_rfl
 have hI0:TkI w b (.slice Af sp.fl.length cf) vd #[.int .i64 sn,.bool po,.bool sg,.bool la,.int .i64 off,.bool s,.bool e,.slice A ps.length c] (cB sp) DW DX s e off ps x0 bi w6 0 w6:=⟨hT6,ad6,Kept.refl _ _⟩;have I7:=hb6.size;have agI:=HDI.out.lt;have hww:w.heap.size≤w6.heap.size:=by omega
 have hbb:b<w.heap.size:=hbl;have hgb:g≠b:=by omega
 have hgi:g≠bi:=by omega
 have ZB:∀j,DW.ownBlock=some j→j<w5.heap.size:=fun j hj=>(DZ.out.fr.lt j hj).2
 have ZC:∀j,DX.ownBlock=some j→j<w5.heap.size:=fun j hj=>(DZ.out.dr.lt j hj).2
 have hvl:=fun j hj=>hv6.lt j hj
 apply wpIn_wide (n:=5).1;apply kZ (gf:=197) (lb:= #[.pointer (some ⟨g,0,none⟩)]) rfl (by omega) rfl trivial (enters_of Tryz.func197 (by kernel_rfl) rfl)
  (vO _ (by omega) g w5.heap.size v off ps (by omega) (by have:=Oh.out;omega) (by have:=jN.out;omega) (PY b DW DX bi w6.heap.size) w6 bg hv6 (by rintro (h|h|h|h|h)<;>first|omega|(have:=ZB g h;omega)|(have:=ZC g h;omega)|(have:=bg.lt;omega)) (fun j _ hj=>by have h9:=hvl j hj;rintro (h|h|h|h|h)<;>first|omega|(have:=ZB j h;omega)|(have:=ZC j h;omega)))
  Kept.trans (fun W l o o' hl ho hc _=>(Kept.refl _ W).grown (grownBy_putObj' W l o') (fun j e _ _=>by cases e;exact .inr (.inr (.inr (.inr hl))))) (Below.refl _ _) (fun _=>rfl)
  (TkI w b (.slice Af sp.fl.length cf) vd #[.int .i64 sn,.bool po,.bool sg,.bool la,.int .i64 off,.bool s,.bool e,.slice A ps.length c] (cB sp) DW DX s e off ps x0 bi w6) (PZ _ _ _ _ _ _ _ _ _ _ _ _ _ _ _ hww) hI0
 case hassign=>
  intro l k W K hK;simp only[wR]
  gi_wp2
  exact hK
 case hbody=>
  intro l k W hk hI;have hpk:ps[k]? =some (ps[k]?.getD []):=by rw[List.getElem?_eq_getElem hk];rfl
  have hsn:=gT ps k hk;have hsl:=Nat.le_trans (dw ps (k+1)) (Nat.le_of_eq Oh.out);have hJ0:EL w b (.slice Af sp.fl.length cf) vd #[.int .i64 sn,.bool po,.bool sg,.bool la,.int .i64 off,.bool s,.bool e,.slice A ps.length c] (cB sp) DW DX (zH s e off ps x0 k 0).1 (zH s e off ps x0 k 0).2 bi w6 W k W:=
   ⟨by rw[Mx];exact hI.t,hI.di,hI.kp,Kept.refl _ _,⟨Nat.le_refl _,fun _ _ _ h _=>h⟩⟩
  obtain ⟨ka,hka⟩:∃ka,off+ah (ps.take k)=ka:=⟨_,rfl⟩
  have hkb:off+ah (ps.take (k+1))=ka+(ps[k]?.getD []).length:=by omega
  obtain ⟨N,hN⟩:∃N,N=(ps[k]?.getD []).length:=⟨_,rfl⟩
  rw[←hN] at hkb;obtain ⟨E,hE⟩:∃E,E=ka+N:=⟨_,rfl⟩
  rw[show (off:Int)+((ah (ps.take k):Nat):Int)=(ka:Int) by omega,show (off:Int)+((ah (ps.take (k+1)):Nat):Int)=(E:Int) by omega];have hkN:ka+N≤en:=by have:=Hf.out;omega
  have XI:=Lib.hid hka;have HN:=Lib.hid hN;have HE:=Lib.hid hE;have PW:=Lib.hid hkb;have XH:=Lib.hid hJ0;have HPK:=Lib.hid hpk;have hEn:E≤en:=by omega
  clear hpk hsn hsl hJ0 hka hkb hN hE hkN
  gi_wp2
  gi_loopw [10] (fun s10 wr=>∃j a:Nat,j≤N∧a=ka+j∧s10= .int .i64 (a:Int)∧EL w b (.slice Af sp.fl.length cf) vd #[.int .i64 sn,.bool po,.bool sg,.bool la,.int .i64 off,.bool s,.bool e,.slice A ps.length c] (cB sp) DW DX (zH s e off ps x0 k j).1 (zH s e off ps x0 k j).2 bi w6 W k wr) (fun s10 _=>E-(intOf s10).toNat)
  case atStart=>exact ⟨0,ka,Nat.zero_le _,rfl,rfl,XH.out⟩
  case round=>
   obtain ⟨j,a,hj,ha,rfl,hJ⟩:=hrel;have hwz:=hJ.kp.size;have HA:=Lib.hid ha;have haE:a≤E:=by have:=HE.out;omega
   obtain ⟨z,hz⟩:∃z,z=zH s e off ps x0 k j:=⟨_,rfl⟩
   rw[←hz] at hJ;by_cases hlt:j<N
   ·have hsu:=MC (s:=s) (e:=e) (off:=off) (ps:=ps) (x0:=x0) (k:=k) (j:=j) (by rw[←HN.out];exact hlt);rw[←hz,XI.out,←HN.out,←ha] at hsu;have hln:=PX (s:=s) (e:=e) (off:=off) (ps:=ps) (x0:=x0) (k:=k) j;rw[←hz,HL1.out,HL2.out] at hln;obtain ⟨fl,da⟩:=z;dsimp only at hJ hsu hln;obtain ⟨hfl,hdl⟩:=hln;have hfr:=hJ.t.fr;have hdr:=hJ.t.dr;have hL0:0<L:=by have:=HE.out;omega
    have hfr2:=hfr;have Vd:=hdr;rw[hfl] at hfr2;rw[hdl] at Vd;obtain ⟨gf,ZD,rfl,adH,adI,akM⟩:=tq hfr2 hL0;obtain ⟨gd,cd1,rfl,adJ,adK,akN⟩:=tq Vd hL0;clear hfr2 Vd;have hfs:lH wr (some ⟨gf,0,none⟩) L ZD fl:=by
     obtain ⟨A',c',e',hs'⟩:=lH.cK hfr;rw[hfl] at e' hs';cases e';exact hs'
    obtain ⟨ad,Ai,ci,rfl,hbk,hck,sW⟩:=(HST.out wr hJ.t.kp).get hk;rw[←HN.out] at hck sW;obtain ⟨ai,u,rfl,hab,hu,hcu⟩:=sW.get hlt;obtain ⟨x,hx⟩:∃x,(ps[k]?.getD [])[j]? =some x:=⟨_,List.getElem?_eq_getElem (by rw[←HN.out];exact hlt)⟩
    have hux:u=bv x:=by
     simp only[bV,List.getElem?_map,hx,Option.map_some,Option.some.injEq] at hu;exact hu.symm
    subst hux;simp only[bv] at hcu;rw[hx,Option.getD_some] at hsu;have hhas:Calls Tryz.prog 156 #[.slice (some ⟨gf,0,none⟩) L ZD,.int .i64 (a:Int),.int .i64 0] wr fun e w'=>e= .returned (.bool (fJ fl a).1)∧wr=w':=yD hfs a (by omega) 0 (by omega)
    have y0:=hJ.t.bp.cell 0;simp at y0;obtain ⟨z0,z1,z2⟩:wr.cell? ⟨b,0,none⟩=some (.slice (some ⟨gf,0,none⟩) L ZD)∧wr.cell? ⟨b,1,none⟩=some (.slice (some ⟨gd,0,none⟩) L cd1)∧wr.cell? ⟨b,2,none⟩=some (.int .i64 (cB sp)):=⟨hJ.t.blk.cell 0,hJ.t.blk.cell 1,hJ.t.blk.cell 2⟩;obtain ⟨q0,q1,q2,q3,q4,q5,q6,q7⟩:=hJ.t.bx.eight;have yi:=hJ.di.cell 0;simp at yi;have agJ:=sW.cap;have agK:=sW.mx;have hat:a<L:=by have:=HE.out;omega
    have Ag:=Lib.hid hhas;have I5:=Lib.hid hsu;have qp:=Lib.hid hfl;have yu:=Lib.hid hdl;have HJ:=Lib.hid hJ;have hlt2:(a:Int)<(E:Int):=by have:=HE.out;omega
    have hkn:(k:Int)<(ps.length:Int):=by omega
    have hwj:IntKind.i64.wrap ((a:Int)-(ka:Int))=(j:Int):=by rw[IntWalk.i64_in _ (by omega)];omega
    clear hz hfr hdr hfs hhas hsu hfl hdl hJ sW hx hu q0 q1 q2 q3 q4 z2 ha;cases KM:(fJ fl a).1 with
    |true=>
     rw[KM] at Ag;have hsu:=I5.out;rw[if_pos KM] at hsu;have ZE:(zH s e off ps x0 k (j+1)).1=fl:=by rw[hsu]
     have ZF:(zH s e off ps x0 k (j+1)).2=da:=by rw[hsu]
     have Qy:=HJ.out;rw[←ZE,←ZF] at Qy;have HJ1:=Lib.hid Qy;clear hsu KM ZE ZF Qy
     gi_wp2_with (refine ⟨trivial,?_⟩;gi_at_call 156;refine (CallsIn.inRound l ((callsIn_wide (n:=2)).2 Ag.out)).mono ?_;rintro e1 w1 ⟨rfl,rfl⟩)
     go_round
     case rel=>exact ⟨j+1,a+1,by omega,by have:=HA.out;omega,by go_num,HJ1.out⟩
     case measure=>simp[intOf];omega
    |false=>
     rw[KM] at Ag;have hsu:=I5.out;rw[if_neg (by rw[KM];simp)] at hsu;have HSV:=Lib.hid hsu;clear hsu KM
     gi_wp2_with (refine ⟨trivial,?_⟩;gi_at_call 156;refine (CallsIn.inRound l ((callsIn_wide (n:=2)).2 Ag.out)).mono ?_;rintro e1 w1 ⟨rfl,rfl⟩)
     have hSt:wr.drew=wr.drew:=rfl;refine aU 17 jQ (by kernel_rfl) ?hout1 (by kernel_rfl) ?_
     case hout1=>
      rintro ⟨a',w',hh⟩;exact hh
     simp only[List.take_succ_cons,List.take_zero,List.drop_succ_cons,List.drop_zero]
     repeat (with_reducible refine wpStill_step (fun K hK=> ?_);go_simp;(try refine iP (by decide) ?_);with_reducible refine hK _ ?_;clear hK K)
     with_reducible refine wpStill_nil ?_
     change wpList _ _ _ _ _ wr.drew;have QX:=Lib.hid (HJ.out.drew hwz);have hdz:=QX.out.t.dr;rw[yu.out] at hdz;have ad7:=hdz.frozenAt a;have hdc:wr.drew.cell? ⟨gd,a,none⟩=some (.int .u8 ((da[a]?.getD 0).toNat:Int)):=by
      have h9:=QX.out.t.dr;rw[yu.out] at h9;rw[h9.cellAt a (by omega),bV,List.getElem?_map,List.getElem?_eq_getElem (by rw[yu.out];exact hat)];rfl
     clear hdz;generalize wr.drew=wt at*;go_wp2;have Ve:=QX.out.TX yu.out (at_:=a) x;simp only[bv] at Ve;generalize wt.setCell ⟨gd,a,none⟩ (.int .u8 (x.toNat:Int))=wq at*;have lK:=Lib.hid Ve;obtain ⟨b1,hb1⟩:∃b1,b1=(decide (j=0)&&(decide (0<k)||s)):=⟨_,rfl⟩
     obtain ⟨b2,hb2⟩:∃b2,b2=(decide (j+1=N)&&(decide (k+1<ps.length)||e)):=⟨_,rfl⟩
     have hsv:=HSV.out;rw[←hb1,←hb2] at hsv;have DC:=Lib.hid (show (zH s e off ps x0 k (j+1)).1=fl.set a (true,b1,b2) by rw[hsv]);have DD:=Lib.hid (show (zH s e off ps x0 k (j+1)).2=da.set a x by rw[hsv]);have HB1:=Lib.hid hb1;have HB2:=Lib.hid hb2;clear HSV I5 hsv hb1 hb2 Ve HJ QX y0 z0 z1 q5 q6 q7 yi ad7 hdc Ag;have y0:=lK.out.t.bp.cell 0;simp at y0;have z0:wq.cell? ⟨b,0,none⟩=some (.slice (some ⟨gf,0,none⟩) L ZD):=lK.out.t.blk.cell 0;obtain ⟨q0,q1,q2,q3,q4,q5,q6,q7⟩:=lK.out.t.bx.eight;have yi:=lK.out.di.cell 0;simp at yi;have hwE:IntKind.i64.wrap ((E:Int)-1)=(E:Int)-1:=IntWalk.i64_in _ (by omega);have hwk:IntKind.i64.wrap ((k:Int)+1)=(k:Int)+1:=IntWalk.i64_in _ (by have:=jN.out;omega);have QY:∀X:World,X.ownsRow 0 174 3 (.slice (some ⟨gf,0,none⟩) L ZD) fl.length (uh fl)→fl.length=L→a<L→X.cell? ⟨gf,a*3,none⟩=some (.bool (fJ fl a).1)∧X.cell? ⟨gf,a*3+1,none⟩=some (.bool (fJ fl a).2.1)∧X.cell? ⟨gf,a*3+2,none⟩=some (.bool (fJ fl a).2.2):=fun X hX h1 h2=>by
      have hg:=List.getElem?_eq_getElem (l:=fl) (i:=a) (by omega);obtain ⟨e1,e2,e3⟩:=wU fl a _ hg;rw[Bo hg];rw[h1] at hX;exact ⟨(hX.cellAt _ (by omega)).trans e1,(hX.cellAt _ (by omega)).trans e2,(hX.cellAt _ (by omega)).trans e3⟩
     clear q0 q1 q2 q3 q4;by_cases hj0:j=0
     ·have d1:((a:Int)==(ka:Int))=true:=by have:=HA.out;simp;omega
      by_cases hk0:0<k
      ·have d3:decide ((k:Int)>0)=true:=by simp;exact hk0
       have d3b:decide (0<k)=true:=decide_eq_true hk0;obtain rfl:b1=true:=by rw[HB1.out];simp[hj0,hk0]
       have HJ1:=Lib.hid hj0;have vg:=Lib.hid hk0;clear hj0 hk0 HB1;by_cases zm:j+1=N
       ·have d2:((a:Int)==(E:Int)-1)=true:=by have:=HA.out;have:=HE.out;simp;omega
        by_cases nC:k+1<ps.length
        ·have d4:decide ((k:Int)+1<(ps.length:Int))=true:=by simp;omega
         have ZG:decide (k+1<ps.length)=true:=decide_eq_true nC;obtain rfl:b2=true:=by rw[HB2.out];simp[zm,nC]
         clear zm nC HB2;refine aU 37 jQ (by kernel_rfl) ?Vf (by kernel_rfl) ?_
         case Vf=>
          rintro ⟨a',w',hh⟩;exact hh
         simp only[List.take_succ_cons,List.take_zero,List.drop_succ_cons,List.drop_zero]
         repeat (with_reducible refine wpStill_step (fun K hK=> ?_);go_simp;(try refine iP (by decide) ?_);with_reducible refine hK _ ?_;clear hK K)
         with_reducible refine wpStill_nil ?_
         change wpList _ _ _ _ _ wq.drew;have iy:=Lib.hid (lK.out.drew (by have:=lK.out.kp.size;exact this));obtain ⟨g0,g1,g2⟩:=QY wq.drew iy.out.t.fr qp.out hat;have gz:=iy.out.t.fr;rw[qp.out] at gz
         replace gz:=gz.frozenAt
         generalize wq.drew=wv at*;go_wp2
         gi_wp2_with fail
         go_round
         case rel=>exact ⟨j+1,a+1,by omega,by have:=HA.out;omega,by go_num,by rw[DC.out,DD.out];exact iy.out.yG qp.out hat (true,_,_)⟩
         case measure=>simp[intOf];omega
        ·have d4:decide ((k:Int)+1<(ps.length:Int))=false:=by simp;omega
         have ZG:decide (k+1<ps.length)=false:=decide_eq_false nC;obtain rfl:b2=e:=by rw[HB2.out];simp[zm,nC]
         clear zm nC HB2;refine aU 37 jQ (by kernel_rfl) ?Vg (by kernel_rfl) ?_
         case Vg=>
          rintro ⟨a',w',hh⟩;exact hh
         simp only[List.take_succ_cons,List.take_zero,List.drop_succ_cons,List.drop_zero]
         repeat (with_reducible refine wpStill_step (fun K hK=> ?_);go_simp;(try refine iP (by decide) ?_);with_reducible refine hK _ ?_;clear hK K)
         with_reducible refine wpStill_nil ?_
         change wpList _ _ _ _ _ wq.drew;have iy:=Lib.hid (lK.out.drew (by have:=lK.out.kp.size;exact this));obtain ⟨g0,g1,g2⟩:=QY wq.drew iy.out.t.fr qp.out hat;have gz:=iy.out.t.fr;rw[qp.out] at gz
         replace gz:=gz.frozenAt
         generalize wq.drew=wv at*;go_wp2
         gi_wp2_with fail
         go_round
         case rel=>exact ⟨j+1,a+1,by omega,by have:=HA.out;omega,by go_num,by rw[DC.out,DD.out];exact iy.out.yG qp.out hat (true,_,_)⟩
         case measure=>simp[intOf];omega
       ·have d2:((a:Int)==(E:Int)-1)=false:=by have:=HA.out;have:=HE.out;simp;omega
        obtain rfl:b2=false:=by rw[HB2.out];simp[zm]
        clear zm HB2;refine aU 37 jQ (by kernel_rfl) ?Vh (by kernel_rfl) ?_
        case Vh=>
         rintro ⟨a',w',hh⟩;exact hh
        simp only[List.take_succ_cons,List.take_zero,List.drop_succ_cons,List.drop_zero]
        repeat (with_reducible refine wpStill_step (fun K hK=> ?_);go_simp;(try refine iP (by decide) ?_);with_reducible refine hK _ ?_;clear hK K)
        with_reducible refine wpStill_nil ?_
        change wpList _ _ _ _ _ wq.drew;have iy:=Lib.hid (lK.out.drew (by have:=lK.out.kp.size;exact this));obtain ⟨g0,g1,g2⟩:=QY wq.drew iy.out.t.fr qp.out hat;have gz:=iy.out.t.fr;rw[qp.out] at gz
        replace gz:=gz.frozenAt
        generalize wq.drew=wv at*;go_wp2
        gi_wp2_with fail
        go_round
        case rel=>exact ⟨j+1,a+1,by omega,by have:=HA.out;omega,by go_num,by rw[DC.out,DD.out];exact iy.out.yG qp.out hat (true,_,_)⟩
        case measure=>simp[intOf];omega
      ·have d3:decide ((k:Int)>0)=false:=by simp;omega
       have d3b:decide (0<k)=false:=decide_eq_false hk0;obtain rfl:b1=s:=by rw[HB1.out];simp[hj0,hk0]
       clear hj0 hk0 HB1;by_cases zm:j+1=N
       ·have d2:((a:Int)==(E:Int)-1)=true:=by have:=HA.out;have:=HE.out;simp;omega
        by_cases nC:k+1<ps.length
        ·have d4:decide ((k:Int)+1<(ps.length:Int))=true:=by simp;omega
         have ZG:decide (k+1<ps.length)=true:=decide_eq_true nC;obtain rfl:b2=true:=by rw[HB2.out];simp[zm,nC]
         clear zm nC HB2;refine aU 37 jQ (by kernel_rfl) ?Vi (by kernel_rfl) ?_
         case Vi=>
          rintro ⟨a',w',hh⟩;exact hh
         simp only[List.take_succ_cons,List.take_zero,List.drop_succ_cons,List.drop_zero]
         repeat (with_reducible refine wpStill_step (fun K hK=> ?_);go_simp;(try refine iP (by decide) ?_);with_reducible refine hK _ ?_;clear hK K)
         with_reducible refine wpStill_nil ?_
         change wpList _ _ _ _ _ wq.drew;have iy:=Lib.hid (lK.out.drew (by have:=lK.out.kp.size;exact this));obtain ⟨g0,g1,g2⟩:=QY wq.drew iy.out.t.fr qp.out hat;have gz:=iy.out.t.fr;rw[qp.out] at gz
         replace gz:=gz.frozenAt
         generalize wq.drew=wv at*;go_wp2
         gi_wp2_with fail
         go_round
         case rel=>exact ⟨j+1,a+1,by omega,by have:=HA.out;omega,by go_num,by rw[DC.out,DD.out];exact iy.out.yG qp.out hat (true,_,_)⟩
         case measure=>simp[intOf];omega
        ·have d4:decide ((k:Int)+1<(ps.length:Int))=false:=by simp;omega
         have ZG:decide (k+1<ps.length)=false:=decide_eq_false nC;obtain rfl:b2=e:=by rw[HB2.out];simp[zm,nC]
         clear zm nC HB2;refine aU 37 jQ (by kernel_rfl) ?Vj (by kernel_rfl) ?_
         case Vj=>
          rintro ⟨a',w',hh⟩;exact hh
         simp only[List.take_succ_cons,List.take_zero,List.drop_succ_cons,List.drop_zero]
         repeat (with_reducible refine wpStill_step (fun K hK=> ?_);go_simp;(try refine iP (by decide) ?_);with_reducible refine hK _ ?_;clear hK K)
         with_reducible refine wpStill_nil ?_
         change wpList _ _ _ _ _ wq.drew;have iy:=Lib.hid (lK.out.drew (by have:=lK.out.kp.size;exact this));obtain ⟨g0,g1,g2⟩:=QY wq.drew iy.out.t.fr qp.out hat;have gz:=iy.out.t.fr;rw[qp.out] at gz
         replace gz:=gz.frozenAt
         generalize wq.drew=wv at*;go_wp2
         gi_wp2_with fail
         go_round
         case rel=>exact ⟨j+1,a+1,by omega,by have:=HA.out;omega,by go_num,by rw[DC.out,DD.out];exact iy.out.yG qp.out hat (true,_,_)⟩
         case measure=>simp[intOf];omega
       ·have d2:((a:Int)==(E:Int)-1)=false:=by have:=HA.out;have:=HE.out;simp;omega
        obtain rfl:b2=false:=by rw[HB2.out];simp[zm]
        clear zm HB2;refine aU 37 jQ (by kernel_rfl) ?Vk (by kernel_rfl) ?_
        case Vk=>
         rintro ⟨a',w',hh⟩;exact hh
        simp only[List.take_succ_cons,List.take_zero,List.drop_succ_cons,List.drop_zero]
        repeat (with_reducible refine wpStill_step (fun K hK=> ?_);go_simp;(try refine iP (by decide) ?_);with_reducible refine hK _ ?_;clear hK K)
        with_reducible refine wpStill_nil ?_
        change wpList _ _ _ _ _ wq.drew;have iy:=Lib.hid (lK.out.drew (by have:=lK.out.kp.size;exact this));obtain ⟨g0,g1,g2⟩:=QY wq.drew iy.out.t.fr qp.out hat;have gz:=iy.out.t.fr;rw[qp.out] at gz
        replace gz:=gz.frozenAt
        generalize wq.drew=wv at*;go_wp2
        gi_wp2_with fail
        go_round
        case rel=>exact ⟨j+1,a+1,by omega,by have:=HA.out;omega,by go_num,by rw[DC.out,DD.out];exact iy.out.yG qp.out hat (true,_,_)⟩
        case measure=>simp[intOf];omega
     ·have d1:((a:Int)==(ka:Int))=false:=by have:=HA.out;simp;omega
      obtain rfl:b1=false:=by rw[HB1.out];simp[hj0]
      clear hj0 HB1;by_cases zm:j+1=N
      ·have d2:((a:Int)==(E:Int)-1)=true:=by have:=HA.out;have:=HE.out;simp;omega
       by_cases nC:k+1<ps.length
       ·have d4:decide ((k:Int)+1<(ps.length:Int))=true:=by simp;omega
        have ZG:decide (k+1<ps.length)=true:=decide_eq_true nC;obtain rfl:b2=true:=by rw[HB2.out];simp[zm,nC]
        clear zm nC HB2;refine aU 37 jQ (by kernel_rfl) ?Vl (by kernel_rfl) ?_
        case Vl=>
         rintro ⟨a',w',hh⟩;exact hh
        simp only[List.take_succ_cons,List.take_zero,List.drop_succ_cons,List.drop_zero]
        repeat (with_reducible refine wpStill_step (fun K hK=> ?_);go_simp;(try refine iP (by decide) ?_);with_reducible refine hK _ ?_;clear hK K)
        with_reducible refine wpStill_nil ?_
        change wpList _ _ _ _ _ wq.drew;have iy:=Lib.hid (lK.out.drew (by have:=lK.out.kp.size;exact this));obtain ⟨g0,g1,g2⟩:=QY wq.drew iy.out.t.fr qp.out hat;have gz:=iy.out.t.fr;rw[qp.out] at gz
        replace gz:=gz.frozenAt
        generalize wq.drew=wv at*;go_wp2
        gi_wp2_with fail
        go_round
        case rel=>exact ⟨j+1,a+1,by omega,by have:=HA.out;omega,by go_num,by rw[DC.out,DD.out];exact iy.out.yG qp.out hat (true,_,_)⟩
        case measure=>simp[intOf];omega
       ·have d4:decide ((k:Int)+1<(ps.length:Int))=false:=by simp;omega
        have ZG:decide (k+1<ps.length)=false:=decide_eq_false nC;obtain rfl:b2=e:=by rw[HB2.out];simp[zm,nC]
        clear zm nC HB2;refine aU 37 jQ (by kernel_rfl) ?Vm (by kernel_rfl) ?_
        case Vm=>
         rintro ⟨a',w',hh⟩;exact hh
        simp only[List.take_succ_cons,List.take_zero,List.drop_succ_cons,List.drop_zero]
        repeat (with_reducible refine wpStill_step (fun K hK=> ?_);go_simp;(try refine iP (by decide) ?_);with_reducible refine hK _ ?_;clear hK K)
        with_reducible refine wpStill_nil ?_
        change wpList _ _ _ _ _ wq.drew;have iy:=Lib.hid (lK.out.drew (by have:=lK.out.kp.size;exact this));obtain ⟨g0,g1,g2⟩:=QY wq.drew iy.out.t.fr qp.out hat;have gz:=iy.out.t.fr;rw[qp.out] at gz
        replace gz:=gz.frozenAt
        generalize wq.drew=wv at*;go_wp2
        gi_wp2_with fail
        go_round
        case rel=>exact ⟨j+1,a+1,by omega,by have:=HA.out;omega,by go_num,by rw[DC.out,DD.out];exact iy.out.yG qp.out hat (true,_,_)⟩
        case measure=>simp[intOf];omega
      ·have d2:((a:Int)==(E:Int)-1)=false:=by have:=HA.out;have:=HE.out;simp;omega
       obtain rfl:b2=false:=by rw[HB2.out];simp[zm]
       clear zm HB2;refine aU 37 jQ (by kernel_rfl) ?Vn (by kernel_rfl) ?_
       case Vn=>
        rintro ⟨a',w',hh⟩;exact hh
       simp only[List.take_succ_cons,List.take_zero,List.drop_succ_cons,List.drop_zero]
       repeat (with_reducible refine wpStill_step (fun K hK=> ?_);go_simp;(try refine iP (by decide) ?_);with_reducible refine hK _ ?_;clear hK K)
       with_reducible refine wpStill_nil ?_
       change wpList _ _ _ _ _ wq.drew;have iy:=Lib.hid (lK.out.drew (by have:=lK.out.kp.size;exact this));obtain ⟨g0,g1,g2⟩:=QY wq.drew iy.out.t.fr qp.out hat;have gz:=iy.out.t.fr;rw[qp.out] at gz
       replace gz:=gz.frozenAt
       generalize wq.drew=wv at*;go_wp2
       gi_wp2_with fail
       go_round
       case rel=>exact ⟨j+1,a+1,by omega,by have:=HA.out;omega,by go_num,by rw[DC.out,DD.out];exact iy.out.yG qp.out hat (true,_,_)⟩
       case measure=>simp[intOf];omega
   ·have zm:j=N:=by omega
    have ad8:a=E:=by have:=HA.out;have:=HE.out;omega
    have Vo:=My (s:=s) (e:=e) (off:=off) (x0:=x0) hk;rw[←HN.out,←zm,←hz] at Vo;rw[Vo] at hJ;have hlt2:¬(a:Int)<(E:Int):=by omega
    have yi:=hJ.di.cell 0;have fi:=hJ.di.frozen 0;simp at yi;have hwk:IntKind.i64.wrap ((k:Int)+1)=(k:Int)+1:=IntWalk.i64_in _ (by have:=jN.out;omega);have hnx:=hJ.next (by omega) (by omega) (by omega) (by omega)
    rw[show ((k+1:Nat):Int)=(k:Int)+1 by omega] at hnx;have Bu:=Lib.hid hnx;clear Vo zm ad8 hz hJ hnx ha
    gi_wp2_with fail
    exact ⟨Bu.out.kf,Bu.out.k2,Bu.out.t,by simpa using Bu.out.di,Bu.out.kp⟩
 case hdone=>
  intro D W hD hI EJ;have htk:iw sp ⟨sn,po,sg,la,off,s,e,ps⟩=⟨(Ox s e off ps x0 ps.length).1,(Ox s e off ps x0 ps.length).2,if fin=true then some en else sp.size⟩:=by
   have he:off+ah ps=en:=by rw[Oh.out];exact Hf.out
   unfold iw Ox mW EC;dsimp only;rw[HX0.out,he,iW.out,List.take_of_length_le (Nat.le_refl _)]
  have y0:=hI.t.bp.cell 0;simp at y0;have z2:W.cell? ⟨b,2,none⟩=some (.int .i64 (cB sp)):=hI.t.blk.cell 2;have fz2:=hI.t.blk.frozen 2;have Ke:=Lib.hid htk;have HI:=Lib.hid hI;clear htk hI;cases fin with
  |false=>
   have hs2:cB (iw sp ⟨sn,po,sg,la,off,s,e,ps⟩)=cB sp:=by rw[Ke.out];rfl
   have hfin:=HI.out.t.XP (.deferred none) EJ rfl (by omega);have HS2:=Lib.hid hs2;have HF:=Lib.hid hfin;clear hs2 hfin
   gi_wp2
   go_wp2;refine ⟨by simp,.inl ⟨_,_,rfl,run_takeDeferred EJ,?_⟩⟩;refine ⟨.tuple #[],results_none rfl _ _ _,?_⟩;unfold zl;rw[if_neg (by rw[HNB.out];simp)];have h9:=HF.out;have h8:=Ke.out;refine ⟨rfl,DW,DX,⟨by rw[HS2.out];exact h9.blk,by rw[h8];exact h9.fr,by rw[h8];exact h9.dr⟩,h9.bf,h9.bd,h9.kp⟩
  |true=>
   have hs2:cB (iw sp ⟨sn,po,sg,la,off,s,e,ps⟩)=(en:Int):=by rw[Ke.out];rfl
   have hd2:(W.setCell ⟨b,2,none⟩ (.int .i64 (en:Int))).heap[D]? =some (.deferred (some [])):=(KeepsOthers.setCell W ⟨b,2,none⟩ (.int .i64 (en:Int))).same D _ EJ rfl;have hfin:=(HI.out.t.acg (en:Int)).XP (.deferred none) hd2 rfl (by omega);have HS2:=Lib.hid hs2;have HF:=Lib.hid hfin;clear hs2 hfin
   gi_wp2
   go_wp2;refine ⟨by simp,.inl ⟨_,_,rfl,run_takeDeferred hd2,?_⟩⟩;refine ⟨.tuple #[],results_none rfl _ _ _,?_⟩;unfold zl;rw[if_neg (by rw[HNB.out];simp)];have h9:=HF.out;have h8:=Ke.out;refine ⟨rfl,DW,DX,⟨by rw[HS2.out];exact h9.blk,by rw[h8];exact h9.fr,by rw[h8];exact h9.dr⟩,h9.bf,h9.bd,h9.kp⟩
end
end Go.Proofs.YtbhiklnljiehiaaGreat
