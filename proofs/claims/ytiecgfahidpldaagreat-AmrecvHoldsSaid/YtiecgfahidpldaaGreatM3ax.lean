/- amrecv: take. -/
import Derived.Test.YtiecgfahidpldaaGreatM3at
namespace Go.Proofs.YtiecgfahidpldaaGreat
section
open Go.RowKit Go.Shelf
attribute [local go_sem] Oper.semAt_some
theorem ja {c p q:Prop} [Decidable c] (h:¬c) (hq:q):if c then p else q:=by rw[if_neg h];exact hq
def zN (w:World) (b:Nat) (sp:Sp) (vf vd:Value) (x:iN) (e:Ending) (w':World):Prop:=
 if Bt sp x=true then e=Ei 9∧Below w.heap.size w w'
 else e= .returned (.tuple #[])∧∃kY kS,pE w' b (dO sp x) kY kS∧(∀k,kY.ownBlock=some k→vf.ownBlock=some k∨w.heap.size≤k)∧(∀k,kS.ownBlock=some k→vd.ownBlock=some k∨w.heap.size≤k)∧Kept (Ug b vf vd) w w'
set_option maxRecDepth 100000 in
set_option maxHeartbeats 40000000 in
theorem Mc (b:Nat) (sp:Sp) (vf vd:Value) (x:iN) (A:Option Addr) (c:Nat) (vs:List Value) (w:World) (h:pE w b sp vf vd) (ho:wX sp) (hs:gD w w.heap.size A x.ps.length c vs x.ps) (hlen:x.ps.length≤64) (hpos:1≤x.ps.length) (hsum:x.off+au x.ps≤32767)
 (hst:∀W,Kept (Ug b vf vd) w W→gD W W.heap.size A x.ps.length c vs x.ps):
 Calls Tryz.prog 36 #[.pointer (some ⟨b,0,none⟩),.agg (aY x.sn x.po x.sg x.la x.off x.s x.e A x.ps.length c)] w (zN w b sp vf vd x):=by
 obtain ⟨sn,po,sg,la,off,s,e,ps⟩:=x;dsimp only at hs hlen hpos hsum hst ⊢;have bp:=(aA.new w 86 #[.pointer (some ⟨b,0,none⟩)]).alloc (.cells (aY sn po sg la off s e A ps.length c) 72);have bx:=aA.new (w.alloc (.cells #[.pointer (some ⟨b,0,none⟩)] 86)) 72 (aY sn po sg la off s e A ps.length c);have hB:=((Below.refl w.heap.size w).alloc (Nat.le_refl _) (.cells #[.pointer (some ⟨b,0,none⟩)] 86)).alloc (by simp) (.cells (aY sn po sg la off s e A ps.length c) 72);simp only[World.size_alloc] at bx;have Qa:=Lib.hid (hst w (Kept.refl _ w));have HB:=Lib.hid hB;have HST:=Lib.hid hst;have HO:=Lib.hid ho;have iM:=Lib.hid hlen;have amj:=Lib.hid hpos;have Dw:=Lib.hid hsum;have HH:=Lib.hid h;have qY:∀p∈ps,p.length≤1099511627776:=fun p hp=>by have:=fJ hp;omega
 have aaD:=Lib.hid qY;obtain ⟨fin,hfin⟩:∃fin,(!sg||la)=fin:=⟨_,rfl⟩
 obtain ⟨en,hen⟩:∃en,off+au ps=en:=⟨_,rfl⟩
 have hbad:Bt sp ⟨sn,po,sg,la,off,s,e,ps⟩=match sp.size with
  |some k=> !(decide (en≤k)&&(!fin||decide (en=k)))
  |none=>fin&&(decide (en<sp.fl.length)&&(sp.fl.drop en).any (fun f=>f.1)):=by
  unfold Bt jy uk;dsimp only;rw[hen,hfin];cases sp.size<;>rfl
 have HBAD:=Lib.hid hbad;have jH:=Lib.hid hfin;have Tm:=Lib.hid hen;have hbl:=h.blk.lt;clear hB hst ho hlen hpos h hs hfin qY hen hbad;unfold aY at*;refine (callsIn_wide (n:=5)).1 ?_;refine callsIn_of_wp_marks Tryz.func36 rfl trivial ?_ rfl;simp only[Tryz.ntmps36,List.size_toArray,List.length_cons,List.length_nil,Nat.reduceAdd,Nat.reduceSub,Array.replicate_succ,Array.replicate_zero,List.push_toArray,List.append_toArray,List.nil_append,List.cons_append];refine wpIn_wide.2 ?_;obtain ⟨x0,x1,x2,x3,x4,x5,x6,x7⟩:=bx.eight;have y0:=bp.cell 0;simp at y0;go_upto_region 1 with (fail)
 generalize (w.alloc (.cells #[.pointer (some ⟨b,0,none⟩)] 86)).alloc (.cells #[.int .i64 sn,.bool po,.bool sg,.bool la,.int .i64 off,.bool s,.bool e,.slice A ps.length c] 72)=w0 at*;go_cut [4] from 11 to 17 (fun s4 wx=>s4= .bool fin∧wx=w0)
 case first=>
  have hfin:=jH.out;cases sg with
  |true=>
   obtain rfl:la=fin:=by simpa using hfin
   clear hfin;go_wp2_with fail;go_meet;exact ⟨rfl,rfl⟩
  |false=>
   obtain rfl:true=fin:=by simpa using hfin
   clear hfin;go_wp2_with fail;go_meet;exact ⟨rfl,rfl⟩
 case rest=>
 obtain ⟨rfl,rfl⟩:=hcut;have aaE:w.heap.size+1<wc.heap.size:=bx.lt;have hS0:=(Qa.out.below HB.out).more HB.out.size;have hsz:=nL s e A ps.length c vs ps wc.drew hS0.drew' (by have:=iM.out;omega) aaD.out;have HZ:=Lib.hid hsz;have BN:=Lib.hid hS0;clear hsz hS0 aaD;have hen:=Tm.out;have hwrap:IntKind.i64.wrap ((off:Int)+au ps)=(en:Int):=by rw[IntWalk.i64_in _ (by omega)];omega
 generalize hSS:au ps=S at*;have PX:=Lib.hid hSS;clear hSS;have DD:w.heap.size+1<wc.drew.heap.size:=aaE;go_upto_region 2 with (fail)
 go_cut [5] from 18 to 23 (fun s5 wx=>s5= .int .i64 (en:Nat)∧Below wc.heap.size wc wx)
 case first=>
  go_region_held3 (fun w'=>w'.cell? ⟨w.heap.size+1,4,none⟩=some (.int .i64 off)∧w'.cell? ⟨w.heap.size+1,5,none⟩=some (.bool s)∧w'.cell? ⟨w.heap.size+1,6,none⟩=some (.bool e)∧w'.cell? ⟨w.heap.size+1,7,none⟩=some (.slice A ps.length c))
   (first|(refine ⟨(hb2.cell (p:=⟨w.heap.size+1,4,none⟩) DD).trans x4,(hb2.cell (p:=⟨w.heap.size+1,5,none⟩) DD).trans x5,(hb2.cell (p:=⟨w.heap.size+1,6,none⟩) DD).trans x6,(hb2.cell (p:=⟨w.heap.size+1,7,none⟩) DD).trans x7⟩)|go_keep)
   ((go_at_call 72;refine HZ.out.mono ?_;rintro e2 w2 ⟨rfl,hb2⟩))
  go_wp2_with fail;go_meet;exact ⟨rfl,((Below.refl _ wc).drew).trans hb2⟩
 case rest=>
 obtain ⟨rfl,hb2⟩:=hcut;generalize wc=w3 at*
 replace bp:=bp.below hb2 bp.lt
 replace bx:=bx.below hb2 bx.lt
 have hB3:=HB.out.trans (hb2.mono HB.out.size);have hh3:pE w3 b sp vf vd:=HH.out.stay (hB3.block b hbl) (fun k hk=>hB3.block k (HH.out.fr.lt k hk).2) (fun k hk=>hB3.block k (HH.out.dr.lt k hk).2);clear x0 x1 x2 x3 x4 x5 x6 x7 y0 hb2 HB aaE DD HZ BN hwrap hen;have HBP:=Lib.hid bp;have XV:=Lib.hid bx;have HB3:=Lib.hid hB3;have y0:=bp.cell 0;simp at y0;obtain ⟨z0,z1,z2⟩:w3.cell? ⟨b,0,none⟩=some vf∧w3.cell? ⟨b,1,none⟩=some vd∧w3.cell? ⟨b,2,none⟩=some (.int .i64 (bY sp)):=⟨hh3.blk.cell 0,hh3.blk.cell 1,hh3.blk.cell 2⟩;have hle:=HO.out.le;have HH3:=Lib.hid hh3;clear bp bx hB3 hh3;have aaG:∀wx,Bt sp ⟨sn,po,sg,la,off,s,e,ps⟩=true→Below w3.heap.size w3 wx→zN w b sp vf vd ⟨sn,po,sg,la,off,s,e,ps⟩ (Ei 9) wx:=fun wx h1 h2=>by
  unfold zN;rw[if_pos h1];exact ⟨rfl,HB3.out.trans (h2.mono HB3.out.size)⟩
 have Sk:=Lib.hid aaG;clear aaG;go_upto_if 28 with (fail)
 go_cut [] from 24 to 66 (fun wx=>Bt sp ⟨sn,po,sg,la,off,s,e,ps⟩=false∧Below w3.heap.size w3 wx)
 case first=>
  cases hsz:sp.size with
  |some k=>
   have hbad:=HBAD.out;rw[hsz] at hbad;dsimp only at hbad;have hsi:bY sp=(k:Int):=by unfold bY;rw[hsz]
   rw[hsi] at z2;rw[show decide (bY sp≥0)=true by rw[hsi];simp];have hk:=HO.out.sz k hsz;clear hsz hsi;by_cases h1:en≤k
   ·rw[decide_eq_true h1,Bool.true_and] at hbad;cases fin with
    |false=>
     have HB2:=Lib.hid hbad;clear hbad;go_wp2_with (go_at_call 34;refine (pF _ _).mono ?_;rintro e1 w4 ⟨rfl,rfl⟩);go_meet;exact ⟨HB2.out,Below.refl _ _⟩
    |true=>
     by_cases h2:en=k
     ·have HB2:=Lib.hid hbad;have HH2:=Lib.hid h2;have hne:((en:Int)==(k:Int))=true:=by simp;omega
      clear hbad h2;go_wp2_with (go_at_call 34;refine (pF _ _).mono ?_;rintro e1 w4 ⟨rfl,rfl⟩);go_meet;exact ⟨by rw[HB2.out,HH2.out];simp,Below.refl _ _⟩
     ·have HB2:=Lib.hid hbad;have HH2:=Lib.hid h2;have hne:((en:Int)==(k:Int))=false:=by simp;omega
      clear hbad;go_wp2_with (go_at_call 34;refine (ng _ _).mono ?_;rintro e1 w4 ⟨rfl,rfl⟩);exact Sk.out _ (by rw[HB2.out];simp[HH2.out]) (Below.refl _ _)
   ·have HB2:=Lib.hid hbad;have HH1:=Lib.hid h1;clear hbad;go_wp2_with (go_at_call 34;refine (ng _ _).mono ?_;rintro e1 w4 ⟨rfl,rfl⟩);exact Sk.out _ (by rw[HB2.out,decide_eq_false HH1.out];rfl) (Below.refl _ _)
  |none=>
   have hbad:=HBAD.out;rw[hsz] at hbad;dsimp only at hbad;have hsi:bY sp= -1:=by unfold bY;rw[hsz]
   rw[hsi] at z2;rw[show decide (bY sp≥0)=false by rw[hsi];rfl];clear hsz hsi;obtain ⟨Af,cf,rfl,hfs⟩:=mJ.cO HH3.out.fr;have hcap:=hfs.cap;have hmx:=hfs.mx;cases fin with
   |false=>
    have HB2:=Lib.hid hbad;clear hbad hfs;go_wp2_with fail;go_meet;exact ⟨HB2.out,Below.refl _ _⟩
   |true=>
    by_cases h1:en<sp.fl.length
    ·rw[decide_eq_true h1,Bool.true_and,Bool.true_and] at hbad;obtain ⟨gf,of,rfl,hgf,_⟩:=hfs.at_ (by omega);have hq:=OW (hfs.drop h1) (by omega);generalize (sp.fl.drop en).any (fun f=>f.1)=got at*;have HB2:=Lib.hid hbad;have HQ:=Lib.hid hq;have d1:decide (en<sp.fl.length)=true:=decide_eq_true h1;have h1':(en:Int)<(sp.fl.length:Int):=by omega
     clear hbad hfs hq;cases got with
     |false=>
      go_wp2_with (first
       |(go_at_call 83;refine HQ.out.mono ?_;rintro e1 w4 ⟨rfl,hb4⟩)
       |(go_at_call 34;refine (pF _ _).mono ?_;rintro e1 w4 ⟨rfl,rfl⟩))
      go_meet;exact ⟨HB2.out,hb4⟩
     |true=>
      go_wp2_with (first
       |(go_at_call 83;refine HQ.out.mono ?_;rintro e1 w4 ⟨rfl,hb4⟩)
       |(go_at_call 34;refine (ng _ _).mono ?_;rintro e1 w5 ⟨rfl,rfl⟩))
      exact Sk.out _ HB2.out hb4
    ·rw[decide_eq_false h1,Bool.false_and,Bool.and_false] at hbad;have HB2:=Lib.hid hbad;clear hbad hfs;go_wp2_with fail;go_meet;exact ⟨HB2.out,Below.refl _ _⟩
 case rest=>
 obtain ⟨hnb,hb4⟩:=hcut;generalize wc=w4 at*;have hT:pZ w b vf vd #[.int .i64 sn,.bool po,.bool sg,.bool la,.int .i64 off,.bool s,.bool e,.slice A ps.length c] (bY sp) vf vd sp.fl sp.da w3:=
  ⟨HH3.out.blk,HH3.out.fr,HH3.out.dr,fun k hk=> .inl hk,fun k hk=> .inl hk,(Kept.of_below HB3.out).gX fun k o ho hm=>by have:=lt_of_heap ho;omega,HBP.out,XV.out,hbl⟩
 have Ma:=hT.below hb4;have GM:=Lib.hid Ma;have HNB:=Lib.hid hnb;have hll:=HO.out.ll;clear hT Ma hb4 hnb Sk HBAD HH3 HBP XV HB3 y0 z0 z1 z2 HH Qa;have y0:=GM.out.bp.cell 0;simp at y0;obtain ⟨z0,z1,z2⟩:w4.cell? ⟨b,0,none⟩=some vf∧w4.cell? ⟨b,1,none⟩=some vd∧w4.cell? ⟨b,2,none⟩=some (.int .i64 (bY sp)):=⟨GM.out.blk.cell 0,GM.out.blk.cell 1,GM.out.blk.cell 2⟩;obtain ⟨Af,cf,rfl,hfs⟩:=mJ.cO GM.out.fr;have hcap:=hfs.cap;have hmx:=hfs.mx;have aml:en≤32767:=by have:=Tm.out;omega
 have hwn:IntKind.i64.wrap ((en:Int)-(sp.fl.length:Int))=(en:Int)-(sp.fl.length:Int):=IntWalk.i64_in _ (by omega);have XW:=Lib.hid hll;clear hfs hll;go_upto_if 75 with (fail)
 obtain ⟨K,hK⟩:∃K:Int,K=(en:Int)-(sp.fl.length:Int):=⟨_,rfl⟩
 rw[←hK];go_cut [] from 75 to 93 (fun wx=>∃kY kS,pZ w b (.slice Af sp.fl.length cf) vd #[.int .i64 sn,.bool po,.bool sg,.bool la,.int .i64 off,.bool s,.bool e,.slice A ps.length c] (bY sp) kY kS (iw en sp.fl) (nG en sp.da) wx)
 case first=>
  by_cases hn:sp.fl.length<en
  ·obtain ⟨kn,rfl⟩:∃kn:Nat,K=(kn:Int):=⟨en-sp.fl.length,by omega⟩
   have hkn:en-sp.fl.length=kn:=by omega
   have hkp:0<kn:=by omega
   have hkb:kn≤32767:=by omega
   have he1:uR sp.fl++(Builtin.zeroCells (Value.agg #[.bool false,.bool false,.bool false]).cells kn).toList=uR (iw en sp.fl):=by
    show uR sp.fl++(Builtin.zeroCells #[.bool false,.bool false,.bool false] kn).toList=uR (iw en sp.fl)
    rw[Gv,←R3];unfold iw;rw[hkn]
   have he2:cu sp.da++(Builtin.zeroCells (Value.int .u8 0).cells kn).toList=cu (nG en sp.da):=by
    show cu sp.da++(Builtin.zeroCells #[.int .u8 0] kn).toList=cu (nG en sp.da)
    rw[Gw];unfold nG;rw[XW.out,hkn];simp[cu]
   have hl1:(iw en sp.fl).length=sp.fl.length+kn:=by unfold iw;rw[List.length_append,List.length_replicate,hkn]
   have hl2:(nG en sp.da).length=sp.da.length+kn:=by unfold nG;rw[List.length_append,List.length_replicate,XW.out,hkn]
   have hz1:∀u∈(Builtin.zeroCells #[.bool false,.bool false,.bool false] kn).toList,u.oneCell'=true:=by
    rw[Gv];intro u hu;simp only[uR,List.mem_flatMap,List.mem_cons,List.not_mem_nil,or_false] at hu;obtain ⟨r,_,rfl|rfl|rfl⟩:=hu<;>rfl
   have hz2:∀u∈(Builtin.zeroCells #[.int .u8 0] kn).toList,u.oneCell'=true:=by
    rw[Gw];intro u hu;simp only[cu,List.mem_map] at hu;obtain ⟨r,_,rfl⟩:=hu;rfl
   obtain ⟨i1,hi1,afI,Vz,afJ⟩:=O1;obtain ⟨i2,hi2,afK,Sm,afL⟩:=info_parts qP;have U7:=Lib.hid he1;have HE2:=Lib.hid he2;have HL1:=Lib.hid hl1;have HL2:=Lib.hid hl2;have HKN:=Lib.hid hkn;have fz0:=GM.out.blk.frozen 0;have hown1:=GM.out.drew.fr;clear he1 he2 hl1 hl2 hK hkn;go_upto_region 9 with (fail)
   go_cut [] from 75 to 84 (fun wx=>∃v2,pZ w b (.slice Af sp.fl.length cf) vd #[.int .i64 sn,.bool po,.bool sg,.bool la,.int .i64 off,.bool s,.bool e,.slice A ps.length c] (bY sp) v2 vd (iw en sp.fl) sp.da wx)
   case first=>
    refine wp_region_noPanic ?_;refine bM (fun w'=>w'.cell? ⟨w.heap.size,0,none⟩=some (.pointer (some ⟨b,0,none⟩))∧w'.cell? ⟨b,0,none⟩=some (.slice Af sp.fl.length cf)) [9] (by kernel_rfl) ?_;have hHeld:=(show (fun w':World=>w'.cell? ⟨w.heap.size,0,none⟩=some (.pointer (some ⟨b,0,none⟩))∧w'.cell? ⟨b,0,none⟩=some (.slice Af sp.fl.length cf)) _ from ⟨y0,z0⟩);refine tkX [2,3,4,6,9] 1 ?_ rfl (Or.inl ⟨by rfl,?_⟩) hHeld ?_;rotate_left
    ·intro w' hSw;obtain ⟨hS1,hS2⟩:=hSw;go_simp
     try with_reducible rfl
    try simp only[Act.put,zzA,zzE,zzF,yo,UM,zzD]
    refine tkY 2 ?_ rfl (Or.inl ⟨by rfl,?_⟩) hHeld ?_;rotate_left
    ·intro w' hSw;go_simp
     try with_reducible rfl
    try simp only[Act.put,zzA,zzE,zzF,yo,UM,zzD]
    refine tkY 3 ?_ rfl (Or.inl ⟨by rfl,?_⟩) hHeld ?_;rotate_left
    ·intro w' hSw;go_simp
     try with_reducible rfl
    try simp only[Act.put,zzA,zzE,zzF,yo,UM,zzD]
    refine tkX [6,9] 4 ?_ rfl (Or.inl ⟨by rfl,?_⟩) hHeld ?_;rotate_left
    ·intro w' hSw;obtain ⟨hS1,hS2⟩:=hSw;go_simp
     try with_reducible rfl
    try simp only[Act.put,zzA,zzE,zzF,yo,UM,zzD]
    refine tkY 5 ?_ rfl (Or.inl ⟨by rfl,?_⟩) hHeld ?_;rotate_left
    ·intro w' hSw;go_simp
     try with_reducible rfl
    try simp only[Act.put,zzA,zzE,zzF,yo,UM,zzD]
    refine tkX [7,8,9] 0 ?_ rfl (Or.inl ⟨by rfl,?_⟩) hHeld ?_;rotate_left
    ·intro w' hSw;obtain ⟨hS1,hS2⟩:=hSw;go_simp
     try with_reducible rfl
    try simp only[Act.put,zzA,zzE,yo,UM,zzD]
    refine bu (i:=6) rfl (by kernel_rfl) (by rfl) (fun K hK=> ?_);refine pU _ _ _ 88 3 rfl 0 101 i1 (.agg #[.bool false,.bool false,.bool false]) 3 3 .i64 .i64 O3 uz hi1 afI Vz afJ rfl (by decide) (.slice Af sp.fl.length cf) sp.fl.length (uR sp.fl) (by rfl) hown1 kn (by rfl) hkp hz1 (by unfold maxLen;omega) (by omega) (Nat.zero_le _) ?_;rintro v2 w5 hr5 hg5 hv5;rw[U7.out,←HL1.out] at hr5;obtain ⟨A2,c2,rfl,_⟩:=mJ.cO hr5;have hb5:=GM.out.drew.blk.grown hg5 (jJ hown1 GM.out.drew.blk (by decide));have hp5:=GM.out.drew.bp.grown hg5 (jJ hown1 GM.out.drew.bp (by decide));have q0:=hp5.cell 0;have q1:=hb5.cell 0;have q2:=hb5.frozen 0;simp at q0 q1;have Ii:=Lib.hid (GM.out.drew.flags hr5 hg5 hv5);clear hr5 hg5 hv5 hb5 hp5;refine hK _ _ ⟨q0,q1⟩ ?_;clear hK K hHeld;have hHeld:=(show (fun w':World=>w'.cell? ⟨w.heap.size,0,none⟩=some (.pointer (some ⟨b,0,none⟩))∧w'.cell? ⟨b,0,none⟩=some (.slice Af sp.fl.length cf)) _ from ⟨q0,q1⟩)
    try simp only[Act.put,zzA,zzE,zzF,yo,UM,zzD]
    refine tkY 7 ?_ rfl (Or.inl ⟨by rfl,?_⟩) hHeld ?_;rotate_left
    ·intro w' hSw;go_simp
     try with_reducible rfl
    try simp only[Act.put,zzA,zzE,zzF,yo,UM,zzD]
    refine tkY 8 ?_ rfl (Or.inl ⟨by rfl,?_⟩) hHeld ?_;rotate_left
    ·intro w' hSw;go_simp
     try with_reducible rfl
    try simp only[Act.put,zzA,zzE,zzF,yo,UM,zzD]
    refine aQ (i:=9) rfl (by kernel_rfl) (by kernel_rfl) (by rfl) (fun K hK=> ?_);go_simp;refine hK _ _ ?_;clear hK K
    try simp only[Act.put,zzA,zzE,zzF,yo,UM,zzD]
    refine aU (by kernel_rfl) ?_ _;simp only[NoPanic];go_wp2_with fail;go_meet;exact ⟨_,Ii.out⟩
   case rest=>
   obtain ⟨v2,Aw⟩:=hcut;have Ii:=Lib.hid Aw;have y0:=Aw.bp.cell 0;simp at y0;have z1:wc.cell? ⟨b,1,none⟩=some vd:=Aw.blk.cell 1;have fz1:=Aw.blk.frozen 1;have hown2:=Aw.drew.dr;have hdl:sp.da.length≤32767:=by have:=XW.out;omega
   clear Aw hown1 fz0 z0;go_upto_region 10 with (fail)
   go_cut [] from 75 to 93 (fun wx=>∃v2 v3,pZ w b (.slice Af sp.fl.length cf) vd #[.int .i64 sn,.bool po,.bool sg,.bool la,.int .i64 off,.bool s,.bool e,.slice A ps.length c] (bY sp) v2 v3 (iw en sp.fl) (nG en sp.da) wx)
   case first=>
    refine wp_region_noPanic ?_;refine bM (fun w'=>w'.cell? ⟨w.heap.size,0,none⟩=some (.pointer (some ⟨b,0,none⟩))∧w'.cell? ⟨b,1,none⟩=some (vd)) [9] (by kernel_rfl) ?_;have hHeld:=(show (fun w':World=>w'.cell? ⟨w.heap.size,0,none⟩=some (.pointer (some ⟨b,0,none⟩))∧w'.cell? ⟨b,1,none⟩=some (vd)) _ from ⟨y0,z1⟩);refine tkX [2,3,4,6,9] 1 ?_ rfl (Or.inl ⟨by rfl,?_⟩) hHeld ?_;rotate_left
    ·intro w' hSw;obtain ⟨hS1,hS2⟩:=hSw;go_simp
     try with_reducible rfl
    try simp only[Act.put,zzA,zzE,zzF,yo,UM,zzD]
    refine tkY 2 ?_ rfl (Or.inl ⟨by rfl,?_⟩) hHeld ?_;rotate_left
    ·intro w' hSw;go_simp
     try with_reducible rfl
    try simp only[Act.put,zzA,zzE,zzF,yo,UM,zzD]
    refine tkY 3 ?_ rfl (Or.inl ⟨by rfl,?_⟩) hHeld ?_;rotate_left
    ·intro w' hSw;go_simp
     try with_reducible rfl
    try simp only[Act.put,zzA,zzE,zzF,yo,UM,zzD]
    refine tkX [6,9] 4 ?_ rfl (Or.inl ⟨by rfl,?_⟩) hHeld ?_;rotate_left
    ·intro w' hSw;obtain ⟨hS1,hS2⟩:=hSw;go_simp
     try with_reducible rfl
    try simp only[Act.put,zzA,zzE,zzF,yo,UM,zzD]
    refine tkY 5 ?_ rfl (Or.inl ⟨by rfl,?_⟩) hHeld ?_;rotate_left
    ·intro w' hSw;go_simp
     try with_reducible rfl
    try simp only[Act.put,zzA,zzE,zzF,yo,UM,zzD]
    refine tkX [7,8,9] 0 ?_ rfl (Or.inl ⟨by rfl,?_⟩) hHeld ?_;rotate_left
    ·intro w' hSw;obtain ⟨hS1,hS2⟩:=hSw;go_simp
     try with_reducible rfl
    try simp only[Act.put,zzA,zzE,yo,UM,zzD]
    refine bu (i:=6) rfl (by kernel_rfl) (by rfl) (fun K hK=> ?_);refine pU _ _ _ 22 3 rfl 0 5 i2 (.int .u8 0) 1 1 .i64 .i64 und29 uz hi2 afK Sm afL rfl (by decide) vd sp.da.length (cu sp.da) (by rfl) hown2 kn (by rfl) hkp hz2 (by unfold maxLen;omega) (by omega) (Nat.zero_le _) ?_;rintro v3 w6 hr6 QC hv6;rw[HE2.out,←HL2.out] at hr6;obtain ⟨A3,c3,rfl,_,_⟩:=aP hr6;have hb6:=Ii.out.drew.blk.grown QC (jJ hown2 Ii.out.drew.blk (by decide));have hp6:=Ii.out.drew.bp.grown QC (jJ hown2 Ii.out.drew.bp (by decide));have q0:=hp6.cell 0;have q1:=hb6.cell 1;have q2:=hb6.frozen 1;simp at q0 q1;have Wu:=Lib.hid (Ii.out.drew.data hr6 QC hv6);clear hr6 QC hv6 hb6 hp6;refine hK _ _ ⟨q0,q1⟩ ?_;clear hK K hHeld;have hHeld:=(show (fun w':World=>w'.cell? ⟨w.heap.size,0,none⟩=some (.pointer (some ⟨b,0,none⟩))∧w'.cell? ⟨b,1,none⟩=some (vd)) _ from ⟨q0,q1⟩)
    try simp only[Act.put,zzA,zzE,zzF,yo,UM,zzD]
    refine tkY 7 ?_ rfl (Or.inl ⟨by rfl,?_⟩) hHeld ?_;rotate_left
    ·intro w' hSw;go_simp
     try with_reducible rfl
    try simp only[Act.put,zzA,zzE,zzF,yo,UM,zzD]
    refine tkY 8 ?_ rfl (Or.inl ⟨by rfl,?_⟩) hHeld ?_;rotate_left
    ·intro w' hSw;go_simp
     try with_reducible rfl
    try simp only[Act.put,zzA,zzE,zzF,yo,UM,zzD]
    refine aQ (i:=9) rfl (by kernel_rfl) (by kernel_rfl) (by rfl) (fun K hK=> ?_);go_simp;refine hK _ _ ?_;clear hK K
    try simp only[Act.put,zzA,zzE,zzF,yo,UM,zzD]
    refine aU (by kernel_rfl) ?_ _;simp only[NoPanic];go_wp2_with fail;go_meet;exact ⟨_,_,Wu.out⟩
   case rest=>
   obtain ⟨v2,v3,hT6⟩:=hcut;go_wp2_with fail;go_meet;exact ⟨_,_,hT6⟩
  ·have he1:iw en sp.fl=sp.fl:=by unfold iw;rw[show en-sp.fl.length=0 by omega];simp
   have he2:nG en sp.da=sp.da:=by have:=XW.out;unfold nG;rw[show en-sp.da.length=0 by omega];simp
   have U7:=Lib.hid he1;have HE2:=Lib.hid he2;have hn2:(en:Int)-(sp.fl.length:Int)≤0:=by omega
   clear he1 he2;go_wp2_with fail;go_meet;rw[U7.out,HE2.out];exact ⟨_,_,GM.out⟩
 case rest=>
 obtain ⟨EN,EO,hT⟩:=hcut;have aaH:(iw en sp.fl).length=max sp.fl.length en:=by unfold iw;rw[List.length_append,List.length_replicate];omega
 have RJ:(nG en sp.da).length=max sp.fl.length en:=by unfold nG;rw[List.length_append,List.length_replicate,XW.out];omega
 obtain ⟨x0,hx0⟩:∃x0:List Fl × List UInt8,x0=(iw en sp.fl,nG en sp.da):=⟨_,rfl⟩
 have hT:pZ w b (.slice Af sp.fl.length cf) vd #[.int .i64 sn,.bool po,.bool sg,.bool la,.int .i64 off,.bool s,.bool e,.slice A ps.length c] (bY sp) EN EO x0.1 x0.2 wc:=by rw[hx0];exact hT
 obtain ⟨L,hL⟩:∃L,L=max sp.fl.length en:=⟨_,rfl⟩
 have hl1:x0.1.length=L:=by rw[hx0];exact aaH.trans hL.symm
 have hl2:x0.2.length=L:=by rw[hx0];exact RJ.trans hL.symm
 have hLe:en≤L:=by omega
 have hLb:L≤32767:=by omega
 have HX0:=Lib.hid hx0;have HL1:=Lib.hid hl1;have HL2:=Lib.hid hl2;have hdi:=aA.new wc 3 #[.int .i64 0];have Aw:=hT.alloc (.cells #[.int .i64 0] 3);have amn:w.heap.size≤wc.heap.size:=hT.kp.size;have aiL:=hT.bx.lt;clear aaH RJ hx0 hL hl1 hl2 GM y0 z0 z1 z2 hcap hmx hwn XW hT hK hle;go_upto_region 12 with (fail)
 generalize wc.alloc (.cells #[.int .i64 0] 3)=w5 at*;generalize wc.heap.size=bi at*;have hS5:=HST.out w5 Aw.kp;have hbd:=yJ sn po sg la off s e A ps.length c vs ps w5 hS5 (by have:=iM.out;omega) (by omega) (by have:=PX.out;omega);unfold aY at hbd;have Ny:=Lib.hid hbd;have Ii:=Lib.hid Aw;have HDI:=Lib.hid hdi;obtain ⟨q0,q1,q2,q3,q4,q5,q6,q7⟩:=Aw.bx.eight;clear hbd hS5 Aw hdi;go_wp2_with fail;refine Ny.out.mono ?_;rintro e5 w6 ⟨g,v,rfl,QC,bg,hv6,hb6⟩;have hT6:=Ii.out.below hb6;have afP:=HDI.out.below hb6 HDI.out.lt;clear Ny q0 q1 q2 q3 q4 q5 q6 q7;go_wp2_with fail;have lG:Tryz.prog.follows .mixedOrders=true:=by kernel_rfl
 have hI0:TkI w b (.slice Af sp.fl.length cf) vd #[.int .i64 sn,.bool po,.bool sg,.bool la,.int .i64 off,.bool s,.bool e,.slice A ps.length c] (bY sp) EN EO s e off ps x0 bi w6 0 w6:=⟨hT6,afP,Kept.refl _ _⟩;have MH:=hb6.size;have aiM:=HDI.out.lt;have hww:w.heap.size≤w6.heap.size:=by omega
 have hbb:b<w.heap.size:=hbl;have hgb:g≠b:=by omega
 have hgi:g≠bi:=by omega
 have aaI:∀j,EN.ownBlock=some j→j<w5.heap.size:=fun j hj=>(Ii.out.fr.lt j hj).2
 have aaJ:∀j,EO.ownBlock=some j→j<w5.heap.size:=fun j hj=>(Ii.out.dr.lt j hj).2
 have hvl:=fun j hj=>hv6.lt j hj
 apply wpIn_wide (n:=5).1;apply l9 (gf:=126) (lb:= #[.pointer (some ⟨g,0,none⟩)]) rfl (by omega) rfl trivial (enters_of Tryz.func126 (by kernel_rfl) rfl)
  (vV _ (by omega) g w5.heap.size v off ps (by omega) (by have:=PX.out;omega) (by have:=iM.out;omega) (R5 b EN EO bi w6.heap.size) w6 bg hv6 (by rintro (h|h|h|h|h)<;>first|omega|(have:=aaI g h;omega)|(have:=aaJ g h;omega)|(have:=bg.lt;omega)) (fun j _ hj=>by have h9:=hvl j hj;rintro (h|h|h|h|h)<;>first|omega|(have:=aaI j h;omega)|(have:=aaJ j h;omega)))
  Kept.trans (fun W l o o' hl ho hc _=>(Kept.refl _ W).grown (grownBy_putObj' W l o') (fun j e _ _=>by cases e;exact .inr (.inr (.inr (.inr hl))))) (Below.refl _ _) (fun _=>rfl)
  (TkI w b (.slice Af sp.fl.length cf) vd #[.int .i64 sn,.bool po,.bool sg,.bool la,.int .i64 off,.bool s,.bool e,.slice A ps.length c] (bY sp) EN EO s e off ps x0 bi w6) (R6 _ _ _ _ _ _ _ _ _ _ _ _ _ _ _ hww) hI0
 case hassign=>
  intro l k W K hK;simp only[xC]
  gi_wp2
  exact hK
 case hbody=>
  intro l k W hk hI;have hpk:ps[k]? =some (ps[k]?.getD []):=by rw[List.getElem?_eq_getElem hk];rfl
  have hsn:=gF ps k hk;have hsl:=Nat.le_trans (cK ps (k+1)) (Nat.le_of_eq PX.out);have hJ0:Gu w b (.slice Af sp.fl.length cf) vd #[.int .i64 sn,.bool po,.bool sg,.bool la,.int .i64 off,.bool s,.bool e,.slice A ps.length c] (bY sp) EN EO (Am s e off ps x0 k 0).1 (Am s e off ps x0 k 0).2 bi w6 W k W:=
   ⟨by rw[OY];exact hI.t,hI.di,hI.kp,Kept.refl _ _,⟨Nat.le_refl _,fun _ _ _ h _=>h⟩⟩
  obtain ⟨ka,hka⟩:∃ka,off+au (ps.take k)=ka:=⟨_,rfl⟩
  have hkb:off+au (ps.take (k+1))=ka+(ps[k]?.getD []).length:=by omega
  obtain ⟨N,hN⟩:∃N,N=(ps[k]?.getD []).length:=⟨_,rfl⟩
  rw[←hN] at hkb;obtain ⟨E,hE⟩:∃E,E=ka+N:=⟨_,rfl⟩
  rw[show (off:Int)+((au (ps.take k):Nat):Int)=(ka:Int) by omega,show (off:Int)+((au (ps.take (k+1)):Nat):Int)=(E:Int) by omega];have hkN:ka+N≤en:=by have:=Tm.out;omega
  have Yy:=Lib.hid hka;have HN:=Lib.hid hN;have HE:=Lib.hid hE;have QJ:=Lib.hid hkb;have ZR:=Lib.hid hJ0;have HPK:=Lib.hid hpk;have hEn:E≤en:=by omega
  clear hpk hsn hsl hJ0 hka hkb hN hE hkN
  gi_wp2
  gi_loopw [10] (fun s10 wr=>∃j a:Nat,j≤N∧a=ka+j∧s10= .int .i64 (a:Int)∧Gu w b (.slice Af sp.fl.length cf) vd #[.int .i64 sn,.bool po,.bool sg,.bool la,.int .i64 off,.bool s,.bool e,.slice A ps.length c] (bY sp) EN EO (Am s e off ps x0 k j).1 (Am s e off ps x0 k j).2 bi w6 W k wr) (fun s10 _=>E-(intOf s10).toNat)
  case atStart=>exact ⟨0,ka,Nat.zero_le _,rfl,rfl,ZR.out⟩
  case round=>
   obtain ⟨j,a,hj,ha,rfl,hJ⟩:=hrel;have hwz:=hJ.kp.size;have HA:=Lib.hid ha;have haE:a≤E:=by have:=HE.out;omega
   obtain ⟨z,hz⟩:∃z,z=Am s e off ps x0 k j:=⟨_,rfl⟩
   rw[←hz] at hJ;by_cases hlt:j<N
   ·have hsu:=O0 (s:=s) (e:=e) (off:=off) (ps:=ps) (x0:=x0) (k:=k) (j:=j) (by rw[←HN.out];exact hlt);rw[←hz,Yy.out,←HN.out,←ha] at hsu;have hln:=R4 (s:=s) (e:=e) (off:=off) (ps:=ps) (x0:=x0) (k:=k) j;rw[←hz,HL1.out,HL2.out] at hln;obtain ⟨fl,da⟩:=z;dsimp only at hJ hsu hln;obtain ⟨hfl,hdl⟩:=hln;have hfr:=hJ.t.fr;have hdr:=hJ.t.dr;have hL0:0<L:=by have:=HE.out;omega
    have hfr2:=hfr;have Wv:=hdr;rw[hfl] at hfr2;rw[hdl] at Wv;obtain ⟨gf,cf1,rfl,afu,afv,amq⟩:=uE hfr2 hL0;obtain ⟨gd,cd1,rfl,afw,afx,amr⟩:=uE Wv hL0;clear hfr2 Wv;have hfs:mJ wr (some ⟨gf,0,none⟩) L cf1 fl:=by
     obtain ⟨A',c',e',hs'⟩:=mJ.cO hfr;rw[hfl] at e' hs';cases e';exact hs'
    obtain ⟨ad,Ai,ci,rfl,hbk,hck,tL⟩:=(HST.out wr hJ.t.kp).get hk;rw[←HN.out] at hck tL;obtain ⟨ai,u,rfl,hab,hu,hcu⟩:=tL.get hlt;obtain ⟨x,hx⟩:∃x,(ps[k]?.getD [])[j]? =some x:=⟨_,List.getElem?_eq_getElem (by rw[←HN.out];exact hlt)⟩
    have hux:u=bv x:=by
     simp only[cu,List.getElem?_map,hx,Option.map_some,Option.some.injEq] at hu;exact hu.symm
    subst hux;simp only[bv] at hcu;rw[hx,Option.getD_some] at hsu;have hhas:Calls Tryz.prog 85 #[.slice (some ⟨gf,0,none⟩) L cf1,.int .i64 (a:Int),.int .i64 0] wr fun e w'=>e= .returned (.bool (dW fl a).1)∧wr=w':=zA hfs a (by omega) 0 (by omega)
    have y0:=hJ.t.bp.cell 0;simp at y0;obtain ⟨z0,z1,z2⟩:wr.cell? ⟨b,0,none⟩=some (.slice (some ⟨gf,0,none⟩) L cf1)∧wr.cell? ⟨b,1,none⟩=some (.slice (some ⟨gd,0,none⟩) L cd1)∧wr.cell? ⟨b,2,none⟩=some (.int .i64 (bY sp)):=⟨hJ.t.blk.cell 0,hJ.t.blk.cell 1,hJ.t.blk.cell 2⟩;obtain ⟨q0,q1,q2,q3,q4,q5,q6,q7⟩:=hJ.t.bx.eight;have yi:=hJ.di.cell 0;simp at yi;have aiN:=tL.cap;have aiO:=tL.mx;have hat:a<L:=by have:=HE.out;omega
    have wZ:=Lib.hid hhas;have MO:=Lib.hid hsu;have qU:=Lib.hid hfl;have wh:=Lib.hid hdl;have HJ:=Lib.hid hJ;have hlt2:(a:Int)<(E:Int):=by have:=HE.out;omega
    have hkn:(k:Int)<(ps.length:Int):=by omega
    have hwj:IntKind.i64.wrap ((a:Int)-(ka:Int))=(j:Int):=by rw[IntWalk.i64_in _ (by omega)];omega
    clear hz hfr hdr hfs hhas hsu hfl hdl hJ tL hx hu q0 q1 q2 q3 q4 z2 ha;cases Ev:(dW fl a).1 with
    |true=>
     rw[Ev] at wZ;have hsu:=MO.out;rw[if_pos Ev] at hsu;have aaL:(Am s e off ps x0 k (j+1)).1=fl:=by rw[hsu]
     have aaM:(Am s e off ps x0 k (j+1)).2=da:=by rw[hsu]
     have QV:=HJ.out;rw[←aaL,←aaM] at QV;have HJ1:=Lib.hid QV;clear hsu Ev aaL aaM QV
     gi_wp2_with (refine ⟨trivial,?_⟩;gi_at_call 85;refine (CallsIn.inRound l ((callsIn_wide (n:=2)).2 wZ.out)).mono ?_;rintro e1 w1 ⟨rfl,rfl⟩)
     go_round
     case rel=>exact ⟨j+1,a+1,by omega,by have:=HA.out;omega,by go_num,HJ1.out⟩
     case measure=>simp[intOf];omega
    |false=>
     rw[Ev] at wZ;have hsu:=MO.out;rw[if_neg (by rw[Ev];simp)] at hsu;have XX:=Lib.hid hsu;clear hsu Ev
     gi_wp2_with (refine ⟨trivial,?_⟩;gi_at_call 85;refine (CallsIn.inRound l ((callsIn_wide (n:=2)).2 wZ.out)).mono ?_;rintro e1 w1 ⟨rfl,rfl⟩)
     have hSt:wr.drew=wr.drew:=rfl;refine aT 17 lG (by kernel_rfl) ?hout1 (by kernel_rfl) ?_
     case hout1=>
      rintro ⟨a',w',hh⟩;exact hh
     simp only[List.take_succ_cons,List.take_zero,List.drop_succ_cons,List.drop_zero]
     repeat (with_reducible refine wpStill_step (fun K hK=> ?_);go_simp;(try refine ja (by decide) ?_);with_reducible refine hK _ ?_;clear hK K)
     with_reducible refine wpStill_nil ?_
     change wpList _ _ _ _ _ wr.drew;have Sn:=Lib.hid (HJ.out.drew hwz);have hdz:=Sn.out.t.dr;rw[wh.out] at hdz;have afQ:=hdz.frozenAt a;have hdc:wr.drew.cell? ⟨gd,a,none⟩=some (.int .u8 ((da[a]?.getD 0).toNat:Int)):=by
      have h9:=Sn.out.t.dr;rw[wh.out] at h9;rw[h9.cellAt a (by omega),cu,List.getElem?_map,List.getElem?_eq_getElem (by rw[wh.out];exact hat)];rfl
     clear hdz;generalize wr.drew=wt at*;go_wp2;have Ww:=Sn.out.V6 wh.out (at_:=a) x;simp only[bv] at Ww;generalize wt.setCell ⟨gd,a,none⟩ (.int .u8 (x.toNat:Int))=wq at*;have mK:=Lib.hid Ww;obtain ⟨b1,hb1⟩:∃b1,b1=(decide (j=0)&&(decide (0<k)||s)):=⟨_,rfl⟩
     obtain ⟨b2,hb2⟩:∃b2,b2=(decide (j+1=N)&&(decide (k+1<ps.length)||e)):=⟨_,rfl⟩
     have hsv:=XX.out;rw[←hb1,←hb2] at hsv;have Ew:=Lib.hid (show (Am s e off ps x0 k (j+1)).1=fl.set a (true,b1,b2) by rw[hsv]);have Ex:=Lib.hid (show (Am s e off ps x0 k (j+1)).2=da.set a x by rw[hsv]);have HB1:=Lib.hid hb1;have HB2:=Lib.hid hb2;clear XX MO hsv hb1 hb2 Ww HJ Sn y0 z0 z1 q5 q6 q7 yi afQ hdc wZ;have y0:=mK.out.t.bp.cell 0;simp at y0;have z0:wq.cell? ⟨b,0,none⟩=some (.slice (some ⟨gf,0,none⟩) L cf1):=mK.out.t.blk.cell 0;obtain ⟨q0,q1,q2,q3,q4,q5,q6,q7⟩:=mK.out.t.bx.eight;have yi:=mK.out.di.cell 0;simp at yi;have hwE:IntKind.i64.wrap ((E:Int)-1)=(E:Int)-1:=IntWalk.i64_in _ (by omega);have hwk:IntKind.i64.wrap ((k:Int)+1)=(k:Int)+1:=IntWalk.i64_in _ (by have:=iM.out;omega);have Sq:∀X:World,X.ownsRow 0 101 3 (.slice (some ⟨gf,0,none⟩) L cf1) fl.length (uR fl)→fl.length=L→a<L→X.cell? ⟨gf,a*3,none⟩=some (.bool (dW fl a).1)∧X.cell? ⟨gf,a*3+1,none⟩=some (.bool (dW fl a).2.1)∧X.cell? ⟨gf,a*3+2,none⟩=some (.bool (dW fl a).2.2):=fun X hX h1 h2=>by
      have hg:=List.getElem?_eq_getElem (l:=fl) (i:=a) (by omega);obtain ⟨e1,e2,e3⟩:=xN fl a _ hg;rw[jq hg];rw[h1] at hX;exact ⟨(hX.cellAt _ (by omega)).trans e1,(hX.cellAt _ (by omega)).trans e2,(hX.cellAt _ (by omega)).trans e3⟩
     clear q0 q1 q2 q3 q4;by_cases hj0:j=0
     ·have d1:((a:Int)==(ka:Int))=true:=by have:=HA.out;simp;omega
      by_cases hk0:0<k
      ·have d3:decide ((k:Int)>0)=true:=by simp;exact hk0
       have d3b:decide (0<k)=true:=decide_eq_true hk0;obtain rfl:b1=true:=by rw[HB1.out];simp[hj0,hk0]
       have HJ1:=Lib.hid hj0;have sH:=Lib.hid hk0;clear hj0 hk0 HB1;by_cases qb:j+1=N
       ·have d2:((a:Int)==(E:Int)-1)=true:=by have:=HA.out;have:=HE.out;simp;omega
        by_cases oq:k+1<ps.length
        ·have d4:decide ((k:Int)+1<(ps.length:Int))=true:=by simp;omega
         have d4b:decide (k+1<ps.length)=true:=decide_eq_true oq;obtain rfl:b2=true:=by rw[HB2.out];simp[qb,oq]
         clear qb oq HB2;refine aT 37 lG (by kernel_rfl) ?Wx (by kernel_rfl) ?_
         case Wx=>
          rintro ⟨a',w',hh⟩;exact hh
         simp only[List.take_succ_cons,List.take_zero,List.drop_succ_cons,List.drop_zero]
         repeat (with_reducible refine wpStill_step (fun K hK=> ?_);go_simp;(try refine ja (by decide) ?_);with_reducible refine hK _ ?_;clear hK K)
         with_reducible refine wpStill_nil ?_
         change wpList _ _ _ _ _ wq.drew;have iJ:=Lib.hid (mK.out.drew (by have:=mK.out.kp.size;exact this));obtain ⟨g0,g1,g2⟩:=Sq wq.drew iJ.out.t.fr qU.out hat;have gz:=iJ.out.t.fr;rw[qU.out] at gz
         replace gz:=gz.frozenAt
         generalize wq.drew=wv at*;go_wp2
         gi_wp2_with fail
         go_round
         case rel=>exact ⟨j+1,a+1,by omega,by have:=HA.out;omega,by go_num,by rw[Ew.out,Ex.out];exact iJ.out.zD qU.out hat (true,_,_)⟩
         case measure=>simp[intOf];omega
        ·have d4:decide ((k:Int)+1<(ps.length:Int))=false:=by simp;omega
         have d4b:decide (k+1<ps.length)=false:=decide_eq_false oq;obtain rfl:b2=e:=by rw[HB2.out];simp[qb,oq]
         clear qb oq HB2;refine aT 37 lG (by kernel_rfl) ?Wy (by kernel_rfl) ?_
         case Wy=>
          rintro ⟨a',w',hh⟩;exact hh
         simp only[List.take_succ_cons,List.take_zero,List.drop_succ_cons,List.drop_zero]
         repeat (with_reducible refine wpStill_step (fun K hK=> ?_);go_simp;(try refine ja (by decide) ?_);with_reducible refine hK _ ?_;clear hK K)
         with_reducible refine wpStill_nil ?_
         change wpList _ _ _ _ _ wq.drew;have iJ:=Lib.hid (mK.out.drew (by have:=mK.out.kp.size;exact this));obtain ⟨g0,g1,g2⟩:=Sq wq.drew iJ.out.t.fr qU.out hat;have gz:=iJ.out.t.fr;rw[qU.out] at gz
         replace gz:=gz.frozenAt
         generalize wq.drew=wv at*;go_wp2
         gi_wp2_with fail
         go_round
         case rel=>exact ⟨j+1,a+1,by omega,by have:=HA.out;omega,by go_num,by rw[Ew.out,Ex.out];exact iJ.out.zD qU.out hat (true,_,_)⟩
         case measure=>simp[intOf];omega
       ·have d2:((a:Int)==(E:Int)-1)=false:=by have:=HA.out;have:=HE.out;simp;omega
        obtain rfl:b2=false:=by rw[HB2.out];simp[qb]
        clear qb HB2;refine aT 37 lG (by kernel_rfl) ?Wz (by kernel_rfl) ?_
        case Wz=>
         rintro ⟨a',w',hh⟩;exact hh
        simp only[List.take_succ_cons,List.take_zero,List.drop_succ_cons,List.drop_zero]
        repeat (with_reducible refine wpStill_step (fun K hK=> ?_);go_simp;(try refine ja (by decide) ?_);with_reducible refine hK _ ?_;clear hK K)
        with_reducible refine wpStill_nil ?_
        change wpList _ _ _ _ _ wq.drew;have iJ:=Lib.hid (mK.out.drew (by have:=mK.out.kp.size;exact this));obtain ⟨g0,g1,g2⟩:=Sq wq.drew iJ.out.t.fr qU.out hat;have gz:=iJ.out.t.fr;rw[qU.out] at gz
        replace gz:=gz.frozenAt
        generalize wq.drew=wv at*;go_wp2
        gi_wp2_with fail
        go_round
        case rel=>exact ⟨j+1,a+1,by omega,by have:=HA.out;omega,by go_num,by rw[Ew.out,Ex.out];exact iJ.out.zD qU.out hat (true,_,_)⟩
        case measure=>simp[intOf];omega
      ·have d3:decide ((k:Int)>0)=false:=by simp;omega
       have d3b:decide (0<k)=false:=decide_eq_false hk0;obtain rfl:b1=s:=by rw[HB1.out];simp[hj0,hk0]
       clear hj0 hk0 HB1;by_cases qb:j+1=N
       ·have d2:((a:Int)==(E:Int)-1)=true:=by have:=HA.out;have:=HE.out;simp;omega
        by_cases oq:k+1<ps.length
        ·have d4:decide ((k:Int)+1<(ps.length:Int))=true:=by simp;omega
         have d4b:decide (k+1<ps.length)=true:=decide_eq_true oq;obtain rfl:b2=true:=by rw[HB2.out];simp[qb,oq]
         clear qb oq HB2;refine aT 37 lG (by kernel_rfl) ?WB (by kernel_rfl) ?_
         case WB=>
          rintro ⟨a',w',hh⟩;exact hh
         simp only[List.take_succ_cons,List.take_zero,List.drop_succ_cons,List.drop_zero]
         repeat (with_reducible refine wpStill_step (fun K hK=> ?_);go_simp;(try refine ja (by decide) ?_);with_reducible refine hK _ ?_;clear hK K)
         with_reducible refine wpStill_nil ?_
         change wpList _ _ _ _ _ wq.drew;have iJ:=Lib.hid (mK.out.drew (by have:=mK.out.kp.size;exact this));obtain ⟨g0,g1,g2⟩:=Sq wq.drew iJ.out.t.fr qU.out hat;have gz:=iJ.out.t.fr;rw[qU.out] at gz
         replace gz:=gz.frozenAt
         generalize wq.drew=wv at*;go_wp2
         gi_wp2_with fail
         go_round
         case rel=>exact ⟨j+1,a+1,by omega,by have:=HA.out;omega,by go_num,by rw[Ew.out,Ex.out];exact iJ.out.zD qU.out hat (true,_,_)⟩
         case measure=>simp[intOf];omega
        ·have d4:decide ((k:Int)+1<(ps.length:Int))=false:=by simp;omega
         have d4b:decide (k+1<ps.length)=false:=decide_eq_false oq;obtain rfl:b2=e:=by rw[HB2.out];simp[qb,oq]
         clear qb oq HB2;refine aT 37 lG (by kernel_rfl) ?WC (by kernel_rfl) ?_
         case WC=>
          rintro ⟨a',w',hh⟩;exact hh
         simp only[List.take_succ_cons,List.take_zero,List.drop_succ_cons,List.drop_zero]
         repeat (with_reducible refine wpStill_step (fun K hK=> ?_);go_simp;(try refine ja (by decide) ?_);with_reducible refine hK _ ?_;clear hK K)
         with_reducible refine wpStill_nil ?_
         change wpList _ _ _ _ _ wq.drew;have iJ:=Lib.hid (mK.out.drew (by have:=mK.out.kp.size;exact this));obtain ⟨g0,g1,g2⟩:=Sq wq.drew iJ.out.t.fr qU.out hat;have gz:=iJ.out.t.fr;rw[qU.out] at gz
         replace gz:=gz.frozenAt
         generalize wq.drew=wv at*;go_wp2
         gi_wp2_with fail
         go_round
         case rel=>exact ⟨j+1,a+1,by omega,by have:=HA.out;omega,by go_num,by rw[Ew.out,Ex.out];exact iJ.out.zD qU.out hat (true,_,_)⟩
         case measure=>simp[intOf];omega
       ·have d2:((a:Int)==(E:Int)-1)=false:=by have:=HA.out;have:=HE.out;simp;omega
        obtain rfl:b2=false:=by rw[HB2.out];simp[qb]
        clear qb HB2;refine aT 37 lG (by kernel_rfl) ?WE (by kernel_rfl) ?_
        case WE=>
         rintro ⟨a',w',hh⟩;exact hh
        simp only[List.take_succ_cons,List.take_zero,List.drop_succ_cons,List.drop_zero]
        repeat (with_reducible refine wpStill_step (fun K hK=> ?_);go_simp;(try refine ja (by decide) ?_);with_reducible refine hK _ ?_;clear hK K)
        with_reducible refine wpStill_nil ?_
        change wpList _ _ _ _ _ wq.drew;have iJ:=Lib.hid (mK.out.drew (by have:=mK.out.kp.size;exact this));obtain ⟨g0,g1,g2⟩:=Sq wq.drew iJ.out.t.fr qU.out hat;have gz:=iJ.out.t.fr;rw[qU.out] at gz
        replace gz:=gz.frozenAt
        generalize wq.drew=wv at*;go_wp2
        gi_wp2_with fail
        go_round
        case rel=>exact ⟨j+1,a+1,by omega,by have:=HA.out;omega,by go_num,by rw[Ew.out,Ex.out];exact iJ.out.zD qU.out hat (true,_,_)⟩
        case measure=>simp[intOf];omega
     ·have d1:((a:Int)==(ka:Int))=false:=by have:=HA.out;simp;omega
      obtain rfl:b1=false:=by rw[HB1.out];simp[hj0]
      clear hj0 HB1;by_cases qb:j+1=N
      ·have d2:((a:Int)==(E:Int)-1)=true:=by have:=HA.out;have:=HE.out;simp;omega
       by_cases oq:k+1<ps.length
       ·have d4:decide ((k:Int)+1<(ps.length:Int))=true:=by simp;omega
        have d4b:decide (k+1<ps.length)=true:=decide_eq_true oq;obtain rfl:b2=true:=by rw[HB2.out];simp[qb,oq]
        clear qb oq HB2;refine aT 37 lG (by kernel_rfl) ?WG (by kernel_rfl) ?_
        case WG=>
         rintro ⟨a',w',hh⟩;exact hh
        simp only[List.take_succ_cons,List.take_zero,List.drop_succ_cons,List.drop_zero]
        repeat (with_reducible refine wpStill_step (fun K hK=> ?_);go_simp;(try refine ja (by decide) ?_);with_reducible refine hK _ ?_;clear hK K)
        with_reducible refine wpStill_nil ?_
        change wpList _ _ _ _ _ wq.drew;have iJ:=Lib.hid (mK.out.drew (by have:=mK.out.kp.size;exact this));obtain ⟨g0,g1,g2⟩:=Sq wq.drew iJ.out.t.fr qU.out hat;have gz:=iJ.out.t.fr;rw[qU.out] at gz
        replace gz:=gz.frozenAt
        generalize wq.drew=wv at*;go_wp2
        gi_wp2_with fail
        go_round
        case rel=>exact ⟨j+1,a+1,by omega,by have:=HA.out;omega,by go_num,by rw[Ew.out,Ex.out];exact iJ.out.zD qU.out hat (true,_,_)⟩
        case measure=>simp[intOf];omega
       ·have d4:decide ((k:Int)+1<(ps.length:Int))=false:=by simp;omega
        have d4b:decide (k+1<ps.length)=false:=decide_eq_false oq;obtain rfl:b2=e:=by rw[HB2.out];simp[qb,oq]
        clear qb oq HB2;refine aT 37 lG (by kernel_rfl) ?WH (by kernel_rfl) ?_
        case WH=>
         rintro ⟨a',w',hh⟩;exact hh
        simp only[List.take_succ_cons,List.take_zero,List.drop_succ_cons,List.drop_zero]
        repeat (with_reducible refine wpStill_step (fun K hK=> ?_);go_simp;(try refine ja (by decide) ?_);with_reducible refine hK _ ?_;clear hK K)
        with_reducible refine wpStill_nil ?_
        change wpList _ _ _ _ _ wq.drew;have iJ:=Lib.hid (mK.out.drew (by have:=mK.out.kp.size;exact this));obtain ⟨g0,g1,g2⟩:=Sq wq.drew iJ.out.t.fr qU.out hat;have gz:=iJ.out.t.fr;rw[qU.out] at gz
        replace gz:=gz.frozenAt
        generalize wq.drew=wv at*;go_wp2
        gi_wp2_with fail
        go_round
        case rel=>exact ⟨j+1,a+1,by omega,by have:=HA.out;omega,by go_num,by rw[Ew.out,Ex.out];exact iJ.out.zD qU.out hat (true,_,_)⟩
        case measure=>simp[intOf];omega
      ·have d2:((a:Int)==(E:Int)-1)=false:=by have:=HA.out;have:=HE.out;simp;omega
       obtain rfl:b2=false:=by rw[HB2.out];simp[qb]
       clear qb HB2;refine aT 37 lG (by kernel_rfl) ?WI (by kernel_rfl) ?_
       case WI=>
        rintro ⟨a',w',hh⟩;exact hh
       simp only[List.take_succ_cons,List.take_zero,List.drop_succ_cons,List.drop_zero]
       repeat (with_reducible refine wpStill_step (fun K hK=> ?_);go_simp;(try refine ja (by decide) ?_);with_reducible refine hK _ ?_;clear hK K)
       with_reducible refine wpStill_nil ?_
       change wpList _ _ _ _ _ wq.drew;have iJ:=Lib.hid (mK.out.drew (by have:=mK.out.kp.size;exact this));obtain ⟨g0,g1,g2⟩:=Sq wq.drew iJ.out.t.fr qU.out hat;have gz:=iJ.out.t.fr;rw[qU.out] at gz
       replace gz:=gz.frozenAt
       generalize wq.drew=wv at*;go_wp2
       gi_wp2_with fail
       go_round
       case rel=>exact ⟨j+1,a+1,by omega,by have:=HA.out;omega,by go_num,by rw[Ew.out,Ex.out];exact iJ.out.zD qU.out hat (true,_,_)⟩
       case measure=>simp[intOf];omega
   ·have qb:j=N:=by omega
    have afR:a=E:=by have:=HA.out;have:=HE.out;omega
    have WJ:=OZ (s:=s) (e:=e) (off:=off) (x0:=x0) hk;rw[←HN.out,←qb,←hz] at WJ;rw[WJ] at hJ;have hlt2:¬(a:Int)<(E:Int):=by omega
    have yi:=hJ.di.cell 0;have fi:=hJ.di.frozen 0;simp at yi;have hwk:IntKind.i64.wrap ((k:Int)+1)=(k:Int)+1:=IntWalk.i64_in _ (by have:=iM.out;omega);have hnx:=hJ.next (by omega) (by omega) (by omega) (by omega)
    rw[show ((k+1:Nat):Int)=(k:Int)+1 by omega] at hnx;have Ak:=Lib.hid hnx;clear WJ qb afR hz hJ hnx ha
    gi_wp2_with fail
    exact ⟨Ak.out.kf,Ak.out.k2,Ak.out.t,by simpa using Ak.out.di,Ak.out.kp⟩
 case hdone=>
  intro D W hD hI Fs;have htk:dO sp ⟨sn,po,sg,la,off,s,e,ps⟩=⟨(Qe s e off ps x0 ps.length).1,(Qe s e off ps x0 ps.length).2,if fin=true then some en else sp.size⟩:=by
   have he:off+au ps=en:=by rw[PX.out];exact Tm.out
   unfold dO Qe jy uk;dsimp only;rw[HX0.out,he,jH.out,List.take_of_length_le (Nat.le_refl _)]
  have y0:=hI.t.bp.cell 0;simp at y0;have z2:W.cell? ⟨b,2,none⟩=some (.int .i64 (bY sp)):=hI.t.blk.cell 2;have fz2:=hI.t.blk.frozen 2;have Lx:=Lib.hid htk;have HI:=Lib.hid hI;clear htk hI;cases fin with
  |false=>
   have hs2:bY (dO sp ⟨sn,po,sg,la,off,s,e,ps⟩)=bY sp:=by rw[Lx.out];rfl
   have hfin:=HI.out.t.ZS (.deferred none) Fs rfl (by omega);have HS2:=Lib.hid hs2;have HF:=Lib.hid hfin;clear hs2 hfin
   gi_wp2
   go_wp2;refine ⟨by simp,.inl ⟨_,_,rfl,run_takeDeferred Fs,?_⟩⟩;refine ⟨.tuple #[],results_none rfl _ _ _,?_⟩;unfold zN;rw[if_neg (by rw[HNB.out];simp)];have h9:=HF.out;have h8:=Lx.out;refine ⟨rfl,EN,EO,⟨by rw[HS2.out];exact h9.blk,by rw[h8];exact h9.fr,by rw[h8];exact h9.dr⟩,h9.bf,h9.bd,h9.kp⟩
  |true=>
   have hs2:bY (dO sp ⟨sn,po,sg,la,off,s,e,ps⟩)=(en:Int):=by rw[Lx.out];rfl
   have hd2:(W.setCell ⟨b,2,none⟩ (.int .i64 (en:Int))).heap[D]? =some (.deferred (some [])):=(KeepsOthers.setCell W ⟨b,2,none⟩ (.int .i64 (en:Int))).same D _ Fs rfl;have hfin:=(HI.out.t.ae4 (en:Int)).ZS (.deferred none) hd2 rfl (by omega);have HS2:=Lib.hid hs2;have HF:=Lib.hid hfin;clear hs2 hfin
   gi_wp2
   go_wp2;refine ⟨by simp,.inl ⟨_,_,rfl,run_takeDeferred hd2,?_⟩⟩;refine ⟨.tuple #[],results_none rfl _ _ _,?_⟩;unfold zN;rw[if_neg (by rw[HNB.out];simp)];have h9:=HF.out;have h8:=Lx.out;refine ⟨rfl,EN,EO,⟨by rw[HS2.out];exact h9.blk,by rw[h8];exact h9.fr,by rw[h8];exact h9.dr⟩,h9.bf,h9.bd,h9.kp⟩
end
end Go.Proofs.YtiecgfahidpldaaGreat
