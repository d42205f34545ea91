/- amsend: chunk. -/
import Derived.Test.YtbhiklnljiehiaaGreatM3ar
import Derived.Test.YtbhiklnljiehiaaGreatM3as
set_option maxHeartbeats 4000000
set_option maxRecDepth 100000
namespace Go.Proofs.YtbhiklnljiehiaaGreat
open RowKit Shelf Tryz
attribute [local go_sem] Oper.semAt_some
section
variable {D F:Nat->Prop} {g:Nat} {c:Cf} {st:Sd} {vq vo:Value} {vs os:List Value} {w:World}
def qH (n:Int) (l:List (List UInt8)) (skip:Nat) (qs:List (List UInt8)) (size:Nat) (e:Bool):List (List UInt8) × Bool:=
 let q:=aI l skip
 let R:=l9 n (q.1.length+1) q.1 q.2 qs.length (wG qs) size e
 (qs++R.1,R.2.1)
theorem NF {n:Int} {x:List UInt8} {r:List (List UInt8)} {skip:Nat} {qs:List (List UInt8)} {size:Nat} {e:Bool} (h:x.length<=skip):qH n (x::r) skip qs size e=qH n r (skip-x.length) qs size e:=by
 unfold qH;have:aI (x::r) skip=aI r (skip-x.length):=by rw[aI,bD h]
 rw[this]
theorem NG {n:Int} {x:List UInt8} {r:List (List UInt8)} {skip:Nat} {qs:List (List UInt8)} {size:Nat} {e:Bool} (h:¬x.length<=skip):
 qH n (x::r) skip qs size e=(qs++(l9 n (r.length+1+1) (x::r) skip qs.length (wG qs) size e).1,(l9 n (r.length+1+1) (x::r) skip qs.length (wG qs) size e).2.1):=by
 unfold qH;have:aI (x::r) skip=(x::r,skip):=by rw[aI,aP h]
 rw[this];rfl
theorem NH {n:Int} {r:List (List UInt8)} {qs:List (List UInt8)} {size:Nat} {e:Bool} (h:∀s∈r,1<=s.length):
 qH n r 0 qs size e=(qs++(l9 n (r.length+1) r 0 qs.length (wG qs) size e).1,(l9 n (r.length+1) r 0 qs.length (wG qs) size e).2.1):=by
 unfold qH;rw[MJ r h]
def ahm (w:World) (n:Int) (Q:List (List UInt8)) (taken:Nat) (FIN:List (List UInt8) × Bool) (s5 s6 s22:Value) (wr:World):Prop:=
 ∃(k skip size:Nat) (qs:List (List UInt8)) (e sB:Bool) (Ap:Option Addr) (cp:Nat),k<=Q.length/\s5= .int .i64 (skip:Nat)/\s6= .int .i64 (size:Nat)/\s22= .int .i64 (k:Nat)/\qz w sB e Ap cp qs wr/\
  FIN=qH n (Q.drop k) skip qs size e/\(qs≠ []->sB=decide ((aI Q taken).2=0))/\(qs= []->aI (Q.drop k) skip=aI Q taken)/\skip<=1048576/\size<=32767/\qs.length<=64
theorem qz.cells3 {sB e:Bool} {Ap:Option Addr} {cp:Nat} {qs:List (List UInt8)} {wr:World} (h:qz w sB e Ap cp qs wr):(wr.setCell w (.bool sB)).cell? w=some (.bool sB)/\
 ((wr.setCell w (.bool sB)).setCell ⟨w,1,none⟩ (.bool e)).cell? ⟨w,1,none⟩=some (.bool e)/\(((wr.setCell w (.bool sB)).setCell ⟨w,1,none⟩ (.bool e)).setCell ⟨w,2,none⟩ (.slice Ap qs.length cp)).cell? ⟨w,2,none⟩=some (.slice Ap qs.length cp):=
 ⟨(h.set0 sB).blk.cell 0,((h.set0 sB).set1 e).blk.cell 1,(((h.set0 sB).set1 e).set2).blk.cell 2⟩
theorem Lg {sB e:Bool} {Ap:Option Addr} {cp:Nat} {qs:List (List UInt8)} {wr:World} {ST:Bool} {FIN:List (List UInt8) × Bool} (h:qz w sB e Ap cp qs wr) (hF:FIN=(qs,e)) (hs:qs≠ []->sB=ST):
 QN w ST FIN (.returned (.agg #[.bool sB,.bool e,.slice Ap qs.length cp])) (((wr.setCell w (.bool sB)).setCell ⟨w,1,none⟩ (.bool e)).setCell ⟨w,2,none⟩ (.slice Ap qs.length cp)):=by
 subst hF;have h3:=((h.set0 sB).set1 e).set2;exact ⟨Ap,cp,sB,rfl,h3.parts,h3.below,hs⟩
theorem SV (h:gu w D F g c st vq vs vo os) (n:Int) (hn:0<=n) (hn2:n<=9223372036854775807) (hsd:∀s∈st.queue,1<=s.length/\s.length<=9000) (htk:st.taken<=1048576):
 Calls prog 86 #[.pointer (some g),n] w (QN w (aJ n st).s ((aJ n st).ps,(aJ n st).e)):=by
 obtain ⟨j0,hj0,hm0,alT,alU⟩:=vz uq;obtain ⟨FIN,hF⟩:∃FIN,FIN=qH n st.queue st.taken [] 0 false:=⟨_,rfl⟩
 have hF2:((aJ n st).ps,(aJ n st).e)=FIN:=by rw[hF];rfl
 have hST:(aJ n st).s=decide ((aI st.queue st.taken).2=0):=rfl;rw[hF2,hST];have HF:=ah hF;have HSD:=ah hsd;have y7:=h.blk.cell 7;have KQ:=h.blk.cell 10;simp[fV] at y7 KQ;obtain ⟨A,cc,rfl,hs⟩:=h.WV;have hcap:=hs.sl.cap;have hmx:=hs.sl.mx;have HS:=ah hs;have Xm:=ah (qz.new w);have hgl:=h.blk.lt;generalize st.queue=Q at*;generalize st.taken=taken at*;clear h hF hF2 hST hs hsd;go_enter func86,ntmps86;go_wp2
 go_loopw [5,6,22] (fun s5 s6 s22 wr=>ahm w n Q taken FIN s5 s6 s22 wr) (fun _ _ i _=>Q.length-(intOf i).toNat)
 case atStart=>exact ⟨0,taken,0,[],false,false,none,0,eH _,rfl,rfl,rfl,Xm.out,by rw[HF.out];rfl,fun h=>absurd rfl h,fun _=>rfl,htk,by omega,by simp⟩
 case round=>
  obtain ⟨k,skip,size,qs,e,sB,Ap,cp,hk,rfl,rfl,rfl,hC,hfin,hsB,hq0,CU,hsz,alV⟩:=hrel;have HC:=ah hC;have Gn:=ah hsB;have HQ0:=ah hq0;have lz:=ah hfin;have hbl:=hC.below;obtain ⟨z0,z1,z2⟩:=(show wr.cell? w=some (.bool sB)/\wr.cell? ⟨w,1,none⟩=some (.bool e)/\wr.cell? ⟨w,2,none⟩=some (.slice Ap qs.length cp) from ⟨hC.blk.cell 0,hC.blk.cell 1,hC.blk.cell 2⟩);have r0:=hC.blk.frozen 0;have r1:=hC.blk.frozen 1;have r2:=hC.blk.frozen 2;have hsW:=(HS.out.below hbl).more hbl.size;clear hsB hq0 hfin hC;by_cases hlt:k<Q.length
  ·obtain ⟨x,hx⟩:∃x,Q[k]? =some x:=⟨_,gX hlt⟩
   have hdr:Q.drop k=x::Q.drop (k+1):=by
    rw[List.drop_eq_getElem_cons hlt]
    congr 1
    rw[gX hlt] at hx;exact Option.some.inj hx
   have hxl:=HSD.out x (iT hx);have HXC:=ah (HS.out.get hlt);have HXX:=ah hx;rw[hdr] at lz;have HDR:=ah hdr;clear hdr hx hsW;obtain ⟨ad,Ai,ci,rfl,FC,VX,Ri⟩:=HXC.out;have hgx:Q[k]?.getD []=x:=by rw[HXX.out];rfl
   rw[hgx] at VX Ri;have Dz:=Ri.below hbl;have alW:=(hbl.cell (p:=ad.add k) (by rw[block_add];exact FC)).trans VX;have alX:=ah Ri;clear Ri VX;clear hgx HXC;have hcx:=Dz.cap;have akJ:=Dz.mx;by_cases hsk:x.length<=skip
   ·have hf:=lz.out;rw[NF hsk] at hf;have hfs:=HDR.out;have Qb:=ah hf;have dsk:decide (x.length<=skip)=true:=iK hsk;clear hf hfs Dz;go_wp2
    go_roundw
    case rel=>
     refine ⟨k+1,skip-x.length,size,qs,e,sB,Ap,cp,by omega,by go_num,rfl,by go_num,HC.out,Qb.out,Gn.out,fun hq=> ?_,by omega,hsz,alV⟩;rw[<-HQ0.out hq,HDR.out];rw[aI,bD hsk]
    case measure=>simp[intOf];omega
   ·have dsk:decide (x.length<=skip)=false:=iP hsk;have hf:=lz.out;rw[NG hsk] at hf;have Qb:=ah hf;clear hf;go_upto_region 8 with (fail)
    obtain ⟨b1,hb1⟩:∃b1,b1=decide (qs.length=64\/(0<qs.length/\2047<wG qs)):=⟨_,rfl⟩
    have HB1:=ah hb1;clear hb1;go_cut [52] (fun s52 wx=>s52= .bool b1/\wx=wr)
    case first=>
     have hb:=HB1.out;by_cases h0:qs.length=0
     ·have e1:b1=false:=by rw[hb];exact iP (by omega)
      subst e1;have d0:decide (0<qs.length)=false:=iP (by omega);rw[h0] at z2;clear hb;go_wp2;go_meet;exact ⟨rfl,rfl⟩
     ·have d0:decide (0<qs.length)=true:=iK (by omega);by_cases h64:qs.length=64
      ·have e1:b1=true:=by rw[hb];exact iK (by omega)
       subst e1;have d64:((qs.length:Int)==64)=true:=by simp;omega
       have H64:=ah h64;clear hb h64;go_wp2;go_meet;exact ⟨rfl,rfl⟩
      ·have d64:((qs.length:Int)==64)=false:=by simp;omega
       obtain ⟨Fe,hrow,hpe⟩:=HC.out.parts;obtain ⟨q,hq⟩:∃q,qs[qs.length-1]? =some q:=⟨_,gX (by omega)⟩
       have hlast:=UL hq;obtain ⟨Aq,cq,hv,hrq⟩:=hpe _ q hq;have hsq:=gK hrq;obtain ⟨adp,_,rfl,alY,hg1,hg2⟩:=(gK hrow).get (k:=qs.length-1) (by omega);rw[hv] at hg1;cases hg1;rw[hlast] at hb;have hcap1:=(gK hrow).cap;have akA:=(gK hrow).mx;have apd:=hsq.cap;have asS:=hsq.mx;have hd2:decide (2047<q.length)=b1:=by rw[hb];exact decide_eq_decide.2 (by omega)
       have HD2:=ah hd2;clear hb hd2 hq hlast hv hrq hsq hrow hpe;cases b1 with
       |true=>
        have hd3:decide ((2047:Int)<q.length)=true:=by have:=HD2.out;simp at this ⊢;omega
        have hd4:decide (2047<q.length)=true:=HD2.out;go_wp2;go_meet;exact ⟨rfl,rfl⟩
       |false=>
        have hd3:decide ((2047:Int)<q.length)=false:=by have:=HD2.out;simp at this ⊢;omega
        have hd4:decide (2047<q.length)=false:=HD2.out;go_wp2;go_meet;exact ⟨rfl,rfl⟩
    case rest=>
    obtain ⟨rfl,rfl⟩:=hcut;by_cases hst:qs.length=64\/(0<qs.length/\2047<wG qs)
    ·have e1:b1=true:=by rw[HB1.out];exact iK hst
     subst e1;have hR:FIN=(qs,e):=by rw[Qb.out,l9,bD hst];simp
     have HR:=ah hR;clear hR Dz hst;go_wp2;obtain ⟨p0,p1,p2⟩:=HC.out.cells3;refine oZ (v:= .agg #[.bool sB,.bool e,.slice Ap qs.length cp]) (by simp[results,results86,go_sem,p0,p1,p2]) rfl ?_;exact Lg HC.out HR.out Gn.out
    have e1:b1=false:=by rw[HB1.out];exact iP hst
    subst e1;rw[l9,aP hst] at Qb;obtain ⟨room,hroom⟩:∃room:Int,room=min (n-iV ((qs.length:Int)+1)) 32767-(size:Int):=⟨_,rfl⟩
    rw[<-hroom] at Qb;have asT:qs.length<=63:=by omega
    have hh:=DZ ((qs.length:Int)+1);have hhd:=wF ((qs.length:Int)+1) false;rw[Fv] at hhd;have HHD:=ah hhd;have HRM:=ah hroom;have HST:=ah hst;clear hhd hroom hst HB1;generalize iV ((qs.length:Int)+1)=hd at*;go_upto_region 9 with (fail)
    go_cut [10] (fun s10 wx=>s10= .int .i64 room/\wx=wc)
    case first=>
     clear Dz;go_wp2_with fail;refine (HHD.out _ ⟨by omega,by omega⟩).mono ?_;rintro e1 w1 ⟨rfl,rfl⟩;go_wp2_with fail
     all_goals
      go_meet;exact ⟨by rw[HRM.out];congr 1;omega,rfl⟩
    case rest=>
    obtain ⟨rfl,rfl⟩:=hcut;have hrb:room<=32767-size/\ -1000000<=room:=by have:=HRM.out;omega
    by_cases hr1:room<1
    ·have hR:FIN=(qs,e):=by rw[Qb.out,bD hr1];simp
     have HR:=ah hR;clear hR Dz;go_wp2;obtain ⟨p0,p1,p2⟩:=HC.out.cells3;refine oZ (v:= .agg #[.bool sB,.bool e,.slice Ap qs.length cp]) (by simp[results,results86,go_sem,p0,p1,p2]) rfl ?_;exact Lg HC.out HR.out Gn.out
    rw[aP hr1] at Qb;obtain ⟨m,hm⟩:∃m:Nat,room=m:=⟨room.toNat,by omega⟩
    subst hm;rw[Es] at Qb;have hm1:1<=m:=by omega
    have hm2:size+m<=32767:=by omega
    clear hrb hr1 HRM HHD hh;go_upto_if 64 with (fail)
    obtain ⟨ST,hST⟩:∃ST,ST=decide ((aI Q taken).2=0):=⟨_,rfl⟩
    have hss:qs= []->decide (skip=0)=ST:=fun hq=>by
     have:=HQ0.out hq;rw[HDR.out,aI,aP hsk] at this;rw[hST,<-this]
    rw[<-hST] at Gn;have WT:=ah hss;have aho:=ah hST;clear hss hST;go_cut [] (fun wx=>qz w ST e Ap cp qs wx)
    case first=>
     by_cases hq:qs= []
     ·have hs0:=WT.out hq;have d0:((qs.length:Int)==0)=true:=by rw[hq];rfl
      have d1:((skip:Int)==0)=ST:=by rw[<-hs0];exact decide_eq_decide.2 (by omega)
      have HQ:=ah hq;clear hq hs0 Dz;go_wp2;go_meet;exact HC.out.set0 ST
     ·have hsb:=Gn.out hq;subst hsb;have d0:((qs.length:Int)==0)=false:=by
       have:0<qs.length:=Iz.2 hq;simp;omega
      clear Dz;go_wp2;go_meet;exact HC.out
    case rest=>
    have hC2:=hcut;clear hcut Dz alW z0 z1 z2 r0 r1 r2 HC;generalize wc=w2 at*;have HC:=ah hC2;have hsx:=(alX.out.below hC2.below).more hC2.below.size;have Ko:=hC2.below;have h0x:0<x.length:=by omega
    obtain ⟨ai,rfl,akI,_⟩:=hsx.at_ h0x;clear hC2;have ahp:¬ci=skip:=by omega
    have hle2:(x.length:Int)<=ci:=by omega
    go_upto_region 15 with (fail)
    obtain ⟨L,hL⟩:∃L,L=min m (x.length-skip):=⟨_,rfl⟩
    have eL:(if x.length-skip<m then ((x.length-skip:Nat):Int) else (m:Int))=(L:Int):=by rw[hL];split<;>omega
    have hmid:=hsx.mid (a:=skip) (m:=L) (by omega);rw[aP ahp] at hmid;have e1:((dz x).drop skip).take L=dz ((x.drop skip).take L):=by simp[dz]
    rw[e1] at hmid;have RV:((x.drop skip).take L).length=L:=by rw[kz,kC];omega
    have hL1:1<=L:=by omega
    have hLm:L<=m:=by omega
    have hLK:L<=x.length-skip:=by omega
    have Q0:x.length-skip<=9000:=by omega
    rw[eL];simp only[Es];obtain ⟨pp,hpp⟩:∃pp,pp=(x.drop skip).take L:=⟨_,rfl⟩
    rw[<-hpp] at hmid RV;obtain ⟨K,hK⟩:∃K,K=x.length-skip:=⟨_,rfl⟩
    rw[<-hK] at hLK Q0 ⊢;have Yi:=ah hpp;have HK:=ah hK;have HL:=ah hL;have RX:=ah RV;have aaF:Sl w2 w2 (some (ai.add skip)) L K (dz pp):=by
     obtain ⟨q1,q2,q3,q4⟩:=hmid;exact ⟨q1,by omega,by omega,q4⟩
    have hcl:=pO (some (ai.add skip)) L K pp w2.drew aaF.drew (by omega);have yB:=ah hcl;obtain ⟨Fe,kG,hpx⟩:=HC.out.parts;have z0:=HC.out.blk.cell 0;have z1:=HC.out.blk.cell 1;have z2:=HC.out.blk.cell 2;have r0:=HC.out.blk.frozen 0;have r1:=HC.out.blk.frozen 1;have r2:=HC.out.blk.frozen 2;simp at z0 z1 z2;have hl2:=HC.out.blk.lt;have hvl:Fe.length=qs.length:=(gK kG).len;have HVO:=ah kG;have HPX:=ah hpx;clear eL hmid e1 hpp hK hL RV aaF hcl hsx ahp hle2 kG hpx Ko hvl
    go_region_law (first
     |((refine fA _ (by rfl) _ _ 37 (by rfl) w 31 j0 (.slice none 0 0) 24 wE hj0 hm0 alT alU rfl (.slice Ap qs.length cp) qs.length Fe (by rfl) ((own_below (World.ownsRow.drew' HVO.out) hb1 (aL)).alloc (.cells #[.slice A1 L c1] 31)) (w1.alloc (.cells #[.slice A1 L c1] 31)).heap.size (some ⟨w1,0,none⟩) 1 1 [.slice A1 L c1] (by rfl) (Yj w1 (.slice A1 L c1) 31) (by simp[Value.oneCell']) (by unfold maxLen;omega) (by omega) (by have:=hb1.size;simp at this ⊢;omega) ?_;intro v5 w5 hown5 dV _;obtain ⟨A5,c5,rfl,hs5,_⟩:=aY hown5;have vI:=((HC.out.blk.drew.below hb1 hl2).alloc (.cells #[.slice A1 L c1] 31)).grown dV (fun e=>aK HVO.out HC.out.blk (by decide) e.symm);have q2:=vI.cell 2;have q3:=vI.frozen 2;simp at q2))
     |((go_simp;(with_reducible refine yB.out.mono ?_);rintro e1 w1 ⟨v1,rfl,hv1,hb1⟩;obtain ⟨A1,c1,rfl,hs1,_⟩:=aY hv1;have z2':=(hb1.cell (p:=⟨w,2,none⟩) hl2).trans z2;have acv:w.heap.size<w1.heap.size:=zD hl2 hb1.size;have al0:=(yx w1 (.cells #[.slice A1 L c1] 31) ⟨w,2,none⟩ acv).trans z2';have f0':=(hb1.frozen (p:=⟨w,2,none⟩) hl2).trans r2)))
    all_goals
     have hC3:=(HC.out.drewN 1).push RX.out (World.ownsRow.drew' HVO.out) (fun i p hi=>let ⟨A,c,e1,h1⟩:=HPX.out i p hi;⟨A,c,e1,World.ownsRow.drew' h1⟩) hb1 hv1 hown5 dV;have c0:=hC3.blk.cell 0;have c1':=hC3.blk.cell 1;have c2:=hC3.blk.cell 2;have g0:=hC3.blk.frozen 0;have g1:=hC3.blk.frozen 1;have g2:=hC3.blk.frozen 2;simp at c0 c1' c2;have HC3:=ah hC3;clear hC3 hown5 dV hv1 hs1 hs5 q2 q3 vI z0 z1 z2 r0 r1 r2 f0' z2' al0;generalize w5.setCell ⟨w,2,none⟩ (.slice A5 (qs.length+1) c5)=w6 at*;by_cases acX:L=K
     ·have dLK:((L:Int)==(K:Int))=true:=by simp;omega
      have hend:¬skip+m<x.length:=by have:=HK.out;have:=HL.out;omega
      have hf:=Qb.out;rw[aP hend] at hf;have hpe:pp=x.drop skip:=by rw[Yi.out,kI (by rw[kC];have:=HK.out;omega)]
      have hFN:FIN=qH n (Q.drop (k+1)) 0 (qs++ [pp]) (size+L) true:=by
       rw[NH (fun s hs=>(HSD.out s (List.mem_of_mem_drop hs)).1),Pe,RX.out,hf,hpe];have e1:x.length-skip=L:=by rw[acX,HK.out]
       simp only[e1,l8,Ep,oJ,List.singleton_append]
      have UF:=ah hFN;have asY:=ah acX;have Xn:=HC3.out.set1 true;have HC4:=ah Xn;clear hf hpe hFN acX Xn;go_wp2
      go_roundw
      case rel=>
       exact ⟨k+1,0,size+L,qs++ [pp],true,ST,A5,c5,by omega,by go_num,by go_num,by go_num,HC4.out,UF.out,fun _=>aho.out,fun h=>by simp at h,by omega,by omega,by simp;omega⟩
      case measure=>simp[intOf];omega
     ·have dLK:((L:Int)==(K:Int))=false:=by simp;omega
      have hend:skip+m<x.length:=by have:=HK.out;have:=HL.out;omega
      have acY:L=m:=by have:=HK.out;have:=HL.out;omega
      have hf:=Qb.out;rw[bD hend,<-acY,<-Yi.out] at hf;have HR:=ah hf;have Xn:=HC3.out.set1 false;have d0:=Xn.blk.cell 0;have d1:=Xn.blk.cell 1;have d2:=Xn.blk.cell 2;simp at d0 d1 d2;have HC4:=ah Xn;have HLM:=ah acY;clear hf Xn acY;go_wp2;obtain ⟨p0,p1,p2⟩:=HC4.out.cells3;simp only[l8,Ep] at p2;refine oZ (v:= .agg #[.bool ST,.bool false,.slice A5 (qs.length+1) c5]) (by simp[results,results86,go_sem,p0,p1,p2]) rfl ?_;have hO:=Lg HC4.out HR.out (fun _=>aho.out);simp only[l8,Ep] at hO;exact hO
  ·have hR:FIN=(qs,e):=by
    rw[lz.out,List.drop_of_length_le (by omega)];simp[qH,aI,l9]
   have HR:=ah hR;clear hR hsW hbl;go_wp2;obtain ⟨p0,p1,p2⟩:=HC.out.cells3;refine oZ (v:= .agg #[.bool sB,.bool e,.slice Ap qs.length cp]) (by simp[results,results86,go_sem,p0,p1,p2]) rfl ?_;exact Lg HC.out HR.out Gn.out
end
def F6 (P:Program) (fn:Func) (c₀:Frame) (cs cs':List Frame) (R:Ending->FrameMode->World->Prop) (e:Exit) (a:Act) (w:World):Prop:=bodyPostS P fn c₀ cs R e a cs' w
theorem iw (be:Nat) (w:World):
 CallsD prog 76 #[.pointer (some be)] .returning w fun e u' w'=>e= .returned (.tuple #[])/\u'= .returning/\w=w':=by
 have hnn:=run_eql_nil_nil (P:=prog) w (t:=20) (by kernel_rfl);refine xP func76 rfl fun c₀ cs hu=> ?_
 apply wpS_seq;apply xU;generalize hQ:Exit.thenS _ _=Q;simp[wpOpsS,go_sem,recoverD,hu,ntmps76];subst hQ;simp only[Exit.thenS];refine xV ?_;rw[show (#[.pointer (some be)]++((Array.replicate 17 undef).setIfInBounds 4 (.nilIface)).setIfInBounds 1 (.nilIface):Array Value)= #[.pointer (some be),undef,.nilIface,undef,undef,.nilIface,undef,undef,undef,undef,undef,undef,undef,undef,undef,undef,undef,undef] from by kernel_rfl];change Code.wp _ _ (F6 prog Tryz.f76 c₀ cs (c₀::cs) _) _ w;go_wp2;cases c₀
 simp_all [F6,bodyPostS,results,results76]
theorem F7 (w:World):(Instr.typeAssert (.iface 191 (.agg #[])) 20 191 true).run prog w= .ok (.tuple #[.agg #[],.bool true]) w:=by kernel_rfl
theorem mR (be:Nat) (v4:Value) (w:World) (he:av w be 53 #[v4]):
 CallsD prog 76 #[.pointer (some be)] (.panicking [{v:= .iface 191 (.agg #[]),recovered:=false}]) w fun e u' w'=>e= .returned (.tuple #[])/\u'= .panicking [{v:= .iface 191 (.agg #[]),recovered:=true}]/\
  (w.alloc (.cells #[] 191)).setCell be (.int .i64 8)=w':=by
 have hnn:=run_eql_held_nil (P:=prog) w 20 191 (.agg #[]) (by kernel_rfl);have hta:=F7 w;refine xP func76 rfl fun c₀ cs hu=> ?_
 apply wpS_seq;apply xU;generalize hQ:Exit.thenS _ _=Q;simp[wpOpsS,go_sem,recoverD,hu,ntmps76];subst hQ;simp only[Exit.thenS];refine xV ?_;rw[show (#[.pointer (some be)]++((Array.replicate 17 undef).setIfInBounds 4 (.iface 191 (.agg #[]))).setIfInBounds 1 (.iface 191 (.agg #[])):Array Value)= #[.pointer (some be),undef,.iface 191 (.agg #[]),undef,undef,.iface 191 (.agg #[]),undef,undef,undef,undef,undef,undef,undef,undef,undef,undef,undef,undef] from by kernel_rfl];change Code.wp _ _ (F6 prog Tryz.f76 c₀ cs _ _) _ w;have c4:=(he.alloc (.cells #[] 191)).cell 0;have f4:=(he.alloc (.cells #[] 191)).frozen 0;simp at c4;go_wp2;exact ⟨rfl,_,rfl,.tuple #[],by simp[results,results76],rfl,rfl,rfl⟩
section
variable {D F:Nat->Prop} {g:Nat} {c:Cf} {st:Sd} {vq vo:Value} {vs os:List Value} {w:World}
theorem SB (h:gu w D F g c st vq vs vo os) (ht:1<=c.timer) {K:Nat} (hB:lK st K) (hK:K<=90000) (hw:st.out.length<=512) (now:Int) (hn:now<=9223372036854775807):
 Calls prog 51 #[.pointer (some g),now] w fun e w'=>e= .returned (.int .i64 (eY c st now).2)/\pK w D F g c (eY c st now).1 w':=by
 have hA:=h.alloc (.cells #[.int .i64 0] 53);have hch:=lu hA ht;have uy:=ah hch;have HH:=ah h;cases hf:st.failed with
 |true=>
  rw[hf] at uy;have hfin:eY c st now=(st,8):=by unfold eY;rw[bD hf]
  rw[hfin];simp only[bD] at uy;clear h hA hch hf hfin
  go_enter_defers func51,ntmps51
  go_wp2_with fail;refine uy.out.mono ?_;rintro e1 w1 ⟨rfl,rfl⟩;go_wp2;refine ⟨.int .i64 8,by simp[results,results51,go_sem],rfl,?_⟩;exact (HH.out.alloc _).o ((Kept.refl _ w).alloc _)
 |false=>
  rw[hf] at uy;have hfin:eY c st now=(aB c st now,if (aB c st now).failed=true then 8 else 0):=by unfold eY;rw[aP (by simp[hf])]
  rw[hfin];obtain ⟨r,hr⟩:∃r:Int,(if (aB c st now).failed=true then 8 else 0)=r:=⟨_,rfl⟩
  simp only[hr];have HR:=ah hr;clear hr;simp only[mq,l7] at uy;have hgo:=Cc hA now;have yh:=ah hgo;have HF:=ah hf;have hB1:=hB.clock hn;have HB1:=ah hB1;have Dy:=av.new w 53 #[.int .i64 0];have Ol:=ah Dy;clear h hA hch hfin hgo hf hB1 Dy
  go_enter_defers func51,ntmps51
  go_wp2_with fail;refine uy.out.mono ?_;rintro e1 w1 ⟨rfl,rfl⟩;go_wp2_with fail;refine yh.out.mono ?_;rintro e2 w2 ⟨rfl,hA2,hk2⟩;have hex:=AB hA2 HB1.out (by omega) hw HF.out;have vK:=Ol.out.kept hk2 (HH.out.fresh (aL));have HEX:=ah hex;have xN:=ah vK;have hkk:Kept (fun k _=>D k) w w2:=((Kept.refl _ w).alloc _).trans hk2;have HKK:=ah hkk;clear hA2 hex vK hk2 hkk;go_wp2_with fail;refine HEX.out.mono ?_;rintro e3 w3 ⟨⟨hf3,rfl⟩|⟨hf3,rfl⟩,hO3⟩
  ·have tX:=xN.out.kept hO3.kept (HH.out.fresh (aL));have c3:=tX.cell 0;have f3:=tX.frozen 0;have c4:=(tX.ay 0 (.int .i64 0)).cell 0;simp at c3 c4;have Vw:=ah hO3;have HC4:=ah c4;have PS:=ah hf3;clear tX hO3 c4 hf3;go_wp2;refine nD (f:=76) (args:= #[.pointer (some w)]) (by simp) (by simp[go_sem]) ?_;refine (iw _ _).mono ?_;rintro e9 u9 w9 ⟨rfl,rfl,rfl⟩;have q:=HC4.out;have hf4:(aB c st now).failed=false:=PS.out;refine ⟨.int .i64 0,by simp[results,results51,go_sem,q],by rw[<-HR.out,hf4];rfl,?_⟩;exact Vw.out.put HKK.out (aL) xN.out.lt HH.out.lt HH.out.sub 0 _
  ·have tX:=xN.out.kept hO3.kept (HH.out.fresh (aL));have Vw:=ah hO3;have PS:=ah hf3;have Co:=ah tX;clear tX hO3 hf3;go_wp2;refine nD (f:=76) (args:= #[.pointer (some w)]) (by simp) (by simp[go_sem]) ?_;refine (mR _ _ w3 Co.out).mono ?_;rintro e9 u9 w9 ⟨rfl,rfl,rfl⟩;have q:=((Co.out.alloc (.cells #[] 191)).ay 0 (.int .i64 8)).cell 0;simp at q;have hf4:(aB c st now).failed=true:=PS.out;refine ⟨.int .i64 8,by simp[results,results51,go_sem,q],by rw[<-HR.out,hf4];rfl,?_⟩;exact (Vw.out.alloc _).put HKK.out (aL) xN.out.lt HH.out.lt HH.out.sub 0 _
end
section
variable {D F:Nat->Prop} {g:Nat} {c:Cf} {st:Sd} {vq vo:Value} {vs os:List Value} {w:World}
theorem gu.grow (h:gu w D F g c st vq vs vo os) {W2 w5:World} {x:Ou} {Ap A5:Option Addr} {cp c5 p base:Nat} (hb2:Below w w W2) (hp:av W2 p 152 (My x (.slice Ap x.ps.length cp) (.slice none 0 0))) (hpw:w<=p)
 (hpo:cZ W2 base (.slice Ap x.ps.length cp) x.ps) (hbase:w<=base) (hpe:x.pend= []) (_hxp:∀q∈x.ps,1<=q.length)
 (hq:fU w5 0 138 (.slice A5 (st.out.length+1) c5) (st.out.length+1) (os++ [.pointer (some p)])) (hg:(W2.alloc (.cells #[.pointer (some p)] 138)).grownBy w5 (bM vo))
 (hq5:∀k,bM (.slice A5 (st.out.length+1) c5)=some k->bM vo=some k\/(W2.alloc (.cells #[.pointer (some p)] 138)).heap.size<=k):
 ∃D' F' vl,gu (w5.setCell ⟨g,12,none⟩ (.slice A5 (st.out.length+1) c5)) D' F' g c {st with out:=st.out++ [x]} vq vs (.slice A5 (st.out.length+1) c5) (os++ [.pointer (some p)])/\dU w D D'/\dU w F F'/\
  Kept (fun k _=>D k) w (w5.setCell ⟨g,12,none⟩ (.slice A5 (st.out.length+1) c5))/\jv (w5.setCell ⟨g,12,none⟩ (.slice A5 (st.out.length+1) c5)) D' F' p x Ap cp vl none 0:=by
 have hz2:=hb2.size;have hzA:(W2.alloc (.cells #[.pointer (some p)] 138)).heap.size=W2.heap.size+1:=mZ _ _;have hgl:=h.blk.lt;have hgA:=(h.blk.below hb2 hgl).alloc (.cells #[.pointer (some p)] 138);have hg5:=hgA.grown hg (fun e=>h.gne.2 e.symm);have QO:=hg.size;have QM:(w5.setCell ⟨g,12,none⟩ (.slice A5 (st.out.length+1) c5)).heap.size=w5.heap.size:=by simp[World.setCell]
 have GJ:∀k,k<W2.heap.size->k≠g->bM vo≠some k->(w5.setCell ⟨g,12,none⟩ (.slice A5 (st.out.length+1) c5)).heap[k]? =W2.heap[k]? :=fun k hk hkg hkq=>by
  rw[iE (show k≠(⟨g,12,none⟩:Addr).block from hkg),hg.block k (by omega) (fun e=>hkq e.symm),yA _ _ k hk]
 have hh:∀k,k<w.heap.size->k≠g->bM vo≠some k->(w5.setCell ⟨g,12,none⟩ (.slice A5 (st.out.length+1) c5)).heap[k]? =w.heap[k]? :=fun k hk hkg hkq=>(GJ k (by omega) hkg hkq).trans (hb2.block k hk)
 have UM:∀k,F k->k≠g->bM vq≠some k->bM vo≠some k->(w5.setCell ⟨g,12,none⟩ (.slice A5 (st.out.length+1) c5)).heap[k]? =w.heap[k]? :=fun k hf h1 _ h2=>hh k (h.lt k hf) h1 h2
 have hfr:∀k,w.heap.size<=k->k≠g/\bM vo≠some k:=fun k hk=>⟨by omega,fun e=>by have:=(h.yL.lt e).2;omega⟩
 have hq6:=hq.store hg5 (by decide) (i:=12) (.slice A5 (st.out.length+1) c5);have ML:∀k,bM (.slice A5 (st.out.length+1) c5)=some k->D k\/W2.heap.size+1<=k:=fun k hk=>by
  rcases hq5 k hk with e|e
  ·exact .inl (h.od k e)
  ·exact .inr (by omega)
 have hpl:=hp.lt;have hnn:∀k,F k->¬D k->¬(D k\/k=p\/bM (.slice A5 (st.out.length+1) c5)=some k):=fun k hf hd e=>by
  have:=h.lt k hf;rcases e with e|e|e
  ·exact hd e
  ·omega
  ·rcases ML k e with e|e
   ·exact hd e
   ·omega
 obtain ⟨vl,h1,h2⟩:=hpo;have hfp:(w5.setCell ⟨g,12,none⟩ (.slice A5 (st.out.length+1) c5)).heap[p]? =W2.heap[p]? :=GJ p hpl (hfr p hpw).1 (hfr p hpw).2;have hin:∀(k:Nat),base<=k->k<W2.heap.size->k≠p->(F k\/(w.heap.size<=k/\k<w5.heap.size))/\¬(D k\/k=p\/bM (.slice A5 (st.out.length+1) c5)=some k):=fun k hk1 hk2 hk3=>by
  refine ⟨.inr ⟨by omega,by omega⟩,?_⟩;rintro (e|e|e)
  ·have:=h.lt k (h.sub k e);omega
  ·exact hk3 e
  ·rcases ML k e with e|e
   ·have:=h.lt k (h.sub k e);omega
   ·omega
 have hOx:jv (w5.setCell ⟨g,12,none⟩ (.slice A5 (st.out.length+1) c5)) (fun k=>D k\/k=p\/bM (.slice A5 (st.out.length+1) c5)=some k) (fun k=>F k\/(w.heap.size<=k/\k<w5.heap.size)) p x Ap cp vl none 0:=by
  refine ⟨?_,.inr (.inl rfl),.inr ⟨hpw,by omega⟩,⟨(gK h1).stay (fun ad e=> ?_),rfl,fun i q hi=> ?_⟩,fun ad e=> ?_,fun i v hv ad e=> ?_,by rw[hpe];exact fQ.nil _,fun ad e=>by cases e⟩
  ·have:av W2 p 152 (My x (.slice Ap x.ps.length cp) (.slice none x.pend.length 0)):=by rw[hpe];exact hp
   exact hfp.trans this
  ·subst e;have hl:=h1.lt ad.block rfl;exact GJ _ hl.2 (hfr _ (by omega)).1 (hfr _ (by omega)).2
  ·obtain ⟨A,cq,e,ho⟩:=h2 i q hi;refine ⟨A,cq,e,(gK ho).stay fun ad ea=> ?_⟩;subst ea;have hl:=ho.lt ad.block rfl;exact GJ _ hl.2 (hfr _ (by omega)).1 (hfr _ (by omega)).2
  ·subst e;have hl:=h1.lt ad.block rfl;exact hin _ hl.1 hl.2 (fun e2=>aK h1 hp (by decide) (by rw[<-e2];rfl))
  ·have hil:i<x.ps.length:=by
    have:=(pN.1 hv).1;rw[(gK h1).len] at this;exact this
   obtain ⟨q,hqi⟩:∃q,x.ps[i]? =some q:=⟨_,gX hil⟩
   obtain ⟨A,cq,e2,ho⟩:=h2 i q hqi;rw[e2] at hv;cases hv;have e3:A=some ad:=e;subst e3;have hl:=ho.lt ad.block rfl;exact hin _ hl.1 hl.2 (fun e2=>aK ho hp (by decide) (by rw[<-e2];rfl))
 refine ⟨fun k=>D k\/k=p\/bM (.slice A5 (st.out.length+1) c5)=some k,fun k=>F k\/(w.heap.size<=k/\k<w5.heap.size),vl,⟨hg5.ay 12 (.slice A5 (st.out.length+1) c5),.inl h.gd,?_,?_,?_,fun k hk=> .inl (h.qd k hk),?_,?_,fun k hk=> .inr (.inr hk),?_,?_⟩,?_,?_,?_,hOx⟩
 ·rintro k (hk|rfl|hk)
  ·exact .inl (h.sub k hk)
  ·exact .inr ⟨hpw,by omega⟩
  ·rcases ML k hk with e|e
   ·exact .inl (h.sub k e)
   ·exact .inr ⟨by omega,by have:=(hq6.lt hk).2;omega⟩
 ·rintro k (hk|⟨hk1,hk2⟩)
  ·have:=h.lt k hk;omega
  ·omega
 ·exact h.qr.keep fun k hk=>hh k (h.qr.lt hk).2 (fun e=>h.gne.1 (by rw[<-e];exact hk)) (h.qne k hk)
 ·intro i q hi;obtain ⟨A,cc,k1,k2,k3⟩:=h.qes UM i q hi;exact ⟨A,cc,k1,k2,k3.sets (fun k hk=> .inl hk) hnn⟩
 ·have hl:(st.out++ [x]).length=st.out.length+1:=by simp
  show fU _ 0 _ _ (st.out++ [x]).length _
  rw[hl];exact hq6
 ·intro i y hi;have hi':(st.out++ [x])[i]? =some y:=hi;rcases kD i st.out.length with hlt|hge
  ·rw[mh hlt] at hi';obtain ⟨p',Ap',cp',vp',QL,RO,k1,k2⟩:=h.oes UM i y hi';exact ⟨p',Ap',cp',vp',QL,RO,by rw[mh (by rw[h.yL.1];exact hlt)];exact k1,k2.sets (fun k hk=> .inl hk) (fun k hk=> .inl hk) hnn⟩
  ·have hi0:i=st.out.length:=by
    have:=(pN.1 hi').1;simp at this;omega
   subst hi0;simp at hi';subst hi';exact ⟨p,Ap,cp,vl,none,0,by rw[<-h.yL.1];simp,hOx⟩
 ·intro i j v hi hj;have hol:=h.yL.1;have hold:∀(a:Nat) (u:Value),a<st.out.length->os[a]? =some u->u≠ .pointer (some p):=fun a u ha hu e=>by
   obtain ⟨x',hx'⟩:∃x',st.out[a]? =some x':=⟨_,gX ha⟩
   obtain ⟨p',_,_,_,_,_,k1,k2⟩:=h.oe a x' hx';rw[hu] at k1;cases k1;cases e;have:=h.lt p k2.f;omega
  have key:∀a u,(os++ [Value.pointer (some p)])[a]? =some u->(a<st.out.length/\os[a]? =some u)\/(a=st.out.length/\u= .pointer (some p)):=fun a u hu=>by
   rcases kD a st.out.length with hlt|hge
   ·rw[mh (by omega)] at hu;exact .inl ⟨hlt,hu⟩
   ·have ha:a=st.out.length:=by
     have:=(pN.1 hu).1;simp at this;omega
    subst ha;rw[oI (by omega),hol] at hu;simp at hu;exact .inr ⟨rfl,hu.symm⟩
  rcases key i v hi with ⟨a1,a2⟩|⟨a1,a2⟩<;>rcases key j v hj with ⟨b1,b2⟩|⟨b1,b2⟩
  ·exact h.inj i j v a2 b2
  ·exact absurd b2 (hold i v a1 a2)
  ·exact absurd a2 (hold j v b1 b2)
  ·omega
 ·rintro k (hk|rfl|hk)
  ·exact .inl hk
  ·exact .inr hpw
  ·rcases ML k hk with e|e
   ·exact .inl e
   ·exact .inr (by omega)
 ·rintro k (hk|⟨hk1,hk2⟩)
  ·exact .inl hk
  ·exact .inr hk1
 ·have hk1:Kept (fun k _=>D k) w W2:=(Kept.of_below hb2).iI fun k o ho hm=>by have:=lt_of_heap ho;omega
  exact ((hk1.alloc _).grown hg (fun k hk o ho=>h.od k hk)).setCell (p:=⟨g,12,none⟩) (fun _ _=>h.gd) _
end
end Go.Proofs.YtbhiklnljiehiaaGreat
