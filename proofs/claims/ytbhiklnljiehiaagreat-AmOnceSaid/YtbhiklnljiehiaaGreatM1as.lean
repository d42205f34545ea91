/- amsend: chunk: its memory; ampdu.Header. -/
import Derived.Test.YtbhiklnljiehiaaGreatM1al
import Derived.Test.YtbhiklnljiehiaaGreatM1ap
namespace Go.Proofs.YtbhiklnljiehiaaGreat
section
open Go.RowKit Go.Shelf
attribute [local go_sem] Oper.semAt_some
theorem zO (n:Int):0≤iT n∧iT n≤97:=by unfold iT;split<;>omega
def KH (n:Int) (sg:Bool):Int:=if 0<iT n∧sg=true then iT n+2 else iT n
set_option maxHeartbeats 400000 in
theorem rQ (n:Int) (sg:Bool) (w:World) (h: -9223372036854775808≤n∧n≤9223372036854775807):
 Calls Tryz.prog 127 #[.int .i64 n,.bool sg] w fun e w'=>e= .returned (.int .i64 (KH n sg))∧w=w':=by
 have hh:=JJ n w h;have hbd:=zO n;have hfin:KH n sg=if 0<iT n∧sg=true then iT n+2 else iT n:=rfl
 generalize KH n sg=R at*;generalize iT n=r at*;have HH:=ah hh;have HF:=ah hfin;clear hh hfin;cases sg
 all_goals
  by_cases h0:0<r
  all_goals
   go_enter Tryz.func127,Tryz.ntmps127;go_wp2_with (go_at_call 168;refine HH.out.mono ?_;rintro e1 w1 ⟨rfl,rfl⟩);go_ret;exact ⟨nL (by rw[HF.out];(try simp[h0]);(try omega)),rfl⟩
theorem BU (n:Int):KH n false=iT n:=by simp[KH]
theorem Nl (n:Int) (h1:1≤n) (h2:n≤64):KH n true=iT n+2:=by
 have:0<iT n:=by unfold iT;split<;>omega
 simp[KH,this]
theorem Uh (W:World) (x:Value) (t:TypeId):Sl (W.alloc (.cells #[x] t)) (W.alloc (.cells #[x] t)).heap.size (some ⟨W.heap.size,0,none⟩) 1 1 [x]:=⟨(lg W x t).len,(lg W x t).cap,(lg W x t).mx,(lg W x t).at_⟩
structure ng (w:World) (sB e:Bool) (Ap:Option Addr) (cp:Nat) (qs:List (List UInt8)) (wr:World):Prop where
 blk:au wr w.heap.size 145 #[.bool sB,.bool e,.slice Ap qs.length cp]
 parts:bM wr w.heap.size (.slice Ap qs.length cp) qs
 below:Below w.heap.size w wr
section
variable {w wr:World} {sB e:Bool} {Ap:Option Addr} {cp:Nat} {qs:List (List UInt8)}
theorem ng.drewN (h:ng w sB e Ap cp qs wr) (k:Nat):ng w sB e Ap cp qs (wr.drewN k):=
 ⟨h.blk.drewN k,h.parts,h.below.drewN k⟩
theorem ng.new (w:World):ng w false false none 0 [] (w.alloc (.cells #[.bool false,.bool false,.slice none 0 0] 145)):=
 ⟨au.new _ _ _,⟨[],World.ownsRow_nil _ _ _ _,fun i p hi=>by simp at hi⟩,(Below.refl _ w).alloc (aN) _⟩
theorem ng.set0 (h:ng w sB e Ap cp qs wr) (b:Bool):ng w b e Ap cp qs (wr.setCell ⟨w.heap.size,0,none⟩ (.bool b)):=
 ⟨by simpa using h.blk.av 0 (.bool b),h.parts.store h.blk (by decide) (by decide) _,h.below.setCell (p:=⟨w.heap.size,0,none⟩) (aN) _⟩
theorem ng.set1 (h:ng w sB e Ap cp qs wr) (b:Bool):ng w sB b Ap cp qs (wr.setCell ⟨w.heap.size,1,none⟩ (.bool b)):=
 ⟨by simpa using h.blk.av 1 (.bool b),h.parts.store h.blk (by decide) (by decide) _,h.below.setCell (p:=⟨w.heap.size,1,none⟩) (aN) _⟩
theorem ng.set2 (h:ng w sB e Ap cp qs wr):ng w sB e Ap cp qs (wr.setCell ⟨w.heap.size,2,none⟩ (.slice Ap qs.length cp)):=
 ⟨by simpa using h.blk.av 2 (.slice Ap qs.length cp),h.parts.store h.blk (by decide) (by decide) _,h.below.setCell (p:=⟨w.heap.size,2,none⟩) (aN) _⟩
theorem ng.push (h:ng w sB e Ap cp qs wr) {w1 w5:World} {A1 A5:Option Addr} {c1 c5 L:Nat} {Bb:List Value} {pp:List UInt8} (hpl:pp.length=L)
 (jm:wr.ownsRow w.heap.size 31 1 (.slice Ap qs.length cp) qs.length Bb)
 (hpx:∀(i:Nat) (p:List UInt8),qs[i]? =some p→∃A c,Bb[i]? =some (.slice A p.length c)∧wr.ownsRow w.heap.size 5 1 (.slice A p.length c) p.length (bQ p))
 (hb1:Below wr.heap.size wr w1) (hv1:w1.ownsRow wr.heap.size 5 1 (.slice A1 L c1) L (bQ pp))
 (hown5:w5.ownsRow w.heap.size 31 1 (.slice A5 (qs.length+1) c5) (qs.length+1) (Bb++ [.slice A1 L c1]))
 (cB:(w1.alloc (.cells #[.slice A1 L c1] 31)).grownBy w5 (Value.slice Ap qs.length cp).ownBlock):
 ng w sB e A5 c5 (qs++ [pp]) (w5.setCell ⟨w.heap.size,2,none⟩ (.slice A5 (qs.length+1) c5)):=by
 have hz:=h.below.size;have Xl:=(own_below jm hb1 (aN)).alloc (.cells #[.slice A1 L c1] 31);have b5:=((h.blk.below hb1 h.blk.lt).alloc (.cells #[.slice A1 L c1] 31)).grown cB (fun e=>aK jm h.blk (by decide) e.symm);have hl:(qs++ [pp]).length=qs.length+1:=by simp
 have mR:Below w.heap.size w w5:=((h.below.trans (hb1.mono hz)).alloc (by have:=hb1.size;omega) _).grown cB (by have:=hb1.size;simp;omega) (fun j hj=>(jm.lt j hj).1);have Pz:∀{A:Option Addr} {c:Nat} {p:List UInt8} {base:Nat},w1.ownsRow base 5 1 (.slice A p.length c) p.length (bQ p)→(w5.setCell ⟨w.heap.size,2,none⟩ (.slice A5 (qs.length+1) c5)).ownsRow base 5 1 (.slice A p.length c) p.length (bQ p):=fun {A c p base} h5=>by
  have h6:=(h5.alloc (.cells #[.slice A1 L c1] 31)).kept cB (by
   rcases hq:(Value.slice A p.length c).ownBlock with _|j
   ·exact .inl rfl
   ·refine .inr (fun e=> ?_);obtain ⟨o1,ho1,⟨cs1,fr1,rfl⟩,_⟩:=dh h5 hq;obtain ⟨o2,ho2,⟨cs2,fr2,rfl⟩,_⟩:=dh (own_below jm hb1 (aN)) e.symm;rw[ho1] at ho2;cases ho2)
  exact aL (i:=2) h6 b5 (by decide) _
 refine ⟨by rw[hl];simpa using b5.av 2 (.slice A5 (qs.length+1) c5),⟨Bb++ [.slice A1 L c1],by rw[hl];exact aL (i:=2) hown5 b5 (by decide) _,fun i p hi=> ?_⟩,mR.setCell (p:=⟨w.heap.size,2,none⟩) (aN) _⟩;have hvl:Bb.length=qs.length:=(fC jm).len;by_cases hi2:i<qs.length
 ·rw[List.getElem?_append_left hi2] at hi;obtain ⟨A,c,e1,h5⟩:=hpx i p hi;exact ⟨A,c,by rw[List.getElem?_append_left (by omega)];exact e1,Pz (own_below h5 hb1 (aN))⟩
 ·rw[List.getElem?_append_right (by omega)] at hi;have hi0:i=qs.length:=by
   have:=(List.getElem?_eq_some_iff.1 hi).1;simp at this;omega
  subst hi0;simp at hi;subst hi;subst hpl;refine ⟨A1,c1,?_,Pz (aU hv1 hz)⟩;rw[List.getElem?_append_right (by omega),hvl];simp
end
def rR (qs:List (List UInt8)):Nat:=(qs.getLast?.getD []).length
theorem KI (qs:List (List UInt8)) (q:List UInt8):rR (qs++ [q])=q.length:=by simp[rR]
theorem Qv {qs:List (List UInt8)} {q:List UInt8} (h:qs[qs.length-1]? =some q):rR qs=q.length:=by
 unfold rR;rw[List.getLast?_eq_getElem?,h];rfl
theorem IJ:∀(l:List (List UInt8)),(∀s∈l,1≤s.length)→aI l 0=(l,0)
 | [],_=>rfl
 |x::r,h=>by
  have:=h x (by simp);unfold aI;rw[if_neg (by omega)]
def LZ (w:World) (ST:Bool) (FIN:List (List UInt8) × Bool) (en:Ending) (w':World):Prop:=
 ∃Ap cp sB,en= .returned (.agg #[.bool sB,.bool FIN.2,.slice Ap FIN.1.length cp])∧bM w' w.heap.size (.slice Ap FIN.1.length cp) FIN.1∧Below w.heap.size w w'∧(FIN.1≠ []→sB=ST)
end
section
open Go.RowKit Go.Shelf
attribute [local go_sem] Oper.semAt_some
section
variable {D F:Nat→Prop} {g:Nat} {c:Cf} {st:Sd} {vq vo:Value} {vs os:List Value} {w:World}
def ni (n:Int) (l:List (List UInt8)) (skip:Nat) (qs:List (List UInt8)) (size:Nat) (e:Bool):List (List UInt8) × Bool:=
 let q:=aI l skip
 let R:=kG n (q.1.length+1) q.1 q.2 qs.length (rR qs) size e
 (qs++R.1,R.2.1)
theorem IK {n:Int} {x:List UInt8} {r:List (List UInt8)} {skip:Nat} {qs:List (List UInt8)} {size:Nat} {e:Bool} (h:x.length≤skip):ni n (x::r) skip qs size e=ni n r (skip-x.length) qs size e:=by
 unfold ni;have:aI (x::r) skip=aI r (skip-x.length):=by rw[aI,if_pos h]
 rw[this]
theorem IP {n:Int} {x:List UInt8} {r:List (List UInt8)} {skip:Nat} {qs:List (List UInt8)} {size:Nat} {e:Bool} (h:¬x.length≤skip):
 ni n (x::r) skip qs size e=(qs++(kG n (r.length+1+1) (x::r) skip qs.length (rR qs) size e).1,(kG n (r.length+1+1) (x::r) skip qs.length (rR qs) size e).2.1):=by
 unfold ni;have:aI (x::r) skip=(x::r,skip):=by rw[aI,if_neg h]
 rw[this];rfl
theorem IQ {n:Int} {r:List (List UInt8)} {qs:List (List UInt8)} {size:Nat} {e:Bool} (h:∀s∈r,1≤s.length):
 ni n r 0 qs size e=(qs++(kG n (r.length+1) r 0 qs.length (rR qs) size e).1,(kG n (r.length+1) r 0 qs.length (rR qs) size e).2.1):=by
 unfold ni;rw[IJ r h]
def abZ (w:World) (n:Int) (Q:List (List UInt8)) (taken:Nat) (FIN:List (List UInt8) × Bool) (s5 s6 s22:Value) (wr:World):Prop:=
 ∃(k skip size:Nat) (qs:List (List UInt8)) (e sB:Bool) (Ap:Option Addr) (cp:Nat),k≤Q.length∧s5= .int .i64 (skip:Nat)∧s6= .int .i64 (size:Nat)∧s22= .int .i64 (k:Nat)∧ng w sB e Ap cp qs wr∧
  FIN=ni n (Q.drop k) skip qs size e∧(qs≠ []→sB=decide ((aI Q taken).2=0))∧(qs= []→aI (Q.drop k) skip=aI Q taken)∧skip≤1048576∧size≤32767∧qs.length≤64
theorem ng.cells3 {sB e:Bool} {Ap:Option Addr} {cp:Nat} {qs:List (List UInt8)} {wr:World} (h:ng w sB e Ap cp qs wr):(wr.setCell ⟨w.heap.size,0,none⟩ (.bool sB)).cell? ⟨w.heap.size,0,none⟩=some (.bool sB)∧
 ((wr.setCell ⟨w.heap.size,0,none⟩ (.bool sB)).setCell ⟨w.heap.size,1,none⟩ (.bool e)).cell? ⟨w.heap.size,1,none⟩=some (.bool e)∧(((wr.setCell ⟨w.heap.size,0,none⟩ (.bool sB)).setCell ⟨w.heap.size,1,none⟩ (.bool e)).setCell ⟨w.heap.size,2,none⟩ (.slice Ap qs.length cp)).cell? ⟨w.heap.size,2,none⟩=some (.slice Ap qs.length cp):=
 ⟨(h.set0 sB).blk.cell 0,((h.set0 sB).set1 e).blk.cell 1,(((h.set0 sB).set1 e).set2).blk.cell 2⟩
set_option maxRecDepth 100000 in
theorem FV {sB e:Bool} {Ap:Option Addr} {cp:Nat} {qs:List (List UInt8)} {wr:World} {ST:Bool} {FIN:List (List UInt8) × Bool} (h:ng w sB e Ap cp qs wr) (hF:FIN=(qs,e)) (hs:qs≠ []→sB=ST):
 LZ w ST FIN (.returned (.agg #[.bool sB,.bool e,.slice Ap qs.length cp])) (((wr.setCell ⟨w.heap.size,0,none⟩ (.bool sB)).setCell ⟨w.heap.size,1,none⟩ (.bool e)).setCell ⟨w.heap.size,2,none⟩ (.slice Ap qs.length cp)):=by
 subst hF;have h3:=((h.set0 sB).set1 e).set2;exact ⟨Ap,cp,sB,rfl,h3.parts,h3.below,hs⟩
set_option maxRecDepth 100000 in
set_option maxHeartbeats 4000000 in
theorem Nn (h:eZ w D F g c st vq vs vo os) (n:Int) (hn:0≤n) (hn2:n≤9223372036854775807) (hsd:∀s∈st.queue,1≤s.length∧s.length≤9000) (htk:st.taken≤1048576):
 Calls Tryz.prog 86 #[.pointer (some ⟨g,0,none⟩),.int .i64 n] w (LZ w (bH n st).s ((bH n st).ps,(bH n st).e)):=by
 obtain ⟨j0,hj0,hm0,agM,agN⟩:=info_parts nN;obtain ⟨FIN,hF⟩:∃FIN,FIN=ni n st.queue st.taken [] 0 false:=⟨_,rfl⟩
 have hF2:((bH n st).ps,(bH n st).e)=FIN:=by rw[hF];rfl
 have hST:(bH n st).s=decide ((aI st.queue st.taken).2=0):=rfl;rw[hF2,hST];have HF:=ah hF;have HSD:=ah hsd;have y7:=h.blk.cell 7;have FU:=h.blk.cell 10;simp[eU] at y7 FU;obtain ⟨A,cc,rfl,hs⟩:=h.Ve;have hcap:=hs.sl.cap;have hmx:=hs.sl.mx;have HS:=ah hs;have R7:=ah (ng.new w);have hgl:=h.blk.lt;generalize st.queue=Q at*;generalize st.taken=taken at*;clear h hF hF2 hST hs hsd;go_enter Tryz.func86,Tryz.ntmps86;go_wp2
 go_loopw [5,6,22] (fun s5 s6 s22 wr=>abZ w n Q taken FIN s5 s6 s22 wr) (fun _ _ i _=>Q.length-(intOf i).toNat)
 case atStart=>exact ⟨0,taken,0,[],false,false,none,0,Nat.zero_le _,rfl,rfl,rfl,R7.out,by rw[HF.out];rfl,fun h=>absurd rfl h,fun _=>rfl,htk,by omega,by simp⟩
 case round=>
  obtain ⟨k,skip,size,qs,e,sB,Ap,cp,hk,rfl,rfl,rfl,hC,hfin,hsB,hq0,yL,hsz,agO⟩:=hrel;have HC:=ah hC;have BK:=ah hsB;have HQ0:=ah hq0;have jJ:=ah hfin;have hbl:=hC.below;obtain ⟨z0,z1,z2⟩:=(show wr.cell? ⟨w.heap.size,0,none⟩=some (.bool sB)∧wr.cell? ⟨w.heap.size,1,none⟩=some (.bool e)∧wr.cell? ⟨w.heap.size,2,none⟩=some (.slice Ap qs.length cp) from ⟨hC.blk.cell 0,hC.blk.cell 1,hC.blk.cell 2⟩);have r0:=hC.blk.frozen 0;have r1:=hC.blk.frozen 1;have r2:=hC.blk.frozen 2;have hsW:=(HS.out.below hbl).more hbl.size;clear hsB hq0 hfin hC;by_cases hlt:k<Q.length
  ·obtain ⟨x,hx⟩:∃x,Q[k]? =some x:=⟨_,List.getElem?_eq_getElem hlt⟩
   have hdr:Q.drop k=x::Q.drop (k+1):=by
    rw[List.drop_eq_getElem_cons hlt]
    congr 1
    rw[List.getElem?_eq_getElem hlt] at hx;exact Option.some.inj hx
   have hxl:=HSD.out x (List.mem_of_getElem? hx);have HXC:=ah (HS.out.get hlt);have VJ:=ah hx;rw[hdr] at jJ;have HDR:=ah hdr;clear hdr hx hsW;obtain ⟨ad,Ai,ci,rfl,Bh,Qw,L5⟩:=HXC.out;have hgx:Q[k]?.getD []=x:=by rw[VJ.out];rfl
   rw[hgx] at Qw L5;have zk:=L5.below hbl;have agP:=(hbl.cell (p:=ad.add k) (by rw[block_add];exact Bh)).trans Qw;have agQ:=ah L5;clear L5 Qw;clear hgx HXC;have hcx:=zk.cap;have af0:=zk.mx;by_cases hsk:x.length≤skip
   ·have hf:=jJ.out;rw[IK hsk] at hf;have hfs:=HDR.out;have KJ:=ah hf;have dsk:decide (x.length≤skip)=true:=decide_eq_true hsk;clear hf hfs zk;go_wp2
    go_roundw
    case rel=>
     refine ⟨k+1,skip-x.length,size,qs,e,sB,Ap,cp,by omega,by go_num,rfl,by go_num,HC.out,KJ.out,BK.out,fun hq=> ?_,by omega,hsz,agO⟩;rw[←HQ0.out hq,HDR.out];rw[aI,if_pos hsk]
    case measure=>simp[intOf];omega
   ·have dsk:decide (x.length≤skip)=false:=decide_eq_false hsk;have hf:=jJ.out;rw[IP hsk] at hf;have KJ:=ah hf;clear hf;go_upto_region 8 with (fail)
    obtain ⟨b1,hb1⟩:∃b1,b1=decide (qs.length=64∨(0<qs.length∧2047<rR qs)):=⟨_,rfl⟩
    have HB1:=ah hb1;clear hb1;go_cut [52] (fun s52 wx=>s52= .bool b1∧wx=wr)
    case first=>
     have hb:=HB1.out;by_cases h0:qs.length=0
     ·have e1:b1=false:=by rw[hb];exact decide_eq_false (by omega)
      subst e1;have d0:decide (0<qs.length)=false:=decide_eq_false (by omega);rw[h0] at z2;clear hb;go_wp2;go_meet;exact ⟨rfl,rfl⟩
     ·have d0:decide (0<qs.length)=true:=decide_eq_true (by omega);by_cases h64:qs.length=64
      ·have e1:b1=true:=by rw[hb];exact decide_eq_true (by omega)
       subst e1;have d64:((qs.length:Int)==64)=true:=by simp;omega
       have H64:=ah h64;clear hb h64;go_wp2;go_meet;exact ⟨rfl,rfl⟩
      ·have d64:((qs.length:Int)==64)=false:=by simp;omega
       obtain ⟨Bb,hrow,hpe⟩:=HC.out.parts;obtain ⟨q,hq⟩:∃q,qs[qs.length-1]? =some q:=⟨_,List.getElem?_eq_getElem (by omega)⟩
       have hlast:=Qv hq;obtain ⟨Aq,cq,hv,hrq⟩:=hpe _ q hq;have hsq:=fC hrq;obtain ⟨adp,_,rfl,agR,hg1,hg2⟩:=(fC hrow).get (k:=qs.length-1) (by omega);rw[hv] at hg1;cases hg1;rw[hlast] at hb;have hcap1:=(fC hrow).cap;have afO:=(fC hrow).mx;have aj1:=hsq.cap;have anr:=hsq.mx;have hd2:decide (2047<q.length)=b1:=by rw[hb];exact decide_eq_decide.2 (by omega)
       have HD2:=ah hd2;clear hb hd2 hq hlast hv hrq hsq hrow hpe;cases b1 with
       |true=>
        have hd3:decide ((2047:Int)<q.length)=true:=by have:=HD2.out;simp at this ⊢;omega
        have hd4:decide (2047<q.length)=true:=HD2.out;go_wp2;go_meet;exact ⟨rfl,rfl⟩
       |false=>
        have hd3:decide ((2047:Int)<q.length)=false:=by have:=HD2.out;simp at this ⊢;omega
        have hd4:decide (2047<q.length)=false:=HD2.out;go_wp2;go_meet;exact ⟨rfl,rfl⟩
    case rest=>
    obtain ⟨rfl,rfl⟩:=hcut;by_cases hst:qs.length=64∨(0<qs.length∧2047<rR qs)
    ·have e1:b1=true:=by rw[HB1.out];exact decide_eq_true hst
     subst e1;have hR:FIN=(qs,e):=by rw[KJ.out,kG,if_pos hst];simp
     have HR:=ah hR;clear hR zk hst;go_wp2;obtain ⟨p0,p1,p2⟩:=HC.out.cells3;refine bodyPost_ret (v:= .agg #[.bool sB,.bool e,.slice Ap qs.length cp]) (by simp[results,Tryz.results86,go_sem,p0,p1,p2]) rfl ?_;exact FV HC.out HR.out BK.out
    have e1:b1=false:=by rw[HB1.out];exact decide_eq_false hst
    subst e1;rw[kG,if_neg hst] at KJ;obtain ⟨room,hroom⟩:∃room:Int,room=min (n-iT ((qs.length:Int)+1)) 32767-(size:Int):=⟨_,rfl⟩
    rw[←hroom] at KJ;have ant:qs.length≤63:=by omega
    have hh:=zO ((qs.length:Int)+1);have hhd:=rQ ((qs.length:Int)+1) false;rw[BU] at hhd;have VL:=ah hhd;have HRM:=ah hroom;have HST:=ah hst;clear hhd hroom hst HB1;generalize iT ((qs.length:Int)+1)=hd at*;go_upto_region 9 with (fail)
    go_cut [10] (fun s10 wx=>s10= .int .i64 room∧wx=wc)
    case first=>
     clear zk;go_wp2_with fail;refine (VL.out _ ⟨by omega,by omega⟩).mono ?_;rintro e1 w1 ⟨rfl,rfl⟩;go_wp2_with fail
     all_goals
      go_meet;exact ⟨by rw[HRM.out];congr 1;omega,rfl⟩
    case rest=>
    obtain ⟨rfl,rfl⟩:=hcut;have hrb:room≤32767-size∧ -1000000≤room:=by have:=HRM.out;omega
    by_cases hr1:room<1
    ·have hR:FIN=(qs,e):=by rw[KJ.out,if_pos hr1];simp
     have HR:=ah hR;clear hR zk;go_wp2;obtain ⟨p0,p1,p2⟩:=HC.out.cells3;refine bodyPost_ret (v:= .agg #[.bool sB,.bool e,.slice Ap qs.length cp]) (by simp[results,Tryz.results86,go_sem,p0,p1,p2]) rfl ?_;exact FV HC.out HR.out BK.out
    rw[if_neg hr1] at KJ;obtain ⟨m,hm⟩:∃m:Nat,room=m:=⟨room.toNat,by omega⟩
    subst hm;rw[Int.toNat_natCast] at KJ;have hm1:1≤m:=by omega
    have hm2:size+m≤32767:=by omega
    clear hrb hr1 HRM VL hh;go_upto_if 64 with (fail)
    obtain ⟨ST,hST⟩:∃ST,ST=decide ((aI Q taken).2=0):=⟨_,rfl⟩
    have hss:qs= []→decide (skip=0)=ST:=fun hq=>by
     have:=HQ0.out hq;rw[HDR.out,aI,if_neg hsk] at this;rw[hST,←this]
    rw[←hST] at BK;have RJ:=ah hss;have ab1:=ah hST;clear hss hST;go_cut [] (fun wx=>ng w ST e Ap cp qs wx)
    case first=>
     by_cases hq:qs= []
     ·have hs0:=RJ.out hq;have d0:((qs.length:Int)==0)=true:=by rw[hq];rfl
      have d1:((skip:Int)==0)=ST:=by rw[←hs0];exact decide_eq_decide.2 (by omega)
      have HQ:=ah hq;clear hq hs0 zk;go_wp2;go_meet;exact HC.out.set0 ST
     ·have hsb:=BK.out hq;subst hsb;have d0:((qs.length:Int)==0)=false:=by
       have:0<qs.length:=List.length_pos_iff.2 hq;simp;omega
      clear zk;go_wp2;go_meet;exact HC.out
    case rest=>
    have hC2:=hcut;clear hcut zk agP z0 z1 z2 r0 r1 r2 HC;generalize wc=w2 at*;have HC:=ah hC2;have hsx:=(agQ.out.below hC2.below).more hC2.below.size;have Ff:=hC2.below;have h0x:0<x.length:=by omega
    obtain ⟨ai,rfl,afZ,_⟩:=hsx.at_ h0x;clear hC2;have ab2:¬ci=skip:=by omega
    have hle2:(x.length:Int)≤ci:=by omega
    go_upto_region 15 with (fail)
    obtain ⟨L,hL⟩:∃L,L=min m (x.length-skip):=⟨_,rfl⟩
    have eL:(if x.length-skip<m then ((x.length-skip:Nat):Int) else (m:Int))=(L:Int):=by rw[hL];split<;>omega
    have hmid:=hsx.mid (a:=skip) (m:=L) (by omega);rw[if_neg ab2] at hmid;have e1:((bQ x).drop skip).take L=bQ ((x.drop skip).take L):=by simp[bQ]
    rw[e1] at hmid;have MY:((x.drop skip).take L).length=L:=by rw[List.length_take,List.length_drop];omega
    have hL1:1≤L:=by omega
    have hLm:L≤m:=by omega
    have hLK:L≤x.length-skip:=by omega
    have LU:x.length-skip≤9000:=by omega
    rw[eL];simp only[Int.toNat_natCast];obtain ⟨pp,hpp⟩:∃pp,pp=(x.drop skip).take L:=⟨_,rfl⟩
    rw[←hpp] at hmid MY;obtain ⟨K,hK⟩:∃K,K=x.length-skip:=⟨_,rfl⟩
    rw[←hK] at hLK LU ⊢;have X7:=ah hpp;have HK:=ah hK;have HL:=ah hL;have MZ:=ah MY;have VM:Sl w2 w2.heap.size (some (ai.add skip)) L K (bQ pp):=by
     obtain ⟨q1,q2,q3,q4⟩:=hmid;exact ⟨q1,by omega,by omega,q4⟩
    have hcl:=mq (some (ai.add skip)) L K pp w2.drew VM.drew (by omega);have ug:=ah hcl;obtain ⟨Bb,jm,hpx⟩:=HC.out.parts;have z0:=HC.out.blk.cell 0;have z1:=HC.out.blk.cell 1;have z2:=HC.out.blk.cell 2;have r0:=HC.out.blk.frozen 0;have r1:=HC.out.blk.frozen 1;have r2:=HC.out.blk.frozen 2;simp at z0 z1 z2;have hl2:=HC.out.blk.lt;have hvl:Bb.length=qs.length:=(fC jm).len;have Zt:=ah jm;have HPX:=ah hpx;clear eL hmid e1 hpp hK hL MY VM hcl hsx ab2 hle2 jm hpx Ff hvl
    go_region_law (first
     |((refine dG _ (by rfl) _ _ 37 (by rfl) w.heap.size 31 j0 (.slice none 0 0) 24 qH hj0 hm0 agM agN rfl (.slice Ap qs.length cp) qs.length Bb (by rfl) ((own_below (World.ownsRow.drew' Zt.out) hb1 (aN)).alloc (.cells #[.slice A1 L c1] 31)) (w1.alloc (.cells #[.slice A1 L c1] 31)).heap.size (some ⟨w1.heap.size,0,none⟩) 1 1 [.slice A1 L c1] (by rfl) (Uh w1 (.slice A1 L c1) 31) (by simp[Value.oneCell']) (by unfold maxLen;omega) (by omega) (by have:=hb1.size;simp at this ⊢;omega) ?_;intro v5 w5 hown5 cB _;obtain ⟨A5,c5,rfl,hs5,_⟩:=aS hown5;have pW:=((HC.out.blk.drew.below hb1 hl2).alloc (.cells #[.slice A1 L c1] 31)).grown cB (fun e=>aK Zt.out HC.out.blk (by decide) e.symm);have q2:=pW.cell 2;have q3:=pW.frozen 2;simp at q2))
     |((go_simp;(with_reducible refine ug.out.mono ?_);rintro e1 w1 ⟨v1,rfl,hv1,hb1⟩;obtain ⟨A1,c1,rfl,hs1,_⟩:=aS hv1;have z2':=(hb1.cell (p:=⟨w.heap.size,2,none⟩) hl2).trans z2;have XY:w.heap.size<w1.heap.size:=Nat.lt_of_lt_of_le hl2 hb1.size;have agT:=(World.cell?_alloc_lt w1 (.cells #[.slice A1 L c1] 31) ⟨w.heap.size,2,none⟩ XY).trans z2';have f0':=(hb1.frozen (p:=⟨w.heap.size,2,none⟩) hl2).trans r2)))
    all_goals
     have VN:=(HC.out.drewN 1).push MZ.out (World.ownsRow.drew' Zt.out) (fun i p hi=>let ⟨A,c,e1,h1⟩:=HPX.out i p hi;⟨A,c,e1,World.ownsRow.drew' h1⟩) hb1 hv1 hown5 cB;have c0:=VN.blk.cell 0;have c1':=VN.blk.cell 1;have c2:=VN.blk.cell 2;have g0:=VN.blk.frozen 0;have g1:=VN.blk.frozen 1;have g2:=VN.blk.frozen 2;simp at c0 c1' c2;have HC3:=ah VN;clear VN hown5 cB hv1 hs1 hs5 q2 q3 pW z0 z1 z2 r0 r1 r2 f0' z2' agT;generalize w5.setCell ⟨w.heap.size,2,none⟩ (.slice A5 (qs.length+1) c5)=w6 at*;by_cases X8:L=K
     ·have dLK:((L:Int)==(K:Int))=true:=by simp;omega
      have hend:¬skip+m<x.length:=by have:=HK.out;have:=HL.out;omega
      have hf:=KJ.out;rw[if_neg hend] at hf;have hpe:pp=x.drop skip:=by rw[X7.out,List.take_of_length_le (by rw[List.length_drop];have:=HK.out;omega)]
      have hFN:FIN=ni n (Q.drop (k+1)) 0 (qs++ [pp]) (size+L) true:=by
       rw[IQ (fun s hs=>(HSD.out s (List.mem_of_mem_drop hs)).1),KI,MZ.out,hf,hpe];have e1:x.length-skip=L:=by rw[X8,HK.out]
       simp only[e1,List.length_append,List.length_singleton,List.append_assoc,List.singleton_append]
      have Ps:=ah hFN;have anz:=ah X8;have R8:=HC3.out.set1 true;have ZH:=ah R8;clear hf hpe hFN X8 R8;go_wp2
      go_roundw
      case rel=>
       exact ⟨k+1,0,size+L,qs++ [pp],true,ST,A5,c5,by omega,by go_num,by go_num,by go_num,ZH.out,Ps.out,fun _=>ab1.out,fun h=>by simp at h,by omega,by omega,by simp;omega⟩
      case measure=>simp[intOf];omega
     ·have dLK:((L:Int)==(K:Int))=false:=by simp;omega
      have hend:skip+m<x.length:=by have:=HK.out;have:=HL.out;omega
      have X9:L=m:=by have:=HK.out;have:=HL.out;omega
      have hf:=KJ.out;rw[if_pos hend,←X9,←X7.out] at hf;have HR:=ah hf;have R8:=HC3.out.set1 false;have d0:=R8.blk.cell 0;have d1:=R8.blk.cell 1;have d2:=R8.blk.cell 2;simp at d0 d1 d2;have ZH:=ah R8;have ZP:=ah X9;clear hf R8 X9;go_wp2;obtain ⟨p0,p1,p2⟩:=ZH.out.cells3;simp only[List.length_append,List.length_singleton] at p2;refine bodyPost_ret (v:= .agg #[.bool ST,.bool false,.slice A5 (qs.length+1) c5]) (by simp[results,Tryz.results86,go_sem,p0,p1,p2]) rfl ?_;have hO:=FV ZH.out HR.out (fun _=>ab1.out);simp only[List.length_append,List.length_singleton] at hO;exact hO
  ·have hR:FIN=(qs,e):=by
    rw[jJ.out,List.drop_of_length_le (by omega)];simp[ni,aI,kG]
   have HR:=ah hR;clear hR hsW hbl;go_wp2;obtain ⟨p0,p1,p2⟩:=HC.out.cells3;refine bodyPost_ret (v:= .agg #[.bool sB,.bool e,.slice Ap qs.length cp]) (by simp[results,Tryz.results86,go_sem,p0,p1,p2]) rfl ?_;exact FV HC.out HR.out BK.out
end
end
end Go.Proofs.YtbhiklnljiehiaaGreat
