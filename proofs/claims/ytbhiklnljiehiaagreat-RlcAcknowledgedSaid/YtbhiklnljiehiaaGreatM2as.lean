/- amsend: chunk: its memory; ampdu.Header. -/
import Derived.Test.YtbhiklnljiehiaaGreatM2al
import Derived.Test.YtbhiklnljiehiaaGreatM2ap
namespace Go.Proofs.YtbhiklnljiehiaaGreat
section
open Go.RowKit Go.Shelf
attribute [local go_sem] Oper.semAt_some
theorem yo (n:Int):0≤iQ n∧iQ n≤97:=by unfold iQ;split<;>omega
def JL (n:Int) (sg:Bool):Int:=if 0<iQ n∧sg=true then iQ n+2 else iQ n
set_option maxHeartbeats 400000 in
theorem qz (n:Int) (sg:Bool) (w:World) (h: -9223372036854775808≤n∧n≤9223372036854775807):
 Calls Tryz.prog 127 #[.int .i64 n,.bool sg] w fun e w'=>e= .returned (.int .i64 (JL n sg))∧w=w':=by
 have hh:=IJ n w h;have hbd:=yo n;have hfin:JL n sg=if 0<iQ n∧sg=true then iQ n+2 else iQ n:=rfl
 generalize JL n sg=R at*;generalize iQ n=r at*;have HH:=ah hh;have HF:=ah hfin;clear hh hfin;cases sg
 all_goals
  by_cases h0:0<r
  all_goals
   go_enter Tryz.func127,Tryz.ntmps127;go_wp2_with (go_at_call 168;refine HH.out.mono ?_;rintro e1 w1 ⟨rfl,rfl⟩);go_ret;exact ⟨lZ (by rw[HF.out];(try simp[h0]);(try omega)),rfl⟩
theorem zP (n:Int):JL n false=iQ n:=by simp[JL]
theorem MI (n:Int) (h1:1≤n) (h2:n≤64):JL n true=iQ n+2:=by
 have:0<iQ n:=by unfold iQ;split<;>omega
 simp[JL,this]
theorem Tz (W:World) (x:Value) (t:TypeId):Sl (W.alloc (.cells #[x] t)) (W.alloc (.cells #[x] t)).heap.size (some ⟨W.heap.size,0,none⟩) 1 1 [x]:=⟨(qL W x t).len,(qL W x t).cap,(qL W x t).mx,(qL W x t).at_⟩
structure lQ (w:World) (sB e:Bool) (Ap:Option Addr) (cp:Nat) (qs:List (List UInt8)) (wr:World):Prop where
 blk:au wr w.heap.size 145 #[.bool sB,.bool e,.slice Ap qs.length cp]
 parts:bF wr w.heap.size (.slice Ap qs.length cp) qs
 below:Below w.heap.size w wr
section
variable {w wr:World} {sB e:Bool} {Ap:Option Addr} {cp:Nat} {qs:List (List UInt8)}
theorem lQ.drewN (h:lQ w sB e Ap cp qs wr) (k:Nat):lQ w sB e Ap cp qs (wr.drewN k):=
 ⟨h.blk.drewN k,h.parts,h.below.drewN k⟩
theorem lQ.new (w:World):lQ w false false none 0 [] (w.alloc (.cells #[.bool false,.bool false,.slice none 0 0] 145)):=
 ⟨au.new _ _ _,⟨[],World.ownsRow_nil _ _ _ _,fun i p hi=>by simp at hi⟩,(Below.refl _ w).alloc (aN) _⟩
theorem lQ.set0 (h:lQ w sB e Ap cp qs wr) (b:Bool):lQ w b e Ap cp qs (wr.setCell ⟨w.heap.size,0,none⟩ (.bool b)):=
 ⟨by simpa using h.blk.av 0 (.bool b),h.parts.store h.blk (by decide) (by decide) _,h.below.setCell (p:=⟨w.heap.size,0,none⟩) (aN) _⟩
theorem lQ.set1 (h:lQ w sB e Ap cp qs wr) (b:Bool):lQ w sB b Ap cp qs (wr.setCell ⟨w.heap.size,1,none⟩ (.bool b)):=
 ⟨by simpa using h.blk.av 1 (.bool b),h.parts.store h.blk (by decide) (by decide) _,h.below.setCell (p:=⟨w.heap.size,1,none⟩) (aN) _⟩
theorem lQ.set2 (h:lQ w sB e Ap cp qs wr):lQ w sB e Ap cp qs (wr.setCell ⟨w.heap.size,2,none⟩ (.slice Ap qs.length cp)):=
 ⟨by simpa using h.blk.av 2 (.slice Ap qs.length cp),h.parts.store h.blk (by decide) (by decide) _,h.below.setCell (p:=⟨w.heap.size,2,none⟩) (aN) _⟩
theorem lQ.push (h:lQ w sB e Ap cp qs wr) {w1 w5:World} {A1 A5:Option Addr} {c1 c5 L:Nat} {zo:List Value} {pp:List UInt8} (hpl:pp.length=L)
 (gN:wr.ownsRow w.heap.size 31 1 (.slice Ap qs.length cp) qs.length zo)
 (hpx:∀(i:Nat) (p:List UInt8),qs[i]? =some p→∃A c,zo[i]? =some (.slice A p.length c)∧wr.ownsRow w.heap.size 5 1 (.slice A p.length c) p.length (bO p))
 (hb1:Below wr.heap.size wr w1) (hv1:w1.ownsRow wr.heap.size 5 1 (.slice A1 L c1) L (bO pp))
 (hown5:w5.ownsRow w.heap.size 31 1 (.slice A5 (qs.length+1) c5) (qs.length+1) (zo++ [.slice A1 L c1]))
 (bR:(w1.alloc (.cells #[.slice A1 L c1] 31)).grownBy w5 (Value.slice Ap qs.length cp).ownBlock):
 lQ w sB e A5 c5 (qs++ [pp]) (w5.setCell ⟨w.heap.size,2,none⟩ (.slice A5 (qs.length+1) c5)):=by
 have hz:=h.below.size;have LV:=(own_below gN hb1 (aN)).alloc (.cells #[.slice A1 L c1] 31);have b5:=((h.blk.below hb1 h.blk.lt).alloc (.cells #[.slice A1 L c1] 31)).grown bR (fun e=>aJ gN h.blk (by decide) e.symm);have hl:(qs++ [pp]).length=qs.length+1:=by simp
 have lI:Below w.heap.size w w5:=((h.below.trans (hb1.mono hz)).alloc (by have:=hb1.size;omega) _).grown bR (by have:=hb1.size;simp;omega) (fun j hj=>(gN.lt j hj).1);have O0:∀{A:Option Addr} {c:Nat} {p:List UInt8} {base:Nat},w1.ownsRow base 5 1 (.slice A p.length c) p.length (bO p)→(w5.setCell ⟨w.heap.size,2,none⟩ (.slice A5 (qs.length+1) c5)).ownsRow base 5 1 (.slice A p.length c) p.length (bO p):=fun {A c p base} h5=>by
  have h6:=(h5.alloc (.cells #[.slice A1 L c1] 31)).kept bR (by
   rcases hq:(Value.slice A p.length c).ownBlock with _|j
   ·exact .inl rfl
   ·refine .inr (fun e=> ?_);obtain ⟨o1,ho1,⟨cs1,Zg,rfl⟩,_⟩:=bU h5 hq;obtain ⟨o2,ho2,⟨cs2,Yu,rfl⟩,_⟩:=bU (own_below gN hb1 (aN)) e.symm;rw[ho1] at ho2;cases ho2)
  exact aI (i:=2) h6 b5 (by decide) _
 refine ⟨by rw[hl];simpa using b5.av 2 (.slice A5 (qs.length+1) c5),⟨zo++ [.slice A1 L c1],by rw[hl];exact aI (i:=2) hown5 b5 (by decide) _,fun i p hi=> ?_⟩,lI.setCell (p:=⟨w.heap.size,2,none⟩) (aN) _⟩;have hvl:zo.length=qs.length:=(dH gN).len;by_cases hi2:i<qs.length
 ·rw[List.getElem?_append_left hi2] at hi;obtain ⟨A,c,e1,h5⟩:=hpx i p hi;exact ⟨A,c,by rw[List.getElem?_append_left (by omega)];exact e1,O0 (own_below h5 hb1 (aN))⟩
 ·rw[List.getElem?_append_right (by omega)] at hi;have hi0:i=qs.length:=by
   have:=(List.getElem?_eq_some_iff.1 hi).1;simp at this;omega
  subst hi0;simp at hi;subst hi;subst hpl;refine ⟨A1,c1,?_,O0 (aU hv1 hz)⟩;rw[List.getElem?_append_right (by omega),hvl];simp
end
def qA (qs:List (List UInt8)):Nat:=(qs.getLast?.getD []).length
theorem JM (qs:List (List UInt8)) (q:List UInt8):qA (qs++ [q])=q.length:=by simp[qA]
theorem P8 {qs:List (List UInt8)} {q:List UInt8} (h:qs[qs.length-1]? =some q):qA qs=q.length:=by
 unfold qA;rw[List.getLast?_eq_getElem?,h];rfl
theorem GJ:∀(l:List (List UInt8)),(∀s∈l,1≤s.length)→aP l 0=(l,0)
 | [],_=>rfl
 |x::r,h=>by
  have:=h x (by simp);unfold aP;rw[if_neg (by omega)]
def KX (w:World) (ST:Bool) (FIN:List (List UInt8) × Bool) (en:Ending) (w':World):Prop:=
 ∃Ap cp sB,en= .returned (.agg #[.bool sB,.bool FIN.2,.slice Ap FIN.1.length cp])∧bF w' w.heap.size (.slice Ap FIN.1.length cp) FIN.1∧Below w.heap.size w w'∧(FIN.1≠ []→sB=ST)
end
section
open Go.RowKit Go.Shelf
attribute [local go_sem] Oper.semAt_some
section
variable {D F:Nat→Prop} {g:Nat} {c:Cf} {st:Sd} {vq vo:Value} {vs os:List Value} {w:World}
def lS (n:Int) (l:List (List UInt8)) (skip:Nat) (qs:List (List UInt8)) (size:Nat) (e:Bool):List (List UInt8) × Bool:=
 let q:=aP l skip
 let R:=pI n (q.1.length+1) q.1 q.2 qs.length (qA qs) size e
 (qs++R.1,R.2.1)
theorem GK {n:Int} {x:List UInt8} {r:List (List UInt8)} {skip:Nat} {qs:List (List UInt8)} {size:Nat} {e:Bool} (h:x.length≤skip):lS n (x::r) skip qs size e=lS n r (skip-x.length) qs size e:=by
 unfold lS;have:aP (x::r) skip=aP r (skip-x.length):=by rw[aP,if_pos h]
 rw[this]
theorem GL {n:Int} {x:List UInt8} {r:List (List UInt8)} {skip:Nat} {qs:List (List UInt8)} {size:Nat} {e:Bool} (h:¬x.length≤skip):
 lS n (x::r) skip qs size e=(qs++(pI n (r.length+1+1) (x::r) skip qs.length (qA qs) size e).1,(pI n (r.length+1+1) (x::r) skip qs.length (qA qs) size e).2.1):=by
 unfold lS;have:aP (x::r) skip=(x::r,skip):=by rw[aP,if_neg h]
 rw[this];rfl
theorem GM {n:Int} {r:List (List UInt8)} {qs:List (List UInt8)} {size:Nat} {e:Bool} (h:∀s∈r,1≤s.length):
 lS n r 0 qs size e=(qs++(pI n (r.length+1) r 0 qs.length (qA qs) size e).1,(pI n (r.length+1) r 0 qs.length (qA qs) size e).2.1):=by
 unfold lS;rw[GJ r h]
def aaW (w:World) (n:Int) (Q:List (List UInt8)) (taken:Nat) (FIN:List (List UInt8) × Bool) (s5 s6 s22:Value) (wr:World):Prop:=
 ∃(k skip size:Nat) (qs:List (List UInt8)) (e sB:Bool) (Ap:Option Addr) (cp:Nat),k≤Q.length∧s5= .int .i64 (skip:Nat)∧s6= .int .i64 (size:Nat)∧s22= .int .i64 (k:Nat)∧lQ w sB e Ap cp qs wr∧
  FIN=lS n (Q.drop k) skip qs size e∧(qs≠ []→sB=decide ((aP Q taken).2=0))∧(qs= []→aP (Q.drop k) skip=aP Q taken)∧skip≤1048576∧size≤32767∧qs.length≤64
theorem lQ.cells3 {sB e:Bool} {Ap:Option Addr} {cp:Nat} {qs:List (List UInt8)} {wr:World} (h:lQ w sB e Ap cp qs wr):(wr.setCell ⟨w.heap.size,0,none⟩ (.bool sB)).cell? ⟨w.heap.size,0,none⟩=some (.bool sB)∧
 ((wr.setCell ⟨w.heap.size,0,none⟩ (.bool sB)).setCell ⟨w.heap.size,1,none⟩ (.bool e)).cell? ⟨w.heap.size,1,none⟩=some (.bool e)∧(((wr.setCell ⟨w.heap.size,0,none⟩ (.bool sB)).setCell ⟨w.heap.size,1,none⟩ (.bool e)).setCell ⟨w.heap.size,2,none⟩ (.slice Ap qs.length cp)).cell? ⟨w.heap.size,2,none⟩=some (.slice Ap qs.length cp):=
 ⟨(h.set0 sB).blk.cell 0,((h.set0 sB).set1 e).blk.cell 1,(((h.set0 sB).set1 e).set2).blk.cell 2⟩
set_option maxRecDepth 100000 in
theorem Ev {sB e:Bool} {Ap:Option Addr} {cp:Nat} {qs:List (List UInt8)} {wr:World} {ST:Bool} {FIN:List (List UInt8) × Bool} (h:lQ w sB e Ap cp qs wr) (hF:FIN=(qs,e)) (hs:qs≠ []→sB=ST):
 KX w ST FIN (.returned (.agg #[.bool sB,.bool e,.slice Ap qs.length cp])) (((wr.setCell ⟨w.heap.size,0,none⟩ (.bool sB)).setCell ⟨w.heap.size,1,none⟩ (.bool e)).setCell ⟨w.heap.size,2,none⟩ (.slice Ap qs.length cp)):=by
 subst hF;have h3:=((h.set0 sB).set1 e).set2;exact ⟨Ap,cp,sB,rfl,h3.parts,h3.below,hs⟩
set_option maxRecDepth 100000 in
set_option maxHeartbeats 4000000 in
theorem MJ (h:dV w D F g c st vq vs vo os) (n:Int) (hn:0≤n) (hn2:n≤9223372036854775807) (hsd:∀s∈st.queue,1≤s.length∧s.length≤9000) (htk:st.taken≤1048576):
 Calls Tryz.prog 86 #[.pointer (some ⟨g,0,none⟩),.int .i64 n] w (KX w (dU n st).s ((dU n st).ps,(dU n st).e)):=by
 obtain ⟨j0,hj0,hm0,afr,afs⟩:=info_parts nV;obtain ⟨FIN,hF⟩:∃FIN,FIN=lS n st.queue st.taken [] 0 false:=⟨_,rfl⟩
 have hF2:((dU n st).ps,(dU n st).e)=FIN:=by rw[hF];rfl
 have hST:(dU n st).s=decide ((aP st.queue st.taken).2=0):=rfl;rw[hF2,hST];have HF:=ah hF;have HSD:=ah hsd;have y7:=h.blk.cell 7;have AU:=h.blk.cell 10;simp[dS] at y7 AU;obtain ⟨A,cc,rfl,hs⟩:=h.EX;have hcap:=hs.sl.cap;have hmx:=hs.sl.mx;have HS:=ah hs;have MK:=ah (lQ.new w);have hgl:=h.blk.lt;generalize st.queue=Q at*;generalize st.taken=taken at*;clear h hF hF2 hST hs hsd;go_enter Tryz.func86,Tryz.ntmps86;go_wp2
 go_loopw [5,6,22] (fun s5 s6 s22 wr=>aaW w n Q taken FIN s5 s6 s22 wr) (fun _ _ i _=>Q.length-(intOf i).toNat)
 case atStart=>exact ⟨0,taken,0,[],false,false,none,0,Nat.zero_le _,rfl,rfl,rfl,MK.out,by rw[HF.out];rfl,fun h=>absurd rfl h,fun _=>rfl,htk,by omega,by simp⟩
 case round=>
  obtain ⟨k,skip,size,qs,e,sB,Ap,cp,hk,rfl,rfl,rfl,hC,hfin,hsB,hq0,GN,hsz,aft⟩:=hrel;have HC:=ah hC;have zG:=ah hsB;have HQ0:=ah hq0;have je:=ah hfin;have hbl:=hC.below;obtain ⟨z0,z1,z2⟩:=(show wr.cell? ⟨w.heap.size,0,none⟩=some (.bool sB)∧wr.cell? ⟨w.heap.size,1,none⟩=some (.bool e)∧wr.cell? ⟨w.heap.size,2,none⟩=some (.slice Ap qs.length cp) from ⟨hC.blk.cell 0,hC.blk.cell 1,hC.blk.cell 2⟩);have r0:=hC.blk.frozen 0;have r1:=hC.blk.frozen 1;have r2:=hC.blk.frozen 2;have hsW:=(HS.out.below hbl).more hbl.size;clear hsB hq0 hfin hC;by_cases hlt:k<Q.length
  ·obtain ⟨x,hx⟩:∃x,Q[k]? =some x:=⟨_,List.getElem?_eq_getElem hlt⟩
   have hdr:Q.drop k=x::Q.drop (k+1):=by
    rw[List.drop_eq_getElem_cons hlt]
    congr 1
    rw[List.getElem?_eq_getElem hlt] at hx;exact Option.some.inj hx
   have hxl:=HSD.out x (List.mem_of_getElem? hx);have HXC:=ah (HS.out.get hlt);have Vd:=ah hx;rw[hdr] at je;have HDR:=ah hdr;clear hdr hx hsW;obtain ⟨ad,Ai,ci,rfl,Bh,P9,KY⟩:=HXC.out;have hgx:Q[k]?.getD []=x:=by rw[Vd.out];rfl
   rw[hgx] at P9 KY;have xG:=KY.below hbl;have afu:=(hbl.cell (p:=ad.add k) (by rw[block_add];exact Bh)).trans P9;have afv:=ah KY;clear KY P9;clear hgx HXC;have hcx:=xG.cap;have aeI:=xG.mx;by_cases hsk:x.length≤skip
   ·have hf:=je.out;rw[GK hsk] at hf;have hfs:=HDR.out;have JN:=ah hf;have dsk:decide (x.length≤skip)=true:=decide_eq_true hsk;clear hf hfs xG;go_wp2
    go_roundw
    case rel=>
     refine ⟨k+1,skip-x.length,size,qs,e,sB,Ap,cp,by omega,by go_num,rfl,by go_num,HC.out,JN.out,zG.out,fun hq=> ?_,by omega,hsz,aft⟩;rw[←HQ0.out hq,HDR.out];rw[aP,if_pos hsk]
    case measure=>simp[intOf];omega
   ·have dsk:decide (x.length≤skip)=false:=decide_eq_false hsk;have hf:=je.out;rw[GL hsk] at hf;have JN:=ah hf;clear hf;go_upto_region 8 with (fail)
    obtain ⟨b1,hb1⟩:∃b1,b1=decide (qs.length=64∨(0<qs.length∧2047<qA qs)):=⟨_,rfl⟩
    have HB1:=ah hb1;clear hb1;go_cut [52] (fun s52 wx=>s52= .bool b1∧wx=wr)
    case first=>
     have hb:=HB1.out;by_cases h0:qs.length=0
     ·have e1:b1=false:=by rw[hb];exact decide_eq_false (by omega)
      subst e1;have d0:decide (0<qs.length)=false:=decide_eq_false (by omega);rw[h0] at z2;clear hb;go_wp2;go_meet;exact ⟨rfl,rfl⟩
     ·have d0:decide (0<qs.length)=true:=decide_eq_true (by omega);by_cases h64:qs.length=64
      ·have e1:b1=true:=by rw[hb];exact decide_eq_true (by omega)
       subst e1;have d64:((qs.length:Int)==64)=true:=by simp;omega
       have H64:=ah h64;clear hb h64;go_wp2;go_meet;exact ⟨rfl,rfl⟩
      ·have d64:((qs.length:Int)==64)=false:=by simp;omega
       obtain ⟨zo,hrow,hpe⟩:=HC.out.parts;obtain ⟨q,hq⟩:∃q,qs[qs.length-1]? =some q:=⟨_,List.getElem?_eq_getElem (by omega)⟩
       have hlast:=P8 hq;obtain ⟨Aq,cq,hv,hrq⟩:=hpe _ q hq;have hsq:=dH hrq;obtain ⟨adp,_,rfl,afw,hg1,hg2⟩:=(dH hrow).get (k:=qs.length-1) (by omega);rw[hv] at hg1;cases hg1;rw[hlast] at hb;have hcap1:=(dH hrow).cap;have V4:=(dH hrow).mx;have aiy:=hsq.cap;have alU:=hsq.mx;have hd2:decide (2047<q.length)=b1:=by rw[hb];exact decide_eq_decide.2 (by omega)
       have HD2:=ah hd2;clear hb hd2 hq hlast hv hrq hsq hrow hpe;cases b1 with
       |true=>
        have hd3:decide ((2047:Int)<q.length)=true:=by have:=HD2.out;simp at this ⊢;omega
        have hd4:decide (2047<q.length)=true:=HD2.out;go_wp2;go_meet;exact ⟨rfl,rfl⟩
       |false=>
        have hd3:decide ((2047:Int)<q.length)=false:=by have:=HD2.out;simp at this ⊢;omega
        have hd4:decide (2047<q.length)=false:=HD2.out;go_wp2;go_meet;exact ⟨rfl,rfl⟩
    case rest=>
    obtain ⟨rfl,rfl⟩:=hcut;by_cases hst:qs.length=64∨(0<qs.length∧2047<qA qs)
    ·have e1:b1=true:=by rw[HB1.out];exact decide_eq_true hst
     subst e1;have hR:FIN=(qs,e):=by rw[JN.out,pI,if_pos hst];simp
     have HR:=ah hR;clear hR xG hst;go_wp2;obtain ⟨p0,p1,p2⟩:=HC.out.cells3;refine bodyPost_ret (v:= .agg #[.bool sB,.bool e,.slice Ap qs.length cp]) (by simp[results,Tryz.results86,go_sem,p0,p1,p2]) rfl ?_;exact Ev HC.out HR.out zG.out
    have e1:b1=false:=by rw[HB1.out];exact decide_eq_false hst
    subst e1;rw[pI,if_neg hst] at JN;obtain ⟨room,hroom⟩:∃room:Int,room=min (n-iQ ((qs.length:Int)+1)) 32767-(size:Int):=⟨_,rfl⟩
    rw[←hroom] at JN;have alV:qs.length≤63:=by omega
    have hh:=yo ((qs.length:Int)+1);have hhd:=qz ((qs.length:Int)+1) false;rw[zP] at hhd;have Ve:=ah hhd;have HRM:=ah hroom;have HST:=ah hst;clear hhd hroom hst HB1;generalize iQ ((qs.length:Int)+1)=hd at*;go_upto_region 9 with (fail)
    go_cut [10] (fun s10 wx=>s10= .int .i64 room∧wx=wc)
    case first=>
     clear xG;go_wp2_with fail;refine (Ve.out _ ⟨by omega,by omega⟩).mono ?_;rintro e1 w1 ⟨rfl,rfl⟩;go_wp2_with fail
     all_goals
      go_meet;exact ⟨by rw[HRM.out];congr 1;omega,rfl⟩
    case rest=>
    obtain ⟨rfl,rfl⟩:=hcut;have hrb:room≤32767-size∧ -1000000≤room:=by have:=HRM.out;omega
    by_cases hr1:room<1
    ·have hR:FIN=(qs,e):=by rw[JN.out,if_pos hr1];simp
     have HR:=ah hR;clear hR xG;go_wp2;obtain ⟨p0,p1,p2⟩:=HC.out.cells3;refine bodyPost_ret (v:= .agg #[.bool sB,.bool e,.slice Ap qs.length cp]) (by simp[results,Tryz.results86,go_sem,p0,p1,p2]) rfl ?_;exact Ev HC.out HR.out zG.out
    rw[if_neg hr1] at JN;obtain ⟨m,hm⟩:∃m:Nat,room=m:=⟨room.toNat,by omega⟩
    subst hm;rw[Int.toNat_natCast] at JN;have hm1:1≤m:=by omega
    have hm2:size+m≤32767:=by omega
    clear hrb hr1 HRM Ve hh;go_upto_if 64 with (fail)
    obtain ⟨ST,hST⟩:∃ST,ST=decide ((aP Q taken).2=0):=⟨_,rfl⟩
    have hss:qs= []→decide (skip=0)=ST:=fun hq=>by
     have:=HQ0.out hq;rw[HDR.out,aP,if_neg hsk] at this;rw[hST,←this]
    rw[←hST] at zG;have QT:=ah hss;have aaY:=ah hST;clear hss hST;go_cut [] (fun wx=>lQ w ST e Ap cp qs wx)
    case first=>
     by_cases hq:qs= []
     ·have hs0:=QT.out hq;have d0:((qs.length:Int)==0)=true:=by rw[hq];rfl
      have d1:((skip:Int)==0)=ST:=by rw[←hs0];exact decide_eq_decide.2 (by omega)
      have HQ:=ah hq;clear hq hs0 xG;go_wp2;go_meet;exact HC.out.set0 ST
     ·have hsb:=zG.out hq;subst hsb;have d0:((qs.length:Int)==0)=false:=by
       have:0<qs.length:=List.length_pos_iff.2 hq;simp;omega
      clear xG;go_wp2;go_meet;exact HC.out
    case rest=>
    have hC2:=hcut;clear hcut xG afu z0 z1 z2 r0 r1 r2 HC;generalize wc=w2 at*;have HC:=ah hC2;have hsx:=(afv.out.below hC2.below).more hC2.below.size;have D7:=hC2.below;have h0x:0<x.length:=by omega
    obtain ⟨ai,rfl,aeH,_⟩:=hsx.at_ h0x;clear hC2;have aaZ:¬ci=skip:=by omega
    have hle2:(x.length:Int)≤ci:=by omega
    go_upto_region 15 with (fail)
    obtain ⟨L,hL⟩:∃L,L=min m (x.length-skip):=⟨_,rfl⟩
    have eL:(if x.length-skip<m then ((x.length-skip:Nat):Int) else (m:Int))=(L:Int):=by rw[hL];split<;>omega
    have hmid:=hsx.mid (a:=skip) (m:=L) (by omega);rw[if_neg aaZ] at hmid;have e1:((bO x).drop skip).take L=bO ((x.drop skip).take L):=by simp[bO]
    rw[e1] at hmid;have Me:((x.drop skip).take L).length=L:=by rw[List.length_take,List.length_drop];omega
    have hL1:1≤L:=by omega
    have hLm:L≤m:=by omega
    have hLK:L≤x.length-skip:=by omega
    have KP:x.length-skip≤9000:=by omega
    rw[eL];simp only[Int.toNat_natCast];obtain ⟨pp,hpp⟩:∃pp,pp=(x.drop skip).take L:=⟨_,rfl⟩
    rw[←hpp] at hmid Me;obtain ⟨K,hK⟩:∃K,K=x.length-skip:=⟨_,rfl⟩
    rw[←hK] at hLK KP ⊢;have HPP:=ah hpp;have HK:=ah hK;have HL:=ah hL;have Mf:=ah Me;have Vf:Sl w2 w2.heap.size (some (ai.add skip)) L K (bO pp):=by
     obtain ⟨q1,q2,q3,q4⟩:=hmid;exact ⟨q1,by omega,by omega,q4⟩
    have hcl:=ji (some (ai.add skip)) L K pp w2.drew Vf.drew (by omega);have pV:=ah hcl;obtain ⟨zo,gN,hpx⟩:=HC.out.parts;have z0:=HC.out.blk.cell 0;have z1:=HC.out.blk.cell 1;have z2:=HC.out.blk.cell 2;have r0:=HC.out.blk.frozen 0;have r1:=HC.out.blk.frozen 1;have r2:=HC.out.blk.frozen 2;simp at z0 z1 z2;have hl2:=HC.out.blk.lt;have hvl:zo.length=qs.length:=(dH gN).len;have OE:=ah gN;have HPX:=ah hpx;clear eL hmid e1 hpp hK hL Me Vf hcl hsx aaZ hle2 gN hpx D7 hvl
    go_region_law (first
     |((refine fu _ (by rfl) _ _ 37 (by rfl) w.heap.size 31 j0 (.slice none 0 0) 24 l7 hj0 hm0 afr afs rfl (.slice Ap qs.length cp) qs.length zo (by rfl) ((own_below (World.ownsRow.drew' OE.out) hb1 (aN)).alloc (.cells #[.slice A1 L c1] 31)) (w1.alloc (.cells #[.slice A1 L c1] 31)).heap.size (some ⟨w1.heap.size,0,none⟩) 1 1 [.slice A1 L c1] (by rfl) (Tz w1 (.slice A1 L c1) 31) (by simp[Value.oneCell']) (by unfold maxLen;omega) (by omega) (by have:=hb1.size;simp at this ⊢;omega) ?_;intro v5 w5 hown5 bR _;obtain ⟨A5,c5,rfl,hs5,_⟩:=bq hown5;have tH:=((HC.out.blk.drew.below hb1 hl2).alloc (.cells #[.slice A1 L c1] 31)).grown bR (fun e=>aJ OE.out HC.out.blk (by decide) e.symm);have q2:=tH.cell 2;have q3:=tH.frozen 2;simp at q2))
     |((go_simp;(with_reducible refine pV.out.mono ?_);rintro e1 w1 ⟨v1,rfl,hv1,hb1⟩;obtain ⟨A1,c1,rfl,hs1,_⟩:=bq hv1;have z2':=(hb1.cell (p:=⟨w.heap.size,2,none⟩) hl2).trans z2;have PS:w.heap.size<w1.heap.size:=Nat.lt_of_lt_of_le hl2 hb1.size;have afy:=(World.cell?_alloc_lt w1 (.cells #[.slice A1 L c1] 31) ⟨w.heap.size,2,none⟩ PS).trans z2';have f0':=(hb1.frozen (p:=⟨w.heap.size,2,none⟩) hl2).trans r2)))
    all_goals
     have Vg:=(HC.out.drewN 1).push Mf.out (World.ownsRow.drew' OE.out) (fun i p hi=>let ⟨A,c,e1,h1⟩:=HPX.out i p hi;⟨A,c,e1,World.ownsRow.drew' h1⟩) hb1 hv1 hown5 bR;have c0:=Vg.blk.cell 0;have c1':=Vg.blk.cell 1;have c2:=Vg.blk.cell 2;have g0:=Vg.blk.frozen 0;have g1:=Vg.blk.frozen 1;have g2:=Vg.blk.frozen 2;simp at c0 c1' c2;have HC3:=ah Vg;clear Vg hown5 bR hv1 hs1 hs5 q2 q3 tH z0 z1 z2 r0 r1 r2 f0' z2' afy;generalize w5.setCell ⟨w.heap.size,2,none⟩ (.slice A5 (qs.length+1) c5)=w6 at*;by_cases Xp:L=K
     ·have dLK:((L:Int)==(K:Int))=true:=by simp;omega
      have hend:¬skip+m<x.length:=by have:=HK.out;have:=HL.out;omega
      have hf:=JN.out;rw[if_neg hend] at hf;have hpe:pp=x.drop skip:=by rw[HPP.out,List.take_of_length_le (by rw[List.length_drop];have:=HK.out;omega)]
      have hFN:FIN=lS n (Q.drop (k+1)) 0 (qs++ [pp]) (size+L) true:=by
       rw[GM (fun s hs=>(HSD.out s (List.mem_of_mem_drop hs)).1),JM,Mf.out,hf,hpe];have e1:x.length-skip=L:=by rw[Xp,HK.out]
       simp only[e1,List.length_append,List.length_singleton,List.append_assoc,List.singleton_append]
      have OB:=ah hFN;have al0:=ah Xp;have Ri:=HC3.out.set1 true;have YR:=ah Ri;clear hf hpe hFN Xp Ri;go_wp2
      go_roundw
      case rel=>
       exact ⟨k+1,0,size+L,qs++ [pp],true,ST,A5,c5,by omega,by go_num,by go_num,by go_num,YR.out,OB.out,fun _=>aaY.out,fun h=>by simp at h,by omega,by omega,by simp;omega⟩
      case measure=>simp[intOf];omega
     ·have dLK:((L:Int)==(K:Int))=false:=by simp;omega
      have hend:skip+m<x.length:=by have:=HK.out;have:=HL.out;omega
      have Xq:L=m:=by have:=HK.out;have:=HL.out;omega
      have hf:=JN.out;rw[if_pos hend,←Xq,←HPP.out] at hf;have HR:=ah hf;have Ri:=HC3.out.set1 false;have d0:=Ri.blk.cell 0;have d1:=Ri.blk.cell 1;have d2:=Ri.blk.cell 2;simp at d0 d1 d2;have YR:=ah Ri;have HLM:=ah Xq;clear hf Ri Xq;go_wp2;obtain ⟨p0,p1,p2⟩:=YR.out.cells3;simp only[List.length_append,List.length_singleton] at p2;refine bodyPost_ret (v:= .agg #[.bool ST,.bool false,.slice A5 (qs.length+1) c5]) (by simp[results,Tryz.results86,go_sem,p0,p1,p2]) rfl ?_;have hO:=Ev YR.out HR.out (fun _=>aaY.out);simp only[List.length_append,List.length_singleton] at hO;exact hO
  ·have hR:FIN=(qs,e):=by
    rw[je.out,List.drop_of_length_le (by omega)];simp[lS,aP,pI]
   have HR:=ah hR;clear hR hsW hbl;go_wp2;obtain ⟨p0,p1,p2⟩:=HC.out.cells3;refine bodyPost_ret (v:= .agg #[.bool sB,.bool e,.slice Ap qs.length cp]) (by simp[results,Tryz.results86,go_sem,p0,p1,p2]) rfl ?_;exact Ev HC.out HR.out zG.out
end
end
end Go.Proofs.YtbhiklnljiehiaaGreat
