/- amsend: chunk: its memory; ampdu.Header. amsend: chunk. amsend: finish. Plain mathematics: cutting a segment again is cutting the PDU. -/
import Derived.Test.YtbhiklnljiehiaaGreatM0ac
import Derived.Test.YtbhiklnljiehiaaGreatM0ad
import Derived.Test.YtbhiklnljiehiaaGreatM0ak
import Derived.Test.YtbhiklnljiehiaaGreatM0am
import Derived.Test.YtbhiklnljiehiaaGreatM0ap
import Derived.Deep.RegionLaw
import Derived.Deep.DeepCutAuto
namespace Go.Proofs.YtbhiklnljiehiaaGreat
section
open Go.RowKit Go.Shelf
attribute [local go_sem] Oper.semAt_some
theorem xg (n:Int):0≤iG n∧iG n≤97:=by unfold iG;split<;>omega
def Ij (n:Int) (sg:Bool):Int:=if 0<iG n∧sg=true then iG n+2 else iG n
set_option maxHeartbeats 400000 in
theorem pZ (n:Int) (sg:Bool) (w:World) (h: -9223372036854775808≤n∧n≤9223372036854775807):
 Calls Tryz.prog 127 #[.int .i64 n,.bool sg] w fun e w'=>e= .returned (.int .i64 (Ij n sg))∧w=w':=by
 have hh:=Gq n w h;have hbd:=xg n;have hfin:Ij n sg=if 0<iG n∧sg=true then iG n+2 else iG n:=rfl
 generalize Ij n sg=R at*;generalize iG n=r at*;have HH:=Lib.hid hh;have HF:=Lib.hid hfin;clear hh hfin;cases sg
 all_goals
  by_cases h0:0<r
  all_goals
   go_enter Tryz.func127,Tryz.ntmps127;go_wp2_with (go_at_call 168;refine HH.out.mono ?_;rintro e1 w1 ⟨rfl,rfl⟩);go_ret;exact ⟨lN (by rw[HF.out];(try simp[h0]);(try omega)),rfl⟩
theorem yV (n:Int):Ij n false=iG n:=by simp[Ij]
theorem Ks (n:Int) (h1:1≤n) (h2:n≤64):Ij n true=iG n+2:=by
 have:0<iG n:=by unfold iG;split<;>omega
 simp[Ij,this]
theorem Qu (W:World) (x:Value) (t:TypeId):Sl (W.alloc (.cells #[x] t)) (W.alloc (.cells #[x] t)).heap.size (some ⟨W.heap.size,0,none⟩) 1 1 [x]:=⟨(qj W x t).len,(qj W x t).cap,(qj W x t).mx,(qj W x t).at_⟩
structure lz (w:World) (sB e:Bool) (Ap:Option Addr) (cp:Nat) (qs:List (List UInt8)) (wr:World):Prop where
 blk:au wr w.heap.size 145 #[.bool sB,.bool e,.slice Ap qs.length cp]
 parts:aW wr w.heap.size (.slice Ap qs.length cp) qs
 below:Below w.heap.size w wr
section
variable {w wr:World} {sB e:Bool} {Ap:Option Addr} {cp:Nat} {qs:List (List UInt8)}
theorem lz.drewN (h:lz w sB e Ap cp qs wr) (k:Nat):lz w sB e Ap cp qs (wr.drewN k):=
 ⟨h.blk.drewN k,h.parts,h.below.drewN k⟩
theorem lz.new (w:World):lz w false false none 0 [] (w.alloc (.cells #[.bool false,.bool false,.slice none 0 0] 145)):=
 ⟨au.new _ _ _,⟨[],World.ownsRow_nil _ _ _ _,fun i p hi=>by simp at hi⟩,(Below.refl _ w).alloc (Nat.le_refl _) _⟩
theorem lz.set0 (h:lz w sB e Ap cp qs wr) (b:Bool):lz w b e Ap cp qs (wr.setCell ⟨w.heap.size,0,none⟩ (.bool b)):=
 ⟨by simpa using h.blk.av 0 (.bool b),h.parts.store h.blk (by decide) (by decide) _,h.below.setCell (p:=⟨w.heap.size,0,none⟩) (Nat.le_refl _) _⟩
theorem lz.set1 (h:lz w sB e Ap cp qs wr) (b:Bool):lz w sB b Ap cp qs (wr.setCell ⟨w.heap.size,1,none⟩ (.bool b)):=
 ⟨by simpa using h.blk.av 1 (.bool b),h.parts.store h.blk (by decide) (by decide) _,h.below.setCell (p:=⟨w.heap.size,1,none⟩) (Nat.le_refl _) _⟩
theorem lz.set2 (h:lz w sB e Ap cp qs wr):lz w sB e Ap cp qs (wr.setCell ⟨w.heap.size,2,none⟩ (.slice Ap qs.length cp)):=
 ⟨by simpa using h.blk.av 2 (.slice Ap qs.length cp),h.parts.store h.blk (by decide) (by decide) _,h.below.setCell (p:=⟨w.heap.size,2,none⟩) (Nat.le_refl _) _⟩
theorem lz.push (h:lz w sB e Ap cp qs wr) {w1 w5:World} {A1 A5:Option Addr} {c1 c5 L:Nat} {yA:List Value} {pp:List UInt8} (hpl:pp.length=L)
 (iH:wr.ownsRow w.heap.size 31 1 (.slice Ap qs.length cp) qs.length yA)
 (hpx:∀(i:Nat) (p:List UInt8),qs[i]? =some p→∃A c,yA[i]? =some (.slice A p.length c)∧wr.ownsRow w.heap.size 5 1 (.slice A p.length c) p.length (bV p))
 (hb1:Below wr.heap.size wr w1) (hv1:w1.ownsRow wr.heap.size 5 1 (.slice A1 L c1) L (bV pp))
 (hown5:w5.ownsRow w.heap.size 31 1 (.slice A5 (qs.length+1) c5) (qs.length+1) (yA++ [.slice A1 L c1]))
 (dF:(w1.alloc (.cells #[.slice A1 L c1] 31)).grownBy w5 (Value.slice Ap qs.length cp).ownBlock):
 lz w sB e A5 c5 (qs++ [pp]) (w5.setCell ⟨w.heap.size,2,none⟩ (.slice A5 (qs.length+1) c5)):=by
 have hz:=h.below.size;have Tx:=(own_below iH hb1 (Nat.le_refl _)).alloc (.cells #[.slice A1 L c1] 31);have b5:=((h.blk.below hb1 h.blk.lt).alloc (.cells #[.slice A1 L c1] 31)).grown dF (fun e=>aI iH h.blk (by decide) e.symm);have hl:(qs++ [pp]).length=qs.length+1:=by simp
 have lg:Below w.heap.size w w5:=((h.below.trans (hb1.mono hz)).alloc (by have:=hb1.size;omega) _).grown dF (by have:=hb1.size;simp;omega) (fun j hj=>(iH.lt j hj).1);have Mr:∀{A:Option Addr} {c:Nat} {p:List UInt8} {base:Nat},w1.ownsRow base 5 1 (.slice A p.length c) p.length (bV p)→(w5.setCell ⟨w.heap.size,2,none⟩ (.slice A5 (qs.length+1) c5)).ownsRow base 5 1 (.slice A p.length c) p.length (bV p):=fun {A c p base} h5=>by
  have h6:=(h5.alloc (.cells #[.slice A1 L c1] 31)).kept dF (by
   rcases hq:(Value.slice A p.length c).ownBlock with _|j
   ·exact .inl rfl
   ·refine .inr (fun e=> ?_);obtain ⟨o1,ho1,⟨cs1,WL,rfl⟩,_⟩:=bT h5 hq;obtain ⟨o2,ho2,⟨cs2,WM,rfl⟩,_⟩:=bT (own_below iH hb1 (Nat.le_refl _)) e.symm;rw[ho1] at ho2;cases ho2)
  exact aJ (i:=2) h6 b5 (by decide) _
 refine ⟨by rw[hl];simpa using b5.av 2 (.slice A5 (qs.length+1) c5),⟨yA++ [.slice A1 L c1],by rw[hl];exact aJ (i:=2) hown5 b5 (by decide) _,fun i p hi=> ?_⟩,lg.setCell (p:=⟨w.heap.size,2,none⟩) (Nat.le_refl _) _⟩;have hvl:yA.length=qs.length:=(ed iH).len;by_cases hi2:i<qs.length
 ·rw[List.getElem?_append_left hi2] at hi;obtain ⟨A,c,e1,h5⟩:=hpx i p hi;exact ⟨A,c,by rw[List.getElem?_append_left (by omega)];exact e1,Mr (own_below h5 hb1 (Nat.le_refl _))⟩
 ·rw[List.getElem?_append_right (by omega)] at hi;have hi0:i=qs.length:=by
   have:=(List.getElem?_eq_some_iff.1 hi).1;simp at this;omega
  subst hi0;simp at hi;subst hi;subst hpl;refine ⟨A1,c1,?_,Mr (aR hv1 hz)⟩;rw[List.getElem?_append_right (by omega),hvl];simp
end
def qa (qs:List (List UInt8)):Nat:=(qs.getLast?.getD []).length
theorem Ik (qs:List (List UInt8)) (q:List UInt8):qa (qs++ [q])=q.length:=by simp[qa]
theorem Np {qs:List (List UInt8)} {q:List UInt8} (h:qs[qs.length-1]? =some q):qa qs=q.length:=by
 unfold qa;rw[List.getLast?_eq_getElem?,h];rfl
theorem Ff:∀(l:List (List UInt8)),(∀s∈l,1≤s.length)→aN l 0=(l,0)
 | [],_=>rfl
 |x::r,h=>by
  have:=h x (by simp);unfold aN;rw[if_neg (by omega)]
def Jj (w:World) (ST:Bool) (FIN:List (List UInt8) × Bool) (en:Ending) (w':World):Prop:=
 ∃Ap cp sB,en= .returned (.agg #[.bool sB,.bool FIN.2,.slice Ap FIN.1.length cp])∧aW w' w.heap.size (.slice Ap FIN.1.length cp) FIN.1∧Below w.heap.size w w'∧(FIN.1≠ []→sB=ST)
end
section
open Go.RowKit Go.Shelf
attribute [local go_sem] Oper.semAt_some
section
variable {D F:Nat→Prop} {g:Nat} {c:Cf} {st:Sd} {vq vo:Value} {vs os:List Value} {w:World}
def lC (n:Int) (l:List (List UInt8)) (skip:Nat) (qs:List (List UInt8)) (size:Nat) (e:Bool):List (List UInt8) × Bool:=
 let q:=aN l skip
 let R:=oQ n (q.1.length+1) q.1 q.2 qs.length (qa qs) size e
 (qs++R.1,R.2.1)
theorem Fg {n:Int} {x:List UInt8} {r:List (List UInt8)} {skip:Nat} {qs:List (List UInt8)} {size:Nat} {e:Bool} (h:x.length≤skip):lC n (x::r) skip qs size e=lC n r (skip-x.length) qs size e:=by
 unfold lC;have:aN (x::r) skip=aN r (skip-x.length):=by rw[aN,if_pos h]
 rw[this]
theorem Fh {n:Int} {x:List UInt8} {r:List (List UInt8)} {skip:Nat} {qs:List (List UInt8)} {size:Nat} {e:Bool} (h:¬x.length≤skip):
 lC n (x::r) skip qs size e=(qs++(oQ n (r.length+1+1) (x::r) skip qs.length (qa qs) size e).1,(oQ n (r.length+1+1) (x::r) skip qs.length (qa qs) size e).2.1):=by
 unfold lC;have:aN (x::r) skip=(x::r,skip):=by rw[aN,if_neg h]
 rw[this];rfl
theorem Fj {n:Int} {r:List (List UInt8)} {qs:List (List UInt8)} {size:Nat} {e:Bool} (h:∀s∈r,1≤s.length):
 lC n r 0 qs size e=(qs++(oQ n (r.length+1) r 0 qs.length (qa qs) size e).1,(oQ n (r.length+1) r 0 qs.length (qa qs) size e).2.1):=by
 unfold lC;rw[Ff r h]
def YC (w:World) (n:Int) (Q:List (List UInt8)) (taken:Nat) (FIN:List (List UInt8) × Bool) (s5 s6 s22:Value) (wr:World):Prop:=
 ∃(k skip size:Nat) (qs:List (List UInt8)) (e sB:Bool) (Ap:Option Addr) (cp:Nat),k≤Q.length∧s5= .int .i64 (skip:Nat)∧s6= .int .i64 (size:Nat)∧s22= .int .i64 (k:Nat)∧lz w sB e Ap cp qs wr∧
  FIN=lC n (Q.drop k) skip qs size e∧(qs≠ []→sB=decide ((aN Q taken).2=0))∧(qs= []→aN (Q.drop k) skip=aN Q taken)∧skip≤1048576∧size≤32767∧qs.length≤64
theorem lz.cells3 {sB e:Bool} {Ap:Option Addr} {cp:Nat} {qs:List (List UInt8)} {wr:World} (h:lz w sB e Ap cp qs wr):(wr.setCell ⟨w.heap.size,0,none⟩ (.bool sB)).cell? ⟨w.heap.size,0,none⟩=some (.bool sB)∧
 ((wr.setCell ⟨w.heap.size,0,none⟩ (.bool sB)).setCell ⟨w.heap.size,1,none⟩ (.bool e)).cell? ⟨w.heap.size,1,none⟩=some (.bool e)∧(((wr.setCell ⟨w.heap.size,0,none⟩ (.bool sB)).setCell ⟨w.heap.size,1,none⟩ (.bool e)).setCell ⟨w.heap.size,2,none⟩ (.slice Ap qs.length cp)).cell? ⟨w.heap.size,2,none⟩=some (.slice Ap qs.length cp):=
 ⟨(h.set0 sB).blk.cell 0,((h.set0 sB).set1 e).blk.cell 1,(((h.set0 sB).set1 e).set2).blk.cell 2⟩
set_option maxRecDepth 100000 in
theorem Dn {sB e:Bool} {Ap:Option Addr} {cp:Nat} {qs:List (List UInt8)} {wr:World} {ST:Bool} {FIN:List (List UInt8) × Bool} (h:lz w sB e Ap cp qs wr) (hF:FIN=(qs,e)) (hs:qs≠ []→sB=ST):
 Jj w ST FIN (.returned (.agg #[.bool sB,.bool e,.slice Ap qs.length cp])) (((wr.setCell ⟨w.heap.size,0,none⟩ (.bool sB)).setCell ⟨w.heap.size,1,none⟩ (.bool e)).setCell ⟨w.heap.size,2,none⟩ (.slice Ap qs.length cp)):=by
 subst hF;have h3:=((h.set0 sB).set1 e).set2;exact ⟨Ap,cp,sB,rfl,h3.parts,h3.below,hs⟩
set_option maxRecDepth 100000 in
set_option maxHeartbeats 4000000 in
theorem Kt (h:dS w D F g c st vq vs vo os) (n:Int) (hn:0≤n) (hn2:n≤9223372036854775807) (hsd:∀s∈st.queue,1≤s.length∧s.length≤9000) (htk:st.taken≤1048576):
 Calls Tryz.prog 86 #[.pointer (some ⟨g,0,none⟩),.int .i64 n] w (Jj w (dL n st).s ((dL n st).ps,(dL n st).e)):=by
 obtain ⟨j0,hj0,hm0,ac0,ac1⟩:=info_parts sD;obtain ⟨FIN,hF⟩:∃FIN,FIN=lC n st.queue st.taken [] 0 false:=⟨_,rfl⟩
 have hF2:((dL n st).ps,(dL n st).e)=FIN:=by rw[hF];rfl
 have hST:(dL n st).s=decide ((aN st.queue st.taken).2=0):=rfl;rw[hF2,hST];have HF:=Lib.hid hF;have Ym:=Lib.hid hsd;have y7:=h.blk.cell 7;have Dm:=h.blk.cell 10;simp[dO] at y7 Dm;obtain ⟨A,cc,rfl,hs⟩:=h.WR;have hcap:=hs.sl.cap;have hmx:=hs.sl.mx;have HS:=Lib.hid hs;have YD:=Lib.hid (lz.new w);have hgl:=h.blk.lt;generalize st.queue=Q at*;generalize st.taken=taken at*;clear h hF hF2 hST hs hsd;go_enter Tryz.func86,Tryz.ntmps86;go_wp2
 go_loopw [5,6,22] (fun s5 s6 s22 wr=>YC w n Q taken FIN s5 s6 s22 wr) (fun _ _ i _=>Q.length-(intOf i).toNat)
 case atStart=>exact ⟨0,taken,0,[],false,false,none,0,Nat.zero_le _,rfl,rfl,rfl,YD.out,by rw[HF.out];rfl,fun h=>absurd rfl h,fun _=>rfl,htk,by omega,by simp⟩
 case round=>
  obtain ⟨k,skip,size,qs,e,sB,Ap,cp,hk,rfl,rfl,rfl,hC,hfin,hsB,hq0,Fq,hsz,ac2⟩:=hrel;have HC:=Lib.hid hC;have yM:=Lib.hid hsB;have HQ0:=Lib.hid hq0;have iW:=Lib.hid hfin;have hbl:=hC.below;obtain ⟨z0,z1,z2⟩:=(show wr.cell? ⟨w.heap.size,0,none⟩=some (.bool sB)∧wr.cell? ⟨w.heap.size,1,none⟩=some (.bool e)∧wr.cell? ⟨w.heap.size,2,none⟩=some (.slice Ap qs.length cp) from ⟨hC.blk.cell 0,hC.blk.cell 1,hC.blk.cell 2⟩);have r0:=hC.blk.frozen 0;have r1:=hC.blk.frozen 1;have r2:=hC.blk.frozen 2;have hsW:=(HS.out.below hbl).more hbl.size;clear hsB hq0 hfin hC;by_cases hlt:k<Q.length
  ·obtain ⟨x,hx⟩:∃x,Q[k]? =some x:=⟨_,List.getElem?_eq_getElem hlt⟩
   have hdr:Q.drop k=x::Q.drop (k+1):=by
    rw[List.drop_eq_getElem_cons hlt]
    congr 1
    rw[List.getElem?_eq_getElem hlt] at hx;exact Option.some.inj hx
   have hxl:=Ym.out x (List.mem_of_getElem? hx);have HXC:=Lib.hid (HS.out.get hlt);have R8:=Lib.hid hx;rw[hdr] at iW;have HDR:=Lib.hid hdr;clear hdr hx hsW;obtain ⟨ad,Ai,ci,rfl,Cy,Nq,Jk⟩:=HXC.out;have hgx:Q[k]?.getD []=x:=by rw[R8.out];rfl
   rw[hgx] at Nq Jk;have wE:=Jk.below hbl;have ac3:=(hbl.cell (p:=ad.add k) (by rw[block_add];exact Cy)).trans Nq;have ac4:=Lib.hid Jk;clear Jk Nq;clear hgx HXC;have hcx:=wE.cap;have acd:=wE.mx;by_cases hsk:x.length≤skip
   ·have hf:=iW.out;rw[Fg hsk] at hf;have hfs:=HDR.out;have Il:=Lib.hid hf;have dsk:decide (x.length≤skip)=true:=decide_eq_true hsk;clear hf hfs wE;go_wp2
    go_roundw
    case rel=>
     refine ⟨k+1,skip-x.length,size,qs,e,sB,Ap,cp,by omega,by go_num,rfl,by go_num,HC.out,Il.out,yM.out,fun hq=> ?_,by omega,hsz,ac2⟩;rw[←HQ0.out hq,HDR.out];rw[aN,if_pos hsk]
    case measure=>simp[intOf];omega
   ·have dsk:decide (x.length≤skip)=false:=decide_eq_false hsk;have hf:=iW.out;rw[Fh hsk] at hf;have Il:=Lib.hid hf;clear hf;go_upto_region 8 with (fail)
    obtain ⟨b1,hb1⟩:∃b1,b1=decide (qs.length=64∨(0<qs.length∧2047<qa qs)):=⟨_,rfl⟩
    have HB1:=Lib.hid hb1;clear hb1;go_cut [52] (fun s52 wx=>s52= .bool b1∧wx=wr)
    case first=>
     have hb:=HB1.out;by_cases h0:qs.length=0
     ·have e1:b1=false:=by rw[hb];exact decide_eq_false (by omega)
      subst e1;have d0:decide (0<qs.length)=false:=decide_eq_false (by omega);rw[h0] at z2;clear hb;go_wp2;go_meet;exact ⟨rfl,rfl⟩
     ·have d0:decide (0<qs.length)=true:=decide_eq_true (by omega);by_cases h64:qs.length=64
      ·have e1:b1=true:=by rw[hb];exact decide_eq_true (by omega)
       subst e1;have d64:((qs.length:Int)==64)=true:=by simp;omega
       have H64:=Lib.hid h64;clear hb h64;go_wp2;go_meet;exact ⟨rfl,rfl⟩
      ·have d64:((qs.length:Int)==64)=false:=by simp;omega
       obtain ⟨yA,hrow,hpe⟩:=HC.out.parts;obtain ⟨q,hq⟩:∃q,qs[qs.length-1]? =some q:=⟨_,List.getElem?_eq_getElem (by omega)⟩
       have hlast:=Np hq;obtain ⟨Aq,cq,hv,hrq⟩:=hpe _ q hq;have YE:=ed hrq;obtain ⟨adp,_,rfl,ajB,hg1,hg2⟩:=(ed hrow).get (k:=qs.length-1) (by omega);rw[hv] at hg1;cases hg1;rw[hlast] at hb;have hcap1:=(ed hrow).cap;have abH:=(ed hrow).mx;have af4:=YE.cap;have ajC:=YE.mx;have hd2:decide (2047<q.length)=b1:=by rw[hb];exact decide_eq_decide.2 (by omega)
       have HD2:=Lib.hid hd2;clear hb hd2 hq hlast hv hrq YE hrow hpe;cases b1 with
       |true=>
        have hd3:decide ((2047:Int)<q.length)=true:=by have:=HD2.out;simp at this ⊢;omega
        have hd4:decide (2047<q.length)=true:=HD2.out;go_wp2;go_meet;exact ⟨rfl,rfl⟩
       |false=>
        have hd3:decide ((2047:Int)<q.length)=false:=by have:=HD2.out;simp at this ⊢;omega
        have hd4:decide (2047<q.length)=false:=HD2.out;go_wp2;go_meet;exact ⟨rfl,rfl⟩
    case rest=>
    obtain ⟨rfl,rfl⟩:=hcut;by_cases hst:qs.length=64∨(0<qs.length∧2047<qa qs)
    ·have e1:b1=true:=by rw[HB1.out];exact decide_eq_true hst
     subst e1;have hR:FIN=(qs,e):=by rw[Il.out,oQ,if_pos hst];simp
     have HR:=Lib.hid hR;clear hR wE hst;go_wp2;obtain ⟨p0,p1,p2⟩:=HC.out.cells3;refine bodyPost_ret (v:= .agg #[.bool sB,.bool e,.slice Ap qs.length cp]) (by simp[results,Tryz.results86,go_sem,p0,p1,p2]) rfl ?_;exact Dn HC.out HR.out yM.out
    have e1:b1=false:=by rw[HB1.out];exact decide_eq_false hst
    subst e1;rw[oQ,if_neg hst] at Il;obtain ⟨room,hroom⟩:∃room:Int,room=min (n-iG ((qs.length:Int)+1)) 32767-(size:Int):=⟨_,rfl⟩
    rw[←hroom] at Il;have ajD:qs.length≤63:=by omega
    have hh:=xg ((qs.length:Int)+1);have hhd:=pZ ((qs.length:Int)+1) false;rw[yV] at hhd;have R9:=Lib.hid hhd;have HRM:=Lib.hid hroom;have HST:=Lib.hid hst;clear hhd hroom hst HB1;generalize iG ((qs.length:Int)+1)=hd at*;go_upto_region 9 with (fail)
    go_cut [10] (fun s10 wx=>s10= .int .i64 room∧wx=wc)
    case first=>
     clear wE;go_wp2_with fail;refine (R9.out _ ⟨by omega,by omega⟩).mono ?_;rintro e1 w1 ⟨rfl,rfl⟩;go_wp2_with fail
     all_goals
      go_meet;exact ⟨by rw[HRM.out];congr 1;omega,rfl⟩
    case rest=>
    obtain ⟨rfl,rfl⟩:=hcut;have hrb:room≤32767-size∧ -1000000≤room:=by have:=HRM.out;omega
    by_cases hr1:room<1
    ·have hR:FIN=(qs,e):=by rw[Il.out,if_pos hr1];simp
     have HR:=Lib.hid hR;clear hR wE;go_wp2;obtain ⟨p0,p1,p2⟩:=HC.out.cells3;refine bodyPost_ret (v:= .agg #[.bool sB,.bool e,.slice Ap qs.length cp]) (by simp[results,Tryz.results86,go_sem,p0,p1,p2]) rfl ?_;exact Dn HC.out HR.out yM.out
    rw[if_neg hr1] at Il;obtain ⟨m,hm⟩:∃m:Nat,room=m:=⟨room.toNat,by omega⟩
    subst hm;rw[Int.toNat_natCast] at Il;have hm1:1≤m:=by omega
    have hm2:size+m≤32767:=by omega
    clear hrb hr1 HRM R9 hh;go_upto_if 64 with (fail)
    obtain ⟨ST,hST⟩:∃ST,ST=decide ((aN Q taken).2=0):=⟨_,rfl⟩
    have hss:qs= []→decide (skip=0)=ST:=fun hq=>by
     have:=HQ0.out hq;rw[HDR.out,aN,if_neg hsk] at this;rw[hST,←this]
    rw[←hST] at yM;have Oh:=Lib.hid hss;have YF:=Lib.hid hST;clear hss hST;go_cut [] (fun wx=>lz w ST e Ap cp qs wx)
    case first=>
     by_cases hq:qs= []
     ·have hs0:=Oh.out hq;have d0:((qs.length:Int)==0)=true:=by rw[hq];rfl
      have d1:((skip:Int)==0)=ST:=by rw[←hs0];exact decide_eq_decide.2 (by omega)
      have HQ:=Lib.hid hq;clear hq hs0 wE;go_wp2;go_meet;exact HC.out.set0 ST
     ·have hsb:=yM.out hq;subst hsb;have d0:((qs.length:Int)==0)=false:=by
       have:0<qs.length:=List.length_pos_iff.2 hq;simp;omega
      clear wE;go_wp2;go_meet;exact HC.out
    case rest=>
    have hC2:=hcut;clear hcut wE ac3 z0 z1 z2 r0 r1 r2 HC;generalize wc=w2 at*;have HC:=Lib.hid hC2;have hsx:=(ac4.out.below hC2.below).more hC2.below.size;have CW:=hC2.below;have h0x:0<x.length:=by omega
    obtain ⟨ai,rfl,ab9,_⟩:=hsx.at_ h0x;clear hC2;have YG:¬ci=skip:=by omega
    have hle2:(x.length:Int)≤ci:=by omega
    go_upto_region 15 with (fail)
    obtain ⟨L,hL⟩:∃L,L=min m (x.length-skip):=⟨_,rfl⟩
    have eL:(if x.length-skip<m then ((x.length-skip:Nat):Int) else (m:Int))=(L:Int):=by rw[hL];split<;>omega
    have hmid:=hsx.mid (a:=skip) (m:=L) (by omega);rw[if_neg YG] at hmid;have e1:((bV x).drop skip).take L=bV ((x.drop skip).take L):=by simp[bV]
    rw[e1] at hmid;have J6:((x.drop skip).take L).length=L:=by rw[List.length_take,List.length_drop];omega
    have hL1:1≤L:=by omega
    have hLm:L≤m:=by omega
    have hLK:L≤x.length-skip:=by omega
    have Je:x.length-skip≤9000:=by omega
    rw[eL];simp only[Int.toNat_natCast];obtain ⟨pp,hpp⟩:∃pp,pp=(x.drop skip).take L:=⟨_,rfl⟩
    rw[←hpp] at hmid J6;obtain ⟨K,hK⟩:∃K,K=x.length-skip:=⟨_,rfl⟩
    rw[←hK] at hLK Je ⊢;have HPP:=Lib.hid hpp;have HK:=Lib.hid hK;have HL:=Lib.hid hL;have J7:=Lib.hid J6;have Sb:Sl w2 w2.heap.size (some (ai.add skip)) L K (bV pp):=by
     obtain ⟨q1,q2,q3,q4⟩:=hmid;exact ⟨q1,by omega,by omega,q4⟩
    have hcl:=kN (some (ai.add skip)) L K pp w2.drew Sb.drew (by omega);have qP:=Lib.hid hcl;obtain ⟨yA,iH,hpx⟩:=HC.out.parts;have z0:=HC.out.blk.cell 0;have z1:=HC.out.blk.cell 1;have z2:=HC.out.blk.cell 2;have r0:=HC.out.blk.frozen 0;have r1:=HC.out.blk.frozen 1;have r2:=HC.out.blk.frozen 2;simp at z0 z1 z2;have hl2:=HC.out.blk.lt;have hvl:yA.length=qs.length:=(ed iH).len;have VI:=Lib.hid iH;have HPX:=Lib.hid hpx;clear eL hmid e1 hpp hK hL J6 Sb hcl hsx YG hle2 iH hpx CW hvl
    go_region_law (first
     |((refine eU _ (by rfl) _ _ 37 (by rfl) w.heap.size 31 j0 (.slice none 0 0) 24 vK hj0 hm0 ac0 ac1 rfl (.slice Ap qs.length cp) qs.length yA (by rfl) ((own_below (World.ownsRow.drew' VI.out) hb1 (Nat.le_refl _)).alloc (.cells #[.slice A1 L c1] 31)) (w1.alloc (.cells #[.slice A1 L c1] 31)).heap.size (some ⟨w1.heap.size,0,none⟩) 1 1 [.slice A1 L c1] (by rfl) (Qu w1 (.slice A1 L c1) 31) (by simp[Value.oneCell']) (by unfold maxLen;omega) (by omega) (by have:=hb1.size;simp at this ⊢;omega) ?_;intro v5 w5 hown5 dF _;obtain ⟨A5,c5,rfl,hs5,_⟩:=aZ hown5;have wQ:=((HC.out.blk.drew.below hb1 hl2).alloc (.cells #[.slice A1 L c1] 31)).grown dF (fun e=>aI VI.out HC.out.blk (by decide) e.symm);have q2:=wQ.cell 2;have q3:=wQ.frozen 2;simp at q2))
     |((go_simp;(with_reducible refine qP.out.mono ?_);rintro e1 w1 ⟨v1,rfl,hv1,hb1⟩;obtain ⟨A1,c1,rfl,hs1,_⟩:=aZ hv1;have z2':=(hb1.cell (p:=⟨w.heap.size,2,none⟩) hl2).trans z2;have Ut:w.heap.size<w1.heap.size:=Nat.lt_of_lt_of_le hl2 hb1.size;have ac6:=(World.cell?_alloc_lt w1 (.cells #[.slice A1 L c1] 31) ⟨w.heap.size,2,none⟩ Ut).trans z2';have f0':=(hb1.frozen (p:=⟨w.heap.size,2,none⟩) hl2).trans r2)))
    all_goals
     have Sc:=(HC.out.drewN 1).push J7.out (World.ownsRow.drew' VI.out) (fun i p hi=>let ⟨A,c,e1,h1⟩:=HPX.out i p hi;⟨A,c,e1,World.ownsRow.drew' h1⟩) hb1 hv1 hown5 dF;have c0:=Sc.blk.cell 0;have c1':=Sc.blk.cell 1;have c2:=Sc.blk.cell 2;have g0:=Sc.blk.frozen 0;have g1:=Sc.blk.frozen 1;have g2:=Sc.blk.frozen 2;simp at c0 c1' c2;have YH:=Lib.hid Sc;clear Sc hown5 dF hv1 hs1 hs5 q2 q3 wQ z0 z1 z2 r0 r1 r2 f0' z2' ac6;generalize w5.setCell ⟨w.heap.size,2,none⟩ (.slice A5 (qs.length+1) c5)=w6 at*;by_cases UA:L=K
     ·have dLK:((L:Int)==(K:Int))=true:=by simp;omega
      have hend:¬skip+m<x.length:=by have:=HK.out;have:=HL.out;omega
      have hf:=Il.out;rw[if_neg hend] at hf;have hpe:pp=x.drop skip:=by rw[HPP.out,List.take_of_length_le (by rw[List.length_drop];have:=HK.out;omega)]
      have hFN:FIN=lC n (Q.drop (k+1)) 0 (qs++ [pp]) (size+L) true:=by
       rw[Fj (fun s hs=>(Ym.out s (List.mem_of_mem_drop hs)).1),Ik,J7.out,hf,hpe];have e1:x.length-skip=L:=by rw[UA,HK.out]
       simp only[e1,List.length_append,List.length_singleton,List.append_assoc,List.singleton_append]
      have L6:=Lib.hid hFN;have ajI:=Lib.hid UA;have OB:=YH.out.set1 true;have V3:=Lib.hid OB;clear hf hpe hFN UA OB;go_wp2
      go_roundw
      case rel=>
       exact ⟨k+1,0,size+L,qs++ [pp],true,ST,A5,c5,by omega,by go_num,by go_num,by go_num,V3.out,L6.out,fun _=>YF.out,fun h=>by simp at h,by omega,by omega,by simp;omega⟩
      case measure=>simp[intOf];omega
     ·have dLK:((L:Int)==(K:Int))=false:=by simp;omega
      have hend:skip+m<x.length:=by have:=HK.out;have:=HL.out;omega
      have UB:L=m:=by have:=HK.out;have:=HL.out;omega
      have hf:=Il.out;rw[if_pos hend,←UB,←HPP.out] at hf;have HR:=Lib.hid hf;have OB:=YH.out.set1 false;have d0:=OB.blk.cell 0;have d1:=OB.blk.cell 1;have d2:=OB.blk.cell 2;simp at d0 d1 d2;have V3:=Lib.hid OB;have HLM:=Lib.hid UB;clear hf OB UB;go_wp2;obtain ⟨p0,p1,p2⟩:=V3.out.cells3;simp only[List.length_append,List.length_singleton] at p2;refine bodyPost_ret (v:= .agg #[.bool ST,.bool false,.slice A5 (qs.length+1) c5]) (by simp[results,Tryz.results86,go_sem,p0,p1,p2]) rfl ?_;have hO:=Dn V3.out HR.out (fun _=>YF.out);simp only[List.length_append,List.length_singleton] at hO;exact hO
  ·have hR:FIN=(qs,e):=by
    rw[iW.out,List.drop_of_length_le (by omega)];simp[lC,aN,oQ]
   have HR:=Lib.hid hR;clear hR hsW hbl;go_wp2;obtain ⟨p0,p1,p2⟩:=HC.out.cells3;refine bodyPost_ret (v:= .agg #[.bool sB,.bool e,.slice Ap qs.length cp]) (by simp[results,Tryz.results86,go_sem,p0,p1,p2]) rfl ?_;exact Dn HC.out HR.out yM.out
end
end
section
open Go.RowKit Go.Shelf
attribute [local go_sem] Oper.semAt_some
section
variable {D F:Nat→Prop} {g:Nat} {c:Cf} {st:Sd} {vq vo:Value} {vs os:List Value} {w:World}
theorem Im {i j:Nat} {x:Value} (h:w.cell? ⟨g,i,none⟩=some x) (hne:j≠i) (u:Value):(w.setCell ⟨g,j,none⟩ u).cell? ⟨g,i,none⟩=some x:=by
 rw[←h];simp[World.cell?,World.setCell,Array.getElem?_modify];cases w.heap[g]? with
 |none=>rfl
 |some o=>cases o<;>simp[hne]
def Dp (w:World) (D F:Nat→Prop) (g:Nat) (c:Cf) (st:Sd) (bs:List UInt8) (e:Ending) (w':World):Prop:=
 ∃v,e= .returned v∧w'.ownsRow w.heap.size 5 1 v bs.length (bV bs)∧kM w D F g c st w'
set_option maxRecDepth 100000 in
set_option maxHeartbeats 2000000 in
theorem je (h:dS w D F g c st vq vs vo os) (hsum:bM st≤1048576) (hw:st.out.length≤512) (hf:st.first<1024)
 (sn:Nat) (po sg la:Bool) (off:Nat) (s e:Bool) (A:Option Addr) (n cc:Nat) (vl:List Value) (ps:List (List UInt8)) (hps:∀w',Kept (fun k _=>D k) w w'→jg w' w'.heap.size A n cc vl ps)
 (hv:gK sn sg la off ps=true) (hoff:off≤32767) (polls:Bool):
 Calls Tryz.prog 89 #[.pointer (some ⟨g,0,none⟩),.agg (bq sn po sg la off s e A n cc),.bool polls] w (Dp w D F g c (bZ c st polls).1 (wo sn (bZ c st polls).2 sg la off s e ps)):=by
 obtain ⟨PO,hP⟩:∃PO,PO=(polls||st.dW||jD st):=⟨_,rfl⟩
 have hfin:bZ c st polls=if PO=true then (sj st c,true) else (st,false):=by unfold bZ;rw[hP]
 rw[hfin];have hid:=fun (o:Obj)=>BA (h.alloc o) hsum (by omega)
 have Oz:=Lib.hid hid;have Da:=h.blk.cell 18;simp[dO] at Da;have HH:=Lib.hid h;have HP:=Lib.hid hP;have OP:=Lib.hid hps;have HV:=Lib.hid hv;have hgl:=h.blk.lt;clear h hid hP hfin hps hv;unfold bq;go_enter Tryz.func89,Tryz.ntmps89;go_upto_region 1 with (fail)
 go_cut [] (fun wx=>au wx w.heap.size 148 (bq sn PO sg la off s e A n cc)∧dS wx D F g c st vq vs vo os∧Kept (fun k _=>D k) w wx)
 case first=>
  have hp:=HP.out;cases polls with
  |true=>
   have hp1:PO=true:=by rw[hp];rfl
   clear hp;subst hp1;go_wp2;go_meet;exact ⟨au.new _ _ _,HH.out.alloc _,(Kept.refl _ w).alloc _⟩
  |false=>
   cases ho:st.dW with
   |true=>
    rw[ho] at Da hp;have hp1:PO=true:=by rw[hp];rfl
    clear hp ho;subst hp1;go_wp2;go_meet;exact ⟨au.new _ _ _,HH.out.alloc _,(Kept.refl _ w).alloc _⟩
   |false=>
    rw[ho] at Da hp;have hp1:jD st=PO:=by rw[hp];rfl
    clear hp ho;rw[hp1] at Oz;have HI:=Lib.hid (Oz.out);have HP1:=Lib.hid hp1;clear hp1;go_wp2_with (go_at_call 131;refine (HI.out _).mono ?_;rintro e1 w1 ⟨rfl,q,rfl⟩);go_meet;have bb:=((au.new w 148 (bq sn po sg la off s e A n cc)).drewN q).av 1 (.bool PO);have hgs:=HH.out.lt;exact ⟨bb,((HH.out.alloc _).drewN q).stay fun k hk=>fq (fun e=>by
     have:=hgs k hk;have e2:k=w.heap.size:=e;omega),(((Kept.refl _ w).alloc _).gU q).setCell (fun o ho=>by
     have:=lt_of_heap ho;have e2:w.heap.size<w.heap.size:=this;omega) _⟩
 case rest=>
 obtain ⟨bb,hA1,hk1⟩:=hcut;generalize wc=w1 at*;have hbl:=bb.lt;have hbg:w.heap.size≠g:=by omega
 obtain ⟨b0,b1,b2,b3,b4,b5,b6,b7⟩:=bb.eight;cases PO with
 |false=>
  have hsl:=OP.out _ hk1;have henc:=xY sn false sg la off s e A n cc vl ps w1 hsl HV.out hoff;unfold bq at henc;have HE:=Lib.hid henc;have HA1:=Lib.hid hA1;have vg:=Lib.hid hk1;clear hA1 hk1 hsl henc bb HP Oz OP;go_wp2_with fail;refine HE.out.mono ?_;rintro e3 w3 ⟨vb,rfl,hvb,hb3⟩;go_wp2;go_ret;have hz:=vg.out.size;exact ⟨vb,rfl,aR hvb hz,kM.step vg.out (bR.refl _ _) (bR.refl _ _) ((HA1.out.below hb3).o ((Kept.of_below hb3).fA fun k o ho hm=>by have:=lt_of_heap ho;omega))⟩
 |true=>
  have y13:=hA1.blk.cell 13;have Bt:=hA1.blk.cell 14;have YI:=hA1.blk.cell 18;have e13:=hA1.blk.frozen 13;have e14:=hA1.blk.frozen 14;have e18:=hA1.blk.frozen 18;simp[dO] at y13 Bt YI;have hA2:=((hA1.mr 13 (.int .i64 0) (st':= {st with dD:=0}) rfl rfl rfl).mr 14 (.int .i64 0) (st':= {st with dD:=0,bytes:=0}) rfl rfl rfl).mr 18 (.bool false) (st':= {st with dD:=0,bytes:=0,dW:=false}) rfl rfl rfl;have hk2:=((hk1.setCell (p:=⟨g,13,none⟩) (fun _ _=>HH.out.gd) (.int .i64 0)).setCell (p:=⟨g,14,none⟩) (fun _ _=>HH.out.gd) (.int .i64 0)).setCell (p:=⟨g,18,none⟩) (fun _ _=>HH.out.gd) (.bool false);have bb2:=((bb.far (p:=⟨g,13,none⟩) hbg (.int .i64 0)).far (p:=⟨g,14,none⟩) hbg (.int .i64 0)).far (p:=⟨g,18,none⟩) hbg (.bool false);have HA2:=Lib.hid hA2;have xP:=Lib.hid hk2;have HB2:=Lib.hid bb2;clear hA1 hk1 HP Oz hA2 hk2 bb2 bb Da;go_wp2_with fail;generalize (((w1.setCell ⟨g,13,none⟩ (.int .i64 0)).setCell ⟨g,14,none⟩ (.int .i64 0)).setCell ⟨g,18,none⟩ (.bool false))=w2 at*;have z2:=HA2.out.blk.cell 2;have z15:=HA2.out.blk.cell 15;have z16:=HA2.out.blk.cell 16;have z17:=HA2.out.blk.cell 17;have z20:=HA2.out.blk.cell 20;have g15:=HA2.out.blk.frozen 15;have g16:=HA2.out.blk.frozen 16;have g17:=HA2.out.blk.frozen 17;simp[dO] at z2 z15 z16 z17 z20;have hnx:=fun k=>qi (HA2.out.drewN k) hf (by show st.out.length≤_;omega)
  have hnn:bJ {st with dD:=0,bytes:=0,dW:=false}=bJ st:=rfl;rw[hnn] at hnx;have hnb:bJ st≤1023:=by unfold bJ;omega
  have Bu:=Lib.hid hnx;clear hnx hnn b0 b1 b2 b3 b4 b5 b6 b7 y13 Bt YI e13 e14 e18
  go_region_held3 (fun w'=>w'.cell? ⟨g,2,none⟩=some (.int .i64 c.timer)∧w'.cell? ⟨g,20,none⟩=some (.int .i64 st.now)) (first|go_keep|(constructor<;>(repeat (first|exact z2|exact z20|refine Im ?_ (by decide) _))))
   ((go_at_call 87;refine (Bu.out _).mono ?_;rintro e1 w1 ⟨rfl,q,rfl⟩))
  have YJ:bits BinOp.and IntKind.i64 (IntKind.i64.wrap ((bJ st:Nat)+1023:Int)) 1023=(((bJ st+1023)%1024:Nat):Int):=by
   rw[IntWalk.i64_in _ (by omega),sF];omega
  simp only[YJ];generalize hpp:(bJ st+1023)%1024=pp at*;have HPP:=Lib.hid hpp;generalize hxx:IntKind.i64.wrap (st.now+c.timer)=xx at*;have R8:=Lib.hid hxx;have hA3:=(((HA2.out.drewN (1+q)).mr 15 (.int .i64 (pp:Nat)) (st':= {st with dD:=0,bytes:=0,dW:=false,polled:=pp}) rfl rfl rfl).mr 16 (.bool true) (st':= {st with dD:=0,bytes:=0,dW:=false,polled:=pp,wait:=true}) rfl rfl rfl).mr 17 (.int .i64 xx) (st':= {st with dD:=0,bytes:=0,dW:=false,polled:=pp,wait:=true,fE:=xx}) rfl rfl rfl;have hk3:=(((xP.out.gU (1+q)).setCell (p:=⟨g,15,none⟩) (fun _ _=>HH.out.gd) (.int .i64 (pp:Nat))).setCell (p:=⟨g,16,none⟩) (fun _ _=>HH.out.gd) (.bool true)).setCell (p:=⟨g,17,none⟩) (fun _ _=>HH.out.gd) (.int .i64 xx);have bb3:=(((HB2.out.drewN (1+q)).far (p:=⟨g,15,none⟩) hbg (.int .i64 (pp:Nat))).far (p:=⟨g,16,none⟩) hbg (.bool true)).far (p:=⟨g,17,none⟩) hbg (.int .i64 xx);clear YJ hpp hxx z2 z15 z16 z17 z20 g15 g16 g17;generalize ((((w2.drewN (1+q)).setCell ⟨g,15,none⟩ (.int .i64 (pp:Nat))).setCell ⟨g,16,none⟩ (.bool true)).setCell ⟨g,17,none⟩ (.int .i64 xx))=w3 at*;obtain ⟨b0,b1,b2,b3,b4,b5,b6,b7⟩:=bb3.eight;have hsl:=OP.out _ hk3;have henc:=xY sn true sg la off s e A n cc vl ps w3 hsl HV.out hoff;unfold bq at henc;have HE:=Lib.hid henc;have vk:=Lib.hid hA3;have lJ:=Lib.hid hk3;clear hA3 hk3 hsl henc bb3 OP;go_wp2_with fail;refine HE.out.mono ?_;rintro e3 w4 ⟨vb,rfl,hvb,hb3⟩;go_wp2;go_ret;have hz:=lJ.out.size
  have hfn:sj st c= {st with dD:=0,bytes:=0,dW:=false,polled:=pp,wait:=true,fE:=xx}:=by unfold sj;rw[HPP.out,R8.out]
  rw[hfn];exact ⟨vb,rfl,aR hvb hz,kM.step lJ.out (bR.refl _ _) (bR.refl _ _) ((vk.out.below hb3).o ((Kept.of_below hb3).fA fun k o ho hm=>by have:=lt_of_heap ho;omega))⟩
end
end
section
theorem lX (p:List UInt8) (ps:List (List UInt8)):ah (p::ps)=p.length+ah ps:=by simp[ah]
def mD:List (List UInt8)→Nat→Nat→List (List UInt8)
 | [],_,_=> []
 |p::ps,x,y=>if x<min p.length y then (p.take y).drop x::mD ps (x-p.length) (y-p.length) else mD ps (x-p.length) (y-p.length)
theorem tL:∀(ps:List (List UInt8)) (x y:Nat),(mD ps x y).flatten=(ps.flatten.take y).drop x
 | [],_,_=>by simp[mD]
 |p::ps,x,y=>by
  have ih:=tL ps (x-p.length) (y-p.length);rw[List.flatten_cons,List.take_append,List.drop_append,List.length_take];simp only[mD];by_cases hx:x<min p.length y
  ·rw[if_pos hx,List.flatten_cons,ih]
   congr 1
   by_cases hy:p.length≤y
   ·rw[show x-min y p.length=x-p.length by omega]
   ·rw[show y-p.length=0 by omega];simp
  ·rw[if_neg hx,ih,List.drop_of_length_le (i:=x) (l:=p.take y) (by simp;omega)];by_cases hy:p.length≤y
   ·rw[show x-min y p.length=x-p.length by omega];simp
   ·rw[show y-p.length=0 by omega];simp
theorem yX (ps:List (List UInt8)) (x y:Nat) (h:y≤ah ps):ah (mD ps x y)=y-x:=by
 rw[←kT,tL,List.length_drop,List.length_take,kT];omega
theorem yY:∀(ps:List (List UInt8)) (x y:Nat),∀q∈mD ps x y,1≤q.length
 | [],_,_,q,hq=>by simp[mD] at hq
 |p::ps,x,y,q,hq=>by
  simp only[mD] at hq;by_cases hx:x<min p.length y
  ·rw[if_pos hx,List.mem_cons] at hq;rcases hq with rfl|hq
   ·simp;omega
   ·exact yY ps _ _ q hq
  ·rw[if_neg hx] at hq;exact yY ps _ _ q hq
theorem qb:∀(ps:List (List UInt8)) (x y:Nat),(mD ps x y).length≤ps.length
 | [],_,_=>by simp[mD]
 |p::ps,x,y=>by
  have:=qb ps (x-p.length) (y-p.length);simp only[mD];split
  ·simp;omega
  ·simp;omega
theorem yZ:∀(ps:List (List UInt8)) (x y:Nat),(∀i,i+1<ps.length→(ps[i]?.getD []).length≤2047)→∀i,i+1<(mD ps x y).length→((mD ps x y)[i]?.getD []).length≤2047
 | [],_,_,_,i,hi=>by simp[mD] at hi
 |p::ps,x,y,h,i,hi=>by
  have hr:∀i,i+1<ps.length→(ps[i]?.getD []).length≤2047:=fun i hi=>by
   have:=h (i+1) (by simp;omega);simpa using this
  have ih:=yZ ps (x-p.length) (y-p.length) hr;have hl:=qb ps (x-p.length) (y-p.length);simp only[mD] at hi ⊢;by_cases hx:x<min p.length y
  ·rw[if_pos hx] at hi ⊢;cases i with
   |zero=>
    have:=h 0 (by simp at hi ⊢;omega);simp at this ⊢;omega
   |succ i=>
    have:=ih i (by simp at hi;omega);simpa using this
  ·rw[if_neg hx] at hi ⊢;exact ih i hi
theorem Qv (ps:List (List UInt8)) (x y:Nat) (h:x<y) (hy:y≤ah ps):1≤(mD ps x y).length:=by
 have:=yX ps x y hy;rcases Nat.eq_zero_or_pos (mD ps x y).length with h0|h0
 ·rw[List.length_eq_zero_iff] at h0;rw[h0] at this;simp[ah] at this;omega
 ·exact h0
theorem Io (ps:List (List UInt8)) (x y:Nat) (hv:qQ ps) (h:x<y) (hy:y≤ah ps):qQ (mD ps x y):=
 ⟨Qv ps x y h hy,Nat.le_trans (qb ps x y) hv.hi,yY ps x y,yZ ps x y hv.short,by rw[yX ps x y hy];have:=hv.sum;omega⟩
theorem Dq (p:List UInt8) (ps:List (List UInt8)) (off fr till k:Nat):kK (p::ps) off fr till (k+1)=kK ps (off+p.length) fr till k:=by
 unfold kK;simp only[List.take_succ_cons,lX,Nat.add_assoc]
theorem Dr (p:List UInt8) (ps:List (List UInt8)) (off fr till k:Nat):nR (p::ps) off fr till (k+1)=nR ps (off+p.length) fr till k:=by
 unfold nR;simp only[List.take_succ_cons,lX,Nat.add_assoc,List.getElem?_cons_succ]
theorem qK (p:List UInt8) (ps:List (List UInt8)) (off fr till:Nat):∀k,aP (p::ps) off fr till (k+1)=(if kK (p::ps) off fr till 0 then [nR (p::ps) off fr till 0] else [])++aP ps (off+p.length) fr till k
 |0=>by
  simp only[aP];split<;>simp
 |k+1=>by
  have ih:=qK p ps off fr till k;rw[aP,ih,Dq,Dr]
  conv=>rhs;rw[aP]
  split<;>split<;>simp
theorem mE:∀(ps:List (List UInt8)) (off fr till:Nat),aP ps off fr till ps.length=mD ps (fr-off) (till-off)
 | [],_,_,_=>rfl
 |p::ps,off,fr,till=>by
  have ih:=mE ps (off+p.length) fr till;rw[List.length_cons,qK,ih,mD,show fr-(off+p.length)=fr-off-p.length by omega,show till-(off+p.length)=till-off-p.length by omega];have hh:kK (p::ps) off fr till 0=decide (fr-off<min p.length (till-off)):=by
   unfold kK;simp only[List.take_zero,List.take_succ_cons,lX,xC];rw[Bool.eq_iff_iff];simp only[decide_eq_true_eq];omega
  rw[hh];by_cases hx:fr-off<min p.length (till-off)
  ·rw[if_pos (by simpa using hx),if_pos hx,List.singleton_append]
   congr 1
   unfold nR;simp only[List.take_zero,List.take_succ_cons,lX,xC,List.getElem?_cons_zero,Option.getD_some,Nat.add_zero];rw[List.take_drop,show max off fr-off=fr-off by omega]
   congr 1
   by_cases h1:p.length≤till-off
   ·rw[List.take_of_length_le (by omega),List.take_of_length_le h1]
   ·congr 1;omega
  ·rw[if_neg (by simpa using hx),if_neg hx,List.nil_append]
theorem Qw (ps:List (List UInt8)) (off a d:Nat) (h0:off≤a) (h4:d≤off+ah ps):ah (aP ps off a d ps.length)=d-a:=by
 rw[mE,yX _ _ _ (by omega)];omega
theorem BN (ps:List (List UInt8)) (off a d:Nat) (hv:qQ ps) (h0:off≤a) (h1:a<d) (h4:d≤off+ah ps):qQ (aP ps off a d ps.length):=by
 rw[mE];exact Io ps _ _ hv (by omega) (by omega)
end
end Go.Proofs.YtbhiklnljiehiaaGreat
