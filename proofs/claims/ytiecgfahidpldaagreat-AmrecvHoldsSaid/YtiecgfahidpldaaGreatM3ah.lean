/- amsend: chunk: its memory; ampdu.Header. amsend: chunk. amsend: pends, repeats, expires. amsend: bounds behind a report; bounds of every call (plain). amsend: repeats, expires. amsend: finish. -/
import Derived.Test.YtiecgfahidpldaaGreatM3ad
import Derived.Test.YtiecgfahidpldaaGreatM3ae
import Derived.Test.YtiecgfahidpldaaGreatM3ag
import Derived.Deep.RegionLaw
import Derived.Deep.DeepCutAuto
import Derived.BigRegion
namespace Go.Proofs.YtiecgfahidpldaaGreat
section
open Go.RowKit Go.Shelf
attribute [local go_sem] Oper.semAt_some
theorem xD (n:Int):0≤gW n∧gW n≤97:=by unfold gW;split<;>omega
def IX (n:Int) (sg:Bool):Int:=if 0<gW n∧sg=true then gW n+2 else gW n
set_option maxHeartbeats 400000 in
theorem qy (n:Int) (sg:Bool) (w:World) (h: -9223372036854775808≤n∧n≤9223372036854775807):
 Calls Tryz.prog 144 #[.int .i64 n,.bool sg] w fun e w'=>e= .returned (.int .i64 (IX n sg))∧w=w':=by
 have hh:=Ip n w h;have hbd:=xD n;have hfin:IX n sg=if 0<gW n∧sg=true then gW n+2 else gW n:=rfl
 generalize IX n sg=R at*;generalize gW n=r at*;have HH:=Lib.hid hh;have HF:=Lib.hid hfin;clear hh hfin;cases sg
 all_goals
  by_cases h0:0<r
  all_goals
   go_enter Tryz.func144,Tryz.ntmps144;go_wp2_with (go_at_call 170;refine HH.out.mono ?_;rintro e1 w1 ⟨rfl,rfl⟩);go_ret;exact ⟨mM (by rw[HF.out];(try simp[h0]);(try omega)),rfl⟩
theorem yL (n:Int):IX n false=gW n:=by simp[IX]
theorem KZ (n:Int) (h1:1≤n) (h2:n≤64):IX n true=gW n+2:=by
 have:0<gW n:=by unfold gW;split<;>omega
 simp[IX,this]
theorem QM (W:World) (x:Value) (t:TypeId):Sl (W.alloc (.cells #[x] t)) (W.alloc (.cells #[x] t)).heap.size (some ⟨W.heap.size,0,none⟩) 1 1 [x]:=⟨(ku W x t).len,(ku W x t).cap,(ku W x t).mx,(ku W x t).at_⟩
structure mg (w:World) (sB e:Bool) (Ap:Option Addr) (cp:Nat) (qs:List (List UInt8)) (wr:World):Prop where
 blk:aA wr w.heap.size 70 #[.bool sB,.bool e,.slice Ap qs.length cp]
 parts:aN wr w.heap.size (.slice Ap qs.length cp) qs
 below:Below w.heap.size w wr
section
variable {w wr:World} {sB e:Bool} {Ap:Option Addr} {cp:Nat} {qs:List (List UInt8)}
theorem mg.drewN (h:mg w sB e Ap cp qs wr) (k:Nat):mg w sB e Ap cp qs (wr.drewN k):=
 ⟨h.blk.drewN k,h.parts,h.below.drewN k⟩
theorem mg.new (w:World):mg w false false none 0 [] (w.alloc (.cells #[.bool false,.bool false,.slice none 0 0] 70)):=
 ⟨aA.new _ _ _,⟨[],World.ownsRow_nil _ _ _ _,fun i p hi=>by simp at hi⟩,(Below.refl _ w).alloc (Nat.le_refl _) _⟩
theorem mg.set0 (h:mg w sB e Ap cp qs wr) (b:Bool):mg w b e Ap cp qs (wr.setCell ⟨w.heap.size,0,none⟩ (.bool b)):=
 ⟨by simpa using h.blk.aC 0 (.bool b),h.parts.store h.blk (by decide) (by decide) _,h.below.setCell (p:=⟨w.heap.size,0,none⟩) (Nat.le_refl _) _⟩
theorem mg.set1 (h:mg w sB e Ap cp qs wr) (b:Bool):mg w sB b Ap cp qs (wr.setCell ⟨w.heap.size,1,none⟩ (.bool b)):=
 ⟨by simpa using h.blk.aC 1 (.bool b),h.parts.store h.blk (by decide) (by decide) _,h.below.setCell (p:=⟨w.heap.size,1,none⟩) (Nat.le_refl _) _⟩
theorem mg.set2 (h:mg w sB e Ap cp qs wr):mg w sB e Ap cp qs (wr.setCell ⟨w.heap.size,2,none⟩ (.slice Ap qs.length cp)):=
 ⟨by simpa using h.blk.aC 2 (.slice Ap qs.length cp),h.parts.store h.blk (by decide) (by decide) _,h.below.setCell (p:=⟨w.heap.size,2,none⟩) (Nat.le_refl _) _⟩
theorem mg.push (h:mg w sB e Ap cp qs wr) {w1 w5:World} {A1 A5:Option Addr} {c1 c5 L:Nat} {yK:List Value} {pp:List UInt8} (hpl:pp.length=L)
 (jM:wr.ownsRow w.heap.size 22 1 (.slice Ap qs.length cp) qs.length yK)
 (hpx:∀(i:Nat) (p:List UInt8),qs[i]? =some p→∃A c,yK[i]? =some (.slice A p.length c)∧wr.ownsRow w.heap.size 5 1 (.slice A p.length c) p.length (cu p))
 (hb1:Below wr.heap.size wr w1) (hv1:w1.ownsRow wr.heap.size 5 1 (.slice A1 L c1) L (cu pp))
 (hown5:w5.ownsRow w.heap.size 22 1 (.slice A5 (qs.length+1) c5) (qs.length+1) (yK++ [.slice A1 L c1]))
 (bF:(w1.alloc (.cells #[.slice A1 L c1] 22)).grownBy w5 (Value.slice Ap qs.length cp).ownBlock):
 mg w sB e A5 c5 (qs++ [pp]) (w5.setCell ⟨w.heap.size,2,none⟩ (.slice A5 (qs.length+1) c5)):=by
 have hz:=h.below.size;have U8:=(own_below jM hb1 (Nat.le_refl _)).alloc (.cells #[.slice A1 L c1] 22);have b5:=((h.blk.below hb1 h.blk.lt).alloc (.cells #[.slice A1 L c1] 22)).grown bF (fun e=>aF jM h.blk (by decide) e.symm);have hl:(qs++ [pp]).length=qs.length+1:=by simp
 have oD:Below w.heap.size w w5:=((h.below.trans (hb1.mono hz)).alloc (by have:=hb1.size;omega) _).grown bF (by have:=hb1.size;simp;omega) (fun j hj=>(jM.lt j hj).1);have Nw:∀{A:Option Addr} {c:Nat} {p:List UInt8} {base:Nat},w1.ownsRow base 5 1 (.slice A p.length c) p.length (cu p)→(w5.setCell ⟨w.heap.size,2,none⟩ (.slice A5 (qs.length+1) c5)).ownsRow base 5 1 (.slice A p.length c) p.length (cu p):=fun {A c p base} h5=>by
  have h6:=(h5.alloc (.cells #[.slice A1 L c1] 22)).kept bF (by
   rcases hq:(Value.slice A p.length c).ownBlock with _|j
   ·exact .inl rfl
   ·refine .inr (fun e=> ?_);obtain ⟨o1,ho1,⟨cs1,Yh,rfl⟩,_⟩:=bV h5 hq;obtain ⟨o2,ho2,⟨cs2,Yi,rfl⟩,_⟩:=bV (own_below jM hb1 (Nat.le_refl _)) e.symm;rw[ho1] at ho2;cases ho2)
  exact aO (i:=2) h6 b5 (by decide) _
 refine ⟨by rw[hl];simpa using b5.aC 2 (.slice A5 (qs.length+1) c5),⟨yK++ [.slice A1 L c1],by rw[hl];exact aO (i:=2) hown5 b5 (by decide) _,fun i p hi=> ?_⟩,oD.setCell (p:=⟨w.heap.size,2,none⟩) (Nat.le_refl _) _⟩;have hvl:yK.length=qs.length:=(dZ jM).len;by_cases hi2:i<qs.length
 ·rw[List.getElem?_append_left hi2] at hi;obtain ⟨A,c,e1,h5⟩:=hpx i p hi;exact ⟨A,c,by rw[List.getElem?_append_left (by omega)];exact e1,Nw (own_below h5 hb1 (Nat.le_refl _))⟩
 ·rw[List.getElem?_append_right (by omega)] at hi;have hi0:i=qs.length:=by
   have:=(List.getElem?_eq_some_iff.1 hi).1;simp at this;omega
  subst hi0;simp at hi;subst hi;subst hpl;refine ⟨A1,c1,?_,Nw (aW hv1 hz)⟩;rw[List.getElem?_append_right (by omega),hvl];simp
end
def qz (qs:List (List UInt8)):Nat:=(qs.getLast?.getD []).length
theorem IY (qs:List (List UInt8)) (q:List UInt8):qz (qs++ [q])=q.length:=by simp[qz]
theorem NB {qs:List (List UInt8)} {q:List UInt8} (h:qs[qs.length-1]? =some q):qz qs=q.length:=by
 unfold qz;rw[List.getLast?_eq_getElem?,h];rfl
theorem Fu:∀(l:List (List UInt8)),(∀s∈l,1≤s.length)→aK l 0=(l,0)
 | [],_=>rfl
 |x::r,h=>by
  have:=h x (by simp);unfold aK;rw[if_neg (by omega)]
def Kb (w:World) (ST:Bool) (FIN:List (List UInt8) × Bool) (en:Ending) (w':World):Prop:=
 ∃Ap cp sB,en= .returned (.agg #[.bool sB,.bool FIN.2,.slice Ap FIN.1.length cp])∧aN w' w.heap.size (.slice Ap FIN.1.length cp) FIN.1∧Below w.heap.size w w'∧(FIN.1≠ []→sB=ST)
end
section
open Go.RowKit Go.Shelf
attribute [local go_sem] Oper.semAt_some
section
variable {D F:Nat→Prop} {g:Nat} {c:Cf} {st:Sd} {vq vo:Value} {vs os:List Value} {w:World}
def mh (n:Int) (l:List (List UInt8)) (skip:Nat) (qs:List (List UInt8)) (size:Nat) (e:Bool):List (List UInt8) × Bool:=
 let q:=aK l skip
 let R:=jD n (q.1.length+1) q.1 q.2 qs.length (qz qs) size e
 (qs++R.1,R.2.1)
theorem Fv {n:Int} {x:List UInt8} {r:List (List UInt8)} {skip:Nat} {qs:List (List UInt8)} {size:Nat} {e:Bool} (h:x.length≤skip):mh n (x::r) skip qs size e=mh n r (skip-x.length) qs size e:=by
 unfold mh;have:aK (x::r) skip=aK r (skip-x.length):=by rw[aK,if_pos h]
 rw[this]
theorem Fw {n:Int} {x:List UInt8} {r:List (List UInt8)} {skip:Nat} {qs:List (List UInt8)} {size:Nat} {e:Bool} (h:¬x.length≤skip):
 mh n (x::r) skip qs size e=(qs++(jD n (r.length+1+1) (x::r) skip qs.length (qz qs) size e).1,(jD n (r.length+1+1) (x::r) skip qs.length (qz qs) size e).2.1):=by
 unfold mh;have:aK (x::r) skip=(x::r,skip):=by rw[aK,if_neg h]
 rw[this];rfl
theorem Fx {n:Int} {r:List (List UInt8)} {qs:List (List UInt8)} {size:Nat} {e:Bool} (h:∀s∈r,1≤s.length):
 mh n r 0 qs size e=(qs++(jD n (r.length+1) r 0 qs.length (qz qs) size e).1,(jD n (r.length+1) r 0 qs.length (qz qs) size e).2.1):=by
 unfold mh;rw[Fu r h]
def YE (w:World) (n:Int) (Q:List (List UInt8)) (taken:Nat) (FIN:List (List UInt8) × Bool) (s5 s6 s22:Value) (wr:World):Prop:=
 ∃(k skip size:Nat) (qs:List (List UInt8)) (e sB:Bool) (Ap:Option Addr) (cp:Nat),k≤Q.length∧s5= .int .i64 (skip:Nat)∧s6= .int .i64 (size:Nat)∧s22= .int .i64 (k:Nat)∧mg w sB e Ap cp qs wr∧
  FIN=mh n (Q.drop k) skip qs size e∧(qs≠ []→sB=decide ((aK Q taken).2=0))∧(qs= []→aK (Q.drop k) skip=aK Q taken)∧skip≤1048576∧size≤32767∧qs.length≤64
theorem mg.cells3 {sB e:Bool} {Ap:Option Addr} {cp:Nat} {qs:List (List UInt8)} {wr:World} (h:mg w sB e Ap cp qs wr):(wr.setCell ⟨w.heap.size,0,none⟩ (.bool sB)).cell? ⟨w.heap.size,0,none⟩=some (.bool sB)∧
 ((wr.setCell ⟨w.heap.size,0,none⟩ (.bool sB)).setCell ⟨w.heap.size,1,none⟩ (.bool e)).cell? ⟨w.heap.size,1,none⟩=some (.bool e)∧(((wr.setCell ⟨w.heap.size,0,none⟩ (.bool sB)).setCell ⟨w.heap.size,1,none⟩ (.bool e)).setCell ⟨w.heap.size,2,none⟩ (.slice Ap qs.length cp)).cell? ⟨w.heap.size,2,none⟩=some (.slice Ap qs.length cp):=
 ⟨(h.set0 sB).blk.cell 0,((h.set0 sB).set1 e).blk.cell 1,(((h.set0 sB).set1 e).set2).blk.cell 2⟩
set_option maxRecDepth 100000 in
theorem DC {sB e:Bool} {Ap:Option Addr} {cp:Nat} {qs:List (List UInt8)} {wr:World} {ST:Bool} {FIN:List (List UInt8) × Bool} (h:mg w sB e Ap cp qs wr) (hF:FIN=(qs,e)) (hs:qs≠ []→sB=ST):
 Kb w ST FIN (.returned (.agg #[.bool sB,.bool e,.slice Ap qs.length cp])) (((wr.setCell ⟨w.heap.size,0,none⟩ (.bool sB)).setCell ⟨w.heap.size,1,none⟩ (.bool e)).setCell ⟨w.heap.size,2,none⟩ (.slice Ap qs.length cp)):=by
 subst hF;have h3:=((h.set0 sB).set1 e).set2;exact ⟨Ap,cp,sB,rfl,h3.parts,h3.below,hs⟩
set_option maxRecDepth 100000 in
set_option maxHeartbeats 4000000 in
theorem K5 (h:dY w D F g c st vq vs vo os) (n:Int) (hn:0≤n) (hn2:n≤9223372036854775807) (hsd:∀s∈st.queue,1≤s.length∧s.length≤9000) (htk:st.taken≤1048576):
 Calls Tryz.prog 104 #[.pointer (some ⟨g,0,none⟩),.int .i64 n] w (Kb w (dK n st).s ((dK n st).ps,(dK n st).e)):=by
 obtain ⟨j0,hj0,hm0,YF,adT⟩:=info_parts lD;obtain ⟨FIN,hF⟩:∃FIN,FIN=mh n st.queue st.taken [] 0 false:=⟨_,rfl⟩
 have hF2:((dK n st).ps,(dK n st).e)=FIN:=by rw[hF];rfl
 have hST:(dK n st).s=decide ((aK st.queue st.taken).2=0):=rfl;rw[hF2,hST];have HF:=Lib.hid hF;have Tn:=Lib.hid hsd;have y7:=h.blk.cell 7;have Ah:=h.blk.cell 10;simp[dh] at y7 Ah;obtain ⟨A,cc,rfl,hs⟩:=h.Nh;have hcap:=hs.sl.cap;have hmx:=hs.sl.mx;have HS:=Lib.hid hs;have HC0:=Lib.hid (mg.new w);have hgl:=h.blk.lt;generalize st.queue=Q at*;generalize st.taken=taken at*;clear h hF hF2 hST hs hsd;go_enter Tryz.func104,Tryz.ntmps104;go_wp2
 go_loopw [5,6,22] (fun s5 s6 s22 wr=>YE w n Q taken FIN s5 s6 s22 wr) (fun _ _ i _=>Q.length-(intOf i).toNat)
 case atStart=>exact ⟨0,taken,0,[],false,false,none,0,Nat.zero_le _,rfl,rfl,rfl,HC0.out,by rw[HF.out];rfl,fun h=>absurd rfl h,fun _=>rfl,htk,by omega,by simp⟩
 case round=>
  obtain ⟨k,skip,size,qs,e,sB,Ap,cp,hk,rfl,rfl,rfl,hC,hfin,hsB,hq0,vX,hsz,adU⟩:=hrel;have HC:=Lib.hid hC;have NC:=Lib.hid hsB;have HQ0:=Lib.hid hq0;have jH:=Lib.hid hfin;have hbl:=hC.below;obtain ⟨z0,z1,z2⟩:=(show wr.cell? ⟨w.heap.size,0,none⟩=some (.bool sB)∧wr.cell? ⟨w.heap.size,1,none⟩=some (.bool e)∧wr.cell? ⟨w.heap.size,2,none⟩=some (.slice Ap qs.length cp) from ⟨hC.blk.cell 0,hC.blk.cell 1,hC.blk.cell 2⟩);have r0:=hC.blk.frozen 0;have r1:=hC.blk.frozen 1;have r2:=hC.blk.frozen 2;have hsW:=(HS.out.below hbl).more hbl.size;clear hsB hq0 hfin hC;by_cases hlt:k<Q.length
  ·obtain ⟨x,hx⟩:∃x,Q[k]? =some x:=⟨_,List.getElem?_eq_getElem hlt⟩
   have hdr:Q.drop k=x::Q.drop (k+1):=by
    rw[List.drop_eq_getElem_cons hlt]
    congr 1
    rw[List.getElem?_eq_getElem hlt] at hx;exact Option.some.inj hx
   have hxl:=Tn.out x (List.mem_of_getElem? hx);have YG:=Lib.hid (HS.out.get hlt);have Tp:=Lib.hid hx;rw[hdr] at jH;have HDR:=Lib.hid hdr;clear hdr hx hsW;obtain ⟨ad,Ai,ci,rfl,ND,NE,Kc⟩:=YG.out;have hgx:Q[k]?.getD []=x:=by rw[Tp.out];rfl
   rw[hgx] at NE Kc;have wR:=Kc.below hbl;have adV:=(hbl.cell (p:=ad.add k) (by rw[block_add];exact ND)).trans NE;have adW:=Lib.hid Kc;clear Kc NE;clear hgx YG;have hcx:=wR.cap;have adR:=wR.mx;by_cases hsk:x.length≤skip
   ·have hf:=jH.out;rw[Fv hsk] at hf;have hfs:=HDR.out;have IZ:=Lib.hid hf;have dsk:decide (x.length≤skip)=true:=decide_eq_true hsk;clear hf hfs wR;go_wp2
    go_roundw
    case rel=>
     refine ⟨k+1,skip-x.length,size,qs,e,sB,Ap,cp,by omega,by go_num,rfl,by go_num,HC.out,IZ.out,NC.out,fun hq=> ?_,by omega,hsz,adU⟩;rw[←HQ0.out hq,HDR.out];rw[aK,if_pos hsk]
    case measure=>simp[intOf];omega
   ·have dsk:decide (x.length≤skip)=false:=decide_eq_false hsk;have hf:=jH.out;rw[Fw hsk] at hf;have IZ:=Lib.hid hf;clear hf;go_upto_region 8 with (fail)
    obtain ⟨b1,hb1⟩:∃b1,b1=decide (qs.length=64∨(0<qs.length∧2047<qz qs)):=⟨_,rfl⟩
    have HB1:=Lib.hid hb1;clear hb1;go_cut [52] (fun s52 wx=>s52= .bool b1∧wx=wr)
    case first=>
     have hb:=HB1.out;by_cases h0:qs.length=0
     ·have e1:b1=false:=by rw[hb];exact decide_eq_false (by omega)
      subst e1;have d0:decide (0<qs.length)=false:=decide_eq_false (by omega);rw[h0] at z2;clear hb;go_wp2;go_meet;exact ⟨rfl,rfl⟩
     ·have d0:decide (0<qs.length)=true:=decide_eq_true (by omega);by_cases h64:qs.length=64
      ·have e1:b1=true:=by rw[hb];exact decide_eq_true (by omega)
       subst e1;have d64:((qs.length:Int)==64)=true:=by simp;omega
       have H64:=Lib.hid h64;clear hb h64;go_wp2;go_meet;exact ⟨rfl,rfl⟩
      ·have d64:((qs.length:Int)==64)=false:=by simp;omega
       obtain ⟨yK,hrow,hpe⟩:=HC.out.parts;obtain ⟨q,hq⟩:∃q,qs[qs.length-1]? =some q:=⟨_,List.getElem?_eq_getElem (by omega)⟩
       have hlast:=NB hq;obtain ⟨Aq,cq,hv,hrq⟩:=hpe _ q hq;have Tq:=dZ hrq;obtain ⟨adp,_,rfl,ajS,hg1,hg2⟩:=(dZ hrow).get (k:=qs.length-1) (by omega);rw[hv] at hg1;cases hg1;rw[hlast] at hb;have hcap1:=(dZ hrow).cap;have Yn:=(dZ hrow).mx;have ahr:=Tq.cap;have ajT:=Tq.mx;have hd2:decide (2047<q.length)=b1:=by rw[hb];exact decide_eq_decide.2 (by omega)
       have HD2:=Lib.hid hd2;clear hb hd2 hq hlast hv hrq Tq hrow hpe;cases b1 with
       |true=>
        have hd3:decide ((2047:Int)<q.length)=true:=by have:=HD2.out;simp at this ⊢;omega
        have hd4:decide (2047<q.length)=true:=HD2.out;go_wp2;go_meet;exact ⟨rfl,rfl⟩
       |false=>
        have hd3:decide ((2047:Int)<q.length)=false:=by have:=HD2.out;simp at this ⊢;omega
        have hd4:decide (2047<q.length)=false:=HD2.out;go_wp2;go_meet;exact ⟨rfl,rfl⟩
    case rest=>
    obtain ⟨rfl,rfl⟩:=hcut;by_cases hst:qs.length=64∨(0<qs.length∧2047<qz qs)
    ·have e1:b1=true:=by rw[HB1.out];exact decide_eq_true hst
     subst e1;have hR:FIN=(qs,e):=by rw[IZ.out,jD,if_pos hst];simp
     have HR:=Lib.hid hR;clear hR wR hst;go_wp2;obtain ⟨p0,p1,p2⟩:=HC.out.cells3;refine bodyPost_ret (v:= .agg #[.bool sB,.bool e,.slice Ap qs.length cp]) (by simp[results,Tryz.results104,go_sem,p0,p1,p2]) rfl ?_;exact DC HC.out HR.out NC.out
    have e1:b1=false:=by rw[HB1.out];exact decide_eq_false hst
    subst e1;rw[jD,if_neg hst] at IZ;obtain ⟨room,hroom⟩:∃room:Int,room=min (n-gW ((qs.length:Int)+1)) 32767-(size:Int):=⟨_,rfl⟩
    rw[←hroom] at IZ;have ajU:qs.length≤63:=by omega
    have hh:=xD ((qs.length:Int)+1);have hhd:=qy ((qs.length:Int)+1) false;rw[yL] at hhd;have Tt:=Lib.hid hhd;have HRM:=Lib.hid hroom;have HST:=Lib.hid hst;clear hhd hroom hst HB1;generalize gW ((qs.length:Int)+1)=hd at*;go_upto_region 9 with (fail)
    go_cut [10] (fun s10 wx=>s10= .int .i64 room∧wx=wc)
    case first=>
     clear wR;go_wp2_with fail;refine (Tt.out _ ⟨by omega,by omega⟩).mono ?_;rintro e1 w1 ⟨rfl,rfl⟩;go_wp2_with fail
     all_goals
      go_meet;exact ⟨by rw[HRM.out];congr 1;omega,rfl⟩
    case rest=>
    obtain ⟨rfl,rfl⟩:=hcut;have hrb:room≤32767-size∧ -1000000≤room:=by have:=HRM.out;omega
    by_cases hr1:room<1
    ·have hR:FIN=(qs,e):=by rw[IZ.out,if_pos hr1];simp
     have HR:=Lib.hid hR;clear hR wR;go_wp2;obtain ⟨p0,p1,p2⟩:=HC.out.cells3;refine bodyPost_ret (v:= .agg #[.bool sB,.bool e,.slice Ap qs.length cp]) (by simp[results,Tryz.results104,go_sem,p0,p1,p2]) rfl ?_;exact DC HC.out HR.out NC.out
    rw[if_neg hr1] at IZ;obtain ⟨m,hm⟩:∃m:Nat,room=m:=⟨room.toNat,by omega⟩
    subst hm;rw[Int.toNat_natCast] at IZ;have hm1:1≤m:=by omega
    have hm2:size+m≤32767:=by omega
    clear hrb hr1 HRM Tt hh;go_upto_if 64 with (fail)
    obtain ⟨ST,hST⟩:∃ST,ST=decide ((aK Q taken).2=0):=⟨_,rfl⟩
    have hss:qs= []→decide (skip=0)=ST:=fun hq=>by
     have:=HQ0.out hq;rw[HDR.out,aK,if_neg hsk] at this;rw[hST,←this]
    rw[←hST] at NC;have PX:=Lib.hid hss;have YH:=Lib.hid hST;clear hss hST;go_cut [] (fun wx=>mg w ST e Ap cp qs wx)
    case first=>
     by_cases hq:qs= []
     ·have hs0:=PX.out hq;have d0:((qs.length:Int)==0)=true:=by rw[hq];rfl
      have d1:((skip:Int)==0)=ST:=by rw[←hs0];exact decide_eq_decide.2 (by omega)
      have HQ:=Lib.hid hq;clear hq hs0 wR;go_wp2;go_meet;exact HC.out.set0 ST
     ·have hsb:=NC.out hq;subst hsb;have d0:((qs.length:Int)==0)=false:=by
       have:0<qs.length:=List.length_pos_iff.2 hq;simp;omega
      clear wR;go_wp2;go_meet;exact HC.out
    case rest=>
    have hC2:=hcut;clear hcut wR adV z0 z1 z2 r0 r1 r2 HC;generalize wc=w2 at*;have HC:=Lib.hid hC2;have hsx:=(adW.out.below hC2.below).more hC2.below.size;have DD:=hC2.below;have h0x:0<x.length:=by omega
    obtain ⟨ai,rfl,adQ,_⟩:=hsx.at_ h0x;clear hC2;have YI:¬ci=skip:=by omega
    have hle2:(x.length:Int)≤ci:=by omega
    go_upto_region 15 with (fail)
    obtain ⟨L,hL⟩:∃L,L=min m (x.length-skip):=⟨_,rfl⟩
    have eL:(if x.length-skip<m then ((x.length-skip:Nat):Int) else (m:Int))=(L:Int):=by rw[hL];split<;>omega
    have hmid:=hsx.mid (a:=skip) (m:=L) (by omega);rw[if_neg YI] at hmid;have e1:((cu x).drop skip).take L=cu ((x.drop skip).take L):=by simp[cu]
    rw[e1] at hmid;have KX:((x.drop skip).take L).length=L:=by rw[List.length_take,List.length_drop];omega
    have hL1:1≤L:=by omega
    have hLm:L≤m:=by omega
    have hLK:L≤x.length-skip:=by omega
    have Ke:x.length-skip≤9000:=by omega
    rw[eL];simp only[Int.toNat_natCast];obtain ⟨pp,hpp⟩:∃pp,pp=(x.drop skip).take L:=⟨_,rfl⟩
    rw[←hpp] at hmid KX;obtain ⟨K,hK⟩:∃K,K=x.length-skip:=⟨_,rfl⟩
    rw[←hK] at hLK Ke ⊢;have HPP:=Lib.hid hpp;have HK:=Lib.hid hK;have HL:=Lib.hid hL;have KY:=Lib.hid KX;have Tv:Sl w2 w2.heap.size (some (ai.add skip)) L K (cu pp):=by
     obtain ⟨q1,q2,q3,q4⟩:=hmid;exact ⟨q1,by omega,by omega,q4⟩
    have hcl:=jU (some (ai.add skip)) L K pp w2.drew Tv.drew (by omega);have pJ:=Lib.hid hcl;obtain ⟨yK,jM,hpx⟩:=HC.out.parts;have z0:=HC.out.blk.cell 0;have z1:=HC.out.blk.cell 1;have z2:=HC.out.blk.cell 2;have r0:=HC.out.blk.frozen 0;have r1:=HC.out.blk.frozen 1;have r2:=HC.out.blk.frozen 2;simp at z0 z1 z2;have hl2:=HC.out.blk.lt;have hvl:yK.length=qs.length:=(dZ jM).len;have YJ:=Lib.hid jM;have HPX:=Lib.hid hpx;clear eL hmid e1 hpp hK hL KX Tv hcl hsx YI hle2 jM hpx DD hvl
    go_region_law (first
     |((refine dS _ (by rfl) _ _ 34 (by rfl) w.heap.size 22 j0 (.slice none 0 0) 24 und22 hj0 hm0 YF adT rfl (.slice Ap qs.length cp) qs.length yK (by rfl) ((own_below (World.ownsRow.drew' YJ.out) hb1 (Nat.le_refl _)).alloc (.cells #[.slice A1 L c1] 22)) (w1.alloc (.cells #[.slice A1 L c1] 22)).heap.size (some ⟨w1.heap.size,0,none⟩) 1 1 [.slice A1 L c1] (by rfl) (QM w1 (.slice A1 L c1) 22) (by simp[Value.oneCell']) (by unfold maxLen;omega) (by omega) (by have:=hb1.size;simp at this ⊢;omega) ?_;intro v5 w5 hown5 bF _;obtain ⟨A5,c5,rfl,hs5,_⟩:=aP hown5;have uO:=((HC.out.blk.drew.below hb1 hl2).alloc (.cells #[.slice A1 L c1] 22)).grown bF (fun e=>aF YJ.out HC.out.blk (by decide) e.symm);have q2:=uO.cell 2;have q3:=uO.frozen 2;simp at q2))
     |((go_simp;(with_reducible refine pJ.out.mono ?_);rintro e1 w1 ⟨v1,rfl,hv1,hb1⟩;obtain ⟨A1,c1,rfl,hs1,_⟩:=aP hv1;have z2':=(hb1.cell (p:=⟨w.heap.size,2,none⟩) hl2).trans z2;have U9:w.heap.size<w1.heap.size:=Nat.lt_of_lt_of_le hl2 hb1.size;have adY:=(World.cell?_alloc_lt w1 (.cells #[.slice A1 L c1] 22) ⟨w.heap.size,2,none⟩ U9).trans z2';have f0':=(hb1.frozen (p:=⟨w.heap.size,2,none⟩) hl2).trans r2)))
    all_goals
     have Tw:=(HC.out.drewN 1).push KY.out (World.ownsRow.drew' YJ.out) (fun i p hi=>let ⟨A,c,e1,h1⟩:=HPX.out i p hi;⟨A,c,e1,World.ownsRow.drew' h1⟩) hb1 hv1 hown5 bF;have c0:=Tw.blk.cell 0;have c1':=Tw.blk.cell 1;have c2:=Tw.blk.cell 2;have g0:=Tw.blk.frozen 0;have g1:=Tw.blk.frozen 1;have g2:=Tw.blk.frozen 2;simp at c0 c1' c2;have HC3:=Lib.hid Tw;clear Tw hown5 bF hv1 hs1 hs5 q2 q3 uO z0 z1 z2 r0 r1 r2 f0' z2' adY;generalize w5.setCell ⟨w.heap.size,2,none⟩ (.slice A5 (qs.length+1) c5)=w6 at*;by_cases Va:L=K
     ·have dLK:((L:Int)==(K:Int))=true:=by simp;omega
      have hend:¬skip+m<x.length:=by have:=HK.out;have:=HL.out;omega
      have hf:=IZ.out;rw[if_neg hend] at hf;have hpe:pp=x.drop skip:=by rw[HPP.out,List.take_of_length_le (by rw[List.length_drop];have:=HK.out;omega)]
      have hFN:FIN=mh n (Q.drop (k+1)) 0 (qs++ [pp]) (size+L) true:=by
       rw[Fx (fun s hs=>(Tn.out s (List.mem_of_mem_drop hs)).1),IY,KY.out,hf,hpe];have e1:x.length-skip=L:=by rw[Va,HK.out]
       simp only[e1,List.length_append,List.length_singleton,List.append_assoc,List.singleton_append]
      have NF:=Lib.hid hFN;have ajZ:=Lib.hid Va;have PZ:=HC3.out.set1 true;have HC4:=Lib.hid PZ;clear hf hpe hFN Va PZ;go_wp2
      go_roundw
      case rel=>
       exact ⟨k+1,0,size+L,qs++ [pp],true,ST,A5,c5,by omega,by go_num,by go_num,by go_num,HC4.out,NF.out,fun _=>YH.out,fun h=>by simp at h,by omega,by omega,by simp;omega⟩
      case measure=>simp[intOf];omega
     ·have dLK:((L:Int)==(K:Int))=false:=by simp;omega
      have hend:skip+m<x.length:=by have:=HK.out;have:=HL.out;omega
      have Vb:L=m:=by have:=HK.out;have:=HL.out;omega
      have hf:=IZ.out;rw[if_pos hend,←Vb,←HPP.out] at hf;have HR:=Lib.hid hf;have PZ:=HC3.out.set1 false;have d0:=PZ.blk.cell 0;have d1:=PZ.blk.cell 1;have d2:=PZ.blk.cell 2;simp at d0 d1 d2;have HC4:=Lib.hid PZ;have HLM:=Lib.hid Vb;clear hf PZ Vb;go_wp2;obtain ⟨p0,p1,p2⟩:=HC4.out.cells3;simp only[List.length_append,List.length_singleton] at p2;refine bodyPost_ret (v:= .agg #[.bool ST,.bool false,.slice A5 (qs.length+1) c5]) (by simp[results,Tryz.results104,go_sem,p0,p1,p2]) rfl ?_;have hO:=DC HC4.out HR.out (fun _=>YH.out);simp only[List.length_append,List.length_singleton] at hO;exact hO
  ·have hR:FIN=(qs,e):=by
    rw[jH.out,List.drop_of_length_le (by omega)];simp[mh,aK,jD]
   have HR:=Lib.hid hR;clear hR hsW hbl;go_wp2;obtain ⟨p0,p1,p2⟩:=HC.out.cells3;refine bodyPost_ret (v:= .agg #[.bool sB,.bool e,.slice Ap qs.length cp]) (by simp[results,Tryz.results104,go_sem,p0,p1,p2]) rfl ?_;exact DC HC.out HR.out NC.out
end
end
section
open Go.RowKit Go.Shelf
attribute [local go_sem] Oper.semAt_some
section
variable {D F:Nat→Prop} {g:Nat} {c:Cf} {st:Sd} {vq vo:Value} {vs os:List Value} {w:World}
theorem cZ.far {A:Option Addr} {n cc b:Nat} {l:List (Nat × Nat)} (h:cZ w A n cc l) (hf:Aa F D A) (hD:D b) (j:Nat) (u:Value):cZ (w.setCell ⟨b,j,none⟩ u) A n cc l:=
 h.stay fun ad e=>fB (fun e2=>(hf ad e).2 (by
  have e3:ad.block=b:=e2;rw[e3];exact hD))
theorem cZ.drewN {A:Option Addr} {n cc:Nat} {l:List (Nat × Nat)} (h:cZ w A n cc l) (k:Nat):cZ (w.drewN k) A n cc l:=h.stay fun _ _=>rfl
theorem gK.drewN {p:Nat} {x:Ou} {Ap Ar:Option Addr} {cp cr:Nat} {vp:List Value} (h:gK w D F p x Ap cp vp Ar cr) (k:Nat):gK (w.drewN k) D F p x Ap cp vp Ar cr:=h.stay fun _ _=>rfl
set_option maxRecDepth 100000 in
set_option maxHeartbeats 1000000 in
theorem yM (h:dY w D F g c st vq vs vo os) {i p:Nat} {x:Ou} {Ap Ar:Option Addr} {cp cr:Nat} {vp:List Value} (hx:st.out[i]? =some x) (hp:os[i]? =some (.pointer (some ⟨p,0,none⟩))) (hO:gK w D F p x Ap cp vp Ar cr)
 {Al:Option Addr} {cl:Nat} {l:List (Nat × Nat)} (hl:cZ w Al l.length cl l) (hf:Aa F D Al) (hr:x.dF≤1000000):
 Calls Tryz.prog 59 #[.pointer (some ⟨g,0,none⟩),.pointer (some ⟨p,0,none⟩),.slice Al l.length cl] w fun e w'=>e= .returned (.tuple #[])∧dY w' D F g c (lV st i (gY c x l)) vq vs vo os∧Kept (fun k _=>D k) w w':=by
 obtain ⟨x0,x7,x8,x9,x10,uZ⟩:=hO.cells;have f10:=hO.blk.frozen 10;have f11:=hO.blk.frozen 11;have y5:=h.blk.cell 5;have Xo:=h.blk.cell 19;have f19:=h.blk.frozen 19;simp[dh] at y5 Xo;have hcap:=hO.rs.cap;have hmx:=hO.rs.mx;have hgp:g≠p:=fun e2=>by
  subst e2;have h1:=h.blk;have h2:=hO.blk;unfold aA at h1 h2;rw[h1] at h2;injection h2 with h3
  injection h3 with _ h4
  exact absurd h4 (by decide)
 by_cases hpe:x.pend= []
 ·rw[hpe] at x10;obtain ⟨hs1,ho1⟩:=h.IA hx hp hO 11 (.int .i64 ((x.dF:Int)+1)) (z:= {x with dF:=x.dF+1}) (J8:=Ar) (KU:=cr) (by simp[uN,ay]) rfl hO.rs hO.rf;have hl1:=hl.far hf hO.d 11 (.int .i64 ((x.dF:Int)+1));have hk1:Kept (fun k _=>D k) w (w.setCell ⟨p,11,none⟩ (.int .i64 ((x.dF:Int)+1))):=(Kept.refl _ w).setCell (p:=⟨p,11,none⟩) (fun _ _=>hO.d) _;have hx1:(st.out.set i {x with dF:=x.dF+1})[i]? =some {x with dF:=x.dF+1}:=List.getElem?_set_self (List.getElem?_eq_some_iff.1 hx).1;obtain ⟨z0,z7,z8,z9,Kg,QN⟩:=ho1.cells;have e10:=ho1.blk.frozen 10;have v5:=hs1.blk.cell 5;have v19:=hs1.blk.cell 19;have e19:=hs1.blk.frozen 19;simp[dh] at v5 v19;have hpp:gY c x l=({x with pend:=l,dF:=x.dF+1},decide (c.dF<((x.dF+1:Nat):Int))):=by unfold gY;rw[if_pos hpe]
  rw[hpp];have hdp:=hO.d;have hdg:=h.gd;have NF:∀(b:Bool) (w2:World),dY w2 D F g c {st with out:=st.out.set i {x with dF:=x.dF+1},failed:=b} vq vs vo os→gK w2 D F p {x with dF:=x.dF+1} Ap cp vp Ar cr→cZ w2 Al l.length cl l→
   dY (w2.setCell ⟨p,10,none⟩ (.slice Al l.length cl)) D F g c {st with out:=st.out.set i {x with pend:=l,dF:=x.dF+1},failed:=b} vq vs vo os:=fun b w2 k1 k2 k3=>by
   have:=(k1.IA hx1 hp k2 10 (.slice Al l.length cl) (z:= {x with pend:=l,dF:=x.dF+1}) (J8:=Al) (KU:=cl) rfl rfl k3 hf).1;simpa using this
  have HF:=Lib.hid NF;have HS:=Lib.hid hs1;have HO:=Lib.hid ho1;have HL:=Lib.hid hl1;have HK:=Lib.hid hk1;have HDP:=Lib.hid hdp;have HDG:=Lib.hid hdg;clear h hcap hmx hO hs1 ho1 hl1 hk1 hx1 hpp x0 x7 x8 x9 z0 z7 z8 z9 hdp hdg NF;have NG:∀(b:Bool) (q:Nat),b=(st.failed||decide (c.dF<((x.dF+1:Nat):Int)))→
   dY ((((w.setCell ⟨p,11,none⟩ (.int .i64 ((x.dF:Int)+1))).drewN q).setCell ⟨g,19,none⟩ (.bool b)).setCell ⟨p,10,none⟩ (.slice Al l.length cl)) D F g c (lV st i ({x with pend:=l,dF:=x.dF+1},decide (c.dF<((x.dF+1:Nat):Int)))) vq vs vo os∧
   Kept (fun k _=>D k) w ((((w.setCell ⟨p,11,none⟩ (.int .i64 ((x.dF:Int)+1))).drewN q).setCell ⟨g,19,none⟩ (.bool b)).setCell ⟨p,10,none⟩ (.slice Al l.length cl)):=fun b q hb=>by
   have k1:=(HS.out.drewN q).ny 19 (.bool b) (st':= {st with out:=st.out.set i {x with dF:=x.dF+1},failed:=b}) rfl rfl rfl;have k2:=(HO.out.drewN q).far (b:=g) HDG.out hgp 19 (.bool b);have k3:=(HL.out.drewN q).far hf HDG.out 19 (.bool b);have k4:=HF.out b _ k1 k2 k3;subst hb;exact ⟨k4,((HK.out.iA q).setCell (p:=⟨g,19,none⟩) (fun _ _=>HDG.out) _).setCell (p:=⟨p,10,none⟩) (fun _ _=>HDP.out) _⟩
  have HE:=Lib.hid NG;clear NG;cases hfl:st.failed with
  |true=>
   rw[hfl] at Xo v19 HE;have qU:=Lib.hid hfl;clear hfl;go_enter Tryz.func59,Tryz.ntmps59;go_wp2;generalize w.setCell ⟨p,11,none⟩ (.int .i64 ((x.dF:Int)+1))=w1 at*
   go_region
   go_wp2
   go_end0
   exact ⟨rfl,HE.out true 1 rfl⟩
  |false=>
   rw[hfl] at Xo v19 HE;have qU:=Lib.hid hfl;clear hfl;by_cases hov:c.dF<(x.dF:Int)+1
   ·have hd:decide (c.dF<(x.dF:Int)+1)=true:=decide_eq_true hov;have hb:true=(false||decide (c.dF<((x.dF+1:Nat):Int))):=by simp;omega
    have HB:=Lib.hid hb;clear hb;go_enter Tryz.func59,Tryz.ntmps59;go_wp2;generalize w.setCell ⟨p,11,none⟩ (.int .i64 ((x.dF:Int)+1))=w1 at*
    go_region
    go_wp2
    go_end0
    exact ⟨rfl,HE.out true 1 HB.out⟩
   ·have hd:decide (c.dF<(x.dF:Int)+1)=false:=decide_eq_false hov;have hb:false=(false||decide (c.dF<((x.dF+1:Nat):Int))):=by simp;omega
    have HB:=Lib.hid hb;clear hb;go_enter Tryz.func59,Tryz.ntmps59;go_wp2;generalize w.setCell ⟨p,11,none⟩ (.int .i64 ((x.dF:Int)+1))=w1 at*
    go_region
    go_wp2
    go_end0
    exact ⟨rfl,HE.out false 1 HB.out⟩
 ·have hpl:0<x.pend.length:=List.length_pos_iff.2 hpe;have d0:((x.pend.length:Int)==0)=false:=by simp;omega
  have hpp:gY c x l=({x with pend:=l},false):=by unfold gY;rw[if_neg hpe]
  rw[hpp];have hs:=h.IA hx hp hO 10 (.slice Al l.length cl) (z:= {x with pend:=l}) (J8:=Al) (KU:=cl) rfl rfl hl hf;have HS:=Lib.hid hs.1;have HD:=Lib.hid hO.d;clear h hO hs hpp;go_enter Tryz.func59,Tryz.ntmps59;go_wp2
  go_end0
  refine ⟨rfl,?_,(Kept.refl _ w).setCell (p:=⟨p,10,none⟩) (fun _ _=>HD.out) _⟩;have:=HS.out;simpa[lV] using this
end
end
section
theorem K6 {l:List (Nat × Nat)} {x:Nat × Nat} {s:Nat} (h:∀r∈l,r.1≤r.2∧r.2<s) (hx:x.1≤x.2∧x.2<s):(∀r∈fM l x,r.1≤r.2∧r.2<s)∧(fM l x).length≤l.length+1:=by
 unfold fM;cases hl:l.getLast? with
 |none=>exact ⟨by simpa using hx,by simp⟩
 |some y=>
  have hy:=h y (List.mem_of_getLast? hl);dsimp only;split
  ·rename_i e;refine ⟨fun r hr=> ?_,by simp⟩;rcases List.mem_append.1 hr with hr|hr
   ·exact h r (List.dropLast_subset l hr)
   ·simp at hr;rw[hr];dsimp only;omega
  ·refine ⟨fun r hr=> ?_,by simp⟩;rcases List.mem_append.1 hr with hr|hr
   ·exact h r hr
   ·simp at hr;rw[hr];exact hx
theorem Fy (dz:List Nk) {x:Ou} (hs:1≤ay x):(∀r∈bK dz x,r.1≤r.2∧r.2<ay x)∧(bK dz x).length≤dz.length:=by
 have hf:(dz.filter (fun n=>decide (n.sn=(x.sn:Int)))).length≤dz.length:=List.length_filter_le _ _;have key:∀(l:List Nk) (a:List (Nat × Nat)),(∀r∈a,r.1≤r.2∧r.2<ay x)→(∀r∈l.foldl (eX (ay x)) a,r.1≤r.2∧r.2<ay x)∧(l.foldl (eX (ay x)) a).length≤a.length+l.length:=by
  intro l
  induction l with
  |nil=>intro a ha;exact ⟨by simpa using ha,by simp⟩
  |cons n r ih=>
   intro a ha;have h1:(∀q∈eX (ay x) a n,q.1≤q.2∧q.2<ay x)∧(eX (ay x) a n).length≤a.length+1:=by
    unfold eX;split
    ·exact ⟨ha,by omega⟩
    ·exact K6 ha (by dsimp only;omega)
   obtain ⟨i1,i2⟩:=ih _ h1.1;rw[List.foldl_cons];refine ⟨i1,?_⟩;simp only[List.length_cons];omega
 obtain ⟨k1,k2⟩:=key (dz.filter (fun n=>decide (n.sn=(x.sn:Int)))) [] (by simp);refine ⟨k1,?_⟩;unfold bK;simp only[List.length_nil] at k2;omega
theorem jL.adv {st:Sd} {K:Nat} (h:jL st K):jL (fA st) (K+1):=by
 obtain ⟨⟨d,h1,h2,h3,h4⟩,h5⟩:=mP st.out;obtain ⟨⟨q,g1,g2,g3,g4⟩,g5⟩:=uV st.queue (st.front+(aS st.out).2.1);have NH:=nS (fun s hs=>(h.Ho s hs).1);have E7:=h.held;unfold aZ at E7;have hsum:au st.queue=au q+au (gQ st.queue (st.front+(aS st.out).2.1)).2.2.2:=by
  conv=>lhs;rw[g1]
  rw[nP]
 have hlen:q.length≤st.queue.length:=by
  conv=>rhs;rw[g1]
  simp
 have hmem:∀x,x∈(fA st).out→x∈st.out:=fun x hx=>by
  have e:(fA st).out=(aS st.out).2.2:=rfl;rw[h1,←e];simp[hx]
 refine ⟨?_,?_,?_,?_,fun s hs=> ?_,h.pol,fun x hx=>h.ou x (hmem x hx),fun x hx=> ?_,h.AQ,h.AR⟩
 ·have:=h.done;show st.done+(gQ st.queue (st.front+(aS st.out).2.1)).1≤_
  omega
 ·have:=h.dV;show st.dV≤_
  omega
 ·have:=h.bytes;show st.bytes≤_
  omega
 ·show au (gQ st.queue (st.front+(aS st.out).2.1)).2.2.2≤_
  omega
 ·refine h.Ho s ?_;rw[g1];exact List.mem_append_right _ hs
 ·have:=h.rx x (hmem x hx);omega
theorem jL.aX {st:Sd} {K:Nat} (h:jL st K) (c:Cf) (m:Ou→List (Nat × Nat)) (n:Nat) (hm:∀x∈st.out,(∀r∈m x,r.1≤r.2∧r.2<ay x)∧(m x).length≤1000) (b w:Bool):
 jL {st with out:=(aX c m n st.out).1,failed:=b,wait:=w} (K+1):=by
 have hone:∀x∈st.out,AP (bQ c m x).1∧(bQ c m x).1.dF≤K+1:=fun x hx=>by
  have ho:=h.ou x hx;have hr:=h.rx x hx;unfold bQ;split
  ·exact ⟨ho,by dsimp only;omega⟩
  ·split
   ·exact ⟨⟨ho.sn,ho.ps,by simp,by simp⟩,by dsimp only;omega⟩
   ·exact J5 c ho hr (hm x hx).1 (hm x hx).2
 refine ⟨?_,?_,?_,h.held,h.Ho,h.pol,fun y hy=> ?_,fun y hy=> ?_,h.AQ,h.AR⟩
 ·have:=h.done;show st.done≤_
  omega
 ·have:=h.dV;show st.dV≤_
  omega
 ·have:=h.bytes;show st.bytes≤_
  omega
 ·obtain ⟨x,hx,rfl|rfl⟩:=kG c m n _ y hy
  ·exact h.ou _ hx
  ·exact (hone x hx).1
 ·obtain ⟨x,hx,rfl|rfl⟩:=kG c m n _ y hy
  ·have:=h.rx _ hx;omega
  ·exact (hone x hx).2
theorem jL.stat {st:Sd} {K:Nat} (h:jL st K) (c:Cf) (m:Ou→List (Nat × Nat)) (n:Nat) (hm:∀x∈st.out,(∀r∈m x,r.1≤r.2∧r.2<ay x)∧(m x).length≤1000):jL (qm c m n st) (K+3):=by
 have h2:=(h.aX c m n hm (st.failed||(Go.Proofs.YtiecgfahidpldaaGreat.aX c m n st.out).2) (st.wait&&decide (n≤lW st st.polled))).adv;unfold qm;dsimp only;split
 ·exact h2.sS c
 ·exact h2.mono (by omega)
theorem vY {aI:Int} {l:List Nk} (h:bU aI l=true):l.length≤512∧0≤aI∧aI≤1023:=by
 simp only[bU,Bool.and_eq_true,decide_eq_true_eq] at h;omega
theorem jL.status {st:Sd} {K:Nat} (h:jL st K) (c:Cf) {now:Int} (hn:now≤9223372036854775807) (aI:Int) (dz:List Nk):jL (oO c st now aI dz).1 (K+3):=by
 have h1:=h.clock hn;unfold oO;split
 ·exact h.mono (by omega)
 ·rename_i hv;split
  ·exact h1.mono (by omega)
  ·refine h1.stat c (bK dz) _ fun x hx=> ?_
   have ho:=gV (h1.ou x hx);have hl:=vY (by simpa using hv);obtain ⟨m1,m2⟩:=Fy dz ho.1;exact ⟨m1,by omega⟩
theorem jL.pM {st:Sd} {K:Nat} (h:jL st K) (hi:dm st) (c:Cf) {now:Int} (hn:now≤9223372036854775807) (n:Int):jL (kU c st now n).1 (K+2):=by
 have h1:=h.tick c hn;have hi1:=hi.tick c now;unfold kU;split
 ·exact h1.mono (by omega)
 ·cases hp:fV (gG c st now).out with
  |some i=>
   obtain ⟨x,hx,_⟩:=iC hp;simp only[hx];exact (h1.again c n i hx).mono (by omega)
  |none=>
   have h2:=h1.fresh hi1.toInvV c n;dsimp only;generalize iQ c n (gG c st now)=R at*;obtain ⟨s2,_|⟨x,b⟩⟩:=R
   ·exact h2
   ·exact h2
end
section
open Go.RowKit Go.Shelf
attribute [local go_sem] Oper.semAt_some
section
variable {D F:Nat→Prop} {g:Nat} {c:Cf} {st:Sd} {vq vo:Value} {vs os:List Value} {w:World}
theorem cZ.new (w:World) (t:TypeId) (a b:Nat):cZ (w.alloc (.cells #[.int .i64 (a:Nat),.int .i64 (b:Nat)] t)) (some ⟨w.heap.size,0,none⟩) 1 1 [(a,b)]:=
 ⟨rfl,Nat.le_refl _,by omega,fun _=>⟨_,rfl,by simp,fun j r hj=>by
  have hb:=aA.new w t #[.int .i64 (a:Nat),.int .i64 (b:Nat)];cases j with
  |zero=>
   simp at hj;subst hj;exact ⟨hb.cell 0,hb.cell 1⟩
  |succ j=>simp at hj⟩⟩
set_option maxRecDepth 10000 in
set_option maxHeartbeats 1000000 in
theorem tO (h:dY w D F g c st vq vs vo os) {K:Nat} (hB:jL st K) (hK:K≤100000) (hw:st.out.length≤512):
 Calls Tryz.prog 61 #[.pointer (some ⟨g,0,none⟩)] w fun e w'=>e= .returned (.tuple #[])∧lZ w D F g c (d9 c st) w':=by
 have hid:=Cb h hB.held (by omega);have P4:=Lib.hid hid;clear hid;cases hi:jP st with
 |false=>
  have hfin:d9 c st=st:=by unfold d9;rw[if_pos hi]
  rw[hfin];rw[hi] at P4;have HH:=Lib.hid h;clear h hi hfin;go_enter Tryz.func61,Tryz.ntmps61;go_wp2_with fail;refine P4.out.mono ?_;rintro e1 w1 ⟨rfl,q,rfl⟩;go_wp2;refine bodyPost_ret (results_none rfl _ _ _) rfl ?_;exact ⟨rfl,(HH.out.o (Kept.refl _ w)).drewN q⟩
 |true=>
  rw[hi] at P4;have hix:=fun q=>yB 113 (.inr rfl) (fun x=> !x.bS) (h.drewN q) (by omega) fun p x Ap cp vp Ar cr ho=>KV ho
  have MF:=Lib.hid hix;have rP:=h.blk.cell 12;simp[dh] at rP;obtain ⟨A,cc,rfl,hs⟩:=h.Ni;have hcap:=hs.cap;have hmx:=hs.mx;have HH:=Lib.hid h;clear hix;cases hf:st.out.findIdx? (fun x=> !x.bS) with
  |none=>
   have hfin:d9 c st=st:=by unfold d9;rw[if_neg (by simp[hi]),hf]
   rw[hfin];rw[hf] at MF;clear h hi hfin hs hf;go_enter Tryz.func61,Tryz.ntmps61;go_wp2_with fail;refine P4.out.mono ?_;rintro e1 w1 ⟨rfl,q,rfl⟩;go_wp2_with fail;refine (MF.out q).mono ?_;rintro e1 w1 ⟨rfl,rfl⟩;simp only[Yo];go_wp2
   go_end0
   exact ⟨rfl,(HH.out.o (Kept.refl _ w)).drewN q⟩
  |some i=>
   rw[hf] at MF;have hil:i<st.out.length:=(List.findIdx?_eq_some_iff_getElem.1 hf).1;obtain ⟨x,hx⟩:∃x,st.out[i]? =some x:=⟨_,List.getElem?_eq_getElem hil⟩
   have hfin:d9 c st=lV st i (gY c x [(0,ay x-1)]):=by unfold d9;rw[if_neg (by simp[hi]),hf];simp only[hx]
   rw[hfin];obtain ⟨p,Ap,cp,vp,Ar,cr,he,ho⟩:=h.oe i x hx;obtain ⟨ad,u,rfl,hb,hu,hc⟩:=hs.get hil;rw[he] at hu;cases hu;obtain ⟨z0,z7,z8,z9,Kg,QN⟩:=ho.cells;have hsz:=gV (hB.ou x (List.mem_of_getElem? hx));have hrx:=hB.rx x (List.mem_of_getElem? hx);have hsub:((ay x:Nat):Int)-1=((ay x-1:Nat):Int):=by omega
   have HX:=Lib.hid hx;have HE:=Lib.hid he;have HO:=Lib.hid ho;have ad1:=Lib.hid hsub;clear h hi hfin hs hf hx he ho z0 z7 z9 Kg QN hsub;go_enter Tryz.func61,Tryz.ntmps61;go_wp2_with fail;refine P4.out.mono ?_;rintro e1 w1 ⟨rfl,q,rfl⟩;go_wp2_with fail;refine (MF.out q).mono ?_;rintro e1 w1 ⟨rfl,rfl⟩;simp only[Yo];go_wp2_with fail;rw[ad1.out];have hW:=((HH.out.drewN q).alloc (.cells #[.int .i64 0,.int .i64 ((ay x-1:Nat):Int)] 99)).Ti (b:=w.heap.size) (by simp);have hsp:cZ ((w.drewN q).alloc (.cells #[.int .i64 0,.int .i64 ((ay x-1:Nat):Int)] 99)) (some ⟨w.heap.size,0,none⟩) [(0,ay x-1)].length 1 [(0,ay x-1)]:=cZ.new (w.drewN q) 99 0 (ay x-1);obtain ⟨p2,Ap2,cp2,vp2,QO,Vd,he2,ho2⟩:=hW.oe i x HX.out;rw[HE.out] at he2;cases he2;have Tx:=yM hW HX.out HE.out ho2 hsp (fun ad e=>by cases e;exact ⟨.inr rfl,HH.out.fresh (Nat.le_refl _)⟩) (by omega);clear hsp ho2 hW;refine Tx.mono ?_;rintro e2 w2 ⟨rfl,hA2,hk2⟩;go_wp2
   go_end0
   exact ⟨rfl,lZ.step (((Kept.refl _ w).iA q).alloc _) (dX.refl _ _) (dX.one (Nat.le_refl _)) (hA2.o hk2)⟩
def YK (w:World) (D F:Nat→Prop) (g:Nat) (c:Cf) (st:Sd) (e:Ending) (w':World):Prop:=
 ((st.failed=false∧e= .returned (.tuple #[]))∨(st.failed=true∧e=IB))∧lZ w D F g c st w'
set_option maxRecDepth 10000 in
set_option maxHeartbeats 1000000 in
theorem DF (h:dY w D F g c st vq vs vo os) {K:Nat} (hB:jL st K) (hK:K≤100000) (hw:st.out.length≤512) (hfl:st.failed=false):
 Calls Tryz.prog 101 #[.pointer (some ⟨g,0,none⟩)] w (YK w D F g c (fZ c st)):=by
 have vZ:=h.blk.cell 16;have NI:=h.blk.cell 17;have DI:=h.blk.cell 18;have y20:=h.blk.cell 20;have f16:=h.blk.frozen 16;have f18:=h.blk.frozen 18;simp[dh] at vZ NI DI y20;have HH:=Lib.hid h;cases hwt:st.wait with
 |false=>
  have hfin:fZ c st=st:=by unfold fZ;rw[if_pos (.inl hwt)]
  rw[hfin];rw[hwt] at vZ;have qU:=Lib.hid hfl;clear h hfin hwt hfl;go_enter Tryz.func101,Tryz.ntmps101;go_wp2
  go_quiet (fail)
  go_wp2;refine bodyPost_ret (results_none rfl _ _ _) rfl ?_;exact ⟨.inl ⟨qU.out,rfl⟩,(HH.out.o (Kept.refl _ w)).drewN _⟩
 |true=>
  rw[hwt] at vZ;by_cases hlt:st.now<st.iB
  ·have hfin:fZ c st=st:=by unfold fZ;rw[if_pos (.inr hlt)]
   rw[hfin];have hd:decide (st.now<st.iB)=true:=decide_eq_true hlt;have qU:=Lib.hid hfl;clear h hfin hwt hfl;go_enter Tryz.func101,Tryz.ntmps101;go_wp2
   go_quiet (fail)
   go_wp2;refine bodyPost_ret (results_none rfl _ _ _) rfl ?_;exact ⟨.inl ⟨qU.out,rfl⟩,(HH.out.o (Kept.refl _ w)).drewN _⟩
  ·have hfin:fZ c st=d9 c {st with wait:=false,fD:=true}:=by unfold fZ;rw[if_neg (by rw[hwt];simp;omega)]
   rw[hfin];have hd:decide (st.now<st.iB)=false:=decide_eq_false hlt;have h2:=fun q=>((h.drewN q).ny 16 (.bool false) (st':= {st with wait:=false}) rfl rfl rfl).ny 18 (.bool true) (st':= {st with wait:=false,fD:=true}) rfl rfl rfl
   have hk2:=fun q=>(((Kept.refl (fun k _=>D k) w).iA q).setCell (p:=⟨g,16,none⟩) (fun _ _=>h.gd) (.bool false)).setCell (p:=⟨g,18,none⟩) (fun _ _=>h.gd) (.bool true)
   have hB2:jL {st with wait:=false,fD:=true} K:=⟨hB.done,hB.dV,hB.bytes,hB.held,hB.Ho,hB.pol,hB.ou,hB.rx,hB.AQ,hB.AR⟩;have YL:=fun q=>tO (h2 q) hB2 hK hw
   have Hu:=Lib.hid YL;have uW:=Lib.hid hk2;have qU:=Lib.hid hfl;clear h hfin hwt hfl h2 hk2 YL;go_enter Tryz.func101,Tryz.ntmps101;go_wp2
   go_quiet (fail)
   go_wp2_with fail;refine (Hu.out _).mono ?_;rintro e1 w1 ⟨rfl,D1,F1,vq1,vs1,Ve,os1,hA1,hD1,hF1,hk1⟩;have HA1:=Lib.hid hA1;have hend:lZ w D F g c (d9 c {st with wait:=false,fD:=true}) w1:=lZ.step (uW.out _) (dX.refl _ _) (dX.refl _ _) ⟨D1,F1,vq1,vs1,Ve,os1,hA1,hD1,hF1,hk1⟩;have NG:=Lib.hid hend;clear hA1 hD1 hF1 hk1 hend;cases hf1:(d9 c {st with wait:=false,fD:=true}).failed with
   |false=>
    have hm:=yC HA1.out hf1;have HM:=Lib.hid hm;have Qq:=Lib.hid hf1;clear hm hf1;go_wp2_with fail;refine HM.out.mono ?_;rintro e2 w2 ⟨rfl,rfl⟩;go_wp2
    go_end0
    exact ⟨.inl ⟨Qq.out,rfl⟩,NG.out⟩
   |true=>
    have hm:=ve HA1.out hf1;have HM:=Lib.hid hm;have Qq:=Lib.hid hf1;clear hm hf1;go_wp2_with fail;refine HM.out.mono ?_;rintro e2 w2 ⟨rfl,rfl⟩;exact ⟨rfl,.inr ⟨Qq.out,rfl⟩,NG.out⟩
end
end
section
open Go.RowKit Go.Shelf
attribute [local go_sem] Oper.semAt_some
section
variable {D F:Nat→Prop} {g:Nat} {c:Cf} {st:Sd} {vq vo:Value} {vs os:List Value} {w:World}
theorem I1 {i j:Nat} {x:Value} (h:w.cell? ⟨g,i,none⟩=some x) (hne:j≠i) (u:Value):(w.setCell ⟨g,j,none⟩ u).cell? ⟨g,i,none⟩=some x:=by
 rw[←h];simp[World.cell?,World.setCell,Array.getElem?_modify];cases w.heap[g]? with
 |none=>rfl
 |some o=>cases o<;>simp[hne]
def DJ (w:World) (D F:Nat→Prop) (g:Nat) (c:Cf) (st:Sd) (bs:List UInt8) (e:Ending) (w':World):Prop:=
 ∃v,e= .returned v∧w'.ownsRow w.heap.size 5 1 v bs.length (cu bs)∧lZ w D F g c st w'
set_option maxRecDepth 100000 in
set_option maxHeartbeats 2000000 in
theorem jm (h:dY w D F g c st vq vs vo os) (hsum:aZ st≤1048576) (hw:st.out.length≤512) (hf:st.first<1024)
 (sn:Nat) (po sg la:Bool) (off:Nat) (s e:Bool) (A:Option Addr) (n cc:Nat) (vl:List Value) (ps:List (List UInt8)) (hps:∀w',Kept (fun k _=>D k) w w'→gD w' w'.heap.size A n cc vl ps)
 (hv:eP sn sg la off ps=true) (hoff:off≤32767) (polls:Bool):
 Calls Tryz.prog 105 #[.pointer (some ⟨g,0,none⟩),.agg (aY sn po sg la off s e A n cc),.bool polls] w (DJ w D F g c (aR c st polls).1 (nC sn (aR c st polls).2 sg la off s e ps)):=by
 obtain ⟨PO,hP⟩:∃PO,PO=(polls||st.fD||jP st):=⟨_,rfl⟩
 have hfin:aR c st polls=if PO=true then (sP st c,true) else (st,false):=by unfold aR;rw[hP]
 rw[hfin];have hid:=fun (o:Obj)=>Cb (h.alloc o) hsum (by omega)
 have P4:=Lib.hid hid;have DI:=h.blk.cell 18;simp[dh] at DI;have HH:=Lib.hid h;have HP:=Lib.hid hP;have Ql:=Lib.hid hps;have HV:=Lib.hid hv;have hgl:=h.blk.lt;clear h hid hP hfin hps hv;unfold aY;go_enter Tryz.func105,Tryz.ntmps105;go_upto_region 1 with (fail)
 go_cut [] (fun wx=>aA wx w.heap.size 72 (aY sn PO sg la off s e A n cc)∧dY wx D F g c st vq vs vo os∧Kept (fun k _=>D k) w wx)
 case first=>
  have hp:=HP.out;cases polls with
  |true=>
   have hp1:PO=true:=by rw[hp];rfl
   clear hp;subst hp1;go_wp2;go_meet;exact ⟨aA.new _ _ _,HH.out.alloc _,(Kept.refl _ w).alloc _⟩
  |false=>
   cases ho:st.fD with
   |true=>
    rw[ho] at DI hp;have hp1:PO=true:=by rw[hp];rfl
    clear hp ho;subst hp1;go_wp2;go_meet;exact ⟨aA.new _ _ _,HH.out.alloc _,(Kept.refl _ w).alloc _⟩
   |false=>
    rw[ho] at DI hp;have hp1:jP st=PO:=by rw[hp];rfl
    clear hp ho;rw[hp1] at P4;have HI:=Lib.hid (P4.out);have HP1:=Lib.hid hp1;clear hp1;go_wp2_with (go_at_call 111;refine (HI.out _).mono ?_;rintro e1 w1 ⟨rfl,q,rfl⟩);go_meet;have bb:=((aA.new w 72 (aY sn po sg la off s e A n cc)).drewN q).aC 1 (.bool PO);have hgs:=HH.out.lt;exact ⟨bb,((HH.out.alloc _).drewN q).stay fun k hk=>fB (fun e=>by
     have:=hgs k hk;have e2:k=w.heap.size:=e;omega),(((Kept.refl _ w).alloc _).iA q).setCell (fun o ho=>by
     have:=lt_of_heap ho;have e2:w.heap.size<w.heap.size:=this;omega) _⟩
 case rest=>
 obtain ⟨bb,hA1,hk1⟩:=hcut;generalize wc=w1 at*;have hbl:=bb.lt;have hbg:w.heap.size≠g:=by omega
 obtain ⟨b0,b1,b2,b3,b4,b5,b6,b7⟩:=bb.eight;cases PO with
 |false=>
  have hsl:=Ql.out _ hk1;have henc:=rO sn false sg la off s e A n cc vl ps w1 hsl HV.out hoff;unfold aY at henc;have HE:=Lib.hid henc;have HA1:=Lib.hid hA1;have sH:=Lib.hid hk1;clear hA1 hk1 hsl henc bb HP P4 Ql;go_wp2_with fail;refine HE.out.mono ?_;rintro e3 w3 ⟨vb,rfl,hvb,hb3⟩;go_wp2;go_ret;have hz:=sH.out.size;exact ⟨vb,rfl,aW hvb hz,lZ.step sH.out (dX.refl _ _) (dX.refl _ _) ((HA1.out.below hb3).o ((Kept.of_below hb3).gX fun k o ho hm=>by have:=lt_of_heap ho;omega))⟩
 |true=>
  have y13:=hA1.blk.cell 13;have Ci:=hA1.blk.cell 14;have YM:=hA1.blk.cell 18;have e13:=hA1.blk.frozen 13;have e14:=hA1.blk.frozen 14;have e18:=hA1.blk.frozen 18;simp[dh] at y13 Ci YM;have hA2:=((hA1.ny 13 (.int .i64 0) (st':= {st with dV:=0}) rfl rfl rfl).ny 14 (.int .i64 0) (st':= {st with dV:=0,bytes:=0}) rfl rfl rfl).ny 18 (.bool false) (st':= {st with dV:=0,bytes:=0,fD:=false}) rfl rfl rfl;have hk2:=((hk1.setCell (p:=⟨g,13,none⟩) (fun _ _=>HH.out.gd) (.int .i64 0)).setCell (p:=⟨g,14,none⟩) (fun _ _=>HH.out.gd) (.int .i64 0)).setCell (p:=⟨g,18,none⟩) (fun _ _=>HH.out.gd) (.bool false);have bb2:=((bb.far (p:=⟨g,13,none⟩) hbg (.int .i64 0)).far (p:=⟨g,14,none⟩) hbg (.int .i64 0)).far (p:=⟨g,18,none⟩) hbg (.bool false);have HA2:=Lib.hid hA2;have uW:=Lib.hid hk2;have HB2:=Lib.hid bb2;clear hA1 hk1 HP P4 hA2 hk2 bb2 bb DI;go_wp2_with fail;generalize (((w1.setCell ⟨g,13,none⟩ (.int .i64 0)).setCell ⟨g,14,none⟩ (.int .i64 0)).setCell ⟨g,18,none⟩ (.bool false))=w2 at*;have z2:=HA2.out.blk.cell 2;have z15:=HA2.out.blk.cell 15;have z16:=HA2.out.blk.cell 16;have z17:=HA2.out.blk.cell 17;have z20:=HA2.out.blk.cell 20;have g15:=HA2.out.blk.frozen 15;have g16:=HA2.out.blk.frozen 16;have g17:=HA2.out.blk.frozen 17;simp[dh] at z2 z15 z16 z17 z20;have hnx:=fun k=>qR (HA2.out.drewN k) hf (by show st.out.length≤_;omega)
  have hnn:cB {st with dV:=0,bytes:=0,fD:=false}=cB st:=rfl;rw[hnn] at hnx;have hnb:cB st≤1023:=by unfold cB;omega
  have Ak:=Lib.hid hnx;clear hnx hnn b0 b1 b2 b3 b4 b5 b6 b7 y13 Ci YM e13 e14 e18
  go_region_held3 (fun w'=>w'.cell? ⟨g,2,none⟩=some (.int .i64 c.timer)∧w'.cell? ⟨g,20,none⟩=some (.int .i64 st.now)) (first|go_keep|(constructor<;>(repeat (first|exact z2|exact z20|refine I1 ?_ (by decide) _))))
   ((go_at_call 64;refine (Ak.out _).mono ?_;rintro e1 w1 ⟨rfl,q,rfl⟩))
  have YN:bits BinOp.and IntKind.i64 (IntKind.i64.wrap ((cB st:Nat)+1023:Int)) 1023=(((cB st+1023)%1024:Nat):Int):=by
   rw[IntWalk.i64_in _ (by omega),tq];omega
  simp only[YN];generalize hpp:(cB st+1023)%1024=pp at*;have HPP:=Lib.hid hpp;generalize hxx:IntKind.i64.wrap (st.now+c.timer)=xx at*;have Tp:=Lib.hid hxx;have hA3:=(((HA2.out.drewN (1+q)).ny 15 (.int .i64 (pp:Nat)) (st':= {st with dV:=0,bytes:=0,fD:=false,polled:=pp}) rfl rfl rfl).ny 16 (.bool true) (st':= {st with dV:=0,bytes:=0,fD:=false,polled:=pp,wait:=true}) rfl rfl rfl).ny 17 (.int .i64 xx) (st':= {st with dV:=0,bytes:=0,fD:=false,polled:=pp,wait:=true,iB:=xx}) rfl rfl rfl;have hk3:=(((uW.out.iA (1+q)).setCell (p:=⟨g,15,none⟩) (fun _ _=>HH.out.gd) (.int .i64 (pp:Nat))).setCell (p:=⟨g,16,none⟩) (fun _ _=>HH.out.gd) (.bool true)).setCell (p:=⟨g,17,none⟩) (fun _ _=>HH.out.gd) (.int .i64 xx);have bb3:=(((HB2.out.drewN (1+q)).far (p:=⟨g,15,none⟩) hbg (.int .i64 (pp:Nat))).far (p:=⟨g,16,none⟩) hbg (.bool true)).far (p:=⟨g,17,none⟩) hbg (.int .i64 xx);clear YN hpp hxx z2 z15 z16 z17 z20 g15 g16 g17;generalize ((((w2.drewN (1+q)).setCell ⟨g,15,none⟩ (.int .i64 (pp:Nat))).setCell ⟨g,16,none⟩ (.bool true)).setCell ⟨g,17,none⟩ (.int .i64 xx))=w3 at*;obtain ⟨b0,b1,b2,b3,b4,b5,b6,b7⟩:=bb3.eight;have hsl:=Ql.out _ hk3;have henc:=rO sn true sg la off s e A n cc vl ps w3 hsl HV.out hoff;unfold aY at henc;have HE:=Lib.hid henc;have vw:=Lib.hid hA3;have lI:=Lib.hid hk3;clear hA3 hk3 hsl henc bb3 Ql;go_wp2_with fail;refine HE.out.mono ?_;rintro e3 w4 ⟨vb,rfl,hvb,hb3⟩;go_wp2;go_ret;have hz:=lI.out.size
  have hfn:sP st c= {st with dV:=0,bytes:=0,fD:=false,polled:=pp,wait:=true,iB:=xx}:=by unfold sP;rw[HPP.out,Tp.out]
  rw[hfn];exact ⟨vb,rfl,aW hvb hz,lZ.step lI.out (dX.refl _ _) (dX.refl _ _) ((vw.out.below hb3).o ((Kept.of_below hb3).gX fun k o ho hm=>by have:=lt_of_heap ho;omega))⟩
end
end
end Go.Proofs.YtiecgfahidpldaaGreat
