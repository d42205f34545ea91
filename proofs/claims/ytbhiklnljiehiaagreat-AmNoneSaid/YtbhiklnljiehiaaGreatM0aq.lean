/- amsend: advance. Status: the report's answers are noted. Unconfirmed: as many SDUs as are not confirmed. A transmitter whose memory lies from a block on; its calls in one form each; num, same of the laws. A new transmitter as a transmitter of the laws. -/
import Derived.Test.YtbhiklnljiehiaaGreatM0ae
import Derived.Test.YtbhiklnljiehiaaGreatM0af
import Derived.Test.YtbhiklnljiehiaaGreatM0am
import Derived.Test.YtbhiklnljiehiaaGreatM0ao
import Derived.Test.YtbhiklnljiehiaaGreatM0ap
import Derived.Deep.DeepCutAuto
import Derived.Deep.CutBlock
import Derived.Deep.LoopGhost
import Derived.BigRegion
namespace Go.Proofs.YtbhiklnljiehiaaGreat
section
open Go.RowKit Go.Shelf
attribute [local go_sem] Oper.semAt_some
def oH (st:Sd) (x:Ou) (r:List Ou):Sd:= {st with out:=r,front:=st.front+aF x,first:=(st.first+1)%1024}
def ni (st:Sd) (x:List UInt8) (r:List (List UInt8)):Sd:= {st with queue:=r,front:=st.front-x.length,taken:=st.taken-x.length,done:=st.done+1}
theorem BL {st:Sd} {x:Ou} {r:List Ou} (h:st.out=x::r) (ha:x.aV=true):dX (oH st x r)=dX st:=by
 unfold dX oH;simp only[h,aO,if_pos ha];have e1:(st.first+1)%1024+(aO r).1=(st.first+1)%1024+(aO r).1:=rfl;have e2:((st.first+1)%1024+(aO r).1)%1024=(st.first+((aO r).1+1))%1024:=by omega
 have e3:st.front+aF x+(aO r).2.1=st.front+((aO r).2.1+aF x):=by omega
 rw[e2,e3]
theorem E4 {l:List Ou} (h:∀x r,l=x::r→x.aV=false):aO l=(0,0,l):=by
 cases l with
 |nil=>rfl
 |cons x r=>
  have:=h x r rfl;simp[aO,this]
theorem BM {st:Sd} {x:List UInt8} {r:List (List UInt8)} (h:st.queue=x::r) (hf:x.length≤st.front) (ho:aO st.out=(0,0,st.out)) (_hfi:st.first<1024):dX (ni st x r)=dX st:=by
 unfold dX ni;simp only[h,ho,Nat.add_zero];have e:d9 (x::r) st.front=((d9 r (st.front-x.length)).1+1,(d9 r (st.front-x.length)).2.1+x.length,(d9 r (st.front-x.length)).2.2.1,(d9 r (st.front-x.length)).2.2.2):=by
  rw[d9,if_pos hf]
 rw[e];simp only;have e1:st.taken-x.length-(d9 r (st.front-x.length)).2.1=st.taken-((d9 r (st.front-x.length)).2.1+x.length):=by omega
 have e2:st.done+1+(d9 r (st.front-x.length)).1=st.done+((d9 r (st.front-x.length)).1+1):=by omega
 rw[e1,e2]
theorem E5 {st:Sd} (ho:aO st.out=(0,0,st.out)) (hq:∀x r,st.queue=x::r→st.front<x.length) (hfi:st.first<1024):dX st=st:=by
 unfold dX;simp only[ho,Nat.add_zero];have e:d9 st.queue st.front=(0,0,st.front,st.queue):=by
  cases hqq:st.queue with
  |nil=>rfl
  |cons x r=>
   have:=hq x r hqq;rw[d9,if_neg (by omega)]
 rw[e];simp only[Nat.sub_zero,Nat.add_zero,Nat.mod_eq_of_lt hfi]
section
variable {D F:Nat→Prop} {g:Nat} {c:Cf} {st:Sd} {vq vo:Value} {vs os:List Value} {w:World}
theorem dS.R5 (h:dS w D F g c st vq vs vo os) {x:Ou} {r:List Ou} {v:Value} {os':List Value} {zI:Value} (ho:st.out=x::r) (hos:os=v::os') (hq:dN w 0 138 zI r.length os') (hb:∀k,aS zI=some k→D k):
 dS (w.setCell ⟨g,12,none⟩ zI) D F g c {st with out:=r} vq vs zI os':=by
 subst hos;have hbk:=h.blk.av 12 zI;have hlt:∀k,F k→k<(w.setCell ⟨g,12,none⟩ zI).heap.size:=fun k hk=>by
  have:=h.lt k hk;simpa[World.setCell] using this
 refine ⟨hbk,h.gd,h.sub,hlt,h.qr.store h.blk (by decide) _,h.qd,fun i p hi=> ?_,hq.store h.blk (by decide) _,hb,fun i y hi=> ?_,fun i j u hi hj=> ?_⟩
 ·obtain ⟨A,cc,e,hs,hf⟩:=h.qe i p hi;exact ⟨A,cc,e,hs.stay fun ad ea=>fq (fun e2=>(hf ad ea).2 (by
   have e3:ad.block=g:=e2;rw[e3];exact h.gd)),hf⟩
 ·obtain ⟨p,Ap,cp,vp,Ar,cr,e,hx⟩:=h.oe (i+1) y (by rw[ho];simpa using hi);exact ⟨p,Ap,cp,vp,Ar,cr,by simpa using e,hx.far h.gd (fun e=>h.blk.off hx.blk (by decide) e) 12 zI⟩
 ·have:=h.inj (i+1) (j+1) u (by simpa using hi) (by simpa using hj);omega
theorem dS.R6 (h:dS w D F g c st vq vs vo os) {x:List UInt8} {r:List (List UInt8)} {v:Value} {vs':List Value} {Ig:Value} (ho:st.queue=x::r) (hos:vs=v::vs') (hq:dN w 0 31 Ig r.length vs') (hb:∀k,aS Ig=some k→D k):
 dS (w.setCell ⟨g,7,none⟩ Ig) D F g c {st with queue:=r} Ig vs' vo os:=by
 subst hos;have hbk:=h.blk.av 7 Ig;have hlt:∀k,F k→k<(w.setCell ⟨g,7,none⟩ Ig).heap.size:=fun k hk=>by
  have:=h.lt k hk;simpa[World.setCell] using this
 refine ⟨hbk,h.gd,h.sub,hlt,hq.store h.blk (by decide) _,hb,fun i p hi=> ?_,h.qU.store h.blk (by decide) _,h.od,fun i y hi=> ?_,h.inj⟩
 ·obtain ⟨A,cc,e,hs,hf⟩:=h.qe (i+1) p (by rw[ho];simpa using hi);exact ⟨A,cc,by simpa using e,hs.stay fun ad ea=>fq (fun e2=>(hf ad ea).2 (by
   have e3:ad.block=g:=e2;rw[e3];exact h.gd)),hf⟩
 ·obtain ⟨p,Ap,cp,vp,Ar,cr,e,hx⟩:=h.oe i y hi;exact ⟨p,Ap,cp,vp,Ar,cr,e,hx.far h.gd (fun e=>h.blk.off hx.blk (by decide) e) 7 Ig⟩
def Qm (w:World) (D F:Nat→Prop) (g:Nat) (c:Cf) (st:Sd) (vq:Value) (vs:List Value) (E:Sd→Prop) (gk:Nat) (wr:World):Prop:=
 ∃st' zI os',gk=st'.out.length∧dS wr D F g c st' vq vs zI os'∧Kept (fun k _=>D k) w wr∧dX st'=dX st∧st'.taken=st'.front+sizes st'.out∧st'.taken≤1048576∧st'.queue=st.queue∧st'.first<1024∧st'.done=st.done∧st'.out.length≤512∧E st'
def Yl (w:World) (D F:Nat→Prop) (g:Nat) (c:Cf) (st:Sd) (vo:Value) (os:List Value) (gk:Nat) (wr:World):Prop:=
 ∃st' Ig vs',gk=st'.queue.length∧dS wr D F g c st' Ig vs' vo os∧Kept (fun k _=>D k) w wr∧dX st'=dX st∧st'.front≤st'.taken∧st'.taken≤1048576∧st'.first<1024∧aO st'.out=(0,0,st'.out)∧st'.done+st'.queue.length≤9000000000000∧(∀s∈st'.queue,s.length≤9000)
set_option maxRecDepth 100000 in
set_option maxHeartbeats 4000000 in
theorem Dl (h:dS w D F g c st vq vs vo os) (hI:st.taken=st.front+sizes st.out) (ht:st.taken≤1048576) (hf:st.first<1024) (hw:st.out.length≤512) (hd:st.done≤1000000000000) (Yd:st.queue.length≤1048576) (hsd:∀s∈st.queue,s.length≤9000):
 Calls Tryz.prog 147 #[.pointer (some ⟨g,0,none⟩)] w fun e w'=>e= .returned (.tuple #[])∧∃Ig vs' zI os',dS w' D F g c (dX st) Ig vs' zI os'∧Kept (fun k _=>D k) w w':=by
 have HH:=Lib.hid h;have HI:=Lib.hid hI;have Ym:=Lib.hid hsd;clear h hI hsd;go_enter Tryz.func147,Tryz.ntmps147
 go_upto_block 0 with (fail)
 go_cut [] (fun wx=>∃gk,Qm w D F g c st vq vs (fun s=>aO s.out=(0,0,s.out)) gk wx)
 case first=>
  go_wp2_with fail;go_loopg [] st.out.length (fun gk wr=>Qm w D F g c st vq vs (fun _=>True) gk wr)
  case atStart=>exact ⟨st,vo,os,rfl,HH.out,Kept.refl _ w,rfl,HI.out,ht,rfl,hf,rfl,hw,trivial⟩
  case round=>
   obtain ⟨s1,Uq,os1,rfl,hA,hk,had,htk,htl,hqq,hfi,hdn,hol,-⟩:=hrel;have uk:=hA.blk.cell 12;simp[dO] at uk;cases hout:s1.out with
   |nil=>
    have hR:Qm w D F g c st vq vs (fun s=>aO s.out=(0,0,s.out)) s1.out.length wr:=⟨s1,Uq,os1,rfl,hA,hk,had,htk,htl,hqq,hfi,hdn,hol,by show aO s1.out=(0,0,s1.out);rw[hout];rfl⟩;have HR:=Lib.hid hR;obtain ⟨A,cc,rfl,hs⟩:=hA.Pb;have hc1:=hs.cap;have hc2:=hs.mx;rw[hout] at hc1 uk;simp only[List.length_nil] at hc1 uk;clear hA hk had htk hqq hdn hR hs hout;go_wp2;go_meet;exact ⟨_,HR.out⟩
   |cons x r=>
    obtain ⟨p,Ap,cp,vp,Ar,cr,he,ho⟩:=hA.oe 0 x (by rw[hout];rfl);obtain ⟨z0,z7,z8,z9,M7,Qj⟩:=ho.cells;have hq:=hA.qU;rw[hout] at hq;simp only[List.length_cons] at hq;obtain ⟨v,os2,hos⟩:∃v os2,os1=v::os2:=by
     cases hos:os1 with
     |nil=>rw[hos] at he;simp at he
     |cons v t=>exact ⟨v,t,rfl⟩
    subst hos;simp only[List.getElem?_cons_zero,Option.some.injEq] at he;subst he;obtain ⟨q,oo,cap,rfl,hcap1,hcap2⟩:∃q oo cap,Uq= .slice (some ⟨q,oo,none⟩) (r.length+1) cap∧r.length+1≤cap∧cap≤9223372036854775807:=by
     rcases hq.2 with ⟨_,h0⟩|⟨q,oo,cap,cur,e,_,_,h1,h2,_⟩
     ·omega
     ·exact ⟨q,oo,cap,e,h1,by unfold maxLen at h2;omega⟩
    have yq:=hq.cells 0 _ rfl;simp only[Nat.add_zero] at yq;cases hac:x.aV with
    |false=>
     rw[hac] at z9;have hR:Qm w D F g c st vq vs (fun s=>aO s.out=(0,0,s.out)) s1.out.length wr:=⟨s1,_,_,rfl,hA,hk,had,htk,htl,hqq,hfi,hdn,hol,by show aO s1.out=(0,0,s1.out);rw[hout];exact E4 fun y t e=>by cases e;exact hac⟩;have HR:=Lib.hid hR;clear hA hk had htk hqq hdn hR hq hout hac ho z0 z7 z8 M7 Qj;go_wp2;go_meet;exact ⟨_,HR.out⟩
    |true=>
     rw[hac] at z9;have hsz:sizes s1.out=aF x+sizes r:=by rw[hout,fF]
     have hfs:s1.front+aF x≤1048576:=by omega
     have y9:=hA.blk.cell 9;have e9:=hA.blk.frozen 9;simp[dO] at y9;have hA1:=hA.mr 9 (.int .i64 ((s1.front:Int)+(aF x:Nat))) (st':= {s1 with front:=s1.front+aF x}) (by simp[dO]) rfl rfl;have hk1:=hk.setCell (p:=⟨g,9,none⟩) (fun _ _=>hA.gd) (.int .i64 ((s1.front:Int)+(aF x:Nat)));have HA1:=Lib.hid hA1.drew;have vg:=Lib.hid hk1.drew;have HQ:=Lib.hid hq;have pY:=Lib.hid hout;have C6:=Lib.hid hsz;have HAC:=Lib.hid hac;have Jh:=Lib.hid had;have HQQ:=Lib.hid hqq;have HDN:=Lib.hid hdn;have Ke:=Lib.hid htk;clear hA hk hA1 hk1 hq hout hsz hac had hqq hdn htk ho z0 z7 M7 Qj;have hand:bits BinOp.and IntKind.i64 ((s1.first:Int)+1) 1023=(((s1.first+1)%1024:Nat):Int):=by rw[sF];omega
     go_wp2_with fail
     go_region
     generalize (wr.setCell ⟨g,9,none⟩ (.int .i64 ((s1.front:Int)+(aF x:Nat)))).drew=w1 at*;clear y9 uk e9 yq z8 z9;have uk:=HA1.out.blk.cell 12;have e12:=HA1.out.blk.frozen 12;simp[dO] at uk;have hq1:=HA1.out.qU;have hlo:({s1 with front:=s1.front+aF x}:Sd).out.length=r.length+1:=by show s1.out.length=_;rw[pY.out];rfl
     rw[hlo] at hq1;have HQ:=Lib.hid hq1;clear hq1 hlo;by_cases hc1:cap=1
     ·subst hc1;obtain rfl:r= []:=List.eq_nil_of_length_eq_zero (by omega);simp only[List.length_nil,Nat.zero_add] at*;have Gi:dN w1 0 138 (.slice (some ⟨q,oo,none⟩) 0 0) 0 os2:=by
       have:=HQ.out.tail;rw[if_pos rfl] at this;exact this
      have hA2:=HA1.out.R5 (x:=x) (r:= []) (v:= .pointer (some ⟨p,0,none⟩)) (os':=os2) (zI:= .slice (some ⟨q,oo,none⟩) 0 0) pY.out rfl Gi (fun k hk=>HA1.out.od k hk);have Nf:=hA2.blk.cell 11;have e11:=hA2.blk.frozen 11;simp[dO] at Nf;have hA3:=hA2.mr 11 (.int .i64 (((s1.first+1)%1024:Nat):Int)) (st':=oH s1 x []) (by simp[dO,oH]) rfl rfl;have hk3:=(vg.out.setCell (p:=⟨g,12,none⟩) (fun _ _=>HA1.out.gd) (.slice (some ⟨q,oo,none⟩) 0 0)).setCell (p:=⟨g,11,none⟩) (fun _ _=>HA1.out.gd) (.int .i64 (((s1.first+1)%1024:Nat):Int));have vk:=Lib.hid hA3;have lJ:=Lib.hid hk3;have HAND:=Lib.hid hand;clear Gi hA2 hA3 hk3 hand;go_upto_region 3 with (fail)
      generalize w1.setCell ⟨g,12,none⟩ (.slice (some ⟨q,oo,none⟩) 0 0)=w2 at*;have hand:=HAND.out;go_wp2
      go_roundg 0
      case measure=>have:=pY.out;simp[this]
      case rel=>
       exact ⟨oH s1 x [],_,os2,rfl,vk.out,lJ.out,(BL pY.out HAC.out).trans Jh.out,by have:=Ke.out;have:=C6.out;simp only[oH];omega,htl,HQQ.out,Nat.mod_lt _ (by decide),HDN.out,by simp[oH],trivial⟩
     ·have hc2:¬cap=1:=hc1;have Gi:dN w1 0 138 (.slice (some ⟨q,oo+1,none⟩) r.length (cap-1)) r.length os2:=by
       have:=HQ.out.tail;rw[if_neg hc2] at this;exact this
      have hA2:=HA1.out.R5 (x:=x) (r:=r) (v:= .pointer (some ⟨p,0,none⟩)) (os':=os2) (zI:= .slice (some ⟨q,oo+1,none⟩) r.length (cap-1)) pY.out rfl Gi (fun k hk=>HA1.out.od k hk);have Nf:=hA2.blk.cell 11;have e11:=hA2.blk.frozen 11;simp[dO] at Nf;have hA3:=hA2.mr 11 (.int .i64 (((s1.first+1)%1024:Nat):Int)) (st':=oH s1 x r) (by simp[dO,oH]) rfl rfl;have hk3:=(vg.out.setCell (p:=⟨g,12,none⟩) (fun _ _=>HA1.out.gd) (.slice (some ⟨q,oo+1,none⟩) r.length (cap-1))).setCell (p:=⟨g,11,none⟩) (fun _ _=>HA1.out.gd) (.int .i64 (((s1.first+1)%1024:Nat):Int));have vk:=Lib.hid hA3;have lJ:=Lib.hid hk3;have HAND:=Lib.hid hand;clear Gi hA2 hA3 hk3 hand;go_upto_region 3 with (fail)
      generalize w1.setCell ⟨g,12,none⟩ (.slice (some ⟨q,oo+1,none⟩) r.length (cap-1))=w2 at*;have hand:=HAND.out;go_wp2
      go_roundg r.length
      case measure=>have:=pY.out;simp[this]
      case rel=>
       exact ⟨oH s1 x r,_,os2,rfl,vk.out,lJ.out,(BL pY.out HAC.out).trans Jh.out,by have:=Ke.out;have:=C6.out;simp only[oH];omega,htl,HQQ.out,Nat.mod_lt _ (by decide),HDN.out,by have:=pY.out;rw[this] at hol;simp at hol;simp only[oH];omega,trivial⟩
 case rest=>
 obtain ⟨gk0,st1,Uq,os1,-,hA1,hk1,Yn,acO,Yo,Uv,Yp,Yq,acP,Yr⟩:=hcut;have H1:Yl w D F g c st Uq os1 st1.queue.length wc:=⟨st1,vq,vs,rfl,hA1,hk1,Yn,by omega,Yo,Yp,Yr,by rw[Uv,Yq];omega,fun s hs=>Ym.out s (by rw[←Uv];exact hs)⟩;have H1H:=Lib.hid H1;clear hA1 hk1 Yn acO Yo Uv Yp Yq acP Yr H1 HH HI Ym hw hd Yd ht hf;go_wp2_with fail;go_loopg [] st1.queue.length (fun gk wr=>Yl w D F g c st Uq os1 gk wr)
 case atStart=>exact H1H.out
 case round=>
  obtain ⟨s1,vq1,vs1,rfl,hA,hk,had,hft,htl,hfi,hao,hdn,hsd⟩:=hrel;have y7:=hA.blk.cell 7;have y9:=hA.blk.cell 9;simp[dO] at y7 y9;clear H1H;cases hout:s1.queue with
  |nil=>
   have hR:dX st=s1:=by rw[←had];exact E5 hao (fun x r e=>by rw[hout] at e;cases e) hfi
   have HR:=Lib.hid hR;have HA:=Lib.hid hA;have HK:=Lib.hid hk;obtain ⟨A,cc,rfl,hs⟩:=hA.WR;have hc1:=hs.sl.cap;have hc2:=hs.sl.mx;rw[hout] at hc1 y7;simp only[List.length_nil] at hc1 y7;clear hA hk had hR hs hout hao;go_wp2
   go_quiet (fail)
   go_wp2
   go_end0
   rw[HR.out];exact ⟨rfl,_,_,_,_,HA.out.drewN _,HK.out.gU _⟩
  |cons x r=>
   have hq:=hA.qr;rw[hout] at hq;simp only[List.length_cons] at hq;obtain ⟨v,vs2,hos⟩:∃v vs2,vs1=v::vs2:=by
    cases hos:vs1 with
    |nil=>rw[hos] at hq;have:=hq.1;simp at this
    |cons v t=>exact ⟨v,t,rfl⟩
   subst hos;obtain ⟨Ax,cx,hex,hsx,_⟩:=hA.qe 0 x (by rw[hout];rfl);simp only[List.getElem?_cons_zero,Option.some.injEq] at hex;subst hex;have hxc:=hsx.cap;have hxm:=hsx.mx;have hx9:=hsd x (by rw[hout];simp);obtain ⟨q,oo,cap,rfl,hcap1,hcap2⟩:∃q oo cap,vq1= .slice (some ⟨q,oo,none⟩) (r.length+1) cap∧r.length+1≤cap∧cap≤9223372036854775807:=by
    rcases hq.2 with ⟨_,h0⟩|⟨q,oo,cap,cur,e,_,_,h1,h2,_⟩
    ·omega
    ·exact ⟨q,oo,cap,e,h1,by unfold maxLen at h2;omega⟩
   have yq:=hq.cells 0 _ rfl;simp only[Nat.add_zero] at yq;by_cases hge:x.length≤s1.front
   ·have d1:decide (x.length≤s1.front)=true:=decide_eq_true hge;have HAO:=Lib.hid hao;have Jh:=Lib.hid had;have acQ:=Lib.hid hsd;have pY:=Lib.hid hout;have HDN:=Lib.hid hdn;have aji:s1.done+(r.length+1)≤9000000000000:=by rw[hout] at hdn;simpa using hdn
    have HA:=Lib.hid hA;have HK:=Lib.hid hk;clear hA hk had hao hsd hout hdn hq hsx;go_wp2_with fail
    go_quiet (fail)
    go_wp2_with fail;have EY:=HA.out.drewN nq;have hk0:=HK.out.gU nq;clear y7 y9 yq;generalize wr.drewN nq=w0 at*;have y9:=EY.blk.cell 9;have Dm:=EY.blk.cell 10;have e9:=EY.blk.frozen 9;have e10:=EY.blk.frozen 10;simp[dO] at y9 Dm;have hA1:=((EY.mr 9 (.int .i64 ((s1.front:Int)-(x.length:Nat))) (st':= {s1 with front:=s1.front-x.length}) (by simp[dO];omega) rfl rfl).mr 10 (.int .i64 ((s1.taken:Int)-(x.length:Nat))) (st':= {s1 with front:=s1.front-x.length,taken:=s1.taken-x.length}) (by simp[dO];omega) rfl rfl).drew;have hk1:=((hk0.setCell (p:=⟨g,9,none⟩) (fun _ _=>EY.gd) (.int .i64 ((s1.front:Int)-(x.length:Nat)))).setCell (p:=⟨g,10,none⟩) (fun _ _=>EY.gd) (.int .i64 ((s1.taken:Int)-(x.length:Nat)))).drew;have HA1:=Lib.hid hA1;have vg:=Lib.hid hk1;clear EY hk0 hA1 hk1 HA HK;refine aY (fun w'=>w'.cell? ⟨g,9,none⟩=some (.int .i64 (s1.front:Nat))∧w'.cell? ⟨g,10,none⟩=some (.int .i64 (s1.taken:Nat))) [16,19] (by kernel_rfl) ?_;have hHeld:w0.drew.cell? ⟨g,9,none⟩=some (.int .i64 (s1.front:Nat))∧w0.drew.cell? ⟨g,10,none⟩=some (.int .i64 (s1.taken:Nat)):=⟨y9,Dm⟩;refine aT 0 ?_ rfl (Or.inl ⟨by rfl,?_⟩) hHeld ?_;rotate_left
    ·intro w' hSw;go_simp
     try with_reducible rfl
    try simp only[Act.put,aB,aC,ax,ay,aA]
    refine aT 1 ?_ rfl (Or.inl ⟨by rfl,?_⟩) hHeld ?_;rotate_left
    ·intro w' hSw;go_simp
     try with_reducible rfl
    try simp only[Act.put,aB,aC,aD,ax,ay,aA]
    refine aT 2 ?_ rfl (Or.inl ⟨by rfl,?_⟩) hHeld ?_;rotate_left
    ·intro w' hSw;go_simp
     try with_reducible rfl
    try simp only[Act.put,aB,aC,aD,ax,ay,aA]
    refine aT 3 ?_ rfl (Or.inl ⟨by rfl,?_⟩) hHeld ?_;rotate_left
    ·intro w' hSw;go_simp
     try with_reducible rfl
    try simp only[Act.put,aB,aC,aD,ax,ay,aA]
    refine aT 4 ?_ rfl (Or.inl ⟨by rfl,?_⟩) hHeld ?_;rotate_left
    ·intro w' hSw;go_simp
     try with_reducible rfl
    try simp only[Act.put,aB,aC,aD,ax,ay,aA]
    refine iK [16,19] 5 ?_ rfl (Or.inl ⟨by rfl,?_⟩) hHeld ?_;rotate_left
    ·intro w' hSw;obtain ⟨hS1,hS2⟩:=hSw;go_simp
     try with_reducible rfl
    try simp only[Act.put,aB,aC,aD,ax,ay,aA]
    refine aT 6 ?_ rfl (Or.inl ⟨by rfl,?_⟩) hHeld ?_;rotate_left
    ·intro w' hSw;go_simp
     try with_reducible rfl
    try simp only[Act.put,aB,aC,aD,ax,ay,aA]
    refine aT 7 ?_ rfl (Or.inl ⟨by rfl,?_⟩) hHeld ?_;rotate_left
    ·intro w' hSw;go_simp
     try with_reducible rfl
    try simp only[Act.put,aB,aC,aD,ax,ay,aA]
    refine aT 8 ?_ rfl (Or.inl ⟨by rfl,?_⟩) hHeld ?_;rotate_left
    ·intro w' hSw;go_simp
     try with_reducible rfl
    try simp only[Act.put,aB,aC,aD,ax,ay,aA]
    refine aT 9 ?_ rfl (Or.inl ⟨by rfl,?_⟩) hHeld ?_;rotate_left
    ·intro w' hSw;go_simp
     try with_reducible rfl
    try simp only[Act.put,aB,aC,aD,ax,ay,aA]
    refine aT 10 ?_ rfl (Or.inl ⟨by rfl,?_⟩) hHeld ?_;rotate_left
    ·intro w' hSw;go_simp
     try with_reducible rfl
    try simp only[Act.put,aB,aC,aD,ax,ay,aA]
    refine iK [16,19] 11 ?_ rfl (Or.inl ⟨by rfl,?_⟩) hHeld ?_;rotate_left
    ·intro w' hSw;obtain ⟨hS1,hS2⟩:=hSw;go_simp
     try with_reducible rfl
    try simp only[Act.put,aB,aC,aD,ax,ay,aA]
    refine aT 12 ?_ rfl (Or.inl ⟨by rfl,?_⟩) hHeld ?_;rotate_left
    ·intro w' hSw;go_simp
     try with_reducible rfl
    try simp only[Act.put,aB,aC,aD,ax,ay,aA]
    refine aT 13 ?_ rfl (Or.inl ⟨by rfl,?_⟩) hHeld ?_;rotate_left
    ·intro w' hSw;go_simp
     try with_reducible rfl
    try simp only[Act.put,aB,aC,aD,ax,ay,aA]
    refine aT 14 ?_ rfl (Or.inl ⟨by rfl,?_⟩) hHeld ?_;rotate_left
    ·intro w' hSw;go_simp
     try with_reducible rfl
    try simp only[Act.put,aB,aC,aD,ax,ay,aA]
    refine aT 15 ?_ rfl (Or.inl ⟨by rfl,?_⟩) hHeld ?_;rotate_left
    ·intro w' hSw;go_simp
     try with_reducible rfl
    try simp only[Act.put,aB,aC,aD,ax,ay,aA]
    refine bH (i:=16) rfl (by kernel_rfl) (by kernel_rfl) (by rfl) (fun K hK=> ?_);go_simp;refine hK _ _ ?_;clear hK K
    try simp only[Act.put,aB,aC,aD,ax,ay,aA]
    refine jo 17 ?_ rfl (Or.inl ⟨by rfl,?_⟩) ?_;rotate_left
    ·intro w' hSw;go_simp
     try with_reducible rfl
    try simp only[Act.put,aB,aC,aD,ax,ay,aA]
    refine jo 18 ?_ rfl (Or.inl ⟨by rfl,?_⟩) ?_;rotate_left
    ·intro w' hSw;go_simp
     try with_reducible rfl
    try simp only[Act.put,aB,aC,aD,ax,ay,aA]
    refine bH (i:=19) rfl (by kernel_rfl) (by kernel_rfl) (by rfl) (fun K hK=> ?_);go_simp;refine hK _ _ ?_;clear hK K
    try simp only[Act.put,aB,aC,aD,ax,ay,aA]
    refine aX (by kernel_rfl) ?_ _;rw[IntWalk.i64_in ((s1.front:Int)-(x.length:Nat)) (by omega),IntWalk.i64_in ((s1.taken:Int)-(x.length:Nat)) (by omega)];generalize ((w0.setCell ⟨g,9,none⟩ (.int .i64 ((s1.front:Int)-(x.length:Nat)))).setCell ⟨g,10,none⟩ (.int .i64 ((s1.taken:Int)-(x.length:Nat)))).drew=w1 at*;clear y9 Dm e9 e10 hHeld;have y7:=HA1.out.blk.cell 7;have e7:=HA1.out.blk.frozen 7;simp[dO] at y7;have hq1:=HA1.out.qr;have hlo:({s1 with front:=s1.front-x.length,taken:=s1.taken-x.length}:Sd).queue.length=r.length+1:=by show s1.queue.length=_;rw[pY.out];rfl
    rw[hlo] at hq1;have HQ:=Lib.hid hq1;clear hq1 hlo;by_cases hc1:cap=1
    ·subst hc1;obtain rfl:r= []:=List.eq_nil_of_length_eq_zero (by omega);simp only[List.length_nil,Nat.zero_add] at*;have Gi:dN w1 0 31 (.slice (some ⟨q,oo,none⟩) 0 0) 0 vs2:=by
      have:=HQ.out.tail;rw[if_pos rfl] at this;exact this
     have hA2:=HA1.out.R6 (x:=x) (r:= []) (v:= .slice Ax x.length cx) (vs':=vs2) (Ig:= .slice (some ⟨q,oo,none⟩) 0 0) pY.out rfl Gi (fun k hk=>HA1.out.qd k hk);have y8:=hA2.blk.cell 8;have e8:=hA2.blk.frozen 8;simp[dO] at y8;have hA3:=hA2.mr 8 (.int .i64 ((s1.done:Int)+1)) (st':=ni s1 x []) (by simp[dO,ni]) rfl rfl;have hk3:=(vg.out.setCell (p:=⟨g,7,none⟩) (fun _ _=>HA1.out.gd) (.slice (some ⟨q,oo,none⟩) 0 0)).setCell (p:=⟨g,8,none⟩) (fun _ _=>HA1.out.gd) (.int .i64 ((s1.done:Int)+1));have vk:=Lib.hid hA3;have lJ:=Lib.hid hk3;clear Gi hA2 hA3 hk3;go_upto_region 8 with (fail)
     generalize w1.setCell ⟨g,7,none⟩ (.slice (some ⟨q,oo,none⟩) 0 0)=w2 at*;go_wp2
     go_roundg 0
     case measure=>have:=pY.out;simp[this]
     case rel=>
      exact ⟨ni s1 x [],_,vs2,rfl,vk.out,lJ.out,(BM pY.out hge HAO.out hfi).trans Jh.out,by simp only[ni];omega,by simp only[ni];omega,hfi,HAO.out,by show s1.done+1+0≤_;omega,fun s hs=>by simp[ni] at hs⟩
    ·have hc2:¬cap=1:=hc1;have Gi:dN w1 0 31 (.slice (some ⟨q,oo+1,none⟩) r.length (cap-1)) r.length vs2:=by
      have:=HQ.out.tail;rw[if_neg hc2] at this;exact this
     have hA2:=HA1.out.R6 (x:=x) (r:=r) (v:= .slice Ax x.length cx) (vs':=vs2) (Ig:= .slice (some ⟨q,oo+1,none⟩) r.length (cap-1)) pY.out rfl Gi (fun k hk=>HA1.out.qd k hk);have y8:=hA2.blk.cell 8;have e8:=hA2.blk.frozen 8;simp[dO] at y8;have hA3:=hA2.mr 8 (.int .i64 ((s1.done:Int)+1)) (st':=ni s1 x r) (by simp[dO,ni]) rfl rfl;have hk3:=(vg.out.setCell (p:=⟨g,7,none⟩) (fun _ _=>HA1.out.gd) (.slice (some ⟨q,oo+1,none⟩) r.length (cap-1))).setCell (p:=⟨g,8,none⟩) (fun _ _=>HA1.out.gd) (.int .i64 ((s1.done:Int)+1));have vk:=Lib.hid hA3;have lJ:=Lib.hid hk3;clear Gi hA2 hA3 hk3;go_upto_region 8 with (fail)
     generalize w1.setCell ⟨g,7,none⟩ (.slice (some ⟨q,oo+1,none⟩) r.length (cap-1))=w2 at*;go_wp2
     go_roundg r.length
     case measure=>have:=pY.out;simp[this]
     case rel=>
      exact ⟨ni s1 x r,_,vs2,rfl,vk.out,lJ.out,(BM pY.out hge HAO.out hfi).trans Jh.out,by simp only[ni];omega,by simp only[ni];omega,hfi,HAO.out,by show s1.done+1+r.length≤_;omega,fun s hs=>acQ.out s (by rw[pY.out];exact List.mem_cons_of_mem _ hs)⟩
   ·have d1:decide (x.length≤s1.front)=false:=decide_eq_false hge;have hR:dX st=s1:=by rw[←had];exact E5 hao (fun y t e=>by rw[hout] at e;cases e;omega) hfi
    have HR:=Lib.hid hR;have HA:=Lib.hid hA;have HK:=Lib.hid hk;clear hA hk had hR hout hao hq hsx;go_wp2_with fail
    go_quiet (fail)
    go_wp2
    go_end0
    rw[HR.out];exact ⟨rfl,_,_,_,_,HA.out.drewN _,HK.out.gU _⟩
end
end
section
open Go.RowKit Go.Shelf
attribute [local go_sem] Oper.semAt_some
theorem bI.Ng {w w':World} {A:Option Addr} {n c:Nat} {l:List Nk} {M:Nat→Obj→Prop} (h:bI w A n c l) (hk:Kept M w w') (hM:∀ad,A=some ad→0<n→∀o,¬M ad.block o):bI w' A n c l:=
 ⟨h.len,h.cap,h.mx,fun hn=>by
  obtain ⟨ad,e,hlt,hc⟩:=h.at_ hn;have h1:=Array.getElem?_eq_getElem hlt;have hb:w'.heap[ad.block]? =w.heap[ad.block]? :=by rw[hk.same _ _ h1 (hM ad e hn _),h1]
  refine ⟨ad,e,Nat.lt_of_lt_of_le hlt hk.size,fun j r hr=> ?_⟩;obtain ⟨k0,k1,k2,k3⟩:=hc j r hr;have hbk:w'.heap[(ad.add (j*4)).block]? =w.heap[(ad.add (j*4)).block]? :=by rw[block_add];exact hb
  exact ⟨(World.cell?_of_block (a:=ad.add (j*4)) hbk).trans k0,(cell_of_heap hbk _ _).trans k1,(cell_of_heap hbk _ _).trans k2,(cell_of_heap hbk _ _).trans k3⟩⟩
theorem Ji {aK:Int} {l:List Nk} (h:cu aK l=true):∀y∈l,gY aK y=true:=fun y hy=>by
 unfold cu at h;simp only[Bool.and_eq_true] at h;obtain ⟨k,hk⟩:=List.mem_iff_getElem?.1 hy;exact ((jK aK l).1 h.2.2 k y hk).1
theorem E6 {aK:Int} {y:Nk} (h:gY aK y=true):(0≤y.sn∧y.sn≤1023)∧0≤(Ki y).1∧0≤(Ki y).2:=by
 unfold gY at h;simp only[Bool.and_eq_true,decide_eq_true_eq] at h;obtain ⟨⟨h1,h2⟩,_,h3⟩:=h;refine ⟨⟨h1,by omega⟩,?_⟩;unfold Ki;split
 ·rename_i hp;rw[if_pos hp] at h3;simp only[Bool.and_eq_true,decide_eq_true_eq] at h3;dsimp only;omega
 ·dsimp only;omega
section
variable {D F:Nat→Prop} {g:Nat} {c:Cf} {st:Sd} {vq vo:Value} {vs os:List Value} {w:World}
theorem Ql.put {aK:Int} {A:Option Addr} {n cc:Nat} {w0:World} (h:Ql w g aK A n cc w0):Ql w g aK A n cc (w0.setCell ⟨w.heap.size+1+1,0,none⟩ (.int .i64 0)):=
 ⟨h.b.setCell (p:=⟨w.heap.size+1+1,0,none⟩) (by simp;omega) _,h.s.far (p:=⟨w.heap.size+1+1,0,none⟩) (by show ¬w.heap.size=w.heap.size+1+1;omega) _,h.r.far (p:=⟨w.heap.size+1+1,0,none⟩) (by show ¬w.heap.size+1=w.heap.size+1+1;omega) _,by simpa using h.e.av 0 (.int .i64 0),by simpa[World.setCell] using h.z⟩
theorem Ih {s:Sd} {n:Nat} (h1:s.first<1024) (h2:n≤1023):dQ s (n:Int)=(gV s n:Int):=by
 unfold dQ gV;omega
theorem Nh (c:Cf) (mi:Ou→List (Nat × Nat)) (m:Nat) (s:Sd) (h1:s.first<1024) (h2:s.polled≤1023) (b:Bool) (hb:(s.wait&&decide ((m:Int)≤dQ s (s.polled:Int)))=b):
 iE c mi m s=if (dX {Az c mi s m with wait:=b}).dW=true then bK c (dX {Az c mi s m with wait:=b}) else dX {Az c mi s m with wait:=b}:=by
 have e:(s.wait&&decide (m≤gV s s.polled))=b:=by
  rw[←hb,Ih h1 h2]
  congr 1
  exact decide_eq_decide.2 (by omega)
 unfold iE;dsimp only;rw[e];rfl
structure Qn (w:World) (g:Nat) (aK:Int) (A:Option Addr) (n cc:Nat) (w0:World):Prop where
 s:au w0 w.heap.size 49 #[.pointer (some ⟨g,0,none⟩)]
 r:au w0 (w.heap.size+1) 133 #[.int .i64 aK,.slice A n cc]
 e:au w0 (w.heap.size+1+1) 53 #[.int .i64 0]
theorem Ql.x {aK:Int} {A:Option Addr} {n cc:Nat} {w0:World} (h:Ql w g aK A n cc w0):Qn w g aK A n cc w0:=⟨h.s,h.r,h.e⟩
theorem Qn.below {aK:Int} {A:Option Addr} {n cc:Nat} {w0 w1:World} (h:Qn w g aK A n cc w0) (hb:Below w0.heap.size w0 w1):Qn w g aK A n cc w1:=
 ⟨h.s.below hb h.s.lt,h.r.below hb h.r.lt,h.e.below hb h.e.lt⟩
theorem Qn.kept {aK:Int} {A:Option Addr} {n cc:Nat} {w0 w1:World} (h:Qn w g aK A n cc w0) (hk:Kept (fun k _=>D k) w0 w1) (hD:∀k,D k→k<w.heap.size):Qn w g aK A n cc w1:=
 ⟨h.s.kept hk (fun e=>by have:=hD _ e;omega),h.r.kept hk (fun e=>by have:=hD _ e;omega),h.e.kept hk (fun e=>by have:=hD _ e;omega)⟩
theorem Qn.cells {aK:Int} {A:Option Addr} {n cc:Nat} {w0:World} (h:Qn w g aK A n cc w0):w0.cell? ⟨w.heap.size,0,none⟩=some (.pointer (some ⟨g,0,none⟩))∧w0.cell? ⟨w.heap.size+1,0,none⟩=some (.int .i64 aK)∧w0.cell? ⟨w.heap.size+1,1,none⟩=some (.slice A n cc)∧w0.cell? ⟨w.heap.size+1+1,0,none⟩=some (.int .i64 0)∧w0.frozen? ⟨w.heap.size+1+1,0,none⟩=false:=
 ⟨h.s.cell 0,h.r.cell 0,h.r.cell 1,h.e.cell 0,h.e.frozen 0⟩
set_option maxRecDepth 100000 in
set_option maxHeartbeats 4000000 in
theorem E7 (h:dS w D F g c st vq vs vo os) (ht:LD c) {K:Nat} (hB:jk st K) (hK:K≤90000) (hI:bP st) (hf:st.failed=false) (now aK:Int) (gQ:now≤9223372036854775807)
 (A:Option Addr) (n cc:Nat) (dG:List Nk) (hN:bI w A n cc dG) (hAD:∀ad,A=some ad→0<n→¬D ad.block) (hv:cu aK dG=true):
 Calls Tryz.prog 93 #[.pointer (some ⟨g,0,none⟩),.int .i64 now,.agg #[.int .i64 aK,.slice A n cc]] w (Na w D F g c (dm c st now aK dG)):=by
 have HW:=Lib.hid (Ql.mk' w g aK A n cc);have HH:=Lib.hid h;have HN:=Lib.hid hN;have Jh:=Lib.hid hAD;have V4:=Lib.hid (show ∀k,D k→k<w.heap.size from fun k hk=>h.lt k (h.sub k hk));obtain ⟨hln,Yt,Yu⟩:=vV hv;obtain ⟨s1,hs1⟩:∃s1,bW st now=s1:=⟨_,rfl⟩
 have hI1:=hI.clock now;have hB1:=hB.clock gQ;have hf1:s1.failed=false:=by rw[←hs1];exact hf
 rw[hs1] at hI1 hB1;have hm0:dQ s1 aK=((dQ s1 aK).toNat:Int):=by unfold dQ;omega
 have hm1:(dQ s1 aK).toNat≤1023:=by unfold dQ;omega
 have hR:dm c st now aK dG=if (s1.out.length:Int)<dQ s1 aK∨dG.any (behind s1 (dQ s1 aK))=true then (s1,6) else (iE c (bQ dG) (dQ s1 aK).toNat s1,if (iE c (bQ dG) (dQ s1 aK).toNat s1).failed=true then 8 else 0):=by
  unfold dm lQ;rw[if_neg (by simp[hf]),if_neg (by simp[hv]),hs1];rw[←hs1];rfl
 have hpl:=fun (W:World) (hA:dS W D F g c s1 vq vs vo os)=>qV hA hI1.f aK ⟨Yt,Yu⟩
 rw[hm0] at hpl hR;obtain ⟨m,hm⟩:∃m,(dQ s1 aK).toNat=m:=⟨_,rfl⟩
 simp only[hm,Int.toNat_natCast] at hpl hR hm1;have CO:=Lib.hid hpl;have HR:=Lib.hid hR;have HI1:=Lib.hid hI1;have HB1:=Lib.hid hB1;have OX:=Lib.hid hf1;have HV:=Lib.hid hv;have AU:=Lib.hid hs1;have hT:=ht.timer.1;have HF:=Lib.hid hf;have HT:=Lib.hid ht;clear h hN hAD hI hB hI1 hB1 hf1 hm hm0 hpl hR hv hs1 ht hf
 go_enter_defers Tryz.func93,Tryz.ntmps93
 go_wp2_with fail;generalize ((w.alloc (.cells #[.pointer (some ⟨g,0,none⟩)] 49)).alloc (.cells #[.int .i64 aK,.slice A n cc] 133)).alloc (.cells #[.int .i64 0] 53)=w0 at*;have nV:=Lib.hid (iV (HH.out.below HW.out.b) hT);rw[HF.out] at nV;simp only[Bool.false_eq_true,if_false] at nV;have HW1:=Lib.hid HW.out.put;obtain ⟨-,-,-,e0,e1⟩:=HW.out.x.cells;refine nV.out.mono ?_;rintro en w1 ⟨rfl,rfl⟩;obtain ⟨-,r0,r1,-,-⟩:=HW1.out.x.cells;have HA1:=Lib.hid (HH.out.below HW1.out.b);have I6:=Lib.hid (jL (w0.setCell ⟨w.heap.size+1+1,0,none⟩ (.int .i64 0)) aK A n cc dG (HN.out.below HW1.out.b));rw[HV.out] at I6;go_wp2_with fail;clear e0 e1 r0 r1 nV HW;generalize w0.setCell ⟨w.heap.size+1+1,0,none⟩ (.int .i64 0)=w1 at*;refine I6.out.mono ?_;rintro en w2 ⟨rfl,hb2⟩;have Qo:=Lib.hid (HW1.out.x.below hb2);have HA2:=Lib.hid (HA1.out.below hb2);have xP:=Lib.hid (show Kept (fun k _=>D k) w w2 from (Kept.dA HW1.out.b).trans (Kept.dA hb2));have qI:=Lib.hid (uX HA2.out now);obtain ⟨s0,-,-,-,-⟩:=Qo.out.cells;rw[AU.out] at qI;clear hb2;go_wp2_with fail;refine qI.out.mono ?_;rintro en w3 ⟨rfl,hA3,hk3⟩;have HX3:=Lib.hid (Qo.out.kept hk3 V4.out);have vk:=Lib.hid hA3;have lJ:=Lib.hid (xP.out.trans hk3);have HP:=Lib.hid (CO.out w3 hA3);clear s0;obtain ⟨s0,r0,r1,-,-⟩:=HX3.out.cells;clear hA3 hk3 HA2 xP Qo qI I6 HA1 HW1 CO;go_wp2_with fail;refine HP.out.mono ?_;rintro en w4 ⟨rfl,rfl⟩;go_upto_region 9 with (fail)
 have hb4:Below w3.heap.size w3 (w3.alloc (.cells #[.int .i64 (m:Int)] 3)):=(Below.refl _ w3).alloc (Nat.le_refl _) _;have V5:=Lib.hid (au.new w3 3 #[.int .i64 (m:Int)]);have R7:=Lib.hid (HX3.out.below hb4);have Kq:=Lib.hid (vk.out.below hb4);have zF:=Lib.hid (lJ.out.trans (Kept.dA hb4));have HZ4:=Lib.hid (show w.heap.size+1+1<w3.heap.size from HX3.out.e.lt);clear s0 r0 r1 hb4 HP vk HX3 lJ;generalize w3.alloc (.cells #[.int .i64 (m:Int)] 3)=w4 at*;obtain ⟨Ao,co,rfl,hso⟩:=Kq.out.Pb;have uk:=Kq.out.blk.cell 12;simp[dO] at uk;have m0:=V5.out.cell 0;simp at m0;obtain ⟨s0,r0,r1,e0,e1⟩:=R7.out.cells;have Yv:=hso.cap;have acR:=hso.mx;have HSO:=Lib.hid hso;clear hso;by_cases hbig:(s1.out.length:Int)<(m:Int)
 ·have d1:decide ((s1.out.length:Int)<(m:Int))=true:=decide_eq_true hbig;have d2:decide (s1.out.length<m)=true:=decide_eq_true (by omega);have hRr:=HR.out;rw[if_pos (.inl hbig)] at hRr;have Ii:=Lib.hid hRr;clear hbig hRr;refine wp_region_noPanic ?_
  go_quiet (fail)
  refine NoPanic.normal ?_;go_wp2;refine leaves_cons (f:=76) (args:= #[.pointer (some ⟨w.heap.size+1+1,0,none⟩)]) (by simp) (by simp[go_sem]) ?_;refine (eP _ _).mono ?_;rintro e9 u9 w9 ⟨rfl,rfl,rfl⟩;have q:=(((R7.out.below ((Below.refl _ w4).drewN nq)).e).av 0 (.int .i64 6)).cell 0;simp at q;refine ⟨.int .i64 6,by simp[results,Tryz.results93,go_sem,q],?_⟩;rw[Ii.out];exact ⟨rfl,((Kq.out.drewN nq).ve HH.out.lt (b:=w.heap.size+1+1) (by omega) 0 _).o ((zF.out.gU nq).ve (b:=w.heap.size+1+1) (by omega) 0 _)⟩
 ·have d1:decide ((s1.out.length:Int)<(m:Int))=false:=decide_eq_false hbig;have d2:decide (s1.out.length<m)=false:=decide_eq_false (by omega);have hle:m≤s1.out.length:=by omega
  have hRr:=HR.out;have hor:(((s1.out.length:Int)<(m:Int))∨dG.any (behind s1 m)=true)=(dG.any (behind s1 m)=true):=by simp only[hbig,false_or]
  simp only[hor] at hRr;have Ii:=Lib.hid hRr;have V6:=Lib.hid (fun (W:World) (hW:Below w4.heap.size w4 W)=>Km (Kq.out.below hW) HI1.out.f w.heap.size w3.heap.size (m:Int) (R7.out.below hW).s (V5.out.below hW V5.out.lt) A n cc dG (((HN.out.Ng zF.out (fun ad e hz o=>Jh.out ad e hz))).below hW) (fun y hy=>(E6 (Ji HV.out y hy)).1));clear hbig hRr hor HR;go_cut [38] from 26 to 38 (fun s38 wx=>s38= .bool (dG.any (behind s1 m))∧Below w4.heap.size w4 wx)
  case first=>
   refine wp_region_noPanic ?_
   go_region_with (go_at_call 143;refine (V6.out _ (by first|exact Below.refl _ _|exact (Below.refl _ _).drew|exact (Below.refl _ _).drewN _)).mono ?_;rintro en w5 ⟨rfl,hb5⟩)
   all_goals
    refine NoPanic.normal ?_;go_wp2_with fail;go_meet;exact ⟨rfl,by first|exact hb5|exact (Below.refl _ w4).drew.trans hb5|exact ((Below.refl _ w4).drewN _).trans hb5⟩
  case rest=>
  obtain ⟨rfl,hb5⟩:=hcut;have Uw:=Lib.hid (R7.out.below hb5);have Ni:=Lib.hid (Kq.out.below hb5);have rW:=Lib.hid (zF.out.trans (Kept.dA hb5));have Ux:=Lib.hid (V5.out.below hb5 V5.out.lt);have Gf:=Lib.hid hb5;clear uk m0 s0 r0 r1 e0 e1 HSO V6;have uk:=Ni.out.blk.cell 12;simp[dO] at uk;have m0:=Ux.out.cell 0;simp at m0;obtain ⟨s0,r0,r1,e0,e1⟩:=Uw.out.cells;clear hb5;cases hany:dG.any (behind s1 (m:Int)) with
  |true=>
   have hRr:=Ii.out;rw[if_pos hany] at hRr;have HRR:=Lib.hid hRr;clear hRr hany;go_wp2;refine leaves_cons (f:=76) (args:= #[.pointer (some ⟨w.heap.size+1+1,0,none⟩)]) (by simp) (by simp[go_sem]) ?_;refine (eP _ _).mono ?_;rintro e9 u9 w9 ⟨rfl,rfl,rfl⟩;have q:=(Uw.out.e.av 0 (.int .i64 6)).cell 0;simp at q;refine ⟨.int .i64 6,by simp[results,Tryz.results93,go_sem,q],?_⟩;rw[HRR.out];exact ⟨rfl,(Ni.out.ve HH.out.lt (b:=w.heap.size+1+1) (by omega) 0 _).o (rW.out.ve (b:=w.heap.size+1+1) (by omega) 0 _)⟩
  |false=>
   have hRr:=Ii.out;rw[if_neg (by rw[hany];decide)] at hRr;have HRR:=Lib.hid hRr;clear hRr hany Ii;have hmc:m≤co:=by omega
   go_wp2_with fail
   go_quiet (fail)
   go_wp2_with fail;have V7:=Lib.hid (Uw.out.below ((Below.refl _ wc).drewN nq));have HA6:=Lib.hid (Ni.out.drewN nq);have rX:=Lib.hid (rW.out.gU nq);have HM6:=Lib.hid (Ux.out.below ((Below.refl _ wc).drewN nq) Ux.out.lt);have HN6:=Lib.hid (HN.out.Ng rX.out (fun ad e hz o=>Jh.out ad e hz));clear uk m0 s0 r0 r1 e0 e1 Uw Ni rW Ux Gf Kq zF R7 V5;have I7:w.heap.size+1+1<w3.heap.size∧w3.heap.size<(wc.drewN nq).heap.size:=⟨HZ4.out,HM6.out.lt⟩;generalize wc.drewN nq=w6 at*;have JP:=Lib.hid I7;clear I7
   go_loopw [46] (fun i wr=>∃k:Nat,k≤m∧i= .int .i64 k∧∃F',dS wr D F' g c (Az c (bQ dG) s1 k) vq vs (.slice Ao s1.out.length co) os∧bR w6 F F'∧Kept (fun k _=>D k) w6 wr) (fun i _=>m-(intOf i).toNat)
   case atStart=>exact ⟨0,Nat.zero_le _,rfl,F,by rw[Nc];exact HA6.out,bR.refl _ _,Kept.refl _ _⟩
   case round=>
    obtain ⟨k,hk,rfl,F',hA',hF',hK'⟩:=hrel;have HX':=Lib.hid (V7.out.kept hK' V4.out);have wK:=Lib.hid hA';have Yw:=Lib.hid hF';have V8:=Lib.hid hK';obtain ⟨s0,r0,r1,e0,e1⟩:=HX'.out.cells;by_cases hlt:k<m
    ·obtain ⟨x,hx⟩:∃x,s1.out[k]? =some x:=⟨_,List.getElem?_eq_getElem (by omega)⟩
     have hxk:(Az c (bQ dG) s1 k).out[k]? =some x:=by rw[Jg];exact hx
     obtain ⟨p,Ap,cp,vp,Ar,cr,he,ho⟩:=hA'.oe k x hxk;obtain ⟨A2,c2,e2,hso⟩:=hA'.Pb;have hll:(Az c (bQ dG) s1 k).out.length=s1.out.length:=ja _ _ _ _;rw[hll] at e2 hso;injection e2 with e3 e4 e5
     subst e3 e5;obtain ⟨ad,u,rfl,hb,hu,hc⟩:=hso.get (show k<s1.out.length by omega);rw[he] at hu;cases hu;obtain ⟨z0,z7,z8,z9,M7,Qj⟩:=ho.cells;have R8:=Lib.hid hx;have RS:=Lib.hid hxk;have HE:=Lib.hid he;have HO:=Lib.hid ho;have HHC:=Lib.hid hc;clear hx hxk he hll hA' hF' hK' hso z0 z7 z8 M7 Qj;cases hak:x.aV with
     |true=>
      rw[hak] at z9;have HAK:=Lib.hid hak;clear ho hak;go_wp2
      go_round
      case rel=>
       refine ⟨k+1,by omega,by go_num,F',?_,Yw.out,V8.out⟩;rw[Ko R8.out HAK.out];exact wK.out
      case measure=>simp[intOf];omega
     |false=>
      rw[hak] at z9;have hox:=HB1.out.ou x (List.mem_of_getElem? R8.out);have hsz:=jc hox;have HMS:=Lib.hid (Dh aK dG A n cc (HN6.out.Ng V8.out (fun ad e hz o=>Jh.out ad e hz)) (by have:=HN6.out.len;omega) p x ho (fun y hy=>(E6 (Ji HV.out y hy)).2) (by omega) hsz.1);have hone:bS c (bQ dG) x=if bQ dG x= [] then ({x with aV:=true,pend:= []},false) else gG c x (bQ dG x):=by unfold bS;rw[if_neg (by rw[hak];decide)]
      have Qp:=Lib.hid (EZ (c:=c) (m:=bQ dG) R8.out);have HRX:=Lib.hid (HB1.out.rx x (List.mem_of_getElem? R8.out));rw[hone] at Qp;obtain ⟨l,hl⟩:∃l,bQ dG x=l:=⟨_,rfl⟩
      rw[hl] at HMS Qp;clear ho hak hox hone hl hsz;go_wp2_with fail;refine HMS.out.mono ?_;rintro en w7 ⟨v,rfl,hv7,oN⟩;obtain ⟨Al,cl,rfl,hsp,hbl⟩:=dM.cK hv7;have afX:=hsp.cap;have ajp:=hsp.mx;have Lf:=Lib.hid hsp;have HBL:=Lib.hid hbl;have HX7:=Lib.hid (HX'.out.below oN);have Qq:=wK.out.below oN;obtain ⟨p2,Ap2,cp2,vp2,Ar2,cr2,he2,V9⟩:=Qq.oe k x RS.out;rw[HE.out] at he2;cases he2;have z9:=V9.blk.cell 9;have M7:=V9.blk.cell 10;have f9:=V9.blk.frozen 9;have f10:=V9.blk.frozen 10;simp[Eh] at z9 M7;clear s0 r0 r1 e0 e1 hc;obtain ⟨s0,-,-,-,-⟩:=HX7.out.cells;have OA:=Lib.hid Qq;have HO7:=Lib.hid V9;have HB7:=Lib.hid oN;have K8:=Lib.hid (V8.out.trans (Kept.dA oN));clear hv7 hsp hbl Qq V9 oN HMS;by_cases hl:l= []
      ·have dl:decide (0<l.length)=false:=by rw[hl];rfl
       have HL:=Lib.hid hl;clear hl;go_wp2
       go_round
       case rel=>
        obtain ⟨h1,h2⟩:=OA.out.confirm RS.out HE.out HO7.out;refine ⟨k+1,by omega,by go_num,F',?_,Yw.out,K8.out.trans h2⟩;have hs:=Qp.out;rw[if_pos HL.out] at hs;rw[hs];exact h1
       case measure=>simp[intOf];omega
      ·have dl:decide (0<l.length)=true:=decide_eq_true (List.length_pos_iff.2 hl);obtain ⟨al,rfl,-⟩:=Lf.out.at_ (List.length_pos_iff.2 hl);have hbl:=HBL.out al rfl;have Nj:=OA.out.RQ (b:=al.block) hbl.2;obtain ⟨p3,Ap3,cp3,vp3,Ar3,cr3,Yx,ho3⟩:=Nj.oe k x RS.out;rw[HE.out] at Yx;cases Yx;have Yy:=Lib.hid (yR Nj RS.out HE.out ho3 Lf.out (fun ad e=>by cases e;exact ⟨.inr rfl,wK.out.fresh hbl.1⟩) (by have:=HRX.out;omega));have HL:=Lib.hid hl;have MS:=Lib.hid hbl;clear hl Nj ho3 hbl;go_wp2_with fail;refine Yy.out.mono ?_;rintro en w8 ⟨rfl,Nj,L8⟩;have HA8:=Lib.hid Nj;have Ol:=Lib.hid L8;clear Nj L8;go_wp2
       go_round
       case rel=>
        refine ⟨k+1,by omega,by go_num,fun j=>F' j∨j=al.block,?_,?_,K8.out.trans Ol.out⟩
        ·have hs:=Qp.out;rw[if_neg HL.out] at hs;rw[hs];exact HA8.out
        ·intro j hj;rcases hj with hj|rfl
         ·exact Yw.out j hj
         ·have:=MS.out.1;have:=V8.out.size;have:=rX.out.size;exact .inr (by omega)
       case measure=>simp[intOf];omega
    ·have hkm:m=k:=by omega
     subst hkm;clear hA' hF' hK';go_wp2_with fail;obtain ⟨b,hb⟩:∃b,(s1.wait&&decide ((m:Int)≤dQ s1 (s1.polled:Int)))=b:=⟨_,rfl⟩
     have CO:=Lib.hid (qV (w:=wr.drew) (st:=Az c (bQ dG) s1 m) wK.out.drew HI1.out.f (s1.polled:Int) (by have:=HB1.out.pol;omega));have Gg:=wK.out.blk.cell 15;have vS:=wK.out.blk.cell 16;have f16:=wK.out.blk.frozen 16;have m0:=(HM6.out.kept V8.out (fun e=>by have:=V4.out _ e;have:=JP.out;omega)).cell 0;simp[dO,Az] at Gg vS m0;have Gd:=Lib.hid hb;have WE:=wK.out.blk.lt;clear hb r0 r1 e0 e1;go_cut [] from 71 to 87 (fun wx=>wx=(wr.setCell ⟨g,16,none⟩ (.bool b)).drew)
     case first=>
      cases hwt:s1.wait with
      |false=>
       have hbt:b=false:=by rw[←Gd.out,hwt];rfl
       rw[hwt] at vS;subst hbt;clear hwt;refine wp_region_noPanic ?_;refine aY (fun w'=>w'.cell? ⟨w.heap.size,0,none⟩=some (.pointer (some ⟨g,0,none⟩))∧w'.cell? ⟨g,16,none⟩=some (.bool false)∧w'.cell? ⟨g,15,none⟩=some (.int .i64 (s1.polled:Nat))∧w'.cell? ⟨w3.heap.size,0,none⟩=some (.int .i64 (m:Int))) [17] (by kernel_rfl) ?_;have hHeld:=(show (fun w'=>w'.cell? ⟨w.heap.size,0,none⟩=some (.pointer (some ⟨g,0,none⟩))∧w'.cell? ⟨g,16,none⟩=some (.bool false)∧w'.cell? ⟨g,15,none⟩=some (.int .i64 (s1.polled:Nat))∧w'.cell? ⟨w3.heap.size,0,none⟩=some (.int .i64 (m:Int))) wr.drew from ⟨s0,vS,Gg,m0⟩);refine iK [17,16,15] 0 ?_ rfl (Or.inl ⟨by rfl,?_⟩) hHeld ?_;rotate_left
       ·intro w' hSw;obtain ⟨hS1,hS2,fU,kI⟩:=hSw;go_simp
        try with_reducible rfl
       try simp only[Act.put,aB,aC,ax,ay,aA]
       refine iK [17,16,15] 1 ?_ rfl (Or.inl ⟨by rfl,?_⟩) hHeld ?_;rotate_left
       ·intro w' hSw;obtain ⟨hS1,hS2,fU,kI⟩:=hSw;go_simp
        try with_reducible rfl
       try simp only[Act.put,aB,aC,aD,ax,ay,aA]
       refine aT 2 ?_ rfl (Or.inl ⟨by rfl,?_⟩) hHeld ?_;rotate_left
       ·intro w' hSw;go_simp
        try with_reducible rfl
       try simp only[Act.put,aB,aC,aD,ax,ay,aA]
       refine aT 3 ?_ rfl (Or.inl ⟨by rfl,?_⟩) hHeld ?_;rotate_left
       ·intro w' hSw;go_simp
        try with_reducible rfl
       try simp only[Act.put,aB,aC,aD,ax,ay,aA]
       refine iK [17,16,15] 4 ?_ rfl (Or.inl ⟨by rfl,?_⟩) hHeld ?_;rotate_left
       ·intro w' hSw;obtain ⟨hS1,hS2,fU,kI⟩:=hSw;go_simp
        try with_reducible rfl
       try simp only[Act.put,aB,aC,aD,ax,ay,aA]
       refine aT 5 ?_ rfl (Or.inl ⟨by rfl,?_⟩) hHeld ?_;rotate_left
       ·intro w' hSw;go_simp
        try with_reducible rfl
       try simp only[Act.put,aB,aC,aD,ax,ay,aA]
       refine aT 6 undef rfl (Or.inr ⟨by rfl,rfl⟩) hHeld ?_
       try simp only[Act.put,aB,aC,aD,ax,ay,aA]
       refine aT 7 undef rfl (Or.inr ⟨by rfl,rfl⟩) hHeld ?_
       try simp only[Act.put,aB,aC,aD,ax,ay,aA]
       refine aT 8 undef rfl (Or.inr ⟨by rfl,rfl⟩) hHeld ?_
       try simp only[Act.put,aB,aC,aD,ax,ay,aA]
       refine aT 9 undef rfl (Or.inr ⟨by rfl,rfl⟩) hHeld ?_
       try simp only[Act.put,aB,aC,aD,ax,ay,aA]
       refine aT 10 undef rfl (Or.inr ⟨by rfl,rfl⟩) hHeld ?_
       try simp only[Act.put,aB,aC,aD,ax,ay,aA]
       refine aT 11 undef rfl (Or.inr ⟨by rfl,rfl⟩) hHeld ?_
       try simp only[Act.put,aB,aC,aD,ax,ay,aA]
       refine aT 12 undef rfl (Or.inr ⟨by rfl,rfl⟩) hHeld ?_
       try simp only[Act.put,aB,aC,aD,ax,ay,aA]
       refine aT 13 undef rfl (Or.inr ⟨by rfl,rfl⟩) hHeld ?_
       try simp only[Act.put,aB,aC,aD,ax,ay,aA]
       refine aT 14 ?_ rfl (Or.inl ⟨by rfl,?_⟩) hHeld ?_;rotate_left
       ·intro w' hSw;go_simp
        try with_reducible rfl
       try simp only[Act.put,aB,aC,aD,ax,ay,aA]
       refine aT 15 ?_ rfl (Or.inl ⟨by rfl,?_⟩) hHeld ?_;rotate_left
       ·intro w' hSw;go_simp
        try with_reducible rfl
       try simp only[Act.put,aB,aC,aD,ax,ay,aA]
       refine aT 16 ?_ rfl (Or.inl ⟨by rfl,?_⟩) hHeld ?_;rotate_left
       ·intro w' hSw;go_simp
        try with_reducible rfl
       try simp only[Act.put,aB,aC,aD,ax,ay,aA]
       refine bH (i:=17) rfl (by kernel_rfl) (by kernel_rfl) (by rfl) (fun K hK=> ?_);go_simp;refine hK _ _ ?_;clear hK K
       try simp only[Act.put,aB,aC,aD,ax,ay,aA]
       refine aX (by kernel_rfl) ?_ _;refine NoPanic.normal ?_;go_wp2_with fail;go_meet;rfl
      |true=>
       have hbt:decide ((m:Int)≤dQ s1 (s1.polled:Int))=b:=by rw[←Gd.out,hwt];rfl
       rw[hwt] at vS;clear hwt;refine wp_region_noPanic ?_;refine aY (fun w'=>w'.cell? ⟨w.heap.size,0,none⟩=some (.pointer (some ⟨g,0,none⟩))∧w'.cell? ⟨g,16,none⟩=some (.bool true)∧w'.cell? ⟨g,15,none⟩=some (.int .i64 (s1.polled:Nat))∧w'.cell? ⟨w3.heap.size,0,none⟩=some (.int .i64 (m:Int))) [17] (by kernel_rfl) ?_;have hHeld:=(show (fun w'=>w'.cell? ⟨w.heap.size,0,none⟩=some (.pointer (some ⟨g,0,none⟩))∧w'.cell? ⟨g,16,none⟩=some (.bool true)∧w'.cell? ⟨g,15,none⟩=some (.int .i64 (s1.polled:Nat))∧w'.cell? ⟨w3.heap.size,0,none⟩=some (.int .i64 (m:Int))) wr.drew from ⟨s0,vS,Gg,m0⟩);refine iK [17,16,15] 0 ?_ rfl (Or.inl ⟨by rfl,?_⟩) hHeld ?_;rotate_left
       ·intro w' hSw;obtain ⟨hS1,hS2,fU,kI⟩:=hSw;go_simp
        try with_reducible rfl
       try simp only[Act.put,aB,aC,ax,ay,aA]
       refine iK [17,16,15] 1 ?_ rfl (Or.inl ⟨by rfl,?_⟩) hHeld ?_;rotate_left
       ·intro w' hSw;obtain ⟨hS1,hS2,fU,kI⟩:=hSw;go_simp
        try with_reducible rfl
       try simp only[Act.put,aB,aC,aD,ax,ay,aA]
       refine aT 2 ?_ rfl (Or.inl ⟨by rfl,?_⟩) hHeld ?_;rotate_left
       ·intro w' hSw;go_simp
        try with_reducible rfl
       try simp only[Act.put,aB,aC,aD,ax,ay,aA]
       refine aT 3 ?_ rfl (Or.inl ⟨by rfl,?_⟩) hHeld ?_;rotate_left
       ·intro w' hSw;go_simp
        try with_reducible rfl
       try simp only[Act.put,aB,aC,aD,ax,ay,aA]
       refine iK [17,16,15] 4 ?_ rfl (Or.inl ⟨by rfl,?_⟩) hHeld ?_;rotate_left
       ·intro w' hSw;obtain ⟨hS1,hS2,fU,kI⟩:=hSw;go_simp
        try with_reducible rfl
       try simp only[Act.put,aB,aC,aD,ax,ay,aA]
       refine aT 5 ?_ rfl (Or.inl ⟨by rfl,?_⟩) hHeld ?_;rotate_left
       ·intro w' hSw;go_simp
        try with_reducible rfl
       try simp only[Act.put,aB,aC,aD,ax,ay,aA]
       refine iK [17,16,15] 6 ?_ rfl (Or.inl ⟨by rfl,?_⟩) hHeld ?_;rotate_left
       ·intro w' hSw;obtain ⟨hS1,hS2,fU,kI⟩:=hSw;go_simp
        try with_reducible rfl
       try simp only[Act.put,aB,aC,aD,ax,ay,aA]
       refine iK [17,16,15] 7 ?_ rfl (Or.inl ⟨by rfl,?_⟩) hHeld ?_;rotate_left
       ·intro w' hSw;obtain ⟨hS1,hS2,fU,kI⟩:=hSw;go_simp
        try with_reducible rfl
       try simp only[Act.put,aB,aC,aD,ax,ay,aA]
       refine aT 8 ?_ rfl (Or.inl ⟨by rfl,?_⟩) hHeld ?_;rotate_left
       ·intro w' hSw;go_simp
        try with_reducible rfl
       try simp only[Act.put,aB,aC,aD,ax,ay,aA]
       refine aT 9 ?_ rfl (Or.inl ⟨by rfl,?_⟩) hHeld ?_;rotate_left
       ·intro w' hSw;go_simp
        try with_reducible rfl
       try simp only[Act.put,aB,aC,aD,ax,ay,aA]
       refine iK [17,16,15] 10 ?_ rfl (Or.inl ⟨by rfl,?_⟩) hHeld ?_;rotate_left
       ·intro w' hSw;obtain ⟨hS1,hS2,fU,kI⟩:=hSw;go_simp
        try with_reducible rfl
       try simp only[Act.put,aB,aC,aD,ax,ay,aA]
       refine iK [17,16,15] 12 ?_ rfl (Or.inl ⟨by rfl,?_⟩) hHeld ?_;rotate_left
       ·intro w' hSw;obtain ⟨hS1,hS2,fU,kI⟩:=hSw;go_simp
        try with_reducible rfl
       try simp only[Act.put,aB,aC,aD,ax,ay,aA]
       refine aQ (i:=11) rfl (by kernel_rfl) (by rfl) (fun K hK=> ?_);go_simp;refine CO.out.mono ?_;rintro en w8 ⟨rfl,rfl⟩;refine hK _ _ (show (fun w'=>w'.cell? ⟨w.heap.size,0,none⟩=some (.pointer (some ⟨g,0,none⟩))∧w'.cell? ⟨g,16,none⟩=some (.bool true)∧w'.cell? ⟨g,15,none⟩=some (.int .i64 (s1.polled:Nat))∧w'.cell? ⟨w3.heap.size,0,none⟩=some (.int .i64 (m:Int))) wr.drew from ⟨s0,vS,Gg,m0⟩) ?_;clear hK K hHeld;have hHeld:=(show (fun w'=>w'.cell? ⟨w.heap.size,0,none⟩=some (.pointer (some ⟨g,0,none⟩))∧w'.cell? ⟨g,16,none⟩=some (.bool true)∧w'.cell? ⟨g,15,none⟩=some (.int .i64 (s1.polled:Nat))∧w'.cell? ⟨w3.heap.size,0,none⟩=some (.int .i64 (m:Int))) wr.drew from ⟨s0,vS,Gg,m0⟩)
       try simp only[Act.put,aB,aC,aD,ax,ay,aA]
       refine aT 13 ?_ rfl (Or.inl ⟨by rfl,?_⟩) hHeld ?_;rotate_left
       ·intro w' hSw;go_simp
        try with_reducible rfl
       try simp only[Act.put,aB,aC,aD,ax,ay,aA]
       refine aT 14 ?_ rfl (Or.inl ⟨by rfl,?_⟩) hHeld ?_;rotate_left
       ·intro w' hSw;go_simp
        try with_reducible rfl
       try simp only[Act.put,aB,aC,aD,ax,ay,aA]
       refine aT 15 ?_ rfl (Or.inl ⟨by rfl,?_⟩) hHeld ?_;rotate_left
       ·intro w' hSw;go_simp
        try with_reducible rfl
       try simp only[Act.put,aB,aC,aD,ax,ay,aA]
       refine aT 16 ?_ rfl (Or.inl ⟨by rfl,?_⟩) hHeld ?_;rotate_left
       ·intro w' hSw;go_simp
        try with_reducible rfl
       try simp only[Act.put,aB,aC,aD,ax,ay,aA]
       refine bH (i:=17) rfl (by kernel_rfl) (by kernel_rfl) (by rfl) (fun K hK=> ?_);go_simp;refine hK _ _ ?_;clear hK K
       try simp only[Act.put,aB,aC,aD,ax,ay,aA]
       refine aX (by kernel_rfl) ?_ _;refine NoPanic.normal ?_;go_wp2_with fail;go_meet;show (wr.setCell _ (.bool (decide ((m:Int)≤dQ s1 (s1.polled:Int))))).drew=_
       rw[hbt]
     case rest=>
     subst hcut;obtain ⟨s3,hs3⟩:∃s3,{Az c (bQ dG) s1 m with wait:=b}=s3:=⟨_,rfl⟩
     have Nj:=(wK.out.mr 16 (.bool b) (st':= {Az c (bQ dG) s1 m with wait:=b}) (by simp[dO,Az]) rfl rfl).drew;have hK8:=(V8.out.setCell (p:=⟨g,16,none⟩) (fun _ _=>wK.out.gd) (.bool b)).drew;have hSt:=Nh c (bQ dG) m s1 HI1.out.f HB1.out.pol b Gd.out;have hso:s3.taken=s3.front+sizes s3.out:=by
      rw[←hs3];show s1.taken=s1.front+sizes (aL c (bQ dG) m s1.out).1
      rw[l9];exact HI1.out.tk
     have E8:=HB1.out.held;have hle3:=HI1.out.le;have hdone:=HB1.out.done;have hq3:s3.queue=s1.queue:=by rw[←hs3];rfl
     have Yd:=uz HI1.out.pos;have hmiss:∀x∈s1.out,(∀r∈bQ dG x,r.1≤r.2∧r.2<aF x)∧(bQ dG x).length≤1000:=fun x hx=>by
      have h1:=EV dG (jc (HB1.out.ou x hx)).1;exact ⟨h1.1,by have:=h1.2;omega⟩
     have hB3:jk s3 (K+1):=by rw[←hs3];exact HB1.out.aL c (bQ dG) m hmiss _ b
     have hl3:s3.out.length≤512:=by
      rw[←hs3];show (aL c (bQ dG) m s1.out).1.length≤512
      rw[ja];exact HI1.out.w
     rw[hs3] at Nj hSt;have acV:s3.taken=s1.taken:=by rw[←hs3];rfl
     have hf3:s3.first=s1.first:=by rw[←hs3];rfl
     have hd3:s3.done=s1.done:=by rw[←hs3];rfl
     have Om:bM s1=ah s1.queue:=rfl;have HAV:=Lib.hid (Dl Nj hso (by omega) (by rw[hf3];exact HI1.out.f) hl3 (by omega) (by rw[hq3];omega) (by rw[hq3];intro s hs;exact (HB1.out.JI s hs).2));have Yz:=Lib.hid (V7.out.kept hK8 V4.out);have Ol:=Lib.hid hK8;have HB3:=Lib.hid hB3;have HST:=Lib.hid hSt;have HL3:=Lib.hid hl3;have HA8:=Lib.hid Nj;clear Nj hK8 hSt hso E8 hle3 hdone hq3 Yd hmiss hB3 hl3 acV hf3 hd3 Om Gg vS f16 m0 s0 CO hs3;obtain ⟨s0,-,-,-,-⟩:=Yz.out.cells;generalize (wr.setCell ⟨g,16,none⟩ (.bool b)).drew=w8 at*;go_wp2_with fail;refine HAV.out.mono ?_;rintro en w9 ⟨rfl,vq9,Wh,Uy,os9,YA,Je⟩;have HX9:=Lib.hid (Yz.out.kept Je V4.out);have E9:=Lib.hid YA;have Pq:=Lib.hid (Ol.out.trans Je);have hB4:=HB3.out.S9;have hl4:(dX s3).out.length≤512:=by
      have:=HL3.out;obtain ⟨⟨d,e1,-⟩,-⟩:=iZ s3.out;have e2:s3.out.length=(d++(aO s3.out).2.2).length:=congrArg _ e1;rw[List.length_append] at e2;show (aO s3.out).2.2.length≤512
      omega
     obtain ⟨s4,hs4⟩:∃s4,dX s3=s4:=⟨_,rfl⟩
     rw[hs4] at HST E9 hB4 hl4;have Ak:=Lib.hid hB4;have HL4:=Lib.hid hl4;have Da:=E9.out.blk.cell 18;simp[dO] at Da;clear s0 YA Je hB4 hl4 hs4 HAV;obtain ⟨s0,-,-,e0,e1⟩:=HX9.out.cells;cases how:s4.dW with
     |false=>
      have HO:=Lib.hid (show kM w6 D F g c s4 w9 from ⟨D,F',vq9,Wh,Uy,os9,E9.out,bR.refl _ _,Yw.out,Pq.out⟩);have hst:=HST.out;rw[if_neg (by rw[how];decide)] at hst;have hrr:=HRR.out;rw[hst] at hrr;rw[how] at Da;clear how;cases hfl:s4.failed with
      |false=>
       rw[hfl] at hrr;have HM:=Lib.hid (yI E9.out hfl);have Bj:=Lib.hid hrr;clear hst hrr hfl;go_wp2_with fail;refine HM.out.mono ?_;rintro en w98 ⟨rfl,rfl⟩;go_wp2;refine leaves_cons (f:=76) (args:= #[.pointer (some ⟨w.heap.size+1+1,0,none⟩)]) (by simp) (by simp[go_sem]) ?_;refine (eP _ _).mono ?_;rintro e99 u99 w99 ⟨rfl,rfl,rfl⟩;have q:=(HX9.out.e.av 0 (.int .i64 0)).cell 0;simp at q;refine ⟨.int .i64 0,by simp[results,Tryz.results93,go_sem,q],?_⟩;rw[Bj.out];exact ⟨rfl,HO.out.put rX.out (b:=w.heap.size+1+1) (by omega) (by have:=JP.out;omega) HH.out.lt HH.out.sub 0 _⟩
      |true=>
       rw[hfl] at hrr;have HM:=Lib.hid (uY E9.out hfl);have Bj:=Lib.hid hrr;clear hst hrr hfl;go_wp2_with fail;refine HM.out.mono ?_;rintro en w98 ⟨rfl,rfl⟩;refine leaves_cons (f:=76) (args:= #[.pointer (some ⟨w.heap.size+1+1,0,none⟩)]) (by simp) (by simp[go_sem]) ?_;refine (jy _ _ w9 HX9.out.e).mono ?_;rintro e99 u99 w99 ⟨rfl,rfl,rfl⟩;have q:=((HX9.out.e.alloc (.cells #[] 191)).av 0 (.int .i64 8)).cell 0;simp at q;refine ⟨.int .i64 8,by simp[results,Tryz.results93,go_sem,q],?_⟩;rw[Bj.out];exact ⟨rfl,(HO.out.alloc _).put rX.out (b:=w.heap.size+1+1) (by omega) (by have:=JP.out;omega) HH.out.lt HH.out.sub 0 _⟩
     |true=>
      have hst:=HST.out;rw[if_pos how] at hst;have hrr:=HRR.out;rw[hst] at hrr;rw[how] at Da;have DV:=Lib.hid (tJ E9.out Ak.out (by omega) HL4.out);have Uz:=Lib.hid hrr;clear how hst hrr;go_wp2_with fail;refine DV.out.mono ?_;rintro en On ⟨rfl,Nl⟩;have HO:=Lib.hid (kM.step Pq.out (bR.refl _ _) Yw.out Nl);have Qr:=Lib.hid (V7.out.kept HO.out.kept V4.out);obtain ⟨D10,F10,aju,ajv,ajw,ajx,Nn,-,-,-⟩:=Nl;have nk:=Lib.hid Nn;clear s0 e0 e1 Nn;obtain ⟨s0,-,-,e0,e1⟩:=Qr.out.cells;obtain ⟨s5,hs5⟩:∃s5,bK c s4=s5:=⟨_,rfl⟩
      have hrr:=Uz.out;rw[hs5] at hrr HO nk;have hst:=hs5;clear hs5;cases hfl:s5.failed with
      |false=>
       rw[hfl] at hrr;have HM:=Lib.hid (yI nk.out hfl);have Bj:=Lib.hid hrr;clear hst hrr hfl;go_wp2_with fail;refine HM.out.mono ?_;rintro en w98 ⟨rfl,rfl⟩;go_wp2;refine leaves_cons (f:=76) (args:= #[.pointer (some ⟨w.heap.size+1+1,0,none⟩)]) (by simp) (by simp[go_sem]) ?_;refine (eP _ _).mono ?_;rintro e99 u99 w99 ⟨rfl,rfl,rfl⟩;have q:=(Qr.out.e.av 0 (.int .i64 0)).cell 0;simp at q;refine ⟨.int .i64 0,by simp[results,Tryz.results93,go_sem,q],?_⟩;rw[Bj.out];exact ⟨rfl,HO.out.put rX.out (b:=w.heap.size+1+1) (by omega) (by have:=JP.out;omega) HH.out.lt HH.out.sub 0 _⟩
      |true=>
       rw[hfl] at hrr;have HM:=Lib.hid (uY nk.out hfl);have Bj:=Lib.hid hrr;clear hst hrr hfl;go_wp2_with fail;refine HM.out.mono ?_;rintro en w98 ⟨rfl,rfl⟩;refine leaves_cons (f:=76) (args:= #[.pointer (some ⟨w.heap.size+1+1,0,none⟩)]) (by simp) (by simp[go_sem]) ?_;refine (jy _ _ On Qr.out.e).mono ?_;rintro e99 u99 w99 ⟨rfl,rfl,rfl⟩;have q:=((Qr.out.e.alloc (.cells #[] 191)).av 0 (.int .i64 8)).cell 0;simp at q;refine ⟨.int .i64 8,by simp[results,Tryz.results93,go_sem,q],?_⟩;rw[Bj.out];exact ⟨rfl,(HO.out.alloc _).put rX.out (b:=w.heap.size+1+1) (by omega) (by have:=JP.out;omega) HH.out.lt HH.out.sub 0 _⟩
end
end
section
open Go.RowKit Go.Shelf
attribute [local go_sem] Oper.semAt_some
section
variable {D F:Nat→Prop} {g:Nat} {c:Cf} {st:Sd} {vq vo:Value} {vs os:List Value} {w:World}
end
end
section
open Go.RowKit Go.Shelf
attribute [local go_sem] Oper.semAt_some
structure fH (c:Cf) (st:Sd) (K:Nat):Prop where
 cf:LD c
 inv:bP st
 bnd:jk st K
def yU (w:World) (F:Nat→Prop) (g:Nat) (c:Cf) (st:Sd):Prop:=∃D vq vs vo os,dS w D F g c st vq vs vo os
section
variable {w w':World} {D F:Nat→Prop} {g:Nat} {c:Cf} {st:Sd} {vq vo:Value} {vs os:List Value} {K:Nat}
theorem yU.below (h:yU w F g c st) (hb:Below w.heap.size w w'):yU w' F g c st:=by
 obtain ⟨D,vq,vs,vo,os,h⟩:=h;exact ⟨D,vq,vs,vo,os,h.below hb⟩
theorem yU.lt (h:yU w F g c st):∀k,F k→k<w.heap.size:=by
 obtain ⟨D,vq,vs,vo,os,h⟩:=h;exact h.lt
theorem yU.stay (h:yU w F g c st) (hk:∀k,F k→w'.heap[k]? =w.heap[k]?):yU w' F g c st:=by
 obtain ⟨D,vq,vs,vo,os,h⟩:=h;exact ⟨D,vq,vs,vo,os,h.stay hk⟩
theorem Kr (h:yU w F g c st) (ho:fH c st K):Calls Tryz.prog 61 #[.pointer (some ⟨g,0,none⟩)] w fun e w'=>e= .returned (.agg (Oy st))∧Below w.heap.size w w':=by
 obtain ⟨D,vq,vs,vo,os,h⟩:=h;exact Hg h ho.cf.timer.1 ho.inv.f (by have:=ho.inv.w;omega)
theorem fH.qR (ho:fH c st K) (x:List UInt8):fH c (cZ c st x).1 K:=by
 refine ⟨ho.cf,ho.inv.cZ c x,?_⟩;unfold cZ;split
 ·exact ho.bnd
 ·split
  ·exact ho.bnd
  ·rename_i hx;split
   ·exact ho.bnd
   ·rename_i hc;have:=ho.cf.cap;exact ho.bnd.qR (by omega) (by omega) (by omega)
theorem fH.tick (ho:fH c st K) (now:Int) (hn:now≤9223372036854775807):fH c (iF c st now).1 (K+3):=by
 refine ⟨ho.cf,ho.inv.iF c now,?_⟩;unfold iF;split
 ·exact ho.bnd.mono (by omega)
 ·exact (ho.bnd.tick c hn).mono (by omega)
theorem fH.status (ho:fH c st K) (now aK:Int) (dG:List Nk) (hn:now≤9223372036854775807):fH c (dm c st now aK dG).1 (K+3):=by
 refine ⟨ho.cf,ho.inv.dm c now aK dG,?_⟩;unfold dm;split
 ·exact ho.bnd.mono (by omega)
 ·exact ho.bnd.status c hn aK dG
theorem fH.pK (ho:fH c st K) (now n:Int) (hn:now≤9223372036854775807):fH c (dh c st now n).1 (K+3):=by
 refine ⟨ho.cf,ho.inv.dh c now n,?_⟩;unfold dh;split
 ·exact ho.bnd.mono (by omega)
 ·split
  ·exact ho.bnd.mono (by omega)
  ·exact (ho.bnd.pK ho.inv c hn n).mono (by omega)
end
end
section
open Go.RowKit Go.Shelf
theorem iY {lo hi:Int} {xs:List Int} (h:within lo hi xs=true):∀x∈xs,lo≤x∧x≤hi:=by
 intro x hx;unfold within at h;simp only[Bool.not_eq_true',List.any_eq_false] at h;have:=h x hx;unfold outside at this;simp at this;omega
def vw (a0 a1 a2 a3 a4 a5 a6:Int):Cf:=⟨a0,a1,a2,a3,a4,a5,a6⟩
theorem Fe {a0 a1 a2 a3 a4 a5 a6:Int} (h:dK a0 a1 a2 a3 a4 a5 a6=true):LD (vw a0 a1 a2 a3 a4 a5 a6):=by
 unfold dK at h;simp only[Bool.and_eq_true] at h;obtain ⟨h1,h2,h3,h4,h5,h6⟩:=h;exact ⟨iY h1 a0 (by simp),iY h2 a1 (by simp),iY h3 a2 (by simp),iY h5 a5 (by simp),iY h6 a6 (by simp)⟩
theorem Qs {w:World} {g:Nat} (c:Cf) (hb:au w g 143 (dO c (.slice none 0 0) (.slice none 0 0) dB)):dS w (·=g) (·=g) g c dB (.slice none 0 0) [] (.slice none 0 0) []:=
 ⟨hb,rfl,fun _ h=>h,fun k hk=>by rw[show k=g from hk];exact hb.lt,Eg _ _ _,fun k hk=>by simp[aS] at hk,fun i p hi=>by simp[dB] at hi,Eg _ _ _,fun k hk=>by simp[aS] at hk,fun i x hi=>by simp[dB] at hi,fun i j v hi _=>by simp at hi⟩
def YB (w:World) (a0 a1 a2 a3 a4 a5 a6:Int) (e:Ending) (w':World):Prop:=
 Below w.heap.size w w'∧
  ((dK a0 a1 a2 a3 a4 a5 a6=true∧∃s,e= .returned (.tuple #[.pointer (some ⟨s,0,none⟩),.int .i64 0])∧w.heap.size≤s∧yU w' (·=s) s (vw a0 a1 a2 a3 a4 a5 a6) dB∧fH (vw a0 a1 a2 a3 a4 a5 a6) dB 0)∨(dK a0 a1 a2 a3 a4 a5 a6=false∧e= .returned (.tuple #[.pointer none,.int .i64 2])))
theorem Qt (a0 a1 a2 a3 a4 a5 a6:Int) (w:World):Calls Tryz.prog 70 #[.agg (vW a0 a1 a2 a3 a4 a5 a6)] w (YB w a0 a1 a2 a3 a4 a5 a6):=by
 refine (Yk a0 a1 a2 a3 a4 a5 a6 w).mono ?_;rintro e w' ⟨hb,⟨h1,s,he,hs,hblk⟩|h⟩
 ·exact ⟨hb,.inl ⟨h1,s,he,hs,⟨_,_,_,_,_,Qs (vw a0 a1 a2 a3 a4 a5 a6) hblk⟩,⟨Fe h1,oL.new,jk.new⟩⟩⟩
 ·exact ⟨hb,.inr h⟩
end
end Go.Proofs.YtbhiklnljiehiaaGreat
