/- amsend: advance. -/
import Derived.Test.YtbhiklnljiehiaaGreatM1ax
import Derived.Test.YtbhiklnljiehiaaGreatM1ay
namespace Go.Proofs.YtbhiklnljiehiaaGreat
section
open Go.RowKit Go.Shelf
attribute [local go_sem] Oper.semAt_some
def qN (st:Sd) (x:Ou) (r:List Ou):Sd:= {st with out:=r,front:=st.front+aC x,first:=(st.first+1)%1024}
def pG (st:Sd) (x:List UInt8) (r:List (List UInt8)):Sd:= {st with queue:=r,front:=st.front-x.length,taken:=st.taken-x.length,done:=st.done+1}
theorem Ew {st:Sd} {x:Ou} {r:List Ou} (h:st.out=x::r) (ha:x.bY=true):fU (qN st x r)=fU st:=by
 unfold fU qN;simp only[h,bD,if_pos ha];have e1:(st.first+1)%1024+(bD r).1=(st.first+1)%1024+(bD r).1:=rfl;have e2:((st.first+1)%1024+(bD r).1)%1024=(st.first+((bD r).1+1))%1024:=by omega
 have e3:st.front+aC x+(bD r).2.1=st.front+((bD r).2.1+aC x):=by omega
 rw[e2,e3]
theorem IA {l:List Ou} (h:∀x r,l=x::r→x.bY=false):bD l=(0,0,l):=by
 cases l with
 |nil=>rfl
 |cons x r=>
  have:=h x r rfl;simp[bD,this]
theorem Ex {st:Sd} {x:List UInt8} {r:List (List UInt8)} (h:st.queue=x::r) (hf:x.length≤st.front) (ho:bD st.out=(0,0,st.out)) (_hfi:st.first<1024):fU (pG st x r)=fU st:=by
 unfold fU pG;simp only[h,ho,Nat.add_zero];have e:gG (x::r) st.front=((gG r (st.front-x.length)).1+1,(gG r (st.front-x.length)).2.1+x.length,(gG r (st.front-x.length)).2.2.1,(gG r (st.front-x.length)).2.2.2):=by
  rw[gG,if_pos hf]
 rw[e];simp only;have e1:st.taken-x.length-(gG r (st.front-x.length)).2.1=st.taken-((gG r (st.front-x.length)).2.1+x.length):=by omega
 have e2:st.done+1+(gG r (st.front-x.length)).1=st.done+((gG r (st.front-x.length)).1+1):=by omega
 rw[e1,e2]
theorem IB {st:Sd} (ho:bD st.out=(0,0,st.out)) (hq:∀x r,st.queue=x::r→st.front<x.length) (hfi:st.first<1024):fU st=st:=by
 unfold fU;simp only[ho,Nat.add_zero];have e:gG st.queue st.front=(0,0,st.front,st.queue):=by
  cases hqq:st.queue with
  |nil=>rfl
  |cons x r=>
   have:=hq x r hqq;rw[gG,if_neg (by omega)]
 rw[e];simp only[Nat.sub_zero,Nat.add_zero,Nat.mod_eq_of_lt hfi]
section
variable {D F:Nat→Prop} {g:Nat} {c:Cf} {st:Sd} {vq vo:Value} {vs os:List Value} {w:World}
theorem eZ.VG (h:eZ w D F g c st vq vs vo os) {x:Ou} {r:List Ou} {v:Value} {os':List Value} {CW:Value} (ho:st.out=x::r) (hos:os=v::os') (hq:eT w 0 138 CW r.length os') (hb:∀k,aX CW=some k→D k):
 eZ (w.setCell ⟨g,12,none⟩ CW) D F g c {st with out:=r} vq vs CW os':=by
 subst hos;have hbk:=h.blk.av 12 CW;have hlt:∀k,F k→k<(w.setCell ⟨g,12,none⟩ CW).heap.size:=fun k hk=>by
  have:=h.lt k hk;simpa[World.setCell] using this
 refine ⟨hbk,h.gd,h.sub,hlt,h.qr.store h.blk (by decide) _,h.qd,fun i p hi=> ?_,hq.store h.blk (by decide) _,hb,fun i y hi=> ?_,fun i j u hi hj=> ?_⟩
 ·obtain ⟨A,cc,e,hs,hf⟩:=h.qe i p hi;exact ⟨A,cc,e,hs.stay fun ad ea=>gB (fun e2=>(hf ad ea).2 (by
   have e3:ad.block=g:=e2;rw[e3];exact h.gd)),hf⟩
 ·obtain ⟨p,Ap,cp,vp,Ar,cr,e,hx⟩:=h.oe (i+1) y (by rw[ho];simpa using hi);exact ⟨p,Ap,cp,vp,Ar,cr,by simpa using e,hx.far h.gd (fun e=>h.blk.off hx.blk (by decide) e) 12 CW⟩
 ·have:=h.inj (i+1) (j+1) u (by simpa using hi) (by simpa using hj);omega
theorem eZ.VH (h:eZ w D F g c st vq vs vo os) {x:List UInt8} {r:List (List UInt8)} {v:Value} {vs':List Value} {KE:Value} (ho:st.queue=x::r) (hos:vs=v::vs') (hq:eT w 0 31 KE r.length vs') (hb:∀k,aX KE=some k→D k):
 eZ (w.setCell ⟨g,7,none⟩ KE) D F g c {st with queue:=r} KE vs' vo os:=by
 subst hos;have hbk:=h.blk.av 7 KE;have hlt:∀k,F k→k<(w.setCell ⟨g,7,none⟩ KE).heap.size:=fun k hk=>by
  have:=h.lt k hk;simpa[World.setCell] using this
 refine ⟨hbk,h.gd,h.sub,hlt,hq.store h.blk (by decide) _,hb,fun i p hi=> ?_,h.uz.store h.blk (by decide) _,h.od,fun i y hi=> ?_,h.inj⟩
 ·obtain ⟨A,cc,e,hs,hf⟩:=h.qe (i+1) p (by rw[ho];simpa using hi);exact ⟨A,cc,by simpa using e,hs.stay fun ad ea=>gB (fun e2=>(hf ad ea).2 (by
   have e3:ad.block=g:=e2;rw[e3];exact h.gd)),hf⟩
 ·obtain ⟨p,Ap,cp,vp,Ar,cr,e,hx⟩:=h.oe i y hi;exact ⟨p,Ap,cp,vp,Ar,cr,e,hx.far h.gd (fun e=>h.blk.off hx.blk (by decide) e) 7 KE⟩
def T7 (w:World) (D F:Nat→Prop) (g:Nat) (c:Cf) (st:Sd) (vq:Value) (vs:List Value) (E:Sd→Prop) (gk:Nat) (wr:World):Prop:=
 ∃st' CW os',gk=st'.out.length∧eZ wr D F g c st' vq vs CW os'∧Kept (fun k _=>D k) w wr∧fU st'=fU st∧st'.taken=st'.front+sizes st'.out∧st'.taken≤1048576∧st'.queue=st.queue∧st'.first<1024∧st'.done=st.done∧st'.out.length≤512∧E st'
def abI (w:World) (D F:Nat→Prop) (g:Nat) (c:Cf) (st:Sd) (vo:Value) (os:List Value) (gk:Nat) (wr:World):Prop:=
 ∃st' KE vs',gk=st'.queue.length∧eZ wr D F g c st' KE vs' vo os∧Kept (fun k _=>D k) w wr∧fU st'=fU st∧st'.front≤st'.taken∧st'.taken≤1048576∧st'.first<1024∧bD st'.out=(0,0,st'.out)∧st'.done+st'.queue.length≤9000000000000∧(∀s∈st'.queue,s.length≤9000)
set_option maxRecDepth 100000 in
set_option maxHeartbeats 4000000 in
theorem FT (h:eZ w D F g c st vq vs vo os) (hI:st.taken=st.front+sizes st.out) (ht:st.taken≤1048576) (hf:st.first<1024) (hw:st.out.length≤512) (hd:st.done≤1000000000000) (hql:st.queue.length≤1048576) (hsd:∀s∈st.queue,s.length≤9000):
 Calls Tryz.prog 147 #[.pointer (some ⟨g,0,none⟩)] w fun e w'=>e= .returned (.tuple #[])∧∃KE vs' CW os',eZ w' D F g c (fU st) KE vs' CW os'∧Kept (fun k _=>D k) w w':=by
 have HH:=ah h;have HI:=ah hI;have HSD:=ah hsd;clear h hI hsd;go_enter Tryz.func147,Tryz.ntmps147
 go_upto_block 0 with (fail)
 go_cut [] (fun wx=>∃gk,T7 w D F g c st vq vs (fun s=>bD s.out=(0,0,s.out)) gk wx)
 case first=>
  go_wp2_with fail;go_loopg [] st.out.length (fun gk wr=>T7 w D F g c st vq vs (fun _=>True) gk wr)
  case atStart=>exact ⟨st,vo,os,rfl,HH.out,Kept.refl _ w,rfl,HI.out,ht,rfl,hf,rfl,hw,trivial⟩
  case round=>
   obtain ⟨s1,XV,os1,rfl,hA,hk,had,htk,htl,hqq,hfi,hdn,hol,-⟩:=hrel;have xh:=hA.blk.cell 12;simp[eU] at xh;cases hout:s1.out with
   |nil=>
    have hR:T7 w D F g c st vq vs (fun s=>bD s.out=(0,0,s.out)) s1.out.length wr:=⟨s1,XV,os1,rfl,hA,hk,had,htk,htl,hqq,hfi,hdn,hol,by show bD s1.out=(0,0,s1.out);rw[hout];rfl⟩;have HR:=ah hR;obtain ⟨A,cc,rfl,hs⟩:=hA.Tg;have hc1:=hs.cap;have hc2:=hs.mx;rw[hout] at hc1 xh;simp only[List.length_nil] at hc1 xh;clear hA hk had htk hqq hdn hR hs hout;go_wp2;go_meet;exact ⟨_,HR.out⟩
   |cons x r=>
    obtain ⟨p,Ap,cp,vp,Ar,cr,he,ho⟩:=hA.oe 0 x (by rw[hout];rfl);obtain ⟨z0,z7,z8,z9,Qi,TX⟩:=ho.cells;have hq:=hA.uz;rw[hout] at hq;simp only[List.length_cons] at hq;obtain ⟨v,os2,hos⟩:∃v os2,os1=v::os2:=by
     cases hos:os1 with
     |nil=>rw[hos] at he;simp at he
     |cons v t=>exact ⟨v,t,rfl⟩
    subst hos;simp only[List.getElem?_cons_zero,Option.some.injEq] at he;subst he;obtain ⟨q,oo,cap,rfl,hcap1,hcap2⟩:∃q oo cap,XV= .slice (some ⟨q,oo,none⟩) (r.length+1) cap∧r.length+1≤cap∧cap≤9223372036854775807:=by
     rcases hq.2 with ⟨_,h0⟩|⟨q,oo,cap,cur,e,_,_,h1,h2,_⟩
     ·omega
     ·exact ⟨q,oo,cap,e,h1,by unfold maxLen at h2;omega⟩
    have yq:=hq.cells 0 _ rfl;simp only[Nat.add_zero] at yq;cases hac:x.bY with
    |false=>
     rw[hac] at z9;have hR:T7 w D F g c st vq vs (fun s=>bD s.out=(0,0,s.out)) s1.out.length wr:=⟨s1,_,_,rfl,hA,hk,had,htk,htl,hqq,hfi,hdn,hol,by show bD s1.out=(0,0,s1.out);rw[hout];exact IA fun y t e=>by cases e;exact hac⟩;have HR:=ah hR;clear hA hk had htk hqq hdn hR hq hout hac ho z0 z7 z8 Qi TX;go_wp2;go_meet;exact ⟨_,HR.out⟩
    |true=>
     rw[hac] at z9;have hsz:sizes s1.out=aC x+sizes r:=by rw[hout,jE]
     have hfs:s1.front+aC x≤1048576:=by omega
     have y9:=hA.blk.cell 9;have e9:=hA.blk.frozen 9;simp[eU] at y9;have hA1:=hA.oI 9 (.int .i64 ((s1.front:Int)+(aC x:Nat))) (st':= {s1 with front:=s1.front+aC x}) (by simp[eU]) rfl rfl;have hk1:=hk.setCell (p:=⟨g,9,none⟩) (fun _ _=>hA.gd) (.int .i64 ((s1.front:Int)+(aC x:Nat)));have HA1:=ah hA1.drew;have wL:=ah hk1.drew;have HQ:=ah hq;have rP:=ah hout;have FB:=ah hsz;have HAC:=ah hac;have LX:=ah had;have HQQ:=ah hqq;have HDN:=ah hdn;have J5:=ah htk;clear hA hk hA1 hk1 hq hout hsz hac had hqq hdn htk ho z0 z7 Qi TX;have hand:bits BinOp.and IntKind.i64 ((s1.first:Int)+1) 1023=(((s1.first+1)%1024:Nat):Int):=by rw[vU];omega
     go_wp2_with fail
     go_region
     generalize (wr.setCell ⟨g,9,none⟩ (.int .i64 ((s1.front:Int)+(aC x:Nat)))).drew=w1 at*;clear y9 xh e9 yq z8 z9;have xh:=HA1.out.blk.cell 12;have e12:=HA1.out.blk.frozen 12;simp[eU] at xh;have hq1:=HA1.out.uz;have hlo:({s1 with front:=s1.front+aC x}:Sd).out.length=r.length+1:=by show s1.out.length=_;rw[rP.out];rfl
     rw[hlo] at hq1;have HQ:=ah hq1;clear hq1 hlo;by_cases hc1:cap=1
     ·subst hc1;obtain rfl:r= []:=List.eq_nil_of_length_eq_zero (by omega);simp only[List.length_nil,Nat.zero_add] at*;have JD:eT w1 0 138 (.slice (some ⟨q,oo,none⟩) 0 0) 0 os2:=by
       have:=HQ.out.tail;rw[if_pos rfl] at this;exact this
      have hA2:=HA1.out.VG (x:=x) (r:= []) (v:= .pointer (some ⟨p,0,none⟩)) (os':=os2) (CW:= .slice (some ⟨q,oo,none⟩) 0 0) rP.out rfl JD (fun k hk=>HA1.out.od k hk);have Qo:=hA2.blk.cell 11;have e11:=hA2.blk.frozen 11;simp[eU] at Qo;have hA3:=hA2.oI 11 (.int .i64 (((s1.first+1)%1024:Nat):Int)) (st':=qN s1 x []) (by simp[eU,qN]) rfl rfl;have hk3:=(wL.out.setCell (p:=⟨g,12,none⟩) (fun _ _=>HA1.out.gd) (.slice (some ⟨q,oo,none⟩) 0 0)).setCell (p:=⟨g,11,none⟩) (fun _ _=>HA1.out.gd) (.int .i64 (((s1.first+1)%1024:Nat):Int));have yh:=ah hA3;have nJ:=ah hk3;have HAND:=ah hand;clear JD hA2 hA3 hk3 hand;go_upto_region 3 with (fail)
      generalize w1.setCell ⟨g,12,none⟩ (.slice (some ⟨q,oo,none⟩) 0 0)=w2 at*;have hand:=HAND.out;go_wp2
      go_roundg 0
      case measure=>have:=rP.out;simp[this]
      case rel=>
       exact ⟨qN s1 x [],_,os2,rfl,yh.out,nJ.out,(Ew rP.out HAC.out).trans LX.out,by have:=J5.out;have:=FB.out;simp only[qN];omega,htl,HQQ.out,Nat.mod_lt _ (by decide),HDN.out,by simp[qN],trivial⟩
     ·have hc2:¬cap=1:=hc1;have JD:eT w1 0 138 (.slice (some ⟨q,oo+1,none⟩) r.length (cap-1)) r.length os2:=by
       have:=HQ.out.tail;rw[if_neg hc2] at this;exact this
      have hA2:=HA1.out.VG (x:=x) (r:=r) (v:= .pointer (some ⟨p,0,none⟩)) (os':=os2) (CW:= .slice (some ⟨q,oo+1,none⟩) r.length (cap-1)) rP.out rfl JD (fun k hk=>HA1.out.od k hk);have Qo:=hA2.blk.cell 11;have e11:=hA2.blk.frozen 11;simp[eU] at Qo;have hA3:=hA2.oI 11 (.int .i64 (((s1.first+1)%1024:Nat):Int)) (st':=qN s1 x r) (by simp[eU,qN]) rfl rfl;have hk3:=(wL.out.setCell (p:=⟨g,12,none⟩) (fun _ _=>HA1.out.gd) (.slice (some ⟨q,oo+1,none⟩) r.length (cap-1))).setCell (p:=⟨g,11,none⟩) (fun _ _=>HA1.out.gd) (.int .i64 (((s1.first+1)%1024:Nat):Int));have yh:=ah hA3;have nJ:=ah hk3;have HAND:=ah hand;clear JD hA2 hA3 hk3 hand;go_upto_region 3 with (fail)
      generalize w1.setCell ⟨g,12,none⟩ (.slice (some ⟨q,oo+1,none⟩) r.length (cap-1))=w2 at*;have hand:=HAND.out;go_wp2
      go_roundg r.length
      case measure=>have:=rP.out;simp[this]
      case rel=>
       exact ⟨qN s1 x r,_,os2,rfl,yh.out,nJ.out,(Ew rP.out HAC.out).trans LX.out,by have:=J5.out;have:=FB.out;simp only[qN];omega,htl,HQQ.out,Nat.mod_lt _ (by decide),HDN.out,by have:=rP.out;rw[this] at hol;simp at hol;simp only[qN];omega,trivial⟩
 case rest=>
 obtain ⟨gk0,st1,XV,os1,-,hA1,hk1,abK,agA,abL,X0,abM,abN,agB,abO⟩:=hcut;have H1:abI w D F g c st XV os1 st1.queue.length wc:=⟨st1,vq,vs,rfl,hA1,hk1,abK,by omega,abL,abM,abO,by rw[X0,abN];omega,fun s hs=>HSD.out s (by rw[←X0];exact hs)⟩;have H1H:=ah H1;clear hA1 hk1 abK agA abL X0 abM abN agB abO H1 HH HI HSD hw hd hql ht hf;go_wp2_with fail;go_loopg [] st1.queue.length (fun gk wr=>abI w D F g c st XV os1 gk wr)
 case atStart=>exact H1H.out
 case round=>
  obtain ⟨s1,vq1,vs1,rfl,hA,hk,had,hft,htl,hfi,hao,hdn,hsd⟩:=hrel;have y7:=hA.blk.cell 7;have y9:=hA.blk.cell 9;simp[eU] at y7 y9;clear H1H;cases hout:s1.queue with
  |nil=>
   have hR:fU st=s1:=by rw[←had];exact IB hao (fun x r e=>by rw[hout] at e;cases e) hfi
   have HR:=ah hR;have HA:=ah hA;have HK:=ah hk;obtain ⟨A,cc,rfl,hs⟩:=hA.Ve;have hc1:=hs.sl.cap;have hc2:=hs.sl.mx;rw[hout] at hc1 y7;simp only[List.length_nil] at hc1 y7;clear hA hk had hR hs hout hao;go_wp2
   go_quiet (fail)
   go_wp2
   go_end0
   rw[HR.out];exact ⟨rfl,_,_,_,_,HA.out.drewN _,HK.out.iU _⟩
  |cons x r=>
   have hq:=hA.qr;rw[hout] at hq;simp only[List.length_cons] at hq;obtain ⟨v,vs2,hos⟩:∃v vs2,vs1=v::vs2:=by
    cases hos:vs1 with
    |nil=>rw[hos] at hq;have:=hq.1;simp at this
    |cons v t=>exact ⟨v,t,rfl⟩
   subst hos;obtain ⟨Ax,cx,hex,hsx,_⟩:=hA.qe 0 x (by rw[hout];rfl);simp only[List.getElem?_cons_zero,Option.some.injEq] at hex;subst hex;have hxc:=hsx.cap;have hxm:=hsx.mx;have hx9:=hsd x (by rw[hout];simp);obtain ⟨q,oo,cap,rfl,hcap1,hcap2⟩:∃q oo cap,vq1= .slice (some ⟨q,oo,none⟩) (r.length+1) cap∧r.length+1≤cap∧cap≤9223372036854775807:=by
    rcases hq.2 with ⟨_,h0⟩|⟨q,oo,cap,cur,e,_,_,h1,h2,_⟩
    ·omega
    ·exact ⟨q,oo,cap,e,h1,by unfold maxLen at h2;omega⟩
   have yq:=hq.cells 0 _ rfl;simp only[Nat.add_zero] at yq;by_cases hge:x.length≤s1.front
   ·have d1:decide (x.length≤s1.front)=true:=decide_eq_true hge;have HAO:=ah hao;have LX:=ah had;have agC:=ah hsd;have rP:=ah hout;have HDN:=ah hdn;have am8:s1.done+(r.length+1)≤9000000000000:=by rw[hout] at hdn;simpa using hdn
    have HA:=ah hA;have HK:=ah hk;clear hA hk had hao hsd hout hdn hq hsx;go_wp2_with fail
    go_quiet (fail)
    go_wp2_with fail;have Iy:=HA.out.drewN nq;have hk0:=HK.out.iU nq;clear y7 y9 yq;generalize wr.drewN nq=w0 at*;have y9:=Iy.blk.cell 9;have FU:=Iy.blk.cell 10;have e9:=Iy.blk.frozen 9;have e10:=Iy.blk.frozen 10;simp[eU] at y9 FU;have hA1:=((Iy.oI 9 (.int .i64 ((s1.front:Int)-(x.length:Nat))) (st':= {s1 with front:=s1.front-x.length}) (by simp[eU];omega) rfl rfl).oI 10 (.int .i64 ((s1.taken:Int)-(x.length:Nat))) (st':= {s1 with front:=s1.front-x.length,taken:=s1.taken-x.length}) (by simp[eU];omega) rfl rfl).drew;have hk1:=((hk0.setCell (p:=⟨g,9,none⟩) (fun _ _=>Iy.gd) (.int .i64 ((s1.front:Int)-(x.length:Nat)))).setCell (p:=⟨g,10,none⟩) (fun _ _=>Iy.gd) (.int .i64 ((s1.taken:Int)-(x.length:Nat)))).drew;have HA1:=ah hA1;have wL:=ah hk1;clear Iy hk0 hA1 hk1 HA HK;refine bJ (fun w'=>w'.cell? ⟨g,9,none⟩=some (.int .i64 (s1.front:Nat))∧w'.cell? ⟨g,10,none⟩=some (.int .i64 (s1.taken:Nat))) [16,19] (by kernel_rfl) ?_;have hHeld:w0.drew.cell? ⟨g,9,none⟩=some (.int .i64 (s1.front:Nat))∧w0.drew.cell? ⟨g,10,none⟩=some (.int .i64 (s1.taken:Nat)):=⟨y9,FU⟩;refine aT 0 rfl hHeld ?_
    try simp only[Act.put,aD,aF,ay,aA,aB]
    refine aT 1 rfl hHeld ?_
    try simp only[Act.put,aD,aF,aG,ay,aA,aB]
    refine aT 2 rfl hHeld ?_
    try simp only[Act.put,aD,aF,aG,ay,aA,aB]
    refine aT 3 rfl hHeld ?_
    try simp only[Act.put,aD,aF,aG,ay,aA,aB]
    refine aT 4 rfl hHeld ?_
    try simp only[Act.put,aD,aF,aG,ay,aA,aB]
    refine iw [16,19] 5 ?_ rfl (Or.inl ⟨by rfl,?_⟩) hHeld ?_;rotate_left
    ·intro w' hSw;obtain ⟨hS1,hS2⟩:=hSw;go_simp
     try with_reducible rfl
    try simp only[Act.put,aD,aF,aG,ay,aA,aB]
    refine aT 6 rfl hHeld ?_
    try simp only[Act.put,aD,aF,aG,ay,aA,aB]
    refine aT 7 rfl hHeld ?_
    try simp only[Act.put,aD,aF,aG,ay,aA,aB]
    refine aT 8 rfl hHeld ?_
    try simp only[Act.put,aD,aF,aG,ay,aA,aB]
    refine aT 9 rfl hHeld ?_
    try simp only[Act.put,aD,aF,aG,ay,aA,aB]
    refine aT 10 rfl hHeld ?_
    try simp only[Act.put,aD,aF,aG,ay,aA,aB]
    refine iw [16,19] 11 ?_ rfl (Or.inl ⟨by rfl,?_⟩) hHeld ?_;rotate_left
    ·intro w' hSw;obtain ⟨hS1,hS2⟩:=hSw;go_simp
     try with_reducible rfl
    try simp only[Act.put,aD,aF,aG,ay,aA,aB]
    refine aT 12 rfl hHeld ?_
    try simp only[Act.put,aD,aF,aG,ay,aA,aB]
    refine aT 13 rfl hHeld ?_
    try simp only[Act.put,aD,aF,aG,ay,aA,aB]
    refine aT 14 rfl hHeld ?_
    try simp only[Act.put,aD,aF,aG,ay,aA,aB]
    refine aT 15 rfl hHeld ?_
    try simp only[Act.put,aD,aF,aG,ay,aA,aB]
    refine bW (i:=16) rfl (by kernel_rfl) (by kernel_rfl) (by rfl) (fun K hK=> ?_);go_simp;refine hK _ _ ?_;clear hK K
    try simp only[Act.put,aD,aF,aG,ay,aA,aB]
    refine sU 17 rfl ?_
    try simp only[Act.put,aD,aF,aG,ay,aA,aB]
    refine sU 18 rfl ?_
    try simp only[Act.put,aD,aF,aG,ay,aA,aB]
    refine bW (i:=19) rfl (by kernel_rfl) (by kernel_rfl) (by rfl) (fun K hK=> ?_);go_simp;refine hK _ _ ?_;clear hK K
    try simp only[Act.put,aD,aF,aG,ay,aA,aB]
    refine bI (by kernel_rfl) ?_ _;rw[IntWalk.i64_in ((s1.front:Int)-(x.length:Nat)) (by omega),IntWalk.i64_in ((s1.taken:Int)-(x.length:Nat)) (by omega)];generalize ((w0.setCell ⟨g,9,none⟩ (.int .i64 ((s1.front:Int)-(x.length:Nat)))).setCell ⟨g,10,none⟩ (.int .i64 ((s1.taken:Int)-(x.length:Nat)))).drew=w1 at*;clear y9 FU e9 e10 hHeld;have y7:=HA1.out.blk.cell 7;have e7:=HA1.out.blk.frozen 7;simp[eU] at y7;have hq1:=HA1.out.qr;have hlo:({s1 with front:=s1.front-x.length,taken:=s1.taken-x.length}:Sd).queue.length=r.length+1:=by show s1.queue.length=_;rw[rP.out];rfl
    rw[hlo] at hq1;have HQ:=ah hq1;clear hq1 hlo;by_cases hc1:cap=1
    ·subst hc1;obtain rfl:r= []:=List.eq_nil_of_length_eq_zero (by omega);simp only[List.length_nil,Nat.zero_add] at*;have JD:eT w1 0 31 (.slice (some ⟨q,oo,none⟩) 0 0) 0 vs2:=by
      have:=HQ.out.tail;rw[if_pos rfl] at this;exact this
     have hA2:=HA1.out.VH (x:=x) (r:= []) (v:= .slice Ax x.length cx) (vs':=vs2) (KE:= .slice (some ⟨q,oo,none⟩) 0 0) rP.out rfl JD (fun k hk=>HA1.out.qd k hk);have y8:=hA2.blk.cell 8;have e8:=hA2.blk.frozen 8;simp[eU] at y8;have hA3:=hA2.oI 8 (.int .i64 ((s1.done:Int)+1)) (st':=pG s1 x []) (by simp[eU,pG]) rfl rfl;have hk3:=(wL.out.setCell (p:=⟨g,7,none⟩) (fun _ _=>HA1.out.gd) (.slice (some ⟨q,oo,none⟩) 0 0)).setCell (p:=⟨g,8,none⟩) (fun _ _=>HA1.out.gd) (.int .i64 ((s1.done:Int)+1));have yh:=ah hA3;have nJ:=ah hk3;clear JD hA2 hA3 hk3;go_upto_region 8 with (fail)
     generalize w1.setCell ⟨g,7,none⟩ (.slice (some ⟨q,oo,none⟩) 0 0)=w2 at*;go_wp2
     go_roundg 0
     case measure=>have:=rP.out;simp[this]
     case rel=>
      exact ⟨pG s1 x [],_,vs2,rfl,yh.out,nJ.out,(Ex rP.out hge HAO.out hfi).trans LX.out,by simp only[pG];omega,by simp only[pG];omega,hfi,HAO.out,by show s1.done+1+0≤_;omega,fun s hs=>by simp[pG] at hs⟩
    ·have hc2:¬cap=1:=hc1;have JD:eT w1 0 31 (.slice (some ⟨q,oo+1,none⟩) r.length (cap-1)) r.length vs2:=by
      have:=HQ.out.tail;rw[if_neg hc2] at this;exact this
     have hA2:=HA1.out.VH (x:=x) (r:=r) (v:= .slice Ax x.length cx) (vs':=vs2) (KE:= .slice (some ⟨q,oo+1,none⟩) r.length (cap-1)) rP.out rfl JD (fun k hk=>HA1.out.qd k hk);have y8:=hA2.blk.cell 8;have e8:=hA2.blk.frozen 8;simp[eU] at y8;have hA3:=hA2.oI 8 (.int .i64 ((s1.done:Int)+1)) (st':=pG s1 x r) (by simp[eU,pG]) rfl rfl;have hk3:=(wL.out.setCell (p:=⟨g,7,none⟩) (fun _ _=>HA1.out.gd) (.slice (some ⟨q,oo+1,none⟩) r.length (cap-1))).setCell (p:=⟨g,8,none⟩) (fun _ _=>HA1.out.gd) (.int .i64 ((s1.done:Int)+1));have yh:=ah hA3;have nJ:=ah hk3;clear JD hA2 hA3 hk3;go_upto_region 8 with (fail)
     generalize w1.setCell ⟨g,7,none⟩ (.slice (some ⟨q,oo+1,none⟩) r.length (cap-1))=w2 at*;go_wp2
     go_roundg r.length
     case measure=>have:=rP.out;simp[this]
     case rel=>
      exact ⟨pG s1 x r,_,vs2,rfl,yh.out,nJ.out,(Ex rP.out hge HAO.out hfi).trans LX.out,by simp only[pG];omega,by simp only[pG];omega,hfi,HAO.out,by show s1.done+1+r.length≤_;omega,fun s hs=>agC.out s (by rw[rP.out];exact List.mem_cons_of_mem _ hs)⟩
   ·have d1:decide (x.length≤s1.front)=false:=decide_eq_false hge;have hR:fU st=s1:=by rw[←had];exact IB hao (fun y t e=>by rw[hout] at e;cases e;omega) hfi
    have HR:=ah hR;have HA:=ah hA;have HK:=ah hk;clear hA hk had hR hout hao hq hsx;go_wp2_with fail
    go_quiet (fail)
    go_wp2
    go_end0
    rw[HR.out];exact ⟨rfl,_,_,_,_,HA.out.drewN _,HK.out.iU _⟩
end
end
section
open Go.RowKit Go.Shelf
attribute [local go_sem] Oper.semAt_some
section
variable {D F:Nat→Prop} {g:Nat} {c:Cf} {st:Sd} {vq vo:Value} {vs os:List Value} {w:World}
def Ql (w:World) (D F:Nat→Prop) (g:Nat) (c:Cf) (R:Sd × Int) (e:Ending) (w':World):Prop:=e= .returned (.int .i64 R.2)∧mg w D F g c R.1 w'
set_option maxRecDepth 10000 in
set_option maxHeartbeats 1000000 in
theorem Iw (h:eZ w D F g c st vq vs vo os) (ht:Pf c) (hsum:dx st≤1048576) (hql:st.queue.length≤1048576) {A:Option Addr} {n cc:Nat} {x:List UInt8} (hx:Sl w w.heap.size A n cc (bQ x)):
 Calls Tryz.prog 58 #[.pointer (some ⟨g,0,none⟩),.slice A n cc] w (Ql w D F g c (aW c st x)):=by
 have hch:=jG h ht.timer.1;have qi:=ah hch;have HH:=ah h;have hxl:x.length=n:=by have:=hx.len;simpa using this
 have hcap:=hx.cap;have hmx:=hx.mx;clear hch;cases hf:st.failed with
 |true=>
  rw[hf] at qi;have hfin:aW c st x=(st,8):=by unfold aW;rw[if_pos hf]
  rw[hfin];simp only[if_pos] at qi;clear h hf hfin;go_enter Tryz.func58,Tryz.ntmps58;go_wp2_with fail;refine qi.out.mono ?_;rintro e1 w1 ⟨rfl,rfl⟩;go_wp2;go_ret;exact ⟨rfl,HH.out.o (Kept.refl _ w)⟩
 |false=>
  rw[hf] at qi;simp only[Bool.false_eq_true,if_false] at qi;by_cases h0:n=0
  ·have hfin:aW c st x=(st,2):=by unfold aW;rw[if_neg (by simp[hf]),if_pos (.inl (by omega))]
   rw[hfin];have d0:((n:Int)==0)=true:=by simp;omega
   have H0:=ah h0;clear h hf hfin h0 hx hxl;go_enter Tryz.func58,Tryz.ntmps58;go_wp2_with fail;refine qi.out.mono ?_;rintro e1 w1 ⟨rfl,rfl⟩;go_wp2;go_ret;exact ⟨rfl,HH.out.o (Kept.refl _ w)⟩
  have d0:((n:Int)==0)=false:=by simp;omega
  by_cases h9:9000<n
  ·have hfin:aW c st x=(st,2):=by unfold aW;rw[if_neg (by simp[hf]),if_pos (.inr (by omega))]
   rw[hfin];have d1:decide ((9000:Int)<n)=true:=by simp;omega
   clear h hf hfin hx hxl;go_enter Tryz.func58,Tryz.ntmps58;go_wp2_with fail;refine qi.out.mono ?_;rintro e1 w1 ⟨rfl,rfl⟩;go_wp2;go_ret;exact ⟨rfl,HH.out.o (Kept.refl _ w)⟩
  have d1:decide ((9000:Int)<n)=false:=by simp;omega
  have Lu:=fun k=>Ea (h.drewN k) hsum
  have HHE:=ah Lu;have y6:=h.blk.cell 6;simp[eU] at y6;by_cases hfu:c.cap<(dx st:Int)+(n:Int)
  ·have hfin:aW c st x=(st,7):=by unfold aW;rw[if_neg (by simp[hf]),if_neg (by omega),if_pos (by omega)]
   rw[hfin];have d2:decide (c.cap<(dx st:Int)+(n:Int))=true:=decide_eq_true hfu;clear h hf hfin hx hxl Lu;generalize dx st=H at*;have hwr:IntKind.i64.wrap ((H:Int)+n)=(H:Int)+n:=IntWalk.i64_in _ (by omega);go_enter Tryz.func58,Tryz.ntmps58;go_wp2_with fail;refine qi.out.mono ?_;rintro e1 w1 ⟨rfl,rfl⟩;go_wp2_with fail
   go_quiet ((go_at_call 102;exact Calls.quiet_of_same ((HHE.out _).mono fun _ _ hh=>⟨hh.1,hh.2.symm⟩)))
   go_wp2;go_ret;exact ⟨rfl,(HH.out.o (Kept.refl _ w)).drewN _⟩
  ·have hfin:aW c st x=(eG st x,0):=by unfold aW;rw[if_neg (by simp[hf]),if_neg (by omega),if_neg (by omega)]
   rw[hfin];have d2:decide (c.cap<(dx st:Int)+(n:Int))=false:=decide_eq_false hfu;generalize dx st=H at*;have hwr:IntKind.i64.wrap ((H:Int)+n)=(H:Int)+n:=IntWalk.i64_in _ (by omega);obtain ⟨j0,hj0,hm0,hm1,hm2⟩:=info_parts nN;have hcl:=fun k=>mq A n cc x (w.drewN k) (hx.drewN k) (by omega)
   have ug:=ah hcl;have y7:=h.blk.cell 7;have f7:=h.blk.frozen 7;simp[eU] at y7;obtain ⟨Av,cv,rfl,hsv⟩:=h.qr.sl;have hgl:=h.blk.lt;clear h hf hfin Lu hcl hsv;go_enter Tryz.func58,Tryz.ntmps58;go_wp2_with fail;refine qi.out.mono ?_;rintro e1 w1 ⟨rfl,rfl⟩;go_wp2_with fail
   go_quiet ((go_at_call 102;exact Calls.quiet_of_same ((HHE.out _).mono fun _ _ hh=>⟨hh.1,hh.2.symm⟩)))
   go_wp2_with fail;have Iy:=HH.out.drewN (nq);have hk0:Kept (fun k _=>D k) w (w.drewN nq):=(Kept.refl _ w).iU nq;have hcl0:Calls Tryz.prog 103 #[.slice A n cc] (w.drewN nq).drew (qZ (w.drewN nq).heap.size 5 (w.drewN nq).drew n (bQ x)):=ug.out (nq+1);have hz0:=ah (show (w.drewN nq).heap.size=w.heap.size from rfl);generalize w.drewN nq=w0 at*;have x0:=Iy.blk.cell 7;have f0:=Iy.blk.frozen 7;simp[eU] at x0;have XW:g<w0.heap.size:=Iy.blk.lt;have XX:=ah Iy;have agy:=ah hcl0;have ZI:=ah hk0;have HXL:=ah hxl;clear Iy hcl0 hk0 y6 y7 f7 hx ug HHE qi hxl
   go_region_law (first
    |((refine Dg (by rfl) _ _ 37 (by rfl) j0 (.slice none 0 0) 24 qH hj0 hm0 hm1 hm2 rfl (by rfl) ((XX.out.qr.drew.below hb1 (aN)).alloc (.cells #[.slice A1 n c1] 31)) ⟨w1.heap.size,0,none⟩ 1 (.slice A1 n c1) (by rfl) (World.news_of_block (heap_alloc_new w1 _) 0 _ rfl) rfl (by unfold maxLen;omega) (by omega) (by simp) ?_;intro v5 w5 hown5 cB Xw;obtain ⟨A5,c5,rfl,hs5⟩:=hown5.sl;have pW:=((XX.out.blk.drew.below hb1 XX.out.blk.lt).alloc (.cells #[.slice A1 n c1] 31)).grown cB (fun e=>((XX.out.qr.drew.below hb1 (aN)).alloc (.cells #[.slice A1 n c1] 31)).xM ((XX.out.blk.drew.below hb1 XX.out.blk.lt).alloc (.cells #[.slice A1 n c1] 31)) (by decide) e.symm);have q2:=pW.cell 7;have q3:=pW.frozen 7;simp[eU] at q2))
    |((go_simp;(with_reducible refine agy.out.mono ?_);rintro e1 w1 ⟨v1,rfl,hv1,hb1⟩;obtain ⟨A1,c1,rfl,hs1,_⟩:=aS hv1;have Qm:=(hb1.cell (p:=⟨g,7,none⟩) XW).trans x0;have XY:g<w1.heap.size:=Nat.lt_of_lt_of_le XW hb1.size;have am5:=(World.cell?_alloc_lt w1 (.cells #[.slice A1 n c1] 31) ⟨g,7,none⟩ XY).trans Qm;have f0':=(hb1.frozen (p:=⟨g,7,none⟩) XW).trans f0)))
   all_goals
    go_wp2;go_ret;have TY:=HXL.out;subst TY;exact ⟨rfl,mg.step (ZI.out.iU 1) (dm.refl _ _) (dm.refl _ _) (eZ.iK (w:=w0.drewN 1) (XX.out.drewN 1) (by omega) hb1 hv1 hown5 cB Xw)⟩
end
end
section
open Go.RowKit Go.Shelf
attribute [local go_sem] Oper.semAt_some
def Dw (c:Cf) (m:Ou→List (Nat × Nat)) (st:Sd) (k:Nat):Sd:= {st with out:=(aY c m k st.out).1,failed:=st.failed||(aY c m k st.out).2}
theorem Qn (c:Cf) (m:Ou→List (Nat × Nat)) (st:Sd):Dw c m st 0=st:=by
 obtain ⟨q,d,f,t,fi,o,p,b,po,wa,ex,ow,fa,no⟩:=st;simp[Dw,aY]
theorem LW (c:Cf) (m:Ou→List (Nat × Nat)) (st:Sd) (k:Nat):(Dw c m st k).out[k]? =st.out[k]? :=by
 show (aY c m k st.out).1[k]? =st.out[k]?
 rw[jN,if_neg (Nat.lt_irrefl k)]
theorem Iz {c:Cf} {m:Ou→List (Nat × Nat)} {st:Sd} {k:Nat} {x:Ou} (hx:st.out[k]? =some x):Dw c m st (k+1)=mK (Dw c m st k) k (dF c m x):=by
 have h1:(aY c m (k+1) st.out).1=(aY c m k st.out).1.set k (dF c m x).1:=by
  apply List.ext_getElem?;intro i;rw[jN,List.getElem?_set,jN,lH];have hk:=(List.getElem?_eq_some_iff.1 hx).1;by_cases hik:k=i
  ·subst hik;rw[if_pos (by omega),if_pos rfl,if_pos hk,hx];rfl
  ·rw[if_neg hik];by_cases hlt:i<k
   ·rw[if_pos (by omega),if_pos hlt]
   ·rw[if_neg (by omega),if_neg hlt]
 have h2:(aY c m (k+1) st.out).2=((aY c m k st.out).2||(dF c m x).2):=by
  simp only[aY];rw[List.take_add_one,hx];simp
 unfold Dw mK;rw[h1,h2,Bool.or_assoc]
theorem Nh {c:Cf} {m:Ou→List (Nat × Nat)} {st:Sd} {k:Nat} {x:Ou} (hx:st.out[k]? =some x) (ha:x.bY=true):Dw c m st (k+1)=Dw c m st k:=by
 have hg:=LW c m st k;rw[hx] at hg;rw[Iz hx];have e:dF c m x=(x,false):=by unfold dF;rw[if_pos ha]
 rw[e];unfold mK;have h3:(Dw c m st k).out.set k x=(Dw c m st k).out:=by
  apply List.ext_getElem?;intro i;rw[List.getElem?_set];split
  ·rename_i hik;subst hik;split
   ·exact hg.symm
   ·rename_i hl;exact (List.getElem?_eq_none (by omega)).symm
  ·rfl
 simp only[h3,Bool.or_false]
section
variable {D F:Nat→Prop} {g:Nat} {c:Cf} {st:Sd} {vq vo:Value} {vs os:List Value} {w:World}
theorem eZ.confirm (h:eZ w D F g c st vq vs vo os) {i p:Nat} {x:Ou} {Ap Ar:Option Addr} {cp cr:Nat} {vp:List Value} (hx:st.out[i]? =some x) (hp:os[i]? =some (.pointer (some ⟨p,0,none⟩))) (hO:iH w D F p x Ap cp vp Ar cr):
 eZ ((w.setCell ⟨p,9,none⟩ (.bool true)).setCell ⟨p,10,none⟩ (.slice none 0 0)) D F g c (mK st i ({x with bY:=true,pend:= []},false)) vq vs vo os∧Kept (fun k _=>D k) w ((w.setCell ⟨p,9,none⟩ (.bool true)).setCell ⟨p,10,none⟩ (.slice none 0 0)):=by
 obtain ⟨h1,o1⟩:=h.Ks hx hp hO 9 (.bool true) (z:= {x with bY:=true}) (by simp[Hg,aC]) rfl hO.rs hO.rf;have hil:=(List.getElem?_eq_some_iff.1 hx).1;have hx1:(st.out.set i {x with bY:=true})[i]? =some {x with bY:=true}:=List.getElem?_set_self hil;obtain ⟨h2,_⟩:=h1.Ks hx1 hp o1 10 (.slice none 0 0) (z:= {x with bY:=true,pend:= []}) (LQ:=none) (M5:=0) (by simp[Hg,aC]) rfl (eH.nil _) (fun ad e=>by cases e);have e:mK st i ({x with bY:=true,pend:= []},false)= {st with out:=(st.out.set i {x with bY:=true}).set i {x with bY:=true,pend:= []}}:=by
  unfold mK;rw[List.set_set,Bool.or_false]
 rw[e];exact ⟨h2,((Kept.refl _ w).setCell (p:=⟨p,9,none⟩) (fun _ _=>hO.d) _).setCell (p:=⟨p,10,none⟩) (fun _ _=>hO.d) _⟩
theorem eZ.yg {w0:World} (h:eZ w0 D F g c st vq vs vo os) {b:Nat} (hF:∀k,F k→k<w.heap.size) (hb:w.heap.size≤b) (j:Nat) (u:Value):eZ (w0.setCell ⟨b,j,none⟩ u) D F g c st vq vs vo os:=
 h.stay fun k hk=>gB (fun e=>by have:=hF k hk;have e2:k=b:=e;omega)
theorem Kept.yg {M:Nat→Obj→Prop} {w0:World} (hk:Kept M w w0) {b:Nat} (hb:w.heap.size≤b) (j:Nat) (u:Value):Kept M w (w0.setCell ⟨b,j,none⟩ u):=
 ⟨hk.os,hk.tape,hk.output,Nat.le_trans hk.size (by simp[World.setCell]),fun k o ho hm=>(gB (fun e=>by have:=(Array.getElem?_eq_some_iff.1 ho).1;have e2:k=b:=e;omega)).trans (hk.same k o ho hm)⟩
structure T6 (w:World) (g:Nat) (aJ:Int) (A:Option Addr) (n cc:Nat) (w0:World):Prop where
 b:Below w.heap.size w w0
 s:au w0 w.heap.size 49 #[.pointer (some ⟨g,0,none⟩)]
 r:au w0 (w.heap.size+1) 133 #[.int .i64 aJ,.slice A n cc]
 e:au w0 (w.heap.size+1+1) 53 #[.int .i64 0]
 z:w0.heap.size=w.heap.size+3
theorem T6.mk' (w:World) (g:Nat) (aJ:Int) (A:Option Addr) (n cc:Nat):T6 w g aJ A n cc (((w.alloc (.cells #[.pointer (some ⟨g,0,none⟩)] 49)).alloc (.cells #[.int .i64 aJ,.slice A n cc] 133)).alloc (.cells #[.int .i64 0] 53)):=by
 have h1:=((au.new w 49 #[.pointer (some ⟨g,0,none⟩)]).alloc (.cells #[.int .i64 aJ,.slice A n cc] 133)).alloc (.cells #[.int .i64 0] 53);have h2:=(au.new (w.alloc (.cells #[.pointer (some ⟨g,0,none⟩)] 49)) 133 #[.int .i64 aJ,.slice A n cc]).alloc (.cells #[.int .i64 0] 53);have h3:=au.new ((w.alloc (.cells #[.pointer (some ⟨g,0,none⟩)] 49)).alloc (.cells #[.int .i64 aJ,.slice A n cc] 133)) 53 #[.int .i64 0];simp only[World.size_alloc] at h2 h3;exact ⟨(((Below.refl _ w).alloc (aN) _).alloc (by simp) _).alloc (by simp;omega) _,h1,h2,h3,by simp⟩
set_option maxRecDepth 100000 in
set_option maxHeartbeats 1000000 in
theorem tX (h:eZ w D F g c st vq vs vo os) (ht:1≤c.timer) (now aJ:Int) (A:Option Addr) (n cc:Nat) (dZ:List Nk) (hN:bX w A n cc dZ) (hx:st.failed=true∨bS aJ dZ=false):
 Calls Tryz.prog 93 #[.pointer (some ⟨g,0,none⟩),.int .i64 now,.agg #[.int .i64 aJ,.slice A n cc]] w (Ql w D F g c (dL c st now aJ dZ)):=by
 have HW:=ah (T6.mk' w g aJ A n cc);have HH:=ah h;have HN:=ah hN
 go_enter_defers Tryz.func93,Tryz.ntmps93
 clear h hN;go_wp2_with fail;generalize ((w.alloc (.cells #[.pointer (some ⟨g,0,none⟩)] 49)).alloc (.cells #[.int .i64 aJ,.slice A n cc] 133)).alloc (.cells #[.int .i64 0] 53)=w0 at*;have hA:=HH.out.below HW.out.b;have hch:=jG hA ht;have e0:=HW.out.e.cell 0;have e1:=HW.out.e.frozen 0;have r0:=HW.out.r.cell 0;have r1:=HW.out.r.cell 1;simp at e0 r0 r1;have HA:=ah hA;have qi:=ah hch;clear hA hch;refine qi.out.mono ?_;cases hf:st.failed with
 |true=>
  have hfin:dL c st now aJ dZ=(st,8):=by unfold dL;rw[if_pos hf]
  have jJ:=ah hfin;clear hfin hf hx;simp only[if_true];rintro e1 w1 ⟨rfl,rfl⟩;go_wp2;have q:=((HW.out.e.av 0 (.int .i64 8)).av 0 (.int .i64 8)).cell 0;simp at q;refine ⟨.int .i64 8,by simp[results,Tryz.results93,go_sem,q],?_⟩;rw[jJ.out];have hz:=HW.out.z;exact ⟨rfl,((HA.out.yg HH.out.lt (b:=w.heap.size+1+1) (by omega) 0 _).yg HH.out.lt (b:=w.heap.size+1+1) (by omega) 0 _).o (((Kept.dP HW.out.b).yg (b:=w.heap.size+1+1) (by omega) 0 _).yg (b:=w.heap.size+1+1) (by omega) 0 _)⟩
 |false=>
  have hv:bS aJ dZ=false:=by
   rcases hx with e|e
   ·rw[hf] at e;cases e
   ·exact e
  have hfin:dL c st now aJ dZ=(st,2):=by unfold dL nP;rw[if_neg (by simp[hf]),if_pos hv]
  have jJ:=ah hfin;have hva:=kV (w0.setCell ⟨w.heap.size+1+1,0,none⟩ (.int .i64 0)) aJ A n cc dZ (HN.out.below (HW.out.b.setCell (p:=⟨w.heap.size+1+1,0,none⟩) (by simp;omega) _));rw[hv] at hva;have LB:=ah hva;clear hfin hf hx hv hva;simp only[Bool.false_eq_true,if_false];rintro e1 w1 ⟨rfl,rfl⟩;go_wp2_with fail;refine LB.out.mono ?_;rintro e2 w2 ⟨rfl,hb2⟩;have hE2:=(HW.out.e.av 0 (.int .i64 0)).below hb2 (by have:=HW.out.e.lt;simpa[World.setCell] using this);have c2:=hE2.cell 0;have f2:=hE2.frozen 0;simp at c2;have HE2:=ah hE2;have HB2:=ah hb2;clear hE2 hb2;go_wp2;have q:=(HE2.out.av 0 (.int .i64 2)).cell 0;simp at q;refine ⟨.int .i64 2,by simp[results,Tryz.results93,go_sem,q],?_⟩;rw[jJ.out];exact ⟨rfl,(((HA.out.yg HH.out.lt (b:=w.heap.size+1+1) (by omega) 0 _).below HB2.out).yg HH.out.lt (b:=w.heap.size+1+1) (by omega) 0 _).o ((((Kept.dP HW.out.b).yg (b:=w.heap.size+1+1) (by omega) 0 _).trans (Kept.dP HB2.out)).yg (b:=w.heap.size+1+1) (by omega) 0 _)⟩
end
end
end Go.Proofs.YtbhiklnljiehiaaGreat
