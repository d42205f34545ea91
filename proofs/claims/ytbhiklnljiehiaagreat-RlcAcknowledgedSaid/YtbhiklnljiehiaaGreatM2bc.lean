/- amsend: advance. -/
import Derived.Test.YtbhiklnljiehiaaGreatM2ax
import Derived.Test.YtbhiklnljiehiaaGreatM2ay
namespace Go.Proofs.YtbhiklnljiehiaaGreat
section
open Go.RowKit Go.Shelf
attribute [local go_sem] Oper.semAt_some
def oZ (st:Sd) (x:Ou) (r:List Ou):Sd:= {st with out:=r,front:=st.front+aG x,first:=(st.first+1)%1024}
def nJ (st:Sd) (x:List UInt8) (r:List (List UInt8)):Sd:= {st with queue:=r,front:=st.front-x.length,taken:=st.taken-x.length,done:=st.done+1}
theorem C4 {st:Sd} {x:Ou} {r:List Ou} (h:st.out=x::r) (ha:x.aX=true):eD (oZ st x r)=eD st:=by
 unfold eD oZ;simp only[h,aQ,if_pos ha];have e1:(st.first+1)%1024+(aQ r).1=(st.first+1)%1024+(aQ r).1:=rfl;have e2:((st.first+1)%1024+(aQ r).1)%1024=(st.first+((aQ r).1+1))%1024:=by omega
 have e3:st.front+aG x+(aQ r).2.1=st.front+((aQ r).2.1+aG x):=by omega
 rw[e2,e3]
theorem Gz {l:List Ou} (h:∀x r,l=x::r→x.aX=false):aQ l=(0,0,l):=by
 cases l with
 |nil=>rfl
 |cons x r=>
  have:=h x r rfl;simp[aQ,this]
theorem C5 {st:Sd} {x:List UInt8} {r:List (List UInt8)} (h:st.queue=x::r) (hf:x.length≤st.front) (ho:aQ st.out=(0,0,st.out)) (_hfi:st.first<1024):eD (nJ st x r)=eD st:=by
 unfold eD nJ;simp only[h,ho,Nat.add_zero];have e:eG (x::r) st.front=((eG r (st.front-x.length)).1+1,(eG r (st.front-x.length)).2.1+x.length,(eG r (st.front-x.length)).2.2.1,(eG r (st.front-x.length)).2.2.2):=by
  rw[eG,if_pos hf]
 rw[e];simp only;have e1:st.taken-x.length-(eG r (st.front-x.length)).2.1=st.taken-((eG r (st.front-x.length)).2.1+x.length):=by omega
 have e2:st.done+1+(eG r (st.front-x.length)).1=st.done+((eG r (st.front-x.length)).1+1):=by omega
 rw[e1,e2]
theorem GA {st:Sd} (ho:aQ st.out=(0,0,st.out)) (hq:∀x r,st.queue=x::r→st.front<x.length) (hfi:st.first<1024):eD st=st:=by
 unfold eD;simp only[ho,Nat.add_zero];have e:eG st.queue st.front=(0,0,st.front,st.queue):=by
  cases hqq:st.queue with
  |nil=>rfl
  |cons x r=>
   have:=hq x r hqq;rw[eG,if_neg (by omega)]
 rw[e];simp only[Nat.sub_zero,Nat.add_zero,Nat.mod_eq_of_lt hfi]
section
variable {D F:Nat→Prop} {g:Nat} {c:Cf} {st:Sd} {vq vo:Value} {vs os:List Value} {w:World}
theorem dV.Va (h:dV w D F g c st vq vs vo os) {x:Ou} {r:List Ou} {v:Value} {os':List Value} {AV:Value} (ho:st.out=x::r) (hos:os=v::os') (hq:dR w 0 138 AV r.length os') (hb:∀k,aT AV=some k→D k):
 dV (w.setCell ⟨g,12,none⟩ AV) D F g c {st with out:=r} vq vs AV os':=by
 subst hos;have hbk:=h.blk.av 12 AV;have hlt:∀k,F k→k<(w.setCell ⟨g,12,none⟩ AV).heap.size:=fun k hk=>by
  have:=h.lt k hk;simpa[World.setCell] using this
 refine ⟨hbk,h.gd,h.sub,hlt,h.qr.store h.blk (by decide) _,h.qd,fun i p hi=> ?_,hq.store h.blk (by decide) _,hb,fun i y hi=> ?_,fun i j u hi hj=> ?_⟩
 ·obtain ⟨A,cc,e,hs,hf⟩:=h.qe i p hi;exact ⟨A,cc,e,hs.stay fun ad ea=>fD (fun e2=>(hf ad ea).2 (by
   have e3:ad.block=g:=e2;rw[e3];exact h.gd)),hf⟩
 ·obtain ⟨p,Ap,cp,vp,Ar,cr,e,hx⟩:=h.oe (i+1) y (by rw[ho];simpa using hi);exact ⟨p,Ap,cp,vp,Ar,cr,by simpa using e,hx.far h.gd (fun e=>h.blk.off hx.blk (by decide) e) 12 AV⟩
 ·have:=h.inj (i+1) (j+1) u (by simpa using hi) (by simpa using hj);omega
theorem dV.Vb (h:dV w D F g c st vq vs vo os) {x:List UInt8} {r:List (List UInt8)} {v:Value} {vs':List Value} {JI:Value} (ho:st.queue=x::r) (hos:vs=v::vs') (hq:dR w 0 31 JI r.length vs') (hb:∀k,aT JI=some k→D k):
 dV (w.setCell ⟨g,7,none⟩ JI) D F g c {st with queue:=r} JI vs' vo os:=by
 subst hos;have hbk:=h.blk.av 7 JI;have hlt:∀k,F k→k<(w.setCell ⟨g,7,none⟩ JI).heap.size:=fun k hk=>by
  have:=h.lt k hk;simpa[World.setCell] using this
 refine ⟨hbk,h.gd,h.sub,hlt,hq.store h.blk (by decide) _,hb,fun i p hi=> ?_,h.rX.store h.blk (by decide) _,h.od,fun i y hi=> ?_,h.inj⟩
 ·obtain ⟨A,cc,e,hs,hf⟩:=h.qe (i+1) p (by rw[ho];simpa using hi);exact ⟨A,cc,by simpa using e,hs.stay fun ad ea=>fD (fun e2=>(hf ad ea).2 (by
   have e3:ad.block=g:=e2;rw[e3];exact h.gd)),hf⟩
 ·obtain ⟨p,Ap,cp,vp,Ar,cr,e,hx⟩:=h.oe i y hi;exact ⟨p,Ap,cp,vp,Ar,cr,e,hx.far h.gd (fun e=>h.blk.off hx.blk (by decide) e) 7 JI⟩
def Tp (w:World) (D F:Nat→Prop) (g:Nat) (c:Cf) (st:Sd) (vq:Value) (vs:List Value) (E:Sd→Prop) (gk:Nat) (wr:World):Prop:=
 ∃st' AV os',gk=st'.out.length∧dV wr D F g c st' vq vs AV os'∧Kept (fun k _=>D k) w wr∧eD st'=eD st∧st'.taken=st'.front+sizes st'.out∧st'.taken≤1048576∧st'.queue=st.queue∧st'.first<1024∧st'.done=st.done∧st'.out.length≤512∧E st'
def aaG (w:World) (D F:Nat→Prop) (g:Nat) (c:Cf) (st:Sd) (vo:Value) (os:List Value) (gk:Nat) (wr:World):Prop:=
 ∃st' JI vs',gk=st'.queue.length∧dV wr D F g c st' JI vs' vo os∧Kept (fun k _=>D k) w wr∧eD st'=eD st∧st'.front≤st'.taken∧st'.taken≤1048576∧st'.first<1024∧aQ st'.out=(0,0,st'.out)∧st'.done+st'.queue.length≤9000000000000∧(∀s∈st'.queue,s.length≤9000)
set_option maxRecDepth 100000 in
set_option maxHeartbeats 4000000 in
theorem Et (h:dV w D F g c st vq vs vo os) (hI:st.taken=st.front+sizes st.out) (ht:st.taken≤1048576) (hf:st.first<1024) (hw:st.out.length≤512) (hd:st.done≤1000000000000) (YN:st.queue.length≤1048576) (hsd:∀s∈st.queue,s.length≤9000):
 Calls Tryz.prog 147 #[.pointer (some ⟨g,0,none⟩)] w fun e w'=>e= .returned (.tuple #[])∧∃JI vs' AV os',dV w' D F g c (eD st) JI vs' AV os'∧Kept (fun k _=>D k) w w':=by
 have HH:=ah h;have HI:=ah hI;have HSD:=ah hsd;clear h hI hsd;go_enter Tryz.func147,Tryz.ntmps147
 go_upto_block 0 with (fail)
 go_cut [] (fun wx=>∃gk,Tp w D F g c st vq vs (fun s=>aQ s.out=(0,0,s.out)) gk wx)
 case first=>
  go_wp2_with fail;go_loopg [] st.out.length (fun gk wr=>Tp w D F g c st vq vs (fun _=>True) gk wr)
  case atStart=>exact ⟨st,vo,os,rfl,HH.out,Kept.refl _ w,rfl,HI.out,ht,rfl,hf,rfl,hw,trivial⟩
  case round=>
   obtain ⟨s1,Xh,os1,rfl,hA,hk,had,htk,htl,hqq,hfi,hdn,hol,-⟩:=hrel;have sP:=hA.blk.cell 12;simp[dS] at sP;cases hout:s1.out with
   |nil=>
    have hR:Tp w D F g c st vq vs (fun s=>aQ s.out=(0,0,s.out)) s1.out.length wr:=⟨s1,Xh,os1,rfl,hA,hk,had,htk,htl,hqq,hfi,hdn,hol,by show aQ s1.out=(0,0,s1.out);rw[hout];rfl⟩;have HR:=ah hR;obtain ⟨A,cc,rfl,hs⟩:=hA.Om;have hc1:=hs.cap;have hc2:=hs.mx;rw[hout] at hc1 sP;simp only[List.length_nil] at hc1 sP;clear hA hk had htk hqq hdn hR hs hout;go_wp2;go_meet;exact ⟨_,HR.out⟩
   |cons x r=>
    obtain ⟨p,Ap,cp,vp,Ar,cr,he,ho⟩:=hA.oe 0 x (by rw[hout];rfl);obtain ⟨z0,z7,z8,z9,KR,Tj⟩:=ho.cells;have hq:=hA.rX;rw[hout] at hq;simp only[List.length_cons] at hq;obtain ⟨v,os2,hos⟩:∃v os2,os1=v::os2:=by
     cases hos:os1 with
     |nil=>rw[hos] at he;simp at he
     |cons v t=>exact ⟨v,t,rfl⟩
    subst hos;simp only[List.getElem?_cons_zero,Option.some.injEq] at he;subst he;obtain ⟨q,oo,cap,rfl,hcap1,hcap2⟩:∃q oo cap,Xh= .slice (some ⟨q,oo,none⟩) (r.length+1) cap∧r.length+1≤cap∧cap≤9223372036854775807:=by
     rcases hq.2 with ⟨_,h0⟩|⟨q,oo,cap,cur,e,_,_,h1,h2,_⟩
     ·omega
     ·exact ⟨q,oo,cap,e,h1,by unfold maxLen at h2;omega⟩
    have yq:=hq.cells 0 _ rfl;simp only[Nat.add_zero] at yq;cases hac:x.aX with
    |false=>
     rw[hac] at z9;have hR:Tp w D F g c st vq vs (fun s=>aQ s.out=(0,0,s.out)) s1.out.length wr:=⟨s1,_,_,rfl,hA,hk,had,htk,htl,hqq,hfi,hdn,hol,by show aQ s1.out=(0,0,s1.out);rw[hout];exact Gz fun y t e=>by cases e;exact hac⟩;have HR:=ah hR;clear hA hk had htk hqq hdn hR hq hout hac ho z0 z7 z8 KR Tj;go_wp2;go_meet;exact ⟨_,HR.out⟩
    |true=>
     rw[hac] at z9;have hsz:sizes s1.out=aG x+sizes r:=by rw[hout,fM]
     have hfs:s1.front+aG x≤1048576:=by omega
     have y9:=hA.blk.cell 9;have e9:=hA.blk.frozen 9;simp[dS] at y9;have hA1:=hA.mQ 9 (.int .i64 ((s1.front:Int)+(aG x:Nat))) (st':= {s1 with front:=s1.front+aG x}) (by simp[dS]) rfl rfl;have hk1:=hk.setCell (p:=⟨g,9,none⟩) (fun _ _=>hA.gd) (.int .i64 ((s1.front:Int)+(aG x:Nat)));have HA1:=ah hA1.drew;have tJ:=ah hk1.drew;have HQ:=ah hq;have qy:=ah hout;have Bz:=ah hsz;have HAC:=ah hac;have KV:=ah had;have HQQ:=ah hqq;have HDN:=ah hdn;have Jv:=ah htk;clear hA hk hA1 hk1 hq hout hsz hac had hqq hdn htk ho z0 z7 KR Tj;have hand:bits BinOp.and IntKind.i64 ((s1.first:Int)+1) 1023=(((s1.first+1)%1024:Nat):Int):=by rw[tZ];omega
     go_wp2_with fail
     go_region
     generalize (wr.setCell ⟨g,9,none⟩ (.int .i64 ((s1.front:Int)+(aG x:Nat)))).drew=w1 at*;clear y9 sP e9 yq z8 z9;have sP:=HA1.out.blk.cell 12;have e12:=HA1.out.blk.frozen 12;simp[dS] at sP;have hq1:=HA1.out.rX;have hlo:({s1 with front:=s1.front+aG x}:Sd).out.length=r.length+1:=by show s1.out.length=_;rw[qy.out];rfl
     rw[hlo] at hq1;have HQ:=ah hq1;clear hq1 hlo;by_cases hc1:cap=1
     ·subst hc1;obtain rfl:r= []:=List.eq_nil_of_length_eq_zero (by omega);simp only[List.length_nil,Nat.zero_add] at*;have ID:dR w1 0 138 (.slice (some ⟨q,oo,none⟩) 0 0) 0 os2:=by
       have:=HQ.out.tail;rw[if_pos rfl] at this;exact this
      have hA2:=HA1.out.Va (x:=x) (r:= []) (v:= .pointer (some ⟨p,0,none⟩)) (os':=os2) (AV:= .slice (some ⟨q,oo,none⟩) 0 0) qy.out rfl ID (fun k hk=>HA1.out.od k hk);have PU:=hA2.blk.cell 11;have e11:=hA2.blk.frozen 11;simp[dS] at PU;have hA3:=hA2.mQ 11 (.int .i64 (((s1.first+1)%1024:Nat):Int)) (st':=oZ s1 x []) (by simp[dS,oZ]) rfl rfl;have hk3:=(tJ.out.setCell (p:=⟨g,12,none⟩) (fun _ _=>HA1.out.gd) (.slice (some ⟨q,oo,none⟩) 0 0)).setCell (p:=⟨g,11,none⟩) (fun _ _=>HA1.out.gd) (.int .i64 (((s1.first+1)%1024:Nat):Int));have wh:=ah hA3;have lX:=ah hk3;have HAND:=ah hand;clear ID hA2 hA3 hk3 hand;go_upto_region 3 with (fail)
      generalize w1.setCell ⟨g,12,none⟩ (.slice (some ⟨q,oo,none⟩) 0 0)=w2 at*;have hand:=HAND.out;go_wp2
      go_roundg 0
      case measure=>have:=qy.out;simp[this]
      case rel=>
       exact ⟨oZ s1 x [],_,os2,rfl,wh.out,lX.out,(C4 qy.out HAC.out).trans KV.out,by have:=Jv.out;have:=Bz.out;simp only[oZ];omega,htl,HQQ.out,Nat.mod_lt _ (by decide),HDN.out,by simp[oZ],trivial⟩
     ·have hc2:¬cap=1:=hc1;have ID:dR w1 0 138 (.slice (some ⟨q,oo+1,none⟩) r.length (cap-1)) r.length os2:=by
       have:=HQ.out.tail;rw[if_neg hc2] at this;exact this
      have hA2:=HA1.out.Va (x:=x) (r:=r) (v:= .pointer (some ⟨p,0,none⟩)) (os':=os2) (AV:= .slice (some ⟨q,oo+1,none⟩) r.length (cap-1)) qy.out rfl ID (fun k hk=>HA1.out.od k hk);have PU:=hA2.blk.cell 11;have e11:=hA2.blk.frozen 11;simp[dS] at PU;have hA3:=hA2.mQ 11 (.int .i64 (((s1.first+1)%1024:Nat):Int)) (st':=oZ s1 x r) (by simp[dS,oZ]) rfl rfl;have hk3:=(tJ.out.setCell (p:=⟨g,12,none⟩) (fun _ _=>HA1.out.gd) (.slice (some ⟨q,oo+1,none⟩) r.length (cap-1))).setCell (p:=⟨g,11,none⟩) (fun _ _=>HA1.out.gd) (.int .i64 (((s1.first+1)%1024:Nat):Int));have wh:=ah hA3;have lX:=ah hk3;have HAND:=ah hand;clear ID hA2 hA3 hk3 hand;go_upto_region 3 with (fail)
      generalize w1.setCell ⟨g,12,none⟩ (.slice (some ⟨q,oo+1,none⟩) r.length (cap-1))=w2 at*;have hand:=HAND.out;go_wp2
      go_roundg r.length
      case measure=>have:=qy.out;simp[this]
      case rel=>
       exact ⟨oZ s1 x r,_,os2,rfl,wh.out,lX.out,(C4 qy.out HAC.out).trans KV.out,by have:=Jv.out;have:=Bz.out;simp only[oZ];omega,htl,HQQ.out,Nat.mod_lt _ (by decide),HDN.out,by have:=qy.out;rw[this] at hol;simp at hol;simp only[oZ];omega,trivial⟩
 case rest=>
 obtain ⟨gk0,st1,Xh,os1,-,hA1,hk1,aaI,aff,aaJ,Xk,aaK,aaL,afg,aaM⟩:=hcut;have H1:aaG w D F g c st Xh os1 st1.queue.length wc:=⟨st1,vq,vs,rfl,hA1,hk1,aaI,by omega,aaJ,aaK,aaM,by rw[Xk,aaL];omega,fun s hs=>HSD.out s (by rw[←Xk];exact hs)⟩;have H1H:=ah H1;clear hA1 hk1 aaI aff aaJ Xk aaK aaL afg aaM H1 HH HI HSD hw hd YN ht hf;go_wp2_with fail;go_loopg [] st1.queue.length (fun gk wr=>aaG w D F g c st Xh os1 gk wr)
 case atStart=>exact H1H.out
 case round=>
  obtain ⟨s1,vq1,vs1,rfl,hA,hk,had,hft,htl,hfi,hao,hdn,hsd⟩:=hrel;have y7:=hA.blk.cell 7;have y9:=hA.blk.cell 9;simp[dS] at y7 y9;clear H1H;cases hout:s1.queue with
  |nil=>
   have hR:eD st=s1:=by rw[←had];exact GA hao (fun x r e=>by rw[hout] at e;cases e) hfi
   have HR:=ah hR;have HA:=ah hA;have HK:=ah hk;obtain ⟨A,cc,rfl,hs⟩:=hA.EX;have hc1:=hs.sl.cap;have hc2:=hs.sl.mx;rw[hout] at hc1 y7;simp only[List.length_nil] at hc1 y7;clear hA hk had hR hs hout hao;go_wp2
   go_quiet (fail)
   go_wp2
   go_end0
   rw[HR.out];exact ⟨rfl,_,_,_,_,HA.out.drewN _,HK.out.iy _⟩
  |cons x r=>
   have hq:=hA.qr;rw[hout] at hq;simp only[List.length_cons] at hq;obtain ⟨v,vs2,hos⟩:∃v vs2,vs1=v::vs2:=by
    cases hos:vs1 with
    |nil=>rw[hos] at hq;have:=hq.1;simp at this
    |cons v t=>exact ⟨v,t,rfl⟩
   subst hos;obtain ⟨Ax,cx,hex,hsx,_⟩:=hA.qe 0 x (by rw[hout];rfl);simp only[List.getElem?_cons_zero,Option.some.injEq] at hex;subst hex;have hxc:=hsx.cap;have hxm:=hsx.mx;have Xl:=hsd x (by rw[hout];simp);obtain ⟨q,oo,cap,rfl,hcap1,hcap2⟩:∃q oo cap,vq1= .slice (some ⟨q,oo,none⟩) (r.length+1) cap∧r.length+1≤cap∧cap≤9223372036854775807:=by
    rcases hq.2 with ⟨_,h0⟩|⟨q,oo,cap,cur,e,_,_,h1,h2,_⟩
    ·omega
    ·exact ⟨q,oo,cap,e,h1,by unfold maxLen at h2;omega⟩
   have yq:=hq.cells 0 _ rfl;simp only[Nat.add_zero] at yq;by_cases hge:x.length≤s1.front
   ·have d1:decide (x.length≤s1.front)=true:=decide_eq_true hge;have HAO:=ah hao;have KV:=ah had;have afh:=ah hsd;have qy:=ah hout;have HDN:=ah hdn;have alA:s1.done+(r.length+1)≤9000000000000:=by rw[hout] at hdn;simpa using hdn
    have HA:=ah hA;have HK:=ah hk;clear hA hk had hao hsd hout hdn hq hsx;go_wp2_with fail
    go_quiet (fail)
    go_wp2_with fail;have Gw:=HA.out.drewN nq;have hk0:=HK.out.iy nq;clear y7 y9 yq;generalize wr.drewN nq=w0 at*;have y9:=Gw.blk.cell 9;have AU:=Gw.blk.cell 10;have e9:=Gw.blk.frozen 9;have e10:=Gw.blk.frozen 10;simp[dS] at y9 AU;have hA1:=((Gw.mQ 9 (.int .i64 ((s1.front:Int)-(x.length:Nat))) (st':= {s1 with front:=s1.front-x.length}) (by simp[dS];omega) rfl rfl).mQ 10 (.int .i64 ((s1.taken:Int)-(x.length:Nat))) (st':= {s1 with front:=s1.front-x.length,taken:=s1.taken-x.length}) (by simp[dS];omega) rfl rfl).drew;have hk1:=((hk0.setCell (p:=⟨g,9,none⟩) (fun _ _=>Gw.gd) (.int .i64 ((s1.front:Int)-(x.length:Nat)))).setCell (p:=⟨g,10,none⟩) (fun _ _=>Gw.gd) (.int .i64 ((s1.taken:Int)-(x.length:Nat)))).drew;have HA1:=ah hA1;have tJ:=ah hk1;clear Gw hk0 hA1 hk1 HA HK;refine aZ (fun w'=>w'.cell? ⟨g,9,none⟩=some (.int .i64 (s1.front:Nat))∧w'.cell? ⟨g,10,none⟩=some (.int .i64 (s1.taken:Nat))) [16,19] (by kernel_rfl) ?_;have hHeld:w0.drew.cell? ⟨g,9,none⟩=some (.int .i64 (s1.front:Nat))∧w0.drew.cell? ⟨g,10,none⟩=some (.int .i64 (s1.taken:Nat)):=⟨y9,AU⟩;refine aY 0 rfl hHeld ?_
    try simp only[Act.put,aB,aC,ax,ay,aA]
    refine aY 1 rfl hHeld ?_
    try simp only[Act.put,aB,aC,aD,ax,ay,aA]
    refine aY 2 rfl hHeld ?_
    try simp only[Act.put,aB,aC,aD,ax,ay,aA]
    refine aY 3 rfl hHeld ?_
    try simp only[Act.put,aB,aC,aD,ax,ay,aA]
    refine aY 4 rfl hHeld ?_
    try simp only[Act.put,aB,aC,aD,ax,ay,aA]
    refine gV [16,19] 5 ?_ rfl (Or.inl ⟨by rfl,?_⟩) hHeld ?_;rotate_left
    ·intro w' hSw;obtain ⟨hS1,hS2⟩:=hSw;go_simp
     try with_reducible rfl
    try simp only[Act.put,aB,aC,aD,ax,ay,aA]
    refine aY 6 rfl hHeld ?_
    try simp only[Act.put,aB,aC,aD,ax,ay,aA]
    refine aY 7 rfl hHeld ?_
    try simp only[Act.put,aB,aC,aD,ax,ay,aA]
    refine aY 8 rfl hHeld ?_
    try simp only[Act.put,aB,aC,aD,ax,ay,aA]
    refine aY 9 rfl hHeld ?_
    try simp only[Act.put,aB,aC,aD,ax,ay,aA]
    refine aY 10 rfl hHeld ?_
    try simp only[Act.put,aB,aC,aD,ax,ay,aA]
    refine gV [16,19] 11 ?_ rfl (Or.inl ⟨by rfl,?_⟩) hHeld ?_;rotate_left
    ·intro w' hSw;obtain ⟨hS1,hS2⟩:=hSw;go_simp
     try with_reducible rfl
    try simp only[Act.put,aB,aC,aD,ax,ay,aA]
    refine aY 12 rfl hHeld ?_
    try simp only[Act.put,aB,aC,aD,ax,ay,aA]
    refine aY 13 rfl hHeld ?_
    try simp only[Act.put,aB,aC,aD,ax,ay,aA]
    refine aY 14 rfl hHeld ?_
    try simp only[Act.put,aB,aC,aD,ax,ay,aA]
    refine aY 15 rfl hHeld ?_
    try simp only[Act.put,aB,aC,aD,ax,ay,aA]
    refine bD (i:=16) rfl (by kernel_rfl) (by kernel_rfl) (by rfl) (fun K hK=> ?_);go_simp;refine hK _ _ ?_;clear hK K
    try simp only[Act.put,aB,aC,aD,ax,ay,aA]
    refine qT 17 rfl ?_
    try simp only[Act.put,aB,aC,aD,ax,ay,aA]
    refine qT 18 rfl ?_
    try simp only[Act.put,aB,aC,aD,ax,ay,aA]
    refine bD (i:=19) rfl (by kernel_rfl) (by kernel_rfl) (by rfl) (fun K hK=> ?_);go_simp;refine hK _ _ ?_;clear hK K
    try simp only[Act.put,aB,aC,aD,ax,ay,aA]
    refine bu (by kernel_rfl) ?_ _;rw[IntWalk.i64_in ((s1.front:Int)-(x.length:Nat)) (by omega),IntWalk.i64_in ((s1.taken:Int)-(x.length:Nat)) (by omega)];generalize ((w0.setCell ⟨g,9,none⟩ (.int .i64 ((s1.front:Int)-(x.length:Nat)))).setCell ⟨g,10,none⟩ (.int .i64 ((s1.taken:Int)-(x.length:Nat)))).drew=w1 at*;clear y9 AU e9 e10 hHeld;have y7:=HA1.out.blk.cell 7;have e7:=HA1.out.blk.frozen 7;simp[dS] at y7;have hq1:=HA1.out.qr;have hlo:({s1 with front:=s1.front-x.length,taken:=s1.taken-x.length}:Sd).queue.length=r.length+1:=by show s1.queue.length=_;rw[qy.out];rfl
    rw[hlo] at hq1;have HQ:=ah hq1;clear hq1 hlo;by_cases hc1:cap=1
    ·subst hc1;obtain rfl:r= []:=List.eq_nil_of_length_eq_zero (by omega);simp only[List.length_nil,Nat.zero_add] at*;have ID:dR w1 0 31 (.slice (some ⟨q,oo,none⟩) 0 0) 0 vs2:=by
      have:=HQ.out.tail;rw[if_pos rfl] at this;exact this
     have hA2:=HA1.out.Vb (x:=x) (r:= []) (v:= .slice Ax x.length cx) (vs':=vs2) (JI:= .slice (some ⟨q,oo,none⟩) 0 0) qy.out rfl ID (fun k hk=>HA1.out.qd k hk);have y8:=hA2.blk.cell 8;have e8:=hA2.blk.frozen 8;simp[dS] at y8;have hA3:=hA2.mQ 8 (.int .i64 ((s1.done:Int)+1)) (st':=nJ s1 x []) (by simp[dS,nJ]) rfl rfl;have hk3:=(tJ.out.setCell (p:=⟨g,7,none⟩) (fun _ _=>HA1.out.gd) (.slice (some ⟨q,oo,none⟩) 0 0)).setCell (p:=⟨g,8,none⟩) (fun _ _=>HA1.out.gd) (.int .i64 ((s1.done:Int)+1));have wh:=ah hA3;have lX:=ah hk3;clear ID hA2 hA3 hk3;go_upto_region 8 with (fail)
     generalize w1.setCell ⟨g,7,none⟩ (.slice (some ⟨q,oo,none⟩) 0 0)=w2 at*;go_wp2
     go_roundg 0
     case measure=>have:=qy.out;simp[this]
     case rel=>
      exact ⟨nJ s1 x [],_,vs2,rfl,wh.out,lX.out,(C5 qy.out hge HAO.out hfi).trans KV.out,by simp only[nJ];omega,by simp only[nJ];omega,hfi,HAO.out,by show s1.done+1+0≤_;omega,fun s hs=>by simp[nJ] at hs⟩
    ·have hc2:¬cap=1:=hc1;have ID:dR w1 0 31 (.slice (some ⟨q,oo+1,none⟩) r.length (cap-1)) r.length vs2:=by
      have:=HQ.out.tail;rw[if_neg hc2] at this;exact this
     have hA2:=HA1.out.Vb (x:=x) (r:=r) (v:= .slice Ax x.length cx) (vs':=vs2) (JI:= .slice (some ⟨q,oo+1,none⟩) r.length (cap-1)) qy.out rfl ID (fun k hk=>HA1.out.qd k hk);have y8:=hA2.blk.cell 8;have e8:=hA2.blk.frozen 8;simp[dS] at y8;have hA3:=hA2.mQ 8 (.int .i64 ((s1.done:Int)+1)) (st':=nJ s1 x r) (by simp[dS,nJ]) rfl rfl;have hk3:=(tJ.out.setCell (p:=⟨g,7,none⟩) (fun _ _=>HA1.out.gd) (.slice (some ⟨q,oo+1,none⟩) r.length (cap-1))).setCell (p:=⟨g,8,none⟩) (fun _ _=>HA1.out.gd) (.int .i64 ((s1.done:Int)+1));have wh:=ah hA3;have lX:=ah hk3;clear ID hA2 hA3 hk3;go_upto_region 8 with (fail)
     generalize w1.setCell ⟨g,7,none⟩ (.slice (some ⟨q,oo+1,none⟩) r.length (cap-1))=w2 at*;go_wp2
     go_roundg r.length
     case measure=>have:=qy.out;simp[this]
     case rel=>
      exact ⟨nJ s1 x r,_,vs2,rfl,wh.out,lX.out,(C5 qy.out hge HAO.out hfi).trans KV.out,by simp only[nJ];omega,by simp only[nJ];omega,hfi,HAO.out,by show s1.done+1+r.length≤_;omega,fun s hs=>afh.out s (by rw[qy.out];exact List.mem_cons_of_mem _ hs)⟩
   ·have d1:decide (x.length≤s1.front)=false:=decide_eq_false hge;have hR:eD st=s1:=by rw[←had];exact GA hao (fun y t e=>by rw[hout] at e;cases e;omega) hfi
    have HR:=ah hR;have HA:=ah hA;have HK:=ah hk;clear hA hk had hR hout hao hq hsx;go_wp2_with fail
    go_quiet (fail)
    go_wp2
    go_end0
    rw[HR.out];exact ⟨rfl,_,_,_,_,HA.out.drewN _,HK.out.iy _⟩
end
end
section
open Go.RowKit Go.Shelf
attribute [local go_sem] Oper.semAt_some
section
variable {D F:Nat→Prop} {g:Nat} {c:Cf} {st:Sd} {vq vo:Value} {vs os:List Value} {w:World}
def PR (w:World) (D F:Nat→Prop) (g:Nat) (c:Cf) (R:Sd × Int) (e:Ending) (w':World):Prop:=e= .returned (.int .i64 R.2)∧kX w D F g c R.1 w'
set_option maxRecDepth 10000 in
set_option maxHeartbeats 1000000 in
theorem Gv (h:dV w D F g c st vq vs vo os) (ht:Ol c) (hsum:aW st≤1048576) (YN:st.queue.length≤1048576) {A:Option Addr} {n cc:Nat} {x:List UInt8} (hx:Sl w w.heap.size A n cc (bO x)):
 Calls Tryz.prog 58 #[.pointer (some ⟨g,0,none⟩),.slice A n cc] w (PR w D F g c (dw c st x)):=by
 have hch:=fP h ht.timer.1;have kW:=ah hch;have HH:=ah h;have hxl:x.length=n:=by have:=hx.len;simpa using this
 have hcap:=hx.cap;have hmx:=hx.mx;clear hch;cases hf:st.failed with
 |true=>
  rw[hf] at kW;have hfin:dw c st x=(st,8):=by unfold dw;rw[if_pos hf]
  rw[hfin];simp only[if_pos] at kW;clear h hf hfin;go_enter Tryz.func58,Tryz.ntmps58;go_wp2_with fail;refine kW.out.mono ?_;rintro e1 w1 ⟨rfl,rfl⟩;go_wp2;go_ret;exact ⟨rfl,HH.out.o (Kept.refl _ w)⟩
 |false=>
  rw[hf] at kW;simp only[Bool.false_eq_true,if_false] at kW;by_cases h0:n=0
  ·have hfin:dw c st x=(st,2):=by unfold dw;rw[if_neg (by simp[hf]),if_pos (.inl (by omega))]
   rw[hfin];have d0:((n:Int)==0)=true:=by simp;omega
   have H0:=ah h0;clear h hf hfin h0 hx hxl;go_enter Tryz.func58,Tryz.ntmps58;go_wp2_with fail;refine kW.out.mono ?_;rintro e1 w1 ⟨rfl,rfl⟩;go_wp2;go_ret;exact ⟨rfl,HH.out.o (Kept.refl _ w)⟩
  have d0:((n:Int)==0)=false:=by simp;omega
  by_cases h9:9000<n
  ·have hfin:dw c st x=(st,2):=by unfold dw;rw[if_neg (by simp[hf]),if_pos (.inr (by omega))]
   rw[hfin];have d1:decide ((9000:Int)<n)=true:=by simp;omega
   clear h hf hfin hx hxl;go_enter Tryz.func58,Tryz.ntmps58;go_wp2_with fail;refine kW.out.mono ?_;rintro e1 w1 ⟨rfl,rfl⟩;go_wp2;go_ret;exact ⟨rfl,HH.out.o (Kept.refl _ w)⟩
  have d1:decide ((9000:Int)<n)=false:=by simp;omega
  have EY:=fun k=>vE (h.drewN k) hsum
  have HHE:=ah EY;have y6:=h.blk.cell 6;simp[dS] at y6;by_cases hfu:c.cap<(aW st:Int)+(n:Int)
  ·have hfin:dw c st x=(st,7):=by unfold dw;rw[if_neg (by simp[hf]),if_neg (by omega),if_pos (by omega)]
   rw[hfin];have d2:decide (c.cap<(aW st:Int)+(n:Int))=true:=decide_eq_true hfu;clear h hf hfin hx hxl EY;generalize aW st=H at*;have hwr:IntKind.i64.wrap ((H:Int)+n)=(H:Int)+n:=IntWalk.i64_in _ (by omega);go_enter Tryz.func58,Tryz.ntmps58;go_wp2_with fail;refine kW.out.mono ?_;rintro e1 w1 ⟨rfl,rfl⟩;go_wp2_with fail
   go_quiet ((go_at_call 102;exact Calls.quiet_of_same ((HHE.out _).mono fun _ _ hh=>⟨hh.1,hh.2.symm⟩)))
   go_wp2;go_ret;exact ⟨rfl,(HH.out.o (Kept.refl _ w)).drewN _⟩
  ·have hfin:dw c st x=(gK st x,0):=by unfold dw;rw[if_neg (by simp[hf]),if_neg (by omega),if_neg (by omega)]
   rw[hfin];have d2:decide (c.cap<(aW st:Int)+(n:Int))=false:=decide_eq_false hfu;generalize aW st=H at*;have hwr:IntKind.i64.wrap ((H:Int)+n)=(H:Int)+n:=IntWalk.i64_in _ (by omega);obtain ⟨j0,hj0,hm0,hm1,hm2⟩:=info_parts nV;have hcl:=fun k=>ji A n cc x (w.drewN k) (hx.drewN k) (by omega)
   have pV:=ah hcl;have y7:=h.blk.cell 7;have f7:=h.blk.frozen 7;simp[dS] at y7;obtain ⟨Av,cv,rfl,hsv⟩:=h.qr.sl;have hgl:=h.blk.lt;clear h hf hfin EY hcl hsv;go_enter Tryz.func58,Tryz.ntmps58;go_wp2_with fail;refine kW.out.mono ?_;rintro e1 w1 ⟨rfl,rfl⟩;go_wp2_with fail
   go_quiet ((go_at_call 102;exact Calls.quiet_of_same ((HHE.out _).mono fun _ _ hh=>⟨hh.1,hh.2.symm⟩)))
   go_wp2_with fail;have Gw:=HH.out.drewN (nq);have hk0:Kept (fun k _=>D k) w (w.drewN nq):=(Kept.refl _ w).iy nq;have hcl0:Calls Tryz.prog 103 #[.slice A n cc] (w.drewN nq).drew (pQ (w.drewN nq).heap.size 5 (w.drewN nq).drew n (bO x)):=pV.out (nq+1);have hz0:=ah (show (w.drewN nq).heap.size=w.heap.size from rfl);generalize w.drewN nq=w0 at*;have x0:=Gw.blk.cell 7;have f0:=Gw.blk.frozen 7;simp[dS] at x0;have Xi:g<w0.heap.size:=Gw.blk.lt;have Re:=ah Gw;have afc:=ah hcl0;have YS:=ah hk0;have HXL:=ah hxl;clear Gw hcl0 hk0 y6 y7 f7 hx pV HHE kW hxl
   go_region_law (first
    |((refine qZ (by rfl) _ _ 37 (by rfl) j0 (.slice none 0 0) 24 l7 hj0 hm0 hm1 hm2 rfl (by rfl) ((Re.out.qr.drew.below hb1 (aN)).alloc (.cells #[.slice A1 n c1] 31)) ⟨w1.heap.size,0,none⟩ 1 (.slice A1 n c1) (by rfl) (World.news_of_block (heap_alloc_new w1 _) 0 _ rfl) rfl (by unfold maxLen;omega) (by omega) (by simp) ?_;intro v5 w5 hown5 bR SE;obtain ⟨A5,c5,rfl,hs5⟩:=hown5.sl;have tH:=((Re.out.blk.drew.below hb1 Re.out.blk.lt).alloc (.cells #[.slice A1 n c1] 31)).grown bR (fun e=>((Re.out.qr.drew.below hb1 (aN)).alloc (.cells #[.slice A1 n c1] 31)).pM ((Re.out.blk.drew.below hb1 Re.out.blk.lt).alloc (.cells #[.slice A1 n c1] 31)) (by decide) e.symm);have q2:=tH.cell 7;have q3:=tH.frozen 7;simp[dS] at q2))
    |((go_simp;(with_reducible refine afc.out.mono ?_);rintro e1 w1 ⟨v1,rfl,hv1,hb1⟩;obtain ⟨A1,c1,rfl,hs1,_⟩:=bq hv1;have ME:=(hb1.cell (p:=⟨g,7,none⟩) Xi).trans x0;have PS:g<w1.heap.size:=Nat.lt_of_lt_of_le Xi hb1.size;have alx:=(World.cell?_alloc_lt w1 (.cells #[.slice A1 n c1] 31) ⟨g,7,none⟩ PS).trans ME;have f0':=(hb1.frozen (p:=⟨g,7,none⟩) Xi).trans f0)))
   all_goals
    go_wp2;go_ret;have Tk:=HXL.out;subst Tk;exact ⟨rfl,kX.step (YS.out.iy 1) (bW.refl _ _) (bW.refl _ _) (dV.nZ (w:=w0.drewN 1) (Re.out.drewN 1) (by omega) hb1 hv1 hown5 bR SE)⟩
end
end
section
open Go.RowKit Go.Shelf
attribute [local go_sem] Oper.semAt_some
def BL (c:Cf) (m:Ou→List (Nat × Nat)) (st:Sd) (k:Nat):Sd:= {st with out:=(aM c m k st.out).1,failed:=st.failed||(aM c m k st.out).2}
theorem PT (c:Cf) (m:Ou→List (Nat × Nat)) (st:Sd):BL c m st 0=st:=by
 obtain ⟨q,d,f,t,fi,o,p,b,po,wa,ex,ow,fa,no⟩:=st;simp[BL,aM]
theorem KU (c:Cf) (m:Ou→List (Nat × Nat)) (st:Sd) (k:Nat):(BL c m st k).out[k]? =st.out[k]? :=by
 show (aM c m k st.out).1[k]? =st.out[k]?
 rw[jm,if_neg (Nat.lt_irrefl k)]
theorem Gx {c:Cf} {m:Ou→List (Nat × Nat)} {st:Sd} {k:Nat} {x:Ou} (hx:st.out[k]? =some x):BL c m st (k+1)=kM (BL c m st k) k (bY c m x):=by
 have h1:(aM c m (k+1) st.out).1=(aM c m k st.out).1.set k (bY c m x).1:=by
  apply List.ext_getElem?;intro i;rw[jm,List.getElem?_set,jm,jl];have hk:=(List.getElem?_eq_some_iff.1 hx).1;by_cases hik:k=i
  ·subst hik;rw[if_pos (by omega),if_pos rfl,if_pos hk,hx];rfl
  ·rw[if_neg hik];by_cases hlt:i<k
   ·rw[if_pos (by omega),if_pos hlt]
   ·rw[if_neg (by omega),if_neg hlt]
 have h2:(aM c m (k+1) st.out).2=((aM c m k st.out).2||(bY c m x).2):=by
  simp only[aM];rw[List.take_add_one,hx];simp
 unfold BL kM;rw[h1,h2,Bool.or_assoc]
theorem MF {c:Cf} {m:Ou→List (Nat × Nat)} {st:Sd} {k:Nat} {x:Ou} (hx:st.out[k]? =some x) (ha:x.aX=true):BL c m st (k+1)=BL c m st k:=by
 have hg:=KU c m st k;rw[hx] at hg;rw[Gx hx];have e:bY c m x=(x,false):=by unfold bY;rw[if_pos ha]
 rw[e];unfold kM;have h3:(BL c m st k).out.set k x=(BL c m st k).out:=by
  apply List.ext_getElem?;intro i;rw[List.getElem?_set];split
  ·rename_i hik;subst hik;split
   ·exact hg.symm
   ·rename_i hl;exact (List.getElem?_eq_none (by omega)).symm
  ·rfl
 simp only[h3,Bool.or_false]
section
variable {D F:Nat→Prop} {g:Nat} {c:Cf} {st:Sd} {vq vo:Value} {vs os:List Value} {w:World}
theorem dV.confirm (h:dV w D F g c st vq vs vo os) {i p:Nat} {x:Ou} {Ap Ar:Option Addr} {cp cr:Nat} {vp:List Value} (hx:st.out[i]? =some x) (hp:os[i]? =some (.pointer (some ⟨p,0,none⟩))) (hO:gU w D F p x Ap cp vp Ar cr):
 dV ((w.setCell ⟨p,9,none⟩ (.bool true)).setCell ⟨p,10,none⟩ (.slice none 0 0)) D F g c (kM st i ({x with aX:=true,pend:= []},false)) vq vs vo os∧Kept (fun k _=>D k) w ((w.setCell ⟨p,9,none⟩ (.bool true)).setCell ⟨p,10,none⟩ (.slice none 0 0)):=by
 obtain ⟨h1,o1⟩:=h.Js hx hp hO 9 (.bool true) (z:= {x with aX:=true}) (by simp[DN,aG]) rfl hO.rs hO.rf;have hil:=(List.getElem?_eq_some_iff.1 hx).1;have hx1:(st.out.set i {x with aX:=true})[i]? =some {x with aX:=true}:=List.getElem?_set_self hil;obtain ⟨h2,_⟩:=h1.Js hx1 hp o1 10 (.slice none 0 0) (z:= {x with aX:=true,pend:= []}) (KO:=none) (Mj:=0) (by simp[DN,aG]) rfl (dG.nil _) (fun ad e=>by cases e);have e:kM st i ({x with aX:=true,pend:= []},false)= {st with out:=(st.out.set i {x with aX:=true}).set i {x with aX:=true,pend:= []}}:=by
  unfold kM;rw[List.set_set,Bool.or_false]
 rw[e];exact ⟨h2,((Kept.refl _ w).setCell (p:=⟨p,9,none⟩) (fun _ _=>hO.d) _).setCell (p:=⟨p,10,none⟩) (fun _ _=>hO.d) _⟩
theorem dV.vY {w0:World} (h:dV w0 D F g c st vq vs vo os) {b:Nat} (hF:∀k,F k→k<w.heap.size) (hb:w.heap.size≤b) (j:Nat) (u:Value):dV (w0.setCell ⟨b,j,none⟩ u) D F g c st vq vs vo os:=
 h.stay fun k hk=>fD (fun e=>by have:=hF k hk;have e2:k=b:=e;omega)
theorem Kept.vY {M:Nat→Obj→Prop} {w0:World} (hk:Kept M w w0) {b:Nat} (hb:w.heap.size≤b) (j:Nat) (u:Value):Kept M w (w0.setCell ⟨b,j,none⟩ u):=
 ⟨hk.os,hk.tape,hk.output,Nat.le_trans hk.size (by simp[World.setCell]),fun k o ho hm=>(fD (fun e=>by have:=(Array.getElem?_eq_some_iff.1 ho).1;have e2:k=b:=e;omega)).trans (hk.same k o ho hm)⟩
structure Tn (w:World) (g:Nat) (aL:Int) (A:Option Addr) (n cc:Nat) (w0:World):Prop where
 b:Below w.heap.size w w0
 s:au w0 w.heap.size 49 #[.pointer (some ⟨g,0,none⟩)]
 r:au w0 (w.heap.size+1) 133 #[.int .i64 aL,.slice A n cc]
 e:au w0 (w.heap.size+1+1) 53 #[.int .i64 0]
 z:w0.heap.size=w.heap.size+3
theorem Tn.mk' (w:World) (g:Nat) (aL:Int) (A:Option Addr) (n cc:Nat):Tn w g aL A n cc (((w.alloc (.cells #[.pointer (some ⟨g,0,none⟩)] 49)).alloc (.cells #[.int .i64 aL,.slice A n cc] 133)).alloc (.cells #[.int .i64 0] 53)):=by
 have h1:=((au.new w 49 #[.pointer (some ⟨g,0,none⟩)]).alloc (.cells #[.int .i64 aL,.slice A n cc] 133)).alloc (.cells #[.int .i64 0] 53);have h2:=(au.new (w.alloc (.cells #[.pointer (some ⟨g,0,none⟩)] 49)) 133 #[.int .i64 aL,.slice A n cc]).alloc (.cells #[.int .i64 0] 53);have h3:=au.new ((w.alloc (.cells #[.pointer (some ⟨g,0,none⟩)] 49)).alloc (.cells #[.int .i64 aL,.slice A n cc] 133)) 53 #[.int .i64 0];simp only[World.size_alloc] at h2 h3;exact ⟨(((Below.refl _ w).alloc (aN) _).alloc (by simp) _).alloc (by simp;omega) _,h1,h2,h3,by simp⟩
set_option maxRecDepth 100000 in
set_option maxHeartbeats 1000000 in
theorem rJ (h:dV w D F g c st vq vs vo os) (ht:1≤c.timer) (now aL:Int) (A:Option Addr) (n cc:Nat) (dO:List Nk) (hN:bM w A n cc dO) (hx:st.failed=true∨dm aL dO=false):
 Calls Tryz.prog 93 #[.pointer (some ⟨g,0,none⟩),.int .i64 now,.agg #[.int .i64 aL,.slice A n cc]] w (PR w D F g c (dB c st now aL dO)):=by
 have HW:=ah (Tn.mk' w g aL A n cc);have HH:=ah h;have HN:=ah hN
 go_enter_defers Tryz.func93,Tryz.ntmps93
 clear h hN;go_wp2_with fail;generalize ((w.alloc (.cells #[.pointer (some ⟨g,0,none⟩)] 49)).alloc (.cells #[.int .i64 aL,.slice A n cc] 133)).alloc (.cells #[.int .i64 0] 53)=w0 at*;have hA:=HH.out.below HW.out.b;have hch:=fP hA ht;have e0:=HW.out.e.cell 0;have e1:=HW.out.e.frozen 0;have r0:=HW.out.r.cell 0;have r1:=HW.out.r.cell 1;simp at e0 r0 r1;have HA:=ah hA;have kW:=ah hch;clear hA hch;refine kW.out.mono ?_;cases hf:st.failed with
 |true=>
  have hfin:dB c st now aL dO=(st,8):=by unfold dB;rw[if_pos hf]
  have je:=ah hfin;clear hfin hf hx;simp only[if_true];rintro e1 w1 ⟨rfl,rfl⟩;go_wp2;have q:=((HW.out.e.av 0 (.int .i64 8)).av 0 (.int .i64 8)).cell 0;simp at q;refine ⟨.int .i64 8,by simp[results,Tryz.results93,go_sem,q],?_⟩;rw[je.out];have hz:=HW.out.z;exact ⟨rfl,((HA.out.vY HH.out.lt (b:=w.heap.size+1+1) (by omega) 0 _).vY HH.out.lt (b:=w.heap.size+1+1) (by omega) 0 _).o (((Kept.dD HW.out.b).vY (b:=w.heap.size+1+1) (by omega) 0 _).vY (b:=w.heap.size+1+1) (by omega) 0 _)⟩
 |false=>
  have hv:dm aL dO=false:=by
   rcases hx with e|e
   ·rw[hf] at e;cases e
   ·exact e
  have hfin:dB c st now aL dO=(st,2):=by unfold dB l8;rw[if_neg (by simp[hf]),if_pos hv]
  have je:=ah hfin;have hva:=jV (w0.setCell ⟨w.heap.size+1+1,0,none⟩ (.int .i64 0)) aL A n cc dO (HN.out.below (HW.out.b.setCell (p:=⟨w.heap.size+1+1,0,none⟩) (by simp;omega) _));rw[hv] at hva;have KE:=ah hva;clear hfin hf hx hv hva;simp only[Bool.false_eq_true,if_false];rintro e1 w1 ⟨rfl,rfl⟩;go_wp2_with fail;refine KE.out.mono ?_;rintro e2 w2 ⟨rfl,hb2⟩;have hE2:=(HW.out.e.av 0 (.int .i64 0)).below hb2 (by have:=HW.out.e.lt;simpa[World.setCell] using this);have c2:=hE2.cell 0;have f2:=hE2.frozen 0;simp at c2;have HE2:=ah hE2;have HB2:=ah hb2;clear hE2 hb2;go_wp2;have q:=(HE2.out.av 0 (.int .i64 2)).cell 0;simp at q;refine ⟨.int .i64 2,by simp[results,Tryz.results93,go_sem,q],?_⟩;rw[je.out];exact ⟨rfl,(((HA.out.vY HH.out.lt (b:=w.heap.size+1+1) (by omega) 0 _).below HB2.out).vY HH.out.lt (b:=w.heap.size+1+1) (by omega) 0 _).o ((((Kept.dD HW.out.b).vY (b:=w.heap.size+1+1) (by omega) 0 _).trans (Kept.dD HB2.out)).vY (b:=w.heap.size+1+1) (by omega) 0 _)⟩
end
end
end Go.Proofs.YtbhiklnljiehiaaGreat
