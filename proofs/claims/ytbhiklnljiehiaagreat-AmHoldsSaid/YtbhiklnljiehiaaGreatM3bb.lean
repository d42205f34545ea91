/- amsend: advance. -/
import Derived.Test.YtbhiklnljiehiaaGreatM3ar
import Derived.Test.YtbhiklnljiehiaaGreatM3aw
set_option maxHeartbeats 4000000
set_option maxRecDepth 100000
namespace Go.Proofs.YtbhiklnljiehiaaGreat
open RowKit Shelf Tryz
attribute [local go_sem] Oper.semAt_some
def uY (st:Sd) (x:Ou) (r:List Ou):Sd:= {st with out:=r,front:=st.front+au x,first:=(st.first+1)%1024}
def tC (st:Sd) (x:List UInt8) (r:List (List UInt8)):Sd:= {st with queue:=r,front:=st.front-x.length,taken:=st.taken-x.length,done:=st.done+1}
theorem JA {st:Sd} {x:Ou} {r:List Ou} (h:st.out=x::r) (ha:x.bJ=true):ig (uY st x r)=ig st:=by
 unfold ig uY;simp only[h,aV,bD ha];have e1:(st.first+1)%1024+(aV r).1=(st.first+1)%1024+(aV r).1:=rfl;have e2:((st.first+1)%1024+(aV r).1)%1024=(st.first+((aV r).1+1))%1024:=by omega
 have e3:st.front+au x+(aV r).2.1=st.front+((aV r).2.1+au x):=by omega
 rw[e2,e3]
theorem Nn {l:List Ou} (h:∀x r,l=x::r->x.bJ=false):aV l=(0,0,l):=by
 cases l with
 |nil=>rfl
 |cons x r=>
  have:=h x r rfl;simp[aV,this]
theorem JB {st:Sd} {x:List UInt8} {r:List (List UInt8)} (h:st.queue=x::r) (hf:x.length<=st.front) (ho:aV st.out=(0,0,st.out)) (_hfi:st.first<1024):ig (tC st x r)=ig st:=by
 unfold ig tC;simp only[h,ho,uf];have e:iy (x::r) st.front=((iy r (st.front-x.length)).1+1,(iy r (st.front-x.length)).2.1+x.length,(iy r (st.front-x.length)).2.2.1,(iy r (st.front-x.length)).2.2.2):=by
  rw[iy,bD hf]
 rw[e];simp only;have e1:st.taken-x.length-(iy r (st.front-x.length)).2.1=st.taken-((iy r (st.front-x.length)).2.1+x.length):=by omega
 have e2:st.done+1+(iy r (st.front-x.length)).1=st.done+((iy r (st.front-x.length)).1+1):=by omega
 rw[e1,e2]
theorem Np {st:Sd} (ho:aV st.out=(0,0,st.out)) (hq:∀x r,st.queue=x::r->st.front<x.length) (hfi:st.first<1024):ig st=st:=by
 unfold ig;simp only[ho,uf];have e:iy st.queue st.front=(0,0,st.front,st.queue):=by
  cases hqq:st.queue with
  |nil=>rfl
  |cons x r=>
   have:=hq x r hqq;rw[iy,aP (by omega)]
 rw[e];simp only[Nat.sub_zero,uf,ID hfi]
section
variable {D F:Nat->Prop} {g:Nat} {c:Cf} {st:Sd} {vq vo:Value} {vs os:List Value} {w:World}
theorem gu.aav (h:gu w D F g c st vq vs vo os) {x:Ou} {r:List Ou} {v:Value} {os':List Value} {GR:Value} (ho:st.out=x::r) (hos:os=v::os') (hq:fU w 0 138 GR r.length os') (hb:∀k,bM GR=some k->D k):
 gu (w.setCell ⟨g,12,none⟩ GR) D F g c {st with out:=r} vq vs GR os':=by
 subst hos;have hbk:=h.blk.ay 12 GR;have hlt:∀k,F k->k<(w.setCell ⟨g,12,none⟩ GR).heap.size:=fun k hk=>by
  have:=h.lt k hk;simpa[World.setCell] using this
 refine ⟨hbk,h.gd,h.sub,hlt,h.qr.store h.blk (by decide) _,h.qd,fun i p hi=> ?_,hq.store h.blk (by decide) _,hb,fun i y hi=> ?_,fun i j u hi hj=> ?_⟩
 ·obtain ⟨A,cc,e,hs,hf⟩:=h.qe i p hi;exact ⟨A,cc,e,hs.stay fun ad ea=>iE (fun e2=>(hf ad ea).2 (by
   have e3:ad.block=g:=e2;rw[e3];exact h.gd)),hf⟩
 ·obtain ⟨p,Ap,cp,vp,Ar,cr,e,hx⟩:=h.oe (i+1) y (by rw[ho];simpa using hi);exact ⟨p,Ap,cp,vp,Ar,cr,by simpa using e,hx.far h.gd (fun e=>h.blk.off hx.blk (by decide) e) 12 GR⟩
 ·have:=h.inj (i+1) (j+1) u (by simpa using hi) (by simpa using hj);omega
theorem gu.aaw (h:gu w D F g c st vq vs vo os) {x:List UInt8} {r:List (List UInt8)} {v:Value} {vs':List Value} {PT:Value} (ho:st.queue=x::r) (hos:vs=v::vs') (hq:fU w 0 31 PT r.length vs') (hb:∀k,bM PT=some k->D k):
 gu (w.setCell ⟨g,7,none⟩ PT) D F g c {st with queue:=r} PT vs' vo os:=by
 subst hos;have hbk:=h.blk.ay 7 PT;have hlt:∀k,F k->k<(w.setCell ⟨g,7,none⟩ PT).heap.size:=fun k hk=>by
  have:=h.lt k hk;simpa[World.setCell] using this
 refine ⟨hbk,h.gd,h.sub,hlt,hq.store h.blk (by decide) _,hb,fun i p hi=> ?_,h.yL.store h.blk (by decide) _,h.od,fun i y hi=> ?_,h.inj⟩
 ·obtain ⟨A,cc,e,hs,hf⟩:=h.qe (i+1) p (by rw[ho];simpa using hi);exact ⟨A,cc,by simpa using e,hs.stay fun ad ea=>iE (fun e2=>(hf ad ea).2 (by
   have e3:ad.block=g:=e2;rw[e3];exact h.gd)),hf⟩
 ·obtain ⟨p,Ap,cp,vp,Ar,cr,e,hx⟩:=h.oe i y hi;exact ⟨p,Ap,cp,vp,Ar,cr,e,hx.far h.gd (fun e=>h.blk.off hx.blk (by decide) e) 7 PT⟩
def YR (w:World) (D F:Nat->Prop) (g:Nat) (c:Cf) (st:Sd) (vq:Value) (vs:List Value) (E:Sd->Prop) (gk:Nat) (wr:World):Prop:=
 ∃st' GR os',gk=st'.out.length/\gu wr D F g c st' vq vs GR os'/\Kept (fun k _=>D k) w wr/\ig st'=ig st/\st'.taken=st'.front+sizes st'.out/\st'.taken<=1048576/\st'.queue=st.queue/\st'.first<1024/\st'.done=st.done/\st'.out.length<=512/\E st'
def agC (w:World) (D F:Nat->Prop) (g:Nat) (c:Cf) (st:Sd) (vo:Value) (os:List Value) (gk:Nat) (wr:World):Prop:=
 ∃st' PT vs',gk=st'.queue.length/\gu wr D F g c st' PT vs' vo os/\Kept (fun k _=>D k) w wr/\ig st'=ig st/\st'.front<=st'.taken/\st'.taken<=1048576/\st'.first<1024/\aV st'.out=(0,0,st'.out)/\st'.done+st'.queue.length<=9000000000000/\(∀s∈st'.queue,s.length<=9000)
theorem KW (h:gu w D F g c st vq vs vo os) (hI:st.taken=st.front+sizes st.out) (ht:st.taken<=1048576) (hf:st.first<1024) (hw:st.out.length<=512) (hd:st.done<=1000000000000) (hql:st.queue.length<=1048576) (hsd:∀s∈st.queue,s.length<=9000):
 Calls prog 147 #[.pointer (some g)] w fun e w'=>e= .returned (.tuple #[])/\∃PT vs' GR os',gu w' D F g c (ig st) PT vs' GR os'/\Kept (fun k _=>D k) w w':=by
 have HH:=ah h;have HI:=ah hI;have HSD:=ah hsd;clear h hI hsd;go_enter func147,ntmps147
 go_upto_block 0 with (fail)
 go_cut [] (fun wx=>∃gk,YR w D F g c st vq vs (fun s=>aV s.out=(0,0,s.out)) gk wx)
 case first=>
  go_wp2_with fail;go_loopg [] st.out.length (fun gk wr=>YR w D F g c st vq vs (fun _=>True) gk wr)
  case atStart=>exact ⟨st,vo,os,rfl,HH.out,Kept.refl _ w,rfl,HI.out,ht,rfl,hf,rfl,hw,trivial⟩
  case round=>
   obtain ⟨s1,vo1,os1,rfl,hA,hk,had,htk,htl,hqq,hfi,hdn,hol,-⟩:=hrel;have Bt:=hA.blk.cell 12;simp[fV] at Bt;cases hout:s1.out with
   |nil=>
    have hR:YR w D F g c st vq vs (fun s=>aV s.out=(0,0,s.out)) s1.out.length wr:=⟨s1,vo1,os1,rfl,hA,hk,had,htk,htl,hqq,hfi,hdn,hol,by show aV s1.out=(0,0,s1.out);rw[hout];rfl⟩;have HR:=ah hR;obtain ⟨A,cc,rfl,hs⟩:=hA.Ya;have hc1:=hs.cap;have hc2:=hs.mx;rw[hout] at hc1 Bt;simp only[gQ] at hc1 Bt;clear hA hk had htk hqq hdn hR hs hout;go_wp2;go_meet;exact ⟨_,HR.out⟩
   |cons x r=>
    obtain ⟨p,Ap,cp,vp,Ar,cr,he,ho⟩:=hA.oe 0 x (by rw[hout];rfl);obtain ⟨z0,z7,z8,z9,UE,Yb⟩:=ho.cells;have hq:=hA.yL;rw[hout] at hq;simp only[jh] at hq;obtain ⟨v,os2,hos⟩:∃v os2,os1=v::os2:=by
     cases hos:os1 with
     |nil=>rw[hos] at he;simp at he
     |cons v t=>exact ⟨v,t,rfl⟩
    subst hos;simp only[oH,sj] at he;subst he;obtain ⟨q,oo,cap,rfl,hcap1,hcap2⟩:∃q oo cap,vo1= .slice (some ⟨q,oo,none⟩) (r.length+1) cap/\r.length+1<=cap/\cap<=9223372036854775807:=by
     rcases hq.2 with ⟨_,h0⟩|⟨q,oo,cap,cur,e,_,_,h1,h2,_⟩
     ·omega
     ·exact ⟨q,oo,cap,e,h1,by unfold maxLen at h2;omega⟩
    have yq:=hq.cells 0 _ rfl;simp only[uf] at yq;cases hac:x.bJ with
    |false=>
     rw[hac] at z9;have hR:YR w D F g c st vq vs (fun s=>aV s.out=(0,0,s.out)) s1.out.length wr:=⟨s1,_,_,rfl,hA,hk,had,htk,htl,hqq,hfi,hdn,hol,by show aV s1.out=(0,0,s1.out);rw[hout];exact Nn fun y t e=>by cases e;exact hac⟩;have HR:=ah hR;clear hA hk had htk hqq hdn hR hq hout hac ho z0 z7 z8 UE Yb;go_wp2;go_meet;exact ⟨_,HR.out⟩
    |true=>
     rw[hac] at z9;have hsz:sizes s1.out=au x+sizes r:=by rw[hout,iL]
     have hfs:s1.front+au x<=1048576:=by omega
     have y9:=hA.blk.cell 9;have e9:=hA.blk.frozen 9;simp[fV] at y9;have hA1:=hA.rX 9 (.int .i64 ((s1.front:Int)+(au x:Nat))) (st':= {s1 with front:=s1.front+au x}) (by simp[fV]) rfl rfl;have hk1:=hk.setCell (p:=⟨g,9,none⟩) (fun _ _=>hA.gd) (.int .i64 ((s1.front:Int)+(au x:Nat)));have HA1:=ah hA1.drew;have yN:=ah hk1.drew;have HQ:=ah hq;have wP:=ah hout;have KI:=ah hsz;have HAC:=ah hac;have Q6:=ah had;have HQQ:=ah hqq;have HDN:=ah hdn;have PG:=ah htk;clear hA hk hA1 hk1 hq hout hsz hac had hqq hdn htk ho z0 z7 UE Yb;have hand:bits BinOp.and IntKind.i64 ((s1.first:Int)+1) 1023=(((s1.first+1)%1024:Nat):Int):=by rw[Au];omega
     go_wp2_with fail
     go_region
     generalize (wr.setCell ⟨g,9,none⟩ (.int .i64 ((s1.front:Int)+(au x:Nat)))).drew=w1 at*;clear y9 Bt e9 yq z8 z9;have Bt:=HA1.out.blk.cell 12;have e12:=HA1.out.blk.frozen 12;simp[fV] at Bt;have hq1:=HA1.out.yL;have hlo:({s1 with front:=s1.front+au x}:Sd).out.length=r.length+1:=by show s1.out.length=_;rw[wP.out];rfl
     rw[hlo] at hq1;have HQ:=ah hq1;clear hq1 hlo;by_cases hc1:cap=1
     ·subst hc1;obtain rfl:r= []:=nV (by omega);simp only[gQ,jA] at*;have Ot:fU w1 0 138 (.slice (some ⟨q,oo,none⟩) 0 0) 0 os2:=by
       have:=HQ.out.tail;rw[bD rfl] at this;exact this
      have hA2:=HA1.out.aav (x:=x) (r:= []) (v:= .pointer (some p)) (os':=os2) (GR:= .slice (some ⟨q,oo,none⟩) 0 0) wP.out rfl Ot (fun k hk=>HA1.out.od k hk);have Vk:=hA2.blk.cell 11;have e11:=hA2.blk.frozen 11;simp[fV] at Vk;have hA3:=hA2.rX 11 (.int .i64 (((s1.first+1)%1024:Nat):Int)) (st':=uY s1 x []) (by simp[fV,uY]) rfl rfl;have hk3:=(yN.out.setCell (p:=⟨g,12,none⟩) (fun _ _=>HA1.out.gd) (.slice (some ⟨q,oo,none⟩) 0 0)).setCell (p:=⟨g,11,none⟩) (fun _ _=>HA1.out.gd) (.int .i64 (((s1.first+1)%1024:Nat):Int));have Cg:=ah hA3;have qR:=ah hk3;have HAND:=ah hand;clear Ot hA2 hA3 hk3 hand;go_upto_region 3 with (fail)
      generalize w1.setCell ⟨g,12,none⟩ (.slice (some ⟨q,oo,none⟩) 0 0)=w2 at*;have hand:=HAND.out;go_wp2
      go_roundg 0
      case measure=>have:=wP.out;simp[this]
      case rel=>
       exact ⟨uY s1 x [],_,os2,rfl,Cg.out,qR.out,(JA wP.out HAC.out).trans Q6.out,by have:=PG.out;have:=KI.out;simp only[uY];omega,htl,HQQ.out,zI _ (by decide),HDN.out,by simp[uY],trivial⟩
     ·have hc2:¬cap=1:=hc1;have Ot:fU w1 0 138 (.slice (some ⟨q,oo+1,none⟩) r.length (cap-1)) r.length os2:=by
       have:=HQ.out.tail;rw[aP hc2] at this;exact this
      have hA2:=HA1.out.aav (x:=x) (r:=r) (v:= .pointer (some p)) (os':=os2) (GR:= .slice (some ⟨q,oo+1,none⟩) r.length (cap-1)) wP.out rfl Ot (fun k hk=>HA1.out.od k hk);have Vk:=hA2.blk.cell 11;have e11:=hA2.blk.frozen 11;simp[fV] at Vk;have hA3:=hA2.rX 11 (.int .i64 (((s1.first+1)%1024:Nat):Int)) (st':=uY s1 x r) (by simp[fV,uY]) rfl rfl;have hk3:=(yN.out.setCell (p:=⟨g,12,none⟩) (fun _ _=>HA1.out.gd) (.slice (some ⟨q,oo+1,none⟩) r.length (cap-1))).setCell (p:=⟨g,11,none⟩) (fun _ _=>HA1.out.gd) (.int .i64 (((s1.first+1)%1024:Nat):Int));have Cg:=ah hA3;have qR:=ah hk3;have HAND:=ah hand;clear Ot hA2 hA3 hk3 hand;go_upto_region 3 with (fail)
      generalize w1.setCell ⟨g,12,none⟩ (.slice (some ⟨q,oo+1,none⟩) r.length (cap-1))=w2 at*;have hand:=HAND.out;go_wp2
      go_roundg r.length
      case measure=>have:=wP.out;simp[this]
      case rel=>
       exact ⟨uY s1 x r,_,os2,rfl,Cg.out,qR.out,(JA wP.out HAC.out).trans Q6.out,by have:=PG.out;have:=KI.out;simp only[uY];omega,htl,HQQ.out,zI _ (by decide),HDN.out,by have:=wP.out;rw[this] at hol;simp at hol;simp only[uY];omega,trivial⟩
 case rest=>
 obtain ⟨gk0,st1,vo1,os1,-,hA1,hk1,agE,alr,agF,acy,agG,agH,als,agI⟩:=hcut;have H1:agC w D F g c st vo1 os1 st1.queue.length wc:=⟨st1,vq,vs,rfl,hA1,hk1,agE,by omega,agF,agG,agI,by rw[acy,agH];omega,fun s hs=>HSD.out s (by rw[<-acy];exact hs)⟩;have H1H:=ah H1;clear hA1 hk1 agE alr agF acy agG agH als agI H1 HH HI HSD hw hd hql ht hf;go_wp2_with fail;go_loopg [] st1.queue.length (fun gk wr=>agC w D F g c st vo1 os1 gk wr)
 case atStart=>exact H1H.out
 case round=>
  obtain ⟨s1,vq1,vs1,rfl,hA,hk,had,hft,htl,hfi,hao,hdn,hsd⟩:=hrel;have y7:=hA.blk.cell 7;have y9:=hA.blk.cell 9;simp[fV] at y7 y9;clear H1H;cases hout:s1.queue with
  |nil=>
   have hR:ig st=s1:=by rw[<-had];exact Np hao (fun x r e=>by rw[hout] at e;cases e) hfi
   have HR:=ah hR;have HA:=ah hA;have HK:=ah hk;obtain ⟨A,cc,rfl,hs⟩:=hA.WV;have hc1:=hs.sl.cap;have hc2:=hs.sl.mx;rw[hout] at hc1 y7;simp only[gQ] at hc1 y7;clear hA hk had hR hs hout hao;go_wp2
   go_quiet (fail)
   go_wp2
   go_end0
   rw[HR.out];exact ⟨rfl,_,_,_,_,HA.out.drewN _,HK.out.jI _⟩
  |cons x r=>
   have hq:=hA.qr;rw[hout] at hq;simp only[jh] at hq;obtain ⟨v,vs2,hos⟩:∃v vs2,vs1=v::vs2:=by
    cases hos:vs1 with
    |nil=>rw[hos] at hq;have:=hq.1;simp at this
    |cons v t=>exact ⟨v,t,rfl⟩
   subst hos;obtain ⟨Ax,cx,hex,hsx,_⟩:=hA.qe 0 x (by rw[hout];rfl);simp only[oH,sj] at hex;subst hex;have hxc:=hsx.cap;have hxm:=hsx.mx;have hx9:=hsd x (by rw[hout];simp);obtain ⟨q,oo,cap,rfl,hcap1,hcap2⟩:∃q oo cap,vq1= .slice (some ⟨q,oo,none⟩) (r.length+1) cap/\r.length+1<=cap/\cap<=9223372036854775807:=by
    rcases hq.2 with ⟨_,h0⟩|⟨q,oo,cap,cur,e,_,_,h1,h2,_⟩
    ·omega
    ·exact ⟨q,oo,cap,e,h1,by unfold maxLen at h2;omega⟩
   have yq:=hq.cells 0 _ rfl;simp only[uf] at yq;by_cases hge:x.length<=s1.front
   ·have d1:decide (x.length<=s1.front)=true:=iK hge;have HAO:=ah hao;have Q6:=ah had;have alu:=ah hsd;have wP:=ah hout;have HDN:=ah hdn;have ase:s1.done+(r.length+1)<=9000000000000:=by rw[hout] at hdn;simpa using hdn
    have HA:=ah hA;have HK:=ah hk;clear hA hk had hao hsd hout hdn hq hsx;go_wp2_with fail
    go_quiet (fail)
    go_wp2_with fail;have Nj:=HA.out.drewN nq;have hk0:=HK.out.jI nq;clear y7 y9 yq;generalize wr.drewN nq=w0 at*;have y9:=Nj.blk.cell 9;have KQ:=Nj.blk.cell 10;have e9:=Nj.blk.frozen 9;have e10:=Nj.blk.frozen 10;simp[fV] at y9 KQ;have hA1:=((Nj.rX 9 (.int .i64 ((s1.front:Int)-(x.length:Nat))) (st':= {s1 with front:=s1.front-x.length}) (by simp[fV];omega) rfl rfl).rX 10 (.int .i64 ((s1.taken:Int)-(x.length:Nat))) (st':= {s1 with front:=s1.front-x.length,taken:=s1.taken-x.length}) (by simp[fV];omega) rfl rfl).drew;have hk1:=((hk0.setCell (p:=⟨g,9,none⟩) (fun _ _=>Nj.gd) (.int .i64 ((s1.front:Int)-(x.length:Nat)))).setCell (p:=⟨g,10,none⟩) (fun _ _=>Nj.gd) (.int .i64 ((s1.taken:Int)-(x.length:Nat)))).drew;have HA1:=ah hA1;have yN:=ah hk1;clear Nj hk0 hA1 hk1 HA HK;refine bX (fun w'=>w'.cell? ⟨g,9,none⟩=some (.int .i64 (s1.front:Nat))/\w'.cell? ⟨g,10,none⟩=some (.int .i64 (s1.taken:Nat))) [16,19] (by kernel_rfl) ?_;have hHeld:w0.drew.cell? ⟨g,9,none⟩=some (.int .i64 (s1.front:Nat))/\w0.drew.cell? ⟨g,10,none⟩=some (.int .i64 (s1.taken:Nat)):=⟨y9,KQ⟩;refine aW 0 ?_;refine aW 1 ?_;refine aW 2 ?_;refine aW 3 ?_;refine aW 4 ?_;refine jq [16,19] 5 ?_;refine aW 6 ?_;refine aW 7 ?_;refine aW 8 ?_;refine aW 9 ?_;refine aW 10 ?_;refine jq [16,19] 11 ?_;refine aW 12 ?_;refine aW 13 ?_;refine aW 14 ?_;refine aW 15 ?_;refine dB (i:=16) rfl (by kernel_rfl) (by kernel_rfl) (by rfl) (fun K hK=> ?_);go_simp;refine hK _ _ ?_;clear hK K
    try simp only[Act.put,gJ]
    refine xL 17 ?_;refine xL 18 ?_;refine dB (i:=19) rfl (by kernel_rfl) (by kernel_rfl) (by rfl) (fun K hK=> ?_);go_simp;refine hK _ _ ?_;clear hK K
    try simp only[Act.put,gJ]
    refine bW (by kernel_rfl) ?_ _;rw[iG ((s1.front:Int)-(x.length:Nat)) (by omega),iG ((s1.taken:Int)-(x.length:Nat)) (by omega)];generalize ((w0.setCell ⟨g,9,none⟩ (.int .i64 ((s1.front:Int)-(x.length:Nat)))).setCell ⟨g,10,none⟩ (.int .i64 ((s1.taken:Int)-(x.length:Nat)))).drew=w1 at*;clear y9 KQ e9 e10 hHeld;have y7:=HA1.out.blk.cell 7;have e7:=HA1.out.blk.frozen 7;simp[fV] at y7;have hq1:=HA1.out.qr;have hlo:({s1 with front:=s1.front-x.length,taken:=s1.taken-x.length}:Sd).queue.length=r.length+1:=by show s1.queue.length=_;rw[wP.out];rfl
    rw[hlo] at hq1;have HQ:=ah hq1;clear hq1 hlo;by_cases hc1:cap=1
    ·subst hc1;obtain rfl:r= []:=nV (by omega);simp only[gQ,jA] at*;have Ot:fU w1 0 31 (.slice (some ⟨q,oo,none⟩) 0 0) 0 vs2:=by
      have:=HQ.out.tail;rw[bD rfl] at this;exact this
     have hA2:=HA1.out.aaw (x:=x) (r:= []) (v:= .slice Ax x.length cx) (vs':=vs2) (PT:= .slice (some ⟨q,oo,none⟩) 0 0) wP.out rfl Ot (fun k hk=>HA1.out.qd k hk);have y8:=hA2.blk.cell 8;have e8:=hA2.blk.frozen 8;simp[fV] at y8;have hA3:=hA2.rX 8 (.int .i64 ((s1.done:Int)+1)) (st':=tC s1 x []) (by simp[fV,tC]) rfl rfl;have hk3:=(yN.out.setCell (p:=⟨g,7,none⟩) (fun _ _=>HA1.out.gd) (.slice (some ⟨q,oo,none⟩) 0 0)).setCell (p:=⟨g,8,none⟩) (fun _ _=>HA1.out.gd) (.int .i64 ((s1.done:Int)+1));have Cg:=ah hA3;have qR:=ah hk3;clear Ot hA2 hA3 hk3;go_upto_region 8 with (fail)
     generalize w1.setCell ⟨g,7,none⟩ (.slice (some ⟨q,oo,none⟩) 0 0)=w2 at*;go_wp2
     go_roundg 0
     case measure=>have:=wP.out;simp[this]
     case rel=>
      exact ⟨tC s1 x [],_,vs2,rfl,Cg.out,qR.out,(JB wP.out hge HAO.out hfi).trans Q6.out,by simp only[tC];omega,by simp only[tC];omega,hfi,HAO.out,by show s1.done+1+0<=_;omega,fun s hs=>by simp[tC] at hs⟩
    ·have hc2:¬cap=1:=hc1;have Ot:fU w1 0 31 (.slice (some ⟨q,oo+1,none⟩) r.length (cap-1)) r.length vs2:=by
      have:=HQ.out.tail;rw[aP hc2] at this;exact this
     have hA2:=HA1.out.aaw (x:=x) (r:=r) (v:= .slice Ax x.length cx) (vs':=vs2) (PT:= .slice (some ⟨q,oo+1,none⟩) r.length (cap-1)) wP.out rfl Ot (fun k hk=>HA1.out.qd k hk);have y8:=hA2.blk.cell 8;have e8:=hA2.blk.frozen 8;simp[fV] at y8;have hA3:=hA2.rX 8 (.int .i64 ((s1.done:Int)+1)) (st':=tC s1 x r) (by simp[fV,tC]) rfl rfl;have hk3:=(yN.out.setCell (p:=⟨g,7,none⟩) (fun _ _=>HA1.out.gd) (.slice (some ⟨q,oo+1,none⟩) r.length (cap-1))).setCell (p:=⟨g,8,none⟩) (fun _ _=>HA1.out.gd) (.int .i64 ((s1.done:Int)+1));have Cg:=ah hA3;have qR:=ah hk3;clear Ot hA2 hA3 hk3;go_upto_region 8 with (fail)
     generalize w1.setCell ⟨g,7,none⟩ (.slice (some ⟨q,oo+1,none⟩) r.length (cap-1))=w2 at*;go_wp2
     go_roundg r.length
     case measure=>have:=wP.out;simp[this]
     case rel=>
      exact ⟨tC s1 x r,_,vs2,rfl,Cg.out,qR.out,(JB wP.out hge HAO.out hfi).trans Q6.out,by simp only[tC];omega,by simp only[tC];omega,hfi,HAO.out,by show s1.done+1+r.length<=_;omega,fun s hs=>alu.out s (by rw[wP.out];exact List.mem_cons_of_mem _ hs)⟩
   ·have d1:decide (x.length<=s1.front)=false:=iP hge;have hR:ig st=s1:=by rw[<-had];exact Np hao (fun y t e=>by rw[hout] at e;cases e;omega) hfi
    have HR:=ah hR;have HA:=ah hA;have HK:=ah hk;clear hA hk had hR hout hao hq hsx;go_wp2_with fail
    go_quiet (fail)
    go_wp2
    go_end0
    rw[HR.out];exact ⟨rfl,_,_,_,_,HA.out.drewN _,HK.out.jI _⟩
end
section
variable {D F:Nat->Prop} {g:Nat} {c:Cf} {st:Sd} {vq vo:Value} {vs os:List Value} {w:World}
def behind (st:Sd) (m:Int) (x:Nk):Bool:=decide (m<=eP st x.sn)
theorem Vu (h:gu w D F g c st vq vs vo os) (h1:st.first<1024) (bs bn:Nat) (m:Int) (hs:av w bs 49 #[.pointer (some g)]) (hn:av w bn 3 #[m]) (x:Nk) (hx:0<=x.sn/\x.sn<=1023):
 Calls prog 144 #[.agg (nU x),.pointer (some bs),.pointer (some bn)] w fun e w'=>e= .returned (.bool (behind st m x))/\Below w w w':=by
 have hB:Below w w (w.alloc (.cells (nU x) 197)):=(bS _ w).alloc (aL) _;have s0:=(hs.below hB hs.lt).cell 0;have n0:=(hn.below hB hn.lt).cell 0;have hA:=h.below hB;have Kk:=ah (fun (k:Nat)=>yM (hA.drewN k) h1 x.sn hx);have HB:=ah hB;simp[nU] at s0 n0;have b0:(w.alloc (.cells (nU x) 197)).cell? w=some (.int .i64 x.sn):=(av.new w 197 (nU x)).cell 0;clear hA h hs hn hB;unfold nU at*;go_enter func144,ntmps144;go_upto_region 1 with (fail)
 generalize w.alloc (.cells #[x.sn,.bool x.part,x.fr,x.lt] 197)=w1 at*
 go_quiet ((go_at_call 142;exact ve ((Kk.out _).mono fun _ _ hh=>⟨hh.1,hh.2.symm⟩)))
 go_wp2;go_ret;exact ⟨rfl,HB.out.drewN _⟩
theorem Vv (h:gu w D F g c st vq vs vo os) (h1:st.first<1024) (bs bn:Nat) (m:Int) (hs:av w bs 49 #[.pointer (some g)]) (hn:av w bn 3 #[m])
 (A:Option Addr) (n cc:Nat) (l:List Nk) (hN:dD w A n cc l) (hx:∀x∈l,0<=x.sn/\x.sn<=1023):
 Calls prog 184 #[.slice A n cc,.func (.func 144) #[] #[.pointer (some bs),.pointer (some bn)]] w
  fun e w'=>(∃i:Int,e= .returned (.int .i64 i)/\decide (0<=i)=l.any (behind st m))/\Below w w w':=by
 have hcap:=hN.cap;have hmx:=hN.mx;have HL:=ah hN.len;have HN:=ah hN;have HC:=ah (fun (W:World) (hW:Below w w W) (x:Nk) (hx:0<=x.sn/\x.sn<=1023)=>Vu (h.below hW) h1 bs bn m (hs.below hW hs.lt) (hn.below hW hn.lt) x hx);have HX:=ah hx;clear h hs hn hN hx;unfold nU at HC;go_enter func184,ntmps184;go_wp2
 go_loopw [8] (fun i wr=>∃k:Nat,k<=n/\i= .int .i64 k/\Below w w wr/\∀(j:Nat) (y:Nk),j<k->l[j]? =some y->behind st m y=false) (fun i _=>n-(intOf i).toNat)
 case atStart=>exact ⟨0,eH _,rfl,bS _ _,fun j y hj=>by omega⟩
 case round=>
  obtain ⟨k,hk,rfl,hb,hall⟩:=hrel;have HA:=ah hall;clear hall;by_cases hlt:k<n
  ·obtain ⟨x,hx⟩:∃x,l[k]? =some x:=⟨_,gX (by have:=HL.out;omega)⟩
   obtain ⟨ad,rfl,FC,hcl⟩:=(HN.out.below hb).at_ (by omega);obtain ⟨k0,k1,k2,k3⟩:=hcl k x hx;have hcall:=HC.out wr hb x (HX.out x (iT hx));have HK:=ah hx;have HCC:=ah hcall;have HB:=ah hb;clear hx hcl hcall hb;go_wp2_with fail;refine HCC.out.mono ?_;rintro e1 w1 ⟨rfl,hb1⟩;have HB1:=ah (HB.out.trans (hb1.mono HB.out.size));clear hb1 k0 k1 k2 k3;cases hq:behind st m x with
   |false=>
    have HQ:=ah hq;clear hq;go_wp2
    go_round
    case rel=>
     refine ⟨k+1,by omega,by go_num,HB1.out,fun j y hj hy=> ?_⟩;rcases kD j k with h2|h2
     ·exact HA.out j y h2 hy
     ·rw[show j=k by omega,HK.out] at hy;cases hy;exact HQ.out
    case measure=>simp[intOf];omega
   |true=>
    have HQ:=ah hq;clear hq;go_wp2;go_ret;refine ⟨⟨_,rfl,?_⟩,HB1.out⟩;rw[Eu.2 ⟨x,iT HK.out,HQ.out⟩];simp
  ·have HB:=ah hb;clear hb;go_wp2;go_ret;refine ⟨⟨_,rfl,?_⟩,HB.out⟩;have:l.any (behind st m)=false:=by
    rw[List.any_eq_false];intro y hy;obtain ⟨j,hj⟩:=El.1 hy;have:=HA.out j y (by have:=(pN.1 hj).1;have:=HL.out;omega) hj;simp[this]
   rw[this];rfl
theorem SA (h:gu w D F g c st vq vs vo os) (h1:st.first<1024) (bs bn:Nat) (m:Int) (hs:av w bs 49 #[.pointer (some g)]) (hn:av w bn 3 #[m])
 (A:Option Addr) (n cc:Nat) (l:List Nk) (hN:dD w A n cc l) (hx:∀x∈l,0<=x.sn/\x.sn<=1023):
 Calls prog 143 #[.slice A n cc,.func (.func 144) #[] #[.pointer (some bs),.pointer (some bn)]] w
  fun e w'=>e= .returned (.bool (l.any (behind st m)))/\Below w w w':=by
 have hix:=Vv h h1 bs bn m hs hn A n cc l hN hx;have TF:=ah hix;clear h hs hn hN hx hix;go_enter func143,ntmps143;go_wp2_with fail;refine TF.out.mono ?_;rintro e1 w1 ⟨⟨i,rfl,hi⟩,hb⟩;have HI:=ah hi;have HB:=ah hb;clear hi hb;go_wp2;go_ret;exact ⟨dm HI.out,HB.out⟩
end
end Go.Proofs.YtbhiklnljiehiaaGreat
