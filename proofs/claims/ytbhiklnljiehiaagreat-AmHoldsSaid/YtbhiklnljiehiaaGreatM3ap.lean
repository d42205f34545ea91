/- amsend: writes to the transmitter's memo. -/
import Derived.Test.YtbhiklnljiehiaaGreatM3an
set_option maxHeartbeats 1000000
set_option maxRecDepth 100000
namespace Go.Proofs.YtbhiklnljiehiaaGreat
open RowKit Shelf Tryz
attribute [local go_sem] Oper.semAt_some
section
variable {D F F':Nat->Prop} {g:Nat} {c:Cf} {st st':Sd} {vq vo:Value} {vs os:List Value} {w w':World}
theorem Kt.mono {A:Option Addr} (h:Kt F D A) (hf:∀k,F k->F' k):Kt F' D A:=fun ad e=>⟨hf _ (h ad e).1,(h ad e).2⟩
theorem jv.ME {p:Nat} {x:Ou} {Ap Ar:Option Addr} {cp cr:Nat} {vp:List Value} (h:jv w D F p x Ap cp vp Ar cr) (hf:∀k,F k->F' k):jv w D F' p x Ap cp vp Ar cr:=
 ⟨h.blk,h.d,hf p h.f,h.ps,h.pf.mono hf,fun i v hv=>(h.pe i v hv).mono hf,h.rs,h.rf.mono hf⟩
theorem gu.ME (h:gu w D F g c st vq vs vo os) (hf:∀k,F k->F' k) (hl:∀k,F' k->k<w.heap.size):gu w D F' g c st vq vs vo os:=
 ⟨h.blk,h.gd,fun k hk=>hf k (h.sub k hk),hl,h.qr,h.qd,fun i p hi=>let ⟨A,cc,e,hs,hi'⟩:=h.qe i p hi;⟨A,cc,e,hs,hi'.mono hf⟩,h.yL,h.od,
  fun i x hi=>let ⟨p,Ap,cp,vp,Ar,cr,e,ho⟩:=h.oe i x hi;⟨p,Ap,cp,vp,Ar,cr,e,ho.ME hf⟩,h.inj⟩
theorem iE {p:Addr} {u:Value} {k:Nat} (hk:k≠p.block):(w.setCell p u).heap[k]? =w.heap[k]? :=lZ w p u k hk
theorem jv.far {p b:Nat} {x:Ou} {Ap Ar:Option Addr} {cp cr:Nat} {vp:List Value} (h:jv w D F p x Ap cp vp Ar cr) (hD:D b) (hne:b≠p) (j:Nat) (u:Value):jv (w.setCell ⟨b,j,none⟩ u) D F p x Ap cp vp Ar cr:=by
 have nd:∀{A:Option Addr},Kt F D A->∀ad,A=some ad->(w.setCell ⟨b,j,none⟩ u).heap[ad.block]? =w.heap[ad.block]? :=fun hi ad e=>iE (fun e2=>(hi ad e).2 (by
  have e3:ad.block=b:=e2;rw[e3];exact hD))
 exact ⟨(iE (fun e=>hne (by have e3:p=b:=e;exact e3.symm))).trans h.blk,h.d,h.f,h.ps.stay (nd h.pf) (fun i v ad hv e=>nd (h.pe i v hv) ad e),h.pf,h.pe,h.rs.stay (nd h.rf),h.rf⟩
theorem gu.rX (h:gu w D F g c st vq vs vo os) (j:Nat) (u:Value) (he:(fV c vq vo st).setIfInBounds j u=fV c vq vo st') (hq:st'.queue=st.queue) (ho:st'.out=st.out):gu (w.setCell ⟨g,j,none⟩ u) D F g c st' vq vs vo os:=by
 have hb:=h.blk.ay j u;rw[he] at hb;have hDg:=h.gd;have nd:∀{A:Option Addr},Kt F D A->∀ad,A=some ad->(w.setCell ⟨g,j,none⟩ u).heap[ad.block]? =w.heap[ad.block]? :=fun hi ad e=>iE (fun e2=>(hi ad e).2 (by
  have e3:ad.block=g:=e2;rw[e3];exact hDg))
 refine ⟨hb,h.gd,h.sub,fun k hk=>by simpa[World.setCell] using h.lt k hk,by rw[hq];exact h.qr.store h.blk (by decide) u,h.qd,fun i p hi=> ?_,by rw[ho];exact h.yL.store h.blk (by decide) u,h.od,fun i x hi=> ?_,h.inj⟩
 ·rw[hq] at hi;obtain ⟨A,cc,e,hs,hf⟩:=h.qe i p hi;exact ⟨A,cc,e,hs.stay (nd hf),hf⟩
 ·rw[ho] at hi;obtain ⟨p,Ap,cp,vp,Ar,cr,e,hx⟩:=h.oe i x hi;refine ⟨p,Ap,cp,vp,Ar,cr,e,hx.far hDg (fun e2=> ?_) j u⟩;subst e2;have h1:=h.blk;have h2:=hx.blk;unfold av at h1 h2;rw[h1] at h2;injection h2 with h3
  injection h3 with _ h4
  exact absurd h4 (by decide)
theorem gu.O1 (h:gu w D F g c st vq vs vo os) {i p:Nat} {x z:Ou} {Ap Ar QL:Option Addr} {cp cr RO:Nat} {vp:List Value} (hx:st.out[i]? =some x) (hp:os[i]? =some (.pointer (some p))) (hO:jv w D F p x Ap cp vp Ar cr)
 (j:Nat) (u:Value) (he:(My x (.slice Ap x.ps.length cp) (.slice Ar x.pend.length cr)).setIfInBounds j u=My z (.slice Ap z.ps.length cp) (.slice QL z.pend.length RO)) (hz:z.ps=x.ps) (hr:fQ w QL z.pend.length RO z.pend) (hf:Kt F D QL):
 gu (w.setCell ⟨p,j,none⟩ u) D F g c {st with out:=st.out.set i z} vq vs vo os/\jv (w.setCell ⟨p,j,none⟩ u) D F p z Ap cp vp QL RO:=by
 have hb:=hO.blk.ay j u;rw[he] at hb;have hDp:=hO.d;have hgp:g≠p:=fun e2=>by
  subst e2;have h1:=h.blk;have h2:=hO.blk;unfold av at h1 h2;rw[h1] at h2;injection h2 with h3
  injection h3 with _ h4
  exact absurd h4 (by decide)
 have nd:∀{A:Option Addr},Kt F D A->∀ad,A=some ad->(w.setCell ⟨p,j,none⟩ u).heap[ad.block]? =w.heap[ad.block]? :=fun hi ad e=>iE (fun e2=>(hi ad e).2 (by
  have e3:ad.block=p:=e2;rw[e3];exact hDp))
 have hZ:jv (w.setCell ⟨p,j,none⟩ u) D F p z Ap cp vp QL RO:=by
  have hps:=hO.ps.stay (w':=w.setCell ⟨p,j,none⟩ u) (nd hO.pf) (fun i v ad hv e=>nd (hO.pe i v hv) ad e);exact ⟨hb,hO.d,hO.f,by rw[hz];exact hps,hO.pf,hO.pe,hr.stay (nd hf),hf⟩
 refine ⟨⟨(iE (fun e=>hgp e)).trans h.blk,h.gd,h.sub,fun k hk=>by simpa[World.setCell] using h.lt k hk,h.qr.store hO.blk (by decide) u,h.qd,fun i q hi=> ?_,?_,h.od,fun k y hk=> ?_,h.inj⟩,hZ⟩
 ·obtain ⟨A,cc,e,hs,hf⟩:=h.qe i q hi;exact ⟨A,cc,e,hs.stay (nd hf),hf⟩
 ·have:=h.yL.store hO.blk (i:=j) (by decide) u;have hl:(st.out.set i z).length=st.out.length:=Dr;show fU _ 0 _ vo (st.out.set i z).length os
  rw[hl];exact this
 ·have hk':(st.out.set i z)[k]? =some y:=hk;by_cases hki:i=k
  ·subst hki;rw[Iy (pN.1 hx).1] at hk';cases hk';exact ⟨p,Ap,cp,vp,QL,RO,hp,hZ⟩
  ·rw[LU hki] at hk';obtain ⟨q,A1,c1,v1,A2,c2,e,hy⟩:=h.oe k y hk';refine ⟨q,A1,c1,v1,A2,c2,e,hy.far hDp (fun e2=>hki ?_) j u⟩;subst e2;exact h.inj i k _ hp e
end
def pK (w:World) (D F:Nat->Prop) (g:Nat) (c:Cf) (st:Sd) (w':World):Prop:=
 ∃D' F' vq vs vo os,gu w' D' F' g c st vq vs vo os/\dU w D D'/\dU w F F'/\Kept (fun k _=>D k) w w'
section
variable {D F D' F':Nat->Prop} {g:Nat} {c:Cf} {st st':Sd} {vq vo:Value} {vs os:List Value} {w w' w'':World}
theorem Kept.step (h:Kept (fun k _=>D k) w w') (h':Kept (fun k _=>D' k) w' w'') (hg:dU w D D'):Kept (fun k _=>D k) w w'':=
 ⟨h'.os.trans h.os,h'.tape.trans h.tape,h'.output.trans h.output,gG h.size h'.size,fun i x hi hn=>h'.same i x (h.same i x hi hn) fun hd=>by
  rcases hg i hd with e|e
  ·exact hn e
  ·have:=lt_of_heap hi;omega⟩
theorem gu.o (h:gu w' D F g c st vq vs vo os) (hk:Kept (fun k _=>D k) w w'):pK w D F g c st w':=
 ⟨D,F,vq,vs,vo,os,h,dU.refl _ _,dU.refl _ _,hk⟩
theorem pK.step (hk:Kept (fun k _=>D k) w w') (hD:dU w D D') (hF:dU w F F') (h:pK w' D' F' g c st w''):pK w D F g c st w'':=by
 obtain ⟨D2,F2,vq,vs,vo,os,h1,h2,h3,h4⟩:=h;exact ⟨D2,F2,vq,vs,vo,os,h1,hD.trans h2 hk.size,hF.trans h3 hk.size,hk.step h4 hD⟩
theorem Kept.jI {M:Nat->Obj->Prop} (h:Kept M w w') (k:Nat):Kept M w (w'.drewN k):=⟨h.os,h.tape,h.output,h.size,h.same⟩
theorem pK.drewN (h:pK w D F g c st w') (k:Nat):pK w D F g c st (w'.drewN k):=by
 obtain ⟨D2,F2,vq,vs,vo,os,h1,h2,h3,h4⟩:=h;exact ⟨D2,F2,vq,vs,vo,os,h1.drewN k,h2,h3,h4.jI k⟩
theorem pK.alloc (h:pK w D F g c st w') (o:Obj):pK w D F g c st (w'.alloc o):=by
 obtain ⟨D2,F2,vq,vs,vo,os,h1,h2,h3,h4⟩:=h;exact ⟨D2,F2,vq,vs,vo,os,h1.alloc o,h2,h3,h4.alloc o⟩
theorem pK.put {w0:World} (h:pK w0 D F g c st w') (hk:Kept (fun k _=>D k) w w0) {b:Nat} (hb:w<=b) (hb0:b<w0) (hF:∀k,F k->k<w.heap.size) (_hD:∀k,D k->F k) (j:Nat) (u:Value):pK w D F g c st (w'.setCell ⟨b,j,none⟩ u):=by
 obtain ⟨D2,F2,vq,vs,vo,os,h1,h2,h3,h4⟩:=h;have hnf:¬F2 b:=fun hf=>by
  rcases h3 b hf with e|e
  ·have:=hF b e;omega
  ·omega
 refine ⟨D2,F2,vq,vs,vo,os,h1.stay fun k hk=>iE (fun e=>hnf ?_),fun k hk'=> ?_,fun k hk'=> ?_,(hk.trans h4).setCell (fun o ho=> ?_) u⟩
 ·have e2:k=b:=e;rw[<-e2];exact hk
 ·rcases h2 k hk' with e|e
  ·exact .inl e
  ·have:=hk.size;exact .inr (by omega)
 ·rcases h3 k hk' with e|e
  ·exact .inl e
  ·have:=hk.size;exact .inr (by omega)
 ·have:b<w:=lt_of_heap ho;omega
theorem pK.kept (h:pK w D F g c st w'):Kept (fun k _=>D k) w w':=h.choose_spec.choose_spec.choose_spec.choose_spec.choose_spec.choose_spec.2.2.2
theorem gu.aac (h:gu w D F g c st vq vs vo os) {b:Nat} (hb:b<w):gu w D (fun k=>F k\/k=b) g c st vq vs vo os:=
 h.ME (fun _=> .inl) fun k hk=>by
  rcases hk with hk|rfl
  ·exact h.lt k hk
  ·exact hb
theorem dU.one (hb:w<=g):dU w F (fun k=>F k\/k=g):=fun k hk=>by
 rcases hk with hk|rfl
 ·exact .inl hk
 ·exact .inr hb
theorem gu.fresh (h:gu w D F g c st vq vs vo os) {b:Nat} (hb:w<=b):¬D b:=fun hd=>by
 have:=h.lt b (h.sub b hd);omega
end
section
variable {D F:Nat->Prop} {g:Nat} {c:Cf} {st:Sd} {vq vo:Value} {vs os:List Value} {w:World}
theorem Cc (h:gu w D F g c st vq vs vo os) (now:Int):
 Calls prog 77 #[.pointer (some g),now] w fun e w'=>e= .returned (.tuple #[])/\gu w' D F g c (cO st now) vq vs vo os/\Kept (fun k _=>D k) w w':=by
 have x20:=h.blk.cell 20;have f20:=h.blk.frozen 20;simp[fV] at x20;have hs:=fun u he=>h.rX 20 (.int .i64 u) (st':= {st with now:=u}) he rfl rfl
 have HS:=ah hs;have HD:=ah h.gd;by_cases hlt:st.now<now
 ·have hc:cO st now= {st with now:=now}:=by unfold cO;rw[bD hlt]
  rw[hc];have hle:st.now<=now:=by omega
  clear h hs hc;go_enter func77,ntmps77;go_wp2
  go_end0
  exact ⟨rfl,HS.out now rfl,(Kept.refl _ w).setCell (p:=⟨g,20,none⟩) (fun _ _=>HD.out) _⟩
 ·have hc:cO st now= {st with now:=st.now}:=by unfold cO;rw[aP hlt]
  rw[hc];clear h hs hc;go_enter func77,ntmps77;go_wp2
  go_end0
  exact ⟨rfl,HS.out st.now rfl,(Kept.refl _ w).setCell (p:=⟨g,20,none⟩) (fun _ _=>HD.out) _⟩
theorem Fq (h:gu w D F g c st vq vs vo os) (hf:st.failed=false):
 Calls prog 116 #[.pointer (some g)] w fun e w'=>e= .returned (.tuple #[])/\w=w':=by
 have X9:=h.blk.cell 19;simp[fV] at X9;rw[hf] at X9;clear h hf;go_enter func116,ntmps116;go_wp2
 go_end0
 exact ⟨rfl,rfl⟩
abbrev O3:Ending:= .panicked [{v:= .iface 191 (.agg #[]),recovered:=false}]
theorem Ce (h:gu w D F g c st vq vs vo os) (hf:st.failed=true):
 Calls prog 116 #[.pointer (some g)] w fun e w'=>e=O3/\w=w':=by
 have X9:=h.blk.cell 19;simp[fV] at X9;rw[hf] at X9;clear h hf;unfold O3;go_enter func116,ntmps116;go_wp2;exact ⟨rfl,rfl,rfl⟩
theorem Jd (h:gu w D F g c st vq vs vo os) (hsum:aH st<=1048576) (hn:st.out.length<=1000000):
 Calls prog 131 #[.pointer (some g)] w fun e w'=>e= .returned (.bool (dH st))/\afe w w':=by
 have hpe:=fun k=>Aw (h.drewN k) hn
 have QB:=fun k=>Jc (h.drewN k) hsum
 have HP:=ah hpe;have HE:=ah QB;have x10:=h.blk.cell 10;have MC:=h.blk.cell 12;simp[fV] at x10 MC;clear hpe QB;unfold QK at HP;cases hpa:gZ st.out with
 |some i=>
  rw[hpa] at HP;obtain ⟨x,hx,_⟩:=fH hpa;obtain ⟨p,Ap,cp,vp,Ar,cr,he,ho⟩:=h.oe i x hx;have hg:os[i]?.getD (.pointer none)= .pointer (some p):=by rw[he];rfl
  simp only[hg] at HP;have hfin:dH st=false:=by unfold dH;rw[hpa];rfl
  rw[hfin];clear h hpa hx he ho hg hfin;go_enter func131,ntmps131;go_wp2
  go_quiet ((go_at_call 84;exact ve ((HP.out _).mono fun _ _ hh=>⟨hh.1,hh.2.symm⟩)))
  go_wp2;go_ret;refine ⟨rfl,?_⟩;exact ⟨_,rfl⟩
 |none=>
  rw[hpa] at HP;simp only at HP;obtain ⟨A,cc,rfl,hs⟩:=h.Ya;have hcap:=hs.cap;have hmx:=hs.mx;have hfin:dH st=(decide (st.taken=aH st)||decide (512<=st.out.length)):=by unfold dH;rw[hpa];rfl
  rw[hfin];clear h hs hpa hfin;generalize aH st=H at*;by_cases ht:st.taken=H
  ·rw[iK ht];have d1:((st.taken:Int)==(H:Int))=true:=by simp;omega
   have d2:decide (st.taken=H)=true:=iK ht;have HT:=ah ht;clear ht;go_enter func131,ntmps131;go_wp2
   go_quiet ((first|(go_at_call 84;exact ve ((HP.out _).mono fun _ _ hh=>⟨hh.1,hh.2.symm⟩))|(go_at_call 102;exact ve ((HE.out _).mono fun _ _ hh=>⟨hh.1,hh.2.symm⟩))))
   go_wp2;go_ret;refine ⟨rfl,?_⟩;exact ⟨_,rfl⟩
  ·rw[iP ht];have d1:((st.taken:Int)==(H:Int))=false:=by simp;omega
   have d2:decide (st.taken=H)=false:=iP ht;have HT:=ah ht;clear ht;go_enter func131,ntmps131;go_wp2
   go_quiet ((first|(go_at_call 84;exact ve ((HP.out _).mono fun _ _ hh=>⟨hh.1,hh.2.symm⟩))|(go_at_call 102;exact ve ((HE.out _).mono fun _ _ hh=>⟨hh.1,hh.2.symm⟩))))
   go_wp2;go_ret;refine ⟨by simp;omega,?_⟩;exact ⟨_,rfl⟩
theorem RQ {p:Nat} {x:Ou} {Ap Ar:Option Addr} {cp cr:Nat} {vp:List Value} (h:jv w D F p x Ap cp vp Ar cr):
 Calls prog 161 #[.pointer (some p)] w fun e w'=>e= .returned (.bool (!x.bJ))/\w=w':=by
 obtain ⟨x0,x7,x8,x9,x10,Cb⟩:=h.cells;clear h x0 x7 x8 x10 Cb;go_enter func161,ntmps161;go_wp2;go_ret;exact ⟨rfl,rfl⟩
end
section
variable {D F:Nat->Prop} {g:Nat} {c:Cf} {st:Sd} {vq vo:Value} {vs os:List Value} {w:World}
theorem fQ.far {A:Option Addr} {n cc b:Nat} {l:List (Nat × Nat)} (h:fQ w A n cc l) (hf:Kt F D A) (hD:D b) (j:Nat) (u:Value):fQ (w.setCell ⟨b,j,none⟩ u) A n cc l:=
 h.stay fun ad e=>iE (fun e2=>(hf ad e).2 (by
  have e3:ad.block=b:=e2;rw[e3];exact hD))
theorem fQ.drewN {A:Option Addr} {n cc:Nat} {l:List (Nat × Nat)} (h:fQ w A n cc l) (k:Nat):fQ (w.drewN k) A n cc l:=h.stay fun _ _=>rfl
theorem jv.drewN {p:Nat} {x:Ou} {Ap Ar:Option Addr} {cp cr:Nat} {vp:List Value} (h:jv w D F p x Ap cp vp Ar cr) (k:Nat):jv (w.drewN k) D F p x Ap cp vp Ar cr:=h.stay fun _ _=>rfl
theorem Fu (h:gu w D F g c st vq vs vo os) {i p:Nat} {x:Ou} {Ap Ar:Option Addr} {cp cr:Nat} {vp:List Value} (hx:st.out[i]? =some x) (hp:os[i]? =some (.pointer (some p))) (hO:jv w D F p x Ap cp vp Ar cr)
 {Al:Option Addr} {cl:Nat} {l:List (Nat × Nat)} (hl:fQ w Al l.length cl l) (hf:Kt F D Al) (hr:x.fF<=1000000):
 Calls prog 146 #[.pointer (some g),.pointer (some p),.slice Al l.length cl] w fun e w'=>e= .returned (.tuple #[])/\gu w' D F g c (iW st i (fO c x l)) vq vs vo os/\Kept (fun k _=>D k) w w':=by
 obtain ⟨x0,x7,x8,x9,x10,Cb⟩:=hO.cells;have f10:=hO.blk.frozen 10;have f11:=hO.blk.frozen 11;have y5:=h.blk.cell 5;have y19:=h.blk.cell 19;have f19:=h.blk.frozen 19;simp[fV] at y5 y19;have hcap:=hO.rs.cap;have hmx:=hO.rs.mx;have hgp:g≠p:=fun e2=>by
  subst e2;have h1:=h.blk;have h2:=hO.blk;unfold av at h1 h2;rw[h1] at h2;injection h2 with h3
  injection h3 with _ h4
  exact absurd h4 (by decide)
 by_cases hpe:x.pend= []
 ·rw[hpe] at x10;obtain ⟨hs1,ho1⟩:=h.O1 hx hp hO 11 (.int .i64 ((x.fF:Int)+1)) (z:= {x with fF:=x.fF+1}) (QL:=Ar) (RO:=cr) (by simp[My,au]) rfl hO.rs hO.rf;have hl1:=hl.far hf hO.d 11 (.int .i64 ((x.fF:Int)+1));have hk1:Kept (fun k _=>D k) w (w.setCell ⟨p,11,none⟩ (.int .i64 ((x.fF:Int)+1))):=(Kept.refl _ w).setCell (p:=⟨p,11,none⟩) (fun _ _=>hO.d) _;have hx1:(st.out.set i {x with fF:=x.fF+1})[i]? =some {x with fF:=x.fF+1}:=Iy (pN.1 hx).1;obtain ⟨z0,z7,z8,z9,UE,Yb⟩:=ho1.cells;have e10:=ho1.blk.frozen 10;have v5:=hs1.blk.cell 5;have v19:=hs1.blk.cell 19;have e19:=hs1.blk.frozen 19;simp[fV] at v5 v19;have hpp:fO c x l=({x with pend:=l,fF:=x.fF+1},decide (c.fF<((x.fF+1:Nat):Int))):=by unfold fO;rw[bD hpe]
  rw[hpp];have hdp:=hO.d;have hdg:=h.gd;have UF:∀(b:Bool) (w2:World),gu w2 D F g c {st with out:=st.out.set i {x with fF:=x.fF+1},failed:=b} vq vs vo os->jv w2 D F p {x with fF:=x.fF+1} Ap cp vp Ar cr->fQ w2 Al l.length cl l->
   gu (w2.setCell ⟨p,10,none⟩ (.slice Al l.length cl)) D F g c {st with out:=st.out.set i {x with pend:=l,fF:=x.fF+1},failed:=b} vq vs vo os:=fun b w2 k1 k2 k3=>by
   have:=(k1.O1 hx1 hp k2 10 (.slice Al l.length cl) (z:= {x with pend:=l,fF:=x.fF+1}) (QL:=Al) (RO:=cl) rfl rfl k3 hf).1;simpa using this
  have HF:=ah UF;have HS:=ah hs1;have HO:=ah ho1;have HL:=ah hl1;have HK:=ah hk1;have HDP:=ah hdp;have HDG:=ah hdg;clear h hcap hmx hO hs1 ho1 hl1 hk1 hx1 hpp x0 x7 x8 x9 z0 z7 z8 z9 hdp hdg UF;have UG:∀(b:Bool) (q:Nat),b=(st.failed||decide (c.fF<((x.fF+1:Nat):Int)))->
   gu ((((w.setCell ⟨p,11,none⟩ (.int .i64 ((x.fF:Int)+1))).drewN q).setCell ⟨g,19,none⟩ (.bool b)).setCell ⟨p,10,none⟩ (.slice Al l.length cl)) D F g c (iW st i ({x with pend:=l,fF:=x.fF+1},decide (c.fF<((x.fF+1:Nat):Int)))) vq vs vo os/\
   Kept (fun k _=>D k) w ((((w.setCell ⟨p,11,none⟩ (.int .i64 ((x.fF:Int)+1))).drewN q).setCell ⟨g,19,none⟩ (.bool b)).setCell ⟨p,10,none⟩ (.slice Al l.length cl)):=fun b q hb=>by
   have k1:=(HS.out.drewN q).rX 19 (.bool b) (st':= {st with out:=st.out.set i {x with fF:=x.fF+1},failed:=b}) rfl rfl rfl;have k2:=(HO.out.drewN q).far (b:=g) HDG.out hgp 19 (.bool b);have k3:=(HL.out.drewN q).far hf HDG.out 19 (.bool b);have k4:=HF.out b _ k1 k2 k3;subst hb;exact ⟨k4,((HK.out.jI q).setCell (p:=⟨g,19,none⟩) (fun _ _=>HDG.out) _).setCell (p:=⟨p,10,none⟩) (fun _ _=>HDP.out) _⟩
  have HE:=ah UG;clear UG;cases hfl:st.failed with
  |true=>
   rw[hfl] at y19 v19 HE;have xA:=ah hfl;clear hfl;go_enter func146,ntmps146;go_wp2;generalize w.setCell ⟨p,11,none⟩ (.int .i64 ((x.fF:Int)+1))=w1 at*
   go_region
   go_wp2
   go_end0
   exact ⟨rfl,HE.out true 1 rfl⟩
  |false=>
   rw[hfl] at y19 v19 HE;have xA:=ah hfl;clear hfl;by_cases hov:c.fF<(x.fF:Int)+1
   ·have hd:decide (c.fF<(x.fF:Int)+1)=true:=iK hov;have hb:true=(false||decide (c.fF<((x.fF+1:Nat):Int))):=by simp;omega
    have HB:=ah hb;clear hb;go_enter func146,ntmps146;go_wp2;generalize w.setCell ⟨p,11,none⟩ (.int .i64 ((x.fF:Int)+1))=w1 at*
    go_region
    go_wp2
    go_end0
    exact ⟨rfl,HE.out true 1 HB.out⟩
   ·have hd:decide (c.fF<(x.fF:Int)+1)=false:=iP hov;have hb:false=(false||decide (c.fF<((x.fF+1:Nat):Int))):=by simp;omega
    have HB:=ah hb;clear hb;go_enter func146,ntmps146;go_wp2;generalize w.setCell ⟨p,11,none⟩ (.int .i64 ((x.fF:Int)+1))=w1 at*
    go_region
    go_wp2
    go_end0
    exact ⟨rfl,HE.out false 1 HB.out⟩
 ·have hpl:0<x.pend.length:=Iz.2 hpe;have d0:((x.pend.length:Int)==0)=false:=by simp;omega
  have hpp:fO c x l=({x with pend:=l},false):=by unfold fO;rw[aP hpe]
  rw[hpp];have hs:=h.O1 hx hp hO 10 (.slice Al l.length cl) (z:= {x with pend:=l}) (QL:=Al) (RO:=cl) rfl rfl hl hf;have HS:=ah hs.1;have HD:=ah hO.d;clear h hO hs hpp;go_enter func146,ntmps146;go_wp2
  go_end0
  refine ⟨rfl,?_,(Kept.refl _ w).setCell (p:=⟨p,10,none⟩) (fun _ _=>HD.out) _⟩;have:=HS.out;simpa[iW] using this
end
theorem RS {l:List (Nat × Nat)} {x:Nat × Nat} {s:Nat} (h:∀r∈l,r.1<=r.2/\r.2<s) (hx:x.1<=x.2/\x.2<s):(∀r∈gN l x,r.1<=r.2/\r.2<s)/\(gN l x).length<=l.length+1:=by
 unfold gN;cases hl:l.getLast? with
 |none=>exact ⟨by simpa using hx,by simp⟩
 |some y=>
  have hy:=h y (List.mem_of_getLast? hl);dsimp only;split
  ·rename_i e;refine ⟨fun r hr=> ?_,by simp⟩;rcases iH.1 hr with hr|hr
   ·exact h r (List.dropLast_subset l hr)
   ·simp at hr;rw[hr];dsimp only;omega
  ·refine ⟨fun r hr=> ?_,by simp⟩;rcases iH.1 hr with hr|hr
   ·exact h r hr
   ·simp at hr;rw[hr];exact hx
theorem MF (fI:List Nk) {x:Ou} (hs:1<=au x):(∀r∈aQ fI x,r.1<=r.2/\r.2<au x)/\(aQ fI x).length<=fI.length:=by
 have hf:(fI.filter (fun n=>decide (n.sn=(x.sn:Int)))).length<=fI.length:=List.length_filter_le _ _;have key:∀(l:List Nk) (a:List (Nat × Nat)),(∀r∈a,r.1<=r.2/\r.2<au x)->(∀r∈l.foldl (eO (au x)) a,r.1<=r.2/\r.2<au x)/\(l.foldl (eO (au x)) a).length<=a.length+l.length:=by
  intro l
  induction l with
  |nil=>intro a ha;exact ⟨by simpa using ha,by simp⟩
  |cons n r ih=>
   intro a ha;have h1:(∀q∈eO (au x) a n,q.1<=q.2/\q.2<au x)/\(eO (au x) a n).length<=a.length+1:=by
    unfold eO;split
    ·exact ⟨ha,by omega⟩
    ·exact RS ha (by dsimp only;omega)
   obtain ⟨i1,i2⟩:=ih _ h1.1;rw[List.foldl_cons];refine ⟨i1,?_⟩;simp only[jh];omega
 obtain ⟨k1,k2⟩:=key (fI.filter (fun n=>decide (n.sn=(x.sn:Int)))) [] (by simp);refine ⟨k1,?_⟩;unfold aQ;simp only[gQ] at k2;omega
theorem lK.adv {st:Sd} {K:Nat} (h:lK st K):lK (ig st) (K+1):=by
 obtain ⟨⟨d,h1,h2,h3,h4⟩,h5⟩:=jJ st.out;obtain ⟨⟨q,g1,g2,g3,g4⟩,g5⟩:=sG st.queue (st.front+(aV st.out).2.1);have hql:=xk (fun s hs=>(h.RB s hs).1);have QB:=h.held;unfold aH at QB;have hsum:aj st.queue=aj q+aj (iy st.queue (st.front+(aV st.out).2.1)).2.2.2:=by
  conv=>lhs;rw[g1]
  rw[sD]
 have hlen:q.length<=st.queue.length:=by
  conv=>rhs;rw[g1]
  simp
 have hmem:∀x,x∈(ig st).out->x∈st.out:=fun x hx=>by
  have e:(ig st).out=(aV st.out).2.2:=rfl;rw[h1,<-e];simp[hx]
 refine ⟨?_,?_,?_,?_,fun s hs=> ?_,h.pol,fun x hx=>h.ou x (hmem x hx),fun x hx=> ?_,h.EL,h.Hl⟩
 ·have:=h.done;show st.done+(iy st.queue (st.front+(aV st.out).2.1)).1<=_
  omega
 ·have:=h.fG;show st.fG<=_
  omega
 ·have:=h.bytes;show st.bytes<=_
  omega
 ·show aj (iy st.queue (st.front+(aV st.out).2.1)).2.2.2<=_
  omega
 ·refine h.RB s ?_;rw[g1];exact List.mem_append_right _ hs
 ·have:=h.rx x (hmem x hx);omega
theorem lK.aT {st:Sd} {K:Nat} (h:lK st K) (c:Cf) (m:Ou->List (Nat × Nat)) (n:Nat) (hm:∀x∈st.out,(∀r∈m x,r.1<=r.2/\r.2<au x)/\(m x).length<=1000) (b w:Bool):
 lK {st with out:=(aT c m n st.out).1,failed:=b,wait:=w} (K+1):=by
 have hone:∀x∈st.out,zS (bT c m x).1/\(bT c m x).1.fF<=K+1:=fun x hx=>by
  have ho:=h.ou x hx;have hr:=h.rx x hx;unfold bT;split
  ·exact ⟨ho,by dsimp only;omega⟩
  ·split
   ·exact ⟨⟨ho.sn,ho.ps,by simp,by simp⟩,by dsimp only;omega⟩
   ·exact QC c ho hr (hm x hx).1 (hm x hx).2
 refine ⟨?_,?_,?_,h.held,h.RB,h.pol,fun y hy=> ?_,fun y hy=> ?_,h.EL,h.Hl⟩
 ·have:=h.done;show st.done<=_
  omega
 ·have:=h.fG;show st.fG<=_
  omega
 ·have:=h.bytes;show st.bytes<=_
  omega
 ·obtain ⟨x,hx,rfl|rfl⟩:=lJ c m n _ y hy
  ·exact h.ou _ hx
  ·exact (hone x hx).1
 ·obtain ⟨x,hx,rfl|rfl⟩:=lJ c m n _ y hy
  ·have:=h.rx _ hx;omega
  ·exact (hone x hx).2
theorem lK.stat {st:Sd} {K:Nat} (h:lK st K) (c:Cf) (m:Ou->List (Nat × Nat)) (n:Nat) (hm:∀x∈st.out,(∀r∈m x,r.1<=r.2/\r.2<au x)/\(m x).length<=1000):lK (oU c m n st) (K+3):=by
 have h2:=(h.aT c m n hm (st.failed||(Go.Proofs.YtbhiklnljiehiaaGreat.aT c m n st.out).2) (st.wait&&decide (n<=qi st st.polled))).adv;unfold oU;dsimp only;split
 ·exact h2.nS c
 ·exact h2.mono (by omega)
theorem CY {aA:Int} {l:List Nk} (h:bO aA l=true):l.length<=512/\0<=aA/\aA<=1023:=by
 simp only[bO,gD,gY] at h;omega
theorem lK.status {st:Sd} {K:Nat} (h:lK st K) (c:Cf) {now:Int} (hn:now<=9223372036854775807) (aA:Int) (fI:List Nk):lK (kS c st now aA fI).1 (K+3):=by
 have h1:=h.clock hn;unfold kS;split
 ·exact h.mono (by omega)
 ·rename_i hv;split
  ·exact h1.mono (by omega)
  ·refine h1.stat c (aQ fI) _ fun x hx=> ?_
   have ho:=lM (h1.ou x hx);have hl:=CY (by simpa using hv);obtain ⟨m1,m2⟩:=MF fI ho.1;exact ⟨m1,by omega⟩
theorem lK.ko {st:Sd} {K:Nat} (h:lK st K) (hi:bY st) (c:Cf) {now:Int} (hn:now<=9223372036854775807) (n:Int):lK (kF c st now n).1 (K+2):=by
 have h1:=h.tick c hn;have hi1:=hi.tick c now;unfold kF;split
 ·exact h1.mono (by omega)
 ·cases hp:gZ (aB c st now).out with
  |some i=>
   obtain ⟨x,hx,_⟩:=fH hp;simp only[hx];exact (h1.again c n i hx).mono (by omega)
  |none=>
   have h2:=h1.fresh hi1.toInvV c n;dsimp only;generalize bU c n (aB c st now)=R at*;obtain ⟨s2,_|⟨x,b⟩⟩:=R
   ·exact h2
   ·exact h2
section
variable {D F:Nat->Prop} {g:Nat} {c:Cf} {st:Sd} {vq vo:Value} {vs os:List Value} {w:World}
theorem fQ.new (w:World) (t:TypeId) (a b:Nat):fQ (w.alloc (.cells #[.int .i64 (a:Nat),.int .i64 (b:Nat)] t)) (some ⟨w,0,none⟩) 1 1 [(a,b)]:=
 ⟨rfl,aL,by omega,fun _=>⟨_,rfl,by simp,fun j r hj=>by
  have hb:=av.new w t #[.int .i64 (a:Nat),.int .i64 (b:Nat)];cases j with
  |zero=>
   simp at hj;subst hj;exact ⟨hb.cell 0,hb.cell 1⟩
  |succ j=>simp at hj⟩⟩
theorem Az (h:gu w D F g c st vq vs vo os) {K:Nat} (hB:lK st K) (hK:K<=100000) (hw:st.out.length<=512):
 Calls prog 115 #[.pointer (some g)] w fun e w'=>e= .returned (.tuple #[])/\pK w D F g c (aX c st) w':=by
 have hid:=Jd h hB.held (by omega);have W9:=ah hid;clear hid;cases hi:dH st with
 |false=>
  have hfin:aX c st=st:=by unfold aX;rw[bD hi]
  rw[hfin];rw[hi] at W9;have HH:=ah h;clear h hi hfin;go_enter func115,ntmps115;go_wp2_with fail;refine W9.out.mono ?_;rintro e1 w1 ⟨rfl,q,rfl⟩;go_wp2;refine oZ (zJ rfl _ _ _) rfl ?_;exact ⟨rfl,(HH.out.o (Kept.refl _ w)).drewN q⟩
 |true=>
  rw[hi] at W9;have hix:=fun q=>Fj 161 (.inr rfl) (fun x=> !x.bJ) (h.drewN q) (by omega) fun p x Ap cp vp Ar cr ho=>RQ ho
  have TF:=ah hix;have Bt:=h.blk.cell 12;simp[fV] at Bt;obtain ⟨A,cc,rfl,hs⟩:=h.Ya;have hcap:=hs.cap;have hmx:=hs.mx;have HH:=ah h;clear hix;cases hf:st.out.findIdx? (fun x=> !x.bJ) with
  |none=>
   have hfin:aX c st=st:=by unfold aX;rw[aP (by simp[hi]),hf]
   rw[hfin];rw[hf] at TF;clear h hi hfin hs hf;go_enter func115,ntmps115;go_wp2_with fail;refine W9.out.mono ?_;rintro e1 w1 ⟨rfl,q,rfl⟩;go_wp2_with fail;refine (TF.out q).mono ?_;rintro e1 w1 ⟨rfl,rfl⟩;simp only[ixI];go_wp2
   go_end0
   exact ⟨rfl,(HH.out.o (Kept.refl _ w)).drewN q⟩
  |some i=>
   rw[hf] at TF;have hil:i<st.out.length:=(List.findIdx?_eq_some_iff_getElem.1 hf).1;obtain ⟨x,hx⟩:∃x,st.out[i]? =some x:=⟨_,gX hil⟩
   have hfin:aX c st=iW st i (fO c x [(0,au x-1)]):=by unfold aX;rw[aP (by simp[hi]),hf];simp only[hx]
   rw[hfin];obtain ⟨p,Ap,cp,vp,Ar,cr,he,ho⟩:=h.oe i x hx;obtain ⟨ad,u,rfl,hb,hu,hc⟩:=hs.get hil;rw[he] at hu;cases hu;obtain ⟨z0,z7,z8,z9,UE,Yb⟩:=ho.cells;have hsz:=lM (hB.ou x (iT hx));have hrx:=hB.rx x (iT hx);have hsub:((au x:Nat):Int)-1=((au x-1:Nat):Int):=by omega
   have HX:=ah hx;have HE:=ah he;have HO:=ah ho;have akE:=ah hsub;clear h hi hfin hs hf hx he ho z0 z7 z9 UE Yb hsub;go_enter func115,ntmps115;go_wp2_with fail;refine W9.out.mono ?_;rintro e1 w1 ⟨rfl,q,rfl⟩;go_wp2_with fail;refine (TF.out q).mono ?_;rintro e1 w1 ⟨rfl,rfl⟩;simp only[ixI];go_wp2_with fail;rw[akE.out];have hW:=((HH.out.drewN q).alloc (.cells #[.int .i64 0,.int .i64 ((au x-1:Nat):Int)] 39)).aac (b:=w.heap.size) (by simp);have hsp:fQ ((w.drewN q).alloc (.cells #[.int .i64 0,.int .i64 ((au x-1:Nat):Int)] 39)) (some ⟨w,0,none⟩) [(0,au x-1)].length 1 [(0,au x-1)]:=fQ.new (w.drewN q) 39 0 (au x-1);obtain ⟨p2,Ap2,cp2,vp2,Ar2,cr2,he2,ho2⟩:=hW.oe i x HX.out;rw[HE.out] at he2;cases he2;have O4:=Fu hW HX.out HE.out ho2 hsp (fun ad e=>by cases e;exact ⟨.inr rfl,HH.out.fresh (aL)⟩) (by omega);clear hsp ho2 hW;refine O4.mono ?_;rintro e2 w2 ⟨rfl,hA2,hk2⟩;go_wp2
   go_end0
   exact ⟨rfl,pK.step (((Kept.refl _ w).jI q).alloc _) (dU.refl _ _) (dU.one (aL)) (hA2.o hk2)⟩
def afB (w:World) (D F:Nat->Prop) (g:Nat) (c:Cf) (st:Sd) (e:Ending) (w':World):Prop:=
 ((st.failed=false/\e= .returned (.tuple #[]))\/(st.failed=true/\e=O3))/\pK w D F g c st w'
theorem AB (h:gu w D F g c st vq vs vo os) {K:Nat} (hB:lK st K) (hK:K<=100000) (hw:st.out.length<=512) (hfl:st.failed=false):
 Calls prog 78 #[.pointer (some g)] w (afB w D F g c (gH c st)):=by
 have CZ:=h.blk.cell 16;have UH:=h.blk.cell 17;have Ku:=h.blk.cell 18;have y20:=h.blk.cell 20;have f16:=h.blk.frozen 16;have f18:=h.blk.frozen 18;simp[fV] at CZ UH Ku y20;have HH:=ah h;cases hwt:st.wait with
 |false=>
  have hfin:gH c st=st:=by unfold gH;rw[bD (.inl hwt)]
  rw[hfin];rw[hwt] at CZ;have xA:=ah hfl;clear h hfin hwt hfl;go_enter func78,ntmps78;go_wp2
  go_quiet (fail)
  go_wp2;refine oZ (zJ rfl _ _ _) rfl ?_;exact ⟨.inl ⟨xA.out,rfl⟩,(HH.out.o (Kept.refl _ w)).drewN _⟩
 |true=>
  rw[hwt] at CZ;by_cases hlt:st.now<st.bu
  ·have hfin:gH c st=st:=by unfold gH;rw[bD (.inr hlt)]
   rw[hfin];have hd:decide (st.now<st.bu)=true:=iK hlt;have xA:=ah hfl;clear h hfin hwt hfl;go_enter func78,ntmps78;go_wp2
   go_quiet (fail)
   go_wp2;refine oZ (zJ rfl _ _ _) rfl ?_;exact ⟨.inl ⟨xA.out,rfl⟩,(HH.out.o (Kept.refl _ w)).drewN _⟩
  ·have hfin:gH c st=aX c {st with wait:=false,dI:=true}:=by unfold gH;rw[aP (by rw[hwt];simp;omega)]
   rw[hfin];have hd:decide (st.now<st.bu)=false:=iP hlt;have h2:=fun q=>((h.drewN q).rX 16 (.bool false) (st':= {st with wait:=false}) rfl rfl rfl).rX 18 (.bool true) (st':= {st with wait:=false,dI:=true}) rfl rfl rfl
   have hk2:=fun q=>(((Kept.refl (fun k _=>D k) w).jI q).setCell (p:=⟨g,16,none⟩) (fun _ _=>h.gd) (.bool false)).setCell (p:=⟨g,18,none⟩) (fun _ _=>h.gd) (.bool true)
   have hB2:lK {st with wait:=false,dI:=true} K:=⟨hB.done,hB.fG,hB.bytes,hB.held,hB.RB,hB.pol,hB.ou,hB.rx,hB.EL,hB.Hl⟩;have hrp:=fun q=>Az (h2 q) hB2 hK hw
   have QH:=ah hrp;have EQ:=ah hk2;have xA:=ah hfl;clear h hfin hwt hfl h2 hk2 hrp;go_enter func78,ntmps78;go_wp2
   go_quiet (fail)
   go_wp2_with fail;refine (QH.out _).mono ?_;rintro e1 w1 ⟨rfl,D1,F1,vq1,vs1,vo1,os1,hA1,hD1,hF1,hk1⟩;have HA1:=ah hA1;have hend:pK w D F g c (aX c {st with wait:=false,dI:=true}) w1:=pK.step (EQ.out _) (dU.refl _ _) (dU.refl _ _) ⟨D1,F1,vq1,vs1,vo1,os1,hA1,hD1,hF1,hk1⟩;have UG:=ah hend;clear hA1 hD1 hF1 hk1 hend;cases hf1:(aX c {st with wait:=false,dI:=true}).failed with
   |false=>
    have hm:=Fq HA1.out hf1;have HM:=ah hm;have XE:=ah hf1;clear hm hf1;go_wp2_with fail;refine HM.out.mono ?_;rintro e2 w2 ⟨rfl,rfl⟩;go_wp2
    go_end0
    exact ⟨.inl ⟨XE.out,rfl⟩,UG.out⟩
   |true=>
    have hm:=Ce HA1.out hf1;have HM:=ah hm;have XE:=ah hf1;clear hm hf1;go_wp2_with fail;refine HM.out.mono ?_;rintro e2 w2 ⟨rfl,rfl⟩;exact ⟨rfl,.inr ⟨XE.out,rfl⟩,UG.out⟩
end
end Go.Proofs.YtbhiklnljiehiaaGreat
