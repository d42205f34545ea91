/- amsend: writes to the transmitter's memo. -/
import Derived.Test.YtbhiklnljiehiaaGreatM2an
namespace Go.Proofs.YtbhiklnljiehiaaGreat
section
open Go.RowKit
section
variable {D F F':Nat→Prop} {g:Nat} {c:Cf} {st st':Sd} {vq vo:Value} {vs os:List Value} {w w':World}
theorem DL.mono {A:Option Addr} (h:DL F D A) (hf:∀k,F k→F' k):DL F' D A:=fun ad e=>⟨hf _ (h ad e).1,(h ad e).2⟩
theorem gU.Gh {p:Nat} {x:Ou} {Ap Ar:Option Addr} {cp cr:Nat} {vp:List Value} (h:gU w D F p x Ap cp vp Ar cr) (hf:∀k,F k→F' k):gU w D F' p x Ap cp vp Ar cr:=
 ⟨h.blk,h.d,hf p h.f,h.ps,h.pf.mono hf,fun i v hv=>(h.pe i v hv).mono hf,h.rs,h.rf.mono hf⟩
theorem dV.Gh (h:dV w D F g c st vq vs vo os) (hf:∀k,F k→F' k) (hl:∀k,F' k→k<w.heap.size):dV w D F' g c st vq vs vo os:=
 ⟨h.blk,h.gd,fun k hk=>hf k (h.sub k hk),hl,h.qr,h.qd,fun i p hi=>let ⟨A,cc,e,hs,hi'⟩:=h.qe i p hi;⟨A,cc,e,hs,hi'.mono hf⟩,h.rX,h.od,
  fun i x hi=>let ⟨p,Ap,cp,vp,Ar,cr,e,ho⟩:=h.oe i x hi;⟨p,Ap,cp,vp,Ar,cr,e,ho.Gh hf⟩,h.inj⟩
theorem fD {p:Addr} {u:Value} {k:Nat} (hk:k≠p.block):(w.setCell p u).heap[k]? =w.heap[k]? :=Below.heap_setCell w p u k hk
theorem gU.far {p b:Nat} {x:Ou} {Ap Ar:Option Addr} {cp cr:Nat} {vp:List Value} (h:gU w D F p x Ap cp vp Ar cr) (hD:D b) (hne:b≠p) (j:Nat) (u:Value):gU (w.setCell ⟨b,j,none⟩ u) D F p x Ap cp vp Ar cr:=by
 have nd:∀{A:Option Addr},DL F D A→∀ad,A=some ad→(w.setCell ⟨b,j,none⟩ u).heap[ad.block]? =w.heap[ad.block]? :=fun hi ad e=>fD (fun e2=>(hi ad e).2 (by
  have e3:ad.block=b:=e2;rw[e3];exact hD))
 exact ⟨(fD (fun e=>hne (by have e3:p=b:=e;exact e3.symm))).trans h.blk,h.d,h.f,h.ps.stay (nd h.pf) (fun i v ad hv e=>nd (h.pe i v hv) ad e),h.pf,h.pe,h.rs.stay (nd h.rf),h.rf⟩
theorem dV.mQ (h:dV w D F g c st vq vs vo os) (j:Nat) (u:Value) (he:(dS c vq vo st).setIfInBounds j u=dS c vq vo st') (hq:st'.queue=st.queue) (ho:st'.out=st.out):dV (w.setCell ⟨g,j,none⟩ u) D F g c st' vq vs vo os:=by
 have hb:=h.blk.av j u;rw[he] at hb;have hDg:=h.gd;have nd:∀{A:Option Addr},DL F D A→∀ad,A=some ad→(w.setCell ⟨g,j,none⟩ u).heap[ad.block]? =w.heap[ad.block]? :=fun hi ad e=>fD (fun e2=>(hi ad e).2 (by
  have e3:ad.block=g:=e2;rw[e3];exact hDg))
 refine ⟨hb,h.gd,h.sub,fun k hk=>by simpa[World.setCell] using h.lt k hk,by rw[hq];exact h.qr.store h.blk (by decide) u,h.qd,fun i p hi=> ?_,by rw[ho];exact h.rX.store h.blk (by decide) u,h.od,fun i x hi=> ?_,h.inj⟩
 ·rw[hq] at hi;obtain ⟨A,cc,e,hs,hf⟩:=h.qe i p hi;exact ⟨A,cc,e,hs.stay (nd hf),hf⟩
 ·rw[ho] at hi;obtain ⟨p,Ap,cp,vp,Ar,cr,e,hx⟩:=h.oe i x hi;refine ⟨p,Ap,cp,vp,Ar,cr,e,hx.far hDg (fun e2=> ?_) j u⟩;subst e2;have h1:=h.blk;have h2:=hx.blk;unfold au at h1 h2;rw[h1] at h2;injection h2 with h3
  injection h3 with _ h4
  exact absurd h4 (by decide)
theorem dV.Js (h:dV w D F g c st vq vs vo os) {i p:Nat} {x z:Ou} {Ap Ar KO:Option Addr} {cp cr Mj:Nat} {vp:List Value} (hx:st.out[i]? =some x) (hp:os[i]? =some (.pointer (some ⟨p,0,none⟩))) (hO:gU w D F p x Ap cp vp Ar cr)
 (j:Nat) (u:Value) (he:(DN x (.slice Ap x.ps.length cp) (.slice Ar x.pend.length cr)).setIfInBounds j u=DN z (.slice Ap z.ps.length cp) (.slice KO z.pend.length Mj)) (hz:z.ps=x.ps) (hr:dG w KO z.pend.length Mj z.pend) (hf:DL F D KO):
 dV (w.setCell ⟨p,j,none⟩ u) D F g c {st with out:=st.out.set i z} vq vs vo os∧gU (w.setCell ⟨p,j,none⟩ u) D F p z Ap cp vp KO Mj:=by
 have hb:=hO.blk.av j u;rw[he] at hb;have hDp:=hO.d;have hgp:g≠p:=fun e2=>by
  subst e2;have h1:=h.blk;have h2:=hO.blk;unfold au at h1 h2;rw[h1] at h2;injection h2 with h3
  injection h3 with _ h4
  exact absurd h4 (by decide)
 have nd:∀{A:Option Addr},DL F D A→∀ad,A=some ad→(w.setCell ⟨p,j,none⟩ u).heap[ad.block]? =w.heap[ad.block]? :=fun hi ad e=>fD (fun e2=>(hi ad e).2 (by
  have e3:ad.block=p:=e2;rw[e3];exact hDp))
 have hZ:gU (w.setCell ⟨p,j,none⟩ u) D F p z Ap cp vp KO Mj:=by
  have hps:=hO.ps.stay (w':=w.setCell ⟨p,j,none⟩ u) (nd hO.pf) (fun i v ad hv e=>nd (hO.pe i v hv) ad e);exact ⟨hb,hO.d,hO.f,by rw[hz];exact hps,hO.pf,hO.pe,hr.stay (nd hf),hf⟩
 refine ⟨⟨(fD (fun e=>hgp e)).trans h.blk,h.gd,h.sub,fun k hk=>by simpa[World.setCell] using h.lt k hk,h.qr.store hO.blk (by decide) u,h.qd,fun i q hi=> ?_,?_,h.od,fun k y hk=> ?_,h.inj⟩,hZ⟩
 ·obtain ⟨A,cc,e,hs,hf⟩:=h.qe i q hi;exact ⟨A,cc,e,hs.stay (nd hf),hf⟩
 ·have:=h.rX.store hO.blk (i:=j) (by decide) u;have hl:(st.out.set i z).length=st.out.length:=List.length_set;show dR _ 0 _ vo (st.out.set i z).length os
  rw[hl];exact this
 ·have hk':(st.out.set i z)[k]? =some y:=hk;by_cases hki:i=k
  ·subst hki;rw[List.getElem?_set_self (List.getElem?_eq_some_iff.1 hx).1] at hk';cases hk';exact ⟨p,Ap,cp,vp,KO,Mj,hp,hZ⟩
  ·rw[List.getElem?_set_ne hki] at hk';obtain ⟨q,A1,c1,v1,A2,c2,e,hy⟩:=h.oe k y hk';refine ⟨q,A1,c1,v1,A2,c2,e,hy.far hDp (fun e2=>hki ?_) j u⟩;subst e2;exact h.inj i k _ hp e
end
end
section
open Go.RowKit
def kX (w:World) (D F:Nat→Prop) (g:Nat) (c:Cf) (st:Sd) (w':World):Prop:=
 ∃D' F' vq vs vo os,dV w' D' F' g c st vq vs vo os∧bW w D D'∧bW w F F'∧Kept (fun k _=>D k) w w'
section
variable {D F D' F':Nat→Prop} {g:Nat} {c:Cf} {st st':Sd} {vq vo:Value} {vs os:List Value} {w w' w'':World}
theorem Kept.step (h:Kept (fun k _=>D k) w w') (h':Kept (fun k _=>D' k) w' w'') (hg:bW w D D'):Kept (fun k _=>D k) w w'':=
 ⟨h'.os.trans h.os,h'.tape.trans h.tape,h'.output.trans h.output,Nat.le_trans h.size h'.size,fun i x hi hn=>h'.same i x (h.same i x hi hn) fun hd=>by
  rcases hg i hd with e|e
  ·exact hn e
  ·have:=lt_of_heap hi;omega⟩
theorem dV.o (h:dV w' D F g c st vq vs vo os) (hk:Kept (fun k _=>D k) w w'):kX w D F g c st w':=
 ⟨D,F,vq,vs,vo,os,h,bW.refl _ _,bW.refl _ _,hk⟩
theorem kX.step (hk:Kept (fun k _=>D k) w w') (hD:bW w D D') (hF:bW w F F') (h:kX w' D' F' g c st w''):kX w D F g c st w'':=by
 obtain ⟨D2,F2,vq,vs,vo,os,h1,h2,h3,h4⟩:=h;exact ⟨D2,F2,vq,vs,vo,os,h1,hD.trans h2 hk.size,hF.trans h3 hk.size,hk.step h4 hD⟩
theorem Kept.iy {M:Nat→Obj→Prop} (h:Kept M w w') (k:Nat):Kept M w (w'.drewN k):=⟨h.os,h.tape,h.output,h.size,h.same⟩
theorem kX.drewN (h:kX w D F g c st w') (k:Nat):kX w D F g c st (w'.drewN k):=by
 obtain ⟨D2,F2,vq,vs,vo,os,h1,h2,h3,h4⟩:=h;exact ⟨D2,F2,vq,vs,vo,os,h1.drewN k,h2,h3,h4.iy k⟩
theorem kX.alloc (h:kX w D F g c st w') (o:Obj):kX w D F g c st (w'.alloc o):=by
 obtain ⟨D2,F2,vq,vs,vo,os,h1,h2,h3,h4⟩:=h;exact ⟨D2,F2,vq,vs,vo,os,h1.alloc o,h2,h3,h4.alloc o⟩
theorem kX.put {w0:World} (h:kX w0 D F g c st w') (hk:Kept (fun k _=>D k) w w0) {b:Nat} (hb:w.heap.size≤b) (hb0:b<w0.heap.size) (hF:∀k,F k→k<w.heap.size) (_hD:∀k,D k→F k) (j:Nat) (u:Value):kX w D F g c st (w'.setCell ⟨b,j,none⟩ u):=by
 obtain ⟨D2,F2,vq,vs,vo,os,h1,h2,h3,h4⟩:=h;have hnf:¬F2 b:=fun hf=>by
  rcases h3 b hf with e|e
  ·have:=hF b e;omega
  ·omega
 refine ⟨D2,F2,vq,vs,vo,os,h1.stay fun k hk=>fD (fun e=>hnf ?_),fun k hk'=> ?_,fun k hk'=> ?_,(hk.trans h4).setCell (fun o ho=> ?_) u⟩
 ·have e2:k=b:=e;rw[←e2];exact hk
 ·rcases h2 k hk' with e|e
  ·exact .inl e
  ·have:=hk.size;exact .inr (by omega)
 ·rcases h3 k hk' with e|e
  ·exact .inl e
  ·have:=hk.size;exact .inr (by omega)
 ·have:b<w.heap.size:=lt_of_heap ho;omega
theorem kX.kept (h:kX w D F g c st w'):Kept (fun k _=>D k) w w':=h.choose_spec.choose_spec.choose_spec.choose_spec.choose_spec.choose_spec.2.2.2
theorem dV.UU (h:dV w D F g c st vq vs vo os) {b:Nat} (hb:b<w.heap.size):dV w D (fun k=>F k∨k=b) g c st vq vs vo os:=
 h.Gh (fun _=> .inl) fun k hk=>by
  rcases hk with hk|rfl
  ·exact h.lt k hk
  ·exact hb
theorem bW.one (hb:w.heap.size≤g):bW w F (fun k=>F k∨k=g):=fun k hk=>by
 rcases hk with hk|rfl
 ·exact .inl hk
 ·exact .inr hb
theorem dV.fresh (h:dV w D F g c st vq vs vo os) {b:Nat} (hb:w.heap.size≤b):¬D b:=fun hd=>by
 have:=h.lt b (h.sub b hd);omega
end
end
section
open Go.RowKit Go.Shelf
attribute [local go_sem] Oper.semAt_some
section
variable {D F:Nat→Prop} {g:Nat} {c:Cf} {st:Sd} {vq vo:Value} {vs os:List Value} {w:World}
theorem vV (h:dV w D F g c st vq vs vo os) (now:Int):
 Calls Tryz.prog 77 #[.pointer (some ⟨g,0,none⟩),.int .i64 now] w fun e w'=>e= .returned (.tuple #[])∧dV w' D F g c (cK st now) vq vs vo os∧Kept (fun k _=>D k) w w':=by
 have x20:=h.blk.cell 20;have f20:=h.blk.frozen 20;simp[dS] at x20;have hs:=fun u he=>h.mQ 20 (.int .i64 u) (st':= {st with now:=u}) he rfl rfl
 have HS:=ah hs;have HD:=ah h.gd;by_cases hlt:st.now<now
 ·have hc:cK st now= {st with now:=now}:=by unfold cK;rw[if_pos hlt]
  rw[hc];have hle:st.now≤now:=by omega
  clear h hs hc;go_enter Tryz.func77,Tryz.ntmps77;go_wp2
  go_end0
  exact ⟨rfl,HS.out now rfl,(Kept.refl _ w).setCell (p:=⟨g,20,none⟩) (fun _ _=>HD.out) _⟩
 ·have hc:cK st now= {st with now:=st.now}:=by unfold cK;rw[if_neg hlt]
  rw[hc];clear h hs hc;go_enter Tryz.func77,Tryz.ntmps77;go_wp2
  go_end0
  exact ⟨rfl,HS.out st.now rfl,(Kept.refl _ w).setCell (p:=⟨g,20,none⟩) (fun _ _=>HD.out) _⟩
theorem zB (h:dV w D F g c st vq vs vo os) (hf:st.failed=false):
 Calls Tryz.prog 116 #[.pointer (some ⟨g,0,none⟩)] w fun e w'=>e= .returned (.tuple #[])∧w=w':=by
 have RU:=h.blk.cell 19;simp[dS] at RU;rw[hf] at RU;clear h hf;go_enter Tryz.func116,Tryz.ntmps116;go_wp2
 go_end0
 exact ⟨rfl,rfl⟩
abbrev Jt:Ending:= .panicked [{v:= .iface 191 (.agg #[]),recovered:=false}]
theorem vW (h:dV w D F g c st vq vs vo os) (hf:st.failed=true):
 Calls Tryz.prog 116 #[.pointer (some ⟨g,0,none⟩)] w fun e w'=>e=Jt∧w=w':=by
 have RU:=h.blk.cell 19;simp[dS] at RU;rw[hf] at RU;clear h hf;unfold Jt;go_enter Tryz.func116,Tryz.ntmps116;go_wp2;exact ⟨rfl,rfl,rfl⟩
theorem CK (h:dV w D F g c st vq vs vo os) (hsum:aW st≤1048576) (hn:st.out.length≤1000000):
 Calls Tryz.prog 131 #[.pointer (some ⟨g,0,none⟩)] w fun e w'=>e= .returned (.bool (jP st))∧pY w w':=by
 have hpe:=fun k=>uf (h.drewN k) hn
 have EY:=fun k=>vE (h.drewN k) hsum
 have HP:=ah hpe;have HE:=ah EY;have x10:=h.blk.cell 10;have FB:=h.blk.cell 12;simp[dS] at x10 FB;clear hpe EY;unfold KD at HP;cases hpa:gJ st.out with
 |some i=>
  rw[hpa] at HP;obtain ⟨x,hx,_⟩:=iB hpa;obtain ⟨p,Ap,cp,vp,Ar,cr,he,ho⟩:=h.oe i x hx;have hg:os[i]?.getD (.pointer none)= .pointer (some ⟨p,0,none⟩):=by rw[he];rfl
  simp only[hg] at HP;have hfin:jP st=false:=by unfold jP;rw[hpa];rfl
  rw[hfin];clear h hpa hx he ho hg hfin;go_enter Tryz.func131,Tryz.ntmps131;go_wp2
  go_quiet ((go_at_call 84;exact Calls.quiet_of_same ((HP.out _).mono fun _ _ hh=>⟨hh.1,hh.2.symm⟩)))
  go_wp2;go_ret;refine ⟨rfl,?_⟩;exact ⟨_,rfl⟩
 |none=>
  rw[hpa] at HP;simp only at HP;obtain ⟨A,cc,rfl,hs⟩:=h.Om;have hcap:=hs.cap;have hmx:=hs.mx;have hfin:jP st=(decide (st.taken=aW st)||decide (512≤st.out.length)):=by unfold jP;rw[hpa];rfl
  rw[hfin];clear h hs hpa hfin;generalize aW st=H at*;by_cases ht:st.taken=H
  ·rw[decide_eq_true ht];have d1:((st.taken:Int)==(H:Int))=true:=by simp;omega
   have d2:decide (st.taken=H)=true:=decide_eq_true ht;have HT:=ah ht;clear ht;go_enter Tryz.func131,Tryz.ntmps131;go_wp2
   go_quiet ((first|(go_at_call 84;exact Calls.quiet_of_same ((HP.out _).mono fun _ _ hh=>⟨hh.1,hh.2.symm⟩))|(go_at_call 102;exact Calls.quiet_of_same ((HE.out _).mono fun _ _ hh=>⟨hh.1,hh.2.symm⟩))))
   go_wp2;go_ret;refine ⟨rfl,?_⟩;exact ⟨_,rfl⟩
  ·rw[decide_eq_false ht];have d1:((st.taken:Int)==(H:Int))=false:=by simp;omega
   have d2:decide (st.taken=H)=false:=decide_eq_false ht;have HT:=ah ht;clear ht;go_enter Tryz.func131,Tryz.ntmps131;go_wp2
   go_quiet ((first|(go_at_call 84;exact Calls.quiet_of_same ((HP.out _).mono fun _ _ hh=>⟨hh.1,hh.2.symm⟩))|(go_at_call 102;exact Calls.quiet_of_same ((HE.out _).mono fun _ _ hh=>⟨hh.1,hh.2.symm⟩))))
   go_wp2;go_ret;refine ⟨by simp;omega,?_⟩;exact ⟨_,rfl⟩
theorem Mk {p:Nat} {x:Ou} {Ap Ar:Option Addr} {cp cr:Nat} {vp:List Value} (h:gU w D F p x Ap cp vp Ar cr):
 Calls Tryz.prog 161 #[.pointer (some ⟨p,0,none⟩)] w fun e w'=>e= .returned (.bool (!x.aX))∧w=w':=by
 obtain ⟨x0,x7,x8,x9,x10,vF⟩:=h.cells;clear h x0 x7 x8 x10 vF;go_enter Tryz.func161,Tryz.ntmps161;go_wp2;go_ret;exact ⟨rfl,rfl⟩
end
end
section
open Go.RowKit Go.Shelf
attribute [local go_sem] Oper.semAt_some
section
variable {D F:Nat→Prop} {g:Nat} {c:Cf} {st:Sd} {vq vo:Value} {vs os:List Value} {w:World}
theorem dG.far {A:Option Addr} {n cc b:Nat} {l:List (Nat × Nat)} (h:dG w A n cc l) (hf:DL F D A) (hD:D b) (j:Nat) (u:Value):dG (w.setCell ⟨b,j,none⟩ u) A n cc l:=
 h.stay fun ad e=>fD (fun e2=>(hf ad e).2 (by
  have e3:ad.block=b:=e2;rw[e3];exact hD))
theorem dG.drewN {A:Option Addr} {n cc:Nat} {l:List (Nat × Nat)} (h:dG w A n cc l) (k:Nat):dG (w.drewN k) A n cc l:=h.stay fun _ _=>rfl
theorem gU.drewN {p:Nat} {x:Ou} {Ap Ar:Option Addr} {cp cr:Nat} {vp:List Value} (h:gU w D F p x Ap cp vp Ar cr) (k:Nat):gU (w.drewN k) D F p x Ap cp vp Ar cr:=h.stay fun _ _=>rfl
set_option maxRecDepth 100000 in
set_option maxHeartbeats 1000000 in
theorem zM (h:dV w D F g c st vq vs vo os) {i p:Nat} {x:Ou} {Ap Ar:Option Addr} {cp cr:Nat} {vp:List Value} (hx:st.out[i]? =some x) (hp:os[i]? =some (.pointer (some ⟨p,0,none⟩))) (hO:gU w D F p x Ap cp vp Ar cr)
 {Al:Option Addr} {cl:Nat} {l:List (Nat × Nat)} (hl:dG w Al l.length cl l) (hf:DL F D Al) (hr:x.dM≤1000000):
 Calls Tryz.prog 146 #[.pointer (some ⟨g,0,none⟩),.pointer (some ⟨p,0,none⟩),.slice Al l.length cl] w fun e w'=>e= .returned (.tuple #[])∧dV w' D F g c (kM st i (gQ c x l)) vq vs vo os∧Kept (fun k _=>D k) w w':=by
 obtain ⟨x0,x7,x8,x9,x10,vF⟩:=hO.cells;have f10:=hO.blk.frozen 10;have f11:=hO.blk.frozen 11;have y5:=h.blk.cell 5;have YF:=h.blk.cell 19;have f19:=h.blk.frozen 19;simp[dS] at y5 YF;have hcap:=hO.rs.cap;have hmx:=hO.rs.mx;have hgp:g≠p:=fun e2=>by
  subst e2;have h1:=h.blk;have h2:=hO.blk;unfold au at h1 h2;rw[h1] at h2;injection h2 with h3
  injection h3 with _ h4
  exact absurd h4 (by decide)
 by_cases hpe:x.pend= []
 ·rw[hpe] at x10;obtain ⟨hs1,ho1⟩:=h.Js hx hp hO 11 (.int .i64 ((x.dM:Int)+1)) (z:= {x with dM:=x.dM+1}) (KO:=Ar) (Mj:=cr) (by simp[DN,aG]) rfl hO.rs hO.rf;have hl1:=hl.far hf hO.d 11 (.int .i64 ((x.dM:Int)+1));have hk1:Kept (fun k _=>D k) w (w.setCell ⟨p,11,none⟩ (.int .i64 ((x.dM:Int)+1))):=(Kept.refl _ w).setCell (p:=⟨p,11,none⟩) (fun _ _=>hO.d) _;have hx1:(st.out.set i {x with dM:=x.dM+1})[i]? =some {x with dM:=x.dM+1}:=List.getElem?_set_self (List.getElem?_eq_some_iff.1 hx).1;obtain ⟨z0,z7,z8,z9,KR,Tj⟩:=ho1.cells;have e10:=ho1.blk.frozen 10;have v5:=hs1.blk.cell 5;have v19:=hs1.blk.cell 19;have e19:=hs1.blk.frozen 19;simp[dS] at v5 v19;have hpp:gQ c x l=({x with pend:=l,dM:=x.dM+1},decide (c.dM<((x.dM+1:Nat):Int))):=by unfold gQ;rw[if_pos hpe]
  rw[hpp];have hdp:=hO.d;have hdg:=h.gd;have OB:∀(b:Bool) (w2:World),dV w2 D F g c {st with out:=st.out.set i {x with dM:=x.dM+1},failed:=b} vq vs vo os→gU w2 D F p {x with dM:=x.dM+1} Ap cp vp Ar cr→dG w2 Al l.length cl l→
   dV (w2.setCell ⟨p,10,none⟩ (.slice Al l.length cl)) D F g c {st with out:=st.out.set i {x with pend:=l,dM:=x.dM+1},failed:=b} vq vs vo os:=fun b w2 k1 k2 k3=>by
   have:=(k1.Js hx1 hp k2 10 (.slice Al l.length cl) (z:= {x with pend:=l,dM:=x.dM+1}) (KO:=Al) (Mj:=cl) rfl rfl k3 hf).1;simpa using this
  have HF:=ah OB;have HS:=ah hs1;have HO:=ah ho1;have HL:=ah hl1;have HK:=ah hk1;have HDP:=ah hdp;have HDG:=ah hdg;clear h hcap hmx hO hs1 ho1 hl1 hk1 hx1 hpp x0 x7 x8 x9 z0 z7 z8 z9 hdp hdg OB;have PL:∀(b:Bool) (q:Nat),b=(st.failed||decide (c.dM<((x.dM+1:Nat):Int)))→
   dV ((((w.setCell ⟨p,11,none⟩ (.int .i64 ((x.dM:Int)+1))).drewN q).setCell ⟨g,19,none⟩ (.bool b)).setCell ⟨p,10,none⟩ (.slice Al l.length cl)) D F g c (kM st i ({x with pend:=l,dM:=x.dM+1},decide (c.dM<((x.dM+1:Nat):Int)))) vq vs vo os∧
   Kept (fun k _=>D k) w ((((w.setCell ⟨p,11,none⟩ (.int .i64 ((x.dM:Int)+1))).drewN q).setCell ⟨g,19,none⟩ (.bool b)).setCell ⟨p,10,none⟩ (.slice Al l.length cl)):=fun b q hb=>by
   have k1:=(HS.out.drewN q).mQ 19 (.bool b) (st':= {st with out:=st.out.set i {x with dM:=x.dM+1},failed:=b}) rfl rfl rfl;have k2:=(HO.out.drewN q).far (b:=g) HDG.out hgp 19 (.bool b);have k3:=(HL.out.drewN q).far hf HDG.out 19 (.bool b);have k4:=HF.out b _ k1 k2 k3;subst hb;exact ⟨k4,((HK.out.iy q).setCell (p:=⟨g,19,none⟩) (fun _ _=>HDG.out) _).setCell (p:=⟨p,10,none⟩) (fun _ _=>HDP.out) _⟩
  have HE:=ah PL;clear PL;cases hfl:st.failed with
  |true=>
   rw[hfl] at YF v19 HE;have qQ:=ah hfl;clear hfl;go_enter Tryz.func146,Tryz.ntmps146;go_wp2;generalize w.setCell ⟨p,11,none⟩ (.int .i64 ((x.dM:Int)+1))=w1 at*
   go_region
   go_wp2
   go_end0
   exact ⟨rfl,HE.out true 1 rfl⟩
  |false=>
   rw[hfl] at YF v19 HE;have qQ:=ah hfl;clear hfl;by_cases hov:c.dM<(x.dM:Int)+1
   ·have hd:decide (c.dM<(x.dM:Int)+1)=true:=decide_eq_true hov;have hb:true=(false||decide (c.dM<((x.dM+1:Nat):Int))):=by simp;omega
    have HB:=ah hb;clear hb;go_enter Tryz.func146,Tryz.ntmps146;go_wp2;generalize w.setCell ⟨p,11,none⟩ (.int .i64 ((x.dM:Int)+1))=w1 at*
    go_region
    go_wp2
    go_end0
    exact ⟨rfl,HE.out true 1 HB.out⟩
   ·have hd:decide (c.dM<(x.dM:Int)+1)=false:=decide_eq_false hov;have hb:false=(false||decide (c.dM<((x.dM+1:Nat):Int))):=by simp;omega
    have HB:=ah hb;clear hb;go_enter Tryz.func146,Tryz.ntmps146;go_wp2;generalize w.setCell ⟨p,11,none⟩ (.int .i64 ((x.dM:Int)+1))=w1 at*
    go_region
    go_wp2
    go_end0
    exact ⟨rfl,HE.out false 1 HB.out⟩
 ·have hpl:0<x.pend.length:=List.length_pos_iff.2 hpe;have d0:((x.pend.length:Int)==0)=false:=by simp;omega
  have hpp:gQ c x l=({x with pend:=l},false):=by unfold gQ;rw[if_neg hpe]
  rw[hpp];have hs:=h.Js hx hp hO 10 (.slice Al l.length cl) (z:= {x with pend:=l}) (KO:=Al) (Mj:=cl) rfl rfl hl hf;have HS:=ah hs.1;have HD:=ah hO.d;clear h hO hs hpp;go_enter Tryz.func146,Tryz.ntmps146;go_wp2
  go_end0
  refine ⟨rfl,?_,(Kept.refl _ w).setCell (p:=⟨p,10,none⟩) (fun _ _=>HD.out) _⟩;have:=HS.out;simpa[kM] using this
end
end
section
theorem Mt {l:List (Nat × Nat)} {x:Nat × Nat} {s:Nat} (h:∀r∈l,r.1≤r.2∧r.2<s) (hx:x.1≤x.2∧x.2<s):(∀r∈fO l x,r.1≤r.2∧r.2<s)∧(fO l x).length≤l.length+1:=by
 unfold fO;cases hl:l.getLast? with
 |none=>exact ⟨by simpa using hx,by simp⟩
 |some y=>
  have hy:=h y (List.mem_of_getLast? hl);dsimp only;split
  ·rename_i e;refine ⟨fun r hr=> ?_,by simp⟩;rcases List.mem_append.1 hr with hr|hr
   ·exact h r (List.dropLast_subset l hr)
   ·simp at hr;rw[hr];dsimp only;omega
  ·refine ⟨fun r hr=> ?_,by simp⟩;rcases List.mem_append.1 hr with hr|hr
   ·exact h r hr
   ·simp at hr;rw[hr];exact hx
theorem Gq (dO:List Nk) {x:Ou} (hs:1≤aG x):(∀r∈bT dO x,r.1≤r.2∧r.2<aG x)∧(bT dO x).length≤dO.length:=by
 have hf:(dO.filter (fun n=>decide (n.sn=(x.sn:Int)))).length≤dO.length:=List.length_filter_le _ _;have key:∀(l:List Nk) (a:List (Nat × Nat)),(∀r∈a,r.1≤r.2∧r.2<aG x)→(∀r∈l.foldl (eX (aG x)) a,r.1≤r.2∧r.2<aG x)∧(l.foldl (eX (aG x)) a).length≤a.length+l.length:=by
  intro l
  induction l with
  |nil=>intro a ha;exact ⟨by simpa using ha,by simp⟩
  |cons n r ih=>
   intro a ha;have h1:(∀q∈eX (aG x) a n,q.1≤q.2∧q.2<aG x)∧(eX (aG x) a n).length≤a.length+1:=by
    unfold eX;split
    ·exact ⟨ha,by omega⟩
    ·exact Mt ha (by dsimp only;omega)
   obtain ⟨i1,i2⟩:=ih _ h1.1;rw[List.foldl_cons];refine ⟨i1,?_⟩;simp only[List.length_cons];omega
 obtain ⟨k1,k2⟩:=key (dO.filter (fun n=>decide (n.sn=(x.sn:Int)))) [] (by simp);refine ⟨k1,?_⟩;unfold bT;simp only[List.length_nil] at k2;omega
theorem jF.V2 {st:Sd} {K:Nat} (h:jF st K):jF (eD st) (K+1):=by
 obtain ⟨⟨d,h1,h2,h3,h4⟩,h5⟩:=jk st.out;obtain ⟨⟨q,g1,g2,g3,g4⟩,g5⟩:=nu st.queue (st.front+(aQ st.out).2.1);have YN:=qM (fun s hs=>(h.KB s hs).1);have EY:=h.held;unfold aW at EY;have hsum:aj st.queue=aj q+aj (eG st.queue (st.front+(aQ st.out).2.1)).2.2.2:=by
  conv=>lhs;rw[g1]
  rw[kC]
 have hlen:q.length≤st.queue.length:=by
  conv=>rhs;rw[g1]
  simp
 have hmem:∀x,x∈(eD st).out→x∈st.out:=fun x hx=>by
  have e:(eD st).out=(aQ st.out).2.2:=rfl;rw[h1,←e];simp[hx]
 refine ⟨?_,?_,?_,?_,fun s hs=> ?_,h.pol,fun x hx=>h.ou x (hmem x hx),fun x hx=> ?_,h.Bd,h.Be⟩
 ·have:=h.done;show st.done+(eG st.queue (st.front+(aQ st.out).2.1)).1≤_
  omega
 ·have:=h.dN;show st.dN≤_
  omega
 ·have:=h.bytes;show st.bytes≤_
  omega
 ·show aj (eG st.queue (st.front+(aQ st.out).2.1)).2.2.2≤_
  omega
 ·refine h.KB s ?_;rw[g1];exact List.mem_append_right _ hs
 ·have:=h.rx x (hmem x hx);omega
theorem jF.aM {st:Sd} {K:Nat} (h:jF st K) (c:Cf) (m:Ou→List (Nat × Nat)) (n:Nat) (hm:∀x∈st.out,(∀r∈m x,r.1≤r.2∧r.2<aG x)∧(m x).length≤1000) (b w:Bool):
 jF {st with out:=(aM c m n st.out).1,failed:=b,wait:=w} (K+1):=by
 have hone:∀x∈st.out,Bc (bY c m x).1∧(bY c m x).1.dM≤K+1:=fun x hx=>by
  have ho:=h.ou x hx;have hr:=h.rx x hx;unfold bY;split
  ·exact ⟨ho,by dsimp only;omega⟩
  ·split
   ·exact ⟨⟨ho.sn,ho.ps,by simp,by simp⟩,by dsimp only;omega⟩
   ·exact KC c ho hr (hm x hx).1 (hm x hx).2
 refine ⟨?_,?_,?_,h.held,h.KB,h.pol,fun y hy=> ?_,fun y hy=> ?_,h.Bd,h.Be⟩
 ·have:=h.done;show st.done≤_
  omega
 ·have:=h.dN;show st.dN≤_
  omega
 ·have:=h.bytes;show st.bytes≤_
  omega
 ·obtain ⟨x,hx,rfl|rfl⟩:=kD c m n _ y hy
  ·exact h.ou _ hx
  ·exact (hone x hx).1
 ·obtain ⟨x,hx,rfl|rfl⟩:=kD c m n _ y hy
  ·have:=h.rx _ hx;omega
  ·exact (hone x hx).2
theorem jF.stat {st:Sd} {K:Nat} (h:jF st K) (c:Cf) (m:Ou→List (Nat × Nat)) (n:Nat) (hm:∀x∈st.out,(∀r∈m x,r.1≤r.2∧r.2<aG x)∧(m x).length≤1000):jF (iP c m n st) (K+3):=by
 have h2:=(h.aM c m n hm (st.failed||(Go.Proofs.YtbhiklnljiehiaaGreat.aM c m n st.out).2) (st.wait&&decide (n≤iA st st.polled))).V2;unfold iP;dsimp only;split
 ·exact h2.nY c
 ·exact h2.mono (by omega)
theorem wV {aL:Int} {l:List Nk} (h:dm aL l=true):l.length≤512∧0≤aL∧aL≤1023:=by
 simp only[dm,Bool.and_eq_true,decide_eq_true_eq] at h;omega
theorem jF.status {st:Sd} {K:Nat} (h:jF st K) (c:Cf) {now:Int} (hn:now≤9223372036854775807) (aL:Int) (dO:List Nk):jF (l8 c st now aL dO).1 (K+3):=by
 have h1:=h.clock hn;unfold l8;split
 ·exact h.mono (by omega)
 ·rename_i hv;split
  ·exact h1.mono (by omega)
  ·refine h1.stat c (bT dO) _ fun x hx=> ?_
   have ho:=gX (h1.ou x hx);have hl:=wV (by simpa using hv);obtain ⟨m1,m2⟩:=Gq dO ho.1;exact ⟨m1,by omega⟩
theorem jF.ny {st:Sd} {K:Nat} (h:jF st K) (hi:bS st) (c:Cf) {now:Int} (hn:now≤9223372036854775807) (n:Int):jF (oh c st now n).1 (K+2):=by
 have h1:=h.tick c hn;have hi1:=hi.tick c now;unfold oh;split
 ·exact h1.mono (by omega)
 ·cases hp:gJ (fA c st now).out with
  |some i=>
   obtain ⟨x,hx,_⟩:=iB hp;simp only[hx];exact (h1.again c n i hx).mono (by omega)
  |none=>
   have h2:=h1.fresh hi1.toInvV c n;dsimp only;generalize jE c n (fA c st now)=R at*;obtain ⟨s2,_|⟨x,b⟩⟩:=R
   ·exact h2
   ·exact h2
end
section
open Go.RowKit Go.Shelf
attribute [local go_sem] Oper.semAt_some
section
variable {D F:Nat→Prop} {g:Nat} {c:Cf} {st:Sd} {vq vo:Value} {vs os:List Value} {w:World}
theorem dG.new (w:World) (t:TypeId) (a b:Nat):dG (w.alloc (.cells #[.int .i64 (a:Nat),.int .i64 (b:Nat)] t)) (some ⟨w.heap.size,0,none⟩) 1 1 [(a,b)]:=
 ⟨rfl,aN,by omega,fun _=>⟨_,rfl,by simp,fun j r hj=>by
  have hb:=au.new w t #[.int .i64 (a:Nat),.int .i64 (b:Nat)];cases j with
  |zero=>
   simp at hj;subst hj;exact ⟨hb.cell 0,hb.cell 1⟩
  |succ j=>simp at hj⟩⟩
set_option maxRecDepth 10000 in
set_option maxHeartbeats 1000000 in
theorem uM (h:dV w D F g c st vq vs vo os) {K:Nat} (hB:jF st K) (hK:K≤100000) (hw:st.out.length≤512):
 Calls Tryz.prog 115 #[.pointer (some ⟨g,0,none⟩)] w fun e w'=>e= .returned (.tuple #[])∧kX w D F g c (bQ c st) w':=by
 have hid:=CK h hB.held (by omega);have Rf:=ah hid;clear hid;cases hi:jP st with
 |false=>
  have hfin:bQ c st=st:=by unfold bQ;rw[if_pos hi]
  rw[hfin];rw[hi] at Rf;have HH:=ah h;clear h hi hfin;go_enter Tryz.func115,Tryz.ntmps115;go_wp2_with fail;refine Rf.out.mono ?_;rintro e1 w1 ⟨rfl,q,rfl⟩;go_wp2;refine bodyPost_ret (results_none rfl _ _ _) rfl ?_;exact ⟨rfl,(HH.out.o (Kept.refl _ w)).drewN q⟩
 |true=>
  rw[hi] at Rf;have hix:=fun q=>yT 161 (.inr rfl) (fun x=> !x.aX) (h.drewN q) (by omega) fun p x Ap cp vp Ar cr ho=>Mk ho
  have Nz:=ah hix;have sP:=h.blk.cell 12;simp[dS] at sP;obtain ⟨A,cc,rfl,hs⟩:=h.Om;have hcap:=hs.cap;have hmx:=hs.mx;have HH:=ah h;clear hix;cases hf:st.out.findIdx? (fun x=> !x.aX) with
  |none=>
   have hfin:bQ c st=st:=by unfold bQ;rw[if_neg (by simp[hi]),hf]
   rw[hfin];rw[hf] at Nz;clear h hi hfin hs hf;go_enter Tryz.func115,Tryz.ntmps115;go_wp2_with fail;refine Rf.out.mono ?_;rintro e1 w1 ⟨rfl,q,rfl⟩;go_wp2_with fail;refine (Nz.out q).mono ?_;rintro e1 w1 ⟨rfl,rfl⟩;simp only[Zp];go_wp2
   go_end0
   exact ⟨rfl,(HH.out.o (Kept.refl _ w)).drewN q⟩
  |some i=>
   rw[hf] at Nz;have hil:i<st.out.length:=(List.findIdx?_eq_some_iff_getElem.1 hf).1;obtain ⟨x,hx⟩:∃x,st.out[i]? =some x:=⟨_,List.getElem?_eq_getElem hil⟩
   have hfin:bQ c st=kM st i (gQ c x [(0,aG x-1)]):=by unfold bQ;rw[if_neg (by simp[hi]),hf];simp only[hx]
   rw[hfin];obtain ⟨p,Ap,cp,vp,Ar,cr,he,ho⟩:=h.oe i x hx;obtain ⟨ad,u,rfl,hb,hu,hc⟩:=hs.get hil;rw[he] at hu;cases hu;obtain ⟨z0,z7,z8,z9,KR,Tj⟩:=ho.cells;have hsz:=gX (hB.ou x (List.mem_of_getElem? hx));have hrx:=hB.rx x (List.mem_of_getElem? hx);have hsub:((aG x:Nat):Int)-1=((aG x-1:Nat):Int):=by omega
   have HX:=ah hx;have HE:=ah he;have HO:=ah ho;have ae9:=ah hsub;clear h hi hfin hs hf hx he ho z0 z7 z9 KR Tj hsub;go_enter Tryz.func115,Tryz.ntmps115;go_wp2_with fail;refine Rf.out.mono ?_;rintro e1 w1 ⟨rfl,q,rfl⟩;go_wp2_with fail;refine (Nz.out q).mono ?_;rintro e1 w1 ⟨rfl,rfl⟩;simp only[Zp];go_wp2_with fail;rw[ae9.out];have hW:=((HH.out.drewN q).alloc (.cells #[.int .i64 0,.int .i64 ((aG x-1:Nat):Int)] 39)).UU (b:=w.heap.size) (by simp);have hsp:dG ((w.drewN q).alloc (.cells #[.int .i64 0,.int .i64 ((aG x-1:Nat):Int)] 39)) (some ⟨w.heap.size,0,none⟩) [(0,aG x-1)].length 1 [(0,aG x-1)]:=dG.new (w.drewN q) 39 0 (aG x-1);obtain ⟨p2,Ap2,cp2,vp2,Ar2,cr2,he2,ho2⟩:=hW.oe i x HX.out;rw[HE.out] at he2;cases he2;have NJ:=zM hW HX.out HE.out ho2 hsp (fun ad e=>by cases e;exact ⟨.inr rfl,HH.out.fresh (aN)⟩) (by omega);clear hsp ho2 hW;refine NJ.mono ?_;rintro e2 w2 ⟨rfl,hA2,hk2⟩;go_wp2
   go_end0
   exact ⟨rfl,kX.step (((Kept.refl _ w).iy q).alloc _) (bW.refl _ _) (bW.one (aN)) (hA2.o hk2)⟩
def aaC (w:World) (D F:Nat→Prop) (g:Nat) (c:Cf) (st:Sd) (e:Ending) (w':World):Prop:=
 ((st.failed=false∧e= .returned (.tuple #[]))∨(st.failed=true∧e=Jt))∧kX w D F g c st w'
set_option maxRecDepth 10000 in
set_option maxHeartbeats 1000000 in
theorem uN (h:dV w D F g c st vq vs vo os) {K:Nat} (hB:jF st K) (hK:K≤100000) (hw:st.out.length≤512) (hfl:st.failed=false):
 Calls Tryz.prog 78 #[.pointer (some ⟨g,0,none⟩)] w (aaC w D F g c (gT c st)):=by
 have wS:=h.blk.cell 16;have Pf:=h.blk.cell 17;have Eg:=h.blk.cell 18;have y20:=h.blk.cell 20;have f16:=h.blk.frozen 16;have f18:=h.blk.frozen 18;simp[dS] at wS Pf Eg y20;have HH:=ah h;cases hwt:st.wait with
 |false=>
  have hfin:gT c st=st:=by unfold gT;rw[if_pos (.inl hwt)]
  rw[hfin];rw[hwt] at wS;have qQ:=ah hfl;clear h hfin hwt hfl;go_enter Tryz.func78,Tryz.ntmps78;go_wp2
  go_quiet (fail)
  go_wp2;refine bodyPost_ret (results_none rfl _ _ _) rfl ?_;exact ⟨.inl ⟨qQ.out,rfl⟩,(HH.out.o (Kept.refl _ w)).drewN _⟩
 |true=>
  rw[hwt] at wS;by_cases hlt:st.now<st.fK
  ·have hfin:gT c st=st:=by unfold gT;rw[if_pos (.inr hlt)]
   rw[hfin];have hd:decide (st.now<st.fK)=true:=decide_eq_true hlt;have qQ:=ah hfl;clear h hfin hwt hfl;go_enter Tryz.func78,Tryz.ntmps78;go_wp2
   go_quiet (fail)
   go_wp2;refine bodyPost_ret (results_none rfl _ _ _) rfl ?_;exact ⟨.inl ⟨qQ.out,rfl⟩,(HH.out.o (Kept.refl _ w)).drewN _⟩
  ·have hfin:gT c st=bQ c {st with wait:=false,eB:=true}:=by unfold gT;rw[if_neg (by rw[hwt];simp;omega)]
   rw[hfin];have hd:decide (st.now<st.fK)=false:=decide_eq_false hlt;have h2:=fun q=>((h.drewN q).mQ 16 (.bool false) (st':= {st with wait:=false}) rfl rfl rfl).mQ 18 (.bool true) (st':= {st with wait:=false,eB:=true}) rfl rfl rfl
   have hk2:=fun q=>(((Kept.refl (fun k _=>D k) w).iy q).setCell (p:=⟨g,16,none⟩) (fun _ _=>h.gd) (.bool false)).setCell (p:=⟨g,18,none⟩) (fun _ _=>h.gd) (.bool true)
   have hB2:jF {st with wait:=false,eB:=true} K:=⟨hB.done,hB.dN,hB.bytes,hB.held,hB.KB,hB.pol,hB.ou,hB.rx,hB.Bd,hB.Be⟩;have hrp:=fun q=>uM (h2 q) hB2 hK hw
   have KJ:=ah hrp;have wG:=ah hk2;have qQ:=ah hfl;clear h hfin hwt hfl h2 hk2 hrp;go_enter Tryz.func78,Tryz.ntmps78;go_wp2
   go_quiet (fail)
   go_wp2_with fail;refine (KJ.out _).mono ?_;rintro e1 w1 ⟨rfl,D1,F1,vq1,vs1,Xh,os1,hA1,hD1,hF1,hk1⟩;have HA1:=ah hA1;have hend:kX w D F g c (bQ c {st with wait:=false,eB:=true}) w1:=kX.step (wG.out _) (bW.refl _ _) (bW.refl _ _) ⟨D1,F1,vq1,vs1,Xh,os1,hA1,hD1,hF1,hk1⟩;have PL:=ah hend;clear hA1 hD1 hF1 hk1 hend;cases hf1:(bQ c {st with wait:=false,eB:=true}).failed with
   |false=>
    have hm:=zB HA1.out hf1;have HM:=ah hm;have RA:=ah hf1;clear hm hf1;go_wp2_with fail;refine HM.out.mono ?_;rintro e2 w2 ⟨rfl,rfl⟩;go_wp2
    go_end0
    exact ⟨.inl ⟨RA.out,rfl⟩,PL.out⟩
   |true=>
    have hm:=vW HA1.out hf1;have HM:=ah hm;have RA:=ah hf1;clear hm hf1;go_wp2_with fail;refine HM.out.mono ?_;rintro e2 w2 ⟨rfl,rfl⟩;exact ⟨rfl,.inr ⟨RA.out,rfl⟩,PL.out⟩
end
end
end Go.Proofs.YtbhiklnljiehiaaGreat
