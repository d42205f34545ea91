/- amsend: writes to the transmitter's memo. -/
import Derived.Test.YtbhiklnljiehiaaGreatM1an
namespace Go.Proofs.YtbhiklnljiehiaaGreat
section
open Go.RowKit
section
variable {D F F':Nat→Prop} {g:Nat} {c:Cf} {st st':Sd} {vq vo:Value} {vs os:List Value} {w w':World}
theorem Fh.mono {A:Option Addr} (h:Fh F D A) (hf:∀k,F k→F' k):Fh F' D A:=fun ad e=>⟨hf _ (h ad e).1,(h ad e).2⟩
theorem iH.Ik {p:Nat} {x:Ou} {Ap Ar:Option Addr} {cp cr:Nat} {vp:List Value} (h:iH w D F p x Ap cp vp Ar cr) (hf:∀k,F k→F' k):iH w D F' p x Ap cp vp Ar cr:=
 ⟨h.blk,h.d,hf p h.f,h.ps,h.pf.mono hf,fun i v hv=>(h.pe i v hv).mono hf,h.rs,h.rf.mono hf⟩
theorem eZ.Ik (h:eZ w D F g c st vq vs vo os) (hf:∀k,F k→F' k) (hl:∀k,F' k→k<w.heap.size):eZ w D F' g c st vq vs vo os:=
 ⟨h.blk,h.gd,fun k hk=>hf k (h.sub k hk),hl,h.qr,h.qd,fun i p hi=>let ⟨A,cc,e,hs,hi'⟩:=h.qe i p hi;⟨A,cc,e,hs,hi'.mono hf⟩,h.uz,h.od,
  fun i x hi=>let ⟨p,Ap,cp,vp,Ar,cr,e,ho⟩:=h.oe i x hi;⟨p,Ap,cp,vp,Ar,cr,e,ho.Ik hf⟩,h.inj⟩
theorem gB {p:Addr} {u:Value} {k:Nat} (hk:k≠p.block):(w.setCell p u).heap[k]? =w.heap[k]? :=Below.heap_setCell w p u k hk
theorem iH.far {p b:Nat} {x:Ou} {Ap Ar:Option Addr} {cp cr:Nat} {vp:List Value} (h:iH w D F p x Ap cp vp Ar cr) (hD:D b) (hne:b≠p) (j:Nat) (u:Value):iH (w.setCell ⟨b,j,none⟩ u) D F p x Ap cp vp Ar cr:=by
 have nd:∀{A:Option Addr},Fh F D A→∀ad,A=some ad→(w.setCell ⟨b,j,none⟩ u).heap[ad.block]? =w.heap[ad.block]? :=fun hi ad e=>gB (fun e2=>(hi ad e).2 (by
  have e3:ad.block=b:=e2;rw[e3];exact hD))
 exact ⟨(gB (fun e=>hne (by have e3:p=b:=e;exact e3.symm))).trans h.blk,h.d,h.f,h.ps.stay (nd h.pf) (fun i v ad hv e=>nd (h.pe i v hv) ad e),h.pf,h.pe,h.rs.stay (nd h.rf),h.rf⟩
theorem eZ.oI (h:eZ w D F g c st vq vs vo os) (j:Nat) (u:Value) (he:(eU c vq vo st).setIfInBounds j u=eU c vq vo st') (hq:st'.queue=st.queue) (ho:st'.out=st.out):eZ (w.setCell ⟨g,j,none⟩ u) D F g c st' vq vs vo os:=by
 have hb:=h.blk.av j u;rw[he] at hb;have hDg:=h.gd;have nd:∀{A:Option Addr},Fh F D A→∀ad,A=some ad→(w.setCell ⟨g,j,none⟩ u).heap[ad.block]? =w.heap[ad.block]? :=fun hi ad e=>gB (fun e2=>(hi ad e).2 (by
  have e3:ad.block=g:=e2;rw[e3];exact hDg))
 refine ⟨hb,h.gd,h.sub,fun k hk=>by simpa[World.setCell] using h.lt k hk,by rw[hq];exact h.qr.store h.blk (by decide) u,h.qd,fun i p hi=> ?_,by rw[ho];exact h.uz.store h.blk (by decide) u,h.od,fun i x hi=> ?_,h.inj⟩
 ·rw[hq] at hi;obtain ⟨A,cc,e,hs,hf⟩:=h.qe i p hi;exact ⟨A,cc,e,hs.stay (nd hf),hf⟩
 ·rw[ho] at hi;obtain ⟨p,Ap,cp,vp,Ar,cr,e,hx⟩:=h.oe i x hi;refine ⟨p,Ap,cp,vp,Ar,cr,e,hx.far hDg (fun e2=> ?_) j u⟩;subst e2;have h1:=h.blk;have h2:=hx.blk;unfold au at h1 h2;rw[h1] at h2;injection h2 with h3
  injection h3 with _ h4
  exact absurd h4 (by decide)
theorem eZ.Ks (h:eZ w D F g c st vq vs vo os) {i p:Nat} {x z:Ou} {Ap Ar LQ:Option Addr} {cp cr M5:Nat} {vp:List Value} (hx:st.out[i]? =some x) (hp:os[i]? =some (.pointer (some ⟨p,0,none⟩))) (hO:iH w D F p x Ap cp vp Ar cr)
 (j:Nat) (u:Value) (he:(Hg x (.slice Ap x.ps.length cp) (.slice Ar x.pend.length cr)).setIfInBounds j u=Hg z (.slice Ap z.ps.length cp) (.slice LQ z.pend.length M5)) (hz:z.ps=x.ps) (hr:eH w LQ z.pend.length M5 z.pend) (hf:Fh F D LQ):
 eZ (w.setCell ⟨p,j,none⟩ u) D F g c {st with out:=st.out.set i z} vq vs vo os∧iH (w.setCell ⟨p,j,none⟩ u) D F p z Ap cp vp LQ M5:=by
 have hb:=hO.blk.av j u;rw[he] at hb;have hDp:=hO.d;have hgp:g≠p:=fun e2=>by
  subst e2;have h1:=h.blk;have h2:=hO.blk;unfold au at h1 h2;rw[h1] at h2;injection h2 with h3
  injection h3 with _ h4
  exact absurd h4 (by decide)
 have nd:∀{A:Option Addr},Fh F D A→∀ad,A=some ad→(w.setCell ⟨p,j,none⟩ u).heap[ad.block]? =w.heap[ad.block]? :=fun hi ad e=>gB (fun e2=>(hi ad e).2 (by
  have e3:ad.block=p:=e2;rw[e3];exact hDp))
 have hZ:iH (w.setCell ⟨p,j,none⟩ u) D F p z Ap cp vp LQ M5:=by
  have hps:=hO.ps.stay (w':=w.setCell ⟨p,j,none⟩ u) (nd hO.pf) (fun i v ad hv e=>nd (hO.pe i v hv) ad e);exact ⟨hb,hO.d,hO.f,by rw[hz];exact hps,hO.pf,hO.pe,hr.stay (nd hf),hf⟩
 refine ⟨⟨(gB (fun e=>hgp e)).trans h.blk,h.gd,h.sub,fun k hk=>by simpa[World.setCell] using h.lt k hk,h.qr.store hO.blk (by decide) u,h.qd,fun i q hi=> ?_,?_,h.od,fun k y hk=> ?_,h.inj⟩,hZ⟩
 ·obtain ⟨A,cc,e,hs,hf⟩:=h.qe i q hi;exact ⟨A,cc,e,hs.stay (nd hf),hf⟩
 ·have:=h.uz.store hO.blk (i:=j) (by decide) u;have hl:(st.out.set i z).length=st.out.length:=List.length_set;show eT _ 0 _ vo (st.out.set i z).length os
  rw[hl];exact this
 ·have hk':(st.out.set i z)[k]? =some y:=hk;by_cases hki:i=k
  ·subst hki;rw[List.getElem?_set_self (List.getElem?_eq_some_iff.1 hx).1] at hk';cases hk';exact ⟨p,Ap,cp,vp,LQ,M5,hp,hZ⟩
  ·rw[List.getElem?_set_ne hki] at hk';obtain ⟨q,A1,c1,v1,A2,c2,e,hy⟩:=h.oe k y hk';refine ⟨q,A1,c1,v1,A2,c2,e,hy.far hDp (fun e2=>hki ?_) j u⟩;subst e2;exact h.inj i k _ hp e
end
end
section
open Go.RowKit
def mg (w:World) (D F:Nat→Prop) (g:Nat) (c:Cf) (st:Sd) (w':World):Prop:=
 ∃D' F' vq vs vo os,eZ w' D' F' g c st vq vs vo os∧dm w D D'∧dm w F F'∧Kept (fun k _=>D k) w w'
section
variable {D F D' F':Nat→Prop} {g:Nat} {c:Cf} {st st':Sd} {vq vo:Value} {vs os:List Value} {w w' w'':World}
theorem Kept.step (h:Kept (fun k _=>D k) w w') (h':Kept (fun k _=>D' k) w' w'') (hg:dm w D D'):Kept (fun k _=>D k) w w'':=
 ⟨h'.os.trans h.os,h'.tape.trans h.tape,h'.output.trans h.output,Nat.le_trans h.size h'.size,fun i x hi hn=>h'.same i x (h.same i x hi hn) fun hd=>by
  rcases hg i hd with e|e
  ·exact hn e
  ·have:=lt_of_heap hi;omega⟩
theorem eZ.o (h:eZ w' D F g c st vq vs vo os) (hk:Kept (fun k _=>D k) w w'):mg w D F g c st w':=
 ⟨D,F,vq,vs,vo,os,h,dm.refl _ _,dm.refl _ _,hk⟩
theorem mg.step (hk:Kept (fun k _=>D k) w w') (hD:dm w D D') (hF:dm w F F') (h:mg w' D' F' g c st w''):mg w D F g c st w'':=by
 obtain ⟨D2,F2,vq,vs,vo,os,h1,h2,h3,h4⟩:=h;exact ⟨D2,F2,vq,vs,vo,os,h1,hD.trans h2 hk.size,hF.trans h3 hk.size,hk.step h4 hD⟩
theorem Kept.iU {M:Nat→Obj→Prop} (h:Kept M w w') (k:Nat):Kept M w (w'.drewN k):=⟨h.os,h.tape,h.output,h.size,h.same⟩
theorem mg.drewN (h:mg w D F g c st w') (k:Nat):mg w D F g c st (w'.drewN k):=by
 obtain ⟨D2,F2,vq,vs,vo,os,h1,h2,h3,h4⟩:=h;exact ⟨D2,F2,vq,vs,vo,os,h1.drewN k,h2,h3,h4.iU k⟩
theorem mg.alloc (h:mg w D F g c st w') (o:Obj):mg w D F g c st (w'.alloc o):=by
 obtain ⟨D2,F2,vq,vs,vo,os,h1,h2,h3,h4⟩:=h;exact ⟨D2,F2,vq,vs,vo,os,h1.alloc o,h2,h3,h4.alloc o⟩
theorem mg.put {w0:World} (h:mg w0 D F g c st w') (hk:Kept (fun k _=>D k) w w0) {b:Nat} (hb:w.heap.size≤b) (hb0:b<w0.heap.size) (hF:∀k,F k→k<w.heap.size) (_hD:∀k,D k→F k) (j:Nat) (u:Value):mg w D F g c st (w'.setCell ⟨b,j,none⟩ u):=by
 obtain ⟨D2,F2,vq,vs,vo,os,h1,h2,h3,h4⟩:=h;have hnf:¬F2 b:=fun hf=>by
  rcases h3 b hf with e|e
  ·have:=hF b e;omega
  ·omega
 refine ⟨D2,F2,vq,vs,vo,os,h1.stay fun k hk=>gB (fun e=>hnf ?_),fun k hk'=> ?_,fun k hk'=> ?_,(hk.trans h4).setCell (fun o ho=> ?_) u⟩
 ·have e2:k=b:=e;rw[←e2];exact hk
 ·rcases h2 k hk' with e|e
  ·exact .inl e
  ·have:=hk.size;exact .inr (by omega)
 ·rcases h3 k hk' with e|e
  ·exact .inl e
  ·have:=hk.size;exact .inr (by omega)
 ·have:b<w.heap.size:=lt_of_heap ho;omega
theorem mg.kept (h:mg w D F g c st w'):Kept (fun k _=>D k) w w':=h.choose_spec.choose_spec.choose_spec.choose_spec.choose_spec.choose_spec.2.2.2
theorem eZ.Vx (h:eZ w D F g c st vq vs vo os) {b:Nat} (hb:b<w.heap.size):eZ w D (fun k=>F k∨k=b) g c st vq vs vo os:=
 h.Ik (fun _=> .inl) fun k hk=>by
  rcases hk with hk|rfl
  ·exact h.lt k hk
  ·exact hb
theorem dm.one (hb:w.heap.size≤g):dm w F (fun k=>F k∨k=g):=fun k hk=>by
 rcases hk with hk|rfl
 ·exact .inl hk
 ·exact .inr hb
theorem eZ.fresh (h:eZ w D F g c st vq vs vo os) {b:Nat} (hb:w.heap.size≤b):¬D b:=fun hd=>by
 have:=h.lt b (h.sub b hd);omega
end
end
section
open Go.RowKit Go.Shelf
attribute [local go_sem] Oper.semAt_some
section
variable {D F:Nat→Prop} {g:Nat} {c:Cf} {st:Sd} {vq vo:Value} {vs os:List Value} {w:World}
theorem xY (h:eZ w D F g c st vq vs vo os) (now:Int):
 Calls Tryz.prog 77 #[.pointer (some ⟨g,0,none⟩),.int .i64 now] w fun e w'=>e= .returned (.tuple #[])∧eZ w' D F g c (fO st now) vq vs vo os∧Kept (fun k _=>D k) w w':=by
 have x20:=h.blk.cell 20;have f20:=h.blk.frozen 20;simp[eU] at x20;have hs:=fun u he=>h.oI 20 (.int .i64 u) (st':= {st with now:=u}) he rfl rfl
 have HS:=ah hs;have HD:=ah h.gd;by_cases hlt:st.now<now
 ·have hc:fO st now= {st with now:=now}:=by unfold fO;rw[if_pos hlt]
  rw[hc];have hle:st.now≤now:=by omega
  clear h hs hc;go_enter Tryz.func77,Tryz.ntmps77;go_wp2
  go_end0
  exact ⟨rfl,HS.out now rfl,(Kept.refl _ w).setCell (p:=⟨g,20,none⟩) (fun _ _=>HD.out) _⟩
 ·have hc:fO st now= {st with now:=st.now}:=by unfold fO;rw[if_neg hlt]
  rw[hc];clear h hs hc;go_enter Tryz.func77,Tryz.ntmps77;go_wp2
  go_end0
  exact ⟨rfl,HS.out st.now rfl,(Kept.refl _ w).setCell (p:=⟨g,20,none⟩) (fun _ _=>HD.out) _⟩
theorem BG (h:eZ w D F g c st vq vs vo os) (hf:st.failed=false):
 Calls Tryz.prog 116 #[.pointer (some ⟨g,0,none⟩)] w fun e w'=>e= .returned (.tuple #[])∧w=w':=by
 have Tf:=h.blk.cell 19;simp[eU] at Tf;rw[hf] at Tf;clear h hf;go_enter Tryz.func116,Tryz.ntmps116;go_wp2
 go_end0
 exact ⟨rfl,rfl⟩
abbrev Kt:Ending:= .panicked [{v:= .iface 191 (.agg #[]),recovered:=false}]
theorem xZ (h:eZ w D F g c st vq vs vo os) (hf:st.failed=true):
 Calls Tryz.prog 116 #[.pointer (some ⟨g,0,none⟩)] w fun e w'=>e=Kt∧w=w':=by
 have Tf:=h.blk.cell 19;simp[eU] at Tf;rw[hf] at Tf;clear h hf;unfold Kt;go_enter Tryz.func116,Tryz.ntmps116;go_wp2;exact ⟨rfl,rfl,rfl⟩
theorem Eo (h:eZ w D F g c st vq vs vo os) (hsum:dx st≤1048576) (hn:st.out.length≤1000000):
 Calls Tryz.prog 131 #[.pointer (some ⟨g,0,none⟩)] w fun e w'=>e= .returned (.bool (kH st))∧aan w w':=by
 have hpe:=fun k=>vV (h.drewN k) hn
 have Lu:=fun k=>Ea (h.drewN k) hsum
 have HP:=ah hpe;have HE:=ah Lu;have x10:=h.blk.cell 10;have Hl:=h.blk.cell 12;simp[eU] at x10 Hl;clear hpe Lu;unfold LD at HP;cases hpa:gU st.out with
 |some i=>
  rw[hpa] at HP;obtain ⟨x,hx,_⟩:=gI hpa;obtain ⟨p,Ap,cp,vp,Ar,cr,he,ho⟩:=h.oe i x hx;have hg:os[i]?.getD (.pointer none)= .pointer (some ⟨p,0,none⟩):=by rw[he];rfl
  simp only[hg] at HP;have hfin:kH st=false:=by unfold kH;rw[hpa];rfl
  rw[hfin];clear h hpa hx he ho hg hfin;go_enter Tryz.func131,Tryz.ntmps131;go_wp2
  go_quiet ((go_at_call 84;exact Calls.quiet_of_same ((HP.out _).mono fun _ _ hh=>⟨hh.1,hh.2.symm⟩)))
  go_wp2;go_ret;refine ⟨rfl,?_⟩;exact ⟨_,rfl⟩
 |none=>
  rw[hpa] at HP;simp only at HP;obtain ⟨A,cc,rfl,hs⟩:=h.Tg;have hcap:=hs.cap;have hmx:=hs.mx;have hfin:kH st=(decide (st.taken=dx st)||decide (512≤st.out.length)):=by unfold kH;rw[hpa];rfl
  rw[hfin];clear h hs hpa hfin;generalize dx st=H at*;by_cases ht:st.taken=H
  ·rw[decide_eq_true ht];have d1:((st.taken:Int)==(H:Int))=true:=by simp;omega
   have d2:decide (st.taken=H)=true:=decide_eq_true ht;have HT:=ah ht;clear ht;go_enter Tryz.func131,Tryz.ntmps131;go_wp2
   go_quiet ((first|(go_at_call 84;exact Calls.quiet_of_same ((HP.out _).mono fun _ _ hh=>⟨hh.1,hh.2.symm⟩))|(go_at_call 102;exact Calls.quiet_of_same ((HE.out _).mono fun _ _ hh=>⟨hh.1,hh.2.symm⟩))))
   go_wp2;go_ret;refine ⟨rfl,?_⟩;exact ⟨_,rfl⟩
  ·rw[decide_eq_false ht];have d1:((st.taken:Int)==(H:Int))=false:=by simp;omega
   have d2:decide (st.taken=H)=false:=decide_eq_false ht;have HT:=ah ht;clear ht;go_enter Tryz.func131,Tryz.ntmps131;go_wp2
   go_quiet ((first|(go_at_call 84;exact Calls.quiet_of_same ((HP.out _).mono fun _ _ hh=>⟨hh.1,hh.2.symm⟩))|(go_at_call 102;exact Calls.quiet_of_same ((HE.out _).mono fun _ _ hh=>⟨hh.1,hh.2.symm⟩))))
   go_wp2;go_ret;refine ⟨by simp;omega,?_⟩;exact ⟨_,rfl⟩
theorem M6 {p:Nat} {x:Ou} {Ap Ar:Option Addr} {cp cr:Nat} {vp:List Value} (h:iH w D F p x Ap cp vp Ar cr):
 Calls Tryz.prog 161 #[.pointer (some ⟨p,0,none⟩)] w fun e w'=>e= .returned (.bool (!x.bY))∧w=w':=by
 obtain ⟨x0,x7,x8,x9,x10,xO⟩:=h.cells;clear h x0 x7 x8 x10 xO;go_enter Tryz.func161,Tryz.ntmps161;go_wp2;go_ret;exact ⟨rfl,rfl⟩
end
end
section
open Go.RowKit Go.Shelf
attribute [local go_sem] Oper.semAt_some
section
variable {D F:Nat→Prop} {g:Nat} {c:Cf} {st:Sd} {vq vo:Value} {vs os:List Value} {w:World}
theorem eH.far {A:Option Addr} {n cc b:Nat} {l:List (Nat × Nat)} (h:eH w A n cc l) (hf:Fh F D A) (hD:D b) (j:Nat) (u:Value):eH (w.setCell ⟨b,j,none⟩ u) A n cc l:=
 h.stay fun ad e=>gB (fun e2=>(hf ad e).2 (by
  have e3:ad.block=b:=e2;rw[e3];exact hD))
theorem eH.drewN {A:Option Addr} {n cc:Nat} {l:List (Nat × Nat)} (h:eH w A n cc l) (k:Nat):eH (w.drewN k) A n cc l:=h.stay fun _ _=>rfl
theorem iH.drewN {p:Nat} {x:Ou} {Ap Ar:Option Addr} {cp cr:Nat} {vp:List Value} (h:iH w D F p x Ap cp vp Ar cr) (k:Nat):iH (w.drewN k) D F p x Ap cp vp Ar cr:=h.stay fun _ _=>rfl
set_option maxRecDepth 100000 in
set_option maxHeartbeats 1000000 in
theorem BP (h:eZ w D F g c st vq vs vo os) {i p:Nat} {x:Ou} {Ap Ar:Option Addr} {cp cr:Nat} {vp:List Value} (hx:st.out[i]? =some x) (hp:os[i]? =some (.pointer (some ⟨p,0,none⟩))) (hO:iH w D F p x Ap cp vp Ar cr)
 {Al:Option Addr} {cl:Nat} {l:List (Nat × Nat)} (hl:eH w Al l.length cl l) (hf:Fh F D Al) (hr:x.dW≤1000000):
 Calls Tryz.prog 146 #[.pointer (some ⟨g,0,none⟩),.pointer (some ⟨p,0,none⟩),.slice Al l.length cl] w fun e w'=>e= .returned (.tuple #[])∧eZ w' D F g c (mK st i (iF c x l)) vq vs vo os∧Kept (fun k _=>D k) w w':=by
 obtain ⟨x0,x7,x8,x9,x10,xO⟩:=hO.cells;have f10:=hO.blk.frozen 10;have f11:=hO.blk.frozen 11;have y5:=h.blk.cell 5;have Zw:=h.blk.cell 19;have f19:=h.blk.frozen 19;simp[eU] at y5 Zw;have hcap:=hO.rs.cap;have hmx:=hO.rs.mx;have hgp:g≠p:=fun e2=>by
  subst e2;have h1:=h.blk;have h2:=hO.blk;unfold au at h1 h2;rw[h1] at h2;injection h2 with h3
  injection h3 with _ h4
  exact absurd h4 (by decide)
 by_cases hpe:x.pend= []
 ·rw[hpe] at x10;obtain ⟨hs1,ho1⟩:=h.Ks hx hp hO 11 (.int .i64 ((x.dW:Int)+1)) (z:= {x with dW:=x.dW+1}) (LQ:=Ar) (M5:=cr) (by simp[Hg,aC]) rfl hO.rs hO.rf;have hl1:=hl.far hf hO.d 11 (.int .i64 ((x.dW:Int)+1));have hk1:Kept (fun k _=>D k) w (w.setCell ⟨p,11,none⟩ (.int .i64 ((x.dW:Int)+1))):=(Kept.refl _ w).setCell (p:=⟨p,11,none⟩) (fun _ _=>hO.d) _;have hx1:(st.out.set i {x with dW:=x.dW+1})[i]? =some {x with dW:=x.dW+1}:=List.getElem?_set_self (List.getElem?_eq_some_iff.1 hx).1;obtain ⟨z0,z7,z8,z9,Qi,TX⟩:=ho1.cells;have e10:=ho1.blk.frozen 10;have v5:=hs1.blk.cell 5;have v19:=hs1.blk.cell 19;have e19:=hs1.blk.frozen 19;simp[eU] at v5 v19;have hpp:iF c x l=({x with pend:=l,dW:=x.dW+1},decide (c.dW<((x.dW+1:Nat):Int))):=by unfold iF;rw[if_pos hpe]
  rw[hpp];have hdp:=hO.d;have hdg:=h.gd;have Ps:∀(b:Bool) (w2:World),eZ w2 D F g c {st with out:=st.out.set i {x with dW:=x.dW+1},failed:=b} vq vs vo os→iH w2 D F p {x with dW:=x.dW+1} Ap cp vp Ar cr→eH w2 Al l.length cl l→
   eZ (w2.setCell ⟨p,10,none⟩ (.slice Al l.length cl)) D F g c {st with out:=st.out.set i {x with pend:=l,dW:=x.dW+1},failed:=b} vq vs vo os:=fun b w2 k1 k2 k3=>by
   have:=(k1.Ks hx1 hp k2 10 (.slice Al l.length cl) (z:= {x with pend:=l,dW:=x.dW+1}) (LQ:=Al) (M5:=cl) rfl rfl k3 hf).1;simpa using this
  have HF:=ah Ps;have HS:=ah hs1;have HO:=ah ho1;have HL:=ah hl1;have HK:=ah hk1;have HDP:=ah hdp;have HDG:=ah hdg;clear h hcap hmx hO hs1 ho1 hl1 hk1 hx1 hpp x0 x7 x8 x9 z0 z7 z8 z9 hdp hdg Ps;have Qj:∀(b:Bool) (q:Nat),b=(st.failed||decide (c.dW<((x.dW+1:Nat):Int)))→
   eZ ((((w.setCell ⟨p,11,none⟩ (.int .i64 ((x.dW:Int)+1))).drewN q).setCell ⟨g,19,none⟩ (.bool b)).setCell ⟨p,10,none⟩ (.slice Al l.length cl)) D F g c (mK st i ({x with pend:=l,dW:=x.dW+1},decide (c.dW<((x.dW+1:Nat):Int)))) vq vs vo os∧
   Kept (fun k _=>D k) w ((((w.setCell ⟨p,11,none⟩ (.int .i64 ((x.dW:Int)+1))).drewN q).setCell ⟨g,19,none⟩ (.bool b)).setCell ⟨p,10,none⟩ (.slice Al l.length cl)):=fun b q hb=>by
   have k1:=(HS.out.drewN q).oI 19 (.bool b) (st':= {st with out:=st.out.set i {x with dW:=x.dW+1},failed:=b}) rfl rfl rfl;have k2:=(HO.out.drewN q).far (b:=g) HDG.out hgp 19 (.bool b);have k3:=(HL.out.drewN q).far hf HDG.out 19 (.bool b);have k4:=HF.out b _ k1 k2 k3;subst hb;exact ⟨k4,((HK.out.iU q).setCell (p:=⟨g,19,none⟩) (fun _ _=>HDG.out) _).setCell (p:=⟨p,10,none⟩) (fun _ _=>HDP.out) _⟩
  have HE:=ah Qj;clear Qj;cases hfl:st.failed with
  |true=>
   rw[hfl] at Zw v19 HE;have sI:=ah hfl;clear hfl;go_enter Tryz.func146,Tryz.ntmps146;go_wp2;generalize w.setCell ⟨p,11,none⟩ (.int .i64 ((x.dW:Int)+1))=w1 at*
   go_region
   go_wp2
   go_end0
   exact ⟨rfl,HE.out true 1 rfl⟩
  |false=>
   rw[hfl] at Zw v19 HE;have sI:=ah hfl;clear hfl;by_cases hov:c.dW<(x.dW:Int)+1
   ·have hd:decide (c.dW<(x.dW:Int)+1)=true:=decide_eq_true hov;have hb:true=(false||decide (c.dW<((x.dW+1:Nat):Int))):=by simp;omega
    have HB:=ah hb;clear hb;go_enter Tryz.func146,Tryz.ntmps146;go_wp2;generalize w.setCell ⟨p,11,none⟩ (.int .i64 ((x.dW:Int)+1))=w1 at*
    go_region
    go_wp2
    go_end0
    exact ⟨rfl,HE.out true 1 HB.out⟩
   ·have hd:decide (c.dW<(x.dW:Int)+1)=false:=decide_eq_false hov;have hb:false=(false||decide (c.dW<((x.dW+1:Nat):Int))):=by simp;omega
    have HB:=ah hb;clear hb;go_enter Tryz.func146,Tryz.ntmps146;go_wp2;generalize w.setCell ⟨p,11,none⟩ (.int .i64 ((x.dW:Int)+1))=w1 at*
    go_region
    go_wp2
    go_end0
    exact ⟨rfl,HE.out false 1 HB.out⟩
 ·have hpl:0<x.pend.length:=List.length_pos_iff.2 hpe;have d0:((x.pend.length:Int)==0)=false:=by simp;omega
  have hpp:iF c x l=({x with pend:=l},false):=by unfold iF;rw[if_neg hpe]
  rw[hpp];have hs:=h.Ks hx hp hO 10 (.slice Al l.length cl) (z:= {x with pend:=l}) (LQ:=Al) (M5:=cl) rfl rfl hl hf;have HS:=ah hs.1;have HD:=ah hO.d;clear h hO hs hpp;go_enter Tryz.func146,Tryz.ntmps146;go_wp2
  go_end0
  refine ⟨rfl,?_,(Kept.refl _ w).setCell (p:=⟨p,10,none⟩) (fun _ _=>HD.out) _⟩;have:=HS.out;simpa[mK] using this
end
end
section
theorem Nb {l:List (Nat × Nat)} {x:Nat × Nat} {s:Nat} (h:∀r∈l,r.1≤r.2∧r.2<s) (hx:x.1≤x.2∧x.2<s):(∀r∈gL l x,r.1≤r.2∧r.2<s)∧(gL l x).length≤l.length+1:=by
 unfold gL;cases hl:l.getLast? with
 |none=>exact ⟨by simpa using hx,by simp⟩
 |some y=>
  have hy:=h y (List.mem_of_getLast? hl);dsimp only;split
  ·rename_i e;refine ⟨fun r hr=> ?_,by simp⟩;rcases List.mem_append.1 hr with hr|hr
   ·exact h r (List.dropLast_subset l hr)
   ·simp at hr;rw[hr];dsimp only;omega
  ·refine ⟨fun r hr=> ?_,by simp⟩;rcases List.mem_append.1 hr with hr|hr
   ·exact h r hr
   ·simp at hr;rw[hr];exact hx
theorem Iu (dZ:List Nk) {x:Ou} (hs:1≤aC x):(∀r∈cO dZ x,r.1≤r.2∧r.2<aC x)∧(cO dZ x).length≤dZ.length:=by
 have hf:(dZ.filter (fun n=>decide (n.sn=(x.sn:Int)))).length≤dZ.length:=List.length_filter_le _ _;have key:∀(l:List Nk) (a:List (Nat × Nat)),(∀r∈a,r.1≤r.2∧r.2<aC x)→(∀r∈l.foldl (fI (aC x)) a,r.1≤r.2∧r.2<aC x)∧(l.foldl (fI (aC x)) a).length≤a.length+l.length:=by
  intro l
  induction l with
  |nil=>intro a ha;exact ⟨by simpa using ha,by simp⟩
  |cons n r ih=>
   intro a ha;have h1:(∀q∈fI (aC x) a n,q.1≤q.2∧q.2<aC x)∧(fI (aC x) a n).length≤a.length+1:=by
    unfold fI;split
    ·exact ⟨ha,by omega⟩
    ·exact Nb ha (by dsimp only;omega)
   obtain ⟨i1,i2⟩:=ih _ h1.1;rw[List.foldl_cons];refine ⟨i1,?_⟩;simp only[List.length_cons];omega
 obtain ⟨k1,k2⟩:=key (dZ.filter (fun n=>decide (n.sn=(x.sn:Int)))) [] (by simp);refine ⟨k1,?_⟩;unfold cO;simp only[List.length_nil] at k2;omega
theorem jW.WL {st:Sd} {K:Nat} (h:jW st K):jW (fU st) (K+1):=by
 obtain ⟨⟨d,h1,h2,h3,h4⟩,h5⟩:=lG st.out;obtain ⟨⟨q,g1,g2,g3,g4⟩,g5⟩:=xE st.queue (st.front+(bD st.out).2.1);have hql:=xN (fun s hs=>(h.MJ s hs).1);have Lu:=h.held;unfold dx at Lu;have hsum:aj st.queue=aj q+aj (gG st.queue (st.front+(bD st.out).2.1)).2.2.2:=by
  conv=>lhs;rw[g1]
  rw[oU]
 have hlen:q.length≤st.queue.length:=by
  conv=>rhs;rw[g1]
  simp
 have hmem:∀x,x∈(fU st).out→x∈st.out:=fun x hx=>by
  have e:(fU st).out=(bD st.out).2.2:=rfl;rw[h1,←e];simp[hx]
 refine ⟨?_,?_,?_,?_,fun s hs=> ?_,h.pol,fun x hx=>h.ou x (hmem x hx),fun x hx=> ?_,h.Dh,h.Di⟩
 ·have:=h.done;show st.done+(gG st.queue (st.front+(bD st.out).2.1)).1≤_
  omega
 ·have:=h.dX;show st.dX≤_
  omega
 ·have:=h.bytes;show st.bytes≤_
  omega
 ·show aj (gG st.queue (st.front+(bD st.out).2.1)).2.2.2≤_
  omega
 ·refine h.MJ s ?_;rw[g1];exact List.mem_append_right _ hs
 ·have:=h.rx x (hmem x hx);omega
theorem jW.aY {st:Sd} {K:Nat} (h:jW st K) (c:Cf) (m:Ou→List (Nat × Nat)) (n:Nat) (hm:∀x∈st.out,(∀r∈m x,r.1≤r.2∧r.2<aC x)∧(m x).length≤1000) (b w:Bool):
 jW {st with out:=(aY c m n st.out).1,failed:=b,wait:=w} (K+1):=by
 have hone:∀x∈st.out,zn (dF c m x).1∧(dF c m x).1.dW≤K+1:=fun x hx=>by
  have ho:=h.ou x hx;have hr:=h.rx x hx;unfold dF;split
  ·exact ⟨ho,by dsimp only;omega⟩
  ·split
   ·exact ⟨⟨ho.sn,ho.ps,by simp,by simp⟩,by dsimp only;omega⟩
   ·exact LC c ho hr (hm x hx).1 (hm x hx).2
 refine ⟨?_,?_,?_,h.held,h.MJ,h.pol,fun y hy=> ?_,fun y hy=> ?_,h.Dh,h.Di⟩
 ·have:=h.done;show st.done≤_
  omega
 ·have:=h.dX;show st.dX≤_
  omega
 ·have:=h.bytes;show st.bytes≤_
  omega
 ·obtain ⟨x,hx,rfl|rfl⟩:=lI c m n _ y hy
  ·exact h.ou _ hx
  ·exact (hone x hx).1
 ·obtain ⟨x,hx,rfl|rfl⟩:=lI c m n _ y hy
  ·have:=h.rx _ hx;omega
  ·exact (hone x hx).2
theorem jW.stat {st:Sd} {K:Nat} (h:jW st K) (c:Cf) (m:Ou→List (Nat × Nat)) (n:Nat) (hm:∀x∈st.out,(∀r∈m x,r.1≤r.2∧r.2<aC x)∧(m x).length≤1000):jW (tK c m n st) (K+3):=by
 have h2:=(h.aY c m n hm (st.failed||(Go.Proofs.YtbhiklnljiehiaaGreat.aY c m n st.out).2) (st.wait&&decide (n≤om st st.polled))).WL;unfold tK;dsimp only;split
 ·exact h2.nO c
 ·exact h2.mono (by omega)
theorem yS {aJ:Int} {l:List Nk} (h:bS aJ l=true):l.length≤512∧0≤aJ∧aJ≤1023:=by
 simp only[bS,Bool.and_eq_true,decide_eq_true_eq] at h;omega
theorem jW.status {st:Sd} {K:Nat} (h:jW st K) (c:Cf) {now:Int} (hn:now≤9223372036854775807) (aJ:Int) (dZ:List Nk):jW (nP c st now aJ dZ).1 (K+3):=by
 have h1:=h.clock hn;unfold nP;split
 ·exact h.mono (by omega)
 ·rename_i hv;split
  ·exact h1.mono (by omega)
  ·refine h1.stat c (cO dZ) _ fun x hx=> ?_
   have ho:=jP (h1.ou x hx);have hl:=yS (by simpa using hv);obtain ⟨m1,m2⟩:=Iu dZ ho.1;exact ⟨m1,by omega⟩
theorem jW.kI {st:Sd} {K:Nat} (h:jW st K) (hi:dz st) (c:Cf) {now:Int} (hn:now≤9223372036854775807) (n:Int):jW (mM c st now n).1 (K+2):=by
 have h1:=h.tick c hn;have hi1:=hi.tick c now;unfold mM;split
 ·exact h1.mono (by omega)
 ·cases hp:gU (eX c st now).out with
  |some i=>
   obtain ⟨x,hx,_⟩:=gI hp;simp only[hx];exact (h1.again c n i hx).mono (by omega)
  |none=>
   have h2:=h1.fresh hi1.toInvV c n;dsimp only;generalize fA c n (eX c st now)=R at*;obtain ⟨s2,_|⟨x,b⟩⟩:=R
   ·exact h2
   ·exact h2
end
section
open Go.RowKit Go.Shelf
attribute [local go_sem] Oper.semAt_some
section
variable {D F:Nat→Prop} {g:Nat} {c:Cf} {st:Sd} {vq vo:Value} {vs os:List Value} {w:World}
theorem eH.new (w:World) (t:TypeId) (a b:Nat):eH (w.alloc (.cells #[.int .i64 (a:Nat),.int .i64 (b:Nat)] t)) (some ⟨w.heap.size,0,none⟩) 1 1 [(a,b)]:=
 ⟨rfl,aN,by omega,fun _=>⟨_,rfl,by simp,fun j r hj=>by
  have hb:=au.new w t #[.int .i64 (a:Nat),.int .i64 (b:Nat)];cases j with
  |zero=>
   simp at hj;subst hj;exact ⟨hb.cell 0,hb.cell 1⟩
  |succ j=>simp at hj⟩⟩
set_option maxRecDepth 10000 in
set_option maxHeartbeats 1000000 in
theorem wI (h:eZ w D F g c st vq vs vo os) {K:Nat} (hB:jW st K) (hK:K≤100000) (hw:st.out.length≤512):
 Calls Tryz.prog 115 #[.pointer (some ⟨g,0,none⟩)] w fun e w'=>e= .returned (.tuple #[])∧mg w D F g c (dY c st) w':=by
 have hid:=Eo h hB.held (by omega);have R5:=ah hid;clear hid;cases hi:kH st with
 |false=>
  have hfin:dY c st=st:=by unfold dY;rw[if_pos hi]
  rw[hfin];rw[hi] at R5;have HH:=ah h;clear h hi hfin;go_enter Tryz.func115,Tryz.ntmps115;go_wp2_with fail;refine R5.out.mono ?_;rintro e1 w1 ⟨rfl,q,rfl⟩;go_wp2;refine bodyPost_ret (results_none rfl _ _ _) rfl ?_;exact ⟨rfl,(HH.out.o (Kept.refl _ w)).drewN q⟩
 |true=>
  rw[hi] at R5;have hix:=fun q=>Bf 161 (.inr rfl) (fun x=> !x.bY) (h.drewN q) (by omega) fun p x Ap cp vp Ar cr ho=>M6 ho
  have Oh:=ah hix;have xh:=h.blk.cell 12;simp[eU] at xh;obtain ⟨A,cc,rfl,hs⟩:=h.Tg;have hcap:=hs.cap;have hmx:=hs.mx;have HH:=ah h;clear hix;cases hf:st.out.findIdx? (fun x=> !x.bY) with
  |none=>
   have hfin:dY c st=st:=by unfold dY;rw[if_neg (by simp[hi]),hf]
   rw[hfin];rw[hf] at Oh;clear h hi hfin hs hf;go_enter Tryz.func115,Tryz.ntmps115;go_wp2_with fail;refine R5.out.mono ?_;rintro e1 w1 ⟨rfl,q,rfl⟩;go_wp2_with fail;refine (Oh.out q).mono ?_;rintro e1 w1 ⟨rfl,rfl⟩;simp only[ixI];go_wp2
   go_end0
   exact ⟨rfl,(HH.out.o (Kept.refl _ w)).drewN q⟩
  |some i=>
   rw[hf] at Oh;have hil:i<st.out.length:=(List.findIdx?_eq_some_iff_getElem.1 hf).1;obtain ⟨x,hx⟩:∃x,st.out[i]? =some x:=⟨_,List.getElem?_eq_getElem hil⟩
   have hfin:dY c st=mK st i (iF c x [(0,aC x-1)]):=by unfold dY;rw[if_neg (by simp[hi]),hf];simp only[hx]
   rw[hfin];obtain ⟨p,Ap,cp,vp,Ar,cr,he,ho⟩:=h.oe i x hx;obtain ⟨ad,u,rfl,hb,hu,hc⟩:=hs.get hil;rw[he] at hu;cases hu;obtain ⟨z0,z7,z8,z9,Qi,TX⟩:=ho.cells;have hsz:=jP (hB.ou x (List.mem_of_getElem? hx));have hrx:=hB.rx x (List.mem_of_getElem? hx);have hsub:((aC x:Nat):Int)-1=((aC x-1:Nat):Int):=by omega
   have HX:=ah hx;have HE:=ah he;have HO:=ah ho;have agu:=ah hsub;clear h hi hfin hs hf hx he ho z0 z7 z9 Qi TX hsub;go_enter Tryz.func115,Tryz.ntmps115;go_wp2_with fail;refine R5.out.mono ?_;rintro e1 w1 ⟨rfl,q,rfl⟩;go_wp2_with fail;refine (Oh.out q).mono ?_;rintro e1 w1 ⟨rfl,rfl⟩;simp only[ixI];go_wp2_with fail;rw[agu.out];have hW:=((HH.out.drewN q).alloc (.cells #[.int .i64 0,.int .i64 ((aC x-1:Nat):Int)] 39)).Vx (b:=w.heap.size) (by simp);have hsp:eH ((w.drewN q).alloc (.cells #[.int .i64 0,.int .i64 ((aC x-1:Nat):Int)] 39)) (some ⟨w.heap.size,0,none⟩) [(0,aC x-1)].length 1 [(0,aC x-1)]:=eH.new (w.drewN q) 39 0 (aC x-1);obtain ⟨p2,Ap2,cp2,vp2,Ar2,cr2,he2,ho2⟩:=hW.oe i x HX.out;rw[HE.out] at he2;cases he2;have Oq:=BP hW HX.out HE.out ho2 hsp (fun ad e=>by cases e;exact ⟨.inr rfl,HH.out.fresh (aN)⟩) (by omega);clear hsp ho2 hW;refine Oq.mono ?_;rintro e2 w2 ⟨rfl,hA2,hk2⟩;go_wp2
   go_end0
   exact ⟨rfl,mg.step (((Kept.refl _ w).iU q).alloc _) (dm.refl _ _) (dm.one (aN)) (hA2.o hk2)⟩
def abE (w:World) (D F:Nat→Prop) (g:Nat) (c:Cf) (st:Sd) (e:Ending) (w':World):Prop:=
 ((st.failed=false∧e= .returned (.tuple #[]))∨(st.failed=true∧e=Kt))∧mg w D F g c st w'
set_option maxRecDepth 10000 in
set_option maxHeartbeats 1000000 in
theorem wJ (h:eZ w D F g c st vq vs vo os) {K:Nat} (hB:jW st K) (hK:K≤100000) (hw:st.out.length≤512) (hfl:st.failed=false):
 Calls Tryz.prog 78 #[.pointer (some ⟨g,0,none⟩)] w (abE w D F g c (gV c st)):=by
 have yP:=h.blk.cell 16;have PS:=h.blk.cell 17;have FE:=h.blk.cell 18;have y20:=h.blk.cell 20;have f16:=h.blk.frozen 16;have f18:=h.blk.frozen 18;simp[eU] at yP PS FE y20;have HH:=ah h;cases hwt:st.wait with
 |false=>
  have hfin:gV c st=st:=by unfold gV;rw[if_pos (.inl hwt)]
  rw[hfin];rw[hwt] at yP;have sI:=ah hfl;clear h hfin hwt hfl;go_enter Tryz.func78,Tryz.ntmps78;go_wp2
  go_quiet (fail)
  go_wp2;refine bodyPost_ret (results_none rfl _ _ _) rfl ?_;exact ⟨.inl ⟨sI.out,rfl⟩,(HH.out.o (Kept.refl _ w)).drewN _⟩
 |true=>
  rw[hwt] at yP;by_cases hlt:st.now<st.iA
  ·have hfin:gV c st=st:=by unfold gV;rw[if_pos (.inr hlt)]
   rw[hfin];have hd:decide (st.now<st.iA)=true:=decide_eq_true hlt;have sI:=ah hfl;clear h hfin hwt hfl;go_enter Tryz.func78,Tryz.ntmps78;go_wp2
   go_quiet (fail)
   go_wp2;refine bodyPost_ret (results_none rfl _ _ _) rfl ?_;exact ⟨.inl ⟨sI.out,rfl⟩,(HH.out.o (Kept.refl _ w)).drewN _⟩
  ·have hfin:gV c st=dY c {st with wait:=false,fH:=true}:=by unfold gV;rw[if_neg (by rw[hwt];simp;omega)]
   rw[hfin];have hd:decide (st.now<st.iA)=false:=decide_eq_false hlt;have h2:=fun q=>((h.drewN q).oI 16 (.bool false) (st':= {st with wait:=false}) rfl rfl rfl).oI 18 (.bool true) (st':= {st with wait:=false,fH:=true}) rfl rfl rfl
   have hk2:=fun q=>(((Kept.refl (fun k _=>D k) w).iU q).setCell (p:=⟨g,16,none⟩) (fun _ _=>h.gd) (.bool false)).setCell (p:=⟨g,18,none⟩) (fun _ _=>h.gd) (.bool true)
   have hB2:jW {st with wait:=false,fH:=true} K:=⟨hB.done,hB.dX,hB.bytes,hB.held,hB.MJ,hB.pol,hB.ou,hB.rx,hB.Dh,hB.Di⟩;have hrp:=fun q=>wI (h2 q) hB2 hK hw
   have LA:=ah hrp;have Ak:=ah hk2;have sI:=ah hfl;clear h hfin hwt hfl h2 hk2 hrp;go_enter Tryz.func78,Tryz.ntmps78;go_wp2
   go_quiet (fail)
   go_wp2_with fail;refine (LA.out _).mono ?_;rintro e1 w1 ⟨rfl,D1,F1,vq1,vs1,XV,os1,hA1,hD1,hF1,hk1⟩;have HA1:=ah hA1;have hend:mg w D F g c (dY c {st with wait:=false,fH:=true}) w1:=mg.step (Ak.out _) (dm.refl _ _) (dm.refl _ _) ⟨D1,F1,vq1,vs1,XV,os1,hA1,hD1,hF1,hk1⟩;have Qj:=ah hend;clear hA1 hD1 hF1 hk1 hend;cases hf1:(dY c {st with wait:=false,fH:=true}).failed with
   |false=>
    have hm:=BG HA1.out hf1;have HM:=ah hm;have Sw:=ah hf1;clear hm hf1;go_wp2_with fail;refine HM.out.mono ?_;rintro e2 w2 ⟨rfl,rfl⟩;go_wp2
    go_end0
    exact ⟨.inl ⟨Sw.out,rfl⟩,Qj.out⟩
   |true=>
    have hm:=xZ HA1.out hf1;have HM:=ah hm;have Sw:=ah hf1;clear hm hf1;go_wp2_with fail;refine HM.out.mono ?_;rintro e2 w2 ⟨rfl,rfl⟩;exact ⟨rfl,.inr ⟨Sw.out,rfl⟩,Qj.out⟩
end
end
end Go.Proofs.YtbhiklnljiehiaaGreat
