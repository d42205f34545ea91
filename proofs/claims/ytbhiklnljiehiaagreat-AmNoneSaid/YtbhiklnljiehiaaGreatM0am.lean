/- slices.All of a report's entries; status.Ranges. amsend: writes to the transmitter's memory. amsend: what a call leaves of the transmitter's memory. amsend: goes, must, idle, pends, repeats, expires. Rows of ranges: append, Clone, Grow, Concat. Rows of a report's entries: Clone; slices.All; status.Ranges. amrecv: collected: the entries of the missing ranges. -/
import Derived.Test.YtbhiklnljiehiaaGreatM0ab
import Derived.Test.YtbhiklnljiehiaaGreatM0ad
import Derived.Test.YtbhiklnljiehiaaGreatM0ae
import Derived.Test.YtbhiklnljiehiaaGreatM0af
import Derived.Test.YtbhiklnljiehiaaGreatM0ah
import Derived.Test.YtbhiklnljiehiaaGreatM0al
import Derived.Deep.RegionHeld3
import Derived.Lib.AppendZeros
namespace Go.Proofs.YtbhiklnljiehiaaGreat
section
open Go.RowKit Go.Shelf
attribute [local go_sem] Oper.semAt_some
theorem cell_of_heap {w w':World} {b:Nat} (h:w'.heap[b]? =w.heap[b]?) (off:Nat) (x:Option Nat):w'.cell? ⟨b,off,x⟩=w.cell? ⟨b,off,x⟩:=World.cell?_of_block (a:=⟨b,off,x⟩) h
theorem bI.same {w w':World} {A:Option Addr} {n c:Nat} {l:List Nk} (h:bI w A n c l) (hs:w.heap.size≤w'.heap.size) (hb:∀ad,A=some ad→w'.heap[ad.block]? =w.heap[ad.block]?):bI w' A n c l:=
 ⟨h.len,h.cap,h.mx,fun hn=>by
  obtain ⟨ad,e,hlt,hc⟩:=h.at_ hn;refine ⟨ad,e,Nat.lt_of_lt_of_le hlt hs,fun j r hr=> ?_⟩;obtain ⟨k0,k1,k2,k3⟩:=hc j r hr;have hbk:w'.heap[(ad.add (j*4)).block]? =w.heap[(ad.add (j*4)).block]? :=by rw[block_add];exact hb ad e
  exact ⟨(World.cell?_of_block (a:=ad.add (j*4)) hbk).trans k0,(cell_of_heap hbk _ _).trans k1,(cell_of_heap hbk _ _).trans k2,(cell_of_heap hbk _ _).trans k3⟩⟩
theorem bI.kept {w w':World} {A:Option Addr} {n c:Nat} {l:List Nk} {M:Nat→Obj→Prop} (h:bI w A n c l) (hk:Kept M w w') (hM:∀ad,A=some ad→∀o,¬M ad.block o) (hlt:∀ad,A=some ad→ad.block<w.heap.size):bI w' A n c l:=
 h.same hk.size fun ad e=>by
  have hl:=hlt ad e;have h1:=Array.getElem?_eq_getElem hl;rw[hk.same _ _ h1 (hM ad e _),h1]
theorem Kept.dA {M:Nat→Obj→Prop} {w w':World} (h:Below w.heap.size w w'):Kept M w w':=
 ⟨h.os,h.tape,h.output,h.size,fun k _o hk _=>(h.block k (Array.getElem?_eq_some_iff.1 hk).1).trans hk⟩
def wW (l:List Nk) (k:Nat):Array Value:= #[.int .i64 (k:Int),match l[k]? with
 |some x=> .agg (jU x)
 |none=>undef]
set_option maxRecDepth 100000 in
set_option maxHeartbeats 2000000 in
theorem P6 (n:Nat) (g:Nat) (A:Option Addr) (N c:Nat) (l:List Nk) (M:Nat→Obj→Prop) (w:World)
 (hg:au w g 131 #[.slice A N c]) (hv:bI w A N c l) (hlo:∀ad,A=some ad→ad.block<w.heap.size) (hMg:¬M g (.cells #[.slice A N c] 131 (0,0))) (OU:∀ad,A=some ad→∀o,¬M ad.block o):
 MI n Tryz.prog 222 #[.pointer (some ⟨g,0,none⟩)] (wW l) N (Kept M) w:=fun p J W hW _ hJ hY h0=>by
 have hg':=hg.below hW hg.lt;have hv':=hv.below hW;have hlt':∀ad,A=some ad→ad.block<W.heap.size:=fun ad e=>Nat.lt_of_lt_of_le (hlo ad e) hW.size
 have hvk:∀wr,Kept M W wr→bI wr A N c l:=fun wr hk=>hv'.kept hk OU hlt'
 have WH:=Lib.hid hvk;have HY:=Lib.hid hY;have HJ:=Lib.hid hJ;have hlen:=hv.len;have hcap:=hv.cap;have hmx:=hv.mx;have HL:=Lib.hid hlen;clear hvk hY hJ hlen;refine callsIn_of_wp Tryz.func222 rfl trivial ?_ rfl;simp only[Tryz.ntmps222,List.size_toArray,List.length_cons,List.length_nil,Nat.reduceAdd,Nat.reduceSub,Array.replicate_succ,Array.replicate_zero,List.push_toArray,List.append_toArray,List.nil_append,List.cons_append];have hcw:=hg'.cell 0;simp at hcw
 gi_wp2
 gi_loopw [7] (fun i wr=>∃k:Nat,k≤N∧i= .int .i64 k∧J k wr∧Kept M W wr) (fun i _=>N-(intOf i).toNat)
 case atStart=>exact ⟨0,Nat.zero_le _,by simp,h0,Kept.refl _ _⟩
 case round=>
  obtain ⟨k,hk,rfl,hJs,hnx⟩:=hrel;by_cases hlt:k<N
  ·obtain ⟨x,hx⟩:∃x,l[k]? =some x:=⟨_,List.getElem?_eq_getElem (by have:=HL.out;omega)⟩
   have Rn:=WH.out wr hnx;obtain ⟨ad,rfl,Cy,hcl⟩:=Rn.at_ (by omega);obtain ⟨k0,k1,k2,k3⟩:=hcl k x hx;clear hcl Rn;have b1:=au.new wr 197 (jU x);have y0:(wr.alloc (.cells (jU x) 197)).cell? ⟨wr.heap.size,0,none⟩=some (.int .i64 x.sn):=b1.cell 0;have y1:(wr.alloc (.cells (jU x) 197)).cell? ⟨wr.heap.size,1,none⟩=some (.bool x.part):=b1.cell 1;have y2:(wr.alloc (.cells (jU x) 197)).cell? ⟨wr.heap.size,2,none⟩=some (.int .i64 x.fr):=b1.cell 2;have y3:(wr.alloc (.cells (jU x) 197)).cell? ⟨wr.heap.size,3,none⟩=some (.int .i64 x.lt):=b1.cell 3;have hbw:Below wr.heap.size wr (wr.alloc (.cells (jU x) 197)):=(Below.refl _ wr).alloc (Nat.le_refl _) _;have IX:=HY.out k _ hlt (HJ.out.fresh k wr _ hJs hbw);have hnx2:Kept M W (wr.alloc (.cells (jU x) 197)):=hnx.trans (Kept.dA hbw);have Bu:=Lib.hid hnx2;have HX:=Lib.hid hx;unfold wW at IX;rw[hx] at IX;unfold jU at*;obtain ⟨fn,tmps,assign,body,hy,hR⟩:=IX;simp only[] at hy;clear b1 hx hnx2 hbw hnx
   gi_wp2
   refine ⟨fun hh=>(by cases hh),hR.mono ?_⟩;rintro e W3 ⟨rfl,hJ3,hk3⟩
   gi_wp2
   go_roundw
   case rel=>exact ⟨k+1,by omega,by go_num,hJ3,Bu.out.trans hk3⟩
   case measure=>simp[intOf];omega
  ·have e:k=N:=by omega
   have Gr:J N wr:=by rw[e] at hJs;exact hJs
   clear e hJs
   gi_wp2
   go_end0
   exact ⟨⟨_,rfl⟩,Gr⟩
end
section
open Go.RowKit
section
variable {D F F':Nat→Prop} {g:Nat} {c:Cf} {st st':Sd} {vq vo:Value} {vs os:List Value} {w w':World}
theorem Cs.mono {A:Option Addr} (h:Cs F D A) (hf:∀k,F k→F' k):Cs F' D A:=fun ad e=>⟨hf _ (h ad e).1,(h ad e).2⟩
theorem gI.EO {p:Nat} {x:Ou} {Ap Ar:Option Addr} {cp cr:Nat} {vp:List Value} (h:gI w D F p x Ap cp vp Ar cr) (hf:∀k,F k→F' k):gI w D F' p x Ap cp vp Ar cr:=
 ⟨h.blk,h.d,hf p h.f,h.ps,h.pf.mono hf,fun i v hv=>(h.pe i v hv).mono hf,h.rs,h.rf.mono hf⟩
theorem dS.EO (h:dS w D F g c st vq vs vo os) (hf:∀k,F k→F' k) (hl:∀k,F' k→k<w.heap.size):dS w D F' g c st vq vs vo os:=
 ⟨h.blk,h.gd,fun k hk=>hf k (h.sub k hk),hl,h.qr,h.qd,fun i p hi=>let ⟨A,cc,e,hs,hi'⟩:=h.qe i p hi;⟨A,cc,e,hs,hi'.mono hf⟩,h.qU,h.od,
  fun i x hi=>let ⟨p,Ap,cp,vp,Ar,cr,e,ho⟩:=h.oe i x hi;⟨p,Ap,cp,vp,Ar,cr,e,ho.EO hf⟩,h.inj⟩
theorem fq {p:Addr} {u:Value} {k:Nat} (hk:k≠p.block):(w.setCell p u).heap[k]? =w.heap[k]? :=Below.heap_setCell w p u k hk
theorem gI.far {p b:Nat} {x:Ou} {Ap Ar:Option Addr} {cp cr:Nat} {vp:List Value} (h:gI w D F p x Ap cp vp Ar cr) (hD:D b) (hne:b≠p) (j:Nat) (u:Value):gI (w.setCell ⟨b,j,none⟩ u) D F p x Ap cp vp Ar cr:=by
 have nd:∀{A:Option Addr},Cs F D A→∀ad,A=some ad→(w.setCell ⟨b,j,none⟩ u).heap[ad.block]? =w.heap[ad.block]? :=fun hi ad e=>fq (fun e2=>(hi ad e).2 (by
  have e3:ad.block=b:=e2;rw[e3];exact hD))
 exact ⟨(fq (fun e=>hne (by have e3:p=b:=e;exact e3.symm))).trans h.blk,h.d,h.f,h.ps.stay (nd h.pf) (fun i v ad hv e=>nd (h.pe i v hv) ad e),h.pf,h.pe,h.rs.stay (nd h.rf),h.rf⟩
theorem dS.mr (h:dS w D F g c st vq vs vo os) (j:Nat) (u:Value) (he:(dO c vq vo st).setIfInBounds j u=dO c vq vo st') (hq:st'.queue=st.queue) (ho:st'.out=st.out):dS (w.setCell ⟨g,j,none⟩ u) D F g c st' vq vs vo os:=by
 have hb:=h.blk.av j u;rw[he] at hb;have hDg:=h.gd;have nd:∀{A:Option Addr},Cs F D A→∀ad,A=some ad→(w.setCell ⟨g,j,none⟩ u).heap[ad.block]? =w.heap[ad.block]? :=fun hi ad e=>fq (fun e2=>(hi ad e).2 (by
  have e3:ad.block=g:=e2;rw[e3];exact hDg))
 refine ⟨hb,h.gd,h.sub,fun k hk=>by simpa[World.setCell] using h.lt k hk,by rw[hq];exact h.qr.store h.blk (by decide) u,h.qd,fun i p hi=> ?_,by rw[ho];exact h.qU.store h.blk (by decide) u,h.od,fun i x hi=> ?_,h.inj⟩
 ·rw[hq] at hi;obtain ⟨A,cc,e,hs,hf⟩:=h.qe i p hi;exact ⟨A,cc,e,hs.stay (nd hf),hf⟩
 ·rw[ho] at hi;obtain ⟨p,Ap,cp,vp,Ar,cr,e,hx⟩:=h.oe i x hi;refine ⟨p,Ap,cp,vp,Ar,cr,e,hx.far hDg (fun e2=> ?_) j u⟩;subst e2;have h1:=h.blk;have h2:=hx.blk;unfold au at h1 h2;rw[h1] at h2;injection h2 with h3
  injection h3 with _ h4
  exact absurd h4 (by decide)
theorem dS.Ht (h:dS w D F g c st vq vs vo os) {i p:Nat} {x z:Ou} {Ap Ar Jd:Option Addr} {cp cr Kb:Nat} {vp:List Value} (hx:st.out[i]? =some x) (hp:os[i]? =some (.pointer (some ⟨p,0,none⟩))) (hO:gI w D F p x Ap cp vp Ar cr)
 (j:Nat) (u:Value) (he:(Eh x (.slice Ap x.ps.length cp) (.slice Ar x.pend.length cr)).setIfInBounds j u=Eh z (.slice Ap z.ps.length cp) (.slice Jd z.pend.length Kb)) (hz:z.ps=x.ps) (hr:dM w Jd z.pend.length Kb z.pend) (hf:Cs F D Jd):
 dS (w.setCell ⟨p,j,none⟩ u) D F g c {st with out:=st.out.set i z} vq vs vo os∧gI (w.setCell ⟨p,j,none⟩ u) D F p z Ap cp vp Jd Kb:=by
 have hb:=hO.blk.av j u;rw[he] at hb;have hDp:=hO.d;have hgp:g≠p:=fun e2=>by
  subst e2;have h1:=h.blk;have h2:=hO.blk;unfold au at h1 h2;rw[h1] at h2;injection h2 with h3
  injection h3 with _ h4
  exact absurd h4 (by decide)
 have nd:∀{A:Option Addr},Cs F D A→∀ad,A=some ad→(w.setCell ⟨p,j,none⟩ u).heap[ad.block]? =w.heap[ad.block]? :=fun hi ad e=>fq (fun e2=>(hi ad e).2 (by
  have e3:ad.block=p:=e2;rw[e3];exact hDp))
 have hZ:gI (w.setCell ⟨p,j,none⟩ u) D F p z Ap cp vp Jd Kb:=by
  have hps:=hO.ps.stay (w':=w.setCell ⟨p,j,none⟩ u) (nd hO.pf) (fun i v ad hv e=>nd (hO.pe i v hv) ad e);exact ⟨hb,hO.d,hO.f,by rw[hz];exact hps,hO.pf,hO.pe,hr.stay (nd hf),hf⟩
 refine ⟨⟨(fq (fun e=>hgp e)).trans h.blk,h.gd,h.sub,fun k hk=>by simpa[World.setCell] using h.lt k hk,h.qr.store hO.blk (by decide) u,h.qd,fun i q hi=> ?_,?_,h.od,fun k y hk=> ?_,h.inj⟩,hZ⟩
 ·obtain ⟨A,cc,e,hs,hf⟩:=h.qe i q hi;exact ⟨A,cc,e,hs.stay (nd hf),hf⟩
 ·have:=h.qU.store hO.blk (i:=j) (by decide) u;have hl:(st.out.set i z).length=st.out.length:=List.length_set;show dN _ 0 _ vo (st.out.set i z).length os
  rw[hl];exact this
 ·have hk':(st.out.set i z)[k]? =some y:=hk;by_cases hki:i=k
  ·subst hki;rw[List.getElem?_set_self (List.getElem?_eq_some_iff.1 hx).1] at hk';cases hk';exact ⟨p,Ap,cp,vp,Jd,Kb,hp,hZ⟩
  ·rw[List.getElem?_set_ne hki] at hk';obtain ⟨q,A1,c1,v1,A2,c2,e,hy⟩:=h.oe k y hk';refine ⟨q,A1,c1,v1,A2,c2,e,hy.far hDp (fun e2=>hki ?_) j u⟩;subst e2;exact h.inj i k _ hp e
end
end
section
open Go.RowKit
def kM (w:World) (D F:Nat→Prop) (g:Nat) (c:Cf) (st:Sd) (w':World):Prop:=
 ∃D' F' vq vs vo os,dS w' D' F' g c st vq vs vo os∧bR w D D'∧bR w F F'∧Kept (fun k _=>D k) w w'
section
variable {D F D' F':Nat→Prop} {g:Nat} {c:Cf} {st st':Sd} {vq vo:Value} {vs os:List Value} {w w' w'':World}
theorem Kept.step (h:Kept (fun k _=>D k) w w') (h':Kept (fun k _=>D' k) w' w'') (hg:bR w D D'):Kept (fun k _=>D k) w w'':=
 ⟨h'.os.trans h.os,h'.tape.trans h.tape,h'.output.trans h.output,Nat.le_trans h.size h'.size,fun i x hi hn=>h'.same i x (h.same i x hi hn) fun hd=>by
  rcases hg i hd with e|e
  ·exact hn e
  ·have:=lt_of_heap hi;omega⟩
theorem dS.o (h:dS w' D F g c st vq vs vo os) (hk:Kept (fun k _=>D k) w w'):kM w D F g c st w':=
 ⟨D,F,vq,vs,vo,os,h,bR.refl _ _,bR.refl _ _,hk⟩
theorem kM.step (hk:Kept (fun k _=>D k) w w') (hD:bR w D D') (hF:bR w F F') (h:kM w' D' F' g c st w''):kM w D F g c st w'':=by
 obtain ⟨D2,F2,vq,vs,vo,os,h1,h2,h3,h4⟩:=h;exact ⟨D2,F2,vq,vs,vo,os,h1,hD.trans h2 hk.size,hF.trans h3 hk.size,hk.step h4 hD⟩
theorem Kept.gU {M:Nat→Obj→Prop} (h:Kept M w w') (k:Nat):Kept M w (w'.drewN k):=⟨h.os,h.tape,h.output,h.size,h.same⟩
theorem kM.drewN (h:kM w D F g c st w') (k:Nat):kM w D F g c st (w'.drewN k):=by
 obtain ⟨D2,F2,vq,vs,vo,os,h1,h2,h3,h4⟩:=h;exact ⟨D2,F2,vq,vs,vo,os,h1.drewN k,h2,h3,h4.gU k⟩
theorem kM.alloc (h:kM w D F g c st w') (o:Obj):kM w D F g c st (w'.alloc o):=by
 obtain ⟨D2,F2,vq,vs,vo,os,h1,h2,h3,h4⟩:=h;exact ⟨D2,F2,vq,vs,vo,os,h1.alloc o,h2,h3,h4.alloc o⟩
theorem kM.put {w0:World} (h:kM w0 D F g c st w') (hk:Kept (fun k _=>D k) w w0) {b:Nat} (hb:w.heap.size≤b) (hb0:b<w0.heap.size) (hF:∀k,F k→k<w.heap.size) (_hD:∀k,D k→F k) (j:Nat) (u:Value):kM w D F g c st (w'.setCell ⟨b,j,none⟩ u):=by
 obtain ⟨D2,F2,vq,vs,vo,os,h1,h2,h3,h4⟩:=h;have hnf:¬F2 b:=fun hf=>by
  rcases h3 b hf with e|e
  ·have:=hF b e;omega
  ·omega
 refine ⟨D2,F2,vq,vs,vo,os,h1.stay fun k hk=>fq (fun e=>hnf ?_),fun k hk'=> ?_,fun k hk'=> ?_,(hk.trans h4).setCell (fun o ho=> ?_) u⟩
 ·have e2:k=b:=e;rw[←e2];exact hk
 ·rcases h2 k hk' with e|e
  ·exact .inl e
  ·have:=hk.size;exact .inr (by omega)
 ·rcases h3 k hk' with e|e
  ·exact .inl e
  ·have:=hk.size;exact .inr (by omega)
 ·have:b<w.heap.size:=lt_of_heap ho;omega
theorem kM.kept (h:kM w D F g c st w'):Kept (fun k _=>D k) w w':=h.choose_spec.choose_spec.choose_spec.choose_spec.choose_spec.choose_spec.2.2.2
theorem dS.RQ (h:dS w D F g c st vq vs vo os) {b:Nat} (hb:b<w.heap.size):dS w D (fun k=>F k∨k=b) g c st vq vs vo os:=
 h.EO (fun _=> .inl) fun k hk=>by
  rcases hk with hk|rfl
  ·exact h.lt k hk
  ·exact hb
theorem bR.one (hb:w.heap.size≤g):bR w F (fun k=>F k∨k=g):=fun k hk=>by
 rcases hk with hk|rfl
 ·exact .inl hk
 ·exact .inr hb
theorem dS.fresh (h:dS w D F g c st vq vs vo os) {b:Nat} (hb:w.heap.size≤b):¬D b:=fun hd=>by
 have:=h.lt b (h.sub b hd);omega
end
end
section
open Go.RowKit Go.Shelf
attribute [local go_sem] Oper.semAt_some
section
variable {D F:Nat→Prop} {g:Nat} {c:Cf} {st:Sd} {vq vo:Value} {vs os:List Value} {w:World}
theorem uX (h:dS w D F g c st vq vs vo os) (now:Int):
 Calls Tryz.prog 77 #[.pointer (some ⟨g,0,none⟩),.int .i64 now] w fun e w'=>e= .returned (.tuple #[])∧dS w' D F g c (bW st now) vq vs vo os∧Kept (fun k _=>D k) w w':=by
 have x20:=h.blk.cell 20;have f20:=h.blk.frozen 20;simp[dO] at x20;have hs:=fun u he=>h.mr 20 (.int .i64 u) (st':= {st with now:=u}) he rfl rfl
 have HS:=Lib.hid hs;have HD:=Lib.hid h.gd;by_cases hlt:st.now<now
 ·have hc:bW st now= {st with now:=now}:=by unfold bW;rw[if_pos hlt]
  rw[hc];have hle:st.now≤now:=by omega
  clear h hs hc;go_enter Tryz.func77,Tryz.ntmps77;go_wp2
  go_end0
  exact ⟨rfl,HS.out now rfl,(Kept.refl _ w).setCell (p:=⟨g,20,none⟩) (fun _ _=>HD.out) _⟩
 ·have hc:bW st now= {st with now:=st.now}:=by unfold bW;rw[if_neg hlt]
  rw[hc];clear h hs hc;go_enter Tryz.func77,Tryz.ntmps77;go_wp2
  go_end0
  exact ⟨rfl,HS.out st.now rfl,(Kept.refl _ w).setCell (p:=⟨g,20,none⟩) (fun _ _=>HD.out) _⟩
theorem yI (h:dS w D F g c st vq vs vo os) (hf:st.failed=false):
 Calls Tryz.prog 116 #[.pointer (some ⟨g,0,none⟩)] w fun e w'=>e= .returned (.tuple #[])∧w=w':=by
 have O9:=h.blk.cell 19;simp[dO] at O9;rw[hf] at O9;clear h hf;go_enter Tryz.func116,Tryz.ntmps116;go_wp2
 go_end0
 exact ⟨rfl,rfl⟩
abbrev Hu:Ending:= .panicked [{v:= .iface 191 (.agg #[]),recovered:=false}]
theorem uY (h:dS w D F g c st vq vs vo os) (hf:st.failed=true):
 Calls Tryz.prog 116 #[.pointer (some ⟨g,0,none⟩)] w fun e w'=>e=Hu∧w=w':=by
 have O9:=h.blk.cell 19;simp[dO] at O9;rw[hf] at O9;clear h hf;unfold Hu;go_enter Tryz.func116,Tryz.ntmps116;go_wp2;exact ⟨rfl,rfl,rfl⟩
theorem BA (h:dS w D F g c st vq vs vo os) (hsum:bM st≤1048576) (hn:st.out.length≤1000000):
 Calls Tryz.prog 131 #[.pointer (some ⟨g,0,none⟩)] w fun e w'=>e= .returned (.bool (jD st))∧O8 w w':=by
 have hpe:=fun k=>sG (h.drewN k) hn
 have Gu:=fun k=>Be (h.drewN k) hsum
 have HP:=Lib.hid hpe;have HE:=Lib.hid Gu;have x10:=h.blk.cell 10;have El:=h.blk.cell 12;simp[dO] at x10 El;clear hpe Gu;unfold I4 at HP;cases hpa:fZ st.out with
 |some i=>
  rw[hpa] at HP;obtain ⟨x,hx,_⟩:=gW hpa;obtain ⟨p,Ap,cp,vp,Ar,cr,he,ho⟩:=h.oe i x hx;have hg:os[i]?.getD (.pointer none)= .pointer (some ⟨p,0,none⟩):=by rw[he];rfl
  simp only[hg] at HP;have hfin:jD st=false:=by unfold jD;rw[hpa];rfl
  rw[hfin];clear h hpa hx he ho hg hfin;go_enter Tryz.func131,Tryz.ntmps131;go_wp2
  go_quiet ((go_at_call 84;exact Calls.quiet_of_same ((HP.out _).mono fun _ _ hh=>⟨hh.1,hh.2.symm⟩)))
  go_wp2;go_ret;refine ⟨rfl,?_⟩;exact ⟨_,rfl⟩
 |none=>
  rw[hpa] at HP;simp only at HP;obtain ⟨A,cc,rfl,hs⟩:=h.Pb;have hcap:=hs.cap;have hmx:=hs.mx;have hfin:jD st=(decide (st.taken=bM st)||decide (512≤st.out.length)):=by unfold jD;rw[hpa];rfl
  rw[hfin];clear h hs hpa hfin;generalize bM st=H at*;by_cases ht:st.taken=H
  ·rw[decide_eq_true ht];have d1:((st.taken:Int)==(H:Int))=true:=by simp;omega
   have d2:decide (st.taken=H)=true:=decide_eq_true ht;have HT:=Lib.hid ht;clear ht;go_enter Tryz.func131,Tryz.ntmps131;go_wp2
   go_quiet ((first|(go_at_call 84;exact Calls.quiet_of_same ((HP.out _).mono fun _ _ hh=>⟨hh.1,hh.2.symm⟩))|(go_at_call 102;exact Calls.quiet_of_same ((HE.out _).mono fun _ _ hh=>⟨hh.1,hh.2.symm⟩))))
   go_wp2;go_ret;refine ⟨rfl,?_⟩;exact ⟨_,rfl⟩
  ·rw[decide_eq_false ht];have d1:((st.taken:Int)==(H:Int))=false:=by simp;omega
   have d2:decide (st.taken=H)=false:=decide_eq_false ht;have HT:=Lib.hid ht;clear ht;go_enter Tryz.func131,Tryz.ntmps131;go_wp2
   go_quiet ((first|(go_at_call 84;exact Calls.quiet_of_same ((HP.out _).mono fun _ _ hh=>⟨hh.1,hh.2.symm⟩))|(go_at_call 102;exact Calls.quiet_of_same ((HE.out _).mono fun _ _ hh=>⟨hh.1,hh.2.symm⟩))))
   go_wp2;go_ret;refine ⟨by simp;omega,?_⟩;exact ⟨_,rfl⟩
theorem Kc {p:Nat} {x:Ou} {Ap Ar:Option Addr} {cp cr:Nat} {vp:List Value} (h:gI w D F p x Ap cp vp Ar cr):
 Calls Tryz.prog 161 #[.pointer (some ⟨p,0,none⟩)] w fun e w'=>e= .returned (.bool (!x.aV))∧w=w':=by
 obtain ⟨x0,x7,x8,x9,x10,uG⟩:=h.cells;clear h x0 x7 x8 x10 uG;go_enter Tryz.func161,Tryz.ntmps161;go_wp2;go_ret;exact ⟨rfl,rfl⟩
end
end
section
open Go.RowKit
attribute [local go_sem] Oper.semAt_some
def mZ (l:List (Nat × Nat)):List Value:=l.flatMap (fun r=> [.int .i64 (r.1:Nat),.int .i64 (r.2:Nat)])
theorem rF (l:List (Nat × Nat)):(mZ l).length=l.length*2:=by
 induction l with
 |nil=>rfl
 |cons r t ih=>
  simp only[mZ,List.flatMap_cons,List.length_append,List.length_cons,List.length_nil] at ih ⊢;omega
theorem EP (r:Nat × Nat) (t:List (Nat × Nat)):mZ (r::t)= .int .i64 (r.1:Nat):: .int .i64 (r.2:Nat)::mZ t:=by simp[mZ]
theorem wX (a b:List (Nat × Nat)):mZ (a++b)=mZ a++mZ b:=by simp[mZ]
theorem wY:∀(l:List (Nat × Nat)) (j:Nat) (r:Nat × Nat),l[j]? =some r→(mZ l)[j*2]? =some (.int .i64 (r.1:Nat))∧(mZ l)[j*2+1]? =some (.int .i64 (r.2:Nat))
 | [],j,r,h=>by simp at h
 |x::t,0,r,h=>by
  simp at h;subst h;rw[EP];exact ⟨rfl,rfl⟩
 |x::t,j+1,r,h=>by
  have ih:=wY t j r (by simpa using h);rw[EP];rw[show (j+1)*2=j*2+1+1 by omega];exact ih
theorem P7 (l:List (Nat × Nat)):∀u∈mZ l,u.oneCell'=true:=by
 intro u hu;simp only[mZ,List.mem_flatMap,List.mem_cons,List.not_mem_nil,or_false] at hu;obtain ⟨r,_,rfl|rfl⟩:=hu<;>rfl
section
variable {w w':World} {A:Option Addr} {n c:Nat} {l:List (Nat × Nat)}
theorem dM.cells {ad:Addr} (h:dM w (some ad) n c l):∀j u,(mZ l)[j]? =some u→w.cell? (ad.add j)=some u:=by
 intro j u hu;have hj:=(List.getElem?_eq_some_iff.1 hu).1;rw[rF] at hj;have hn:=h.len;obtain ⟨zC,e,hb,hc⟩:=h.at_ (by omega);cases e;obtain ⟨r,hr⟩:∃r,l[j/2]? =some r:=⟨_,List.getElem?_eq_getElem (by omega)⟩
 obtain ⟨g1,g2⟩:=wY l _ r hr;obtain ⟨k1,k2⟩:=hc _ r hr;rcases Nat.mod_two_eq_zero_or_one j with hm|hm
 ·have e2:j/2*2=j:=by omega
  rw[e2] at g1 k1;rw[g1] at hu;cases hu;exact k1
 ·have e2:j/2*2+1=j:=by omega
  rw[e2] at g2 k2;rw[g2] at hu;cases hu;exact k2
theorem dM.cK {base:Nat} {v:Value} (h:w.ownsRow base 39 2 v l.length (mZ l)):
 ∃A c,v= .slice A l.length c∧dM w A l.length c l∧(∀ad,A=some ad→base≤ad.block∧ad.block<w.heap.size):=by
 rcases h.2 with ⟨rfl,hn⟩|⟨g,cap,cur,rfl,hb,hg,hnc,hcm,hcs,ht⟩
 ·have:=List.eq_nil_of_length_eq_zero hn;subst this;exact ⟨none,0,rfl,dM.nil w,fun ad e=>by cases e⟩
 ·refine ⟨_,_,rfl,⟨rfl,hnc,by unfold maxLen at hcm;omega,fun _=>⟨_,rfl,lt_of_heap hg,fun j r hr=> ?_⟩⟩,fun ad e=>by cases e;exact ⟨hb,lt_of_heap hg⟩⟩;have hc:=fun j u (hu:(mZ l)[j]? =some u)=>h.cells (g:=g) rfl j u hu
  obtain ⟨g1,g2⟩:=wY l j r hr;exact ⟨hc _ _ g1,hc _ _ g2⟩
theorem dM.tail {ad:Addr} {r:Nat × Nat} (h:dM w (some ad) (n+1) c (r::l)):dM w (some (if c=1 then ad else ad.add 2)) n (c-1) l:=by
 have hl:=h.len;have hc:=h.cap;have hm:=h.mx;simp at hl;refine ⟨hl,by omega,by omega,fun hn=> ?_⟩;obtain ⟨zC,e,hb,hcl⟩:=h.at_ (by omega);cases e;rw[if_neg (by omega)];refine ⟨_,rfl,by rw[block_add];exact hb,fun j q hq=> ?_⟩;have:=hcl (j+1) q (by simpa using hq);rw[add_add,add_add,show 2+j*2=(j+1)*2 by omega,show 2+(j*2+1)=(j+1)*2+1 by omega];exact this
theorem dM.below (h:dM w A n c l) (hb:Below w.heap.size w w'):dM w' A n c l:=by
 rcases Nat.eq_zero_or_pos n with h0|h0
 ·exact ⟨h.len,h.cap,h.mx,fun hn=>by omega⟩
 ·obtain ⟨ad,e,hlt,hc⟩:=h.at_ h0;exact h.stay fun zC e'=>hb.block _ (by rw[e] at e';cases e';exact hlt)
theorem dM.alloc (h:dM w A n c l) (o:Obj):dM (w.alloc o) A n c l:=h.below ((Below.refl _ w).alloc (Nat.le_refl _) o)
end
theorem P8:(Tryz.prog.info? 39).map (fun i=>(i.zero,i.size,i.bytes))=some (some (.agg #[.int .i64 0,.int .i64 0]),2,16):=by kernel_rfl
theorem pV:∃i,Tryz.prog.info? 39=some i∧i.zero=some (.agg #[.int .i64 0,.int .i64 0])∧i.size=2∧i.bytes=16:=by
 have h:=P8;cases hi:Tryz.prog.info? 39 with
 |none=>rw[hi] at h;cases h
 |some i=>
  rw[hi] at h;simp only[Option.map_some,Option.some.injEq,Prod.mk.injEq] at h;exact ⟨i,rfl,h.1,h.2.1,h.2.2⟩
theorem rG:Tryz.prog.underlying 150=some (.slice 39):=by kernel_rfl
section
variable {P:Program} (w:World)
theorem Ah (base:Nat) (t ty e:TypeId) (i:TypeInfo) (z:Value) (bytes:Nat) (ht:P.underlying t=some (.slice e)) (hi:P.info? e=some i) (hz:i.zero=some z)
 (hsize:i.size=2) (hby:i.bytes=bytes) (hzs:z.cells.size=2)
 (v:Value) (n:Nat) (xs:List Value) (hown:w.ownsRow base e 2 v n xs)
 (A:Option Addr) (m c:Nat) (l:List (Nat × Nat)) (hr:dM w A m c l)
 (h63:n+m≤maxLen) (hbytes:(n+m)*bytes≤140737488355328) (hbase:base≤w.heap.size):
 ∃v' w',(Builtin.append_ #[t,t] ty #[v,.slice A m c]).run P w= .ok v' w'∧w'.ownsRow base e 2 v' (n+m) (xs++mZ l)∧w.grownBy w' v.ownBlock∧
  (v'.ownBlock=v.ownBlock∨v'.ownBlock=some w.heap.size):=by
 rcases A with _|ad
 ·have hm:m=0:=by
   rcases Nat.eq_zero_or_pos m with h0|h0
   ·exact h0
   ·obtain ⟨ad,h,_⟩:=hr.at_ h0;cases h
  subst hm;have hn:l= []:=List.eq_nil_of_length_eq_zero hr.len;subst hn;exact ⟨v,w,jh w base t ty e i 2 ht hi v n xs hown c,by simpa[mZ] using hown,World.grownBy.refl w _,.inl rfl⟩
 ·obtain ⟨v',w',hrun,h2,h3,_,h5⟩:=run_append_own_at (P:=P) w base t ty e i z 2 bytes ht hi hz hsize hby hzs (by omega) v n xs hown ad m c (mZ l) (by rw[rF,hr.len]) hr.cells (P7 l) h63 hbytes hbase;exact ⟨v',w',hrun,h2,h3,h5⟩
theorem Db {o:Oper} {a:Act} {K:Act→World→Prop} {Q:Exit→Act→World→Prop} (s x:Operand) (t:TypeId)
 (ho:o.op= .call {callee:= .builtin .append,args:= #[s,x],argTypes:= #[t,t]})
 (base:Nat) (e:TypeId) (i:TypeInfo) (z:Value) (bytes:Nat) (ht:P.underlying t=some (.slice e)) (hi:P.info? e=some i) (hz:i.zero=some z)
 (hsize:i.size=2) (hby:i.bytes=bytes) (hzs:z.cells.size=2)
 (v:Value) (n:Nat) (xs:List Value) (hs:a.eval s=v) (hown:w.ownsRow base e 2 v n xs)
 (A:Option Addr) (m c:Nat) (l:List (Nat × Nat)) (hx:a.eval x= .slice A m c) (hr:dM w A m c l)
 (h63:n+m≤maxLen) (hbytes:(n+m)*bytes≤140737488355328) (hbase:base≤w.heap.size)
 (h:∀v' w',w'.ownsRow base e 2 v' (n+m) (xs++mZ l)→w.grownBy w' v.ownBlock→(v'.ownBlock=v.ownBlock∨v'.ownBlock=some w.heap.size)→K (a.put o.dst v') w'):o.wp P a w K Q:=by
 obtain ⟨v',w',hrun,h2,h3,h4⟩:=Ah (P:=P) w base t o.type e i z bytes ht hi hz hsize hby hzs v n xs hown A m c l hr h63 hbytes hbase;unfold Oper.wp execOp;simp only[ho,resolve,invoke,builtin,Sem.run_bind,Sem.run_pure,Result.andThen_ok,List.map_toArray,List.map_cons,List.map_nil,hs,hx,hrun];exact h v' w' h2 h3 h4
theorem fP {ops:Array Oper} {rest:List Oper} {o:Oper} {a:Act} {Q:Exit→Act→World→Prop} (hgd:o.guard=none) (s x:Operand) (t:TypeId)
 (ho:o.op= .call {callee:= .builtin .append,args:= #[s,x],argTypes:= #[t,t]})
 (base:Nat) (e:TypeId) (i:TypeInfo) (z:Value) (bytes:Nat) (ht:P.underlying t=some (.slice e)) (hi:P.info? e=some i) (hz:i.zero=some z)
 (hsize:i.size=2) (hby:i.bytes=bytes) (hzs:z.cells.size=2)
 (v:Value) (n:Nat) (xs:List Value) (hs:a.eval s=v) (hown:w.ownsRow base e 2 v n xs)
 (A:Option Addr) (m c:Nat) (l:List (Nat × Nat)) (hx:a.eval x= .slice A m c) (hr:dM w A m c l)
 (h63:n+m≤maxLen) (hbytes:(n+m)*bytes≤140737488355328) (hbase:base≤w.heap.size)
 (h:∀v' w',w'.ownsRow base e 2 v' (n+m) (xs++mZ l)→w.grownBy w' v.ownBlock→(v'.ownBlock=v.ownBlock∨v'.ownBlock=some w.heap.size)→wpList P ops Q rest (a.put o.dst v') w'):wpList P ops Q (o::rest) a w:=
 wpList_plain hgd fun _ hK=>Db w s x t ho base e i z bytes ht hi hz hsize hby hzs v n xs hs hown A m c l hx hr h63 hbytes hbase fun v' w' h2 h3 h4=>hK _ _ (h v' w' h2 h3 h4)
end
def wZ (w:World) (l:List (Nat × Nat)) (e:Ending) (w':World):Prop:=
 ∃v,e= .returned v∧w'.ownsRow w.heap.size 39 2 v l.length (mZ l)∧Below w.heap.size w w'
set_option maxRecDepth 3000 in
set_option maxHeartbeats 400000 in
theorem vT (A:Option Addr) (n c:Nat) (l:List (Nat × Nat)) (w:World) (h:dM w A n c l) (hsm:n≤1000000):
 Calls Tryz.prog 106 #[.slice A n c] w (wZ w l):=by
 have hnil:=fun (W:World)=>Lib.run_eql_slice_nil (P:=Tryz.prog) W 150 39 A n c 0 0 rG
 obtain ⟨i0,hi,hz0,hz1,hz2⟩:=pV;have hl:=h.len;subst hl;have hs1:=h.alloc (.cells #[] 39);rcases A with _|ad
 ·have hl:l= []:=by
   rcases Nat.eq_zero_or_pos l.length with h0|h0
   ·exact List.eq_nil_of_length_eq_zero h0
   ·obtain ⟨_,e,_⟩:=h.at_ h0;cases e
  subst hl;simp only[List.length_nil] at hnil ⊢;clear hs1 h;go_enter Tryz.func106,Tryz.ntmps106;go_wp2;go_ret;exact ⟨_,rfl,World.ownsRow_nil _ _ _ _,Below.refl _ _⟩
 ·go_enter Tryz.func106,Tryz.ntmps106;go_wp2_with (at_builtin;refine fP _ rfl _ _ 150 rfl w.heap.size 39 i0 (.agg #[.int .i64 0,.int .i64 0]) 16 rG hi hz0 hz1 hz2 rfl (.slice (some ⟨w.heap.size,0,none⟩) 0 0) 0 [] rfl ?c0 (some ad) l.length c l rfl hs1 ?c3 ?c4 ?c5 ?_)
  case c0=>exact World.ownsRow_lit w #[] 0 (Nat.le_refl _) (by unfold maxLen;omega) rfl
  case c3=>unfold maxLen;omega
  case c4=>omega
  case c5=>simp
  intro v' w1 hown' hgrow _;go_wp2;go_ret;exact ⟨_,rfl,by simpa using hown',((Below.refl _ w).alloc (Nat.le_refl _) _).grown hgrow (by simp) (by simp[Value.ownBlock])⟩
set_option maxRecDepth 3000 in
set_option maxHeartbeats 400000 in
theorem Hw (n:Nat) (w:World) (hsm:n≤1000000):Calls Tryz.prog 169 #[.slice none 0 0,.int .i64 n] w (wZ w []):=by
 obtain ⟨i0,hi,hz0,hz1,hz2⟩:=pV;rcases Nat.eq_zero_or_pos n with rfl|hpos
 ·go_enter Tryz.func169,Tryz.ntmps169;go_wp2;go_ret;exact ⟨_,rfl,World.ownsRow_nil _ _ _ _,Below.refl _ _⟩
 ·have hr:=Lib.run_append_nil_zeros (P:=Tryz.prog) w 150 3 150 39 i0 (.agg #[.int .i64 0,.int .i64 0]) .i64 .i64 rG (by kernel_rfl) hi hz0 n hpos (by omega) (by omega) (by rw[hz2];omega);have hcap:=grownCap_ge w n 0 39;have hmx:=grownCap_le_maxLen w n 0 39 (by unfold maxLen;omega);unfold maxLen at hmx;generalize grownCap w n 0 39=cap at*;have HR:=Lib.hid hr;clear hr;go_enter Tryz.func169,Tryz.ntmps169;go_wp2_with (at_builtin;refine Lib.wpList_append_run _ rfl _ _ 150 3 rfl (.slice none 0 0) (.int .i64 n) rfl rfl _ _ HR.out ?_);go_ret;refine ⟨_,rfl,⟨rfl,.inr ⟨w.heap.size,cap,_,rfl,Nat.le_refl _,heap_alloc_new w _,Nat.zero_le _,by unfold maxLen;omega,?_,rfl⟩⟩,((Below.refl _ w).alloc (Nat.le_refl _) _).drew⟩;rw[Array.size_append,size_zeroCells,size_zeroCells];simp;omega
structure BD (w:World) (b:Nat) (A1 A2:Option Addr) (n1 c1 n2 c2:Nat) (l1 l2:List (Nat × Nat)):Prop where
 b:au w b 150 #[.slice A1 n1 c1,.slice A2 n2 c2]
 s1:dM w A1 n1 c1 l1
 s2:dM w A2 n2 c2 l2
theorem BD.below {w w':World} {b:Nat} {A1 A2:Option Addr} {n1 c1 n2 c2:Nat} {l1 l2:List (Nat × Nat)} (h:BD w b A1 A2 n1 c1 n2 c2 l1 l2) (hb:Below w.heap.size w w'):BD w' b A1 A2 n1 c1 n2 c2 l1 l2:=
 ⟨h.b.below hb h.b.lt,h.s1.below hb,h.s2.below hb⟩
def BF (l1 l2:List (Nat × Nat)):Nat→List (Nat × Nat)
 |0=> []
 |1=>l1
 |_=>l1++l2
set_option maxRecDepth 3000 in
set_option maxHeartbeats 1000000 in
theorem tu (b:Nat) (A1 A2:Option Addr) (n1 c1 n2 c2:Nat) (l1 l2:List (Nat × Nat)) (w:World) (h:BD w b A1 A2 n1 c1 n2 c2 l1 l2) (h1:n1≤100000) (h2:n2≤100000):
 Calls Tryz.prog 129 #[.slice (some ⟨b,0,none⟩) 2 2] w (wZ w (l1++l2)):=by
 obtain ⟨i0,hi,hz0,hz1,hz2⟩:=pV;have q1:=h.s1.cap;have q2:=h.s1.mx;have q3:=h.s2.cap;have q4:=h.s2.mx;have hl1:=Lib.hid h.s1.len;have hl2:=Lib.hid h.s2.len;have e1:=h.b.cell 0;have e2:=h.b.cell 1;simp at e1 e2;have HH:=Lib.hid h;clear h;go_enter Tryz.func129,Tryz.ntmps129;go_wp2
 go_loop [3,11] (fun t i=>(i= .int .i64 0∧t= .int .i64 0)∨(i= .int .i64 1∧t= .int .i64 (n1:Nat))∨(i= .int .i64 2∧t= .int .i64 (n1+n2:Nat))) (fun _ i=>2-(intOf i).toNat)
 case atStart=>exact .inl ⟨rfl,rfl⟩
 case round=>
  rcases hrel with ⟨rfl,rfl⟩|⟨rfl,rfl⟩|⟨rfl,rfl⟩
  ·go_wp2
   go_round
   case rel=>exact .inr (.inl ⟨rfl,rfl⟩)
   case measure=>simp[intOf]
  ·go_wp2
   go_round
   case rel=>exact .inr (.inr ⟨rfl,by go_num⟩)
   case measure=>simp[intOf]
  ·have hgr:=Hw (n1+n2) w (by omega);have MJ:=Lib.hid hgr;clear hgr;go_wp2_with fail;refine MJ.out.mono ?_;rintro e w1 ⟨v1,rfl,hv1,hb1⟩;go_wp2
   go_loopw [6,27] (fun v i wr=>∃k:Nat,k≤2∧i= .int .i64 k∧wr.ownsRow w.heap.size 39 2 v (BF l1 l2 k).length (mZ (BF l1 l2 k))∧Below w.heap.size w wr) (fun _ i _=>2-(intOf i).toNat)
   case atStart=>exact ⟨0,by decide,rfl,hv1,hb1⟩
   case round=>
    clear hv1 hb1;obtain ⟨k,hk,rfl,hown,hbw⟩:=hrel;have hT:=HH.out.below hbw;have P9:=hl1.out;have XQ:=hl2.out;have f1:=hT.b.cell 0;have f2:=hT.b.cell 1;simp at f1 f2;obtain rfl|rfl|rfl:k=0∨k=1∨k=2:=by omega
    ·go_wp2_with (at_builtin;refine fP _ rfl _ _ 150 rfl w.heap.size 39 i0 (.agg #[.int .i64 0,.int .i64 0]) 16 rG hi hz0 hz1 hz2 rfl _ 0 [] rfl hown A1 n1 c1 l1 rfl hT.s1 ?c3 ?c4 ?c5 ?_)
     case c3=>unfold maxLen;omega
     case c4=>omega
     case c5=>exact hbw.size
     intro v' w2 hown' hgrow _;go_wp2
     go_roundw
     case rel=>exact ⟨1,by decide,by go_num,by simpa[BF,P9] using hown',hbw.grown hgrow hbw.size (fun j hj=>(hown.lt j hj).1)⟩
     case measure=>simp[intOf]
    ·rw[show BF l1 l2 1=l1 from rfl,P9] at hown;go_wp2_with (at_builtin;refine fP _ rfl _ _ 150 rfl w.heap.size 39 i0 (.agg #[.int .i64 0,.int .i64 0]) 16 rG hi hz0 hz1 hz2 rfl _ n1 (mZ l1) rfl hown A2 n2 c2 l2 rfl hT.s2 ?c3 ?c4 ?c5 ?_)
     case c3=>unfold maxLen;omega
     case c4=>omega
     case c5=>exact hbw.size
     intro v' w2 hown' hgrow _;go_wp2
     go_roundw
     case rel=>exact ⟨2,by decide,by go_num,by rw[show BF l1 l2 2=l1++l2 from rfl,List.length_append,P9,XQ,wX];exact hown',hbw.grown hgrow hbw.size (fun j hj=>(hown.lt j hj).1)⟩
     case measure=>simp[intOf]
    ·rw[show BF l1 l2 2=l1++l2 from rfl] at hown;clear P9 XQ;go_wp2;go_ret;exact ⟨_,rfl,hown,hbw⟩
end
section
open Go.RowKit Go.Shelf
attribute [local go_sem] Oper.semAt_some
def mG (l:List Nk):List Value:=l.flatMap (fun r=> [.int .i64 r.sn,.bool r.part,.int .i64 r.fr,.int .i64 r.lt])
theorem yJ (l:List Nk):(mG l).length=l.length*4:=by
 induction l with
 |nil=>rfl
 |cons r t ih=>
  simp only[mG,List.flatMap_cons,List.length_append,List.length_cons,List.length_nil] at ih ⊢;omega
theorem EQ (r:Nk) (t:List Nk):mG (r::t)= .int .i64 r.sn:: .bool r.part:: .int .i64 r.fr:: .int .i64 r.lt::mG t:=by simp[mG]
theorem Dc:∀(l:List Nk) (j:Nat) (r:Nk),l[j]? =some r→(mG l)[j*4]? =some (.int .i64 r.sn)∧(mG l)[j*4+1]? =some (.bool r.part)∧(mG l)[j*4+2]? =some (.int .i64 r.fr)∧(mG l)[j*4+3]? =some (.int .i64 r.lt)
 | [],j,r,h=>by simp at h
 |x::t,0,r,h=>by
  simp at h;subst h;rw[EQ];exact ⟨rfl,rfl,rfl,rfl⟩
 |x::t,j+1,r,h=>by
  have ih:=Dc t j r (by simpa using h);rw[EQ];rw[show (j+1)*4=j*4+1+1+1+1 by omega];exact ih
theorem Qa (l:List Nk):∀u∈mG l,u.oneCell'=true:=by
 intro u hu;simp only[mG,List.mem_flatMap,List.mem_cons,List.not_mem_nil,or_false] at hu;obtain ⟨r,_,rfl|rfl|rfl|rfl⟩:=hu<;>rfl
theorem bI.cells {w:World} {ad:Addr} {n c:Nat} {l:List Nk} (h:bI w (some ad) n c l):∀j u,(mG l)[j]? =some u→w.cell? (ad.add j)=some u:=by
 intro j u hu;have hj:=(List.getElem?_eq_some_iff.1 hu).1;rw[yJ] at hj;have hn:=h.len;obtain ⟨zC,e,hb,hc⟩:=h.at_ (by omega);cases e;obtain ⟨r,hr⟩:∃r,l[j/4]? =some r:=⟨_,List.getElem?_eq_getElem (by omega)⟩
 obtain ⟨g1,g2,g3,g4⟩:=Dc l _ r hr;obtain ⟨k1,k2,k3,k4⟩:=hc _ r hr;have hm:j%4=0∨j%4=1∨j%4=2∨j%4=3:=by omega
 rcases hm with hm|hm|hm|hm
 ·have e2:j/4*4=j:=by omega
  rw[e2] at g1 k1;rw[g1] at hu;cases hu;exact k1
 ·have e2:j/4*4+1=j:=by omega
  rw[e2] at g2;rw[g2] at hu;cases hu;rw[←e2,←add_add];exact k2
 ·have e2:j/4*4+2=j:=by omega
  rw[e2] at g3;rw[g3] at hu;cases hu;rw[←e2,←add_add];exact k3
 ·have e2:j/4*4+3=j:=by omega
  rw[e2] at g4;rw[g4] at hu;cases hu;rw[←e2,←add_add];exact k4
theorem bI.cK {w:World} {l:List Nk} {base:Nat} {v:Value} (h:w.ownsRow base 197 4 v l.length (mG l)):
 ∃A c,v= .slice A l.length c∧bI w A l.length c l∧(∀ad,A=some ad→base≤ad.block∧ad.block<w.heap.size):=by
 rcases h.2 with ⟨rfl,hn⟩|⟨g,cap,cur,rfl,hb,hg,hnc,hcm,hcs,ht⟩
 ·have:=List.eq_nil_of_length_eq_zero hn;subst this;exact ⟨none,0,rfl,⟨rfl,Nat.le_refl _,by omega,fun hn=>by simp at hn⟩,fun ad e=>by cases e⟩
 ·refine ⟨_,_,rfl,⟨rfl,hnc,by unfold maxLen at hcm;omega,fun _=>⟨_,rfl,lt_of_heap hg,fun j r hr=> ?_⟩⟩,fun ad e=>by cases e;exact ⟨hb,lt_of_heap hg⟩⟩;have hc:=fun j u (hu:(mG l)[j]? =some u)=>h.cells (g:=g) rfl j u hu
  obtain ⟨g1,g2,g3,g4⟩:=Dc l j r hr;refine ⟨hc _ _ g1,?_,?_,?_⟩
  ·have:=hc _ _ g2;rw[←add_add] at this;exact this
  ·have:=hc _ _ g3;rw[←add_add] at this;exact this
  ·have:=hc _ _ g4;rw[←add_add] at this;exact this
theorem Qb:(Tryz.prog.info? 197).map (fun i=>(i.zero,i.size,i.bytes))=some (some (.agg #[.int .i64 0,.bool false,.int .i64 0,.int .i64 0]),4,32):=by kernel_rfl
theorem pW:∃i,Tryz.prog.info? 197=some i∧i.zero=some (.agg #[.int .i64 0,.bool false,.int .i64 0,.int .i64 0])∧i.size=4∧i.bytes=32:=by
 have h:=Qb;cases hi:Tryz.prog.info? 197 with
 |none=>rw[hi] at h;cases h
 |some i=>
  rw[hi] at h;simp only[Option.map_some,Option.some.injEq,Prod.mk.injEq] at h;exact ⟨i,rfl,h.1,h.2.1,h.2.2⟩
theorem rH:Tryz.prog.underlying 131=some (.slice 197):=by kernel_rfl
section
variable {P:Program} (w:World)
theorem Aj (base:Nat) (t ty e:TypeId) (i:TypeInfo) (z:Value) (bytes:Nat) (ht:P.underlying t=some (.slice e)) (hi:P.info? e=some i) (hz:i.zero=some z)
 (hsize:i.size=4) (hby:i.bytes=bytes) (hzs:z.cells.size=4)
 (v:Value) (n:Nat) (xs:List Value) (hown:w.ownsRow base e 4 v n xs)
 (A:Option Addr) (m c:Nat) (l:List Nk) (hr:bI w A m c l)
 (h63:n+m≤maxLen) (hbytes:(n+m)*bytes≤140737488355328) (hbase:base≤w.heap.size):
 ∃v' w',(Builtin.append_ #[t,t] ty #[v,.slice A m c]).run P w= .ok v' w'∧w'.ownsRow base e 4 v' (n+m) (xs++mG l)∧w.grownBy w' v.ownBlock:=by
 rcases A with _|ad
 ·have hm:m=0:=by
   rcases Nat.eq_zero_or_pos m with h0|h0
   ·exact h0
   ·obtain ⟨ad,h,_⟩:=hr.at_ h0;cases h
  subst hm;have hn:l= []:=List.eq_nil_of_length_eq_zero hr.len;subst hn;exact ⟨v,w,jh w base t ty e i 4 ht hi v n xs hown c,by simpa[mG] using hown,World.grownBy.refl w _⟩
 ·obtain ⟨v',w',hrun,h2,h3,_,h5⟩:=run_append_own_at (P:=P) w base t ty e i z 4 bytes ht hi hz hsize hby hzs (by omega) v n xs hown ad m c (mG l) (by rw[yJ,hr.len]) hr.cells (Qa l) h63 hbytes hbase;exact ⟨v',w',hrun,h2,h3⟩
theorem tC {o:Oper} {a:Act} {K:Act→World→Prop} {Q:Exit→Act→World→Prop} (s x:Operand) (t:TypeId)
 (ho:o.op= .call {callee:= .builtin .append,args:= #[s,x],argTypes:= #[t,t]})
 (base:Nat) (e:TypeId) (i:TypeInfo) (z:Value) (bytes:Nat) (ht:P.underlying t=some (.slice e)) (hi:P.info? e=some i) (hz:i.zero=some z)
 (hsize:i.size=4) (hby:i.bytes=bytes) (hzs:z.cells.size=4)
 (v:Value) (n:Nat) (xs:List Value) (hs:a.eval s=v) (hown:w.ownsRow base e 4 v n xs)
 (A:Option Addr) (m c:Nat) (l:List Nk) (hx:a.eval x= .slice A m c) (hr:bI w A m c l)
 (h63:n+m≤maxLen) (hbytes:(n+m)*bytes≤140737488355328) (hbase:base≤w.heap.size)
 (h:∀v' w',w'.ownsRow base e 4 v' (n+m) (xs++mG l)→w.grownBy w' v.ownBlock→K (a.put o.dst v') w'):o.wp P a w K Q:=by
 obtain ⟨v',w',hrun,h2,h3⟩:=Aj (P:=P) w base t o.type e i z bytes ht hi hz hsize hby hzs v n xs hown A m c l hr h63 hbytes hbase;unfold Oper.wp execOp;simp only[ho,resolve,invoke,builtin,Sem.run_bind,Sem.run_pure,Result.andThen_ok,List.map_toArray,List.map_cons,List.map_nil,hs,hx,hrun];exact h v' w' h2 h3
theorem fQ {ops:Array Oper} {rest:List Oper} {o:Oper} {a:Act} {Q:Exit→Act→World→Prop} (hgd:o.guard=none) (s x:Operand) (t:TypeId)
 (ho:o.op= .call {callee:= .builtin .append,args:= #[s,x],argTypes:= #[t,t]})
 (base:Nat) (e:TypeId) (i:TypeInfo) (z:Value) (bytes:Nat) (ht:P.underlying t=some (.slice e)) (hi:P.info? e=some i) (hz:i.zero=some z)
 (hsize:i.size=4) (hby:i.bytes=bytes) (hzs:z.cells.size=4)
 (v:Value) (n:Nat) (xs:List Value) (hs:a.eval s=v) (hown:w.ownsRow base e 4 v n xs)
 (A:Option Addr) (m c:Nat) (l:List Nk) (hx:a.eval x= .slice A m c) (hr:bI w A m c l)
 (h63:n+m≤maxLen) (hbytes:(n+m)*bytes≤140737488355328) (hbase:base≤w.heap.size)
 (h:∀v' w',w'.ownsRow base e 4 v' (n+m) (xs++mG l)→w.grownBy w' v.ownBlock→wpList P ops Q rest (a.put o.dst v') w'):wpList P ops Q (o::rest) a w:=
 wpList_plain hgd fun _ hK=>tC w s x t ho base e i z bytes ht hi hz hsize hby hzs v n xs hs hown A m c l hx hr h63 hbytes hbase fun v' w' h2 h3=>hK _ _ (h v' w' h2 h3)
end
set_option maxRecDepth 3000 in
set_option maxHeartbeats 400000 in
theorem vU (A:Option Addr) (n c:Nat) (l:List Nk) (w:World) (h:bI w A n c l) (hsm:n≤1000000):
 Calls Tryz.prog 120 #[.slice A n c] w fun e w'=>∃A' c',e= .returned (.slice A' n c')∧bI w' A' n c' l∧(∀ad,A'=some ad→w.heap.size≤ad.block∧ad.block<w'.heap.size)∧Below w.heap.size w w':=by
 have hnil:=fun (W:World)=>Lib.run_eql_slice_nil (P:=Tryz.prog) W 131 197 A n c 0 0 rH
 obtain ⟨i0,hi,hz0,hz1,hz2⟩:=pW;have hl:=h.len;subst hl;have hs1:=h.alloc (.cells #[] 197);rcases A with _|ad
 ·have hl:l= []:=by
   rcases Nat.eq_zero_or_pos l.length with h0|h0
   ·exact List.eq_nil_of_length_eq_zero h0
   ·obtain ⟨_,e,_⟩:=h.at_ h0;cases e
  subst hl;simp only[List.length_nil] at hnil ⊢;clear hs1 h;go_enter Tryz.func120,Tryz.ntmps120;go_wp2;go_ret;exact ⟨none,0,rfl,⟨rfl,Nat.le_refl _,by omega,fun hn=>by simp at hn⟩,fun ad e=>(by cases e),Below.refl _ _⟩
 ·go_enter Tryz.func120,Tryz.ntmps120;go_wp2_with (at_builtin;refine fQ _ rfl _ _ 131 rfl w.heap.size 197 i0 (.agg #[.int .i64 0,.bool false,.int .i64 0,.int .i64 0]) 32 rH hi hz0 hz1 hz2 rfl (.slice (some ⟨w.heap.size,0,none⟩) 0 0) 0 [] rfl ?c0 (some ad) l.length c l rfl hs1 ?c3 ?c4 ?c5 ?_)
  case c0=>exact World.ownsRow_lit w #[] 0 (Nat.le_refl _) (by unfold maxLen;omega) rfl
  case c3=>unfold maxLen;omega
  case c4=>omega
  case c5=>simp
  intro v' w1 hown' hgrow;go_wp2;go_ret;have hb:Below w.heap.size w w1:=((Below.refl _ w).alloc (Nat.le_refl _) _).grown hgrow (by simp) (by simp[Value.ownBlock]);obtain ⟨A',c',rfl,h1,h2⟩:=bI.cK (l:=l) (by simpa using hown');exact ⟨A',c',rfl,h1,h2,hb⟩
set_option maxRecDepth 3000 in
set_option maxHeartbeats 400000 in
theorem MK (F:Fence) (n:Nat) (hF:F.fn 209) (hro:F.round=none) (A:Option Addr) (N c:Nat) (w:World):
 CallsIn F n Tryz.prog 209 #[.slice A N c] w fun e w'=>e= .returned (.func (.func 222) #[] #[.pointer (some ⟨w.heap.size,0,none⟩)])∧w'=w.alloc (.cells #[.slice A N c] 131):=by
 refine callsIn_of_wp Tryz.func209 rfl hF ?_ hro;simp only[Tryz.ntmps209,List.size_toArray,List.length_cons,List.length_nil,Nat.reduceAdd,Nat.reduceSub,Array.replicate_succ,Array.replicate_zero,List.push_toArray,List.append_toArray,List.nil_append,List.cons_append]
 gi_wp2
 go_ret;exact ⟨rfl,rfl⟩
set_option maxRecDepth 3000 in
set_option maxHeartbeats 400000 in
theorem ER (aK sn:Int) (A:Option Addr) (n c:Nat) (l:List Nk) (w:World) (h:bI w A n c l) (hsm:n≤1000000):
 Calls Tryz.prog 185 #[.agg #[.int .i64 aK,.slice A n c],.int .i64 sn] w fun e w'=>∃g b A' c',e= .returned (.func (.func 208) #[] #[.pointer (some ⟨g,0,none⟩),.pointer (some ⟨b,0,none⟩)])∧
  au w' g 131 #[.slice A' n c']∧au w' b 3 #[.int .i64 sn]∧bI w' A' n c' l∧(∀ad,A'=some ad→w.heap.size≤ad.block∧ad.block<w'.heap.size)∧w.heap.size≤g∧w.heap.size≤b∧Below w.heap.size w w':=by
 have b0:=au.new w 133 #[.int .i64 aK,.slice A n c];have b1:=au.new (w.alloc (.cells #[.int .i64 aK,.slice A n c] 133)) 3 #[.int .i64 sn];have VQ:=b0.alloc (.cells #[.int .i64 sn] 3);have hz:(w.alloc (.cells #[.int .i64 aK,.slice A n c] 133)).heap.size=w.heap.size+1:=World.size_alloc _ _;rw[hz] at b1;have z0:=VQ.cell 0;have z1:=VQ.cell 1;simp at z0 z1;have hN:=(h.alloc (.cells #[.int .i64 aK,.slice A n c] 133)).alloc (.cells #[.int .i64 sn] 3);have hB:Below w.heap.size w ((w.alloc (.cells #[.int .i64 aK,.slice A n c] 133)).alloc (.cells #[.int .i64 sn] 3)):=((Below.refl _ w).alloc (Nat.le_refl _) _).alloc (by simp) _;have hcl:=vU A n c l _ hN hsm;have HB:=Lib.hid hB;have B1:=Lib.hid b1;have qP:=Lib.hid hcl;clear b0 b1 VQ hN hB hcl h;go_enter Tryz.func185,Tryz.ntmps185;go_wp2_with fail;refine qP.out.mono ?_;rintro e w1 ⟨A',c',rfl,hN1,hf1,hb1⟩;go_wp2_with fail;go_ret;have hs1:=HB.out.size;refine ⟨w1.heap.size,w.heap.size+1,A',c',rfl,au.new w1 _ _,((B1.out.below hb1 B1.out.lt).alloc _),hN1.alloc _,fun ad e=> ?_,by have:=hb1.size;omega,by omega,(HB.out.trans (hb1.mono hs1)).alloc (by have:=hb1.size;omega) _⟩;have:=hf1 ad e;simp;omega
end
section
open Go.RowKit Go.Shelf
attribute [local go_sem] Oper.semAt_some
theorem ng:∀(l:List Fl) (i fr:Nat),(eO l i fr).length≤l.length+1
 | [],i,fr=>by unfold eO;split<;>simp
 |f::r,i,fr=>by
  have h1:=ng r (i+1) fr;have h2:=ng r (i+1) (i+1);unfold eO;split
  ·simp;omega
  ·split<;>simp<;>omega
theorem yK {w w':World} {base sz:Nat} {e:TypeId} {n:Nat} {v:Value} {xs:List Value} {row:Option Nat} (h:w.ownsRow base e sz v n xs) (hg:w.grownBy w' row) (hr:∀r,row=some r→∃o:Obj,w.heap[r]? =some o∧o.isCells=false):w'.ownsRow base e sz v n xs:=by
 refine h.kept hg ?_;rcases h.2 with ⟨rfl,_⟩|⟨q,cap,cur,rfl,q1,q2,_⟩
 ·exact .inl rfl
 ·refine .inr (fun e'=> ?_);obtain ⟨o',ho',hc⟩:=hr q e'.symm;rw[q2] at ho';cases ho';cases hc
theorem fT {w:World} {base sz g:Nat} {e t:TypeId} {n:Nat} {v:Value} {xs:List Value} {cs:Array Value} (h:w.ownsRow base e sz v n xs) (hb:au w g t cs) (ht:e≠t):v.ownBlock≠some g:=by
 intro e';rcases h.2 with ⟨rfl,_⟩|⟨q,cap,cur,rfl,q1,q2,_⟩
 ·cases e'
 ·have e2:q=g:=by injection e'
  subst e2;rw[show w.heap[q]? =_ from hb] at q2;cases q2;exact ht rfl
theorem De (w:World) (x:Nk):bI (w.alloc (.cells (Bz x) 197)) (some ⟨w.heap.size,0,none⟩) 1 1 [x]:=
 ⟨rfl,Nat.le_refl _,by omega,fun _=>⟨_,rfl,by simp,fun j r hr=>by
  cases j with
  |zero=>
   simp at hr;subst hr;have b:=au.new w 197 (Bz x);exact ⟨b.cell 0,b.cell 1,b.cell 2,b.cell 3⟩
  |succ j=>simp at hr⟩⟩
def Ua (t4:Nat) (sn:Nat) (L:List (Nat × Nat)) (w2:World) (k:Nat) (W:World):Prop:=
 (∃v,W.ownsRow w2.heap.size 197 4 v ((L.take k).map (eD sn)).length (mG ((L.take k).map (eD sn)))∧au W t4 131 #[v])∧Kept (fun j _=>j=t4∨w2.heap.size≤j) w2 W
theorem ML (t4 sn:Nat) (L:List (Nat × Nat)) (w2:World):OwnFrom w2.heap.size (Ua t4 sn L w2):=fun k X Y row hs hg hr=>by
 have hr':∀r,row=some r→∃o:Obj,X.heap[r]? =some o∧o.isCells=false:=fun r e=>(hr r e).2
 obtain ⟨⟨v,h1,h2⟩,h3⟩:=hs;exact ⟨⟨v,yK h1 hg hr',eu h2 hg hr'⟩,h3.trans ((Kept.refl _ X).grown hg (fun j e _ _=> .inr (hr j e).1))⟩
theorem tF (a b:List Nk):mG (a++b)=mG a++mG b:=by simp[mG]
set_option maxRecDepth 100000 in
set_option maxHeartbeats 2000000 in
theorem yL (gv b gs:Nat) (A:Option Addr) (m c:Nat) (l:List Fl) (sn:Nat) (w:World) (hm:m≤100000) (hg:au w gv 161 #[.pointer (some ⟨b,0,none⟩)]) (hbl:b<w.heap.size) (hbc:w.cell? ⟨b,0,none⟩=some (.slice A m c)) (hfs:lH w A m c l)
 (hs:w.cell? ⟨gs,0,none⟩=some (.int .i64 (sn:Nat))) (hgs:gs<w.heap.size):
 Calls Tryz.prog 163 #[.func (.func 201) #[] #[.pointer (some ⟨gv,0,none⟩)],.func (.func 165) #[] #[.pointer (some ⟨gs,0,none⟩)]] w fun e w'=>∃v,e= .returned v∧
  w'.ownsRow w.heap.size 197 4 v ((eO l 0 0).map (eD sn)).length (mG ((eO l 0 0).map (eD sn)))∧Below w.heap.size w w':=by
 obtain ⟨i0,hi,hz0,hz1,hz2⟩:=pW;have jQ:Tryz.prog.follows .mixedOrders=true:=by kernel_rfl
 obtain ⟨L,hL⟩:∃L,eO l 0 0=L:=⟨_,rfl⟩
 have VK:L.length≤100001:=by rw[←hL];have:=ng l 0 0;have:=hfs.len;omega
 obtain ⟨w2,hw2⟩:∃w2,(w.alloc (.cells #[.func (.func 165) #[] #[.pointer (some ⟨gs,0,none⟩)]] 253)).alloc (.cells #[.slice none 0 0] 131)=w2:=⟨_,rfl⟩
 have hB2:Below w.heap.size w w2:=by rw[←hw2];exact ((Below.refl _ w).alloc (Nat.le_refl _) _).alloc (by simp) _
 have hz:w2.heap.size=w.heap.size+2:=by rw[←hw2];simp
 have hb3:au w2 w.heap.size 253 #[.func (.func 165) #[] #[.pointer (some ⟨gs,0,none⟩)]]:=by rw[←hw2];exact (au.new w _ _).alloc _
 have hb4:au w2 (w.heap.size+1) 131 #[.slice none 0 0]:=by
  rw[←hw2];have:=au.new (w.alloc (.cells #[.func (.func 165) #[] #[.pointer (some ⟨gs,0,none⟩)]] 253)) 131 #[.slice none 0 0];simpa using this
 have hg2:=hg.below hB2 hg.lt;have aiD:=hg.lt;have HHB:∀W,Below w2.heap.size w2 W→∀X,Kept (fun j _=>j=w.heap.size+1∨w2.heap.size≤j) W X→X.cell? ⟨b,0,none⟩=some (.slice A m c)∧lH X A m c l:=fun W hW X hX=>by
  have h1:Below w.heap.size w X:=(hB2.trans (hW.mono (by omega))).trans (hX.below (B:=w.heap.size) (fun j _ hj=>by omega) (by have:=hB2.size;have:=hW.size;omega));exact ⟨(h1.cell (p:=⟨b,0,none⟩) hbl).trans hbc,hfs.below h1⟩
 have HSX:∀X,Kept (fun j _=>j=w.heap.size+1∨w2.heap.size≤j) w2 X→X.cell? ⟨gs,0,none⟩=some (.int .i64 (sn:Nat)):=fun X hX=>by
  have h1:Below w.heap.size w X:=hB2.trans (hX.below (B:=w.heap.size) (fun j _ hj=>by omega) (by have:=hB2.size;omega));exact (h1.cell (p:=⟨gs,0,none⟩) hgs).trans hs
 have XR:=Lib.hid HHB;have acm:=Lib.hid HSX;have HB2:=Lib.hid hB2;have HZ:=Lib.hid hz;have acn:=Lib.hid hb3;have aco:=Lib.hid hb4;have VR:=Lib.hid hg2;have HLL:=Lib.hid VK;have HL:=Lib.hid hL;have acp:=Lib.hid hgs;clear HHB HSX hB2 hz hb3 hb4 hg hfs hs hg2 VK hL hbc hgs;refine (callsIn_wide (n:=5)).1 ?_;refine callsIn_of_wp_marks Tryz.func163 rfl trivial ?_ rfl;simp only[Tryz.ntmps163,List.size_toArray,List.length_cons,List.length_nil,Nat.reduceAdd,Nat.reduceSub,Array.replicate_succ,Array.replicate_zero,List.push_toArray,List.append_toArray,List.nil_append,List.cons_append];refine wpIn_wide.2 ?_;go_wp2_with fail;clear hw2;apply wpIn_wide (n:=5).1;apply kZ (gf:=201) (lb:= #[.pointer (some ⟨gv,0,none⟩)]) rfl (by omega) rfl trivial (enters_of Tryz.func201 (by kernel_rfl) rfl)
  (J9 _ (by omega) gv b A m c l hm (by exact (XR.out w2 (Below.refl _ _) w2 (Kept.refl _ _)).2.len) (fun j _=>j=w.heap.size+1∨w2.heap.size≤j) w2 VR.out (by have:=HZ.out;omega) XR.out (by have:=HZ.out;omega))
  Kept.trans (fun W l' o o' hl ho hc _=>(Kept.refl _ W).grown (grownBy_putObj' W l' o') (fun j e _ _=>by cases e;exact .inr hl)) (Below.refl _ _) (fun _=>rfl)
  (Ua (w.heap.size+1) sn L w2) (ML _ _ _ _) ⟨⟨_,by simpa[mG] using World.ownsRow_nil _ _ _ _,aco.out⟩,Kept.refl _ _⟩
 case hassign=>
  intro l' k W K hK;simp only[wV]
  gi_wp2
  exact hK
 case hbody=>
  intro l' k W hk hI;rw[HL.out] at hk;obtain ⟨⟨v,hrow,hb4⟩,hkp⟩:=hI;obtain ⟨x,hx⟩:∃x,L[k]? =some x:=⟨_,List.getElem?_eq_getElem hk⟩
  have hxv:(eO l 0 0)[k]?.getD (0,0)=x:=by rw[HL.out,hx];rfl
  rw[hxv];have htk:(L.take (k+1)).map (eD sn)=(L.take k).map (eD sn)++ [eD sn x]:=by
   rw[List.take_add_one,hx];simp
  have hkl:((L.take k).map (eD sn)).length≤100001:=by rw[List.length_map,List.length_take];have:=HLL.out;omega
  have hWz:=hkp.size;have hb3:au W w.heap.size 253 #[.func (.func 165) #[] #[.pointer (some ⟨gs,0,none⟩)]]:=acn.out.kept hkp (by have:=HZ.out;omega);have HGS:=Lib.hid (show W.drew.cell? ⟨gs,0,none⟩=some (.int .i64 (sn:Nat)) from acm.out W hkp);have HGL:=Lib.hid (show gs<W.drew.heap.size by have:=acp.out;have:=HZ.out;simp;omega);have Qc:=Lib.hid (fun (w5:World) (hb5:Below W.drew.heap.size W.drew w5)=>(own_below hrow.drew' hb5 (Nat.le_refl _)).alloc (.cells (Bz ⟨sn,true,(x.1:Nat),(x.2:Nat)⟩) 197));have Ak:=Lib.hid hb4;have HB3:=Lib.hid hb3;have HKL:=Lib.hid hkl;have HW2:=Lib.hid hWz;have VS:=Lib.hid hkp;have Ke:=Lib.hid htk;have s0:W.drew.cell? ⟨w.heap.size+1,0,none⟩=some v:=hb4.drew.cell 0;have s1:W.drew.cell? ⟨w.heap.size,0,none⟩=some (.func (.func 165) #[] #[.pointer (some ⟨gs,0,none⟩)]):=hb3.drew.cell 0;clear hb4 hb3 hkl hWz hkp htk hrow hx hxv hk
  gi_wp2
  refine rE (S:=fun w'=>w'.cell? ⟨w.heap.size+1,0,none⟩=some v∧w'.cell? ⟨w.heap.size,0,none⟩=some (.func (.func 165) #[] #[.pointer (some ⟨gs,0,none⟩)])) (L:= [7]) jQ (by kernel_rfl) ?hout ?aiH
  case hout=>
   rintro ⟨a',w',hh⟩;exact hh
  have hHeld:=(show (fun w':World=>w'.cell? ⟨w.heap.size+1,0,none⟩=some v∧w'.cell? ⟨w.heap.size,0,none⟩=some (.func (.func 165) #[] #[.pointer (some ⟨gs,0,none⟩)])) W.drew from ⟨s0,s1⟩);refine iK [6,7] 0 ?_ rfl (Or.inl ⟨by rfl,?_⟩) hHeld ?_;rotate_left
  ·intro w' hSw;obtain ⟨hS1,hS2⟩:=hSw;go_simp
   try with_reducible rfl
  try simp only[Act.put,aB,aC,ax,ay,aA]
  refine iK [4,5,6,7] 1 ?_ rfl (Or.inl ⟨by rfl,?_⟩) hHeld ?_;rotate_left
  ·intro w' hSw;obtain ⟨hS1,hS2⟩:=hSw;go_simp
   try with_reducible rfl
  try simp only[Act.put,aB,aC,aD,ax,ay,aA]
  refine aT 2 ?_ rfl (Or.inl ⟨by rfl,?_⟩) hHeld ?_;rotate_left
  ·intro w' hSw;go_simp
   try with_reducible rfl
  try simp only[Act.put,aB,aC,aD,ax,ay,aA]
  refine aT 3 ?_ rfl (Or.inl ⟨by rfl,?_⟩) hHeld ?_;rotate_left
  ·intro w' hSw;go_simp
   try with_reducible rfl
  try simp only[Act.put,aB,aC,aD,ax,ay,aA]
  refine aQ (i:=4) rfl (by kernel_rfl) (by rfl) (fun K hK=> ?_);go_simp;refine (Ho sn gs x W.drew HGS.out HGL.out).mono ?_;rintro e5 w5 ⟨rfl,hb5⟩;have q0:=(Ak.out.drew.below hb5 Ak.out.drew.lt).cell 0;have q1:=(HB3.out.drew.below hb5 HB3.out.drew.lt).cell 0;simp at q0 q1;refine hK _ _ (show (fun w':World=>w'.cell? ⟨w.heap.size+1,0,none⟩=some v∧w'.cell? ⟨w.heap.size,0,none⟩=some (.func (.func 165) #[] #[.pointer (some ⟨gs,0,none⟩)])) _ from ⟨q0,q1⟩) ?_;clear hK K hHeld;have hHeld:=(show (fun w':World=>w'.cell? ⟨w.heap.size+1,0,none⟩=some v∧w'.cell? ⟨w.heap.size,0,none⟩=some (.func (.func 165) #[] #[.pointer (some ⟨gs,0,none⟩)])) _ from ⟨q0,q1⟩)
  try simp only[Act.put,aB,aC,aD,ax,ay,aA]
  refine aQ (i:=5) rfl (by kernel_rfl) (by rfl) (fun K hK=> ?_);go_simp;have q0:=((Ak.out.drew.below hb5 Ak.out.drew.lt).alloc (.cells (Bz ⟨sn,true,(x.1:Nat),(x.2:Nat)⟩) 197)).cell 0;have q1:=((HB3.out.drew.below hb5 HB3.out.drew.lt).alloc (.cells (Bz ⟨sn,true,(x.1:Nat),(x.2:Nat)⟩) 197)).cell 0;simp at q0 q1;refine hK _ _ (show (fun w':World=>w'.cell? ⟨w.heap.size+1,0,none⟩=some v∧w'.cell? ⟨w.heap.size,0,none⟩=some (.func (.func 165) #[] #[.pointer (some ⟨gs,0,none⟩)])) _ from ⟨q0,q1⟩) ?_;clear hK K hHeld;have hHeld:=(show (fun w':World=>w'.cell? ⟨w.heap.size+1,0,none⟩=some v∧w'.cell? ⟨w.heap.size,0,none⟩=some (.func (.func 165) #[] #[.pointer (some ⟨gs,0,none⟩)])) _ from ⟨q0,q1⟩)
  try simp only[Act.put,ax,ay,aA]
  refine aQ (i:=6) rfl (by kernel_rfl) (by rfl) (fun K hK=> ?_);refine tC _ _ _ 131 rfl w2.heap.size 197 i0 (.agg #[.int .i64 0,.bool false,.int .i64 0,.int .i64 0]) 32 rH hi hz0 hz1 hz2 rfl v ((L.take k).map (eD sn)).length (mG ((L.take k).map (eD sn))) (by rfl) (Qc.out w5 hb5) (some ⟨w5.heap.size,0,none⟩) 1 1 [eD sn x] (by rfl) (De w5 (eD sn x)) (by have:=HKL.out;unfold maxLen;omega) (by have:=HKL.out;omega) (by have:=HW2.out;have:=hb5.size;simp at this ⊢;omega) ?_;intro v7 w7 mY gM;have Df:w7.ownsRow w2.heap.size 197 4 v7 ((L.take k).map (eD sn)++ [eD sn x]).length (mG ((L.take k).map (eD sn)++ [eD sn x])):=by rw[tF,List.length_append];exact mY
  obtain ⟨A7,c7,rfl,_⟩:=bI.cK Df;have q0:=(Ak.out.drew.below hb5 Ak.out.drew.lt).alloc (.cells (Bz ⟨sn,true,(x.1:Nat),(x.2:Nat)⟩) 197);have q1:=(HB3.out.drew.below hb5 HB3.out.drew.lt).alloc (.cells (Bz ⟨sn,true,(x.1:Nat),(x.2:Nat)⟩) 197);have b4:=q0.grown gM (fun e=>fT (Qc.out w5 hb5) q0 (by decide) e.symm);have b3:=q1.grown gM (fun e=>fT (Qc.out w5 hb5) q1 (by decide) e.symm);have q0:=b4.cell 0;have q1:=b3.cell 0;have q2:=b4.frozen 0;simp at q0 q1;refine hK _ _ (show (fun w':World=>w'.cell? ⟨w.heap.size+1,0,none⟩=some v∧w'.cell? ⟨w.heap.size,0,none⟩=some (.func (.func 165) #[] #[.pointer (some ⟨gs,0,none⟩)])) _ from ⟨q0,q1⟩) ?_;clear hK K hHeld;have hHeld:=(show (fun w':World=>w'.cell? ⟨w.heap.size+1,0,none⟩=some v∧w'.cell? ⟨w.heap.size,0,none⟩=some (.func (.func 165) #[] #[.pointer (some ⟨gs,0,none⟩)])) _ from ⟨q0,q1⟩);simp only[Act.put,List.getElem_toArray,List.getElem_cons_zero,List.getElem_cons_succ,List.setIfInBounds_toArray,List.set_cons_zero,List.set_cons_succ];refine bH (i:=7) rfl (by kernel_rfl) (by kernel_rfl) (by rfl) (fun K hK=> ?_);go_simp;refine hK _ _ ?_;clear hK K
  try simp only[Act.put,aB,aC,aD,ax,ay,aA]
  refine aX (by kernel_rfl) ?_ _;have hrw:=Qc.out w5 hb5;have hvb:∀j,v.ownBlock=some j→w2.heap.size≤j:=fun j e=>(hrw.lt j e).1
  have XT:∀j,(Value.slice A7 ((L.take k).map (eD sn)++ [eD sn x]).length c7).ownBlock=some j→w2.heap.size≤j:=fun j e=>(Df.lt j e).1
  have hq:∀j o,v.ownBlock=some j→(w5.alloc (.cells (Bz ⟨sn,true,(x.1:Nat),(x.2:Nat)⟩) 197)).heap[j]? =some o→o.isCells=true:=fun j o e ho=>by
   rcases hrw.2 with ⟨rfl,_⟩|⟨q,cap,cur,rfl,q1,q2,_⟩
   ·cases e
   ·have e2:q=j:=by injection e
    subst e2;rw[q2] at ho;cases ho;rfl
  have MN:KeepsFrom w2.heap.size W (w7.setCell ⟨w.heap.size+1,0,none⟩ (.slice A7 ((L.take k).map (eD sn)++ [eD sn x]).length c7)):=by
   refine ((KeepsOthers.drew W).from _).trans (KeepsFrom.trans (Y:=w5) ⟨hb5.size,fun k o _ hk _=>(hb5.block k (lt_of_heap hk)).trans hk⟩ ?_);exact ((KeepsOthers.alloc w5 _).from _).trans (((KeepsOthers.of_grownBy gM hq).from _).trans ((KeepsOthers.setCell _ _ _).from _))
  have Je:Kept (fun j _=>j=w.heap.size+1∨w2.heap.size≤j) W (w7.setCell ⟨w.heap.size+1,0,none⟩ (.slice A7 ((L.take k).map (eD sn)++ [eD sn x]).length c7)):=
   (((((Kept.refl _ W).drew.trans (Kept.dA hb5)).alloc _).grown gM (fun j hj _ _=> .inr (hvb j hj)))).setCell (p:=⟨w.heap.size+1,0,none⟩) (fun _ _=> .inl rfl) _
  have hI9:Ua (w.heap.size+1) sn L w2 (k+1) (w7.setCell ⟨w.heap.size+1,0,none⟩ (.slice A7 ((L.take k).map (eD sn)++ [eD sn x]).length c7)):=by
   refine ⟨⟨.slice A7 ((L.take k).map (eD sn)++ [eD sn x]).length c7,?_,by simpa using b4.av 0 (.slice A7 ((L.take k).map (eD sn)++ [eD sn x]).length c7)⟩,VS.out.trans Je⟩;rw[Ke.out];refine ownsRow_setCell_other Df ?_ _;intro e;have h8:w2.heap.size≤w.heap.size+1:=XT _ e;have h9:=HZ.out;omega
  have e7:((L.take k).map (eD sn)++ [eD sn x]).length=min k L.length+1:=by simp
  rw[e7] at MN Je hI9;have HF:=Lib.hid MN;have H9:=Lib.hid Je;have HI9:=Lib.hid hI9;clear MN Je hI9 hvb XT hq mY Df gM hrw b4 b3 hb5;exact ⟨HF.out,H9.out,HI9.out⟩
 case hdone=>
  intro D W hD hI EJ;obtain ⟨⟨v,hrow,hbk⟩,hkp⟩:=hI;rw[HL.out,List.take_of_length_le (Nat.le_refl _)] at hrow;obtain ⟨Av,cv,rfl,_,_⟩:=bI.cK (l:=L.map (eD sn)) hrow;have hl:(L.map (eD sn)).length=L.length:=by simp
  have hzz:=HZ.out;have hlw:w.heap.size+1<W.heap.size:=hbk.lt;have hDn:D≠w.heap.size+1:=by omega
  have l0:=hbk.cell 0;have lf:=hbk.frozen 0;simp at l0;have hD1:(W.setCell ⟨w.heap.size+1,0,none⟩ (.slice Av (L.map (eD sn)).length cv)).heap[D]? =some (.deferred (some [])):=(Below.heap_setCell W ⟨w.heap.size+1,0,none⟩ (.slice Av (L.map (eD sn)).length cv) D hDn).trans EJ;have hv1:(W.setCell ⟨w.heap.size+1,0,none⟩ (.slice Av (L.map (eD sn)).length cv)).ownsRow w2.heap.size 197 4 (.slice Av (L.map (eD sn)).length cv) (L.map (eD sn)).length (mG (L.map (eD sn))):=ownsRow_setCell_other hrow (fun e=>by have:=(hrow.lt _ e).1;have e3:(⟨w.heap.size+1,0,none⟩:Addr).block=w.heap.size+1:=rfl;omega) (.slice Av (L.map (eD sn)).length cv);have hb1:au (W.setCell ⟨w.heap.size+1,0,none⟩ (.slice Av (L.map (eD sn)).length cv)) (w.heap.size+1) 131 #[.slice Av (L.map (eD sn)).length cv]:=by simpa using hbk.av 0 (.slice Av (L.map (eD sn)).length cv)
  have hr:∀r,some D=some r→∃o:Obj,(W.setCell ⟨w.heap.size+1,0,none⟩ (.slice Av (L.map (eD sn)).length cv)).heap[r]? =some o∧o.isCells=false:=fun r e=>by cases e;exact ⟨_,hD1,rfl⟩
  have hb2:=eu hb1 (grownBy_putObj' _ D (.deferred none)) hr;have hv2:=yK hv1 (grownBy_putObj' _ D (.deferred none)) hr;have XU:Below w.heap.size w ((W.setCell ⟨w.heap.size+1,0,none⟩ (.slice Av (L.map (eD sn)).length cv)).putObj D (.deferred none)):=by
   have e1:=HB2.out.trans (hkp.below (B:=w.heap.size) (fun j _ hj=>by omega) (by omega));exact (e1.setCell (p:=⟨w.heap.size+1,0,none⟩) (by simp) (.slice Av (L.map (eD sn)).length cv)).grown (grownBy_putObj' _ D (.deferred none)) (by have:=e1.size;simp[World.setCell];omega) (fun j hj=>by cases hj;omega)
  have MO:=Lib.hid (aR (base':=w.heap.size) hv2 (by omega));have Ep:=Lib.hid XU;have HD1:=Lib.hid hD1;have H2:=Lib.hid hb2;rw[hl] at HD1 Ep MO H2;clear hrow hbk hkp hv1 hb1 hb2 hv2 XU hD1 EJ hr
  gi_wp2
  go_wp2;have c2:=H2.out.cell 0;refine ⟨by simp,.inl ⟨_,_,rfl,run_takeDeferred HD1.out,?_⟩⟩;refine ⟨.slice Av L.length cv,by simp[results,Tryz.results163,go_sem,c2],.slice Av L.length cv,rfl,?_,Ep.out⟩;rw[HL.out,hl];exact MO.out
end
end Go.Proofs.YtbhiklnljiehiaaGreat
