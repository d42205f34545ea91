/- A transmitter whose memory lies from a b. -/
import Derived.Test.YtbhiklnljiehiaaGreatM1bg
import Derived.Test.YtbhiklnljiehiaaGreatM1bl
namespace Go.Proofs.YtbhiklnljiehiaaGreat
section
open Go.RowKit Go.Shelf
attribute [local go_sem] Oper.semAt_some
structure fq (c:Cf) (st:Sd) (K:Nat):Prop where
 cf:Pf c
 inv:dz st
 bnd:jW st K
def BS (w:World) (F:Nat→Prop) (g:Nat) (c:Cf) (st:Sd):Prop:=∃D vq vs vo os,eZ w D F g c st vq vs vo os
section
variable {w w':World} {D F:Nat→Prop} {g:Nat} {c:Cf} {st:Sd} {vq vo:Value} {vs os:List Value} {K:Nat}
theorem BS.below (h:BS w F g c st) (hb:Below w.heap.size w w'):BS w' F g c st:=by
 obtain ⟨D,vq,vs,vo,os,h⟩:=h;exact ⟨D,vq,vs,vo,os,h.below hb⟩
theorem BS.lt (h:BS w F g c st):∀k,F k→k<w.heap.size:=by
 obtain ⟨D,vq,vs,vo,os,h⟩:=h;exact h.lt
theorem BS.stay (h:BS w F g c st) (hk:∀k,F k→w'.heap[k]? =w.heap[k]?):BS w' F g c st:=by
 obtain ⟨D,vq,vs,vo,os,h⟩:=h;exact ⟨D,vq,vs,vo,os,h.stay hk⟩
theorem Nj (h:BS w F g c st) (ho:fq c st K):Calls Tryz.prog 61 #[.pointer (some ⟨g,0,none⟩)] w fun e w'=>e= .returned (.agg (R4 st))∧Below w.heap.size w w':=by
 obtain ⟨D,vq,vs,vo,os,h⟩:=h;exact Km h ho.cf.timer.1 ho.inv.f (by have:=ho.inv.w;omega)
theorem fq.iK (ho:fq c st K) (x:List UInt8):fq c (aW c st x).1 K:=by
 refine ⟨ho.cf,ho.inv.aW c x,?_⟩;unfold aW;split
 ·exact ho.bnd
 ·split
  ·exact ho.bnd
  ·rename_i hx;split
   ·exact ho.bnd
   ·rename_i hc;have:=ho.cf.cap;exact ho.bnd.iK (by omega) (by omega) (by omega)
theorem fq.tick (ho:fq c st K) (now:Int) (hn:now≤9223372036854775807):fq c (fM c st now).1 (K+3):=by
 refine ⟨ho.cf,ho.inv.fM c now,?_⟩;unfold fM;split
 ·exact ho.bnd.mono (by omega)
 ·exact (ho.bnd.tick c hn).mono (by omega)
theorem fq.status (ho:fq c st K) (now aJ:Int) (dZ:List Nk) (hn:now≤9223372036854775807):fq c (dL c st now aJ dZ).1 (K+3):=by
 refine ⟨ho.cf,ho.inv.dL c now aJ dZ,?_⟩;unfold dL;split
 ·exact ho.bnd.mono (by omega)
 ·exact ho.bnd.status c hn aJ dZ
theorem fq.kI (ho:fq c st K) (now n:Int) (hn:now≤9223372036854775807):fq c (bV c st now n).1 (K+3):=by
 refine ⟨ho.cf,ho.inv.bV c now n,?_⟩;unfold bV;split
 ·exact ho.bnd.mono (by omega)
 ·split
  ·exact ho.bnd.mono (by omega)
  ·exact (ho.bnd.kI ho.inv c hn n).mono (by omega)
end
end
section
open Go.RowKit Go.Shelf
attribute [local go_sem] Oper.semAt_some
section
variable {w:World} {F:Nat→Prop} {g:Nat} {c:Cf} {st:Sd} {K:Nat}
end
end
section
open Go.RowKit Go.Shelf
attribute [local go_sem] Oper.semAt_some
theorem IZ.take {p:Sp} (h:IZ p) (x:jv):IZ (ed p x):=by
 intro k hk;unfold ed at hk ⊢;dsimp only at hk ⊢;rw[(nT _ _ _).1];unfold iP;simp only[List.length_append,List.length_replicate];split at hk
 ·cases hk;omega
 ·have:=h k hk;omega
theorem vk.get {st:Rc} (h:vk st) (k:Nat):IZ (gF st k):=by
 unfold gF;cases hm:st.m k with
 |none=>intro j hj;cases hj
 |some p=>exact h k p hm
theorem vk.QW {st st':Rc} (h:vk st) (hm:st'.m=st.m):vk st':=fun k p hp=>h k p (by rw[←hm];exact hp)
theorem vk.UD {st:Rc} (h:vk st) (x:jv):vk (lK st x (gF st x.sn)):=by
 intro k p hp;have hp2:fJ st.m x.sn (some (ed (gF st x.sn) x)) k=some p:=hp;unfold fJ at hp2;split at hp2
 ·cases hp2;exact (h.get x.sn).take x
 ·exact h k p hp2
theorem vk.one {st:Rc} (h:vk st) (p:Sp):vk (zl st p):=by
 intro k q hq;have hq2:fJ st.m st.next none k=some q:=hq
 unfold fJ at hq2;split at hq2
 ·cases hq2
 ·exact h k q hq2
theorem vk.wS:∀(f:Nat) {st:Rc},vk st→vk (cK f st).1
 |0,st,h=>h
 |f+1,st,h=>by
  unfold cK;split
  ·exact h
  ·split
   ·exact vk.wS f (h.one _)
   ·exact h
theorem vk.recv {st:Rc} (h:vk st) (c:Cf) (now:Int) (bs:List UInt8):vk (fK c st now bs).1:=by
 have hg:vk (cZ c st now):=h.QW (wP c st now);unfold fK;split
 ·exact hg
 ·rename_i x _;unfold vT;split
  ·exact hg.QW rfl
  ·split
   ·exact hg
   ·dsimp only;refine vk.QW (vk.wS 1024 (hg.UD x)) ?_;unfold Be qj;dsimp only;split<;>split<;>rfl
theorem QX (c:Cf) (st:Rc) (now n:Int):(dS c st now n).1.m=st.m:=by
 unfold dS;split
 ·rfl
 ·split
  ·exact wP c st now
  ·exact wP c st now
theorem vk.kI {st:Rc} (h:vk st) (c:Cf) (now n:Int):vk (dS c st now n).1:=h.QW (QX c st now n)
theorem eF.kI {st:Rc} (ho:eF st) (c:Cf) {now:Int} (hn:now≤9223372036854775807) (n:Int):eF (dS c st now n).1:=by
 have hg:=ho.goes c hn;unfold dS;split
 ·exact ho
 ·split
  ·exact hg
  ·exact ⟨hg.n1,hg.n2,hg.n3,hg.n4,hg.m,hg.op,hg.t1,hg.t2⟩
theorem Jb:eF gq∧vk gq:=
 ⟨⟨by decide,by decide,by decide,by decide,fun k p h=>(by cases h),by decide,by decide,by decide⟩,fun k p h=>(by cases h)⟩
section
variable {W W' w w':World} {base g n:Nat} {c:Cf} {st:Rc}
end
end
end Go.Proofs.YtbhiklnljiehiaaGreat
