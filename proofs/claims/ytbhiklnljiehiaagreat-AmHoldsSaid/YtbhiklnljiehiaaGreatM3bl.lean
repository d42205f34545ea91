/- A transmitter whose memory lies from a b. -/
import Derived.Test.YtbhiklnljiehiaaGreatM3bk
namespace Go.Proofs.YtbhiklnljiehiaaGreat
open RowKit Shelf Tryz
attribute [local go_sem] Oper.semAt_some
structure fu (c:Cf) (st:Sd) (K:Nat):Prop where
 cf:J9 c
 inv:bY st
 bnd:lK st K
def Gc (w:World) (F:Nat->Prop) (g:Nat) (c:Cf) (st:Sd):Prop:=∃D vq vs vo os,gu w D F g c st vq vs vo os
section
variable {w w':World} {D F:Nat->Prop} {g:Nat} {c:Cf} {st:Sd} {vq vo:Value} {vs os:List Value} {K:Nat}
theorem Gc.below (h:Gc w F g c st) (hb:Below w w w'):Gc w' F g c st:=by
 obtain ⟨D,vq,vs,vo,os,h⟩:=h;exact ⟨D,vq,vs,vo,os,h.below hb⟩
theorem Gc.lt (h:Gc w F g c st):∀k,F k->k<w.heap.size:=by
 obtain ⟨D,vq,vs,vo,os,h⟩:=h;exact h.lt
theorem Gc.stay (h:Gc w F g c st) (hk:∀k,F k->w'.heap[k]? =w.heap[k]?):Gc w' F g c st:=by
 obtain ⟨D,vq,vs,vo,os,h⟩:=h;exact ⟨D,vq,vs,vo,os,h.stay hk⟩
theorem SE (h:Gc w F g c st) (ho:fu c st K):Calls prog 61 #[.pointer (some g)] w fun e w'=>e= .returned (.agg (Xk st))/\Below w w w':=by
 obtain ⟨D,vq,vs,vo,os,h⟩:=h;exact Px h ho.cf.timer.1 ho.inv.f (by have:=ho.inv.w;omega)
theorem fu.iY (ho:fu c st K) (x:List UInt8):fu c (bV c st x).1 K:=by
 refine ⟨ho.cf,ho.inv.bV c x,?_⟩;unfold bV;split
 ·exact ho.bnd
 ·split
  ·exact ho.bnd
  ·rename_i hx;split
   ·exact ho.bnd
   ·rename_i hc;have:=ho.cf.cap;exact ho.bnd.iY (by omega) (by omega) (by omega)
theorem fu.tick (ho:fu c st K) (now:Int) (hn:now<=9223372036854775807):fu c (eY c st now).1 (K+3):=by
 refine ⟨ho.cf,ho.inv.eY c now,?_⟩;unfold eY;split
 ·exact ho.bnd.mono (by omega)
 ·exact (ho.bnd.tick c hn).mono (by omega)
theorem fu.status (ho:fu c st K) (now aA:Int) (fI:List Nk) (hn:now<=9223372036854775807):fu c (bP c st now aA fI).1 (K+3):=by
 refine ⟨ho.cf,ho.inv.bP c now aA fI,?_⟩;unfold bP;split
 ·exact ho.bnd.mono (by omega)
 ·exact ho.bnd.status c hn aA fI
theorem fu.ko (ho:fu c st K) (now n:Int) (hn:now<=9223372036854775807):fu c (aZ c st now n).1 (K+3):=by
 refine ⟨ho.cf,ho.inv.aZ c now n,?_⟩;unfold aZ;split
 ·exact ho.bnd.mono (by omega)
 ·split
  ·exact ho.bnd.mono (by omega)
  ·exact (ho.bnd.ko ho.inv c hn n).mono (by omega)
end
section
variable {w:World} {F:Nat->Prop} {g:Nat} {c:Cf} {st:Sd} {K:Nat}
end
theorem M9.take {p:Sp} (h:M9 p) (x:jY):M9 (eF p x):=by
 intro k hk;unfold eF at hk ⊢;dsimp only at hk ⊢;rw[(pJ _ _ _).1];unfold je;simp only[l8,LQ];split at hk
 ·cases hk;omega
 ·have:=h k hk;omega
theorem zx.get {st:Rc} (h:zx st) (k:Nat):M9 (d9 st k):=by
 unfold d9;cases hm:st.m k with
 |none=>intro j hj;cases hj
 |some p=>exact h k p hm
theorem zx.Wl {st st':Rc} (h:zx st) (hm:st'.m=st.m):zx st':=fun k p hp=>h k p (by rw[<-hm];exact hp)
theorem zx.Zr {st:Rc} (h:zx st) (x:jY):zx (iD st x (d9 st x.sn)):=by
 intro k p hp;have hp2:fK st.m x.sn (some (eF (d9 st x.sn) x)) k=some p:=hp;unfold fK at hp2;split at hp2
 ·cases hp2;exact (h.get x.sn).take x
 ·exact h k p hp2
theorem zx.one {st:Rc} (h:zx st) (p:Sp):zx (Ah st p):=by
 intro k q hq;have hq2:fK st.m st.next none k=some q:=hq
 unfold fK at hq2;split at hq2
 ·cases hq2
 ·exact h k q hq2
theorem zx.Am:∀(f:Nat) {st:Rc},zx st->zx (bK f st).1
 |0,st,h=>h
 |f+1,st,h=>by
  unfold bK;split
  ·exact h
  ·split
   ·exact zx.Am f (h.one _)
   ·exact h
theorem zx.recv {st:Rc} (h:zx st) (c:Cf) (now:Int) (bs:List UInt8):zx (fZ c st now bs).1:=by
 have hg:zx (aM c st now):=h.Wl (Bd c st now);unfold fZ;split
 ·exact hg
 ·rename_i x _;unfold iM;split
  ·exact hg.Wl rfl
  ·split
   ·exact hg
   ·dsimp only;refine zx.Wl (zx.Am 1024 (hg.Zr x)) ?_;unfold rV jO;dsimp only;split<;>split<;>rfl
theorem Wm (c:Cf) (st:Rc) (now n:Int):(dG c st now n).1.m=st.m:=by
 unfold dG;split
 ·rfl
 ·split
  ·exact Bd c st now
  ·exact Bd c st now
theorem zx.ko {st:Rc} (h:zx st) (c:Cf) (now n:Int):zx (dG c st now n).1:=h.Wl (Wm c st now n)
theorem fM.ko {st:Rc} (ho:fM st) (c:Cf) {now:Int} (hn:now<=9223372036854775807) (n:Int):fM (dG c st now n).1:=by
 have hg:=ho.goes c hn;unfold dG;split
 ·exact ho
 ·split
  ·exact hg
  ·exact ⟨hg.n1,hg.n2,hg.n3,hg.n4,hg.m,hg.op,hg.t1,hg.t2⟩
theorem NR:fM gL/\zx gL:=
 ⟨⟨by decide,by decide,by decide,by decide,fun k p h=>(by cases h),by decide,by decide,by decide⟩,fun k p h=>(by cases h)⟩
section
variable {W W' w w':World} {base g n:Nat} {c:Cf} {st:Rc}
end
end Go.Proofs.YtbhiklnljiehiaaGreat
