/- law36: a transmitter whose calls leave a. -/
import Derived.Test.YtbhiklnljiehiaaGreatM2bn
namespace Go.Proofs.YtbhiklnljiehiaaGreat
section
open Go.RowKit Go.Shelf
section
variable {w w' W W':World} {D F D' F' N N':Nat→Prop} {g K K':Nat} {c:Cf} {st st':Sd} {vq vo:Value} {vs os:List Value}
def minD (g:Nat) (vq vo:Value) (os:List Value) (k:Nat):Prop:=k=g∨aT vq=some k∨aT vo=some k∨∃i:Nat,os[i]? =some (Value.pointer (some ⟨k,0,none⟩))
theorem dV.min_le (h:dV w D F g c st vq vs vo os) {k:Nat} (hk:minD g vq vo os k):D k:=by
 rcases hk with rfl|hk|hk|⟨i,hi⟩
 ·exact h.gd
 ·exact h.qd k hk
 ·exact h.od k hk
 ·have hl:i<st.out.length:=by
   have h1:=(List.getElem?_eq_some_iff.1 hi).1;have h2:=h.rX.1;omega
  obtain ⟨p,Ap,cp,vp,Ar,cr,e,ho⟩:=h.oe i _ (List.getElem?_eq_getElem hl);rw[hi] at e;cases e;exact ho.d
theorem dV.min (h:dV w D F g c st vq vs vo os):dV w (minD g vq vo os) F g c st vq vs vo os:=
 {blk:=h.blk,gd:= .inl rfl,sub:=fun k hk=>h.sub k (h.min_le hk),lt:=h.lt,qr:=h.qr,qd:=fun k hk=> .inr (.inl hk)
  qe:=fun i p hi=>by
   obtain ⟨A,cc,e,hs,hf⟩:=h.qe i p hi;exact ⟨A,cc,e,hs,fun ad ha=>⟨(hf ad ha).1,fun hm=>(hf ad ha).2 (h.min_le hm)⟩⟩
  rX:=h.rX,od:=fun k hk=> .inr (.inr (.inl hk))
  oe:=fun i x hi=>by
   obtain ⟨p,Ap,cp,vp,Ar,cr,e,ho⟩:=h.oe i x hi;refine ⟨p,Ap,cp,vp,Ar,cr,e,⟨ho.blk,.inr (.inr (.inr ⟨i,e⟩)),ho.f,ho.ps,fun ad ha=>⟨(ho.pf ad ha).1,fun hm=>(ho.pf ad ha).2 (h.min_le hm)⟩,fun j v hj ad ha=>⟨(ho.pe j v hj ad ha).1,fun hm=>(ho.pe j v hj ad ha).2 (h.min_le hm)⟩,ho.rs,fun ad ha=>⟨(ho.rf ad ha).1,fun hm=>(ho.rf ad ha).2 (h.min_le hm)⟩⟩⟩
  inj:=h.inj}
theorem dV.min_u8 (h:dV w D F g c st vq vs vo os) {k:Nat} (hk:minD g vq vo os k) (cs:Array Value) (fr:Nat × Nat):w.heap[k]? ≠some (.cells cs 5 fr):=by
 intro hc;rcases hk with rfl|hk|hk|⟨i,hi⟩
 ·have h1:w.heap[k]? =some (.cells _ 143 (0,0)):=h.blk;rw[hc] at h1;injection h1 with h1
  injection h1 with _ h2 _
  exact absurd h2 (by decide)
 ·obtain ⟨cur,h1,_⟩:=h.qr.row hk;rw[hc] at h1;injection h1 with h1
  injection h1 with _ h2 _
  exact absurd h2 (by decide)
 ·obtain ⟨cur,h1,_⟩:=h.rX.row hk;rw[hc] at h1;injection h1 with h1
  injection h1 with _ h2 _
  exact absurd h2 (by decide)
 ·have hl:i<st.out.length:=by
   have h1:=(List.getElem?_eq_some_iff.1 hi).1;have h2:=h.rX.1;omega
  obtain ⟨p,Ap,cp,vp,Ar,cr,e,ho⟩:=h.oe i _ (List.getElem?_eq_getElem hl);rw[hi] at e;cases e;have h1:w.heap[k]? =some (.cells _ 152 (0,0)):=ho.blk;rw[hc] at h1;injection h1 with h1
  injection h1 with _ h2 _
  exact absurd h2 (by decide)
structure TD (w:World) (N:Nat→Prop) (c:Cf) (g:Nat) (st:Sd) (K:Nat) (W:World):Prop where
 am:∃D F vq vs vo os,dV W D F g c st vq vs vo os∧(∀k,D k→w.heap.size≤k∧∀cs fr,W.heap[k]? ≠some (.cells cs 5 fr))∧∀k,N k→¬F k
 ok:dZ c st K
 xO:Below w.heap.size w W
 nlt:∀k,N k→k<W.heap.size
theorem TD.more (h:TD w N c g st K W) (hb:Below W.heap.size W W'):TD w N c g st K W':=by
 obtain ⟨D,F,vq,vs,vo,os,h1,h2,h3⟩:=h.am;refine ⟨⟨D,F,vq,vs,vo,os,h1.below hb,fun k hk=>⟨(h2 k hk).1,fun cs fr hc=> ?_⟩,h3⟩,h.ok,h.xO.trans (hb.mono h.xO.size),fun k hk=>Nat.lt_of_lt_of_le (h.nlt k hk) hb.size⟩;rw[hb.block k (h1.lt k (h1.sub k hk))] at hc;exact (h2 k hk).2 cs fr hc
theorem TD.add (h:TD w N c g st K W) (hb:Below W.heap.size W W') (hn:∀k,N' k→N k∨(W.heap.size≤k∧k<W'.heap.size)):TD w N' c g st K W':=by
 have hm:=h.more hb;obtain ⟨D,F,vq,vs,vo,os,h1,h2,h3⟩:=h.am;obtain ⟨D2,F2,vq2,vs2,UG,os2,g1,g2,g3⟩:=hm.am;refine ⟨⟨D,F,vq,vs,vo,os,h1.below hb,fun k hk=>⟨(h2 k hk).1,fun cs fr hc=> ?_⟩,fun k hk hf=> ?_⟩,h.ok,hm.xO,fun k hk=> ?_⟩
 ·rw[hb.block k (h1.lt k (h1.sub k hk))] at hc;exact (h2 k hk).2 cs fr hc
 ·rcases hn k hk with e|e
  ·exact h3 k e hf
  ·have:=h1.lt k hf;omega
 ·rcases hn k hk with e|e
  ·exact Nat.lt_of_lt_of_le (h.nlt k e) hb.size
  ·exact e.2
end
end
end Go.Proofs.YtbhiklnljiehiaaGreat
