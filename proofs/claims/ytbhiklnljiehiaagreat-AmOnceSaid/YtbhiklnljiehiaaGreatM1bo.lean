/- Grant of a transmitter in one form. -/
import Derived.Test.YtbhiklnljiehiaaGreatM1bn
namespace Go.Proofs.YtbhiklnljiehiaaGreat
section
open Go.RowKit Go.Shelf
section
variable {w:World} {F:Nat→Prop} {g:Nat} {c:Cf} {st:Sd} {K:Nat}
end
end
section
open Go.RowKit Go.Shelf
section
variable {w w' W W':World} {D F D' F' N N':Nat→Prop} {g K K':Nat} {c:Cf} {st st':Sd} {vq vo:Value} {vs os:List Value}
def minD (g:Nat) (vq vo:Value) (os:List Value) (k:Nat):Prop:=k=g∨aX vq=some k∨aX vo=some k∨∃i:Nat,os[i]? =some (Value.pointer (some ⟨k,0,none⟩))
theorem eZ.min_le (h:eZ w D F g c st vq vs vo os) {k:Nat} (hk:minD g vq vo os k):D k:=by
 rcases hk with rfl|hk|hk|⟨i,hi⟩
 ·exact h.gd
 ·exact h.qd k hk
 ·exact h.od k hk
 ·have hl:i<st.out.length:=by
   have h1:=(List.getElem?_eq_some_iff.1 hi).1;have h2:=h.uz.1;omega
  obtain ⟨p,Ap,cp,vp,Ar,cr,e,ho⟩:=h.oe i _ (List.getElem?_eq_getElem hl);rw[hi] at e;cases e;exact ho.d
theorem eZ.min (h:eZ w D F g c st vq vs vo os):eZ w (minD g vq vo os) F g c st vq vs vo os:=
 {blk:=h.blk,gd:= .inl rfl,sub:=fun k hk=>h.sub k (h.min_le hk),lt:=h.lt,qr:=h.qr,qd:=fun k hk=> .inr (.inl hk)
  qe:=fun i p hi=>by
   obtain ⟨A,cc,e,hs,hf⟩:=h.qe i p hi;exact ⟨A,cc,e,hs,fun ad ha=>⟨(hf ad ha).1,fun hm=>(hf ad ha).2 (h.min_le hm)⟩⟩
  uz:=h.uz,od:=fun k hk=> .inr (.inr (.inl hk))
  oe:=fun i x hi=>by
   obtain ⟨p,Ap,cp,vp,Ar,cr,e,ho⟩:=h.oe i x hi;refine ⟨p,Ap,cp,vp,Ar,cr,e,⟨ho.blk,.inr (.inr (.inr ⟨i,e⟩)),ho.f,ho.ps,fun ad ha=>⟨(ho.pf ad ha).1,fun hm=>(ho.pf ad ha).2 (h.min_le hm)⟩,fun j v hj ad ha=>⟨(ho.pe j v hj ad ha).1,fun hm=>(ho.pe j v hj ad ha).2 (h.min_le hm)⟩,ho.rs,fun ad ha=>⟨(ho.rf ad ha).1,fun hm=>(ho.rf ad ha).2 (h.min_le hm)⟩⟩⟩
  inj:=h.inj}
theorem eZ.min_u8 (h:eZ w D F g c st vq vs vo os) {k:Nat} (hk:minD g vq vo os k) (cs:Array Value) (fr:Nat × Nat):w.heap[k]? ≠some (.cells cs 5 fr):=by
 intro hc;rcases hk with rfl|hk|hk|⟨i,hi⟩
 ·have h1:w.heap[k]? =some (.cells _ 143 (0,0)):=h.blk;rw[hc] at h1;injection h1 with h1
  injection h1 with _ h2 _
  exact absurd h2 (by decide)
 ·obtain ⟨cur,h1,_⟩:=h.qr.row hk;rw[hc] at h1;injection h1 with h1
  injection h1 with _ h2 _
  exact absurd h2 (by decide)
 ·obtain ⟨cur,h1,_⟩:=h.uz.row hk;rw[hc] at h1;injection h1 with h1
  injection h1 with _ h2 _
  exact absurd h2 (by decide)
 ·have hl:i<st.out.length:=by
   have h1:=(List.getElem?_eq_some_iff.1 hi).1;have h2:=h.uz.1;omega
  obtain ⟨p,Ap,cp,vp,Ar,cr,e,ho⟩:=h.oe i _ (List.getElem?_eq_getElem hl);rw[hi] at e;cases e;have h1:w.heap[k]? =some (.cells _ 152 (0,0)):=ho.blk;rw[hc] at h1;injection h1 with h1
  injection h1 with _ h2 _
  exact absurd h2 (by decide)
end
end
end Go.Proofs.YtbhiklnljiehiaaGreat
