/- A transmitter whose memory lies from a b. -/
import Derived.Test.YtbhiklnljiehiaaGreatM2bm
namespace Go.Proofs.YtbhiklnljiehiaaGreat
section
open Go.RowKit Go.Shelf
attribute [local go_sem] Oper.semAt_some
structure dZ (c:Cf) (st:Sd) (K:Nat):Prop where
 cf:Ol c
 inv:bS st
 bnd:jF st K
def xL (w:World) (F:Nat→Prop) (g:Nat) (c:Cf) (st:Sd):Prop:=∃D vq vs vo os,dV w D F g c st vq vs vo os
section
variable {w w':World} {D F:Nat→Prop} {g:Nat} {c:Cf} {st:Sd} {vq vo:Value} {vs os:List Value} {K:Nat}
theorem xL.below (h:xL w F g c st) (hb:Below w.heap.size w w'):xL w' F g c st:=by
 obtain ⟨D,vq,vs,vo,os,h⟩:=h;exact ⟨D,vq,vs,vo,os,h.below hb⟩
theorem xL.lt (h:xL w F g c st):∀k,F k→k<w.heap.size:=by
 obtain ⟨D,vq,vs,vo,os,h⟩:=h;exact h.lt
theorem xL.stay (h:xL w F g c st) (hk:∀k,F k→w'.heap[k]? =w.heap[k]?):xL w' F g c st:=by
 obtain ⟨D,vq,vs,vo,os,h⟩:=h;exact ⟨D,vq,vs,vo,os,h.stay hk⟩
theorem MH (h:xL w F g c st) (ho:dZ c st K):Calls Tryz.prog 61 #[.pointer (some ⟨g,0,none⟩)] w fun e w'=>e= .returned (.agg (Rb st))∧Below w.heap.size w w':=by
 obtain ⟨D,vq,vs,vo,os,h⟩:=h;exact Jo h ho.cf.timer.1 ho.inv.f (by have:=ho.inv.w;omega)
theorem Eu (h:xL w F g c st) (ho:dZ c st K):Calls Tryz.prog 59 #[.pointer (some ⟨g,0,none⟩)] w fun e w'=>e= .returned (.int .i64 (IW st))∧Below w.heap.size w w':=by
 obtain ⟨D,vq,vs,vo,os,h⟩:=h;exact BK h ho.cf.timer.1 ho.bnd.held ho.inv.le ho.inv.w ho.bnd.ou
theorem dZ.nZ (ho:dZ c st K) (x:List UInt8):dZ c (dw c st x).1 K:=by
 refine ⟨ho.cf,ho.inv.dw c x,?_⟩;unfold dw;split
 ·exact ho.bnd
 ·split
  ·exact ho.bnd
  ·rename_i hx;split
   ·exact ho.bnd
   ·rename_i hc;have:=ho.cf.cap;exact ho.bnd.nZ (by omega) (by omega) (by omega)
theorem dZ.tick (ho:dZ c st K) (now:Int) (hn:now≤9223372036854775807):dZ c (fF c st now).1 (K+3):=by
 refine ⟨ho.cf,ho.inv.fF c now,?_⟩;unfold fF;split
 ·exact ho.bnd.mono (by omega)
 ·exact (ho.bnd.tick c hn).mono (by omega)
theorem dZ.status (ho:dZ c st K) (now aL:Int) (dO:List Nk) (hn:now≤9223372036854775807):dZ c (dB c st now aL dO).1 (K+3):=by
 refine ⟨ho.cf,ho.inv.dB c now aL dO,?_⟩;unfold dB;split
 ·exact ho.bnd.mono (by omega)
 ·exact ho.bnd.status c hn aL dO
theorem dZ.ny (ho:dZ c st K) (now n:Int) (hn:now≤9223372036854775807):dZ c (dA c st now n).1 (K+3):=by
 refine ⟨ho.cf,ho.inv.dA c now n,?_⟩;unfold dA;split
 ·exact ho.bnd.mono (by omega)
 ·split
  ·exact ho.bnd.mono (by omega)
  ·exact (ho.bnd.ny ho.inv c hn n).mono (by omega)
end
end
section
open Go.RowKit Go.Shelf
attribute [local go_sem] Oper.semAt_some
section
variable {w:World} {F:Nat→Prop} {g:Nat} {c:Cf} {st:Sd} {K:Nat}
end
end
section
open Go.RowKit Go.Shelf
theorem jg {lo hi:Int} {xs:List Int} (h:within lo hi xs=true):∀x∈xs,lo≤x∧x≤hi:=by
 intro x hx;unfold within at h;simp only[Bool.not_eq_true',List.any_eq_false] at h;have:=h x hx;unfold outside at this;simp at this;omega
def nL (a0 a1 a2 a3 a4 a5 a6:Int):Cf:=⟨a0,a1,a2,a3,a4,a5,a6⟩
theorem GI {a0 a1 a2 a3 a4 a5 a6:Int} (h:dF a0 a1 a2 a3 a4 a5 a6=true):Ol (nL a0 a1 a2 a3 a4 a5 a6):=by
 unfold dF at h;simp only[Bool.and_eq_true] at h;obtain ⟨h1,h2,h3,h4,h5,h6⟩:=h;exact ⟨jg h1 a0 (by simp),jg h2 a1 (by simp),jg h3 a2 (by simp),jg h5 a5 (by simp),jg h6 a6 (by simp)⟩
theorem Tx {w:World} {g:Nat} (c:Cf) (hb:au w g 143 (dS c (.slice none 0 0) (.slice none 0 0) dY)):dV w (·=g) (·=g) g c dY (.slice none 0 0) [] (.slice none 0 0) []:=
 ⟨hb,rfl,fun _ h=>h,fun k hk=>by rw[show k=g from hk];exact hb.lt,yw _ _ _,fun k hk=>by simp[aT] at hk,fun i p hi=>by simp[dY] at hi,yw _ _ _,fun k hk=>by simp[aT] at hk,fun i x hi=>by simp[dY] at hi,fun i j v hi _=>by simp at hi⟩
def aaV (w:World) (a0 a1 a2 a3 a4 a5 a6:Int) (e:Ending) (w':World):Prop:=
 Below w.heap.size w w'∧
  ((dF a0 a1 a2 a3 a4 a5 a6=true∧∃s,e= .returned (.tuple #[.pointer (some ⟨s,0,none⟩),.int .i64 0])∧w.heap.size≤s∧xL w' (·=s) s (nL a0 a1 a2 a3 a4 a5 a6) dY∧dZ (nL a0 a1 a2 a3 a4 a5 a6) dY 0)∨(dF a0 a1 a2 a3 a4 a5 a6=false∧e= .returned (.tuple #[.pointer none,.int .i64 2])))
theorem Ty (a0 a1 a2 a3 a4 a5 a6:Int) (w:World):Calls Tryz.prog 70 #[.agg (vZ a0 a1 a2 a3 a4 a5 a6)] w (aaV w a0 a1 a2 a3 a4 a5 a6):=by
 refine (aaF a0 a1 a2 a3 a4 a5 a6 w).mono ?_;rintro e w' ⟨hb,⟨h1,s,he,hs,hblk⟩|h⟩
 ·exact ⟨hb,.inl ⟨h1,s,he,hs,⟨_,_,_,_,_,Tx (nL a0 a1 a2 a3 a4 a5 a6) hblk⟩,⟨GI h1,o8.new,jF.new⟩⟩⟩
 ·exact ⟨hb,.inr h⟩
end
section
open Go.RowKit Go.Shelf
section
variable {w:World} {F:Nat→Prop} {g:Nat} {c:Cf} {st:Sd} {K:Nat}
end
end
section
open Go.RowKit
section
variable {aK acv:List (List UInt8)} {N N' K:Nat} {pu pu':Nat→Ou} {left left':Nat→List (List UInt8)} {sent sent':Nat→Nat} {H H':Nat→Prop} {st st':Sd} {r:Rc}
end
def dK (c:Cf) (s:Sd) (r:Rc) (now n:Int):Sd × Rc × List UInt8 × Int:=
 if s.failed=true then (s,r,[],8)
 else if n<0 then (s,r,[],2)
 else if (fF c s now).2≠0 then ((fF c s now).1,r,[],(fF c s now).2)
 else if rG (dI c r now) now=true∧2≤n then ((fF c s now).1,(fG c (dI c r now) now n).1,(fG c (dI c r now) now n).2.1,((fG c (dI c r now) now n).2.2:Nat))
 else ((dA c (fF c s now).1 now n).1,dI c r now,TC (dA c (fF c s now).1 now n).2.1,(dA c (fF c s now).1 now n).2.2)
end
end Go.Proofs.YtbhiklnljiehiaaGreat
