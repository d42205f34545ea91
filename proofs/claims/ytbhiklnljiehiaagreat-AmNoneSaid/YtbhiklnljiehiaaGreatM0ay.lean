/- amrecv: what a report says (plain). law36: sent: what a transmitter sends in grants of given sizes (plain). law36: receptions and reports of a transmitter's PDUs (plain). law36, plain: a segment cut from a PDU is a piece of it. law37, plain: one direction of a link: a transmitter, its PDUs, what the other end has. law37, plain: what is sent and received in one direction of a link. law36: a transmitter whose calls leave all bytes. am: an entity's memory; errors are raised and recovered. am: New. am: methods that only read. am: Submit, Tick, Grant. am: Grant. -/
import Derived.Test.YtbhiklnljiehiaaGreatM0ad
import Derived.Test.YtbhiklnljiehiaaGreatM0ae
import Derived.Test.YtbhiklnljiehiaaGreatM0ag
import Derived.Test.YtbhiklnljiehiaaGreatM0al
import Derived.Test.YtbhiklnljiehiaaGreatM0ao
import Derived.Test.YtbhiklnljiehiaaGreatM0aq
import Derived.Test.YtbhiklnljiehiaaGreatM0ar
import Derived.Test.YtbhiklnljiehiaaGreatM0as
import Derived.Test.YtbhiklnljiehiaaGreatM0at
import Derived.Test.YtbhiklnljiehiaaGreatM0au
import Derived.Test.YtbhiklnljiehiaaGreatM0av
import Derived.Test.YtbhiklnljiehiaaGreatM0ax
import Derived.WideLaws
namespace Go.Proofs.YtbhiklnljiehiaaGreat
section
def aek (a b:Nk):Prop:=a.sn<b.sn∨(a.sn=b.sn∧a.part=true∧b.part=true∧a.lt<b.fr)
structure ael (aK:Nat) (n:Nk):Prop where
 s0:0≤n.sn
 s1:n.sn<aK
 p:n.part=true→0≤n.fr∧n.fr≤n.lt∧n.lt≤32767
 q:n.part=false→n.fr=0∧n.lt=0
def Q9 (size:Nat) (n:Nk):Prop:=(gB n).1≤min (gB n).2 (size-1)
theorem FQ (l:List (Nat × Nat)) (x:Nat × Nat):fG l x≠ []:=by
 unfold fG;split
 ·simp
 ·split<;>simp
theorem Ca (size:Nat):∀(l:List Nk) (a:List (Nat × Nat)),a≠ []→l.foldl (eG size) a≠ []
 | [],a,h=>h
 |n::r,a,h=>by
  rw[List.foldl_cons];refine Ca size r _ ?_;unfold eG;split
  ·exact h
  ·exact FQ _ _
theorem vD (size:Nat):∀(l:List Nk) (a:List (Nat × Nat)),(∃n∈l,Q9 size n)→l.foldl (eG size) a≠ []
 | [],_,h=>by obtain ⟨n,hn,_⟩:=h;simp at hn
 |m::r,a,h=>by
  rw[List.foldl_cons];obtain ⟨n,hn,ha⟩:=h;rcases List.mem_cons.1 hn with rfl|hn
  ·refine Ca size r _ ?_;unfold eG Q9 at*;rw[if_neg (by omega)];exact FQ _ _
  ·exact vD size r _ ⟨n,hn,ha⟩
section
variable {bD:List (List UInt8)} {N:Nat} {pu:Nat→Ou} {left:Nat→List (List UInt8)} {sent:Nat→Nat}
structure Ss (N:Nat) (pu:Nat→Ou) (st:Rc) (aK:Nat) (l:List Nk):Prop where
 len:l.length≤512
 ok:∀n∈l,ael aK n
 pw:l.Pairwise aek
 cov:∀k,k<aK→Has st k∨∃n∈l,n.sn=(k:Int)∧Q9 (aF (pu k)) n
theorem Ss.truth {st:Rc} {aK:Nat} {l:List Nk} (h:Ss N pu st aK l) {k:Nat} (hk:k<aK) (hsn:(pu k).sn=k) (hm:bQ l (pu k)= []):Has st k:=by
 rcases h.cov k hk with hh|⟨n,hn,e,ha⟩
 ·exact hh
 ·exfalso;refine vD (aF (pu k)) (l.filter (fun n=>decide (n.sn=((pu k).sn:Int)))) [] ⟨n,?_,ha⟩ hm;rw[List.mem_filter];refine ⟨hn,?_⟩;rw[hsn];simpa using e
end
end
section
def IE (sizes:List UInt8) (i:Nat):Nat:=if sizes= [] then 20 else 5+(sizes[min i (sizes.length-1)]?.getD 0).toNat%60
def zo (sizes:List UInt8) (bD:List (List UInt8)):Nat→List (List UInt8) × Nat
 |0=>(bD,0)
 |i+1=>(oQ (IE sizes i) ((zo sizes bD i).1.length+1) (zo sizes bD i).1 (zo sizes bD i).2 0 0 0 false).2.2
structure Ra (left:List (List UInt8)) (sent:Nat):Prop where
 lt:∀x r,left=x::r→sent<x.length
 z:left= []→sent=0
 len:∀s∈left,1≤s.length∧s.length≤60
theorem Ra.step {left:List (List UInt8)} {sent:Nat} (h:Ra left sent) (n:Int) (f:Nat):Ra (oQ n f left sent 0 0 0 false).2.2.1 (oQ n f left sent 0 0 0 false).2.2.2:=by
 have hk:=Gt n f left sent 0 0 0 false (fun s hs=>(h.len s hs).1) h.lt h.z;refine ⟨hk.lt_,hk.z_,fun s hs=> ?_⟩;by_cases hne:(oQ n f left sent 0 0 0 false).1= []
 ·have:=hk.none_ hne;rw[this] at hs;exact h.len s hs
 ·obtain ⟨g,hg,_⟩:=hk.some_ hne;exact h.len s (by rw[hg];simp[hs])
theorem Cb:∀(l:List (List UInt8)) (t k:Nat),aN l (t+k)=aN (aN l t).1 ((aN l t).2+k)
 | [],t,k=>by simp[aN]
 |x::r,t,k=>by
  by_cases h:x.length≤t
  ·have e:aN (x::r) t=aN r (t-x.length):=by rw[aN,if_pos h]
   rw[e,←Cb r (t-x.length) k,aN,if_pos (by omega),show t+k-x.length=t-x.length+k by omega]
  ·have e:aN (x::r) t=(x::r,t):=by rw[aN,if_neg h]
   rw[e]
def aen (sizes:List UInt8) (bD:List (List UInt8)) (i:Nat):Ou:=
 ⟨i,decide ((zo sizes bD i).2=0),(oQ (IE sizes i) ((zo sizes bD i).1.length+1) (zo sizes bD i).1 (zo sizes bD i).2 0 0 0 false).2.1,(oQ (IE sizes i) ((zo sizes bD i).1.length+1) (zo sizes bD i).1 (zo sizes bD i).2 0 0 0 false).1,false,[],0⟩
structure Sv (sizes:List UInt8) (bD:List (List UInt8)) (i:Nat) (st:Sd):Prop where
 q:st.queue=bD
 d:st.done=0
 fr:st.front=0
 f0:st.first=0
 out:st.out=(List.range i).map (aen sizes bD)
 tk:aN bD st.taken=zo sizes bD i
 le:st.taken≤ah bD
 w:st.wait=true→0<st.fE
 fa:st.failed=false
 nw:st.now=0
 ow:st.dW=false
section
variable {sizes:List UInt8} {bD:List (List UInt8)} {i:Nat} {st:Sd}
end
end
section
section
variable {bD:List (List UInt8)} {N:Nat} {pu:Nat→Ou} {left:Nat→List (List UInt8)} {sent:Nat→Nat}
end
theorem Cc:∀(l:List (List UInt8)) (f:Nat),(d9 l f).1+(aN l f).1.length=l.length∧(d9 l f).2.2.2=(aN l f).1
 | [],f=>by simp[d9,aN]
 |x::r,f=>by
  by_cases h:x.length≤f
  ·have ih:=Cc r (f-x.length);rw[d9,if_pos h,aN,if_pos h];dsimp only;rw[List.length_cons];exact ⟨by omega,ih.2⟩
  ·rw[d9,if_neg h,aN,if_neg h];simp
section
variable {sizes:List UInt8} {bD:List (List UInt8)} {N:Nat}
theorem Sv.clock {st:Sd} {i:Nat} (h:Sv sizes bD i st):bW st 0=st:=by
 have hn:=h.nw;unfold bW;rw[hn];obtain ⟨⟩:=st;simp only at hn;subst hn;rfl
end
end
section
open Go.RowKit
end
section
open Go.RowKit
def tot (pu:Nat→Ou):Nat→Nat
 |0=>0
 |n+1=>tot pu n+aF (pu n)
theorem NV (pu:Nat→Ou) (a:Nat):∀b,tot pu a≤tot pu (a+b)
 |0=>Nat.le_refl _
 |b+1=>by have:=NV pu a b;rw[show a+(b+1)=(a+b)+1 by omega,tot];omega
structure kg (x y:Ou):Prop where
 sn:x.sn=y.sn
 s:x.s=y.s
 e:x.e=y.e
 ps:x.ps=y.ps
theorem kg.refl (x:Ou):kg x x:=⟨rfl,rfl,rfl,rfl⟩
theorem kg.trans {x y z:Ou} (h:kg x y) (h2:kg y z):kg x z:=⟨h.sn.trans h2.sn,h.s.trans h2.s,h.e.trans h2.e,h.ps.trans h2.ps⟩
theorem kg.size {x y:Ou} (h:kg x y):aF x=aF y:=by unfold aF;rw[h.ps]
theorem kg.bytes {x y:Ou} (h:kg x y):KR x=KR y:=by unfold KR;rw[h.s,h.e,h.ps]
theorem Piece.same {x y:Ou} {a:kE} (h:kg x y) (p:Piece x a):Piece y a:=⟨p.sn.trans h.sn,p.pos,by rw[←h.size];exact p.le,by rw[←h.size];exact p.fin,by rw[←h.bytes];exact p.eq⟩
theorem Jv {pu:Nat→Ou}:∀(d:List Ou) (a:Nat),(∀i x,d[i]? =some x→kg x (pu (a+i)))→tot pu (a+d.length)=tot pu a+sizes d
 | [],a,_=>by simp[sizes]
 |x::r,a,h=>by
  have ih:=Jv r (a+1) fun i y hy=>by
   have:=h (i+1) y (by simpa using hy)
   rwa [show a+1+i=a+(i+1) by omega]
  have h0:=(h 0 x (by simp)).size;rw[Nat.add_zero] at h0;rw[List.length_cons,show a+(r.length+1)=a+1+r.length by omega,ih,tot,fF,h0];omega
structure Dir (bD:List (List UInt8)) (N:Nat) (pu:Nat→Ou) (left:Nat→List (List UInt8)) (sent:Nat→Nat):Prop where
 T:Wv bD N pu left sent
 ok:∀i,i≤N→Ra (left i) (sent i)
 sk:∀i,i≤N→aN bD (tot pu i)=(left i,sent i)
 sm:tot pu N≤ah bD
section
variable {bD Z4:List (List UInt8)} {N N':Nat} {pu pu':Nat→Ou} {left left':Nat→List (List UInt8)} {sent sent':Nat→Nat} {H H':Nat→Prop} {st st':Sd}
structure KS (bD:List (List UInt8)) (N:Nat) (pu:Nat→Ou) (left:Nat→List (List UInt8)) (sent:Nat→Nat) (H:Nat→Prop) (st:Sd):Prop where
 q:st.queue=left st.first
 dn:st.done+(left st.first).length=bD.length
 fr:st.front=sent st.first
 tk:st.taken+tot pu st.first=st.front+tot pu N
 fo:st.first+st.out.length=N
 out:∀i x,st.out[i]? =some x→kg x (pu (st.first+i))
 ak:∀i x,st.out[i]? =some x→x.aV=true→H (st.first+i)
 has:∀k,k<st.first→H k
structure zq (H:Nat→Prop) (st st':Sd):Prop where
 q:st'.queue=st.queue
 d:st'.done=st.done
 fr:st'.front=st.front
 tk:st'.taken=st.taken
 fi:st'.first=st.first
 ln:st'.out.length=st.out.length
 o:∀i x',st'.out[i]? =some x'→∃x,st.out[i]? =some x∧kg x' x∧(x'.aV=true→x.aV=true∨H (st.first+i))
theorem zq.NW (hq:st'.queue=st.queue) (hd:st'.done=st.done) (hf:st'.front=st.front) (ht:st'.taken=st.taken) (hi:st'.first=st.first) (ho:st'.out=st.out):zq H st st':=
 ⟨hq,hd,hf,ht,hi,by rw[ho],fun i x' hx=>⟨x',by rw[←ho];exact hx,kg.refl _,fun ha=> .inl ha⟩⟩
theorem zq.refl (st:Sd):zq H st st:=zq.NW rfl rfl rfl rfl rfl rfl
theorem KS.sim (h:KS bD N pu left sent H st) (hs:zq H st st'):KS bD N pu left sent H st':=by
 refine ⟨by rw[hs.q,hs.fi];exact h.q,by rw[hs.d,hs.fi];exact h.dn,by rw[hs.fr,hs.fi];exact h.fr,by rw[hs.tk,hs.fr,hs.fi];exact h.tk,by rw[hs.fi,hs.ln];exact h.fo,fun i x hx=> ?_,fun i x hx ha=> ?_,by rw[hs.fi];exact h.has⟩
 ·obtain ⟨y,hy,e1,_⟩:=hs.o i x hx;rw[hs.fi];exact e1.trans (h.out i y hy)
 ·obtain ⟨y,hy,_,e2⟩:=hs.o i x hx;rw[hs.fi];rcases e2 ha with e|e
  ·exact h.ak i y hy e
  ·exact e
theorem zq.set {i:Nat} {x z:Ou} (hx:st.out[i]? =some x) (hz:kg z x) (ha:z.aV=true→x.aV=true∨H (st.first+i)) (hq:st'.queue=st.queue) (hd:st'.done=st.done) (hf:st'.front=st.front) (ht:st'.taken=st.taken) (hi:st'.first=st.first) (ho:st'.out=st.out.set i z):zq H st st':=by
 refine ⟨hq,hd,hf,ht,hi,by rw[ho,List.length_set],fun j y hy=> ?_⟩;rw[ho,List.getElem?_set] at hy;split at hy
 ·rename_i e;subst e;split at hy
  ·cases hy;exact ⟨x,hx,hz,ha⟩
  ·cases hy
 ·exact ⟨y,hy,kg.refl _,fun h=> .inl h⟩
theorem zu (c:Cf) (x:Ou) (l:List (Nat × Nat)):kg (gG c x l).1 x∧(gG c x l).1.aV=x.aV:=by
 unfold gG;split<;>exact ⟨⟨rfl,rfl,rfl,rfl⟩,rfl⟩
theorem zq.nQ (c:Cf) (st:Sd):zq H st (bK c st):=by
 unfold bK;split
 ·exact zq.refl _
 ·split
  ·exact zq.refl _
  ·split
   ·exact zq.refl _
   ·rename_i i _ x hx;obtain ⟨e1,e2⟩:=zu c x [(0,aF x-1)];exact zq.set hx e1 (fun ha=> .inl (by rwa [e2] at ha)) rfl rfl rfl rfl rfl rfl
theorem zq.clock (st:Sd) (now:Int):zq H st (bW st now):=zq.NW rfl rfl rfl rfl rfl rfl
theorem DJ (c:Cf) (m:Ou→List (Nat × Nat)) (x:Ou):kg (bS c m x).1 x∧((bS c m x).1.aV=true→x.aV=true∨m x= []):=by
 unfold bS;split
 ·exact ⟨kg.refl _,fun h=> .inl h⟩
 ·split
  ·rename_i e;exact ⟨⟨rfl,rfl,rfl,rfl⟩,fun _=> .inr e⟩
  ·obtain ⟨e1,e2⟩:=zu c x (m x);exact ⟨e1,fun ha=> .inl (by rwa [e2] at ha)⟩
theorem zq.stat (c:Cf) (m:Ou→List (Nat × Nat)) (n:Nat) (hn:n≤st.out.length) (hm:∀i x,i<n→st.out[i]? =some x→m x= []→H (st.first+i)) (f w:Bool):
 zq H st {st with out:=(aL c m n st.out).1,failed:=f,wait:=w}:=by
 have e:(aL c m n st.out).1=(st.out.take n).map (fun x=>(bS c m x).1)++st.out.drop n:=rfl;refine ⟨rfl,rfl,rfl,rfl,rfl,?_,fun i y hy=> ?_⟩
 ·show (aL c m n st.out).1.length=_
  rw[e,List.length_append,List.length_map,List.length_take,List.length_drop];omega
 ·have hy':(aL c m n st.out).1[i]? =some y:=hy;rw[e] at hy';by_cases hi:i<n
  ·rw[List.getElem?_append_left (by rw[List.length_map,List.length_take];omega),List.getElem?_map,List.getElem?_take,if_pos hi] at hy';cases hx:st.out[i]? with
   |none=>rw[hx] at hy';cases hy'
   |some x=>
    rw[hx] at hy';cases hy';obtain ⟨e1,e2⟩:=DJ c m x;refine ⟨x,rfl,e1,fun ha=> ?_⟩;rcases e2 ha with h|h
    ·exact .inl h
    ·exact .inr (hm i x hi hx h)
  ·rw[List.getElem?_append_right (by rw[List.length_map,List.length_take];omega),List.length_map,List.length_take,show min n st.out.length=n by omega,List.getElem?_drop,show n+(i-n)=i by omega] at hy';exact ⟨y,hy',kg.refl _,fun ha=> .inl ha⟩
theorem zw:∀(l:List (List UInt8)) (f:Nat),(d9 l f).2.2.1=(aN l f).2∧(d9 l f).2.1+(aN l f).2=f
 | [],f=>by simp[d9,aN]
 |x::r,f=>by
  by_cases h:x.length≤f
  ·obtain ⟨h1,h2⟩:=zw r (f-x.length);rw[d9,if_pos h,aN,if_pos h];dsimp only;exact ⟨h1,by omega⟩
  ·rw[d9,if_neg h,aN,if_neg h];simp
theorem KS.S9 (D:Dir bD N pu left sent) (h:KS bD N pu left sent H st):KS bD N pu left sent H (dX st):=by
 have hN:=D.T.n;have hfo:=h.fo;obtain ⟨⟨d,d1,d2,d3,d4⟩,_⟩:=iZ st.out;have e1:(dX st).out=(aO st.out).2.2:=rfl;have e2:(dX st).queue=(d9 st.queue (st.front+(aO st.out).2.1)).2.2.2:=rfl;have e3:(dX st).taken=st.taken-(d9 st.queue (st.front+(aO st.out).2.1)).2.1:=rfl;have e4:(dX st).front=(d9 st.queue (st.front+(aO st.out).2.1)).2.2.1:=rfl;have e5:(dX st).first=(st.first+(aO st.out).1)%1024:=rfl
 have e6:(dX st).done=st.done+(d9 st.queue (st.front+(aO st.out).2.1)).1:=rfl;have hlen:st.out.length=d.length+(aO st.out).2.2.length:=by
  conv=>lhs;rw[d1]
  rw[List.length_append]
 have hf:(dX st).first=st.first+d.length:=by rw[e5,←d2];omega
 have hd:∀i x,d[i]? =some x→kg x (pu (st.first+i)):=fun i x hx=>h.out i x (by rw[d1,List.getElem?_append_left (List.getElem?_eq_some_iff.1 hx).1];exact hx)
 have ht:=Jv d st.first hd
 rw[d3] at ht;have hle:st.first+d.length≤N:=by omega
 have hsk:=D.sk (st.first+d.length) hle;rw[ht,Cb,D.sk st.first (by omega)] at hsk;dsimp only at hsk;rw[←h.q,←h.fr] at hsk;obtain ⟨a1,a2⟩:=Cc st.queue (st.front+(aO st.out).2.1);obtain ⟨b1,b2⟩:=zw st.queue (st.front+(aO st.out).2.1);rw[hsk] at a1 a2 b1 b2;dsimp only at a1 a2 b1 b2;have hmono:=NV pu (st.first+d.length) (N-(st.first+d.length));rw[show st.first+d.length+(N-(st.first+d.length))=N by omega] at hmono;have htk:=h.tk;have hdn:=h.dn;have hq:=h.q;have hrest:∀i,(aO st.out).2.2[i]? =st.out[d.length+i]? :=fun i=>by
  conv=>rhs;rw[d1]
  rw[List.getElem?_append_right (by omega),show d.length+i-d.length=i by omega]
 refine ⟨by rw[e2,a2,hf],?_,by rw[e4,b1,hf],?_,?_,fun i x hx=> ?_,fun i x hx ha=> ?_,fun k hk=> ?_⟩
 ·rw[e6,hf];have:st.queue.length=(left st.first).length:=by rw[hq]
  omega
 ·rw[e3,e4,b1,hf,ht];omega
 ·rw[hf,e1];omega
 ·rw[e1,hrest] at hx;rw[hf,Nat.add_assoc];exact h.out _ x hx
 ·rw[e1,hrest] at hx;rw[hf,Nat.add_assoc];exact h.ak _ x hx ha
 ·rw[hf] at hk;by_cases hk2:k<st.first
  ·exact h.has k hk2
  ·have hi:k-st.first<d.length:=by omega
   have hx:d[k-st.first]? =some d[k-st.first]:=List.getElem?_eq_getElem hi;have h1:=h.ak (k-st.first) d[k-st.first] (by rw[d1,List.getElem?_append_left hi];exact hx) (d4 _ (List.getElem_mem _))
   rwa [show st.first+(k-st.first)=k by omega] at h1
structure Rep (N:Nat) (pu:Nat→Ou) (H:Nat→Prop) (aK:Nat) (l:List Nk):Prop where
 le:aK≤N
 v:cu (aK:Int) l=true
 cov:∀k,k<aK→H k∨∃n∈l,n.sn=(k:Int)∧Q9 (aF (pu k)) n
theorem Rep.truth {aK:Nat} {l:List Nk} (h:Rep N pu H aK l) {k:Nat} (hk:k<aK) {x:Ou} (hx:kg x (pu k)) (hsn:(pu k).sn=k) (hm:bQ l x= []):H k:=by
 rcases h.cov k hk with hh|⟨n,hn,e,ha⟩
 ·exact hh
 ·exfalso;rw[←hx.size] at ha;refine vD (aF x) (l.filter (fun n=>decide (n.sn=(x.sn:Int)))) [] ⟨n,?_,ha⟩ hm;rw[List.mem_filter];refine ⟨hn,?_⟩;rw[hx.sn,hsn];simpa using e
theorem KS.status (D:Dir bD N pu left sent) (h:KS bD N pu left sent H st) (c:Cf) (now:Int) {aK:Nat} {l:List Nk} (hr:Rep N pu H aK l):KS bD N pu left sent H (dm c st now (aK:Int) l).1:=by
 have hN:=D.T.n;have hfo:=h.fo;have hle:=hr.le;unfold dm;split
 ·exact h
 unfold lQ;split
 ·exact h
 split
 ·exact h.sim (zq.clock st now)
 rename_i hbad;have hpl:dQ st (aK:Int)≤st.out.length:=by have:=not_or.1 hbad;omega
 have hge:st.first≤aK:=by
  unfold dQ at hpl;omega
 have hp:dQ st (aK:Int)=((aK-st.first:Nat):Int):=by
  unfold dQ;omega
 rw[hp];dsimp only;rw[Int.toNat_natCast];have h2:KS bD N pu left sent H (bW st now):=h.sim (zq.clock st now);have h3:∀f w,KS bD N pu left sent H {bW st now with out:=(aL c (bQ l) (aK-st.first) (bW st now).out).1,failed:=f,wait:=w}:=fun f w=>by
  refine h2.sim (zq.stat c (bQ l) (aK-st.first) (by show _≤st.out.length;omega) (fun i x hi hx hm=> ?_) f w);have hx':st.out[i]? =some x:=hx;show H (st.first+i)
  have hil:=(List.getElem?_eq_some_iff.1 hx').1;exact hr.truth (by omega) (h.out i x hx') (D.T.sn _ (by omega)) hm
 unfold iE;dsimp only;split
 ·exact (KS.S9 D (h3 _ _)).sim (zq.nQ c _)
 ·exact KS.S9 D (h3 _ _)
end
end
section
open Go.RowKit
section
variable {bD Z4:List (List UInt8)} {N N' K:Nat} {pu pu':Nat→Ou} {left left':Nat→List (List UInt8)} {sent sent':Nat→Nat} {H H':Nat→Prop} {st st':Sd} {r:Rc}
end
def dV (c:Cf) (s:Sd) (r:Rc) (now n:Int):Sd × Rc × List UInt8 × Int:=
 if s.failed=true then (s,r,[],8)
 else if n<0 then (s,r,[],2)
 else if (iF c s now).2≠0 then ((iF c s now).1,r,[],(iF c s now).2)
 else if qG (dP c r now) now=true∧2≤n then ((iF c s now).1,(fu c (dP c r now) now n).1,(fu c (dP c r now) now n).2.1,((fu c (dP c r now) now n).2.2:Nat))
 else ((dh c (iF c s now).1 now n).1,dP c r now,Qx (dh c (iF c s now).1 now n).2.1,(dh c (iF c s now).1 now n).2.2)
end
section
open Go.RowKit Go.Shelf
section
variable {w w' W W':World} {D F D' F' N N':Nat→Prop} {g K K':Nat} {c:Cf} {st st':Sd} {vq vo:Value} {vs os:List Value}
def minD (g:Nat) (vq vo:Value) (os:List Value) (k:Nat):Prop:=k=g∨aS vq=some k∨aS vo=some k∨∃i:Nat,os[i]? =some (Value.pointer (some ⟨k,0,none⟩))
theorem dS.min_le (h:dS w D F g c st vq vs vo os) {k:Nat} (hk:minD g vq vo os k):D k:=by
 rcases hk with rfl|hk|hk|⟨i,hi⟩
 ·exact h.gd
 ·exact h.qd k hk
 ·exact h.od k hk
 ·have hl:i<st.out.length:=by
   have h1:=(List.getElem?_eq_some_iff.1 hi).1;have h2:=h.qU.1;omega
  obtain ⟨p,Ap,cp,vp,Ar,cr,e,ho⟩:=h.oe i _ (List.getElem?_eq_getElem hl);rw[hi] at e;cases e;exact ho.d
theorem dS.min (h:dS w D F g c st vq vs vo os):dS w (minD g vq vo os) F g c st vq vs vo os:=
 {blk:=h.blk,gd:= .inl rfl,sub:=fun k hk=>h.sub k (h.min_le hk),lt:=h.lt,qr:=h.qr,qd:=fun k hk=> .inr (.inl hk)
  qe:=fun i p hi=>by
   obtain ⟨A,cc,e,hs,hf⟩:=h.qe i p hi;exact ⟨A,cc,e,hs,fun ad ha=>⟨(hf ad ha).1,fun hm=>(hf ad ha).2 (h.min_le hm)⟩⟩
  qU:=h.qU,od:=fun k hk=> .inr (.inr (.inl hk))
  oe:=fun i x hi=>by
   obtain ⟨p,Ap,cp,vp,Ar,cr,e,ho⟩:=h.oe i x hi;refine ⟨p,Ap,cp,vp,Ar,cr,e,⟨ho.blk,.inr (.inr (.inr ⟨i,e⟩)),ho.f,ho.ps,fun ad ha=>⟨(ho.pf ad ha).1,fun hm=>(ho.pf ad ha).2 (h.min_le hm)⟩,fun j v hj ad ha=>⟨(ho.pe j v hj ad ha).1,fun hm=>(ho.pe j v hj ad ha).2 (h.min_le hm)⟩,ho.rs,fun ad ha=>⟨(ho.rf ad ha).1,fun hm=>(ho.rf ad ha).2 (h.min_le hm)⟩⟩⟩
  inj:=h.inj}
theorem dS.min_u8 (h:dS w D F g c st vq vs vo os) {k:Nat} (hk:minD g vq vo os k) (cs:Array Value) (fr:Nat × Nat):w.heap[k]? ≠some (.cells cs 5 fr):=by
 intro hc;rcases hk with rfl|hk|hk|⟨i,hi⟩
 ·have h1:w.heap[k]? =some (.cells _ 143 (0,0)):=h.blk;rw[hc] at h1;injection h1 with h1
  injection h1 with _ h2 _
  exact absurd h2 (by decide)
 ·obtain ⟨cur,h1,_⟩:=h.qr.row hk;rw[hc] at h1;injection h1 with h1
  injection h1 with _ h2 _
  exact absurd h2 (by decide)
 ·obtain ⟨cur,h1,_⟩:=h.qU.row hk;rw[hc] at h1;injection h1 with h1
  injection h1 with _ h2 _
  exact absurd h2 (by decide)
 ·have hl:i<st.out.length:=by
   have h1:=(List.getElem?_eq_some_iff.1 hi).1;have h2:=h.qU.1;omega
  obtain ⟨p,Ap,cp,vp,Ar,cr,e,ho⟩:=h.oe i _ (List.getElem?_eq_getElem hl);rw[hi] at e;cases e;have h1:w.heap[k]? =some (.cells _ 152 (0,0)):=ho.blk;rw[hc] at h1;injection h1 with h1
  injection h1 with _ h2 _
  exact absurd h2 (by decide)
end
end
section
open Go.RowKit Go.Shelf
attribute [local go_sem] Oper.semAt_some
structure Fp where
 a:Nat→Prop
 b:Nat→Prop
instance:CoeFun Fp (fun _=>Nat→Prop):=⟨Fp.a⟩
def U8 (o:Obj):Prop:=∃cs fr,o= .cells cs 5 fr
section
variable {w w' w'':World} {g n n' gs gr ge K B:Nat} {c:Cf} {s s':Sd} {r r':Rc} {v:Value} {Fs Fr:Nat→Prop} {F F':Fp}
def NY (w:World) (Fs:Nat→Prop) (g:Nat) (c:Cf) (st:Sd) (w':World):Prop:=∃F',yU w' F' g c st∧bR w Fs F'∧Kept (fun k o=>Fs k∧¬U8 o) w w'
theorem kM.gw {vq vo:Value} {vs os:List Value} {st:Sd} (h:dS w (minD g vq vo os) Fs g c s vq vs vo os) (ho:kM w (minD g vq vo os) Fs g c st w'):NY w Fs g c st w':=by
 obtain ⟨D',F',Ig,vs',zI,os',h1,_,h3,h4⟩:=ho;exact ⟨F',⟨D',Ig,vs',zI,os',h1⟩,h3,h4.fA fun k o ho hk=>⟨h.sub k hk,fun ⟨cs,fr,e⟩=>h.min_u8 hk cs fr (by rw[ho,e])⟩⟩
theorem IG (h:yU w Fs g c s) (ho:fH c s K) {A:Option Addr} {n cc:Nat} {x:List UInt8} (hx:Sl w w.heap.size A n cc (bV x)):
 Calls Tryz.prog 58 #[.pointer (some ⟨g,0,none⟩),.slice A n cc] w fun e w'=>e= .returned (.int .i64 (cZ c s x).2)∧NY w Fs g c (cZ c s x).1 w':=by
 obtain ⟨D,vq,vs,vo,os,h⟩:=h;have hh:=ho.bnd.held;have hq:=uz ho.inv.pos;have e:bM s=ah s.queue:=rfl;exact (EX h.min ho.cf hh (by omega) hx).mono fun e w' hh=>⟨hh.1,hh.2.gw h.min⟩
theorem NZ (h:yU w Fs g c s) (ho:fH c s K) (hK:K≤90000) (now:Int) (hn:now≤9223372036854775807):
 Calls Tryz.prog 51 #[.pointer (some ⟨g,0,none⟩),.int .i64 now] w fun e w'=>e= .returned (.int .i64 (iF c s now).2)∧NY w Fs g c (iF c s now).1 w':=by
 obtain ⟨D,vq,vs,vo,os,h⟩:=h;exact (Kn h.min ho.cf.timer.1 ho.bnd hK ho.inv.w now hn).mono fun e w' hh=>⟨hh.1,hh.2.gw h.min⟩
theorem II (h:yU w Fs g c s) (ho:fH c s K) (hK:K≤90000) (now aK:Int) (hn:now≤9223372036854775807) (A:Option Addr) (n cc:Nat) (dG:List Nk) (hN:bI w A n cc dG) (hAF:∀ad,A=some ad→0<n→¬Fs ad.block):
 Calls Tryz.prog 93 #[.pointer (some ⟨g,0,none⟩),.int .i64 now,.agg #[.int .i64 aK,.slice A n cc]] w fun e w'=>e= .returned (.int .i64 (dm c s now aK dG).2)∧NY w Fs g c (dm c s now aK dG).1 w':=by
 obtain ⟨D,vq,vs,vo,os,h⟩:=h;by_cases hf:s.failed=true
 ·exact (qJ h.min ho.cf.timer.1 now aK A n cc dG hN (.inl hf)).mono fun e w' hh=>⟨hh.1,hh.2.gw h.min⟩
 ·cases hv:cu aK dG with
  |false=>exact (qJ h.min ho.cf.timer.1 now aK A n cc dG hN (.inr hv)).mono fun e w' hh=>⟨hh.1,hh.2.gw h.min⟩
  |true=>exact (E7 h.min ho.cf ho.bnd hK ho.inv (by simpa using hf) now aK hn A n cc dG hN (fun ad e hz hd=>hAF ad e hz (h.min.sub _ hd)) hv).mono fun e w' hh=>⟨hh.1,hh.2.gw h.min⟩
theorem Ce (h:yU w Fs g c s) (ho:fH c s K) (hK:K≤90000) (now n:Int) (gQ:now≤9223372036854775807) (hn:n≤9223372036854775807):
 Calls Tryz.prog 55 #[.pointer (some ⟨g,0,none⟩),.int .i64 now,.int .i64 n] w fun e w'=>∃v,e= .returned (.tuple #[v,.int .i64 (dh c s now n).2.2])∧w'.ownsRow w.heap.size 5 1 v (Qx (dh c s now n).2.1).length (bV (Qx (dh c s now n).2.1))∧NY w Fs g c (dh c s now n).1 w':=by
 obtain ⟨D,vq,vs,vo,os,h⟩:=h;have key:Calls Tryz.prog 55 #[.pointer (some ⟨g,0,none⟩),.int .i64 now,.int .i64 n] w (Fv w (minD g vq vo os) Fs g c (dh c s now n)):=by
  by_cases hx:s.failed=true∨n<0
  ·exact Du h.min ho.cf.timer.1 now n hx
  ·have hx':=not_or.1 hx;exact Iv h.min ho.cf ho.bnd hK ho.inv (by simpa using hx'.1) now n gQ (by omega) hn
 exact key.mono fun e w' hh=>by
  obtain ⟨v,h1,h2,h3⟩:=hh;exact ⟨v,h1,h2,h3.gw h.min⟩
def Z5 (w:World) (F:Nat→Prop) (g n:Nat) (c:Cf) (st:Rc) (w':World):Prop:=tT w' F g n c st∧Kept (fun k _=>F k) w w'
theorem KT (h:tT w Fr g n c r) (ho:vC c r) (now:Int) (gQ:now≤9223372036854775807) (N:Int) (hN:N≤9223372036854775807):
 Calls Tryz.prog 54 #[.pointer (some ⟨g,0,none⟩),.int .i64 now,.int .i64 N] w fun e w'=>∃v,e= .returned (.tuple #[v,.int .i64 ((fu c r now N).2.2:Nat)])∧w'.ownsRow w.heap.size 5 1 v (fu c r now N).2.1.length (bV (fu c r now N).2.1)∧Z5 w Fr g n c (fu c r now N).1 w':=by
 obtain ⟨T,M,vo,h,hF⟩:=h;refine (IB h ho.ok ho.sz ho.cf now gQ N hN).mono ?_;rintro e w' ⟨v,rfl,hv,hR,hK⟩;exact ⟨v,rfl,hv,⟨T,M,vo,hR,hF⟩,hK.mono fun k o hm=>(hF k).2 hm⟩
theorem N5 (h:tT w Fr g n c r) (ho:vC c r) (now:Int) (gQ:now≤9223372036854775807):
 Calls Tryz.prog 52 #[.pointer (some ⟨g,0,none⟩),.int .i64 now] w fun e w'=>e= .returned (.int .i64 0)∧Z5 w Fr g n c (dP c r now) w':=by
 obtain ⟨T,M,vo,h,hF⟩:=h;refine (KQ h ho.ok ho.cf now gQ).mono ?_;rintro e w' ⟨rfl,hR,hK⟩;exact ⟨rfl,⟨T,M,vo,hR,hF⟩,hK.mono fun k o hm=>(hF k).2 hm⟩
def Rb (F:Fp) (ge:Nat) (Fs Fr:Nat→Prop):Prop:=(∀k,F k↔k=ge∨Fs k∨Fr k)∧∀k,F.b k↔Fr k
def mH (w:World) (F:Fp) (ge:Nat) (c:Cf) (s:Sd) (r:Rc) (n:Nat):Prop:=
 ∃gs gr Fs Fr,au w ge 52 #[.pointer (some ⟨gs,0,none⟩),.pointer (some ⟨gr,0,none⟩)]∧yU w Fs gs c s∧tT w Fr gr n c r∧(∀k,Fs k→¬Fr k)∧¬Fs ge∧¬Fr ge∧Rb F ge Fs Fr
def KU (w:World) (F:Fp) (ge:Nat) (c:Cf) (s:Sd) (r:Rc) (n:Nat) (w':World):Prop:=∃F':Fp,mH w' F' ge c s r n∧bR w F F'∧(∀k,F'.b k→F.b k)∧Kept (fun k o=>F k∧(U8 o→F.b k)) w w'
theorem mH.lt (h:mH w F ge c s r n):∀k,F k→k<w.heap.size:=fun k hk=>by
 obtain ⟨gs,gr,Fs,Fr,h1,h2,h3,_,_,_,hF⟩:=h;rcases (hF.1 k).1 hk with rfl|e|e
 ·exact h1.lt
 ·exact h2.lt k e
 ·exact h3.lt k e
theorem mH.Vt (h:mH w F ge c s r n):∀k,F.b k→F k:=fun k hk=>by
 obtain ⟨gs,gr,Fs,Fr,_,_,_,_,_,_,hF⟩:=h;exact (hF.1 k).2 (.inr (.inr ((hF.2 k).1 hk)))
theorem mH.stay (h:mH w F ge c s r n) (hk:∀k,F k→w'.heap[k]? =w.heap[k]?):mH w' F ge c s r n:=by
 obtain ⟨gs,gr,Fs,Fr,h1,h2,h3,h4,h5,h6,hF⟩:=h;exact ⟨gs,gr,Fs,Fr,(hk ge ((hF.1 ge).2 (.inl rfl))).trans h1,h2.stay fun k e=>hk k ((hF.1 k).2 (.inr (.inl e))),h3.stay fun k e=>hk k ((hF.1 k).2 (.inr (.inr e))),h4,h5,h6,hF⟩
theorem mH.below (h:mH w F ge c s r n) (hb:Below w.heap.size w w'):mH w' F ge c s r n:=h.stay fun k hk=>hb.block k (h.lt k hk)
theorem mH.same (h:mH w F ge c s r n):KU w F ge c s r n w:=⟨F,h,bR.refl _ _,fun _ e=>e,Kept.refl _ _⟩
theorem mH.snd (h1:au w ge 52 #[.pointer (some ⟨gs,0,none⟩),.pointer (some ⟨gr,0,none⟩)]) (_h2:yU w Fs gs c s) (h3:tT w Fr gr n c r) (h4:∀k,Fs k→¬Fr k) (h5:¬Fs ge) (h6:¬Fr ge) (hF:Rb F ge Fs Fr) (hG:NY w Fs gs c s' w'):KU w F ge c s' r n w':=by
 obtain ⟨Fs',a1,a2,a3⟩:=hG;refine ⟨⟨fun k=>k=ge∨Fs' k∨Fr k,Fr⟩,⟨gs,gr,Fs',Fr,(jA a3 h1.lt fun _ e=>h5 e.1).trans h1,a1,h3.stay fun k hk=>jA a3 (h3.lt k hk) fun _ e=>h4 k e.1 hk,fun k hk hk2=> ?_,fun e=> ?_,h6,fun _=>Iff.rfl,fun _=>Iff.rfl⟩,fun k hk=> ?_,fun k hk=>(hF.2 k).2 hk,a3.mono fun k _ e=>⟨(hF.1 k).2 (.inr (.inl e.1)),fun u=>absurd u e.2⟩⟩
 ·rcases a2 k hk with e|e
  ·exact h4 k e hk2
  ·have:=h3.lt k hk2;omega
 ·rcases a2 ge e with e|e
  ·exact h5 e
  ·have:=h1.lt;omega
 ·rcases hk with e|e|e
  ·exact .inl ((hF.1 k).2 (.inl e))
  ·rcases a2 k e with e|e
   ·exact .inl ((hF.1 k).2 (.inr (.inl e)))
   ·exact .inr e
  ·exact .inl ((hF.1 k).2 (.inr (.inr e)))
theorem mH.rcv (h1:au w ge 52 #[.pointer (some ⟨gs,0,none⟩),.pointer (some ⟨gr,0,none⟩)]) (h2:yU w Fs gs c s) (_h3:tT w Fr gr n c r) (h4:∀k,Fs k→¬Fr k) (h5:¬Fs ge) (h6:¬Fr ge) (hF:Rb F ge Fs Fr) (hG:Z5 w Fr gr n' c r' w'):KU w F ge c s r' n' w':=by
 obtain ⟨a1,a3⟩:=hG;exact ⟨F,⟨gs,gr,Fs,Fr,(jA a3 h1.lt fun _=>h6).trans h1,h2.stay fun k hk=>jA a3 (h2.lt k hk) fun _ e=>h4 k hk e,a1,h4,h5,h6,hF⟩,bR.refl _ _,fun _ e=>e,a3.mono fun k _ e=>⟨(hF.1 k).2 (.inr (.inr e)),fun _=>(hF.2 k).2 e⟩⟩
end
theorem mF (be:Nat) (w:World):
 CallsD Tryz.prog 49 #[.pointer (some ⟨be,0,none⟩)] .returning w fun e u' w'=>e= .returned (.tuple #[])∧u'= .returning∧w=w':=by
 have hnn:=run_eql_nil_nil (P:=Tryz.prog) w (t:=20) (by kernel_rfl);refine callsD_of_wpS Tryz.func49 rfl fun c₀ cs hu=> ?_
 apply wpS_seq;apply wpS_region;generalize hQ:Exit.thenS _ _=Q;simp[wpOpsS,go_sem,recoverD,hu,Tryz.ntmps49];subst hQ;simp only[Exit.thenS];refine wpS_of_wp ?_;rw[show (#[.pointer (some ⟨be,0,none⟩)]++((Array.replicate 18 undef).setIfInBounds 4 (.nilIface)).setIfInBounds 1 (.nilIface):Array Value)= #[.pointer (some ⟨be,0,none⟩),undef,.nilIface,undef,undef,.nilIface,undef,undef,undef,undef,undef,undef,undef,undef,undef,undef,undef,undef,undef] from by kernel_rfl];change Code.wp _ _ (iR Tryz.prog Tryz.f49 c₀ cs (c₀::cs) _) _ w;go_wp2;cases c₀
 simp_all [iR,bodyPostS,results,Tryz.results49]
set_option maxHeartbeats 400000 in
set_option maxRecDepth 100000 in
theorem kH (be:Nat) (er:Int) (v4:Value) (w:World) (he:au w be 53 #[v4]):
 CallsD Tryz.prog 49 #[.pointer (some ⟨be,0,none⟩)] (.panicking [{v:= .iface 53 (.int .i64 er),recovered:=false}]) w fun e u' w'=>e= .returned (.tuple #[])∧u'= .panicking [{v:= .iface 53 (.int .i64 er),recovered:=true}]∧
  w.setCell ⟨be,0,none⟩ (.int .i64 er)=w':=by
 have hnn:=run_eql_held_nil (P:=Tryz.prog) w 20 53 (.int .i64 er) (by kernel_rfl);have hta:=kL er w;refine callsD_of_wpS Tryz.func49 rfl fun c₀ cs hu=> ?_
 apply wpS_seq;apply wpS_region;generalize hQ:Exit.thenS _ _=Q;simp[wpOpsS,go_sem,recoverD,hu,Tryz.ntmps49];subst hQ;simp only[Exit.thenS];refine wpS_of_wp ?_;rw[show (#[.pointer (some ⟨be,0,none⟩)]++((Array.replicate 18 undef).setIfInBounds 4 (.iface 53 (.int .i64 er))).setIfInBounds 1 (.iface 53 (.int .i64 er)):Array Value)= #[.pointer (some ⟨be,0,none⟩),undef,.iface 53 (.int .i64 er),undef,undef,.iface 53 (.int .i64 er),undef,undef,undef,undef,undef,undef,undef,undef,undef,undef,undef,undef,undef] from by kernel_rfl];change Code.wp _ _ (iR Tryz.prog Tryz.f49 c₀ cs _ _) _ w;have c4:=he.cell 0;have f4:=he.frozen 0;simp at c4;go_wp2;exact ⟨rfl,_,rfl,.tuple #[],by simp[results,Tryz.results49],rfl,rfl,rfl⟩
theorem nD (r:Nat) (w:World) (h:au w r 53 #[.int .i64 0]):Calls Tryz.prog 50 #[.slice (some ⟨r,0,none⟩) 1 1] w fun e w'=>e= .returned (.tuple #[])∧w=w':=by
 have c0:=h.cell 0;simp at c0;clear h;go_enter Tryz.func50,Tryz.ntmps50;go_wp2
 go_loop [6] (fun i=>∃k:Nat,k≤1∧i= .int .i64 k) (fun i=>1-(intOf i).toNat)
 case atStart=>exact ⟨0,by decide,rfl⟩
 case round=>
  obtain ⟨k,hk,rfl⟩:=hrel;obtain rfl|rfl:k=0∨k=1:=by omega
  ·go_wp2
   go_round
   case rel=>exact ⟨1,by decide,by go_num⟩
   case measure=>simp[intOf]
  ·go_wp2
   go_end0
   exact ⟨rfl,rfl⟩
theorem ol (r:Nat) (er:Int) (KZ:(er !=0)=true) (w:World) (h:au w r 53 #[.int .i64 er]):Calls Tryz.prog 50 #[.slice (some ⟨r,0,none⟩) 1 1] w fun e w'=>e=raise er∧w=w':=by
 have c0:=h.cell 0;simp at c0;clear h;unfold raise;go_enter Tryz.func50,Tryz.ntmps50;go_wp2
 go_loop [6] (fun i=>i= .int .i64 0) (fun i=>1-(intOf i).toNat)
 case atStart=>rfl
 case round=>
  subst hrel;go_wp2;exact ⟨rfl,rfl,rfl⟩
end
section
open Go.RowKit Go.Shelf
attribute [local go_sem] Oper.semAt_some
def Sw (w:World) (a0 a1 a2 a3 a4 a5 a6:Int) (e:Ending) (w':World):Prop:=
 Below w.heap.size w w'∧
  ((dK a0 a1 a2 a3 a4 a5 a6=true∧∃s F,e= .returned (.tuple #[.pointer (some ⟨s,0,none⟩),.int .i64 0])∧(∀k,F k→w.heap.size≤k)∧tT w' F s 0 (vw a0 a1 a2 a3 a4 a5 a6) iN)∨(dK a0 a1 a2 a3 a4 a5 a6=false∧e= .returned (.tuple #[.pointer none,.int .i64 2])))
theorem Re (a0 a1 a2 a3 a4 a5 a6:Int) (w:World):Calls Tryz.prog 73 #[.agg (vW a0 a1 a2 a3 a4 a5 a6)] w (Sw w a0 a1 a2 a3 a4 a5 a6):=by
 refine (NR a0 a1 a2 a3 a4 a5 a6 w).mono ?_;rintro e w' ⟨hb,⟨h1,g,M,T,he,hR,hT⟩|h⟩
 ·exact ⟨hb,.inl ⟨h1,g,_,he,hT,tT.of hR⟩⟩
 ·exact ⟨hb,.inr h⟩
theorem zx {w:World} {c:Nat} {a0 a1 a2 a3 a4 a5 a6:Int} (hc:au w c 23 (vW a0 a1 a2 a3 a4 a5 a6)):w.cell? ⟨c,0,none⟩=some (.int .i64 a0)∧w.cell? ⟨c,1,none⟩=some (.int .i64 a1)∧w.cell? ⟨c,2,none⟩=some (.int .i64 a2)∧w.cell? ⟨c,3,none⟩=some (.int .i64 a3)∧w.cell? ⟨c,4,none⟩=some (.int .i64 a4)∧w.cell? ⟨c,5,none⟩=some (.int .i64 a5)∧w.cell? ⟨c,6,none⟩=some (.int .i64 a6):=
 ⟨hc.cell 0,hc.cell 1,hc.cell 2,hc.cell 3,hc.cell 4,hc.cell 5,hc.cell 6⟩
set_option maxRecDepth 100000 in
theorem Vu (a0 a1 a2 a3 a4 a5 a6:Int) (c:Nat) (w:World) (hc:au w c 23 (vW a0 a1 a2 a3 a4 a5 a6)):Calls Tryz.prog 69 #[.pointer (some ⟨c,0,none⟩)] w (YB w a0 a1 a2 a3 a4 a5 a6):=by
 have hcall:=Qt a0 a1 a2 a3 a4 a5 a6 w;obtain ⟨x0,x1,x2,x3,x4,x5,x6⟩:=zx hc;unfold vW at hcall;have BK:=Lib.hid hcall;clear hc hcall;go_enter Tryz.func69,Tryz.ntmps69;go_wp2_with fail;refine BK.out.mono ?_;rintro e1 w1 ⟨hk,⟨hr,s,rfl,hs,hb,ho⟩|⟨hr,rfl⟩⟩
 ·go_wp2
  go_ret2
  exact ⟨hk,.inl ⟨hr,_,rfl,hs,hb,ho⟩⟩
 ·go_wp2
  go_ret2
  exact ⟨hk,.inr ⟨hr,rfl⟩⟩
set_option maxRecDepth 100000 in
theorem Vv (a0 a1 a2 a3 a4 a5 a6:Int) (c:Nat) (w:World) (hc:au w c 23 (vW a0 a1 a2 a3 a4 a5 a6)):Calls Tryz.prog 72 #[.pointer (some ⟨c,0,none⟩)] w (Sw w a0 a1 a2 a3 a4 a5 a6):=by
 have hcall:=Re a0 a1 a2 a3 a4 a5 a6 w;obtain ⟨x0,x1,x2,x3,x4,x5,x6⟩:=zx hc;unfold vW at hcall;have BK:=Lib.hid hcall;clear hc hcall;go_enter Tryz.func72,Tryz.ntmps72;go_wp2_with fail;refine BK.out.mono ?_;rintro e1 w1 ⟨hk,⟨hr,s,F,rfl,hs,hb⟩|⟨hr,rfl⟩⟩
 ·go_wp2
  go_ret2
  exact ⟨hk,.inl ⟨hr,_,F,rfl,hs,hb⟩⟩
 ·go_wp2
  go_ret2
  exact ⟨hk,.inr ⟨hr,rfl⟩⟩
def aep (w:World) (a0 a1 a2 a3 a4 a5 a6:Int) (e:Ending) (w':World):Prop:=
 Below w.heap.size w w'∧((dK a0 a1 a2 a3 a4 a5 a6=true∧∃s,e= .returned (.pointer (some ⟨s,0,none⟩))∧w.heap.size≤s∧yU w' (·=s) s (vw a0 a1 a2 a3 a4 a5 a6) dB)∨(dK a0 a1 a2 a3 a4 a5 a6=false∧e=raise 2))
theorem Vw (a0 a1 a2 a3 a4 a5 a6:Int) (c:Nat) (w:World) (hc:au w c 23 (vW a0 a1 a2 a3 a4 a5 a6)):Calls Tryz.prog 68 #[.func (.func 69) #[] #[.pointer (some ⟨c,0,none⟩)]] w (aep w a0 a1 a2 a3 a4 a5 a6):=by
 have hcall:=Vu a0 a1 a2 a3 a4 a5 a6 c w hc;have BK:=Lib.hid hcall;clear hc hcall;go_enter Tryz.func68,Tryz.ntmps68;go_wp2_with fail;refine BK.out.mono ?_;rintro e1 w1 ⟨hk,⟨hr,s,rfl,hs,hb,_⟩|⟨hr,rfl⟩⟩
 ·have HK:=Lib.hid hk;have HBF:=Lib.hid hb;have hm:=nD w1.heap.size _ (au.new w1 53 #[.int .i64 0]);have HM:=Lib.hid hm;clear hk hm hb;go_wp2_with (go_at_call 50;refine HM.out.mono ?_;rintro e2 w2 ⟨rfl,rfl⟩);go_ret;exact ⟨HK.out.alloc HK.out.size _,.inl ⟨hr,_,rfl,hs,HBF.out.below ((Below.refl _ w1).alloc (Nat.le_refl _) _)⟩⟩
 ·have HK:=Lib.hid hk;have hm:=ol w1.heap.size 2 (by decide) _ (au.new w1 53 #[.int .i64 2]);have HM:=Lib.hid hm;clear hk hm;go_wp2_with (go_at_call 50;refine HM.out.mono ?_;rintro e2 w2 ⟨rfl,rfl⟩);exact ⟨rfl,HK.out.alloc HK.out.size _,.inr ⟨hr,rfl⟩⟩
def aes (w:World) (a0 a1 a2 a3 a4 a5 a6:Int) (e:Ending) (w':World):Prop:=
 Below w.heap.size w w'∧((dK a0 a1 a2 a3 a4 a5 a6=true∧∃s F,e= .returned (.pointer (some ⟨s,0,none⟩))∧(∀k,F k→w.heap.size≤k)∧tT w' F s 0 (vw a0 a1 a2 a3 a4 a5 a6) iN)∨(dK a0 a1 a2 a3 a4 a5 a6=false∧e=raise 2))
theorem Vx (a0 a1 a2 a3 a4 a5 a6:Int) (c:Nat) (w:World) (hc:au w c 23 (vW a0 a1 a2 a3 a4 a5 a6)):Calls Tryz.prog 71 #[.func (.func 72) #[] #[.pointer (some ⟨c,0,none⟩)]] w (aes w a0 a1 a2 a3 a4 a5 a6):=by
 have hcall:=Vv a0 a1 a2 a3 a4 a5 a6 c w hc;have BK:=Lib.hid hcall;clear hc hcall;go_enter Tryz.func71,Tryz.ntmps71;go_wp2_with fail;refine BK.out.mono ?_;rintro e1 w1 ⟨hk,⟨hr,s,F,rfl,hs,hb⟩|⟨hr,rfl⟩⟩
 ·have HK:=Lib.hid hk;have HBF:=Lib.hid hb;have hm:=nD w1.heap.size _ (au.new w1 53 #[.int .i64 0]);have HM:=Lib.hid hm;clear hk hm hb;go_wp2_with (go_at_call 50;refine HM.out.mono ?_;rintro e2 w2 ⟨rfl,rfl⟩);go_ret;exact ⟨HK.out.alloc HK.out.size _,.inl ⟨hr,_,F,rfl,hs,HBF.out.below ((Below.refl _ w1).alloc (Nat.le_refl _) _)⟩⟩
 ·have HK:=Lib.hid hk;have hm:=ol w1.heap.size 2 (by decide) _ (au.new w1 53 #[.int .i64 2]);have HM:=Lib.hid hm;clear hk hm;go_wp2_with (go_at_call 50;refine HM.out.mono ?_;rintro e2 w2 ⟨rfl,rfl⟩);exact ⟨rfl,HK.out.alloc HK.out.size _,.inr ⟨hr,rfl⟩⟩
def N6 (w:World) (a0 a1 a2 a3 a4 a5 a6:Int) (e:Ending) (w':World):Prop:=
 Below w.heap.size w w'∧
  (
   (dK a0 a1 a2 a3 a4 a5 a6=true∧∃ge,∃F:Fp,e= .returned (.tuple #[.pointer (some ⟨ge,0,none⟩),.int .i64 0])∧mH w' F ge (vw a0 a1 a2 a3 a4 a5 a6) dB iN 0∧∀k,F k→w.heap.size≤k)∨
   (dK a0 a1 a2 a3 a4 a5 a6=false∧e= .returned (.tuple #[.pointer none,.int .i64 2])))
theorem FR (w W:World) (a0 a1 a2 a3 a4 a5 a6:Int) (T:Array Value) (v4:Value) (h2:T[2]? =some (.pointer none)) (h3:T[3]? =some (.pointer (some ⟨w.heap.size+1,0,none⟩)))
 (he:au W (w.heap.size+1) 53 #[v4]) (hB:Below w.heap.size w W) (hR:dK a0 a1 a2 a3 a4 a5 a6=false):
 bodyPostD Tryz.prog Tryz.f38 (N6 w a0 a1 a2 a3 a4 a5 a6) (.panic [{v:= .iface 53 (.int .i64 2),recovered:=false}]) {tmps:=T,defers:= [{target:= .fn (.func 49) #[],args:= #[.pointer (some ⟨w.heap.size+1,0,none⟩)]}]} W:=by
 refine leaves_cons (f:=49) (args:= #[.pointer (some ⟨w.heap.size+1,0,none⟩)]) (by simp) (by simp[go_sem]) ?_;refine (kH _ (2:Int) _ W he).mono ?_;rintro e u' w'' ⟨rfl,rfl,rfl⟩;have c4:=(he.av 0 (.int .i64 2)).cell 0;simp at c4;refine ⟨.tuple #[.pointer none,.int .i64 2],?_,hB.setCell (p:=⟨w.heap.size+1,0,none⟩) (by simp) _,.inr ⟨hR,rfl⟩⟩;simp[results,Tryz.results38,go_sem,h2,h3,c4]
set_option maxRecDepth 100000 in
set_option maxHeartbeats 1000000 in
theorem KV (a0 a1 a2 a3 a4 a5 a6:Int) (w:World):Calls Tryz.prog 38 #[.agg (vW a0 a1 a2 a3 a4 a5 a6)] w (N6 w a0 a1 a2 a3 a4 a5 a6):=by
 have hB0:=((Below.refl w.heap.size w).alloc (Nat.le_refl _) (.cells (vW a0 a1 a2 a3 a4 a5 a6) 23)).alloc (by simp) (.cells #[.int .i64 0] 53);have bc0:=(au.new w 23 (vW a0 a1 a2 a3 a4 a5 a6)).alloc (.cells #[.int .i64 0] 53);have wD:au ((w.alloc (.cells (vW a0 a1 a2 a3 a4 a5 a6) 23)).alloc (.cells #[.int .i64 0] 53)) (w.heap.size+1) 53 #[.int .i64 0]:=by simpa using au.new (w.alloc (.cells (vW a0 a1 a2 a3 a4 a5 a6) 23)) 53 #[.int .i64 0]
 unfold vW at*;have HB0:=Lib.hid hB0;have BC0:=Lib.hid bc0;have BE0:=Lib.hid wD;clear hB0 bc0 wD
 go_enter_defers Tryz.func38,Tryz.ntmps38
 go_wp2_with fail;generalize (w.alloc (.cells #[.int .i64 a0,.int .i64 a1,.int .i64 a2,.int .i64 a3,.int .i64 a4,.int .i64 a5,.int .i64 a6] 23)).alloc (.cells #[.int .i64 0] 53)=w0 at*;refine (Vw a0 a1 a2 a3 a4 a5 a6 w.heap.size w0 BC0.out).mono ?_;rintro e1 w1 ⟨hk1,h1⟩;have hB1:Below w.heap.size w w1:=HB0.out.trans (hk1.mono HB0.out.size);have bc1:au w1 w.heap.size 23 (vW a0 a1 a2 a3 a4 a5 a6):=BC0.out.below hk1 BC0.out.lt;have rT:=BE0.out.below hk1 BE0.out.lt;have akY:=BE0.out.lt;have hsz:=HB0.out.size;clear hk1 HB0 BC0 BE0;rcases h1 with ⟨hr,s,rfl,hs,hb⟩|⟨hr,rfl⟩
 ·have BC:=Lib.hid bc1;have BE:=Lib.hid rT;have HB:=Lib.hid hB1;have HS:=Lib.hid hb;have hsl:=hb.lt s rfl;clear bc1 rT hB1 hb;go_wp2_with fail;refine (Vx a0 a1 a2 a3 a4 a5 a6 w.heap.size w1 BC.out).mono ?_;rintro e2 w2 ⟨hk2,h2⟩;rcases h2 with ⟨_,r,Fr,rfl,hFr,hrf⟩|⟨hr',_⟩
  ·have hz2:=hk2.size;have hB2:Below w.heap.size w w2:=HB.out.trans (hk2.mono HB.out.size);have oV:=BE.out.below hk2 BE.out.lt;have hs2:=HS.out.below hk2;have N7:∀k,k≠w.heap.size+1→k<w2.heap.size→((w2.setCell ⟨w.heap.size+1,0,none⟩ (.int .i64 0)).alloc (.cells #[.pointer (some ⟨s,0,none⟩),.pointer (some ⟨r,0,none⟩)] 52)).heap[k]? =w2.heap[k]? :=fun k hk hl=>(Below.heap_alloc _ _ _ (by simpa using hl)).trans (Below.heap_setCell _ _ _ _ hk)
   have hs3:=hs2.stay (w':=(w2.setCell ⟨w.heap.size+1,0,none⟩ (.int .i64 0)).alloc (.cells #[.pointer (some ⟨s,0,none⟩),.pointer (some ⟨r,0,none⟩)] 52)) fun k hk=>by
    have e:k=s:=hk;subst e;exact N7 k (by omega) (by omega)
   have hr3:=hrf.stay (w':=(w2.setCell ⟨w.heap.size+1,0,none⟩ (.int .i64 0)).alloc (.cells #[.pointer (some ⟨s,0,none⟩),.pointer (some ⟨r,0,none⟩)] 52)) fun k hk=>N7 k (by have:=hFr k hk;omega) (hrf.lt k hk)
   have hB3:=(hB2.setCell (p:=⟨w.heap.size+1,0,none⟩) (by simp) (.int .i64 0)).alloc (by have:=hB2.size;simpa using this) (.cells #[.pointer (some ⟨s,0,none⟩),.pointer (some ⟨r,0,none⟩)] 52);have hzz:(w2.setCell ⟨w.heap.size+1,0,none⟩ (.int .i64 0)).heap.size=w2.heap.size:=by simp
   have ba3:=au.new (w2.setCell ⟨w.heap.size+1,0,none⟩ (.int .i64 0)) 52 #[.pointer (some ⟨s,0,none⟩),.pointer (some ⟨r,0,none⟩)];rw[hzz] at ba3;clear hzz;have nK:=(oV.av 0 (.int .i64 0)).alloc (.cells #[.pointer (some ⟨s,0,none⟩),.pointer (some ⟨r,0,none⟩)] 52);have hen:mH ((w2.setCell ⟨w.heap.size+1,0,none⟩ (.int .i64 0)).alloc (.cells #[.pointer (some ⟨s,0,none⟩),.pointer (some ⟨r,0,none⟩)] 52)) ⟨fun k=>k=w2.heap.size∨k=s∨Fr k,Fr⟩ w2.heap.size (vw a0 a1 a2 a3 a4 a5 a6) dB iN 0:=
    ⟨s,r,(·=s),Fr,ba3,hs3,hr3,fun k hk hk2=>by have e:k=s:=hk;have:=hFr k hk2;omega,fun e=>by have e':w2.heap.size=s:=e;omega,fun e=>by have:=hrf.lt _ e;omega,fun k=>Iff.rfl,fun k=>Iff.rfl⟩
   have hge:∀k,k=w2.heap.size∨k=s∨Fr k→w.heap.size≤k:=fun k hk=>by
    rcases hk with e|e|e
    ·omega
    ·omega
    ·have:=hFr k e;omega
   have hel:=oV.lt;have c4:=oV.cell 0;have f4:=oV.frozen 0;have c5:=nK.cell 0;simp at c4 c5;have H3:=Lib.hid hB3;have Hf:=Lib.hid hen;have HGE:=Lib.hid hge;have HC5:=Lib.hid c5;clear hB3 ba3 hs3 hr3 nK oV hs2 hB2 hk2 BE HB HS BC c5 hen hge N7 hrf hFr;go_wp2;refine leaves_cons (f:=49) (args:= #[.pointer (some ⟨w.heap.size+1,0,none⟩)]) (by simp) (by simp[go_sem]) ?_;refine (mF _ _).mono ?_;rintro e9 u9 w9 ⟨rfl,rfl,rfl⟩;have q:=HC5.out;refine ⟨.tuple #[.pointer (some ⟨w2.heap.size,0,none⟩),.int .i64 0],by simp[results,Tryz.results38,go_sem,q],H3.out,.inl ⟨hr,_,_,rfl,Hf.out,HGE.out⟩⟩
  ·rw[hr] at hr';cases hr'
 ·go_wp2;exact FR w _ a0 a1 a2 a3 a4 a5 a6 _ _ rfl rfl rT hB1 hr
end
section
open Go.RowKit Go.Shelf
attribute [local go_sem] Oper.semAt_some
theorem Z6 (u0 u1 u2 u3 u4 u5 u6 u7 u8 u9:Value) (w:World):(Instr.field 65 (.agg #[u0,u1,u2,u3,u4,u5,u6,u7,u8,u9]) 8).run Tryz.prog w= .ok u8 w:=by kernel_rfl
theorem Z7 (u0 u1 u2 u3 u4 u5 u6 u7 u8 u9:Value) (w:World):(Instr.field 65 (.agg #[u0,u1,u2,u3,u4,u5,u6,u7,u8,u9]) 9).run Tryz.prog w= .ok u9 w:=by kernel_rfl
attribute [local go_sem] Z6 Z7
section
variable {w:World} {gs gr ge n K:Nat} {c:Cf} {s:Sd} {r:Rc} {Fs Fr:Nat→Prop} {F:Fp}
theorem nE (h:au w ge 52 #[.pointer (some ⟨gs,0,none⟩),.pointer (some ⟨gr,0,none⟩)]):Calls Tryz.prog 48 #[.pointer (some ⟨ge,0,none⟩)] w fun e w'=>e= .returned (.bool false)∧w=w':=by
 have x1:=h.cell 1;simp at x1;clear h;go_enter Tryz.func48,Tryz.ntmps48;go_wp2;go_ret;exact ⟨rfl,rfl⟩
set_option maxHeartbeats 1000000 in
theorem tV (h:mH w F ge c s r n) (ho:fH c s K):Calls Tryz.prog 27 #[.pointer (some ⟨ge,0,none⟩)] w fun e w'=>e= .returned (.agg (Oy s))∧Below w.heap.size w w':=by
 obtain ⟨gs,gr,Fs,Fr,h1,h2,_⟩:=h;have hB:=(Below.refl w.heap.size w).alloc (Nat.le_refl _) (.cells #[.int .i64 0,.int .i64 0,.int .i64 0,.int .i64 0,.int .i64 0,.bool false,.int .i64 0,.bool false,.int .i64 0,.bool false] 65);have HZ:=Lib.hid (au.new w 65 #[.int .i64 0,.int .i64 0,.int .i64 0,.int .i64 0,.int .i64 0,.bool false,.int .i64 0,.bool false,.int .i64 0,.bool false]);have h1':=h1.alloc (.cells #[.int .i64 0,.int .i64 0,.int .i64 0,.int .i64 0,.int .i64 0,.bool false,.int .i64 0,.bool false,.int .i64 0,.bool false] 65);have x0:=h1'.cell 0;simp at x0;have HN:=Lib.hid (nE h1');have hS:=Kr (h2.below hB) ho;unfold Oy at hS ⊢;generalize (if s.wait=true then ((s.polled:Nat):Int) else 0)=q1 at hS ⊢;generalize (if s.wait=true then s.fE else 0)=q2 at hS ⊢;have HS:=Lib.hid hS;have HB:=Lib.hid hB;clear h1 h2 ho hS hB h1';go_enter Tryz.func27,Tryz.ntmps27;go_wp2_with (go_at_call 48;refine HN.out.mono ?_;rintro e1 w1 ⟨rfl,rfl⟩);generalize w.alloc (.cells #[.int .i64 0,.int .i64 0,.int .i64 0,.int .i64 0,.int .i64 0,.bool false,.int .i64 0,.bool false,.int .i64 0,.bool false] 65)=w0 at*;refine HS.out.mono ?_;rintro e2 w2 ⟨rfl,hb2⟩;have hz2:=HZ.out.below hb2 HZ.out.lt;have hbk:Below w.heap.size w w2:=HB.out.trans (hb2.mono HB.out.size)
 have hr:au ((((((((((w2.setCell ⟨w.heap.size,0,none⟩ (.int .i64 (s.first:Nat))).setCell ⟨w.heap.size,1,none⟩ (.int .i64 (bJ s:Nat))).setCell ⟨w.heap.size,2,none⟩ (.int .i64 (s.dD:Nat))).setCell ⟨w.heap.size,3,none⟩ (.int .i64 (s.bytes:Nat))).setCell ⟨w.heap.size,4,none⟩ (.int .i64 q1)).setCell ⟨w.heap.size,5,none⟩ (.bool s.wait)).setCell ⟨w.heap.size,6,none⟩ (.int .i64 q2)).setCell ⟨w.heap.size,7,none⟩ (.bool s.dW)).setCell ⟨w.heap.size,8,none⟩ (.int .i64 (s.done:Nat))).setCell ⟨w.heap.size,9,none⟩ (.bool s.failed)) w.heap.size 65 #[.int .i64 (s.first:Nat),.int .i64 (bJ s:Nat),.int .i64 (s.dD:Nat),.int .i64 (s.bytes:Nat),.int .i64 q1,.bool s.wait,.int .i64 q2,.bool s.dW,.int .i64 (s.done:Nat),.bool s.failed]:=by simpa using ((((((((((hz2.av 0 (.int .i64 (s.first:Nat))).av 1 (.int .i64 (bJ s:Nat))).av 2 (.int .i64 (s.dD:Nat))).av 3 (.int .i64 (s.bytes:Nat))).av 4 (.int .i64 q1)).av 5 (.bool s.wait)).av 6 (.int .i64 q2)).av 7 (.bool s.dW)).av 8 (.int .i64 (s.done:Nat))).av 9 (.bool s.failed))
 have c0:=hr.cell 0;have c1:=hr.cell 1;have c2:=hr.cell 2;have c3:=hr.cell 3;have c4:=hr.cell 4;have c5:=hr.cell 5;have c6:=hr.cell 6;have c7:=hr.cell 7;have c8:=hr.cell 8;have c9:=hr.cell 9;simp at c0 c1 c2 c3 c4 c5 c6 c7 c8 c9;have HC:=Lib.hid (And.intro c0 (And.intro c1 (And.intro c2 (And.intro c3 (And.intro c4 (And.intro c5 (And.intro c6 (And.intro c7 (And.intro c8 c9)))))))));clear c0 c1 c2 c3 c4 c5 c6 c7 c8 c9 hr;have HR:=Lib.hid ((((((((((hbk.setCell (p:=⟨w.heap.size,0,none⟩) (Nat.le_refl _) (.int .i64 (s.first:Nat))).setCell (p:=⟨w.heap.size,1,none⟩) (Nat.le_refl _) (.int .i64 (bJ s:Nat))).setCell (p:=⟨w.heap.size,2,none⟩) (Nat.le_refl _) (.int .i64 (s.dD:Nat))).setCell (p:=⟨w.heap.size,3,none⟩) (Nat.le_refl _) (.int .i64 (s.bytes:Nat))).setCell (p:=⟨w.heap.size,4,none⟩) (Nat.le_refl _) (.int .i64 q1)).setCell (p:=⟨w.heap.size,5,none⟩) (Nat.le_refl _) (.bool s.wait)).setCell (p:=⟨w.heap.size,6,none⟩) (Nat.le_refl _) (.int .i64 q2)).setCell (p:=⟨w.heap.size,7,none⟩) (Nat.le_refl _) (.bool s.dW)).setCell (p:=⟨w.heap.size,8,none⟩) (Nat.le_refl _) (.int .i64 (s.done:Nat))).setCell (p:=⟨w.heap.size,9,none⟩) (Nat.le_refl _) (.bool s.failed));have z0:=hz2.cell 0;have f0:=hz2.frozen 0;have z1:=hz2.cell 1;have f1:=hz2.frozen 1;have z2:=hz2.cell 2;have f2:=hz2.frozen 2;have z3:=hz2.cell 3;have f3:=hz2.frozen 3;have z4:=hz2.cell 4;have f4:=hz2.frozen 4;have z5:=hz2.cell 5;have f5:=hz2.frozen 5;have z6:=hz2.cell 6;have f6:=hz2.frozen 6;have z7:=hz2.cell 7
 have f7:=hz2.frozen 7;have z8:=hz2.cell 8;have f8:=hz2.frozen 8;have z9:=hz2.cell 9;have f9:=hz2.frozen 9;simp at z0 z1 z2 z3 z4 z5 z6 z7 z8 z9;clear hz2 hbk hb2;go_wp2;obtain ⟨c0,c1,c2,c3,c4,c5,c6,c7,c8,c9⟩:=HC.out;refine bodyPost_ret (v:= .agg #[.int .i64 (s.first:Nat),.int .i64 (bJ s:Nat),.int .i64 (s.dD:Nat),.int .i64 (s.bytes:Nat),.int .i64 q1,.bool s.wait,.int .i64 q2,.bool s.dW,.int .i64 (s.done:Nat),.bool s.failed]) ?_ rfl ?_
 ·simp[results,Tryz.results27,go_sem,c0,c1,c2,c3,c4,c5,c6,c7,c8,c9]
 ·exact ⟨rfl,HR.out⟩
theorem FT (h:mH w F ge c s r n) (ho:fH c s K):Calls Tryz.prog 16 #[.pointer (some ⟨ge,0,none⟩)] w fun e w'=>e= .returned (.bool s.failed)∧Below w.heap.size w w':=by
 have hs:=tV h ho;unfold Oy at hs;generalize (if s.wait=true then ((s.polled:Nat):Int) else 0)=q1 at hs;generalize (if s.wait=true then s.fE else 0)=q2 at hs;have HS:=Lib.hid hs;clear h ho hs;go_enter Tryz.func16,Tryz.ntmps16;go_wp2_with (go_at_call 27;refine HS.out.mono ?_;rintro e2 w2 ⟨rfl,hb2⟩);go_ret;exact ⟨rfl,hb2⟩
theorem zy (h:mH w F ge c s r n) (ho:fH c s K):Calls Tryz.prog 25 #[.pointer (some ⟨ge,0,none⟩)] w fun e w'=>e= .returned (.int .i64 (s.done:Nat))∧Below w.heap.size w w':=by
 have hs:=tV h ho;unfold Oy at hs;generalize (if s.wait=true then ((s.polled:Nat):Int) else 0)=q1 at hs;generalize (if s.wait=true then s.fE else 0)=q2 at hs;have HS:=Lib.hid hs;clear h ho hs;go_enter Tryz.func25,Tryz.ntmps25;go_wp2_with (go_at_call 27;refine HS.out.mono ?_;rintro e2 w2 ⟨rfl,hb2⟩);go_ret;exact ⟨rfl,hb2⟩
theorem DK (h:mH w F ge c s r n) (now:Int):Calls Tryz.prog 24 #[.pointer (some ⟨ge,0,none⟩),.int .i64 now] w fun e w'=>e= .returned (.bool (qG r now))∧Below w.heap.size w w':=by
 obtain ⟨gs,gr,Fs,Fr,h1,_,h3,_⟩:=h;have x1:=h1.cell 1;simp at x1;have HN:=Lib.hid (nE h1);have HS:=Lib.hid (vX h3 now);clear h1 h3;go_enter Tryz.func24,Tryz.ntmps24;go_wp2_with (first
  |(go_at_call 48;refine HN.out.mono ?_;rintro e1 w1 ⟨rfl,rfl⟩)
  |(go_at_call 53;refine HS.out.mono ?_;rintro e2 w2 ⟨rfl,hb2⟩))
 go_ret;exact ⟨rfl,hb2⟩
end
end
section
open Go.RowKit Go.Shelf
attribute [local go_sem] Oper.semAt_some
structure xk (w:World) (F F':Fp) (ge:Nat) (c:Cf) (s:Sd) (r:Rc) (n:Nat) (x:Value) (W:World):Prop where
 en:mH W F' ge c s r n
 gr:∀k,F' k→F k∨w.heap.size<k
 bs:∀k,F'.b k→F.b k
 kp:Kept (fun k o=>(F k∧(U8 o→F.b k))∨w.heap.size≤k) w W
 bx:au W w.heap.size 53 #[x]
 lt:∀k,F k→k<w.heap.size
section
variable {w W W':World} {ge n n2:Nat} {c:Cf} {s s2:Sd} {r r2:Rc} {F F':Fp} {x:Value}
theorem xk.start (h:mH w F ge c s r n) (x:Value):xk w F F ge c s r n x (w.alloc (.cells #[x] 53)):=
 ⟨h.below ((Below.refl _ w).alloc (Nat.le_refl _) _),fun _k hk=> .inl hk,fun _ e=>e,(Kept.refl _ w).alloc _,au.new w _ _,h.lt⟩
theorem xk.Z8 (h:xk w F F' ge c s r n x W):¬F' w.heap.size:=fun e=>by
 rcases h.gr _ e with e|e
 ·have:=h.lt _ e;omega
 ·omega
theorem xk.more (h:xk w F F' ge c s r n x W) (hb:Below W.heap.size W W'):xk w F F' ge c s r n x W':=
 ⟨h.en.below hb,h.gr,h.bs,h.kp.trans (Kept.dA hb),h.bx.below hb h.bx.lt,h.lt⟩
theorem xk.put (h:xk w F F' ge c s r n x W) (u:Value):xk w F F' ge c s r n u (W.setCell ⟨w.heap.size,0,none⟩ u):=
 ⟨h.en.stay fun k hk=>Below.heap_setCell _ _ _ _ fun e=>h.Z8 (by rw[←show k=w.heap.size from e];exact hk),h.gr,h.bs,h.kp.setCell (p:=⟨w.heap.size,0,none⟩) (fun _ _=> .inr (Nat.le_refl _)) u,by simpa using h.bx.av 0 u,h.lt⟩
theorem xk.call (h:xk w F F' ge c s r n x W) (hG:KU W F' ge c s2 r2 n2 W'):∃F2,xk w F F2 ge c s2 r2 n2 x W':=by
 obtain ⟨F2,a1,a2,ab,a3⟩:=hG;have hb:=h.bx.lt;refine ⟨F2,a1,fun k hk=> ?_,fun k hk=>h.bs k (ab k hk),h.kp.trans (a3.mono fun k o hk=> ?_),(jA a3 hb fun _ e=>h.Z8 e.1).trans h.bx,h.lt⟩
 ·rcases a2 k hk with e|e
  ·exact h.gr k e
  ·exact .inr (by omega)
 ·rcases h.gr k hk.1 with e|e
  ·exact .inl ⟨e,fun u=>h.bs k (hk.2 u)⟩
  ·exact .inr (by omega)
theorem xk.done (h:xk w F F' ge c s r n x W):KU w F ge c s r n W:=
 ⟨F',h.en,fun k hk=>(h.gr k hk).imp id fun e=>by omega,h.bs,h.kp.fA fun k o ho hk=>by
  rcases hk with e|e
  ·exact e
  ·have:=lt_of_heap ho;omega⟩
end
section
variable {w:World} {gs gr ge n K:Nat} {c:Cf} {s:Sd} {r:Rc} {Fs Fr:Nat→Prop} {F:Fp}
theorem FU (h:mH w F ge c s r n) (ho:fH c s K) {A:Option Addr} {m cc:Nat} {x:List UInt8} (hx:Sl w w.heap.size A m cc (bV x)):
 Calls Tryz.prog 21 #[.pointer (some ⟨ge,0,none⟩),.slice A m cc] w fun e w'=>e= .returned (.int .i64 (cZ c s x).2)∧KU w F ge c (cZ c s x).1 r n w':=by
 obtain ⟨gs,gr,Fs,Fr,h1,h2,h3,h4,h5,h6,hF⟩:=h;have x0:=h1.cell 0;simp at x0;have HN:=Lib.hid (nE h1);have HS:=Lib.hid (IG h2 ho hx);have HE:=Lib.hid (fun w' (hG:NY w Fs gs c (cZ c s x).1 w')=>mH.snd h1 h2 h3 h4 h5 h6 hF hG);clear h1 h2 ho h3 h4 h5 h6 hF hx;go_enter Tryz.func21,Tryz.ntmps21;go_wp2_with (first
  |(go_at_call 48;refine HN.out.mono ?_;rintro e1 w1 ⟨rfl,rfl⟩)
  |(go_at_call 58;refine HS.out.mono ?_;rintro e2 w2 ⟨rfl,hG⟩))
 go_ret;exact ⟨rfl,HE.out _ hG⟩
end
end
section
open Go.RowKit Go.Shelf
attribute [local go_sem] Oper.semAt_some
section
variable {w:World} {gs gr ge n K:Nat} {c:Cf} {s:Sd} {r:Rc} {Fs Fr:Nat→Prop} {F:Fp}
def GrE (w:World) (F:Fp) (ge:Nat) (c:Cf) (n:Nat) (R:Sd × Rc × List UInt8 × Int) (e:Ending) (w':World):Prop:=
 ∃v,e= .returned (.tuple #[v,.int .i64 R.2.2.2])∧w'.ownsRow w.heap.size 5 1 v R.2.2.1.length (bV R.2.2.1)∧KU w F ge c R.1 R.2.1 n w'
theorem rR {Q:Ending→World→Prop} (W:World) (b:Nat) (v x:Value) (T:Array Value) (h6:T[6]? =some v) (h7:T[7]? =some (.pointer (some ⟨b,0,none⟩))) (he:au W b 53 #[x]) (hQ:Q (.returned (.tuple #[v,x])) W):
 bodyPostD Tryz.prog Tryz.f18 Q .ret {tmps:=T,defers:= [{target:= .fn (.func 49) #[],args:= #[.pointer (some ⟨b,0,none⟩)]}]} W:=by
 refine leaves_cons (f:=49) (args:= #[.pointer (some ⟨b,0,none⟩)]) (by simp) (by simp[go_sem]) ?_;refine (mF _ _).mono ?_;rintro e9 u9 w9 ⟨rfl,rfl,rfl⟩;have c0:=he.cell 0;simp at c0;exact ⟨.tuple #[v,x],by simp[results,Tryz.results18,go_sem,h6,h7,c0],hQ⟩
theorem DL {Q:Ending→World→Prop} (W:World) (b:Nat) (v x:Value) (er:Int) (T:Array Value) (h6:T[6]? =some v) (h7:T[7]? =some (.pointer (some ⟨b,0,none⟩))) (he:au W b 53 #[x]) (hQ:Q (.returned (.tuple #[v,.int .i64 er])) (W.setCell ⟨b,0,none⟩ (.int .i64 er))):
 bodyPostD Tryz.prog Tryz.f18 Q (.panic [{v:= .iface 53 (.int .i64 er),recovered:=false}]) {tmps:=T,defers:= [{target:= .fn (.func 49) #[],args:= #[.pointer (some ⟨b,0,none⟩)]}]} W:=by
 refine leaves_cons (f:=49) (args:= #[.pointer (some ⟨b,0,none⟩)]) (by simp) (by simp[go_sem]) ?_;refine (kH _ er _ W he).mono ?_;rintro e u' w'' ⟨rfl,rfl,rfl⟩;have c0:=(he.av 0 (.int .i64 er)).cell 0;simp at c0;exact ⟨.tuple #[v,.int .i64 er],by simp[results,Tryz.results18,go_sem,h6,h7,c0],hQ⟩
set_option maxRecDepth 100000 in
set_option maxHeartbeats 2000000 in
theorem IJ (h:mH w F ge c s r n) (ho:fH c s K) (hK:K≤80000) (hr:vC c r) (now N:Int) (gQ:now≤9223372036854775807) (hN:N≤9223372036854775807):
 Calls Tryz.prog 18 #[.pointer (some ⟨ge,0,none⟩),.int .i64 now,.int .i64 N] w (GrE w F ge c n (dV c s r now N)):=by
 have hE:=xk.start h (.int .i64 0);have hF:=FT hE.en ho;obtain ⟨gs,gr,Fs,Fr,h1,h2,h3,h4,h5,h6,D4⟩:=id hE.en;have HN:=Lib.hid (nE h1);have HE:=Lib.hid hE;obtain ⟨fl,hfl⟩:∃fl,s.failed=fl:=⟨_,rfl⟩
 rw[hfl] at hF;have HF:=Lib.hid hF;cases fl with
 |true=>
  have hfin:dV c s r now N=(s,r,[],8):=by unfold dV;rw[if_pos hfl]
  rw[hfin];clear h ho hr hE hF h1 h2 h3 h4 h5 h6 D4 hfl hfin
  go_enter_defers Tryz.func18,Tryz.ntmps18
  go_wp2_with (go_at_call 48;refine HN.out.mono ?_;rintro e1 w1 ⟨rfl,rfl⟩);refine HF.out.mono ?_;rintro e2 w2 ⟨rfl,hb2⟩;have hE2:=HE.out.more hb2;have c0:=hE2.bx.cell 0;have f0:=hE2.bx.frozen 0;have N8:=hE2.put (.int .i64 8);have c3:=N8.bx.cell 0;simp at c0 c3;go_wp2_with fail;exact ⟨.tuple #[.slice none 0 0,.int .i64 8],by simp[results,Tryz.results18,go_sem,c3],_,rfl,World.ownsRow_nil _ _ _ _,N8.done⟩
 |false=>
  by_cases hn:N<0
  ·have hfin:dV c s r now N=(s,r,[],2):=by unfold dV;rw[if_neg (by simp[hfl]),if_pos hn]
   rw[hfin];clear h ho hr hE hF h1 h2 h3 h4 h5 h6 D4 hfl hfin
   go_enter_defers Tryz.func18,Tryz.ntmps18
   go_wp2_with (go_at_call 48;refine HN.out.mono ?_;rintro e1 w1 ⟨rfl,rfl⟩);refine HF.out.mono ?_;rintro e2 w2 ⟨rfl,hb2⟩;have hE2:=HE.out.more hb2;have c0:=hE2.bx.cell 0;have f0:=hE2.bx.frozen 0;have N8:=hE2.put (.int .i64 2);have c3:=N8.bx.cell 0;simp at c0 c3;go_wp2_with fail;exact ⟨.tuple #[.slice none 0 0,.int .i64 2],by simp[results,Tryz.results18,go_sem,c3],_,rfl,World.ownsRow_nil _ _ _ _,N8.done⟩
  ·have hn':decide (N<0)=false:=decide_eq_false hn;obtain ⟨R,hR⟩:∃R,iF c s now=R:=⟨_,rfl⟩
   obtain ⟨G,hGG⟩:∃G,dV c s r now N=G:=⟨_,rfl⟩
   have hfin:dV c s r now N=if R.2≠0 then (R.1,r,[],R.2)
    else if qG (dP c r now) now=true∧2≤N then (R.1,(fu c (dP c r now) now N).1,(fu c (dP c r now) now N).2.1,((fu c (dP c r now) now N).2.2:Nat))
    else ((dh c R.1 now N).1,dP c r now,Qx (dh c R.1 now N).2.1,(dh c R.1 now N).2.2):=by
    unfold dV;rw[if_neg (by simp[hfl]),if_neg hn,hR]
   rw[hGG] at hfin ⊢;have ho2:=ho.tick now gQ;rw[hR] at ho2;have iW:=Lib.hid hfin;have HO:=Lib.hid ho;have OC:=Lib.hid ho2;have HR:=Lib.hid hr;have HRR:=Lib.hid hR;clear h ho ho2 hr hE hF h1 h2 h3 h4 h5 h6 D4 hfl hfin hR hGG
   go_enter_defers Tryz.func18,Tryz.ntmps18
   go_wp2_with (go_at_call 48;refine HN.out.mono ?_;rintro e1 w1 ⟨rfl,rfl⟩);refine HF.out.mono ?_;rintro e2 w2 ⟨rfl,hb2⟩;have hE2:=HE.out.more hb2;obtain ⟨gs2,gr2,Fs2,Fr2,h1,h2,h3,h4,h5,h6,D4⟩:=id hE2.en;have x0:=h1.cell 0;simp at x0;have hT:=NZ h2 HO.out (by omega) now gQ;rw[HRR.out] at hT;have HT:=Lib.hid hT;have HS:=Lib.hid (fun w' (hG:NY w2 Fs2 gs2 c R.1 w')=>hE2.call (mH.snd h1 h2 h3 h4 h5 h6 D4 hG));clear hE2 h1 h2 h3 h4 h5 h6 D4 hT hb2 HN HE HF HO;go_wp2_with fail;refine HT.out.mono ?_;rintro e3 w3 ⟨rfl,hG⟩;obtain ⟨F3,N8⟩:=HS.out _ hG;have Sy:=Lib.hid (N8.more ((Below.refl _ w3).alloc (Nat.le_refl _) (.cells #[.int .i64 R.2] 53)));clear N8 hG HS HT x0 HRR;obtain ⟨R1,R2⟩:=R;dsimp only at Sy iW OC ⊢;by_cases KZ:R2=0
   ·subst KZ;have HM:=Lib.hid (nD w3.heap.size _ (au.new w3 53 #[.int .i64 0]));obtain ⟨gs4,gr4,Fs4,Fr4,h1,h2,h3,h4,h5,h6,D4⟩:=id Sy.out.en;have x1:=h1.cell 1;simp at x1;have HT:=Lib.hid (N5 h3 HR.out now gQ);have HS:=Lib.hid (fun w' (hG:Z5 (w3.alloc (.cells #[.int .i64 0] 53)) Fr4 gr4 n c (dP c r now) w')=>Sy.out.call (mH.rcv h1 h2 h3 h4 h5 h6 D4 hG));clear h1 h2 h3 h4 h5 h6 D4 Sy;go_wp2_with (go_at_call 50;refine HM.out.mono ?_;rintro e4 w4 ⟨rfl,rfl⟩);refine HT.out.mono ?_;rintro e5 w5 ⟨rfl,wQ⟩;obtain ⟨F5,hE5⟩:=HS.out _ wQ;have HE6:=Lib.hid (hE5.more ((Below.refl _ w5).alloc (Nat.le_refl _) (.cells #[.int .i64 0] 53)));have Ux:=Lib.hid (nD w5.heap.size _ (au.new w5 53 #[.int .i64 0]));obtain ⟨gs6,gr6,Fs6,Fr6,h1,h2,h3,h4,h5,h6,D4⟩:=id HE6.out.en;have y0:=h1.cell 0;have y1:=h1.cell 1;simp at y0 y1;have HP:=Lib.hid (vX h3 now);clear hE5 wQ HS HT HM x1 h1 h2 h3 h4 h5 h6 D4;go_wp2_with (go_at_call 50;refine Ux.out.mono ?_;rintro e6 w6 ⟨rfl,rfl⟩);refine HP.out.mono ?_;rintro e7 w7 ⟨rfl,oN⟩;have Sz:=HE6.out.more oN;have Tm:=Lib.hid Sz.kp.size;obtain ⟨gs7,gr7,Fs7,Fr7,h1,h2,h3,h4,h5,h6,D4⟩:=id Sz.en;have z0:=h1.cell 0;have z1:=h1.cell 1;simp at z0 z1;clear oN HE6 Ux HP y0 y1;obtain ⟨pd,Lg⟩:∃pd,qG (dP c r now) now=pd:=⟨_,rfl⟩
    have hG0:=iW.out;rw[if_neg (by simp),Lg] at hG0;rw[Lg];clear Lg;cases pd with
    |false=>
     have hg:=hG0;rw[if_neg (by simp)] at hg;clear hG0;have MJ:=Lib.hid (Ce h2 OC.out (by omega) now N gQ hN);have SA:=Lib.hid (fun w' (hG:NY w7 Fs7 gs7 c (dh c R1 now N).1 w')=>Sz.call (mH.snd h1 h2 h3 h4 h5 h6 D4 hG));have HG:=Lib.hid hg;clear hg Sz h1 h2 h3 h4 h5 h6 D4;go_wp2_with fail;refine MJ.out.mono ?_;rintro e8 w8 ⟨v8,rfl,GN,Li⟩;obtain ⟨F8,FV⟩:=SA.out _ Li;have c8:=FV.bx.cell 0;have f8:=FV.bx.frozen 0;simp at c8;have SB:=Lib.hid (FV.put (.int .i64 (dh c R1 now N).2.2));have OH:=Lib.hid (aR (aJ (i:=0) GN FV.bx (by decide) (.int .i64 (dh c R1 now N).2.2)) Tm.out);clear FV Li GN SA;go_wp2_with fail;refine rR _ _ _ _ _ rfl rfl SB.out.bx ?_;rw[HG.out];exact ⟨_,rfl,OH.out,SB.out.done⟩
    |true=>
     by_cases h2N:2≤N
     ·have hg:=hG0;rw[if_pos ⟨rfl,h2N⟩] at hg;have d2:decide (2≤N)=true:=decide_eq_true h2N;clear hG0;have MJ:=Lib.hid (KT h3 (HR.out.goes gQ) now gQ N hN);have SA:=Lib.hid (fun w' (hG:Z5 w7 Fr7 gr7 n c (fu c (dP c r now) now N).1 w')=>Sz.call (mH.rcv h1 h2 h3 h4 h5 h6 D4 hG));have HG:=Lib.hid hg;clear hg Sz h1 h2 h3 h4 h5 h6 D4;go_wp2_with fail;refine MJ.out.mono ?_;rintro e8 w8 ⟨v8,rfl,GN,Li⟩;obtain ⟨F8,FV⟩:=SA.out _ Li;have c8:=FV.bx.cell 0;have f8:=FV.bx.frozen 0;simp at c8;have SB:=Lib.hid (FV.put (.int .i64 ((fu c (dP c r now) now N).2.2:Nat)));have OH:=Lib.hid (aR (aJ (i:=0) GN FV.bx (by decide) (.int .i64 ((fu c (dP c r now) now N).2.2:Nat))) Tm.out);clear FV Li GN SA;go_wp2_with fail;refine rR _ _ _ _ _ rfl rfl SB.out.bx ?_;rw[HG.out];exact ⟨_,rfl,OH.out,SB.out.done⟩
     ·have hg:=hG0;rw[if_neg (fun hh=>h2N hh.2)] at hg;have d2:decide (2≤N)=false:=decide_eq_false h2N;clear hG0;have MJ:=Lib.hid (Ce h2 OC.out (by omega) now N gQ hN);have SA:=Lib.hid (fun w' (hG:NY w7 Fs7 gs7 c (dh c R1 now N).1 w')=>Sz.call (mH.snd h1 h2 h3 h4 h5 h6 D4 hG));have HG:=Lib.hid hg;clear hg Sz h1 h2 h3 h4 h5 h6 D4;go_wp2_with fail;refine MJ.out.mono ?_;rintro e8 w8 ⟨v8,rfl,GN,Li⟩;obtain ⟨F8,FV⟩:=SA.out _ Li;have c8:=FV.bx.cell 0;have f8:=FV.bx.frozen 0;simp at c8;have SB:=Lib.hid (FV.put (.int .i64 (dh c R1 now N).2.2));have OH:=Lib.hid (aR (aJ (i:=0) GN FV.bx (by decide) (.int .i64 (dh c R1 now N).2.2)) Tm.out);clear FV Li GN SA;go_wp2_with fail;refine rR _ _ _ _ _ rfl rfl SB.out.bx ?_;rw[HG.out];exact ⟨_,rfl,OH.out,SB.out.done⟩
   ·have HM:=Lib.hid (ol w3.heap.size R2 (by simpa using KZ) _ (au.new w3 53 #[.int .i64 R2]));have hg:G=(R1,r,[],R2):=by rw[iW.out,if_pos KZ]
    have HG:=Lib.hid hg;clear KZ hg;go_wp2_with (go_at_call 50;refine HM.out.mono ?_;rintro e4 w4 ⟨rfl,rfl⟩);refine DL _ _ _ _ _ _ rfl rfl Sy.out.bx ?_;rw[HG.out];exact ⟨_,rfl,World.ownsRow_nil _ _ _ _,(Sy.out.put _).done⟩
end
end
end Go.Proofs.YtbhiklnljiehiaaGreat
