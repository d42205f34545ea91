/- law36: receptions and reports of a trans. -/
import Derived.Test.YtbhiklnljiehiaaGreatM2bg
import Derived.Test.YtbhiklnljiehiaaGreatM2bl
namespace Go.Proofs.YtbhiklnljiehiaaGreat
section
section
variable {aK:List (List UInt8)} {N:Nat} {pu:Nat→Ou} {left:Nat→List (List UInt8)} {sent:Nat→Nat}
end
theorem Dk:∀(l:List (List UInt8)) (f:Nat),(eG l f).1+(aP l f).1.length=l.length∧(eG l f).2.2.2=(aP l f).1
 | [],f=>by simp[eG,aP]
 |x::r,f=>by
  by_cases h:x.length≤f
  ·have ih:=Dk r (f-x.length);rw[eG,if_pos h,aP,if_pos h];dsimp only;rw[List.length_cons];exact ⟨by omega,ih.2⟩
  ·rw[eG,if_neg h,aP,if_neg h];simp
section
variable {sizes:List UInt8} {aK:List (List UInt8)} {N:Nat}
theorem Vs.clock {st:Sd} {i:Nat} (h:Vs sizes aK i st):cK st 0=st:=by
 have hn:=h.nw;unfold cK;rw[hn];obtain ⟨⟩:=st;simp only at hn;subst hn;rfl
end
end
section
open Go.RowKit
end
section
open Go.RowKit
def tot (pu:Nat→Ou):Nat→Nat
 |0=>0
 |n+1=>tot pu n+aG (pu n)
theorem Qz (pu:Nat→Ou) (a:Nat):∀b,tot pu a≤tot pu (a+b)
 |0=>aN
 |b+1=>by have:=Qz pu a b;rw[show a+(b+1)=(a+b)+1 by omega,tot];omega
structure kH (x y:Ou):Prop where
 sn:x.sn=y.sn
 s:x.s=y.s
 e:x.e=y.e
 ps:x.ps=y.ps
theorem kH.refl (x:Ou):kH x x:=⟨rfl,rfl,rfl,rfl⟩
theorem kH.trans {x y z:Ou} (h:kH x y) (h2:kH y z):kH x z:=⟨h.sn.trans h2.sn,h.s.trans h2.s,h.e.trans h2.e,h.ps.trans h2.ps⟩
theorem kH.size {x y:Ou} (h:kH x y):aG x=aG y:=by unfold aG;rw[h.ps]
theorem kH.bytes {x y:Ou} (h:kH x y):Nb x=Nb y:=by unfold Nb;rw[h.s,h.e,h.ps]
theorem Piece.same {x y:Ou} {a:kP} (h:kH x y) (p:Piece x a):Piece y a:=⟨p.sn.trans h.sn,p.pos,by rw[←h.size];exact p.le,by rw[←h.size];exact p.fin,by rw[←h.bytes];exact p.eq⟩
theorem Lg {pu:Nat→Ou}:∀(d:List Ou) (a:Nat),(∀i x,d[i]? =some x→kH x (pu (a+i)))→tot pu (a+d.length)=tot pu a+sizes d
 | [],a,_=>by simp[sizes]
 |x::r,a,h=>by
  have ih:=Lg r (a+1) fun i y hy=>by
   have:=h (i+1) y (by simpa using hy)
   rwa [show a+1+i=a+(i+1) by omega]
  have h0:=(h 0 x (by simp)).size;rw[Nat.add_zero] at h0;rw[List.length_cons,show a+(r.length+1)=a+1+r.length by omega,ih,tot,fM,h0];omega
structure Dir (aK:List (List UInt8)) (N:Nat) (pu:Nat→Ou) (left:Nat→List (List UInt8)) (sent:Nat→Nat):Prop where
 T:Y7 aK N pu left sent
 ok:∀i,i≤N→Uj (left i) (sent i)
 sk:∀i,i≤N→aP aK (tot pu i)=(left i,sent i)
 sm:tot pu N≤aj aK
section
variable {aK acv:List (List UInt8)} {N N':Nat} {pu pu':Nat→Ou} {left left':Nat→List (List UInt8)} {sent sent':Nat→Nat} {H H':Nat→Prop} {st st':Sd}
structure Nc (aK:List (List UInt8)) (N:Nat) (pu:Nat→Ou) (left:Nat→List (List UInt8)) (sent:Nat→Nat) (H:Nat→Prop) (st:Sd):Prop where
 q:st.queue=left st.first
 dn:st.done+(left st.first).length=aK.length
 fr:st.front=sent st.first
 tk:st.taken+tot pu st.first=st.front+tot pu N
 fo:st.first+st.out.length=N
 out:∀i x,st.out[i]? =some x→kH x (pu (st.first+i))
 ak:∀i x,st.out[i]? =some x→x.aX=true→H (st.first+i)
 has:∀k,k<st.first→H k
structure Ah (H:Nat→Prop) (st st':Sd):Prop where
 q:st'.queue=st.queue
 d:st'.done=st.done
 fr:st'.front=st.front
 tk:st'.taken=st.taken
 fi:st'.first=st.first
 ln:st'.out.length=st.out.length
 o:∀i x',st'.out[i]? =some x'→∃x,st.out[i]? =some x∧kH x' x∧(x'.aX=true→x.aX=true∨H (st.first+i))
theorem Ah.QA (hq:st'.queue=st.queue) (hd:st'.done=st.done) (hf:st'.front=st.front) (ht:st'.taken=st.taken) (hi:st'.first=st.first) (ho:st'.out=st.out):Ah H st st':=
 ⟨hq,hd,hf,ht,hi,by rw[ho],fun i x' hx=>⟨x',by rw[←ho];exact hx,kH.refl _,fun ha=> .inl ha⟩⟩
theorem Ah.refl (st:Sd):Ah H st st:=Ah.QA rfl rfl rfl rfl rfl rfl
theorem Nc.sim (h:Nc aK N pu left sent H st) (hs:Ah H st st'):Nc aK N pu left sent H st':=by
 refine ⟨by rw[hs.q,hs.fi];exact h.q,by rw[hs.d,hs.fi];exact h.dn,by rw[hs.fr,hs.fi];exact h.fr,by rw[hs.tk,hs.fr,hs.fi];exact h.tk,by rw[hs.fi,hs.ln];exact h.fo,fun i x hx=> ?_,fun i x hx ha=> ?_,by rw[hs.fi];exact h.has⟩
 ·obtain ⟨y,hy,e1,_⟩:=hs.o i x hx;rw[hs.fi];exact e1.trans (h.out i y hy)
 ·obtain ⟨y,hy,_,e2⟩:=hs.o i x hx;rw[hs.fi];rcases e2 ha with e|e
  ·exact h.ak i y hy e
  ·exact e
theorem Ah.set {i:Nat} {x z:Ou} (hx:st.out[i]? =some x) (hz:kH z x) (ha:z.aX=true→x.aX=true∨H (st.first+i)) (hq:st'.queue=st.queue) (hd:st'.done=st.done) (hf:st'.front=st.front) (ht:st'.taken=st.taken) (hi:st'.first=st.first) (ho:st'.out=st.out.set i z):Ah H st st':=by
 refine ⟨hq,hd,hf,ht,hi,by rw[ho,List.length_set],fun j y hy=> ?_⟩;rw[ho,List.getElem?_set] at hy;split at hy
 ·rename_i e;subst e;split at hy
  ·cases hy;exact ⟨x,hx,hz,ha⟩
  ·cases hy
 ·exact ⟨y,hy,kH.refl _,fun h=> .inl h⟩
theorem Aj (c:Cf) (x:Ou) (l:List (Nat × Nat)):kH (gQ c x l).1 x∧(gQ c x l).1.aX=x.aX:=by
 unfold gQ;split<;>exact ⟨⟨rfl,rfl,rfl,rfl⟩,rfl⟩
theorem Ah.nY (c:Cf) (st:Sd):Ah H st (bQ c st):=by
 unfold bQ;split
 ·exact Ah.refl _
 ·split
  ·exact Ah.refl _
  ·split
   ·exact Ah.refl _
   ·rename_i i _ x hx;obtain ⟨e1,e2⟩:=Aj c x [(0,aG x-1)];exact Ah.set hx e1 (fun ha=> .inl (by rwa [e2] at ha)) rfl rfl rfl rfl rfl rfl
theorem Ah.clock (st:Sd) (now:Int):Ah H st (cK st now):=Ah.QA rfl rfl rfl rfl rfl rfl
theorem EL (c:Cf) (m:Ou→List (Nat × Nat)) (x:Ou):kH (bY c m x).1 x∧((bY c m x).1.aX=true→x.aX=true∨m x= []):=by
 unfold bY;split
 ·exact ⟨kH.refl _,fun h=> .inl h⟩
 ·split
  ·rename_i e;exact ⟨⟨rfl,rfl,rfl,rfl⟩,fun _=> .inr e⟩
  ·obtain ⟨e1,e2⟩:=Aj c x (m x);exact ⟨e1,fun ha=> .inl (by rwa [e2] at ha)⟩
theorem Ah.stat (c:Cf) (m:Ou→List (Nat × Nat)) (n:Nat) (hn:n≤st.out.length) (hm:∀i x,i<n→st.out[i]? =some x→m x= []→H (st.first+i)) (f w:Bool):
 Ah H st {st with out:=(aM c m n st.out).1,failed:=f,wait:=w}:=by
 have e:(aM c m n st.out).1=(st.out.take n).map (fun x=>(bY c m x).1)++st.out.drop n:=rfl;refine ⟨rfl,rfl,rfl,rfl,rfl,?_,fun i y hy=> ?_⟩
 ·show (aM c m n st.out).1.length=_
  rw[e,List.length_append,List.length_map,List.length_take,List.length_drop];omega
 ·have hy':(aM c m n st.out).1[i]? =some y:=hy;rw[e] at hy';by_cases hi:i<n
  ·rw[List.getElem?_append_left (by rw[List.length_map,List.length_take];omega),List.getElem?_map,List.getElem?_take,if_pos hi] at hy';cases hx:st.out[i]? with
   |none=>rw[hx] at hy';cases hy'
   |some x=>
    rw[hx] at hy';cases hy';obtain ⟨e1,e2⟩:=EL c m x;refine ⟨x,rfl,e1,fun ha=> ?_⟩;rcases e2 ha with h|h
    ·exact .inl h
    ·exact .inr (hm i x hi hx h)
  ·rw[List.getElem?_append_right (by rw[List.length_map,List.length_take];omega),List.length_map,List.length_take,show min n st.out.length=n by omega,List.getElem?_drop,show n+(i-n)=i by omega] at hy';exact ⟨y,hy',kH.refl _,fun ha=> .inl ha⟩
theorem Ak:∀(l:List (List UInt8)) (f:Nat),(eG l f).2.2.1=(aP l f).2∧(eG l f).2.1+(aP l f).2=f
 | [],f=>by simp[eG,aP]
 |x::r,f=>by
  by_cases h:x.length≤f
  ·obtain ⟨h1,h2⟩:=Ak r (f-x.length);rw[eG,if_pos h,aP,if_pos h];dsimp only;exact ⟨h1,by omega⟩
  ·rw[eG,if_neg h,aP,if_neg h];simp
theorem Nc.V2 (D:Dir aK N pu left sent) (h:Nc aK N pu left sent H st):Nc aK N pu left sent H (eD st):=by
 have hN:=D.T.n;have hfo:=h.fo;obtain ⟨⟨d,d1,d2,d3,d4⟩,_⟩:=jk st.out;have e1:(eD st).out=(aQ st.out).2.2:=rfl;have e2:(eD st).queue=(eG st.queue (st.front+(aQ st.out).2.1)).2.2.2:=rfl;have e3:(eD st).taken=st.taken-(eG st.queue (st.front+(aQ st.out).2.1)).2.1:=rfl;have e4:(eD st).front=(eG st.queue (st.front+(aQ st.out).2.1)).2.2.1:=rfl;have e5:(eD st).first=(st.first+(aQ st.out).1)%1024:=rfl
 have e6:(eD st).done=st.done+(eG st.queue (st.front+(aQ st.out).2.1)).1:=rfl;have hlen:st.out.length=d.length+(aQ st.out).2.2.length:=by
  conv=>lhs;rw[d1]
  rw[List.length_append]
 have hf:(eD st).first=st.first+d.length:=by rw[e5,←d2];omega
 have hd:∀i x,d[i]? =some x→kH x (pu (st.first+i)):=fun i x hx=>h.out i x (by rw[d1,List.getElem?_append_left (List.getElem?_eq_some_iff.1 hx).1];exact hx)
 have ht:=Lg d st.first hd
 rw[d3] at ht;have hle:st.first+d.length≤N:=by omega
 have hsk:=D.sk (st.first+d.length) hle;rw[ht,Dj,D.sk st.first (by omega)] at hsk;dsimp only at hsk;rw[←h.q,←h.fr] at hsk;obtain ⟨a1,a2⟩:=Dk st.queue (st.front+(aQ st.out).2.1);obtain ⟨b1,b2⟩:=Ak st.queue (st.front+(aQ st.out).2.1);rw[hsk] at a1 a2 b1 b2;dsimp only at a1 a2 b1 b2;have hmono:=Qz pu (st.first+d.length) (N-(st.first+d.length));rw[show st.first+d.length+(N-(st.first+d.length))=N by omega] at hmono;have htk:=h.tk;have hdn:=h.dn;have hq:=h.q;have hrest:∀i,(aQ st.out).2.2[i]? =st.out[d.length+i]? :=fun i=>by
  conv=>rhs;rw[d1]
  rw[List.getElem?_append_right (by omega),show d.length+i-d.length=i by omega]
 refine ⟨by rw[e2,a2,hf],?_,by rw[e4,b1,hf],?_,?_,fun i x hx=> ?_,fun i x hx ha=> ?_,fun k hk=> ?_⟩
 ·rw[e6,hf];have:st.queue.length=(left st.first).length:=by rw[hq]
  omega
 ·rw[e3,e4,b1,hf,ht];omega
 ·rw[hf,e1];omega
 ·rw[e1,hrest] at hx;rw[hf,Nat.add_assoc];exact h.out _ x hx
 ·rw[e1,hrest] at hx;rw[hf,Nat.add_assoc];exact h.ak _ x hx ha
 ·rw[hf] at hk;by_cases hk2:k<st.first
  ·exact h.has k hk2
  ·have hi:k-st.first<d.length:=by omega
   have hx:d[k-st.first]? =some d[k-st.first]:=List.getElem?_eq_getElem hi;have h1:=h.ak (k-st.first) d[k-st.first] (by rw[d1,List.getElem?_append_left hi];exact hx) (d4 _ (List.getElem_mem _))
   rwa [show st.first+(k-st.first)=k by omega] at h1
structure Rep (N:Nat) (pu:Nat→Ou) (H:Nat→Prop) (aL:Nat) (l:List Nk):Prop where
 le:aL≤N
 v:dm (aL:Int) l=true
 cov:∀k,k<aL→H k∨∃n∈l,n.sn=(k:Int)∧Ui (aG (pu k)) n
theorem Rep.truth {aL:Nat} {l:List Nk} (h:Rep N pu H aL l) {k:Nat} (hk:k<aL) {x:Ou} (hx:kH x (pu k)) (hsn:(pu k).sn=k) (hm:bT l x= []):H k:=by
 rcases h.cov k hk with hh|⟨n,hn,e,ha⟩
 ·exact hh
 ·exfalso;rw[←hx.size] at ha;refine wo (aG x) (l.filter (fun n=>decide (n.sn=(x.sn:Int)))) [] ⟨n,?_,ha⟩ hm;rw[List.mem_filter];refine ⟨hn,?_⟩;rw[hx.sn,hsn];simpa using e
theorem Nc.status (D:Dir aK N pu left sent) (h:Nc aK N pu left sent H st) (c:Cf) (now:Int) {aL:Nat} {l:List Nk} (hr:Rep N pu H aL l):Nc aK N pu left sent H (dB c st now (aL:Int) l).1:=by
 have hN:=D.T.n;have hfo:=h.fo;have hle:=hr.le;unfold dB;split
 ·exact h
 unfold l8;split
 ·exact h
 split
 ·exact h.sim (Ah.clock st now)
 rename_i hbad;have hpl:dW st (aL:Int)≤st.out.length:=by have:=not_or.1 hbad;omega
 have hge:st.first≤aL:=by
  unfold dW at hpl;omega
 have hp:dW st (aL:Int)=((aL-st.first:Nat):Int):=by
  unfold dW;omega
 rw[hp];dsimp only;rw[Int.toNat_natCast];have h2:Nc aK N pu left sent H (cK st now):=h.sim (Ah.clock st now);have h3:∀f w,Nc aK N pu left sent H {cK st now with out:=(aM c (bT l) (aL-st.first) (cK st now).out).1,failed:=f,wait:=w}:=fun f w=>by
  refine h2.sim (Ah.stat c (bT l) (aL-st.first) (by show _≤st.out.length;omega) (fun i x hi hx hm=> ?_) f w);have hx':st.out[i]? =some x:=hx;show H (st.first+i)
  have hil:=(List.getElem?_eq_some_iff.1 hx').1;exact hr.truth (by omega) (h.out i x hx') (D.T.sn _ (by omega)) hm
 unfold iP;dsimp only;split
 ·exact (Nc.V2 D (h3 _ _)).sim (Ah.nY c _)
 ·exact Nc.V2 D (h3 _ _)
end
end
section
open Go.RowKit Go.Shelf
attribute [local go_sem] Oper.semAt_some
theorem GX.take {p:Sp} (h:GX p) (x:kP):GX (iH p x):=by
 intro k hk;unfold iH at hk ⊢;dsimp only at hk ⊢;rw[(qO _ _ _).1];unfold jY;simp only[List.length_append,List.length_replicate];split at hk
 ·cases hk;omega
 ·have:=h k hk;omega
theorem sU.get {st:Rc} (h:sU st) (k:Nat):GX (jG st k):=by
 unfold jG;cases hm:st.m k with
 |none=>intro j hj;cases hj
 |some p=>exact h k p hm
theorem sU.Qw {st st':Rc} (h:sU st) (hm:st'.m=st.m):sU st':=fun k p hp=>h k p (by rw[←hm];exact hp)
theorem sU.T6 {st:Rc} (h:sU st) (x:kP):sU (qi st x (jG st x.sn)):=by
 intro k p hp;have hp2:kG st.m x.sn (some (iH (jG st x.sn) x)) k=some p:=hp;unfold kG at hp2;split at hp2
 ·cases hp2;exact (h.get x.sn).take x
 ·exact h k p hp2
theorem sU.one {st:Rc} (h:sU st) (p:Sp):sU (zq st p):=by
 intro k q hq;have hq2:kG st.m st.next none k=some q:=hq
 unfold kG at hq2;split at hq2
 ·cases hq2
 ·exact h k q hq2
theorem sU.Dh:∀(f:Nat) {st:Rc},sU st→sU (fB f st).1
 |0,st,h=>h
 |f+1,st,h=>by
  unfold fB;split
  ·exact h
  ·split
   ·exact sU.Dh f (h.one _)
   ·exact h
theorem sU.recv {st:Rc} (h:sU st) (c:Cf) (now:Int) (bs:List UInt8):sU (jH c st now bs).1:=by
 have hg:sU (dI c st now):=h.Qw (uP c st now);unfold jH;split
 ·exact hg
 ·rename_i x _;unfold L8;split
  ·exact hg.Qw rfl
  ·split
   ·exact hg
   ·dsimp only;refine sU.Qw (sU.Dh 1024 (hg.T6 x)) ?_;unfold L6 vQ;dsimp only;split<;>split<;>rfl
theorem Qx (c:Cf) (st:Rc) (now n:Int):(fG c st now n).1.m=st.m:=by
 unfold fG;split
 ·rfl
 ·split
  ·exact uP c st now
  ·exact uP c st now
theorem sU.ny {st:Rc} (h:sU st) (c:Cf) (now n:Int):sU (fG c st now n).1:=h.Qw (Qx c st now n)
theorem dP.ny {st:Rc} (ho:dP st) (c:Cf) {now:Int} (hn:now≤9223372036854775807) (n:Int):dP (fG c st now n).1:=by
 have hg:=ho.goes c hn;unfold fG;split
 ·exact ho
 ·split
  ·exact hg
  ·exact ⟨hg.n1,hg.n2,hg.n3,hg.n4,hg.m,hg.op,hg.t1,hg.t2⟩
theorem Hl:dP lM∧sU lM:=
 ⟨⟨by decide,by decide,by decide,by decide,fun k p h=>(by cases h),by decide,by decide,by decide⟩,fun k p h=>(by cases h)⟩
def RcE (W:World) (base g n:Nat) (c:Cf) (st:Rc):Prop:=∃T M k vo,gI W T g M k c st vo∧k≤n∧dP st∧sU st∧∀j,T j≠0→base≤j
section
variable {W W' w w':World} {base g n:Nat} {c:Cf} {st:Rc}
theorem RcE.lt (h:RcE W base g n c st):base≤g∧g<W.heap.size:=let ⟨_,_,_,_,h1,_,_,_,h5⟩:=h;⟨h5 g (by rw[h1.tg];omega),h1.blk.lt⟩
end
end
end Go.Proofs.YtbhiklnljiehiaaGreat
