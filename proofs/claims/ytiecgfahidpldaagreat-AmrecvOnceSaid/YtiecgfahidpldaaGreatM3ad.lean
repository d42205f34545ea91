/- amsend: new PDUs, reports; AmsendHolds' plain law. amsend: reports; AmsendHolds' plain law. Plain mathematics: what cutting a PDU comes to. amsend: what a grant gives (plain). amsend: AmsendBytes' plain law. amsend: AmsendWindow's plain law. amsend: status reports (plain). A queue's row: a row of its own from an offset on ('q = q[1:]', 'q = append(q, x)'). amsend: the transmitter's memory. amsend: Buffered, and what AmsendHolds asks after each call (plain). amsend: bounds (plain). -/
import Derived.Test.YtiecgfahidpldaaGreatM3aa
import Derived.Test.YtiecgfahidpldaaGreatM3ab
import Derived.Test.YtiecgfahidpldaaGreatM3ac
import Derived.ArgAppend
namespace Go.Proofs.YtiecgfahidpldaaGreat
section
theorem vS:∀(ps:List (List UInt8)) (op:List UInt8) (sm e:Bool),ps≠ []→op.length+au ps=au (kE op sm ps e).1+(kE op sm ps e).2.1.length
 | [],_,_,_,h=>absurd rfl h
 | [p],op,sm,e,_=>by cases e<;>simp[kE,au]
 |p::q::r,op,sm,e,_=>by
  have ih:=vS (q::r) [] false e (by simp);simp only[kE,iK,List.length_append] at ih ⊢;simp only[List.length_nil] at ih;omega
theorem nQ:∀(q:List (List UInt8)) (k:Nat),k≤au q→(∃d,q=d++(aK q k).1∧au d+(aK q k).2=k)∧((aK q k).1= []→(aK q k).2=0)∧∀x r,(aK q k).1=x::r→(aK q k).2<x.length
 | [],k,h=>by
  have:k=0:=by simpa[au] using h
  subst this;exact ⟨⟨[],rfl,rfl⟩,fun _=>rfl,by simp[aK]⟩
 |x::r,k,h=>by
  rw[iK] at h;unfold aK;split
  ·rename_i hx;obtain ⟨⟨d,h1,h2⟩,h3,h4⟩:=nQ r (k-x.length) (by omega);refine ⟨⟨x::d,?_,?_⟩,h3,h4⟩
   ·rw[List.cons_append,←h1]
   ·rw[iK];omega
  ·refine ⟨⟨[],rfl,by simp[au]⟩,by simp,fun y t e=> ?_⟩;simp at e;rw[←e.1];omega
theorem BS {st:Sd} (h:InvV st) (n:Int) (hne:(dK n st).ps≠ []):1≤ay (dK n st)∧st.taken+ay (dK n st)≤aZ st:=by
 obtain ⟨⟨d,h1,h2⟩,h3,h4⟩:=nQ st.queue st.taken h.le;have hne':(jD n ((aK st.queue st.taken).1.length+1) (aK st.queue st.taken).1 (aK st.queue st.taken).2 0 0 0 false).1≠ []:=hne;have hpos:∀s∈(aK st.queue st.taken).1,1≤s.length:=fun s hs=>h.pos s (by rw[h1];simp[hs])
 have hk:=Dp n ((aK st.queue st.taken).1.length+1) (aK st.queue st.taken).1 (aK st.queue st.taken).2 0 0 0 false hpos h4 h3;have hv:=nN n ((aK st.queue st.taken).1.length+1) (aK st.queue st.taken).1 (aK st.queue st.taken).2 false hpos h4 hne';have hs:ay (dK n st)=au (jD n ((aK st.queue st.taken).1.length+1) (aK st.queue st.taken).1 (aK st.queue st.taken).2 0 0 0 false).1:=rfl;rw[hs];have hh:aZ st=au d+au (aK st.queue st.taken).1:=by
  unfold aZ
  conv=>lhs;rw[h1]
  rw[nP]
 generalize aK st.queue st.taken=Q at*;generalize jD n (Q.1.length+1) Q.1 Q.2 0 0 0 false=R at*;obtain ⟨g,hg1,hg2⟩:=hk.some_ hne';have hj:=vS R.1 ((Q.1.headD []).take Q.2) (decide (0<Q.2)) R.2.1 hne';rw[hg2] at hj;dsimp only at hj;have e1:((Q.1.headD []).take Q.2).length=Q.2:=by
  cases hq:Q.1 with
  |nil=>rw[h3 hq];simp
  |cons x r=>have:=h4 x r hq;simp;omega
 have e2:((R.2.2.1.headD []).take R.2.2.2).length=R.2.2.2∧R.2.2.2≤au R.2.2.1:=by
  cases hq:R.2.2.1 with
  |nil=>rw[hk.z_ hq];simp
  |cons x r=>have:=hk.lt_ x r hq;rw[iK];simp;omega
 rw[e1,e2.1] at hj;have e3:au Q.1=au g+au R.2.2.1:=by rw[hg1,nP]
 have e4:1≤au R.1:=by
  obtain ⟨p,hp⟩:=List.exists_mem_of_ne_nil _ hne';have:=fJ hp;have:=hv.pos p hp;omega
 exact ⟨e4,by have:=e2.2;omega⟩
theorem InvV.add {st:Sd} (h:InvV st) {x:Ou} (h1:1≤ay x) (h2:st.taken+ay x≤aZ st) (hp:x.pend= []) (hl:st.out.length<512) (hpl:(dR st x).taken≠aZ (dR st x)):InvV (dR st x) where
 tk:=by
  show st.taken+ay x=st.front+sizes (st.out++ [x])
  rw[nO,h.tk];simp[sizes];omega
 le:=h2
 pos:=h.pos
 nu:=fun y hy=>by
  simp only[dR,List.mem_append,List.mem_singleton] at hy;rcases hy with hy|rfl
  ·exact h.nu y hy
  ·exact h1
 ak:=fun y hy hya=>by
  simp only[dR,List.mem_append,List.mem_singleton] at hy;rcases hy with hy|rfl
  ·exact h.ak y hy hya
  ·exact hp
 pr:=fun y hy r hr=>by
  simp only[dR,List.mem_append,List.mem_singleton] at hy;rcases hy with hy|rfl
  ·exact h.pr y hy r hr
  ·rw[hp] at hr;cases hr
 w:=by simp only[dR,List.length_append,List.length_singleton];omega
 f:=h.f
 pl:=fun e=>absurd e hpl
theorem dm.fresh {st:Sd} (c:Cf) (n:Int) (h:dm st) (hp:fV st.out=none):dm (iQ c n st).1:=by
 unfold iQ;split
 ·exact h
 ·rename_i hl;split
  ·exact h
  ·rename_i hne;obtain ⟨h1,h2⟩:=BS h.toInvV n hne;generalize hx:dK n st=x at*;have hxp:x.pend= []:=by rw[←hx];rfl
   have hxa:x.bS=false:=by rw[←hx];rfl
   dsimp only;have hhd:∀y r,(dR st x).out=y::r→y.bS=false:=fun y r e=>by
    have e':st.out++ [x]=y::r:=e;cases ho:st.out with
    |nil=>rw[ho] at e';simp at e';rw[←e'.1];exact hxa
    |cons a t=>rw[ho] at e';simp at e';rw[←e'.1];exact h.hd a t ho
   by_cases ht:(dR st x).taken=aZ (dR st x)
   ·have hid:jP (dR st x)=true:=yj.2 ⟨fun y hy=>by
     simp only[dR,List.mem_append,List.mem_singleton] at hy;rcases hy with hy|rfl
     ·exact mO.1 hp y hy
     ·exact hxp,.inl ht⟩
    have Yf:(iU c (dR st x)||(dR st x).fD||jP (dR st x))=true:=by rw[hid];simp
    unfold aR;rw[if_pos Yf];have hb:InvV (sP (dR st x) c):= {
     tk:=by
      show st.taken+ay x=st.front+sizes (st.out++ [x])
      rw[nO,h.tk];simp[sizes];omega
     le:=h2
     pos:=h.pos
     nu:=fun y hy=>by
      simp only[sP,dR,List.mem_append,List.mem_singleton] at hy;rcases hy with hy|rfl
      ·exact h.nu y hy
      ·exact h1
     ak:=fun y hy hya=>by
      simp only[sP,dR,List.mem_append,List.mem_singleton] at hy;rcases hy with hy|rfl
      ·exact h.ak y hy hya
      ·exact hxp
     pr:=fun y hy r hr=>by
      simp only[sP,dR,List.mem_append,List.mem_singleton] at hy;rcases hy with hy|rfl
      ·exact h.pr y hy r hr
      ·rw[hxp] at hr;cases hr
     w:=by simp only[sP,dR,List.length_append,List.length_singleton];omega
     f:=h.f
     pl:=fun _ _=>by
      show (cB (dR st x)+1023)%1024=((dR st x).first+(dR st x).out.length+1023)%1024
      unfold cB;omega}
    exact {hb with fr:=h.fr,hd:=hhd,ti:=fun _ e=>by cases e}
   ·exact qo.finish c (h.toInvV.add h1 h2 hxp (by omega) ht) h.fr hhd _ (fun _ e=>absurd e ht) (fun _ e=>absurd e ht)
end
section
theorem mP:∀l:List Ou,(∃d:List Ou,l=d++(aS l).2.2∧d.length=(aS l).1∧sizes d=(aS l).2.1∧∀x∈d,x.bS=true)∧∀x r,(aS l).2.2=x::r→x.bS=false
 | []=>⟨⟨[],rfl,rfl,rfl,by simp⟩,by simp[aS]⟩
 |x::r=>by
  unfold aS;split
  ·rename_i hx;obtain ⟨⟨d,h1,h2,h3,h4⟩,h5⟩:=mP r;refine ⟨⟨x::d,?_,by simp[h2],by rw[jV,h3,Nat.add_comm],fun y hy=> ?_⟩,h5⟩
   ·rw[List.cons_append,←h1]
   ·rcases List.mem_cons.1 hy with rfl|hy
    ·exact hx
    ·exact h4 y hy
  ·rename_i hx;exact ⟨⟨[],rfl,rfl,rfl,by simp⟩,fun y t e=>by simp at e;rw[←e.1];simpa using hx⟩
theorem uV:∀(q:List (List UInt8)) (f:Nat),(∃d:List (List UInt8),q=d++(gQ q f).2.2.2∧d.length=(gQ q f).1∧au d=(gQ q f).2.1∧au d+(gQ q f).2.2.1=f)∧∀x r,(gQ q f).2.2.2=x::r→(gQ q f).2.2.1<x.length
 | [],f=>⟨⟨[],rfl,rfl,rfl,by simp[au,gQ]⟩,by simp[gQ]⟩
 |x::r,f=>by
  unfold gQ;split
  ·rename_i hx;obtain ⟨⟨d,h1,h2,h3,h4⟩,h5⟩:=uV r (f-x.length);refine ⟨⟨x::d,?_,by simp[h2],by rw[iK,h3,Nat.add_comm],by rw[iK];dsimp only;omega⟩,h5⟩;rw[List.cons_append,←h1]
  ·exact ⟨⟨[],rfl,rfl,rfl,by simp[au]⟩,fun y t e=>by simp at e;dsimp only;rw[←e.1];omega⟩
theorem InvV.adv {st:Sd} (h:InvV st):qo (fA st)∧(∃d,st.out=d++(fA st).out∧∀x∈d,x.bS=true)∧((fA st).taken=aZ (fA st)→st.taken=aZ st):=by
 obtain ⟨⟨d,h1,h2,h3,h4⟩,h5⟩:=mP st.out;obtain ⟨⟨q,g1,g2,g3,g4⟩,g5⟩:=uV st.queue (st.front+(aS st.out).2.1);have e1:(fA st).out=(aS st.out).2.2:=rfl;have e2:(fA st).queue=(gQ st.queue (st.front+(aS st.out).2.1)).2.2.2:=rfl;have e3:(fA st).taken=st.taken-(gQ st.queue (st.front+(aS st.out).2.1)).2.1:=rfl;have e4:(fA st).front=(gQ st.queue (st.front+(aS st.out).2.1)).2.2.1:=rfl;have e5:(fA st).first=(st.first+(aS st.out).1)%1024:=rfl
 have e6:(fA st).polled=st.polled:=rfl;have hsz:sizes st.out=(aS st.out).2.1+sizes (aS st.out).2.2:=by
  conv=>lhs;rw[h1]
  rw[nO,h3]
 have E7:aZ st=(gQ st.queue (st.front+(aS st.out).2.1)).2.1+aZ (fA st):=by
  unfold aZ;rw[e2]
  conv=>lhs;rw[g1]
  rw[nP,g3]
 have hle:=h.le;have htk:=h.tk;have hmem:∀x,x∈(fA st).out→x∈st.out:=fun x hx=>by rw[h1,←e1];simp[hx]
 have hlen:st.out.length=(aS st.out).1+(fA st).out.length:=by
  conv=>lhs;rw[h1]
  rw[List.length_append,h2,e1]
 rw[←e1] at h5 h1 hsz;rw[←e2] at g5;rw[←e4] at g5;generalize aS st.out=A at*;generalize gQ st.queue (st.front+A.2.1)=Q at*;have hinv:qo (fA st):= {
  tk:=by rw[e3,e4];omega
  le:=by rw[e3];omega
  pos:=fun x hx=>h.pos x (by rw[g1,←e2];simp[hx])
  nu:=fun x hx=>h.nu x (hmem x hx)
  ak:=fun x hx=>h.ak x (hmem x hx)
  pr:=fun x hx=>h.pr x (hmem x hx)
  w:=by have:=h.w;omega
  f:=by rw[e5];omega
  pl:=fun t1 t2=>by
   have hne:st.out≠ []:=fun e=>by
    rw[e] at h1;exact t2 (List.append_eq_nil_iff.1 h1.symm).2
   have:=h.pl (by rw[e3] at t1;omega) hne;rw[e5,e6,this];omega
  fr:=g5
  hd:=h5}
 exact ⟨hinv,⟨d,h1,h4⟩,fun e=>by rw[e3] at e;omega⟩
theorem yt (c:Cf) (m:Ou→List (Nat × Nat)) (x:Ou):(bQ c m x).1.ps=x.ps:=by
 unfold bQ;split
 ·rfl
 ·split
  ·rfl
  ·exact (xw c x _).1
theorem yu (c:Cf) (m:Ou→List (Nat × Nat)) (x:Ou) (hx:x.bS=true→x.pend= []):((bQ c m x).1.bS=true→(bQ c m x).1.pend= [])∧((bQ c m x).1.bS=false→(bQ c m x).1.pend≠ []):=by
 unfold bQ;by_cases h1:x.bS=true
 ·rw[if_pos h1];exact ⟨hx,fun e=>by rw[h1] at e;cases e⟩
 ·rw[if_neg h1];by_cases h2:m x= []
  ·rw[if_pos h2];exact ⟨fun _=>rfl,fun e=>by cases e⟩
  ·rw[if_neg h2];obtain ⟨_,p2,p3,_⟩:=xw c x (m x);rw[p2,p3];exact ⟨fun e=>absurd e h1,fun _=>h2⟩
theorem Ir (c:Cf) (m:Ou→List (Nat × Nat)) (x:Ou) (hx:∀r∈x.pend,r.1≤r.2) (hm:∀r∈m x,r.1≤r.2):∀r∈(bQ c m x).1.pend,r.1≤r.2:=by
 unfold bQ;by_cases h1:x.bS=true
 ·rw[if_pos h1];exact hx
 ·rw[if_neg h1];by_cases h2:m x= []
  ·rw[if_pos h2];simp
  ·rw[if_neg h2,(xw c x (m x)).2.2.1];exact hm
section
variable (c:Cf) (m:Ou→List (Nat × Nat)) (n:Nat)
theorem kF (l:List Ou):(aX c m n l).1.length=l.length:=by simp[aX];omega
theorem jk (l:List Ou) (i:Nat):(aX c m n l).1[i]? =if i<n then l[i]?.map (fun x=>(bQ c m x).1) else l[i]? :=by
 unfold aX;dsimp only;by_cases hi:i<n
 ·rw[if_pos hi];by_cases hl:i<l.length
  ·rw[List.getElem?_append_left (by simp;omega),List.getElem?_map,List.getElem?_take,if_pos hi]
  ·rw[List.getElem?_eq_none (by simp;omega),List.getElem?_eq_none (by omega)];rfl
 ·rw[if_neg hi];by_cases hl:i<l.length
  ·rw[List.getElem?_append_right (by simp;omega),List.getElem?_drop];simp only[List.length_map,List.length_take];rw[show n+(i-min n l.length)=i by omega]
  ·rw[List.getElem?_eq_none (by simp;omega),List.getElem?_eq_none (by omega)]
theorem kG (l:List Ou) (y:Ou) (h:y∈(aX c m n l).1):∃x∈l,y=x∨y=(bQ c m x).1:=by
 obtain ⟨i,hi⟩:=List.mem_iff_getElem?.1 h;rw[jk] at hi;split at hi
 ·obtain ⟨x,hx,rfl⟩:=Option.map_eq_some_iff.1 hi;exact ⟨x,List.mem_of_getElem? hx,.inr rfl⟩
 ·exact ⟨y,List.mem_of_getElem? hi,.inl rfl⟩
theorem rA (l:List Ou):sizes (aX c m n l).1=sizes l:=by
 have key:∀a:List Ou,sizes (a.map (fun x=>(bQ c m x).1))=sizes a:=by
  intro a
  induction a with
  |nil=>rfl
  |cons x r ih=>rw[List.map_cons,jV,jV,ih];unfold ay;rw[yt]
 unfold aX;dsimp only;rw[nO,key,←nO,List.take_append_drop]
end
theorem dm.stat {st:Sd} (c:Cf) (m:Ou→List (Nat × Nat)) (n:Nat) (h:dm st) (_hn:n≤st.out.length) (hm:∀x,∀r∈m x,r.1≤r.2):dm (qm c m n st):=by
 have hv:InvV {st with out:=(aX c m n st.out).1,failed:=st.failed||(aX c m n st.out).2,wait:=st.wait&&decide (n≤lW st st.polled)}:= {
  tk:=by
   show st.taken=st.front+sizes (aX c m n st.out).1
   rw[rA];exact h.tk
  le:=h.le
  pos:=h.pos
  nu:=fun y hy=>by
   obtain ⟨x,hx,rfl|rfl⟩:=kG c m n _ y hy
   ·exact h.nu _ hx
   ·unfold ay;rw[yt];exact h.nu x hx
  ak:=fun y hy=>by
   obtain ⟨x,hx,rfl|rfl⟩:=kG c m n _ y hy
   ·exact h.ak _ hx
   ·exact (yu c m x (h.ak x hx)).1
  pr:=fun y hy=>by
   obtain ⟨x,hx,rfl|rfl⟩:=kG c m n _ y hy
   ·exact h.pr _ hx
   ·exact Ir c m x (h.pr x hx) (hm x)
  w:=by
   show (aX c m n st.out).1.length≤512
   rw[kF];exact h.w
  f:=h.f
  pl:=fun t1 t2=>by
   show st.polled=(st.first+(aX c m n st.out).1.length+1023)%1024
   rw[kF];refine h.pl t1 (fun e=>t2 ?_);show (aX c m n st.out).1= []
   rw[e];simp[aX]}
 obtain ⟨hw,⟨d,hd1,hd2⟩,ht⟩:=hv.adv;unfold qm;dsimp only;by_cases ho:st.fD=true
 ·have ho2:(fA {st with out:=(aX c m n st.out).1,failed:=st.failed||(aX c m n st.out).2,wait:=st.wait&&decide (n≤lW st st.polled)}).fD=true:=ho;rw[if_pos ho2];exact hw.sS c ho2
 ·have ho2:¬(fA {st with out:=(aX c m n st.out).1,failed:=st.failed||(aX c m n st.out).2,wait:=st.wait&&decide (n≤lW st st.polled)}).fD=true:=ho;rw[if_neg ho2];refine {hw with ti:=fun t1 t2=> .inl ?_};have htk:st.taken=aZ st:=ht t1;have hwt:(st.wait&&decide (n≤lW st st.polled))=false:=t2;intro i x hx hxa hxp;have hix:(aX c m n st.out).1[d.length+i]? =some x:=by
   have e:(aX c m n st.out).1=_:=hd1;rw[e,List.getElem?_append_right (by omega),show d.length+i-d.length=i by omega];exact hx
  rw[jk] at hix;have hge:¬d.length+i<n:=fun hlt=>by
   rw[if_pos hlt] at hix;obtain ⟨y,hy,rfl⟩:=Option.map_eq_some_iff.1 hix;exact (yu c m y (h.ak y (List.mem_of_getElem? hy))).2 hxa hxp
  rw[if_neg hge] at hix;have hil:d.length+i<st.out.length:=(List.getElem?_eq_some_iff.1 hix).1;have hwf:st.wait=false:=by
   cases hw':st.wait with
   |false=>rfl
   |true=>
    rw[hw'] at hwt;simp only[Bool.true_and,decide_eq_false_iff_not] at hwt;have hpl:=h.pl htk (fun e=>by rw[e] at hil;simp at hil);have hf:=h.f;have hw5:=h.w;exfalso;apply hwt;unfold lW;rw[hpl];omega
  rcases h.ti htk hwf with hA|⟨hb,_⟩
  ·obtain ⟨j,y,hj,hy,hyp⟩:=hA _ x hix hxa hxp;refine ⟨j-d.length,y,by omega,?_,hyp⟩;have e:(aX c m n st.out).1[j]? =some y:=by rw[jk,if_neg (by omega)];exact hy
   have e2:(aX c m n st.out).1=_:=hd1;rw[e2,List.getElem?_append_right (by omega)] at e;exact e
  ·exact absurd hb ho
end
section
def oM (ps:List (List UInt8)) (off fr to k:Nat):List UInt8:=
 ((ps[k]?.getD []).drop (max (off+au (ps.take k)) fr-(off+au (ps.take k)))).take (min (off+au (ps.take (k+1))) to-max (off+au (ps.take k)) fr)
def lC (ps:List (List UInt8)) (off fr to k:Nat):Bool:=decide (max (off+au (ps.take k)) fr<min (off+au (ps.take (k+1))) to)
def aD (ps:List (List UInt8)) (off fr to:Nat):Nat→List (List UInt8)
 |0=> []
 |k+1=>if lC ps off fr to k then aD ps off fr to k++ [oM ps off fr to k] else aD ps off fr to k
def aM (ps:List (List UInt8)) (s:Bool) (off fr:Nat):Nat→Bool
 |0=>false
 |k+1=>aM ps s off fr k||(decide (off+au (ps.take k)=fr)&&(decide (0<k)||s))
def bI (ps:List (List UInt8)) (e:Bool) (off to:Nat):Nat→Bool
 |0=>false
 |k+1=>bI ps e off to k||(decide (off+au (ps.take (k+1))=to)&&(decide (k+1<ps.length)||e))
theorem pK (ps:List (List UInt8)) (off fr to:Nat):∀k,(aD ps off fr to k).length≤k
 |0=>Nat.le_refl _
 |k+1=>by
  have:=pK ps off fr to k;unfold aD;split
  ·simp;omega
  ·omega
end
section
structure Pu where
 sn:Nat
 poll:Bool
 seg:Bool
 last:Bool
 off:Nat
 s:Bool
 e:Bool
 ps:List (List UInt8)
def qp (f:Nat→Bool):Nat→Nat→Nat
 |0,k=>k
 |m+1,k=>if f (k+1)=true then qp f m (k+1) else k
theorem xA (f:Nat→Bool):∀m k,k≤qp f m k∧qp f m k≤k+m
 |0,k=>⟨Nat.le_refl _,Nat.le_refl _⟩
 |m+1,k=>by
  unfold qp;split
  ·have:=xA f m (k+1);omega
  ·omega
def gJ (x:Ou) (fr:Nat) (n:Int) (k:Nat):Bool:=decide (gW ((aD x.ps 0 fr k x.ps.length).length:Int)+2+((k:Int)-(fr:Int))≤n)
def kr (st:Sd) (i:Nat) (x:Ou) (l:List (Nat × Nat)):Sd:= {st with out:=st.out.set i {x with pend:=l}}
def iD (c:Cf) (n:Int) (st:Sd) (i:Nat) (x:Ou):Sd × Option Pu:=
 match x.pend with
 | []=>(st,none)
 |(fr,e0)::rest=>
  if fr=0∧e0+1=ay x∧gW (x.ps.length:Int)+(ay x:Int)≤n then
   ((aR c (kr st i x []) false).1,some ⟨x.sn,(aR c (kr st i x []) false).2,false,false,0,x.s,x.e,x.ps⟩)
  else if qp (gJ x fr n) (e0+1-fr) fr=fr then (st,none)
  else
   (
    (aR c (kr st i x (if qp (gJ x fr n) (e0+1-fr) fr=e0+1 then rest else (qp (gJ x fr n) (e0+1-fr) fr,e0)::rest)) false).1,
    some ⟨x.sn,(aR c (kr st i x (if qp (gJ x fr n) (e0+1-fr) fr=e0+1 then rest else (qp (gJ x fr n) (e0+1-fr) fr,e0)::rest)) false).2,true,decide (qp (gJ x fr n) (e0+1-fr) fr=ay x),fr,
     aM x.ps x.s 0 fr x.ps.length,bI x.ps x.e 0 (qp (gJ x fr n) (e0+1-fr) fr) x.ps.length,aD x.ps 0 fr (qp (gJ x fr n) (e0+1-fr) fr) x.ps.length⟩)
def kU (c:Cf) (st:Sd) (now n:Int):Sd × Option Pu × Bool:=
 if (gG c st now).failed=true then (gG c st now,none,true)
 else match fV (gG c st now).out with
  |some i=>match (gG c st now).out[i]? with
   |some x=>((iD c n (gG c st now) i x).1,(iD c n (gG c st now) i x).2,false)
   |none=>(gG c st now,none,false)
  |none=>match iQ c n (gG c st now) with
   |(s2,none)=>(s2,none,false)
   |(s2,some (x,b))=>(s2,some ⟨x.sn,b,false,false,0,x.s,x.e,x.ps⟩,false)
theorem dm.iD {st:Sd} (c:Cf) (n:Int) (h:dm st) {i:Nat} {x:Ou} (hp:fV st.out=some i) (hx:st.out[i]? =some x):dm (iD c n st i x).1:=by
 unfold Go.Proofs.YtiecgfahidpldaaGreat.iD;have hpr:=h.pr x (List.mem_of_getElem? hx);cases hl:x.pend with
 |nil=>exact h
 |cons r rest=>
  obtain ⟨fr,e0⟩:=r;rw[hl] at hpr;have hr:fr≤e0:=hpr (fr,e0) (by simp);have hb:=xA (gJ x fr n) (e0+1-fr) fr;dsimp only;split
  ·exact h.again c hp hx (by simp)
  ·split
   ·exact h
   ·refine h.again c hp hx fun q hq=> ?_
    split at hq
    ·exact hpr q (by simp[hq])
    ·rcases List.mem_cons.1 hq with rfl|hq
     ·dsimp only;omega
     ·exact hpr q (by simp[hq])
theorem dm.pM {st:Sd} (c:Cf) (h:dm st) (now n:Int):dm (kU c st now n).1:=by
 have h1:=h.tick c now;unfold kU;split
 ·exact h1
 ·cases hp:fV (gG c st now).out with
  |some i=>
   obtain ⟨x,hx,_⟩:=iC hp;simp only[hx];exact h1.iD c n hp hx
  |none=>
   have h2:=h1.fresh c n hp;dsimp only;generalize iQ c n (gG c st now)=R at*;obtain ⟨s2,_|⟨x,b⟩⟩:=R
   ·exact h2
   ·exact h2
end
section
theorem E8 (c:Cf) (st:Sd) (b:Bool):(aR c st b).1.queue=st.queue∧(aR c st b).1.taken=st.taken∧(aR c st b).1.first=st.first∧(aR c st b).1.out=st.out∧(aR c st b).1.done=st.done∧(aR c st b).1.front=st.front∧(aR c st b).1.failed=st.failed∧(aR c st b).1.now=st.now:=by
 unfold aR;split<;>exact ⟨rfl,rfl,rfl,rfl,rfl,rfl,rfl,rfl⟩
end
section

end
section
structure Nk where
 sn:Int
 part:Bool
 fr:Int
 lt:Int
def jl (aI sn:Int):Int:=(aI-sn)%1024
def iE (aI:Int) (n:Nk):Bool:=
 (decide (0≤n.sn)&&decide (n.sn<1024))&&((decide (1≤jl aI n.sn)&&decide (jl aI n.sn≤512))&&
  (if n.part=true then decide (0≤n.fr)&&(decide (n.fr≤n.lt)&&decide (n.lt≤32767)) else decide (n.fr=0)&&decide (n.lt=0)))
def lX (aI:Int) (a b:Nk):Bool:=
 decide (jl aI b.sn<jl aI a.sn)||(decide (a.sn=b.sn)&&(a.part&&(b.part&&decide (a.lt<b.fr))))
def oN (aI:Int):List Nk→Bool
 | []=>true
 | [n]=>iE aI n
 |a::b::r=>iE aI a&&(lX aI a b&&oN aI (b::r))
def bU (aI:Int) (l:List Nk):Bool:=(decide (0≤aI)&&decide (aI≤1023))&&(decide (l.length≤512)&&oN aI l)
def fM (l:List (Nat × Nat)) (x:Nat × Nat):List (Nat × Nat):=
 match l.getLast? with
 |none=> [x]
 |some y=>if y.2+1=x.1 then l.dropLast++ [(y.1,x.2)] else l++ [x]
def fC (n:Nk):Nat × Nat:=if n.part=true then (n.fr.toNat,n.lt.toNat) else (0,32767)
def eX (size:Nat) (l:List (Nat × Nat)) (n:Nk):List (Nat × Nat):=
 if min (fC n).2 (size-1)<(fC n).1 then l else fM l ((fC n).1,min (fC n).2 (size-1))
def bK (dz:List Nk) (x:Ou):List (Nat × Nat):=(dz.filter (fun n=>decide (n.sn=(x.sn:Int)))).foldl (eX (ay x)) []
theorem KQ {l:List (Nat × Nat)} {x:Nat × Nat} (h:∀r∈l,r.1≤r.2) (hx:x.1≤x.2):∀r∈fM l x,r.1≤r.2:=by
 unfold fM;cases hl:l.getLast? with
 |none=>simpa using hx
 |some y=>
  have hy:=h y (List.mem_of_getLast? hl);dsimp only;split
  ·rename_i e;intro r hr;rcases List.mem_append.1 hr with hr|hr
   ·exact h r (List.dropLast_subset l hr)
   ·simp at hr;rw[hr];dsimp only;omega
  ·intro r hr;rcases List.mem_append.1 hr with hr|hr
   ·exact h r hr
   ·simp at hr;rw[hr];exact hx
theorem M7 (dz:List Nk) (x:Ou):∀r∈bK dz x,r.1≤r.2:=by
 unfold bK;generalize dz.filter (fun n=>decide (n.sn=(x.sn:Int)))=l;have key:∀(l:List Nk) (a:List (Nat × Nat)),(∀r∈a,r.1≤r.2)→∀r∈l.foldl (eX (ay x)) a,r.1≤r.2:=by
  intro l
  induction l with
  |nil=>intro a ha;simpa using ha
  |cons n r ih=>
   intro a ha;rw[List.foldl_cons];refine ih _ ?_;unfold eX;split
   ·exact ha
   ·exact KQ ha (by dsimp only;omega)
 exact key l [] (by simp)
def ed (st:Sd) (sn:Int):Int:=(sn-(st.first:Int))%1024
def oO (c:Cf) (st:Sd) (now aI:Int) (dz:List Nk):Sd × Int:=
 if bU aI dz=false then (st,2)
 else if (st.out.length:Int)<ed st aI∨dz.any (fun n=>decide (ed st aI≤ed st n.sn))=true then (fu st now,6)
 else
  let s2:=qm c (bK dz) (ed st aI).toNat (fu st now)
  (s2,if s2.failed=true then 8 else 0)
theorem dm.status {st:Sd} (h:dm st) (c:Cf) (now aI:Int) (dz:List Nk):dm (oO c st now aI dz).1:=by
 unfold oO;split
 ·exact h
 ·split
  ·exact h.clock now
  ·rename_i hr;have hn:(ed st aI).toNat≤(fu st now).out.length:=by
    have e:(fu st now).out.length=st.out.length:=rfl;rw[e];have:=not_or.1 hr;omega
   exact (h.clock now).stat c (bK dz) _ hn (M7 dz)
end
section
open Go.RowKit
def dA (w:World) (base:Nat) (e:TypeId) (v:Value) (n:Nat) (xs:List Value):Prop:=
 xs.length=n∧((v= .slice none 0 0∧n=0)∨∃g o cap cur,v= .slice (some ⟨g,o,none⟩) n cap∧base≤g∧w.heap[g]? =some (.cells cur e (0,0))∧n≤cap∧cap≤maxLen∧o+cap≤cur.size∧(cur.toList.drop o).take n=xs)
def aL:Value→Option Nat
 | .slice (some ad) _ _=>some ad.block
 |_=>none
section
variable {w w':World} {base:Nat} {e:TypeId} {v:Value} {n:Nat} {xs:List Value}
theorem yw (w:World) (base:Nat) (e:TypeId):dA w base e (.slice none 0 0) 0 []:=⟨rfl,.inl ⟨rfl,rfl⟩⟩
theorem dA.cO (h:w.ownsRow base e 1 v n xs):dA w base e v n xs:=by
 rcases h.2 with ⟨rfl,h0⟩|⟨g,cap,cur,rfl,hb,hg,hnc,hcm,hcs,ht⟩
 ·exact ⟨by simpa using h.1,.inl ⟨rfl,h0⟩⟩
 ·exact ⟨by simpa using h.1,.inr ⟨g,0,cap,cur,rfl,hb,hg,hnc,hcm,by omega,by simpa using ht⟩⟩
theorem dA.keep (h:dA w base e v n xs) (hk:∀g,aL v=some g→w'.heap[g]? =w.heap[g]?):dA w' base e v n xs:=by
 rcases h.2 with ⟨rfl,h0⟩|⟨g,o,cap,cur,rfl,hb,hg,hr⟩
 ·exact ⟨h.1,.inl ⟨rfl,h0⟩⟩
 ·exact ⟨h.1,.inr ⟨g,o,cap,cur,rfl,hb,(hk g rfl).trans hg,hr⟩⟩
theorem dA.row (h:dA w base e v n xs) {g:Nat} (hg:aL v=some g):∃cur,w.heap[g]? =some (.cells cur e (0,0))∧base≤g:=by
 rcases h.2 with ⟨rfl,_⟩|⟨g',o,cap,cur,rfl,hb,hh,_⟩
 ·simp[aL] at hg
 ·have:g'=g:=by simpa[aL] using hg
  subst this;exact ⟨cur,hh,hb⟩
theorem dA.lt (h:dA w base e v n xs) {g:Nat} (hg:aL v=some g):base≤g∧g<w.heap.size:=by
 obtain ⟨cur,hh,hb⟩:=h.row hg;exact ⟨hb,lt_of_heap hh⟩
theorem dA.below {B:Nat} (h:dA w base e v n xs) (hb:Below B w w') (hB:w.heap.size≤B):dA w' base e v n xs:=
 h.keep fun g hg=>hb.block g (by have:=(h.lt hg).2;omega)
theorem dA.alloc (h:dA w base e v n xs) (o:Obj):dA (w.alloc o) base e v n xs:=h.keep fun g hg=>Below.heap_alloc w o g (h.lt hg).2
theorem dA.drew (h:dA w base e v n xs):dA w.drew base e v n xs:=h
theorem dA.mQ {b':Nat} (h:dA w base e v n xs) (hb:b'≤base):dA w b' e v n xs:=by
 rcases h.2 with ⟨rfl,h0⟩|⟨g,o,cap,cur,rfl,hg,hr⟩
 ·exact ⟨h.1,.inl ⟨rfl,h0⟩⟩
 ·exact ⟨h.1,.inr ⟨g,o,cap,cur,rfl,by omega,hr⟩⟩
theorem dA.qw {g:Nat} {t:TypeId} {cs:Array Value} (h:dA w base e v n xs) (hb:aA w g t cs) (hne:e≠t):aL v≠some g:=by
 intro hg;obtain ⟨cur,hh,_⟩:=h.row hg;unfold aA at hb;rw[hh] at hb;cases hb;exact hne rfl
theorem dA.store {g i:Nat} {t:TypeId} {cs:Array Value} (h:dA w base e v n xs) (hb:aA w g t cs) (hne:e≠t) (u:Value):dA (w.setCell ⟨g,i,none⟩ u) base e v n xs:=
 h.keep fun k hk=>Below.heap_setCell w _ _ k (fun ek=>by
  have e2:k=g:=ek;subst e2;exact h.qw hb hne hk)
theorem dA.grown {row:Option Nat} (h:dA w base e v n xs) (hg:w.grownBy w' row) (hr:∀g,row=some g→aL v≠some g):dA w' base e v n xs:=
 h.keep fun g hgv=>hg.block g (h.lt hgv).2 (fun e=>hr g e.symm hgv)
theorem dA.cells {g o cap:Nat} (h:dA w base e (.slice (some ⟨g,o,none⟩) n cap) n xs):∀j u,xs[j]? =some u→w.cell? ⟨g,o+j,none⟩=some u:=by
 intro j u hu;rcases h.2 with ⟨hv,_⟩|⟨g',o',cap',cur,hv,hb,hh,hnc,hcm,hs,ht⟩
 ·cases hv
 ·cases hv;rw[cell_of_row w g (o+j) cur e (0,0) hh];rw[←ht,List.getElem?_take] at hu;split at hu
  ·rw[List.getElem?_drop] at hu;simpa using hu
  ·cases hu
theorem dA.sl (h:dA w base e v n xs):∃A c,v= .slice A n c∧Sl w w.heap.size A n c xs:=by
 rcases h.2 with ⟨rfl,rfl⟩|⟨g,o,cap,cur,rfl,hb,hh,hnc,hcm,hs,ht⟩
 ·exact ⟨none,0,rfl,by have:=List.eq_nil_of_length_eq_zero h.1;subst this;exact Sl.Uz.2 (by omega)⟩
 ·refine ⟨_,_,rfl,h.1,hnc,by unfold maxLen at hcm;omega,fun _=>⟨_,rfl,lt_of_heap hh,fun j u hu=> ?_⟩⟩;rw[Addr.add_lit];exact h.cells j u hu
theorem dA.tail {x:Value} {g o cap:Nat} (h:dA w base e (.slice (some ⟨g,o,none⟩) (n+1) cap) (n+1) (x::xs)):dA w base e (.slice (some (if cap=1 then ⟨g,o,none⟩ else ⟨g,o+1,none⟩)) n (cap-1)) n xs:=by
 have hl:xs.length=n:=by have:=h.1;simpa using this
 rcases h.2 with ⟨hv,_⟩|⟨g',o',cap',cur,hv,hb,hh,hnc,hcm,hs,ht⟩
 ·cases hv
 ·cases hv;by_cases hc:cap=1
  ·subst hc;have hn:n=0:=by omega
   subst hn;have hx:=List.eq_nil_of_length_eq_zero hl;subst hx;exact ⟨rfl,.inr ⟨g,o,0,cur,by simp,hb,hh,by omega,by omega,by omega,by simp⟩⟩
  ·refine ⟨hl,.inr ⟨g,o+1,cap-1,cur,by simp[hc],hb,hh,by omega,by omega,by omega,?_⟩⟩;have h2:=congrArg (List.drop 1) ht;rw[List.drop_take,List.drop_drop] at h2;simpa using h2
variable {P:Program}
theorem Dq (t ty:TypeId) (i:TypeInfo) (z:Value) (bytes:Nat) (ht:P.underlying t=some (.slice e)) (hi:P.info? e=some i) (hz:i.zero=some z)
 (hsize:i.size=1) (hby:i.bytes=bytes) (hzs:z.cells.size=1) (hown:dA w base e v n xs)
 (a:Addr) (c:Nat) (u:Value) (hu:w.cell? a=some u) (h1:u.oneCell'=true)
 (h63:n+1≤maxLen) (hbytes:(n+1)*bytes≤140737488355328) (hbase:base≤w.heap.size):
 ∃v' w',(Builtin.append_ #[t,t] ty #[v,.slice (some a) 1 c]).run P w= .ok v' w'∧dA w' base e v' (n+1) (xs++ [u])∧w.grownBy w' (aL v)∧(∀k,aL v'=some k→aL v=some k∨w.heap.size≤k):=by
 have hnews:∀j x,[u][j]? =some x→w.cell? (a.add j)=some x:=by
  intro j x hx;cases j with
  |zero=>simp at hx;subst hx;simpa[Addr.add] using hu
  |succ j=>simp at hx
 rcases hown.2 with ⟨rfl,rfl⟩|⟨g,o,cap,cur,rfl,hbg,hg,hnc,hcm,hcs,htake⟩
 ·have hx:=List.eq_nil_of_length_eq_zero hown.1;subst hx;obtain ⟨v',w',hr,h2,h3,_⟩:=run_append_own (P:=P) w w.heap.size t ty e i z 1 bytes ht hi hz hsize hby hzs (by omega) (.slice none 0 0) 0 [] (World.ownsRow_nil _ _ _ _) a 1 c [u] rfl hnews (by simpa using h1) h63 hbytes (Nat.le_refl _);exact ⟨v',w',hr,(dA.cO h2).mQ hbase,h3,fun k hk=> .inr ((dA.cO h2).lt hk).1⟩
 ·by_cases hroom:n+1≤cap
  ·have hcell:(w.cell? ⟨g,o+n,none⟩).isSome=true:=by
    rw[cell_of_row w g (o+n) cur e (0,0) hg,Array.getElem?_eq_getElem (by omega)];rfl
   have hfr:w.frozen? ⟨g,o+n,none⟩=false:=by simp[World.frozen?,hg]
   have hc0:∀j,j< [u].length→(w.cell? ⟨g,o+n*i.size+j,none⟩).isSome=true:=by
    intro j hj;have hj0:j=0:=by simpa using hj
    subst hj0;simpa[hsize] using hcell
   have hf0:∀j,j< [u].length→w.frozen? ⟨g,o+n*i.size+j,none⟩=false:=by
    intro j hj;have hj0:j=0:=by simpa using hj
    subst hj0;simpa[hsize] using hfr
   have hr:=run_append_room_cells (P:=P) w t ty e i ht hi g o n cap a 1 c [u] (by rw[hsize];rfl) hnews (by simpa using h1) hroom hc0 hf0;rw[hsize,Nat.mul_one] at hr;have hset:w.setCells g (o+n) [u]=w.setCell ⟨g,o+n,none⟩ u:=rfl;rw[hset] at hr;refine ⟨_,_,hr,⟨by simp[hown.1],.inr ⟨g,o,cap,cur.setIfInBounds (o+n) u,rfl,hbg,heap_setCell_same w g (o+n) cur e u hg,hroom,hcm,by simpa using hcs,?_⟩⟩,aJ w g (o+n) u,fun k hk=> .inl hk⟩;rw[Array.toList_setIfInBounds];apply List.ext_getElem?;intro j;rw[List.getElem?_take,List.getElem?_drop,List.getElem?_set];rcases Nat.lt_trichotomy j n with hj|hj|hj
   ·rw[if_pos (by omega),if_neg (by omega),List.getElem?_append_left (by rw[hown.1];exact hj),←htake,List.getElem?_take,if_pos hj,List.getElem?_drop]
   ·subst hj;rw[if_pos (by omega),if_pos rfl,if_pos (by simp;omega),List.getElem?_append_right (by rw[hown.1];omega),hown.1,Nat.sub_self];rfl
   ·rw[if_neg (by omega),List.getElem?_eq_none (by simp[hown.1];omega)]
  ·obtain ⟨v',w',hr,h2,h3⟩:=run_append_arg_grows (P:=P) w t ty e i z 1 bytes ht hi hz hsize hby hzs (by omega) ⟨g,o,none⟩ n cap xs (by simpa using hown.1) (fun j x hx=>by rw[Addr.add_lit];exact hown.cells j x hx) a 1 c [u] rfl hnews (by omega) h63 hbytes;exact ⟨v',w',hr,(dA.cO h2).mQ hbase,⟨h3.os,h3.tape,h3.output,h3.size,fun k hk _=>h3.block k hk (by simp)⟩,fun k hk=> .inr ((dA.cO h2).lt hk).1⟩
theorem vT {o:Oper} {a:Act} {K:Act→World→Prop} {Q:Exit→Act→World→Prop} (s x:Operand) (t:TypeId)
 (ho:o.op= .call {callee:= .builtin .append,args:= #[s,x],argTypes:= #[t,t]})
 (i:TypeInfo) (z:Value) (bytes:Nat) (ht:P.underlying t=some (.slice e)) (hi:P.info? e=some i) (hz:i.zero=some z)
 (hsize:i.size=1) (hby:i.bytes=bytes) (hzs:z.cells.size=1) (hs:a.eval s=v) (hown:dA w base e v n xs)
 (ad:Addr) (c:Nat) (u:Value) (hx:a.eval x= .slice (some ad) 1 c) (hu:w.cell? ad=some u) (h1:u.oneCell'=true)
 (h63:n+1≤maxLen) (hbytes:(n+1)*bytes≤140737488355328) (hbase:base≤w.heap.size)
 (h:∀v' w',dA w' base e v' (n+1) (xs++ [u])→w.grownBy w' (aL v)→(∀k,aL v'=some k→aL v=some k∨w.heap.size≤k)→K (a.put o.dst v') w'):o.wp P a w K Q:=by
 obtain ⟨v',w',hr,h2,h3,h4⟩:=Dq (P:=P) t o.type i z bytes ht hi hz hsize hby hzs hown ad c u hu h1 h63 hbytes hbase;unfold Oper.wp execOp;simp only[ho,resolve,invoke,builtin,Sem.run_bind,Sem.run_pure,Result.andThen_ok,List.map_toArray,List.map_cons,List.map_nil,hs,hx,hr];exact h v' w' h2 h3 h4
theorem pN {ops:Array Oper} {rest:List Oper} {o:Oper} {a:Act} {Q:Exit→Act→World→Prop} (hgd:o.guard=none) (s x:Operand) (t:TypeId)
 (ho:o.op= .call {callee:= .builtin .append,args:= #[s,x],argTypes:= #[t,t]})
 (i:TypeInfo) (z:Value) (bytes:Nat) (ht:P.underlying t=some (.slice e)) (hi:P.info? e=some i) (hz:i.zero=some z)
 (hsize:i.size=1) (hby:i.bytes=bytes) (hzs:z.cells.size=1) (hs:a.eval s=v) (hown:dA w base e v n xs)
 (ad:Addr) (c:Nat) (u:Value) (hx:a.eval x= .slice (some ad) 1 c) (hu:w.cell? ad=some u) (h1:u.oneCell'=true)
 (h63:n+1≤maxLen) (hbytes:(n+1)*bytes≤140737488355328) (hbase:base≤w.heap.size)
 (h:∀v' w',dA w' base e v' (n+1) (xs++ [u])→w.grownBy w' (aL v)→(∀k,aL v'=some k→aL v=some k∨w.heap.size≤k)→wpList P ops Q rest (a.put o.dst v') w'):wpList P ops Q (o::rest) a w:=
 wpList_plain hgd fun _ hK=>vT s x t ho i z bytes ht hi hz hsize hby hzs hs hown ad c u hx hu h1 h63 hbytes hbase fun v' w' h2 h3 h4=>hK _ _ (h v' w' h2 h3 h4)
theorem AO {ops:Array Oper} {o:Oper} {a:Act} {K:Act→World→Prop} {Q:Exit→Act→World→Prop} {E:Prop} (hgd:o.guard=none) (s x:Operand) (t:TypeId)
 (ho:o.op= .call {callee:= .builtin .append,args:= #[s,x],argTypes:= #[t,t]})
 (i:TypeInfo) (z:Value) (bytes:Nat) (ht:P.underlying t=some (.slice e)) (hi:P.info? e=some i) (hz:i.zero=some z)
 (hsize:i.size=1) (hby:i.bytes=bytes) (hzs:z.cells.size=1) (hs:a.eval s=v) (hown:dA w base e v n xs)
 (ad:Addr) (c:Nat) (u:Value) (hx:a.eval x= .slice (some ad) 1 c) (hu:w.cell? ad=some u) (h1:u.oneCell'=true)
 (h63:n+1≤maxLen) (hbytes:(n+1)*bytes≤140737488355328) (hbase:base≤w.heap.size)
 (h:∀v' w',dA w' base e v' (n+1) (xs++ [u])→w.grownBy w' (aL v)→(∀k,aL v'=some k→aL v=some k∨w.heap.size≤k)→K (a.put o.dst v') w'):if Region.wanted o (yielded ops a.tmps)=true then Oper.wp P o a w K Q else E:=by
 have hw:Region.wanted o (yielded ops a.tmps)=true:=by simp[Region.wanted,hgd]
 rw[if_pos hw];exact vT s x t ho i z bytes ht hi hz hsize hby hzs hs hown ad c u hx hu h1 h63 hbytes hbase h
end
end
section
open Go.RowKit
def Aa (F D:Nat→Prop) (A:Option Addr):Prop:=∀ad,A=some ad→F ad.block∧¬D ad.block
def sOf:Value→Option Addr
 | .slice A _ _=>A
 |_=>none
section
variable {w w':World} {B n c:Nat} {A:Option Addr} {xs vs:List Value} {ps:List (List UInt8)}
theorem Sl.stay (h:Sl w w.heap.size A n c xs) (hk:∀ad,A=some ad→w'.heap[ad.block]? =w.heap[ad.block]?):Sl w' w'.heap.size A n c xs:=
 ⟨h.len,h.cap,h.mx,fun hn=>by
  obtain ⟨ad,e,hb,hc⟩:=h.at_ hn;have hs:=hk ad e;refine ⟨ad,e,?_,fun j u hu=>(World.cell?_of_block (by rw[block_add];exact hs)).trans (hc j u hu)⟩;have:w.heap[ad.block]? =some w.heap[ad.block]:=Array.getElem?_eq_getElem hb;rw[this] at hs;exact lt_of_heap hs⟩
theorem gD.stay (h:gD w w.heap.size A n c vs ps) (hk:∀ad,A=some ad→w'.heap[ad.block]? =w.heap[ad.block]?) (hv:∀(i:Nat) v ad,vs[i]? =some v→sOf v=some ad→w'.heap[ad.block]? =w.heap[ad.block]?):gD w' w'.heap.size A n c vs ps:=by
 refine ⟨h.sl.stay hk,h.len,fun i p hi=> ?_⟩;obtain ⟨A',c',e,hs⟩:=h.each i p hi;exact ⟨A',c',e,hs.stay fun ad ea=>hv i _ ad e (by rw[ea];rfl)⟩
end
def dh (c:Cf) (vq vo:Value) (st:Sd):Array Value:=
 #[.int .i64 c.J3,.int .i64 c.byte,.int .i64 c.timer,.int .i64 c.reorder,.int .i64 c.gP,.int .i64 c.dF,.int .i64 c.cap,vq,.int .i64 (st.done:Nat),.int .i64 (st.front:Nat),.int .i64 (st.taken:Nat),.int .i64 (st.first:Nat),vo,.int .i64 (st.dV:Nat),.int .i64 (st.bytes:Nat),.int .i64 (st.polled:Nat),.bool st.wait,.int .i64 st.iB,.bool st.fD,.bool st.failed,.int .i64 st.now]
def uN (x:Ou) (vp vr:Value):Array Value:=
 #[.int .i64 (x.sn:Nat),.bool false,.bool false,.bool false,.int .i64 0,.bool x.s,.bool x.e,vp,.int .i64 (ay x:Nat),.bool x.bS,vr,.int .i64 (x.dF:Nat)]
structure cZ (w:World) (A:Option Addr) (n c:Nat) (l:List (Nat × Nat)):Prop where
 len:l.length=n
 cap:n≤c
 mx:c≤9223372036854775807
 at_:0<n→∃ad,A=some ad∧ad.block<w.heap.size∧∀j r,l[j]? =some r→w.cell? (ad.add (j*2))=some (.int .i64 (r.1:Nat))∧w.cell? (ad.add (j*2+1))=some (.int .i64 (r.2:Nat))
theorem cZ.stay {w w':World} {A:Option Addr} {n c:Nat} {l:List (Nat × Nat)} (h:cZ w A n c l) (hk:∀ad,A=some ad→w'.heap[ad.block]? =w.heap[ad.block]?):cZ w' A n c l:=
 ⟨h.len,h.cap,h.mx,fun hn=>by
  obtain ⟨ad,e,hb,hc⟩:=h.at_ hn;have hs:=hk ad e;refine ⟨ad,e,?_,fun j r hr=>⟨(World.cell?_of_block (by rw[block_add];exact hs)).trans (hc j r hr).1,(World.cell?_of_block (by rw[block_add];exact hs)).trans (hc j r hr).2⟩⟩;have:w.heap[ad.block]? =some w.heap[ad.block]:=Array.getElem?_eq_getElem hb;rw[this] at hs;exact lt_of_heap hs⟩
theorem cZ.nil (w:World):cZ w none 0 0 []:=⟨rfl,Nat.le_refl _,by omega,fun h=>absurd h (by omega)⟩
structure gK (w:World) (D F:Nat→Prop) (p:Nat) (x:Ou) (Ap:Option Addr) (cp:Nat) (vp:List Value) (Ar:Option Addr) (cr:Nat):Prop where
 blk:aA w p 120 (uN x (.slice Ap x.ps.length cp) (.slice Ar x.pend.length cr))
 d:D p
 f:F p
 ps:gD w w.heap.size Ap x.ps.length cp vp x.ps
 pf:Aa F D Ap
 pe:∀(i:Nat) v,vp[i]? =some v→Aa F D (sOf v)
 rs:cZ w Ar x.pend.length cr x.pend
 rf:Aa F D Ar
structure dY (w:World) (D F:Nat→Prop) (g:Nat) (c:Cf) (st:Sd) (vq:Value) (vs:List Value) (vo:Value) (os:List Value):Prop where
 blk:aA w g 113 (dh c vq vo st)
 gd:D g
 sub:∀k,D k→F k
 lt:∀k,F k→k<w.heap.size
 qr:dA w 0 22 vq st.queue.length vs
 qd:∀k,aL vq=some k→D k
 qe:∀(i:Nat) (p:List UInt8),st.queue[i]? =some p→∃A cc,vs[i]? =some (.slice A p.length cc)∧Sl w w.heap.size A p.length cc (cu p)∧Aa F D A
 nR:dA w 0 118 vo st.out.length os
 od:∀k,aL vo=some k→D k
 oe:∀(i:Nat) (x:Ou),st.out[i]? =some x→∃p Ap cp vp Ar cr,os[i]? =some (.pointer (some ⟨p,0,none⟩))∧gK w D F p x Ap cp vp Ar cr
 inj:∀(i j:Nat) v,os[i]? =some v→os[j]? =some v→i=j
def dX (w:World) (D D':Nat→Prop):Prop:=∀k,D' k→D k∨w.heap.size≤k
theorem dX.refl (w:World) (D:Nat→Prop):dX w D D:=fun _ h=> .inl h
theorem dX.trans {w w':World} {D D' D'':Nat→Prop} (h:dX w D D') (h':dX w' D' D'') (hs:w.heap.size≤w'.heap.size):dX w D D'':=fun k hk=>by
 rcases h' k hk with e|e
 ·exact h k e
 ·exact .inr (by omega)
section
variable {w w':World} {D F:Nat→Prop} {g:Nat} {c:Cf} {st:Sd} {vq vo:Value} {vs os:List Value}
theorem gK.stay {p:Nat} {x:Ou} {Ap Ar:Option Addr} {cp cr:Nat} {vp:List Value} (h:gK w D F p x Ap cp vp Ar cr) (hk:∀k,F k→w'.heap[k]? =w.heap[k]?):gK w' D F p x Ap cp vp Ar cr:=
 ⟨(hk p h.f).trans h.blk,h.d,h.f,h.ps.stay (fun ad e=>hk _ (h.pf ad e).1) (fun i v ad hv e=>hk _ (h.pe i v hv ad e).1),h.pf,h.pe,h.rs.stay (fun ad e=>hk _ (h.rf ad e).1),h.rf⟩
theorem dY.stay (h:dY w D F g c st vq vs vo os) (hk:∀k,F k→w'.heap[k]? =w.heap[k]?):dY w' D F g c st vq vs vo os:=by
 have hlt:∀k,F k→k<w'.heap.size:=fun k hf=>by
  have h1:=h.lt k hf;have h2:=hk k hf;rw[Array.getElem?_eq_getElem h1] at h2;exact lt_of_heap h2
 exact ⟨(hk g (h.sub g h.gd)).trans h.blk,h.gd,h.sub,hlt,h.qr.keep fun k e=>hk k (h.sub k (h.qd k e)),h.qd,
  fun i p hi=>let ⟨A,cc,e,hs,hf⟩:=h.qe i p hi;⟨A,cc,e,hs.stay fun ad ea=>hk _ (hf ad ea).1,hf⟩,
  h.nR.keep fun k e=>hk k (h.sub k (h.od k e)),h.od,
  fun i x hi=>let ⟨p,Ap,cp,vp,Ar,cr,e,ho⟩:=h.oe i x hi;⟨p,Ap,cp,vp,Ar,cr,e,ho.stay hk⟩,h.inj⟩
theorem dY.below (h:dY w D F g c st vq vs vo os) (hb:Below w.heap.size w w'):dY w' D F g c st vq vs vo os:=h.stay fun k hf=>hb.block k (h.lt k hf)
theorem dY.drewN (h:dY w D F g c st vq vs vo os) (k:Nat):dY (w.drewN k) D F g c st vq vs vo os:=h.below ((Below.refl _ w).drewN k)
theorem dY.drew (h:dY w D F g c st vq vs vo os):dY w.drew D F g c st vq vs vo os:=h.below ((Below.refl _ w).drew)
theorem dY.alloc (h:dY w D F g c st vq vs vo os) (o:Obj):dY (w.alloc o) D F g c st vq vs vo os:=h.below ((Below.refl _ w).alloc (Nat.le_refl _) o)
end
end
section
def eu (l:List (Nat × Nat)):Nat:=(l.map (fun r=>r.2+1-r.1)).sum
def pO (l:List Ou):Nat:=(l.map (fun x=>eu x.pend)).sum
def E9 (st:Sd):Int:=(aZ st:Int)-(st.taken:Int)+(pO st.out:Int)
def eB (c:Cf) (st:Sd) (x:List UInt8):Sd × Int:=
 if st.failed=true then (st,8)
 else if x.length=0∨9000<x.length then (st,2)
 else if c.cap<(aZ st:Int)+(x.length:Int) then (st,7)
 else (gI st x,0)
def dw (c:Cf) (st:Sd) (now n:Int):Sd × Option Pu × Int:=
 if st.failed=true then (st,none,8)
 else if n<0 then (st,none,2)
 else ((kU c st now n).1,(kU c st now n).2.1,if (kU c st now n).2.2=true then 8 else 0)
def eD (c:Cf) (st:Sd) (now aI:Int) (dz:List Nk):Sd × Int:=
 if st.failed=true then (st,8) else oO c st now aI dz
theorem dm.eB {st:Sd} (h:dm st) (c:Cf) (x:List UInt8):dm (eB c st x).1:=by
 unfold Go.Proofs.YtiecgfahidpldaaGreat.eB;split
 ·exact h
 ·split
  ·exact h
  ·split
   ·exact h
   ·exact h.rG (by omega)
theorem dm.dw {st:Sd} (h:dm st) (c:Cf) (now n:Int):dm (dw c st now n).1:=by
 unfold Go.Proofs.YtiecgfahidpldaaGreat.dw;split
 ·exact h
 ·split
  ·exact h
  ·exact h.pM c now n
theorem dm.eD {st:Sd} (h:dm st) (c:Cf) (now aI:Int) (dz:List Nk):dm (eD c st now aI dz).1:=by
 unfold Go.Proofs.YtiecgfahidpldaaGreat.eD;split
 ·exact h
 ·exact h.status c now aI dz
end
section
structure M8 (c:Cf):Prop where
 J3:0≤c.J3∧c.J3≤1024
 byte:0≤c.byte∧c.byte≤1048576
 timer:1≤c.timer∧c.timer≤1048576
 dF:0≤c.dF∧c.dF≤64
 cap:1≤c.cap∧c.cap≤1048576
structure AP (x:Ou):Prop where
 sn:x.sn≤1023
 ps:oJ x.ps
 pr:∀r∈x.pend,r.1≤r.2∧r.2<ay x
 pl:x.pend.length≤1000
structure jL (st:Sd) (K:Nat):Prop where
 done:st.done≤1048576*K
 dV:st.dV≤K
 bytes:st.bytes≤32767*K
 held:aZ st≤1048576
 Ho:∀s∈st.queue,1≤s.length∧s.length≤9000
 pol:st.polled≤1023
 ou:∀x∈st.out,AP x
 rx:∀x∈st.out,x.dF≤K
 AQ:0≤st.now
 AR:st.now≤9223372036854775807
theorem jL.mono {st:Sd} {K K':Nat} (h:jL st K) (hk:K≤K'):jL st K':=
 ⟨Nat.le_trans h.done (Nat.mul_le_mul_left _ hk),Nat.le_trans h.dV hk,Nat.le_trans h.bytes (Nat.mul_le_mul_left _ hk),h.held,h.Ho,h.pol,h.ou,fun x hx=>Nat.le_trans (h.rx x hx) hk,h.AQ,h.AR⟩
theorem jL.new:jL fF 0:=⟨by simp[fF],by simp[fF],by simp[fF],by simp[fF,aZ,au],by simp[fF],by simp[fF],by simp[fF],by simp[fF],by simp[fF],by simp[fF]⟩
theorem nS {q:List (List UInt8)} (h:∀s∈q,1≤s.length):q.length≤au q:=by
 induction q with
 |nil=>simp
 |cons x r ih=>
  have h1:=h x (by simp);have h2:=ih (fun s hs=>h s (by simp[hs]));rw[iK];simp only[List.length_cons];omega
theorem jL.clock {st:Sd} {K:Nat} (h:jL st K) {now:Int} (hn:now≤9223372036854775807):jL (fu st now) K:=
 ⟨h.done,h.dV,h.bytes,h.held,h.Ho,h.pol,h.ou,h.rx,by have:=h.AQ;simp only[fu];split<;>omega,by have:=h.AR;simp only[fu];split<;>omega⟩
theorem jL.rG {st:Sd} {K:Nat} (h:jL st K) {x:List UInt8} (h1:1≤x.length) (h9:x.length≤9000) (hc:aZ st+x.length≤1048576):jL (gI st x) K:=
 ⟨h.done,h.dV,h.bytes,by simp only[aZ,gI,nP,iK] at*;simp[au] at*;omega,fun s hs=>by
  simp only[gI,List.mem_append,List.mem_singleton] at hs;rcases hs with hs|rfl
  ·exact h.Ho s hs
  ·exact ⟨h1,h9⟩,h.pol,h.ou,h.rx,h.AQ,h.AR⟩
theorem J5 (c:Cf) {x:Ou} {l:List (Nat × Nat)} {K:Nat} (h:AP x) (hr:x.dF≤K) (hl:∀r∈l,r.1≤r.2∧r.2<ay x) (hn:l.length≤1000):AP (gY c x l).1∧(gY c x l).1.dF≤K+1:=by
 unfold gY;split
 ·exact ⟨⟨h.sn,h.ps,hl,hn⟩,by dsimp only;omega⟩
 ·exact ⟨⟨h.sn,h.ps,hl,hn⟩,by dsimp only;omega⟩
theorem gV {x:Ou} (h:AP x):1≤ay x∧ay x≤32767:=by
 unfold ay;have:=h.ps.sum;have:=h.ps.lo;refine ⟨?_,by omega⟩;obtain ⟨p,hp⟩:=List.exists_mem_of_length_pos (show 0<x.ps.length by omega);have:=fJ hp;have:=h.ps.pos p hp;omega
theorem jL.set {st:Sd} {K:Nat} (h:jL st K) (i:Nat) {z:Ou} (hz:AP z) (hr:z.dF≤K) (b:Bool):jL {st with out:=st.out.set i z,failed:=b} K:=
 ⟨h.done,h.dV,h.bytes,h.held,h.Ho,h.pol,fun x hx=>by
  rcases sQ hx with rfl|hx
  ·exact hz
  ·exact h.ou x hx,fun x hx=>by
  rcases sQ hx with rfl|hx
  ·exact hr
  ·exact h.rx x hx,h.AQ,h.AR⟩
theorem jL.sS {st:Sd} {K:Nat} (h:jL st K) (c:Cf):jL (d9 c st) (K+1):=by
 unfold d9;split
 ·exact h.mono (by omega)
 ·split
  ·exact h.mono (by omega)
  ·split
   ·exact h.mono (by omega)
   ·rename_i i _ _ x hx;have hm:=List.mem_of_getElem? hx;have ho:=h.ou x hm;have hs:=gV ho;obtain ⟨p1,p2⟩:=J5 c ho (h.rx x hm) (l:= [(0,ay x-1)]) (fun r hr=>by simp at hr;rw[hr];dsimp only;omega) (by simp);exact (h.mono (Nat.le_succ K)).set i p1 p2 _
theorem jL.tick {st:Sd} {K:Nat} (h:jL st K) (c:Cf) {now:Int} (hn:now≤9223372036854775807):jL (gG c st now) (K+1):=by
 have h1:=h.clock hn;unfold gG fZ;split
 ·exact h1.mono (by omega)
 ·exact jL.sS (st:= {fu st now with wait:=false,fD:=true}) ⟨h1.done,h1.dV,h1.bytes,h1.held,h1.Ho,h1.pol,h1.ou,h1.rx,h1.AQ,h1.AR⟩ c
theorem jL.finish {st:Sd} {K:Nat} (h:jL st K) (c:Cf) (b:Bool):jL (aR c st b).1 K:=by
 unfold aR;split
 ·exact ⟨h.done,Nat.zero_le _,Nat.zero_le _,h.held,h.Ho,by show (cB st+1023)%1024≤1023;omega,h.ou,h.rx,h.AQ,h.AR⟩
 ·exact h
theorem jL.again {st:Sd} {K:Nat} (h:jL st K) (c:Cf) (n:Int) (i:Nat) {x:Ou} (hx:st.out[i]? =some x):jL (iD c n st i x).1 K:=by
 have hm:=List.mem_of_getElem? hx;have ho:=h.ou x hm;have hpl:=ho.pl;have key:∀l:List (Nat × Nat),(∀r∈l,r.1≤r.2∧r.2<ay x)→l.length≤1000→jL (kr st i x l) K:=fun l hl hn=>
  h.set i (z:= {x with pend:=l}) ⟨ho.sn,ho.ps,hl,hn⟩ (h.rx x hm) st.failed
 have hpr:=ho.pr;unfold Go.Proofs.YtiecgfahidpldaaGreat.iD;cases hl:x.pend with
 |nil=>exact h
 |cons r rest=>
  obtain ⟨fr,e0⟩:=r;rw[hl] at hpr hpl;have hr:=hpr (fr,e0) (by simp);dsimp only at hr;have hb:=xA (gJ x fr n) (e0+1-fr) fr;simp only[List.length_cons] at hpl;dsimp only;split
  ·exact (key [] (by simp) (by simp)).finish c false
  ·split
   ·exact h
   ·refine (key _ (fun q hq=> ?_) ?_).finish c false
    ·split at hq
     ·exact hpr q (by simp[hq])
     ·rcases List.mem_cons.1 hq with rfl|hq
      ·dsimp only;omega
      ·exact hpr q (by simp[hq])
    ·split
     ·omega
     ·simp only[List.length_cons];omega
theorem chunk_ok {st:Sd} {K:Nat} (_h:jL st K) (hi:InvV st) (n:Int) (hne:(dK n st).ps≠ []):AP (dK n st):=by
 obtain ⟨⟨d,h1,h2⟩,h3,h4⟩:=nQ st.queue st.taken hi.le;have hne':(jD n ((aK st.queue st.taken).1.length+1) (aK st.queue st.taken).1 (aK st.queue st.taken).2 0 0 0 false).1≠ []:=hne;have hpos:∀s∈(aK st.queue st.taken).1,1≤s.length:=fun s hs=>hi.pos s (by rw[h1];simp[hs])
 have hv:=nN n ((aK st.queue st.taken).1.length+1) (aK st.queue st.taken).1 (aK st.queue st.taken).2 false hpos h4 hne';exact ⟨by show cB st≤1023;unfold cB;omega,hv,(by intro r hr;cases hr),by show (0:Nat)≤1000;omega⟩
theorem jL.fresh {st:Sd} {K:Nat} (h:jL st K) (hi:InvV st) (c:Cf) (n:Int):jL (iQ c n st).1 (K+1):=by
 unfold iQ;split
 ·exact h.mono (by omega)
 ·split
  ·exact h.mono (by omega)
  ·rename_i hne;have ho:=chunk_ok h hi n hne;have hs:=gV ho;have hx:(dK n st).dF=0:=rfl;dsimp only;generalize dK n st=x at*;refine jL.finish (st:=dR st x) ⟨?_,?_,?_,h.held,h.Ho,h.pol,fun y hy=> ?_,fun y hy=> ?_,h.AQ,h.AR⟩ c _
   ·have:=h.done;show st.done≤_
    omega
   ·have:=h.dV;show st.dV+1≤_
    omega
   ·have:=h.bytes;show st.bytes+ay x≤_
    omega
   ·simp only[dR,List.mem_append,List.mem_singleton] at hy;rcases hy with hy|rfl
    ·exact h.ou y hy
    ·exact ho
   ·simp only[dR,List.mem_append,List.mem_singleton] at hy;rcases hy with hy|rfl
    ·have:=h.rx y hy;omega
    ·omega
end
end Go.Proofs.YtiecgfahidpldaaGreat
