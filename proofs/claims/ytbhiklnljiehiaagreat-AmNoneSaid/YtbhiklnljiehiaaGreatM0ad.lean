/- amsend: new PDUs, reports; AmsendHolds' plain law. amsend: reports; AmsendHolds' plain law. Plain mathematics: what cutting a PDU comes to. amsend: what a grant gives (plain). amsend: AmsendBytes' plain law. amsend: AmsendWindow's plain law. amsend: status reports (plain). A queue's row: a row of its own from an offset on ('q = q[1:]', 'q = append(q, x)'). amsend: the transmitter's memory. amsend: Buffered, and what AmsendHolds asks after each call (plain). amsend: bounds (plain). -/
import Derived.Test.YtbhiklnljiehiaaGreatM0aa
import Derived.Test.YtbhiklnljiehiaaGreatM0ab
import Derived.Test.YtbhiklnljiehiaaGreatM0ac
import Derived.ArgAppend
namespace Go.Proofs.YtbhiklnljiehiaaGreat
section
theorem vG:∀(ps:List (List UInt8)) (op:List UInt8) (sm e:Bool),ps≠ []→op.length+ah ps=ah (pG op sm ps e).1+(pG op sm ps e).2.1.length
 | [],_,_,_,h=>absurd rfl h
 | [p],op,sm,e,_=>by cases e<;>simp[pG,ah]
 |p::q::r,op,sm,e,_=>by
  have ih:=vG (q::r) [] false e (by simp);simp only[pG,iA,List.length_append] at ih ⊢;simp only[List.length_nil] at ih;omega
theorem uw:∀(q:List (List UInt8)) (k:Nat),k≤ah q→(∃d,q=d++(aN q k).1∧ah d+(aN q k).2=k)∧((aN q k).1= []→(aN q k).2=0)∧∀x r,(aN q k).1=x::r→(aN q k).2<x.length
 | [],k,h=>by
  have:k=0:=by simpa[ah] using h
  subst this;exact ⟨⟨[],rfl,rfl⟩,fun _=>rfl,by simp[aN]⟩
 |x::r,k,h=>by
  rw[iA] at h;unfold aN;split
  ·rename_i hx;obtain ⟨⟨d,h1,h2⟩,h3,h4⟩:=uw r (k-x.length) (by omega);refine ⟨⟨x::d,?_,?_⟩,h3,h4⟩
   ·rw[List.cons_append,←h1]
   ·rw[iA];omega
  ·refine ⟨⟨[],rfl,by simp[ah]⟩,by simp,fun y t e=> ?_⟩;simp at e;rw[←e.1];omega
theorem Bb {st:Sd} (h:InvV st) (n:Int) (hne:(dL n st).ps≠ []):1≤aF (dL n st)∧st.taken+aF (dL n st)≤bM st:=by
 obtain ⟨⟨d,h1,h2⟩,h3,h4⟩:=uw st.queue st.taken h.le;have hne':(oQ n ((aN st.queue st.taken).1.length+1) (aN st.queue st.taken).1 (aN st.queue st.taken).2 0 0 0 false).1≠ []:=hne;have hpos:∀s∈(aN st.queue st.taken).1,1≤s.length:=fun s hs=>h.pos s (by rw[h1];simp[hs])
 have hk:=Gt n ((aN st.queue st.taken).1.length+1) (aN st.queue st.taken).1 (aN st.queue st.taken).2 0 0 0 false hpos h4 h3;have hv:=Ba n ((aN st.queue st.taken).1.length+1) (aN st.queue st.taken).1 (aN st.queue st.taken).2 false hpos h4 hne';have hs:aF (dL n st)=ah (oQ n ((aN st.queue st.taken).1.length+1) (aN st.queue st.taken).1 (aN st.queue st.taken).2 0 0 0 false).1:=rfl;rw[hs];have hh:bM st=ah d+ah (aN st.queue st.taken).1:=by
  unfold bM
  conv=>lhs;rw[h1]
  rw[jZ]
 generalize aN st.queue st.taken=Q at*;generalize oQ n (Q.1.length+1) Q.1 Q.2 0 0 0 false=R at*;obtain ⟨g,hg1,hg2⟩:=hk.some_ hne';have hj:=vG R.1 ((Q.1.headD []).take Q.2) (decide (0<Q.2)) R.2.1 hne';rw[hg2] at hj;dsimp only at hj;have e1:((Q.1.headD []).take Q.2).length=Q.2:=by
  cases hq:Q.1 with
  |nil=>rw[h3 hq];simp
  |cons x r=>have:=h4 x r hq;simp;omega
 have e2:((R.2.2.1.headD []).take R.2.2.2).length=R.2.2.2∧R.2.2.2≤ah R.2.2.1:=by
  cases hq:R.2.2.1 with
  |nil=>rw[hk.z_ hq];simp
  |cons x r=>have:=hk.lt_ x r hq;rw[iA];simp;omega
 rw[e1,e2.1] at hj;have e3:ah Q.1=ah g+ah R.2.2.1:=by rw[hg1,jZ]
 have e4:1≤ah R.1:=by
  obtain ⟨p,hp⟩:=List.exists_mem_of_ne_nil _ hne';have:=gJ hp;have:=hv.pos p hp;omega
 exact ⟨e4,by have:=e2.2;omega⟩
theorem InvV.add {st:Sd} (h:InvV st) {x:Ou} (h1:1≤aF x) (h2:st.taken+aF x≤bM st) (hp:x.pend= []) (hl:st.out.length<512) (hpl:(eF st x).taken≠bM (eF st x)):InvV (eF st x) where
 tk:=by
  show st.taken+aF x=st.front+sizes (st.out++ [x])
  rw[kP,h.tk];simp[sizes];omega
 le:=h2
 pos:=h.pos
 l8:=fun y hy=>by
  simp only[eF,List.mem_append,List.mem_singleton] at hy;rcases hy with hy|rfl
  ·exact h.l8 y hy
  ·exact h1
 ak:=fun y hy hya=>by
  simp only[eF,List.mem_append,List.mem_singleton] at hy;rcases hy with hy|rfl
  ·exact h.ak y hy hya
  ·exact hp
 pr:=fun y hy r hr=>by
  simp only[eF,List.mem_append,List.mem_singleton] at hy;rcases hy with hy|rfl
  ·exact h.pr y hy r hr
  ·rw[hp] at hr;cases hr
 w:=by simp only[eF,List.length_append,List.length_singleton];omega
 f:=h.f
 pl:=fun e=>absurd e hpl
theorem bP.fresh {st:Sd} (c:Cf) (n:Int) (h:bP st) (hp:fZ st.out=none):bP (ji c n st).1:=by
 unfold ji;split
 ·exact h
 ·rename_i hl;split
  ·exact h
  ·rename_i hne;obtain ⟨h1,h2⟩:=Bb h.toInvV n hne;generalize hx:dL n st=x at*;have hxp:x.pend= []:=by rw[←hx];rfl
   have hxa:x.aV=false:=by rw[←hx];rfl
   dsimp only;have hhd:∀y r,(eF st x).out=y::r→y.aV=false:=fun y r e=>by
    have e':st.out++ [x]=y::r:=e;cases ho:st.out with
    |nil=>rw[ho] at e';simp at e';rw[←e'.1];exact hxa
    |cons a t=>rw[ho] at e';simp at e';rw[←e'.1];exact h.hd a t ho
   by_cases ht:(eF st x).taken=bM (eF st x)
   ·have hid:jD (eF st x)=true:=xK.2 ⟨fun y hy=>by
     simp only[eF,List.mem_append,List.mem_singleton] at hy;rcases hy with hy|rfl
     ·exact pI.1 hp y hy
     ·exact hxp,.inl ht⟩
    have WJ:(mO c (eF st x)||(eF st x).dW||jD (eF st x))=true:=by rw[hid];simp
    unfold bZ;rw[if_pos WJ];have hb:InvV (sj (eF st x) c):= {
     tk:=by
      show st.taken+aF x=st.front+sizes (st.out++ [x])
      rw[kP,h.tk];simp[sizes];omega
     le:=h2
     pos:=h.pos
     l8:=fun y hy=>by
      simp only[sj,eF,List.mem_append,List.mem_singleton] at hy;rcases hy with hy|rfl
      ·exact h.l8 y hy
      ·exact h1
     ak:=fun y hy hya=>by
      simp only[sj,eF,List.mem_append,List.mem_singleton] at hy;rcases hy with hy|rfl
      ·exact h.ak y hy hya
      ·exact hxp
     pr:=fun y hy r hr=>by
      simp only[sj,eF,List.mem_append,List.mem_singleton] at hy;rcases hy with hy|rfl
      ·exact h.pr y hy r hr
      ·rw[hxp] at hr;cases hr
     w:=by simp only[sj,eF,List.length_append,List.length_singleton];omega
     f:=h.f
     pl:=fun _ _=>by
      show (bJ (eF st x)+1023)%1024=((eF st x).first+(eF st x).out.length+1023)%1024
      unfold bJ;omega}
    exact {hb with fr:=h.fr,hd:=hhd,ti:=fun _ e=>by cases e}
   ·exact oL.finish c (h.toInvV.add h1 h2 hxp (by omega) ht) h.fr hhd _ (fun _ e=>absurd e ht) (fun _ e=>absurd e ht)
end
section
theorem iZ:∀l:List Ou,(∃d:List Ou,l=d++(aO l).2.2∧d.length=(aO l).1∧sizes d=(aO l).2.1∧∀x∈d,x.aV=true)∧∀x r,(aO l).2.2=x::r→x.aV=false
 | []=>⟨⟨[],rfl,rfl,rfl,by simp⟩,by simp[aO]⟩
 |x::r=>by
  unfold aO;split
  ·rename_i hx;obtain ⟨⟨d,h1,h2,h3,h4⟩,h5⟩:=iZ r;refine ⟨⟨x::d,?_,by simp[h2],by rw[fF,h3,Nat.add_comm],fun y hy=> ?_⟩,h5⟩
   ·rw[List.cons_append,←h1]
   ·rcases List.mem_cons.1 hy with rfl|hy
    ·exact hx
    ·exact h4 y hy
  ·rename_i hx;exact ⟨⟨[],rfl,rfl,rfl,by simp⟩,fun y t e=>by simp at e;rw[←e.1];simpa using hx⟩
theorem mP:∀(q:List (List UInt8)) (f:Nat),(∃d:List (List UInt8),q=d++(d9 q f).2.2.2∧d.length=(d9 q f).1∧ah d=(d9 q f).2.1∧ah d+(d9 q f).2.2.1=f)∧∀x r,(d9 q f).2.2.2=x::r→(d9 q f).2.2.1<x.length
 | [],f=>⟨⟨[],rfl,rfl,rfl,by simp[ah,d9]⟩,by simp[d9]⟩
 |x::r,f=>by
  unfold d9;split
  ·rename_i hx;obtain ⟨⟨d,h1,h2,h3,h4⟩,h5⟩:=mP r (f-x.length);refine ⟨⟨x::d,?_,by simp[h2],by rw[iA,h3,Nat.add_comm],by rw[iA];dsimp only;omega⟩,h5⟩;rw[List.cons_append,←h1]
  ·exact ⟨⟨[],rfl,rfl,rfl,by simp[ah]⟩,fun y t e=>by simp at e;dsimp only;rw[←e.1];omega⟩
theorem InvV.S9 {st:Sd} (h:InvV st):oL (dX st)∧(∃d,st.out=d++(dX st).out∧∀x∈d,x.aV=true)∧((dX st).taken=bM (dX st)→st.taken=bM st):=by
 obtain ⟨⟨d,h1,h2,h3,h4⟩,h5⟩:=iZ st.out;obtain ⟨⟨q,g1,g2,g3,g4⟩,g5⟩:=mP st.queue (st.front+(aO st.out).2.1);have e1:(dX st).out=(aO st.out).2.2:=rfl;have e2:(dX st).queue=(d9 st.queue (st.front+(aO st.out).2.1)).2.2.2:=rfl;have e3:(dX st).taken=st.taken-(d9 st.queue (st.front+(aO st.out).2.1)).2.1:=rfl;have e4:(dX st).front=(d9 st.queue (st.front+(aO st.out).2.1)).2.2.1:=rfl;have e5:(dX st).first=(st.first+(aO st.out).1)%1024:=rfl
 have e6:(dX st).polled=st.polled:=rfl;have hsz:sizes st.out=(aO st.out).2.1+sizes (aO st.out).2.2:=by
  conv=>lhs;rw[h1]
  rw[kP,h3]
 have Gu:bM st=(d9 st.queue (st.front+(aO st.out).2.1)).2.1+bM (dX st):=by
  unfold bM;rw[e2]
  conv=>lhs;rw[g1]
  rw[jZ,g3]
 have hle:=h.le;have htk:=h.tk;have hmem:∀x,x∈(dX st).out→x∈st.out:=fun x hx=>by rw[h1,←e1];simp[hx]
 have hlen:st.out.length=(aO st.out).1+(dX st).out.length:=by
  conv=>lhs;rw[h1]
  rw[List.length_append,h2,e1]
 rw[←e1] at h5 h1 hsz;rw[←e2] at g5;rw[←e4] at g5;generalize aO st.out=A at*;generalize d9 st.queue (st.front+A.2.1)=Q at*;have hinv:oL (dX st):= {
  tk:=by rw[e3,e4];omega
  le:=by rw[e3];omega
  pos:=fun x hx=>h.pos x (by rw[g1,←e2];simp[hx])
  l8:=fun x hx=>h.l8 x (hmem x hx)
  ak:=fun x hx=>h.ak x (hmem x hx)
  pr:=fun x hx=>h.pr x (hmem x hx)
  w:=by have:=h.w;omega
  f:=by rw[e5];omega
  pl:=fun t1 t2=>by
   have hne:st.out≠ []:=fun e=>by
    rw[e] at h1;exact t2 (List.append_eq_nil_iff.1 h1.symm).2
   have:=h.pl (by rw[e3] at t1;omega) hne;rw[e5,e6,this];omega
  fr:=g5
  hd:=h5}
 exact ⟨hinv,⟨d,h1,h4⟩,fun e=>by rw[e3] at e;omega⟩
theorem xL (c:Cf) (m:Ou→List (Nat × Nat)) (x:Ou):(bS c m x).1.ps=x.ps:=by
 unfold bS;split
 ·rfl
 ·split
  ·rfl
  ·exact (wL c x _).1
theorem xM (c:Cf) (m:Ou→List (Nat × Nat)) (x:Ou) (hx:x.aV=true→x.pend= []):((bS c m x).1.aV=true→(bS c m x).1.pend= [])∧((bS c m x).1.aV=false→(bS c m x).1.pend≠ []):=by
 unfold bS;by_cases h1:x.aV=true
 ·rw[if_pos h1];exact ⟨hx,fun e=>by rw[h1] at e;cases e⟩
 ·rw[if_neg h1];by_cases h2:m x= []
  ·rw[if_pos h2];exact ⟨fun _=>rfl,fun e=>by cases e⟩
  ·rw[if_neg h2];obtain ⟨_,p2,p3,_⟩:=wL c x (m x);rw[p2,p3];exact ⟨fun e=>absurd e h1,fun _=>h2⟩
theorem Gv (c:Cf) (m:Ou→List (Nat × Nat)) (x:Ou) (hx:∀r∈x.pend,r.1≤r.2) (hm:∀r∈m x,r.1≤r.2):∀r∈(bS c m x).1.pend,r.1≤r.2:=by
 unfold bS;by_cases h1:x.aV=true
 ·rw[if_pos h1];exact hx
 ·rw[if_neg h1];by_cases h2:m x= []
  ·rw[if_pos h2];simp
  ·rw[if_neg h2,(wL c x (m x)).2.2.1];exact hm
section
variable (c:Cf) (m:Ou→List (Nat × Nat)) (n:Nat)
theorem ja (l:List Ou):(aL c m n l).1.length=l.length:=by simp[aL];omega
theorem jb (l:List Ou) (i:Nat):(aL c m n l).1[i]? =if i<n then l[i]?.map (fun x=>(bS c m x).1) else l[i]? :=by
 unfold aL;dsimp only;by_cases hi:i<n
 ·rw[if_pos hi];by_cases hl:i<l.length
  ·rw[List.getElem?_append_left (by simp;omega),List.getElem?_map,List.getElem?_take,if_pos hi]
  ·rw[List.getElem?_eq_none (by simp;omega),List.getElem?_eq_none (by omega)];rfl
 ·rw[if_neg hi];by_cases hl:i<l.length
  ·rw[List.getElem?_append_right (by simp;omega),List.getElem?_drop];simp only[List.length_map,List.length_take];rw[show n+(i-min n l.length)=i by omega]
  ·rw[List.getElem?_eq_none (by simp;omega),List.getElem?_eq_none (by omega)]
theorem j3 (l:List Ou) (y:Ou) (h:y∈(aL c m n l).1):∃x∈l,y=x∨y=(bS c m x).1:=by
 obtain ⟨i,hi⟩:=List.mem_iff_getElem?.1 h;rw[jb] at hi;split at hi
 ·obtain ⟨x,hx,rfl⟩:=Option.map_eq_some_iff.1 hi;exact ⟨x,List.mem_of_getElem? hx,.inr rfl⟩
 ·exact ⟨y,List.mem_of_getElem? hi,.inl rfl⟩
theorem l9 (l:List Ou):sizes (aL c m n l).1=sizes l:=by
 have key:∀a:List Ou,sizes (a.map (fun x=>(bS c m x).1))=sizes a:=by
  intro a
  induction a with
  |nil=>rfl
  |cons x r ih=>rw[List.map_cons,fF,fF,ih];unfold aF;rw[xL]
 unfold aL;dsimp only;rw[kP,key,←kP,List.take_append_drop]
end
theorem bP.stat {st:Sd} (c:Cf) (m:Ou→List (Nat × Nat)) (n:Nat) (h:bP st) (_hn:n≤st.out.length) (hm:∀x,∀r∈m x,r.1≤r.2):bP (iE c m n st):=by
 have hv:InvV {st with out:=(aL c m n st.out).1,failed:=st.failed||(aL c m n st.out).2,wait:=st.wait&&decide (n≤gV st st.polled)}:= {
  tk:=by
   show st.taken=st.front+sizes (aL c m n st.out).1
   rw[l9];exact h.tk
  le:=h.le
  pos:=h.pos
  l8:=fun y hy=>by
   obtain ⟨x,hx,rfl|rfl⟩:=j3 c m n _ y hy
   ·exact h.l8 _ hx
   ·unfold aF;rw[xL];exact h.l8 x hx
  ak:=fun y hy=>by
   obtain ⟨x,hx,rfl|rfl⟩:=j3 c m n _ y hy
   ·exact h.ak _ hx
   ·exact (xM c m x (h.ak x hx)).1
  pr:=fun y hy=>by
   obtain ⟨x,hx,rfl|rfl⟩:=j3 c m n _ y hy
   ·exact h.pr _ hx
   ·exact Gv c m x (h.pr x hx) (hm x)
  w:=by
   show (aL c m n st.out).1.length≤512
   rw[ja];exact h.w
  f:=h.f
  pl:=fun t1 t2=>by
   show st.polled=(st.first+(aL c m n st.out).1.length+1023)%1024
   rw[ja];refine h.pl t1 (fun e=>t2 ?_);show (aL c m n st.out).1= []
   rw[e];simp[aL]}
 obtain ⟨hw,⟨d,hd1,hd2⟩,ht⟩:=hv.S9;unfold iE;dsimp only;by_cases ho:st.dW=true
 ·have ho2:(dX {st with out:=(aL c m n st.out).1,failed:=st.failed||(aL c m n st.out).2,wait:=st.wait&&decide (n≤gV st st.polled)}).dW=true:=ho;rw[if_pos ho2];exact hw.nQ c ho2
 ·have ho2:¬(dX {st with out:=(aL c m n st.out).1,failed:=st.failed||(aL c m n st.out).2,wait:=st.wait&&decide (n≤gV st st.polled)}).dW=true:=ho;rw[if_neg ho2];refine {hw with ti:=fun t1 t2=> .inl ?_};have htk:st.taken=bM st:=ht t1;have hwt:(st.wait&&decide (n≤gV st st.polled))=false:=t2;intro i x hx hxa hxp;have hix:(aL c m n st.out).1[d.length+i]? =some x:=by
   have e:(aL c m n st.out).1=_:=hd1;rw[e,List.getElem?_append_right (by omega),show d.length+i-d.length=i by omega];exact hx
  rw[jb] at hix;have hge:¬d.length+i<n:=fun hlt=>by
   rw[if_pos hlt] at hix;obtain ⟨y,hy,rfl⟩:=Option.map_eq_some_iff.1 hix;exact (xM c m y (h.ak y (List.mem_of_getElem? hy))).2 hxa hxp
  rw[if_neg hge] at hix;have hil:d.length+i<st.out.length:=(List.getElem?_eq_some_iff.1 hix).1;have hwf:st.wait=false:=by
   cases hw':st.wait with
   |false=>rfl
   |true=>
    rw[hw'] at hwt;simp only[Bool.true_and,decide_eq_false_iff_not] at hwt;have hpl:=h.pl htk (fun e=>by rw[e] at hil;simp at hil);have hf:=h.f;have hw5:=h.w;exfalso;apply hwt;unfold gV;rw[hpl];omega
  rcases h.ti htk hwf with hA|⟨hb,_⟩
  ·obtain ⟨j,y,hj,hy,hyp⟩:=hA _ x hix hxa hxp;refine ⟨j-d.length,y,by omega,?_,hyp⟩;have e:(aL c m n st.out).1[j]? =some y:=by rw[jb,if_neg (by omega)];exact hy
   have e2:(aL c m n st.out).1=_:=hd1;rw[e2,List.getElem?_append_right (by omega)] at e;exact e
  ·exact absurd hb ho
end
section
def nR (ps:List (List UInt8)) (off fr to k:Nat):List UInt8:=
 ((ps[k]?.getD []).drop (max (off+ah (ps.take k)) fr-(off+ah (ps.take k)))).take (min (off+ah (ps.take (k+1))) to-max (off+ah (ps.take k)) fr)
def kK (ps:List (List UInt8)) (off fr to k:Nat):Bool:=decide (max (off+ah (ps.take k)) fr<min (off+ah (ps.take (k+1))) to)
def aP (ps:List (List UInt8)) (off fr to:Nat):Nat→List (List UInt8)
 |0=> []
 |k+1=>if kK ps off fr to k then aP ps off fr to k++ [nR ps off fr to k] else aP ps off fr to k
def bU (ps:List (List UInt8)) (s:Bool) (off fr:Nat):Nat→Bool
 |0=>false
 |k+1=>bU ps s off fr k||(decide (off+ah (ps.take k)=fr)&&(decide (0<k)||s))
def dU (ps:List (List UInt8)) (e:Bool) (off to:Nat):Nat→Bool
 |0=>false
 |k+1=>dU ps e off to k||(decide (off+ah (ps.take (k+1))=to)&&(decide (k+1<ps.length)||e))
theorem oq (ps:List (List UInt8)) (off fr to:Nat):∀k,(aP ps off fr to k).length≤k
 |0=>Nat.le_refl _
 |k+1=>by
  have:=oq ps off fr to k;unfold aP;split
  ·simp;omega
  ·omega
end
section
structure Pu where
 sn:Nat
 poll:Bool
 seg:Bool
 last:Bool
 off:Nat
 s:Bool
 e:Bool
 ps:List (List UInt8)
def pJ (f:Nat→Bool):Nat→Nat→Nat
 |0,k=>k
 |m+1,k=>if f (k+1)=true then pJ f m (k+1) else k
theorem wM (f:Nat→Bool):∀m k,k≤pJ f m k∧pJ f m k≤k+m
 |0,k=>⟨Nat.le_refl _,Nat.le_refl _⟩
 |m+1,k=>by
  unfold pJ;split
  ·have:=wM f m (k+1);omega
  ·omega
def gu (x:Ou) (fr:Nat) (n:Int) (k:Nat):Bool:=decide (iG ((aP x.ps 0 fr k x.ps.length).length:Int)+2+((k:Int)-(fr:Int))≤n)
def jT (st:Sd) (i:Nat) (x:Ou) (l:List (Nat × Nat)):Sd:= {st with out:=st.out.set i {x with pend:=l}}
def gX (c:Cf) (n:Int) (st:Sd) (i:Nat) (x:Ou):Sd × Option Pu:=
 match x.pend with
 | []=>(st,none)
 |(fr,e0)::rest=>
  if fr=0∧e0+1=aF x∧iG (x.ps.length:Int)+(aF x:Int)≤n then
   ((bZ c (jT st i x []) false).1,some ⟨x.sn,(bZ c (jT st i x []) false).2,false,false,0,x.s,x.e,x.ps⟩)
  else if pJ (gu x fr n) (e0+1-fr) fr=fr then (st,none)
  else
   (
    (bZ c (jT st i x (if pJ (gu x fr n) (e0+1-fr) fr=e0+1 then rest else (pJ (gu x fr n) (e0+1-fr) fr,e0)::rest)) false).1,
    some ⟨x.sn,(bZ c (jT st i x (if pJ (gu x fr n) (e0+1-fr) fr=e0+1 then rest else (pJ (gu x fr n) (e0+1-fr) fr,e0)::rest)) false).2,true,decide (pJ (gu x fr n) (e0+1-fr) fr=aF x),fr,
     bU x.ps x.s 0 fr x.ps.length,dU x.ps x.e 0 (pJ (gu x fr n) (e0+1-fr) fr) x.ps.length,aP x.ps 0 fr (pJ (gu x fr n) (e0+1-fr) fr) x.ps.length⟩)
def nS (c:Cf) (st:Sd) (now n:Int):Sd × Option Pu × Bool:=
 if (eX c st now).failed=true then (eX c st now,none,true)
 else match fZ (eX c st now).out with
  |some i=>match (eX c st now).out[i]? with
   |some x=>((gX c n (eX c st now) i x).1,(gX c n (eX c st now) i x).2,false)
   |none=>(eX c st now,none,false)
  |none=>match ji c n (eX c st now) with
   |(s2,none)=>(s2,none,false)
   |(s2,some (x,b))=>(s2,some ⟨x.sn,b,false,false,0,x.s,x.e,x.ps⟩,false)
theorem bP.gX {st:Sd} (c:Cf) (n:Int) (h:bP st) {i:Nat} {x:Ou} (hp:fZ st.out=some i) (hx:st.out[i]? =some x):bP (gX c n st i x).1:=by
 unfold Go.Proofs.YtbhiklnljiehiaaGreat.gX;have hpr:=h.pr x (List.mem_of_getElem? hx);cases hl:x.pend with
 |nil=>exact h
 |cons r rest=>
  obtain ⟨fr,e0⟩:=r;rw[hl] at hpr;have hr:fr≤e0:=hpr (fr,e0) (by simp);have hb:=wM (gu x fr n) (e0+1-fr) fr;dsimp only;split
  ·exact h.again c hp hx (by simp)
  ·split
   ·exact h
   ·refine h.again c hp hx fun q hq=> ?_
    split at hq
    ·exact hpr q (by simp[hq])
    ·rcases List.mem_cons.1 hq with rfl|hq
     ·dsimp only;omega
     ·exact hpr q (by simp[hq])
theorem bP.pK {st:Sd} (c:Cf) (h:bP st) (now n:Int):bP (nS c st now n).1:=by
 have h1:=h.tick c now;unfold nS;split
 ·exact h1
 ·cases hp:fZ (eX c st now).out with
  |some i=>
   obtain ⟨x,hx,_⟩:=gW hp;simp only[hx];exact h1.gX c n hp hx
  |none=>
   have h2:=h1.fresh c n hp;dsimp only;generalize ji c n (eX c st now)=R at*;obtain ⟨s2,_|⟨x,b⟩⟩:=R
   ·exact h2
   ·exact h2
end
section
structure Ta (st:Sd) (acc:List (List UInt8)) (a next:Nat):Prop where
 ex:∃d,acc=d++st.queue∧a=ah d+st.taken
 nx:next=bJ st
theorem Ta.same {st st':Sd} {acc:List (List UInt8)} {a next:Nat} (h:Ta st acc a next) (h1:st'.queue=st.queue) (h2:st'.taken=st.taken) (h3:st'.first=st.first) (h4:st'.out.length=st.out.length):Ta st' acc a next:=by
 obtain ⟨⟨d,e1,e2⟩,e3⟩:=h;exact ⟨⟨d,by rw[h1];exact e1,by rw[h2];exact e2⟩,by rw[e3];unfold bJ;rw[h3,h4]⟩
theorem Cq (c:Cf) (st:Sd):(bK c st).queue=st.queue∧(bK c st).taken=st.taken∧(bK c st).first=st.first∧(bK c st).out.length=st.out.length∧(bK c st).done=st.done∧(bK c st).front=st.front:=by
 unfold bK;split
 ·exact ⟨rfl,rfl,rfl,rfl,rfl,rfl⟩
 ·split
  ·exact ⟨rfl,rfl,rfl,rfl,rfl,rfl⟩
  ·split
   ·exact ⟨rfl,rfl,rfl,rfl,rfl,rfl⟩
   ·exact ⟨rfl,rfl,rfl,by simp[kC],rfl,rfl⟩
theorem Ta.stat {st:Sd} {acc:List (List UInt8)} {a next:Nat} (h:Ta st acc a next) (hi:bP st) (c:Cf) (m:Ou→List (Nat × Nat)) (n:Nat):Ta (iE c m n st) acc a next:=by
 obtain ⟨⟨d,e1,e2⟩,e3⟩:=h;have key:Ta (dX {st with out:=(aL c m n st.out).1,failed:=st.failed||(aL c m n st.out).2,wait:=st.wait&&decide (n≤gV st st.polled)}) acc a next:=by
  obtain ⟨⟨o,h1,h2,h3,_⟩,_⟩:=iZ (aL c m n st.out).1;obtain ⟨⟨q,g1,g2,g3,g4⟩,_⟩:=mP st.queue (st.front+(aO (aL c m n st.out).1).2.1);have hsz:sizes st.out=(aO (aL c m n st.out).1).2.1+sizes (aO (aL c m n st.out).1).2.2:=by
   rw[←l9 c m n,←h3,←kP,←h1]
  have htk:=hi.tk;refine ⟨⟨d++q,?_,?_⟩,?_⟩
  ·show acc=d++q++(d9 st.queue (st.front+(aO (aL c m n st.out).1).2.1)).2.2.2
   rw[e1,List.append_assoc,←g1]
  ·show a=ah (d++q)+(st.taken-(d9 st.queue (st.front+(aO (aL c m n st.out).1).2.1)).2.1)
   rw[jZ,e2];omega
  ·rw[e3];show (st.first+st.out.length)%1024=((st.first+(aO (aL c m n st.out).1).1)%1024+(aO (aL c m n st.out).1).2.2.length)%1024
   have hl:=congrArg List.length h1;rw[List.length_append,h2,ja] at hl;omega
 unfold iE;dsimp only;split
 ·obtain ⟨a1,a2,a3,a4,_⟩:=Cq c (dX {st with out:=(aL c m n st.out).1,failed:=st.failed||(aL c m n st.out).2,wait:=st.wait&&decide (n≤gV st st.polled)});exact key.same a1 a2 a3 a4
 ·exact key
end
section
structure Wd (st:Sd):Prop where
 inv:bP st
 f:st.first=0
 fl:st.failed=false
 now:st.now=0
 ow:st.dW=false
 out:∀x∈st.out,x.aV=false∧x.pend= []
 wt:st.wait=true→st.polled<st.out.length∧0<st.fE
theorem Wd.pend {st:Sd} (h:Wd st):fZ st.out=none:=pI.2 fun x hx=>(h.out x hx).2
theorem xN:∀l:List Ou,(∀x∈l,x.aV=true)→aO l=(l.length,sizes l,[])
 | [],_=>rfl
 |x::r,h=>by
  unfold aO;rw[if_pos (h x (by simp)),xN r (fun y hy=>h y (by simp[hy]))];simp[fF,Nat.add_comm]
theorem Wd.stat {st:Sd} (h:Wd st) (c:Cf):(iE c (fun _=> []) st.out.length (bW st 1)).out= []∧(iE c (fun _=> []) st.out.length (bW st 1)).first=st.out.length∧(iE c (fun _=> []) st.out.length (bW st 1)).wait=false∧
 (iE c (fun _=> []) st.out.length (bW st 1)).failed=false∧(bM (iE c (fun _=> []) st.out.length (bW st 1)):Int)-(iE c (fun _=> []) st.out.length (bW st 1)).taken=(bM st:Int)-st.taken∧(iE c (fun _=> []) st.out.length (bW st 1)).taken≤bM (iE c (fun _=> []) st.out.length (bW st 1)):=by
 have hone:∀x∈st.out,bS c (fun _=> []) x=({x with aV:=true,pend:= []},false):=fun x hx=>by
  unfold bS;rw[if_neg (by rw[(h.out x hx).1];simp),if_pos rfl]
 have hmap:aL c (fun _=> []) st.out.length st.out=(st.out.map (fun x=> {x with aV:=true,pend:= []}),false):=by
  unfold aL;rw[List.take_length,List.drop_length,List.append_nil]
  congr 1
  ·exact List.map_congr_left fun x hx=>by rw[hone x hx]
  ·rw[List.any_eq_false];intro x hx;rw[hone x hx];simp
 have hv:=h.inv.toInvV;have hsz:sizes (st.out.map (fun x=>({x with aV:=true,pend:= []}:Ou)))=sizes st.out:=by
  have key:∀a:List Ou,sizes (a.map (fun x=>({x with aV:=true,pend:= []}:Ou)))=sizes a:=by
   intro a
   induction a with
   |nil=>rfl
   |cons x r ih=>rw[List.map_cons,fF,fF,ih];rfl
  exact key _
 have O1:=xN (st.out.map (fun x=>({x with aV:=true,pend:= []}:Ou))) (fun y hy=>by
  obtain ⟨x,_,rfl⟩:=List.mem_map.1 hy;rfl)
 rw[hsz,List.length_map] at O1;have how:(dX {bW st 1 with out:=(aL c (fun _=> []) st.out.length st.out).1,failed:=st.failed||(aL c (fun _=> []) st.out.length st.out).2,wait:=st.wait&&decide (st.out.length≤gV st st.polled)}).dW=false:=h.ow;have hst:iE c (fun _=> []) st.out.length (bW st 1)=dX {bW st 1 with out:=(aL c (fun _=> []) st.out.length st.out).1,failed:=st.failed||(aL c (fun _=> []) st.out.length st.out).2,wait:=st.wait&&decide (st.out.length≤gV st st.polled)}:=by
  unfold iE;dsimp only;rw[if_neg]
  ·rfl
  ·intro e;have e2:(dX {bW st 1 with out:=(aL c (fun _=> []) st.out.length st.out).1,failed:=st.failed||(aL c (fun _=> []) st.out.length st.out).2,wait:=st.wait&&decide (st.out.length≤gV st st.polled)}).dW=true:=e;rw[how] at e2;cases e2
 rw[hst,hmap];have htk:=hv.tk;have hle:=hv.le;have hw5:=hv.w;have hf:=h.f;obtain ⟨⟨q,g1,g2,g3,g4⟩,g5⟩:=mP st.queue (st.front+(aO (st.out.map (fun x=>({x with aV:=true,pend:= []}:Ou)))).2.1);have Gu:bM st=ah q+ah (d9 st.queue (st.front+(aO (st.out.map (fun x=>({x with aV:=true,pend:= []}:Ou)))).2.1)).2.2.2:=by
  unfold bM
  conv=>lhs;rw[g1]
  rw[jZ]
 have hA:(aO (st.out.map (fun x=>({x with aV:=true,pend:= []}:Ou)))).2.1=sizes st.out:=by rw[O1]
 refine ⟨?_,?_,?_,?_,?_,?_⟩
 ·show (aO (st.out.map (fun x=>({x with aV:=true,pend:= []}:Ou)))).2.2= []
  rw[O1]
 ·show (st.first+(aO (st.out.map (fun x=>({x with aV:=true,pend:= []}:Ou)))).1)%1024=_
  rw[O1,hf];dsimp only;omega
 ·show (st.wait&&decide (st.out.length≤gV st st.polled))=false
  cases hw:st.wait with
  |false=>rfl
  |true=>
   have:=(h.wt hw).1;simp only[Bool.true_and,decide_eq_false_iff_not];unfold gV;rw[hf];omega
 ·show (st.failed||false)=false
  rw[h.fl];rfl
 ·show (ah (d9 st.queue (st.front+(aO (st.out.map (fun x=>({x with aV:=true,pend:= []}:Ou)))).2.1)).2.2.2:Int)-((st.taken-(d9 st.queue (st.front+(aO (st.out.map (fun x=>({x with aV:=true,pend:= []}:Ou)))).2.1)).2.1:Nat):Int)=_
  omega
 ·show st.taken-(d9 st.queue (st.front+(aO (st.out.map (fun x=>({x with aV:=true,pend:= []}:Ou)))).2.1)).2.1≤ah (d9 st.queue (st.front+(aO (st.out.map (fun x=>({x with aV:=true,pend:= []}:Ou)))).2.1)).2.2.2
  omega
end
section
structure Nk where
 sn:Int
 part:Bool
 fr:Int
 lt:Int
def jE (aK sn:Int):Int:=(aK-sn)%1024
def gY (aK:Int) (n:Nk):Bool:=
 (decide (0≤n.sn)&&decide (n.sn<1024))&&((decide (1≤jE aK n.sn)&&decide (jE aK n.sn≤512))&&
  (if n.part=true then decide (0≤n.fr)&&(decide (n.fr≤n.lt)&&decide (n.lt≤32767)) else decide (n.fr=0)&&decide (n.lt=0)))
def kW (aK:Int) (a b:Nk):Bool:=
 decide (jE aK b.sn<jE aK a.sn)||(decide (a.sn=b.sn)&&(a.part&&(b.part&&decide (a.lt<b.fr))))
def qT (aK:Int):List Nk→Bool
 | []=>true
 | [n]=>gY aK n
 |a::b::r=>gY aK a&&(kW aK a b&&qT aK (b::r))
def cu (aK:Int) (l:List Nk):Bool:=(decide (0≤aK)&&decide (aK≤1023))&&(decide (l.length≤512)&&qT aK l)
def fG (l:List (Nat × Nat)) (x:Nat × Nat):List (Nat × Nat):=
 match l.getLast? with
 |none=> [x]
 |some y=>if y.2+1=x.1 then l.dropLast++ [(y.1,x.2)] else l++ [x]
def gB (n:Nk):Nat × Nat:=if n.part=true then (n.fr.toNat,n.lt.toNat) else (0,32767)
def eG (size:Nat) (l:List (Nat × Nat)) (n:Nk):List (Nat × Nat):=
 if min (gB n).2 (size-1)<(gB n).1 then l else fG l ((gB n).1,min (gB n).2 (size-1))
def bQ (dG:List Nk) (x:Ou):List (Nat × Nat):=(dG.filter (fun n=>decide (n.sn=(x.sn:Int)))).foldl (eG (aF x)) []
theorem JH {l:List (Nat × Nat)} {x:Nat × Nat} (h:∀r∈l,r.1≤r.2) (hx:x.1≤x.2):∀r∈fG l x,r.1≤r.2:=by
 unfold fG;cases hl:l.getLast? with
 |none=>simpa using hx
 |some y=>
  have hy:=h y (List.mem_of_getLast? hl);dsimp only;split
  ·rename_i e;intro r hr;rcases List.mem_append.1 hr with hr|hr
   ·exact h r (List.dropLast_subset l hr)
   ·simp at hr;rw[hr];dsimp only;omega
  ·intro r hr;rcases List.mem_append.1 hr with hr|hr
   ·exact h r hr
   ·simp at hr;rw[hr];exact hx
theorem LC (dG:List Nk) (x:Ou):∀r∈bQ dG x,r.1≤r.2:=by
 unfold bQ;generalize dG.filter (fun n=>decide (n.sn=(x.sn:Int)))=l;have key:∀(l:List Nk) (a:List (Nat × Nat)),(∀r∈a,r.1≤r.2)→∀r∈l.foldl (eG (aF x)) a,r.1≤r.2:=by
  intro l
  induction l with
  |nil=>intro a ha;simpa using ha
  |cons n r ih=>
   intro a ha;rw[List.foldl_cons];refine ih _ ?_;unfold eG;split
   ·exact ha
   ·exact JH ha (by dsimp only;omega)
 exact key l [] (by simp)
def dQ (st:Sd) (sn:Int):Int:=(sn-(st.first:Int))%1024
def lQ (c:Cf) (st:Sd) (now aK:Int) (dG:List Nk):Sd × Int:=
 if cu aK dG=false then (st,2)
 else if (st.out.length:Int)<dQ st aK∨dG.any (fun n=>decide (dQ st aK≤dQ st n.sn))=true then (bW st now,6)
 else
  let s2:=iE c (bQ dG) (dQ st aK).toNat (bW st now)
  (s2,if s2.failed=true then 8 else 0)
theorem bP.status {st:Sd} (h:bP st) (c:Cf) (now aK:Int) (dG:List Nk):bP (lQ c st now aK dG).1:=by
 unfold lQ;split
 ·exact h
 ·split
  ·exact h.clock now
  ·rename_i hr;have hn:(dQ st aK).toNat≤(bW st now).out.length:=by
    have e:(bW st now).out.length=st.out.length:=rfl;rw[e];have:=not_or.1 hr;omega
   exact (h.clock now).stat c (bQ dG) _ hn (LC dG)
end
section
open Go.RowKit
def dN (w:World) (base:Nat) (e:TypeId) (v:Value) (n:Nat) (xs:List Value):Prop:=
 xs.length=n∧((v= .slice none 0 0∧n=0)∨∃g o cap cur,v= .slice (some ⟨g,o,none⟩) n cap∧base≤g∧w.heap[g]? =some (.cells cur e (0,0))∧n≤cap∧cap≤maxLen∧o+cap≤cur.size∧(cur.toList.drop o).take n=xs)
def aS:Value→Option Nat
 | .slice (some ad) _ _=>some ad.block
 |_=>none
section
variable {w w':World} {base:Nat} {e:TypeId} {v:Value} {n:Nat} {xs:List Value}
theorem Eg (w:World) (base:Nat) (e:TypeId):dN w base e (.slice none 0 0) 0 []:=⟨rfl,.inl ⟨rfl,rfl⟩⟩
theorem dN.cK (h:w.ownsRow base e 1 v n xs):dN w base e v n xs:=by
 rcases h.2 with ⟨rfl,h0⟩|⟨g,cap,cur,rfl,hb,hg,hnc,hcm,hcs,ht⟩
 ·exact ⟨by simpa using h.1,.inl ⟨rfl,h0⟩⟩
 ·exact ⟨by simpa using h.1,.inr ⟨g,0,cap,cur,rfl,hb,hg,hnc,hcm,by omega,by simpa using ht⟩⟩
theorem dN.keep (h:dN w base e v n xs) (hk:∀g,aS v=some g→w'.heap[g]? =w.heap[g]?):dN w' base e v n xs:=by
 rcases h.2 with ⟨rfl,h0⟩|⟨g,o,cap,cur,rfl,hb,hg,hr⟩
 ·exact ⟨h.1,.inl ⟨rfl,h0⟩⟩
 ·exact ⟨h.1,.inr ⟨g,o,cap,cur,rfl,hb,(hk g rfl).trans hg,hr⟩⟩
theorem dN.row (h:dN w base e v n xs) {g:Nat} (hg:aS v=some g):∃cur,w.heap[g]? =some (.cells cur e (0,0))∧base≤g:=by
 rcases h.2 with ⟨rfl,_⟩|⟨g',o,cap,cur,rfl,hb,hh,_⟩
 ·simp[aS] at hg
 ·have:g'=g:=by simpa[aS] using hg
  subst this;exact ⟨cur,hh,hb⟩
theorem dN.lt (h:dN w base e v n xs) {g:Nat} (hg:aS v=some g):base≤g∧g<w.heap.size:=by
 obtain ⟨cur,hh,hb⟩:=h.row hg;exact ⟨hb,lt_of_heap hh⟩
theorem dN.below {B:Nat} (h:dN w base e v n xs) (hb:Below B w w') (hB:w.heap.size≤B):dN w' base e v n xs:=
 h.keep fun g hg=>hb.block g (by have:=(h.lt hg).2;omega)
theorem dN.alloc (h:dN w base e v n xs) (o:Obj):dN (w.alloc o) base e v n xs:=h.keep fun g hg=>Below.heap_alloc w o g (h.lt hg).2
theorem dN.drew (h:dN w base e v n xs):dN w.drew base e v n xs:=h
theorem dN.vH {b':Nat} (h:dN w base e v n xs) (hb:b'≤base):dN w b' e v n xs:=by
 rcases h.2 with ⟨rfl,h0⟩|⟨g,o,cap,cur,rfl,hg,hr⟩
 ·exact ⟨h.1,.inl ⟨rfl,h0⟩⟩
 ·exact ⟨h.1,.inr ⟨g,o,cap,cur,rfl,by omega,hr⟩⟩
theorem dN.uy {g:Nat} {t:TypeId} {cs:Array Value} (h:dN w base e v n xs) (hb:au w g t cs) (hne:e≠t):aS v≠some g:=by
 intro hg;obtain ⟨cur,hh,_⟩:=h.row hg;unfold au at hb;rw[hh] at hb;cases hb;exact hne rfl
theorem dN.store {g i:Nat} {t:TypeId} {cs:Array Value} (h:dN w base e v n xs) (hb:au w g t cs) (hne:e≠t) (u:Value):dN (w.setCell ⟨g,i,none⟩ u) base e v n xs:=
 h.keep fun k hk=>Below.heap_setCell w _ _ k (fun ek=>by
  have e2:k=g:=ek;subst e2;exact h.uy hb hne hk)
theorem dN.cells {g o cap:Nat} (h:dN w base e (.slice (some ⟨g,o,none⟩) n cap) n xs):∀j u,xs[j]? =some u→w.cell? ⟨g,o+j,none⟩=some u:=by
 intro j u hu;rcases h.2 with ⟨hv,_⟩|⟨g',o',cap',cur,hv,hb,hh,hnc,hcm,hs,ht⟩
 ·cases hv
 ·cases hv;rw[cell_of_row w g (o+j) cur e (0,0) hh];rw[←ht,List.getElem?_take] at hu;split at hu
  ·rw[List.getElem?_drop] at hu;simpa using hu
  ·cases hu
theorem dN.sl (h:dN w base e v n xs):∃A c,v= .slice A n c∧Sl w w.heap.size A n c xs:=by
 rcases h.2 with ⟨rfl,rfl⟩|⟨g,o,cap,cur,rfl,hb,hh,hnc,hcm,hs,ht⟩
 ·exact ⟨none,0,rfl,by have:=List.eq_nil_of_length_eq_zero h.1;subst this;exact Sl.WB.2 (by omega)⟩
 ·refine ⟨_,_,rfl,h.1,hnc,by unfold maxLen at hcm;omega,fun _=>⟨_,rfl,lt_of_heap hh,fun j u hu=> ?_⟩⟩;rw[Addr.add_lit];exact h.cells j u hu
theorem dN.tail {x:Value} {g o cap:Nat} (h:dN w base e (.slice (some ⟨g,o,none⟩) (n+1) cap) (n+1) (x::xs)):dN w base e (.slice (some (if cap=1 then ⟨g,o,none⟩ else ⟨g,o+1,none⟩)) n (cap-1)) n xs:=by
 have hl:xs.length=n:=by have:=h.1;simpa using this
 rcases h.2 with ⟨hv,_⟩|⟨g',o',cap',cur,hv,hb,hh,hnc,hcm,hs,ht⟩
 ·cases hv
 ·cases hv;by_cases hc:cap=1
  ·subst hc;have hn:n=0:=by omega
   subst hn;have hx:=List.eq_nil_of_length_eq_zero hl;subst hx;exact ⟨rfl,.inr ⟨g,o,0,cur,by simp,hb,hh,by omega,by omega,by omega,by simp⟩⟩
  ·refine ⟨hl,.inr ⟨g,o+1,cap-1,cur,by simp[hc],hb,hh,by omega,by omega,by omega,?_⟩⟩;have h2:=congrArg (List.drop 1) ht;rw[List.drop_take,List.drop_drop] at h2;simpa using h2
variable {P:Program}
theorem Cr (t ty:TypeId) (i:TypeInfo) (z:Value) (bytes:Nat) (ht:P.underlying t=some (.slice e)) (hi:P.info? e=some i) (hz:i.zero=some z)
 (hsize:i.size=1) (hby:i.bytes=bytes) (hzs:z.cells.size=1) (hown:dN w base e v n xs)
 (a:Addr) (c:Nat) (u:Value) (hu:w.cell? a=some u) (h1:u.oneCell'=true)
 (h63:n+1≤maxLen) (hbytes:(n+1)*bytes≤140737488355328) (hbase:base≤w.heap.size):
 ∃v' w',(Builtin.append_ #[t,t] ty #[v,.slice (some a) 1 c]).run P w= .ok v' w'∧dN w' base e v' (n+1) (xs++ [u])∧w.grownBy w' (aS v)∧(∀k,aS v'=some k→aS v=some k∨w.heap.size≤k):=by
 have hnews:∀j x,[u][j]? =some x→w.cell? (a.add j)=some x:=by
  intro j x hx;cases j with
  |zero=>simp at hx;subst hx;simpa[Addr.add] using hu
  |succ j=>simp at hx
 rcases hown.2 with ⟨rfl,rfl⟩|⟨g,o,cap,cur,rfl,hbg,hg,hnc,hcm,hcs,htake⟩
 ·have hx:=List.eq_nil_of_length_eq_zero hown.1;subst hx;obtain ⟨v',w',hr,h2,h3,_⟩:=run_append_own (P:=P) w w.heap.size t ty e i z 1 bytes ht hi hz hsize hby hzs (by omega) (.slice none 0 0) 0 [] (World.ownsRow_nil _ _ _ _) a 1 c [u] rfl hnews (by simpa using h1) h63 hbytes (Nat.le_refl _);exact ⟨v',w',hr,(dN.cK h2).vH hbase,h3,fun k hk=> .inr ((dN.cK h2).lt hk).1⟩
 ·by_cases hroom:n+1≤cap
  ·have hcell:(w.cell? ⟨g,o+n,none⟩).isSome=true:=by
    rw[cell_of_row w g (o+n) cur e (0,0) hg,Array.getElem?_eq_getElem (by omega)];rfl
   have hfr:w.frozen? ⟨g,o+n,none⟩=false:=by simp[World.frozen?,hg]
   have hc0:∀j,j< [u].length→(w.cell? ⟨g,o+n*i.size+j,none⟩).isSome=true:=by
    intro j hj;have hj0:j=0:=by simpa using hj
    subst hj0;simpa[hsize] using hcell
   have hf0:∀j,j< [u].length→w.frozen? ⟨g,o+n*i.size+j,none⟩=false:=by
    intro j hj;have hj0:j=0:=by simpa using hj
    subst hj0;simpa[hsize] using hfr
   have hr:=run_append_room_cells (P:=P) w t ty e i ht hi g o n cap a 1 c [u] (by rw[hsize];rfl) hnews (by simpa using h1) hroom hc0 hf0;rw[hsize,Nat.mul_one] at hr;have hset:w.setCells g (o+n) [u]=w.setCell ⟨g,o+n,none⟩ u:=rfl;rw[hset] at hr;refine ⟨_,_,hr,⟨by simp[hown.1],.inr ⟨g,o,cap,cur.setIfInBounds (o+n) u,rfl,hbg,heap_setCell_same w g (o+n) cur e u hg,hroom,hcm,by simpa using hcs,?_⟩⟩,aM w g (o+n) u,fun k hk=> .inl hk⟩;rw[Array.toList_setIfInBounds];apply List.ext_getElem?;intro j;rw[List.getElem?_take,List.getElem?_drop,List.getElem?_set];rcases Nat.lt_trichotomy j n with hj|hj|hj
   ·rw[if_pos (by omega),if_neg (by omega),List.getElem?_append_left (by rw[hown.1];exact hj),←htake,List.getElem?_take,if_pos hj,List.getElem?_drop]
   ·subst hj;rw[if_pos (by omega),if_pos rfl,if_pos (by simp;omega),List.getElem?_append_right (by rw[hown.1];omega),hown.1,Nat.sub_self];rfl
   ·rw[if_neg (by omega),List.getElem?_eq_none (by simp[hown.1];omega)]
  ·obtain ⟨v',w',hr,h2,h3⟩:=run_append_arg_grows (P:=P) w t ty e i z 1 bytes ht hi hz hsize hby hzs (by omega) ⟨g,o,none⟩ n cap xs (by simpa using hown.1) (fun j x hx=>by rw[Addr.add_lit];exact hown.cells j x hx) a 1 c [u] rfl hnews (by omega) h63 hbytes;exact ⟨v',w',hr,(dN.cK h2).vH hbase,⟨h3.os,h3.tape,h3.output,h3.size,fun k hk _=>h3.block k hk (by simp)⟩,fun k hk=> .inr ((dN.cK h2).lt hk).1⟩
theorem vI {o:Oper} {a:Act} {K:Act→World→Prop} {Q:Exit→Act→World→Prop} (s x:Operand) (t:TypeId)
 (ho:o.op= .call {callee:= .builtin .append,args:= #[s,x],argTypes:= #[t,t]})
 (i:TypeInfo) (z:Value) (bytes:Nat) (ht:P.underlying t=some (.slice e)) (hi:P.info? e=some i) (hz:i.zero=some z)
 (hsize:i.size=1) (hby:i.bytes=bytes) (hzs:z.cells.size=1) (hs:a.eval s=v) (hown:dN w base e v n xs)
 (ad:Addr) (c:Nat) (u:Value) (hx:a.eval x= .slice (some ad) 1 c) (hu:w.cell? ad=some u) (h1:u.oneCell'=true)
 (h63:n+1≤maxLen) (hbytes:(n+1)*bytes≤140737488355328) (hbase:base≤w.heap.size)
 (h:∀v' w',dN w' base e v' (n+1) (xs++ [u])→w.grownBy w' (aS v)→(∀k,aS v'=some k→aS v=some k∨w.heap.size≤k)→K (a.put o.dst v') w'):o.wp P a w K Q:=by
 obtain ⟨v',w',hr,h2,h3,h4⟩:=Cr (P:=P) t o.type i z bytes ht hi hz hsize hby hzs hown ad c u hu h1 h63 hbytes hbase;unfold Oper.wp execOp;simp only[ho,resolve,invoke,builtin,Sem.run_bind,Sem.run_pure,Result.andThen_ok,List.map_toArray,List.map_cons,List.map_nil,hs,hx,hr];exact h v' w' h2 h3 h4
theorem wh {ops:Array Oper} {rest:List Oper} {o:Oper} {a:Act} {Q:Exit→Act→World→Prop} (hgd:o.guard=none) (s x:Operand) (t:TypeId)
 (ho:o.op= .call {callee:= .builtin .append,args:= #[s,x],argTypes:= #[t,t]})
 (i:TypeInfo) (z:Value) (bytes:Nat) (ht:P.underlying t=some (.slice e)) (hi:P.info? e=some i) (hz:i.zero=some z)
 (hsize:i.size=1) (hby:i.bytes=bytes) (hzs:z.cells.size=1) (hs:a.eval s=v) (hown:dN w base e v n xs)
 (ad:Addr) (c:Nat) (u:Value) (hx:a.eval x= .slice (some ad) 1 c) (hu:w.cell? ad=some u) (h1:u.oneCell'=true)
 (h63:n+1≤maxLen) (hbytes:(n+1)*bytes≤140737488355328) (hbase:base≤w.heap.size)
 (h:∀v' w',dN w' base e v' (n+1) (xs++ [u])→w.grownBy w' (aS v)→(∀k,aS v'=some k→aS v=some k∨w.heap.size≤k)→wpList P ops Q rest (a.put o.dst v') w'):wpList P ops Q (o::rest) a w:=
 wpList_plain hgd fun _ hK=>vI s x t ho i z bytes ht hi hz hsize hby hzs hs hown ad c u hx hu h1 h63 hbytes hbase fun v' w' h2 h3 h4=>hK _ _ (h v' w' h2 h3 h4)
theorem zP {ops:Array Oper} {o:Oper} {a:Act} {K:Act→World→Prop} {Q:Exit→Act→World→Prop} {E:Prop} (hgd:o.guard=none) (s x:Operand) (t:TypeId)
 (ho:o.op= .call {callee:= .builtin .append,args:= #[s,x],argTypes:= #[t,t]})
 (i:TypeInfo) (z:Value) (bytes:Nat) (ht:P.underlying t=some (.slice e)) (hi:P.info? e=some i) (hz:i.zero=some z)
 (hsize:i.size=1) (hby:i.bytes=bytes) (hzs:z.cells.size=1) (hs:a.eval s=v) (hown:dN w base e v n xs)
 (ad:Addr) (c:Nat) (u:Value) (hx:a.eval x= .slice (some ad) 1 c) (hu:w.cell? ad=some u) (h1:u.oneCell'=true)
 (h63:n+1≤maxLen) (hbytes:(n+1)*bytes≤140737488355328) (hbase:base≤w.heap.size)
 (h:∀v' w',dN w' base e v' (n+1) (xs++ [u])→w.grownBy w' (aS v)→(∀k,aS v'=some k→aS v=some k∨w.heap.size≤k)→K (a.put o.dst v') w'):if Region.wanted o (yielded ops a.tmps)=true then Oper.wp P o a w K Q else E:=by
 have hw:Region.wanted o (yielded ops a.tmps)=true:=by simp[Region.wanted,hgd]
 rw[if_pos hw];exact vI s x t ho i z bytes ht hi hz hsize hby hzs hs hown ad c u hx hu h1 h63 hbytes hbase h
end
end
section
open Go.RowKit
def Cs (F D:Nat→Prop) (A:Option Addr):Prop:=∀ad,A=some ad→F ad.block∧¬D ad.block
def sOf:Value→Option Addr
 | .slice A _ _=>A
 |_=>none
section
variable {w w':World} {B n c:Nat} {A:Option Addr} {xs vs:List Value} {ps:List (List UInt8)}
theorem Sl.stay (h:Sl w w.heap.size A n c xs) (hk:∀ad,A=some ad→w'.heap[ad.block]? =w.heap[ad.block]?):Sl w' w'.heap.size A n c xs:=
 ⟨h.len,h.cap,h.mx,fun hn=>by
  obtain ⟨ad,e,hb,hc⟩:=h.at_ hn;have hs:=hk ad e;refine ⟨ad,e,?_,fun j u hu=>(World.cell?_of_block (by rw[block_add];exact hs)).trans (hc j u hu)⟩;have:w.heap[ad.block]? =some w.heap[ad.block]:=Array.getElem?_eq_getElem hb;rw[this] at hs;exact lt_of_heap hs⟩
theorem jg.stay (h:jg w w.heap.size A n c vs ps) (hk:∀ad,A=some ad→w'.heap[ad.block]? =w.heap[ad.block]?) (hv:∀(i:Nat) v ad,vs[i]? =some v→sOf v=some ad→w'.heap[ad.block]? =w.heap[ad.block]?):jg w' w'.heap.size A n c vs ps:=by
 refine ⟨h.sl.stay hk,h.len,fun i p hi=> ?_⟩;obtain ⟨A',c',e,hs⟩:=h.each i p hi;exact ⟨A',c',e,hs.stay fun ad ea=>hv i _ ad e (by rw[ea];rfl)⟩
end
def dO (c:Cf) (vq vo:Value) (st:Sd):Array Value:=
 #[.int .i64 c.KY,.int .i64 c.byte,.int .i64 c.timer,.int .i64 c.reorder,.int .i64 c.gF,.int .i64 c.dz,.int .i64 c.cap,vq,.int .i64 (st.done:Nat),.int .i64 (st.front:Nat),.int .i64 (st.taken:Nat),.int .i64 (st.first:Nat),vo,.int .i64 (st.dD:Nat),.int .i64 (st.bytes:Nat),.int .i64 (st.polled:Nat),.bool st.wait,.int .i64 st.fE,.bool st.dW,.bool st.failed,.int .i64 st.now]
def Eh (x:Ou) (vp vr:Value):Array Value:=
 #[.int .i64 (x.sn:Nat),.bool false,.bool false,.bool false,.int .i64 0,.bool x.s,.bool x.e,vp,.int .i64 (aF x:Nat),.bool x.aV,vr,.int .i64 (x.dz:Nat)]
structure dM (w:World) (A:Option Addr) (n c:Nat) (l:List (Nat × Nat)):Prop where
 len:l.length=n
 cap:n≤c
 mx:c≤9223372036854775807
 at_:0<n→∃ad,A=some ad∧ad.block<w.heap.size∧∀j r,l[j]? =some r→w.cell? (ad.add (j*2))=some (.int .i64 (r.1:Nat))∧w.cell? (ad.add (j*2+1))=some (.int .i64 (r.2:Nat))
theorem dM.stay {w w':World} {A:Option Addr} {n c:Nat} {l:List (Nat × Nat)} (h:dM w A n c l) (hk:∀ad,A=some ad→w'.heap[ad.block]? =w.heap[ad.block]?):dM w' A n c l:=
 ⟨h.len,h.cap,h.mx,fun hn=>by
  obtain ⟨ad,e,hb,hc⟩:=h.at_ hn;have hs:=hk ad e;refine ⟨ad,e,?_,fun j r hr=>⟨(World.cell?_of_block (by rw[block_add];exact hs)).trans (hc j r hr).1,(World.cell?_of_block (by rw[block_add];exact hs)).trans (hc j r hr).2⟩⟩;have:w.heap[ad.block]? =some w.heap[ad.block]:=Array.getElem?_eq_getElem hb;rw[this] at hs;exact lt_of_heap hs⟩
theorem dM.nil (w:World):dM w none 0 0 []:=⟨rfl,Nat.le_refl _,by omega,fun h=>absurd h (by omega)⟩
structure gI (w:World) (D F:Nat→Prop) (p:Nat) (x:Ou) (Ap:Option Addr) (cp:Nat) (vp:List Value) (Ar:Option Addr) (cr:Nat):Prop where
 blk:au w p 152 (Eh x (.slice Ap x.ps.length cp) (.slice Ar x.pend.length cr))
 d:D p
 f:F p
 ps:jg w w.heap.size Ap x.ps.length cp vp x.ps
 pf:Cs F D Ap
 pe:∀(i:Nat) v,vp[i]? =some v→Cs F D (sOf v)
 rs:dM w Ar x.pend.length cr x.pend
 rf:Cs F D Ar
structure dS (w:World) (D F:Nat→Prop) (g:Nat) (c:Cf) (st:Sd) (vq:Value) (vs:List Value) (vo:Value) (os:List Value):Prop where
 blk:au w g 143 (dO c vq vo st)
 gd:D g
 sub:∀k,D k→F k
 lt:∀k,F k→k<w.heap.size
 qr:dN w 0 31 vq st.queue.length vs
 qd:∀k,aS vq=some k→D k
 qe:∀(i:Nat) (p:List UInt8),st.queue[i]? =some p→∃A cc,vs[i]? =some (.slice A p.length cc)∧Sl w w.heap.size A p.length cc (bV p)∧Cs F D A
 qU:dN w 0 138 vo st.out.length os
 od:∀k,aS vo=some k→D k
 oe:∀(i:Nat) (x:Ou),st.out[i]? =some x→∃p Ap cp vp Ar cr,os[i]? =some (.pointer (some ⟨p,0,none⟩))∧gI w D F p x Ap cp vp Ar cr
 inj:∀(i j:Nat) v,os[i]? =some v→os[j]? =some v→i=j
def bR (w:World) (D D':Nat→Prop):Prop:=∀k,D' k→D k∨w.heap.size≤k
theorem bR.refl (w:World) (D:Nat→Prop):bR w D D:=fun _ h=> .inl h
theorem bR.trans {w w':World} {D D' D'':Nat→Prop} (h:bR w D D') (h':bR w' D' D'') (hs:w.heap.size≤w'.heap.size):bR w D D'':=fun k hk=>by
 rcases h' k hk with e|e
 ·exact h k e
 ·exact .inr (by omega)
section
variable {w w':World} {D F:Nat→Prop} {g:Nat} {c:Cf} {st:Sd} {vq vo:Value} {vs os:List Value}
theorem gI.stay {p:Nat} {x:Ou} {Ap Ar:Option Addr} {cp cr:Nat} {vp:List Value} (h:gI w D F p x Ap cp vp Ar cr) (hk:∀k,F k→w'.heap[k]? =w.heap[k]?):gI w' D F p x Ap cp vp Ar cr:=
 ⟨(hk p h.f).trans h.blk,h.d,h.f,h.ps.stay (fun ad e=>hk _ (h.pf ad e).1) (fun i v ad hv e=>hk _ (h.pe i v hv ad e).1),h.pf,h.pe,h.rs.stay (fun ad e=>hk _ (h.rf ad e).1),h.rf⟩
theorem dS.stay (h:dS w D F g c st vq vs vo os) (hk:∀k,F k→w'.heap[k]? =w.heap[k]?):dS w' D F g c st vq vs vo os:=by
 have hlt:∀k,F k→k<w'.heap.size:=fun k hf=>by
  have h1:=h.lt k hf;have h2:=hk k hf;rw[Array.getElem?_eq_getElem h1] at h2;exact lt_of_heap h2
 exact ⟨(hk g (h.sub g h.gd)).trans h.blk,h.gd,h.sub,hlt,h.qr.keep fun k e=>hk k (h.sub k (h.qd k e)),h.qd,
  fun i p hi=>let ⟨A,cc,e,hs,hf⟩:=h.qe i p hi;⟨A,cc,e,hs.stay fun ad ea=>hk _ (hf ad ea).1,hf⟩,
  h.qU.keep fun k e=>hk k (h.sub k (h.od k e)),h.od,
  fun i x hi=>let ⟨p,Ap,cp,vp,Ar,cr,e,ho⟩:=h.oe i x hi;⟨p,Ap,cp,vp,Ar,cr,e,ho.stay hk⟩,h.inj⟩
theorem dS.below (h:dS w D F g c st vq vs vo os) (hb:Below w.heap.size w w'):dS w' D F g c st vq vs vo os:=h.stay fun k hf=>hb.block k (h.lt k hf)
theorem dS.drewN (h:dS w D F g c st vq vs vo os) (k:Nat):dS (w.drewN k) D F g c st vq vs vo os:=h.below ((Below.refl _ w).drewN k)
theorem dS.drew (h:dS w D F g c st vq vs vo os):dS w.drew D F g c st vq vs vo os:=h.below ((Below.refl _ w).drew)
theorem dS.alloc (h:dS w D F g c st vq vs vo os) (o:Obj):dS (w.alloc o) D F g c st vq vs vo os:=h.below ((Below.refl _ w).alloc (Nat.le_refl _) o)
end
end
section
theorem bP.next {st:Sd} (h:bP st):((bJ st:Int)-(st.first:Int)+1024)%1024≤512:=by
 have:=h.w;have:=h.f;unfold bJ;omega
def cZ (c:Cf) (st:Sd) (x:List UInt8):Sd × Int:=
 if st.failed=true then (st,8)
 else if x.length=0∨9000<x.length then (st,2)
 else if c.cap<(bM st:Int)+(x.length:Int) then (st,7)
 else (gq st x,0)
def dh (c:Cf) (st:Sd) (now n:Int):Sd × Option Pu × Int:=
 if st.failed=true then (st,none,8)
 else if n<0 then (st,none,2)
 else ((nS c st now n).1,(nS c st now n).2.1,if (nS c st now n).2.2=true then 8 else 0)
def dm (c:Cf) (st:Sd) (now aK:Int) (dG:List Nk):Sd × Int:=
 if st.failed=true then (st,8) else lQ c st now aK dG
def iF (c:Cf) (st:Sd) (now:Int):Sd × Int:=
 if st.failed=true then (st,8) else (eX c st now,if (eX c st now).failed=true then 8 else 0)
theorem bP.cZ {st:Sd} (h:bP st) (c:Cf) (x:List UInt8):bP (cZ c st x).1:=by
 unfold Go.Proofs.YtbhiklnljiehiaaGreat.cZ;split
 ·exact h
 ·split
  ·exact h
  ·split
   ·exact h
   ·exact h.qR (by omega)
theorem bP.dh {st:Sd} (h:bP st) (c:Cf) (now n:Int):bP (dh c st now n).1:=by
 unfold Go.Proofs.YtbhiklnljiehiaaGreat.dh;split
 ·exact h
 ·split
  ·exact h
  ·exact h.pK c now n
theorem bP.dm {st:Sd} (h:bP st) (c:Cf) (now aK:Int) (dG:List Nk):bP (dm c st now aK dG).1:=by
 unfold Go.Proofs.YtbhiklnljiehiaaGreat.dm;split
 ·exact h
 ·exact h.status c now aK dG
theorem bP.iF {st:Sd} (h:bP st) (c:Cf) (now:Int):bP (iF c st now).1:=by
 unfold Go.Proofs.YtbhiklnljiehiaaGreat.iF;split
 ·exact h
 ·exact h.tick c now
end
section
structure LD (c:Cf):Prop where
 KY:0≤c.KY∧c.KY≤1024
 byte:0≤c.byte∧c.byte≤1048576
 timer:1≤c.timer∧c.timer≤1048576
 dz:0≤c.dz∧c.dz≤64
 cap:1≤c.cap∧c.cap≤1048576
structure Ei (x:Ou):Prop where
 sn:x.sn≤1023
 ps:qQ x.ps
 pr:∀r∈x.pend,r.1≤r.2∧r.2<aF x
 pl:x.pend.length≤1000
structure jk (st:Sd) (K:Nat):Prop where
 done:st.done≤1048576*K
 dD:st.dD≤K
 bytes:st.bytes≤32767*K
 held:bM st≤1048576
 JI:∀s∈st.queue,1≤s.length∧s.length≤9000
 pol:st.polled≤1023
 ou:∀x∈st.out,Ei x
 rx:∀x∈st.out,x.dz≤K
 zQ:0≤st.now
 zR:st.now≤9223372036854775807
theorem jk.mono {st:Sd} {K K':Nat} (h:jk st K) (hk:K≤K'):jk st K':=
 ⟨Nat.le_trans h.done (Nat.mul_le_mul_left _ hk),Nat.le_trans h.dD hk,Nat.le_trans h.bytes (Nat.mul_le_mul_left _ hk),h.held,h.JI,h.pol,h.ou,fun x hx=>Nat.le_trans (h.rx x hx) hk,h.zQ,h.zR⟩
theorem jk.new:jk dB 0:=⟨by simp[dB],by simp[dB],by simp[dB],by simp[dB,bM,ah],by simp[dB],by simp[dB],by simp[dB],by simp[dB],by simp[dB],by simp[dB]⟩
theorem uz {q:List (List UInt8)} (h:∀s∈q,1≤s.length):q.length≤ah q:=by
 induction q with
 |nil=>simp
 |cons x r ih=>
  have h1:=h x (by simp);have h2:=ih (fun s hs=>h s (by simp[hs]));rw[iA];simp only[List.length_cons];omega
theorem jk.clock {st:Sd} {K:Nat} (h:jk st K) {now:Int} (hn:now≤9223372036854775807):jk (bW st now) K:=
 ⟨h.done,h.dD,h.bytes,h.held,h.JI,h.pol,h.ou,h.rx,by have:=h.zQ;simp only[bW];split<;>omega,by have:=h.zR;simp only[bW];split<;>omega⟩
theorem jk.qR {st:Sd} {K:Nat} (h:jk st K) {x:List UInt8} (h1:1≤x.length) (h9:x.length≤9000) (hc:bM st+x.length≤1048576):jk (gq st x) K:=
 ⟨h.done,h.dD,h.bytes,by simp only[bM,gq,jZ,iA] at*;simp[ah] at*;omega,fun s hs=>by
  simp only[gq,List.mem_append,List.mem_singleton] at hs;rcases hs with hs|rfl
  ·exact h.JI s hs
  ·exact ⟨h1,h9⟩,h.pol,h.ou,h.rx,h.zQ,h.zR⟩
theorem IZ (c:Cf) {x:Ou} {l:List (Nat × Nat)} {K:Nat} (h:Ei x) (hr:x.dz≤K) (hl:∀r∈l,r.1≤r.2∧r.2<aF x) (hn:l.length≤1000):Ei (gG c x l).1∧(gG c x l).1.dz≤K+1:=by
 unfold gG;split
 ·exact ⟨⟨h.sn,h.ps,hl,hn⟩,by dsimp only;omega⟩
 ·exact ⟨⟨h.sn,h.ps,hl,hn⟩,by dsimp only;omega⟩
theorem jc {x:Ou} (h:Ei x):1≤aF x∧aF x≤32767:=by
 unfold aF;have:=h.ps.sum;have:=h.ps.lo;refine ⟨?_,by omega⟩;obtain ⟨p,hp⟩:=List.exists_mem_of_length_pos (show 0<x.ps.length by omega);have:=gJ hp;have:=h.ps.pos p hp;omega
theorem jk.set {st:Sd} {K:Nat} (h:jk st K) (i:Nat) {z:Ou} (hz:Ei z) (hr:z.dz≤K) (b:Bool):jk {st with out:=st.out.set i z,failed:=b} K:=
 ⟨h.done,h.dD,h.bytes,h.held,h.JI,h.pol,fun x hx=>by
  rcases su hx with rfl|hx
  ·exact hz
  ·exact h.ou x hx,fun x hx=>by
  rcases su hx with rfl|hx
  ·exact hr
  ·exact h.rx x hx,h.zQ,h.zR⟩
theorem jk.nQ {st:Sd} {K:Nat} (h:jk st K) (c:Cf):jk (bK c st) (K+1):=by
 unfold bK;split
 ·exact h.mono (by omega)
 ·split
  ·exact h.mono (by omega)
  ·split
   ·exact h.mono (by omega)
   ·rename_i i _ _ x hx;have hm:=List.mem_of_getElem? hx;have ho:=h.ou x hm;have hs:=jc ho;obtain ⟨p1,p2⟩:=IZ c ho (h.rx x hm) (l:= [(0,aF x-1)]) (fun r hr=>by simp at hr;rw[hr];dsimp only;omega) (by simp);exact (h.mono (Nat.le_succ K)).set i p1 p2 _
theorem jk.tick {st:Sd} {K:Nat} (h:jk st K) (c:Cf) {now:Int} (hn:now≤9223372036854775807):jk (eX c st now) (K+1):=by
 have h1:=h.clock hn;unfold eX gH;split
 ·exact h1.mono (by omega)
 ·exact jk.nQ (st:= {bW st now with wait:=false,dW:=true}) ⟨h1.done,h1.dD,h1.bytes,h1.held,h1.JI,h1.pol,h1.ou,h1.rx,h1.zQ,h1.zR⟩ c
theorem jk.finish {st:Sd} {K:Nat} (h:jk st K) (c:Cf) (b:Bool):jk (bZ c st b).1 K:=by
 unfold bZ;split
 ·exact ⟨h.done,Nat.zero_le _,Nat.zero_le _,h.held,h.JI,by show (bJ st+1023)%1024≤1023;omega,h.ou,h.rx,h.zQ,h.zR⟩
 ·exact h
theorem jk.again {st:Sd} {K:Nat} (h:jk st K) (c:Cf) (n:Int) (i:Nat) {x:Ou} (hx:st.out[i]? =some x):jk (gX c n st i x).1 K:=by
 have hm:=List.mem_of_getElem? hx;have ho:=h.ou x hm;have hpl:=ho.pl;have key:∀l:List (Nat × Nat),(∀r∈l,r.1≤r.2∧r.2<aF x)→l.length≤1000→jk (jT st i x l) K:=fun l hl hn=>
  h.set i (z:= {x with pend:=l}) ⟨ho.sn,ho.ps,hl,hn⟩ (h.rx x hm) st.failed
 have hpr:=ho.pr;unfold Go.Proofs.YtbhiklnljiehiaaGreat.gX;cases hl:x.pend with
 |nil=>exact h
 |cons r rest=>
  obtain ⟨fr,e0⟩:=r;rw[hl] at hpr hpl;have hr:=hpr (fr,e0) (by simp);dsimp only at hr;have hb:=wM (gu x fr n) (e0+1-fr) fr;simp only[List.length_cons] at hpl;dsimp only;split
  ·exact (key [] (by simp) (by simp)).finish c false
  ·split
   ·exact h
   ·refine (key _ (fun q hq=> ?_) ?_).finish c false
    ·split at hq
     ·exact hpr q (by simp[hq])
     ·rcases List.mem_cons.1 hq with rfl|hq
      ·dsimp only;omega
      ·exact hpr q (by simp[hq])
    ·split
     ·omega
     ·simp only[List.length_cons];omega
theorem chunk_ok {st:Sd} {K:Nat} (_h:jk st K) (hi:InvV st) (n:Int) (hne:(dL n st).ps≠ []):Ei (dL n st):=by
 obtain ⟨⟨d,h1,h2⟩,h3,h4⟩:=uw st.queue st.taken hi.le;have hne':(oQ n ((aN st.queue st.taken).1.length+1) (aN st.queue st.taken).1 (aN st.queue st.taken).2 0 0 0 false).1≠ []:=hne;have hpos:∀s∈(aN st.queue st.taken).1,1≤s.length:=fun s hs=>hi.pos s (by rw[h1];simp[hs])
 have hv:=Ba n ((aN st.queue st.taken).1.length+1) (aN st.queue st.taken).1 (aN st.queue st.taken).2 false hpos h4 hne';exact ⟨by show bJ st≤1023;unfold bJ;omega,hv,(by intro r hr;cases hr),by show (0:Nat)≤1000;omega⟩
theorem jk.fresh {st:Sd} {K:Nat} (h:jk st K) (hi:InvV st) (c:Cf) (n:Int):jk (ji c n st).1 (K+1):=by
 unfold ji;split
 ·exact h.mono (by omega)
 ·split
  ·exact h.mono (by omega)
  ·rename_i hne;have ho:=chunk_ok h hi n hne;have hs:=jc ho;have hx:(dL n st).dz=0:=rfl;dsimp only;generalize dL n st=x at*;refine jk.finish (st:=eF st x) ⟨?_,?_,?_,h.held,h.JI,h.pol,fun y hy=> ?_,fun y hy=> ?_,h.zQ,h.zR⟩ c _
   ·have:=h.done;show st.done≤_
    omega
   ·have:=h.dD;show st.dD+1≤_
    omega
   ·have:=h.bytes;show st.bytes+aF x≤_
    omega
   ·simp only[eF,List.mem_append,List.mem_singleton] at hy;rcases hy with hy|rfl
    ·exact h.ou y hy
    ·exact ho
   ·simp only[eF,List.mem_append,List.mem_singleton] at hy;rcases hy with hy|rfl
    ·have:=h.rx y hy;omega
    ·omega
end
end Go.Proofs.YtbhiklnljiehiaaGreat
