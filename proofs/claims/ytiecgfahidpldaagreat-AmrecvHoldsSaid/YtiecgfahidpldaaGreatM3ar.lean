/- amrecv: storing bytes; delivering a whole PDU (plain). amrecv: a transmitter's PDUs received in any order, whole or in pieces (plain). amrecv: what a report says (plain). Plain mathematics: decoding undoes encoding of acknowledged mode PDUs, and encoding undoes decoding. -/
import Derived.Test.YtiecgfahidpldaaGreatM3af
import Derived.Test.YtiecgfahidpldaaGreatM3ao
import Derived.Test.YtiecgfahidpldaaGreatM3aq
namespace Go.Proofs.YtiecgfahidpldaaGreat
section
structure V2 (F:List (Fl × UInt8)) (x:List Fl × List UInt8):Prop where
 ll:x.2.length=x.1.length
 le:x.1.length≤F.length
 eq:∀(i:Nat) (f:Fl) (b:UInt8),x.1[i]? =some f→x.2[i]? =some b→f.1=true→F[i]? =some (f,b)
theorem jq {l:List Fl} {i:Nat} {f:Fl} (h:l[i]? =some f):dW l i=f:=by unfold dW;rw[h];rfl
theorem mY:∀(l:List (Fl × UInt8)) (a:Nat) (x:List Fl × List UInt8),(xL l a x).1.length=x.1.length∧(xL l a x).2.length=x.2.length
 | [],_,_=>⟨rfl,rfl⟩
 |(f,b)::r,a,x=>by
  unfold xL;have h:=mY r (a+1) (if (dW x.1 a).1=true then x else (x.1.set a f,x.2.set a b));rw[h.1,h.2];split<;>simp
theorem Ee:∀(l m:List (Fl × UInt8)) (a:Nat) (x:List Fl × List UInt8),xL (l++m) a x=xL m (a+l.length) (xL l a x)
 | [],_,_,_=>rfl
 |(f,b)::r,m,a,x=>by
  rw[List.cons_append,xL,xL,Ee r m,List.length_cons,show a+1+r.length=a+(r.length+1) by omega]
theorem Ku {F:List (Fl × UInt8)}:∀(l:List (Fl × UInt8)) (a:Nat) (x:List Fl × List UInt8),V2 F x→(∀(j:Nat) z,l[j]? =some z→F[a+j]? =some z)→V2 F (xL l a x)
 | [],_,_,h,_=>h
 |(f,b)::r,a,x,h,hl=>by
  unfold xL;refine Ku r (a+1) _ ?_ (fun j z hj=>by have:=hl (j+1) z (by simpa using hj);rwa [show a+(j+1)=a+1+j by omega] at this);split
  ·exact h
  ·refine ⟨by simpa using h.ll,by simpa using h.le,fun i g c hg hc ht=> ?_⟩;dsimp only at hg hc;rw[List.getElem?_set] at hg hc;by_cases hi:a=i
   ·subst hi;have h0:=hl 0 (f,b) rfl;rw[Nat.add_zero] at h0;rw[if_pos rfl] at hg hc;split at hg
    ·split at hc
     ·cases hg;cases hc;exact h0
     ·cases hc
    ·cases hg
   ·rw[if_neg hi] at hg hc;exact h.eq i g c hg hc ht
theorem zo:∀(l:List (Fl × UInt8)) (a:Nat) (x:List Fl × List UInt8) (i:Nat),(dW x.1 i).1=true→(dW (xL l a x).1 i).1=true
 | [],_,_,_,h=>h
 |(f,b)::r,a,x,i,h=>by
  unfold xL;refine zo r (a+1) _ i ?_;split
  ·exact h
  ·rename_i hn;have hi:a≠i:=fun e=>hn (by rw[e];exact h)
   unfold dW at h ⊢;dsimp only;rw[List.getElem?_set_ne hi];exact h
theorem Kv:∀(l:List (Fl × UInt8)) (a:Nat) (x:List Fl × List UInt8),(∀z∈l,z.1.1=true)→a+l.length≤x.1.length→∀i,a≤i→i<a+l.length→(dW (xL l a x).1 i).1=true
 | [],a,_,_,_,i,h1,h2=>by simp at h2;omega
 |(f,b)::r,a,x,hz,hle,i,h1,h2=>by
  unfold xL;simp only[List.length_cons] at hle h2;by_cases hi:i=a
  ·subst hi;refine zo r (i+1) _ i ?_;split
   ·assumption
   ·unfold dW;dsimp only;rw[List.getElem?_set_self (by omega)];exact hz (f,b) (by simp)
  ·refine Kv r (a+1) _ (fun z hm=>hz z (by simp[hm])) ?_ i (by omega) (by omega);split
   ·omega
   ·simp;omega
theorem V3 {F:List (Fl × UInt8)} {p:Sp} {k:Nat} (h:V2 F (p.fl,p.da)) (hk:k≤F.length):V2 F (iw k p.fl,nG k p.da):=by
 have h1:=h.ll;have h2:=h.le;dsimp only at h1 h2;refine ⟨by simp[iw,nG,h1],by simp[iw];omega,fun i f b hf hb ht=> ?_⟩;simp only[iw,nG] at hf hb;rw[List.getElem?_append] at hf hb;rw[h1] at hb;split at hf
 ·rename_i hlt;rw[if_pos hlt] at hb;exact h.eq i f b hf hb ht
 ·rw[List.getElem?_replicate] at hf;split at hf
  ·cases hf;simp[Ue] at ht
  ·cases hf
theorem V4 (k:Nat) (l:List Fl) (i:Nat):(dW (iw k l) i).1=(dW l i).1:=by
 unfold dW iw;rw[List.getElem?_append];split
 ·rfl
 ·rename_i hn;rw[List.getElem?_eq_none (by omega:l.length≤i),List.getElem?_replicate];split<;>rfl
theorem dU (p:List UInt8) (a b:Bool):(jo p a b).length=p.length:=by simp[jo]
theorem nY (p:List UInt8) (a b:Bool) (j:Nat):(jo p a b)[j]? =p[j]?.map (fun x=>((true,decide (j=0)&&a,decide (j+1=p.length)&&b),x)):=by simp[jo]
theorem mF (s e:Bool) (n:Nat):∀(i:Nat) (ps:List (List UInt8)),(dB s e n i ps).length=au ps
 |_,[]=>rfl
 |i,p::r=>by
  rw[dB,List.length_append,dU,mF s e n (i+1) r];simp[au]
theorem zq (s e:Bool) (n:Nat):∀(i:Nat) (ps:List (List UInt8)),∀z∈dB s e n i ps,z.1.1=true
 |_,[],z,h=>by simp[dB] at h
 |i,p::r,z,h=>by
  rw[dB,List.mem_append] at h;rcases h with h|h
  ·obtain ⟨j,hj⟩:=List.mem_iff_getElem?.1 h;rw[nY] at hj;cases hp:p[j]? with
   |none=>rw[hp] at hj;cases hj
   |some x=>rw[hp] at hj;cases hj;rfl
  ·exact zq s e n (i+1) r z h
theorem vI (f:Fl) (l:List Fl):kK (f::l)=f.1.toNat+kK l:=by simp[kK]
theorem qW:∀l:List Fl,kK l≤l.length
 | []=>by simp[kK]
 |f::l=>by
  have:=qW l;rw[vI,List.length_cons];cases f.1<;>simp<;>omega
theorem zu:∀l:List Fl,kK l=l.length→∀(i:Nat) (f:Fl),l[i]? =some f→f.1=true
 | [],_,i,f,h=>by simp at h
 |g::l,hl,i,f,h=>by
  have:=qW l;rw[vI,List.length_cons] at hl;have hg:g.1=true:=by
   cases hh:g.1 with
   |true=>rfl
   |false=>rw[hh] at hl;simp at hl;omega
  cases i with
  |zero=>simp at h;rw[←h];exact hg
  |succ i=>
   rw[hg] at hl;exact zu l (by simp at hl;omega) i f (by simpa using h)
theorem mZ:∀l:List Fl,(∀i,i<l.length→(dW l i).1=true)→kK l=l.length
 | [],_=>rfl
 |g::l,h=>by
  have h0:=h 0 (by simp);have h1:g.1=true:=by simpa[dW] using h0
  rw[vI,List.length_cons,h1,mZ l (fun i hi=>by have:=h (i+1) (by simp;omega);simpa[dW] using this)];simp;omega
theorem V2.whole {F:List (Fl × UInt8)} {x:List Fl × List UInt8} (h:V2 F x) (hg:kK x.1=F.length):x.1=F.map Prod.fst∧x.2=F.map Prod.snd:=by
 have h1:=qW x.1;have h2:=h.le;have h3:=h.ll;have hlen:x.1.length=F.length:=by omega
 have hall:=zu x.1 (by omega);have key:∀i,i<F.length→x.1[i]? =F[i]?.map Prod.fst∧x.2[i]? =F[i]?.map Prod.snd:=fun i hi=>by
  have e1:x.1[i]? =some x.1[i]:=List.getElem?_eq_getElem (by omega);have e2:x.2[i]? =some x.2[i]:=List.getElem?_eq_getElem (by omega);have:=h.eq i _ _ e1 e2 (hall i _ e1);rw[this,e1,e2];exact ⟨rfl,rfl⟩
 constructor
 ·apply List.ext_getElem?;intro i;rw[List.getElem?_map];by_cases hi:i<F.length
  ·exact (key i hi).1
  ·rw[List.getElem?_eq_none (by omega),List.getElem?_eq_none (by omega)];rfl
 ·apply List.ext_getElem?;intro i;rw[List.getElem?_map];by_cases hi:i<F.length
  ·exact (key i hi).2
  ·rw[List.getElem?_eq_none (by omega),List.getElem?_eq_none (by omega)];rfl
def CJ (s e:Bool) (n:Nat):Nat→List (List UInt8)→List UInt8→Bool→List UInt8 × Bool × List (List UInt8)
 |_,[],op,sm=>(op,sm,[])
 |i,p::r,op,sm=>
  let y:=pR p (decide (0<i)||s) (decide (i+1<n)||e) op sm
  let z:=CJ s e n (i+1) r y.1 y.2.1
  (z.1,z.2.1,y.2.2++z.2.2)
theorem zw (s e:Bool) (n:Nat):∀(i:Nat) (ps:List (List UInt8)),(dB s e n i ps).map Prod.snd=ps.flatten
 |_,[]=>rfl
 |i,p::r=>by
  rw[dB,List.map_append,zw s e n (i+1) r,List.flatten_cons]
  congr 1
  apply List.ext_getElem?;intro j;rw[List.getElem?_map,nY];cases p[j]? <;>rfl
theorem Gj (fl:List Fl) (da:List UInt8) (n fr:Nat) (op:List UInt8) (sm:Bool):∀(d k i:Nat),(∀j,j<d→i+j<n∧(dW fl (i+j)).2.1=false)→nH fl da n (k+d) i fr op sm=nH fl da n k (i+d) fr op sm
 |0,_,_,_=>rfl
 |d+1,k,i,h=>by
  have h0:=h 0 (by omega);rw[Nat.add_zero] at h0;rw[←Nat.add_assoc,nH,if_pos h0,Gj fl da n fr op sm d k (i+1) (fun j hj=>by have:=h (j+1) (by omega);rwa [show i+(j+1)=i+1+j by omega] at this)];rw[show i+1+d=i+(d+1) by omega]
theorem Gl (s e:Bool) (n:Nat) (fl:List Fl) (da:List UInt8) (N:Nat):∀(r:List (List UInt8)) (i o:Nat) (op:List UInt8) (sm:Bool),(∀p∈r,1≤p.length)→i+r.length=n→o+au r=N→
 (∀j,fl[o+j]? =(dB s e n i r)[j]?.map Prod.fst)→da.drop o=r.flatten→nH fl da N (N-o) (o+1) o op sm=CJ s e n i r op sm
 | [],i,o,op,sm,_,_,hN,_,_=>by
  have:N-o=0:=by simp[au] at hN;omega
  rw[this];rfl
 |p::r,i,o,op,sm,hp,hi,hN,hf,hd=>by
  have hp1:=hp p (by simp);have hsum:au (p::r)=p.length+au r:=by simp[au]
  rw[hsum] at hN;have hfl:∀j,j<p.length→fl[o+j]? =some (true,decide (j=0)&&(decide (0<i)||s),decide (j+1=p.length)&&(decide (i+1<n)||e)):=fun j hj=>by
   rw[hf j,dB,List.getElem?_append_left (by rw[dU];exact hj),nY,List.getElem?_eq_getElem hj];rfl
  have hnext:∀j,fl[o+p.length+j]? =(dB s e n (i+1) r)[j]?.map Prod.fst:=fun j=>by
   rw[Nat.add_assoc,hf (p.length+j),dB,List.getElem?_append_right (by rw[dU];omega),dU,Nat.add_sub_cancel_left]
  have hda:da.drop (o+p.length)=r.flatten:=by
   rw[←List.drop_drop,hd,List.flatten_cons,List.drop_left]
  have vX:=Gj fl da N o op sm (p.length-1) (N-o-(p.length-1)) (o+1) (fun j hj=>by
   refine ⟨by omega,?_⟩;rw[show o+1+j=o+(j+1) by omega,jq (hfl (j+1) (by omega))];simp)
  rw[show N-o-(p.length-1)+(p.length-1)=N-o by omega,show o+1+(p.length-1)=o+p.length by omega] at vX;rw[vX];rw[show N-o-(p.length-1)=(N-(o+p.length))+1 by omega,nH];have hcond:¬(o+p.length<N∧(dW fl (o+p.length)).2.1=false):=by
   rintro ⟨h1,h2⟩;cases r with
   |nil=>simp[au] at hN;omega
   |cons q t=>
    have hq:=hp q (by simp);have:=hnext 0;rw[Nat.add_zero,dB,List.getElem?_append_left (by rw[dU];omega),nY,List.getElem?_eq_getElem (show 0<q.length by omega)] at this;rw[jq this] at h2;simp at h2
  rw[if_neg hcond];have hb:(da.take (o+p.length)).drop o=p:=by
   rw[List.drop_take,Nat.add_sub_cancel_left,hd,List.flatten_cons,List.take_left]
  have aeX:(dW fl o).2.1=(decide (0<i)||s):=by
   have:=hfl 0 hp1;rw[Nat.add_zero] at this;rw[jq this];simp
  have hlast:(decide (o+p.length<N)||(dW fl (o+p.length-1)).2.2)=(decide (i+1<n)||e):=by
   have:=hfl (p.length-1) (by omega);rw[show o+(p.length-1)=o+p.length-1 by omega] at this;rw[jq this];cases r with
   |nil=>
    have h1:au ([]:List (List UInt8))=0:=rfl;rw[h1] at hN;rw[show decide (o+p.length<N)=false by simp;omega];rw[show decide (p.length-1+1=p.length)=true by simp;omega];simp
   |cons q t=>
    have hq:=hp q (by simp);have h1:au (q::t)=q.length+au t:=by simp[au]
    rw[h1] at hN;simp only[List.length_cons] at hi;rw[show decide (o+p.length<N)=true by simp;omega,show decide (i+1<n)=true by simp;omega];rfl
  rw[hb,aeX,hlast,CJ];dsimp only;rw[Gl s e n fl da N r (i+1) (o+p.length) _ _ (fun q hq=>hp q (by simp[hq])) (by simp only[List.length_cons] at hi;omega) (by omega) hnext hda]
theorem CK (s e:Bool) (n:Nat):∀(r:List (List UInt8)) (i:Nat) (op b0:List UInt8) (sm sm0:Bool),r≠ []→i+r.length=n→(∀p∈r,b0.length+p.length≤9000)→
 (((decide (0<i)||s)=true∧b0= [])∨((decide (0<i)||s)=false∧sm=true∧op=b0))→
 CJ s e n i r op sm=((kE b0 sm0 r e).2.1,(kE b0 sm0 r e).2.2,(kE b0 sm0 r e).1)
 | [],_,_,_,_,_,h,_,_,_=>absurd rfl h
 |p::r,i,op,b0,sm,sm0,_,hi,hl,hc=>by
  have hpl:=hl p (by simp);have hpart:∀last,pR p (decide (0<i)||s) last op sm=if last=true then ([],false,[b0++p]) else (b0++p,true,[]):=fun last=>by
   have hle:(b0++p).length≤9000:=by rw[List.length_append];exact hpl
   have he:(if (decide (0<i)||s)=true then [] else op)=b0:=by
    rcases hc with ⟨h1,h2⟩|⟨h1,_,h3⟩
    ·rw[if_pos h1,h2]
    ·rw[h1,if_neg (by simp),h3]
   have hn:¬((decide (0<i)||s)=false∧sm=false):=by
    rcases hc with ⟨h1,_⟩|⟨_,h2,_⟩
    ·rw[h1];simp
    ·rw[h2];simp
   unfold pR;rw[if_neg hn,he];dsimp only;cases last with
   |true=>rw[if_neg (by simp),if_pos hle,if_pos rfl]
   |false=>rw[if_pos ⟨hle,rfl⟩,if_neg (by simp)]
  rw[CJ,hpart];cases r with
  |nil=>
   simp only[List.length_cons,List.length_nil] at hi;rw[show decide (i+1<n)=false by simp;omega,Bool.false_or];cases e<;>simp[CJ,kE]
  |cons q t=>
   simp only[List.length_cons] at hi;rw[show decide (i+1<n)=true by simp;omega,Bool.true_or,if_pos rfl];dsimp only;rw[CK s e n (q::t) (i+1) [] [] false false (by simp) (by simp only[List.length_cons];omega) (fun x hx=>by have:=hl x (by simp at hx ⊢;right;exact hx);simp;omega) (.inl ⟨by simp,rfl⟩)];simp[kE]
end
section
structure wW (aj:List (List UInt8)) (N:Nat) (pu:Nat→Ou) (left:Nat→List (List UInt8)) (sent:Nat→Nat):Prop where
 n:N≤511
 l0:left 0=aj
 s0:sent 0=0
 sn:∀i,i<N→(pu i).sn=i
 s:∀i,i<N→(pu i).s=decide (sent i=0)
 ne:∀i,i<N→(pu i).ps≠ []
 each:∀i,i<N→∀q∈(pu i).ps,1≤q.length∧q.length≤1000
 tot:∀i,i<N→ay (pu i)≤32767
 len:∀s∈aj,s.length≤1000
 step:∀i,i<N→∃g,left i=g++left (i+1)∧kE (((left i).headD []).take (sent i)) (decide (0<sent i)) (pu i).ps (pu i).e=(g,((left (i+1)).headD []).take (sent (i+1)),decide (0<sent (i+1)))
def Bu (x:Ou):List (Fl × UInt8):=dB x.s x.e x.ps.length 0 x.ps
theorem qI (x:Ou):(Bu x).length=ay x:=mF _ _ _ _ _
def jN (aj:List (List UInt8)) (left:Nat→List (List UInt8)) (i:Nat):List (List UInt8):=aj.take (aj.length-(left i).length)
structure Piece (x:Ou) (a:iN):Prop where
 sn:a.sn=x.sn
 pos:1≤au a.ps
 le:jy a≤ay x
 fin:uk a=true↔jy a=ay x
 eq:∀(j:Nat) z,(dB a.s a.e a.ps.length 0 a.ps)[j]? =some z→(Bu x)[a.off+j]? =some z
section
variable {aj:List (List UInt8)} {N:Nat} {pu:Nat→Ou} {left:Nat→List (List UInt8)} {sent:Nat→Nat}
theorem Ju {ps:List (List UInt8)} (h:ps≠ []) (h1:∀q∈ps,1≤q.length):1≤au ps:=by
 cases ps with
 |nil=>exact absurd rfl h
 |cons p r=>
  have:=h1 p (by simp);simp[au];omega
theorem wW.size_pos (h:wW aj N pu left sent) {i:Nat} (hi:i<N):1≤ay (pu i):=Ju (h.ne i hi) fun q hq=>(h.each i hi q hq).1
theorem wW.suffix (h:wW aj N pu left sent):∀i,i≤N→∃d,aj=d++left i
 |0,_=>⟨[],by rw[h.l0];rfl⟩
 |i+1,hi=>by
  obtain ⟨d,hd⟩:=wW.suffix h i (by omega);obtain ⟨g,hg,_⟩:=h.step i (by omega);exact ⟨d++g,by rw[hd,hg,List.append_assoc]⟩
theorem wW.done (h:wW aj N pu left sent) {i:Nat} (hi:i≤N):aj=jN aj left i++left i:=by
 obtain ⟨d,hd⟩:=h.suffix i hi;unfold jN;rw[hd];simp
theorem wW.OH (h:wW aj N pu left sent) {i:Nat} (hi:i<N):∃g,jN aj left (i+1)=jN aj left i++g∧kE (((left i).headD []).take (sent i)) (decide (0<sent i)) (pu i).ps (pu i).e=(g,((left (i+1)).headD []).take (sent (i+1)),decide (0<sent (i+1))):=by
 obtain ⟨g,hg,hj⟩:=h.step i hi;refine ⟨g,?_,hj⟩;have h1:=h.done (i:=i) (by omega);have h2:=h.done (i:=i+1) (by omega);have h3:jN aj left (i+1)++left (i+1)=jN aj left i++g++left (i+1):=by
  rw[←h2,List.append_assoc,←hg];exact h1
 exact List.append_cancel_right h3
theorem wW.dn0 (h:wW aj N pu left sent):jN aj left 0= []:=by
 unfold jN;rw[h.l0];simp
theorem wW.OI (h:wW aj N pu left sent) {i:Nat} (hi:i≤N) (k:Nat):(((left i).headD []).take k).length≤1000:=by
 obtain ⟨d,hd⟩:=h.suffix i hi;rw[List.length_take];cases hl:left i with
 |nil=>simp
 |cons x r=>
  have:=h.len x (by rw[hd,hl];simp);simp only[List.headD_cons];omega
def Kw (left:Nat→List (List UInt8)) (sent:Nat→Nat) (i:Nat) (op:List UInt8) (sm:Bool):Prop:=
 sm=decide (0<sent i)∧(sm=true→op=((left i).headD []).take (sent i))
theorem wW.dlv (h:wW aj N pu left sent) {i:Nat} (hi:i<N) {op:List UInt8} {sm:Bool} (ho:Kw left sent i op sm) {fl:List Fl} {da:List UInt8} (hf:fl=(Bu (pu i)).map Prod.fst) (hd:da=(Bu (pu i)).map Prod.snd):
 ∃g,jN aj left (i+1)=jN aj left i++g∧(nH fl da (ay (pu i)) (ay (pu i)) 1 0 op sm).2.2=g∧
  Kw left sent (i+1) (nH fl da (ay (pu i)) (ay (pu i)) 1 0 op sm).1 (nH fl da (ay (pu i)) (ay (pu i)) 1 0 op sm).2.1:=by
 obtain ⟨g,hg,hj⟩:=h.OH hi;have Uf:=Gl (pu i).s (pu i).e (pu i).ps.length fl da (ay (pu i)) (pu i).ps 0 0 op sm (fun p hp=>(h.each i hi p hp).1) (by omega) (by unfold ay;omega)
  (fun j=>by rw[hf,List.getElem?_map,Nat.zero_add];rfl) (by rw[hd,List.drop_zero];exact zw _ _ _ _ _)
 rw[Nat.sub_zero,Nat.zero_add] at Uf;rw[Uf];obtain ⟨o1,o2⟩:=ho;have hjn:=CK (pu i).s (pu i).e (pu i).ps.length (pu i).ps 0 op (((left i).headD []).take (sent i)) sm (decide (0<sent i)) (h.ne i hi) (by omega)
  (fun p hp=>by have:=(h.each i hi p hp).2;have:=h.OI (Nat.le_of_lt hi) (sent i);omega)
  (by
   rw[h.s i hi];by_cases hz:sent i=0
   ·refine .inl ⟨by simp[hz],by rw[hz];rfl⟩
   ·have hsm:sm=true:=by rw[o1];simp;omega
    exact .inr ⟨by simp[hz],hsm,o2 hsm⟩)
 rw[hjn,hj];exact ⟨g,hg,rfl,rfl,fun _=>rfl⟩
theorem rX {m:Nat→Option Sp} {N:Nat} (hN:N≤511) (hm:∀k,N≤k→m k=none):∀(f sn:Nat),sn≤N→N-sn<f→sn≤jR m f sn∧jR m f sn≤N∧bZ (m (jR m f sn))=false∧∀k,sn≤k→k<jR m f sn→bZ (m k)=true
 |0,sn,_,h=>by omega
 |f+1,sn,h1,h2=>by
  unfold jR;by_cases hc:bZ (m sn)=true
  ·rw[if_pos hc];have hlt:sn<N:=by
    rcases Nat.lt_or_ge sn N with h|h
    ·exact h
    ·rw[hm sn h] at hc;cases hc
   have hu:dN sn=sn+1:=by unfold dN;omega
   rw[hu];obtain ⟨a,b,c,d⟩:=rX hN hm f (sn+1) (by omega) (by omega);refine ⟨by omega,b,c,fun k hk1 hk2=> ?_⟩;by_cases e:k=sn
   ·rw[e];exact hc
   ·exact d k (by omega) hk2
  ·rw[if_neg hc];exact ⟨Nat.le_refl _,h1,by simpa using hc,fun k h3 h4=>by omega⟩
structure jS (x:Ou) (p:Sp):Prop where
 agr:V2 (Bu x) (p.fl,p.da)
 size:(p.size=none∧p.fl.length<ay x)∨(p.size=some (ay x)∧p.fl.length=ay x)
theorem jS.new {x:Ou} (h:1≤ay x):jS x zm:=⟨⟨rfl,Nat.zero_le _,fun i f b hf=>by simp[zm] at hf⟩,.inl ⟨rfl,h⟩⟩
theorem jS.whole {x:Ou} {p:Sp} (h:jS x p) (hc:eT p=true):p.size=some (ay x)∧p.fl=(Bu x).map Prod.fst∧p.da=(Bu x).map Prod.snd:=by
 rcases h.size with ⟨h1,_⟩|⟨h1,h2⟩
 ·unfold eT at hc;rw[h1] at hc;cases hc
 ·unfold eT at hc;rw[h1] at hc;simp only[Bool.and_eq_true,decide_eq_true_eq] at hc;exact ⟨h1,h.agr.whole (by rw[qI];exact hc.2)⟩
theorem jS.fits {x:Ou} {p:Sp} (h:jS x p) {a:iN} (ha:Piece x a):Bt p a=false:=by
 have h1:=ha.le;unfold Bt;rcases h.size with ⟨e,hl⟩|⟨e,hl⟩
 ·rw[e];dsimp only;cases hf:uk a with
  |false=>rfl
  |true=>
   have:=ha.fin.1 hf;simp;omega
 ·rw[e];dsimp only;cases hf:uk a with
  |false=>simpa using h1
  |true=>
   have:=ha.fin.1 hf;simp[this]
theorem um (k:Nat) (l:List Fl):(iw k l).length=max l.length k:=by simp[iw];omega
theorem jS.take {x:Ou} {p:Sp} (h:jS x p) {a:iN} (ha:Piece x a):jS x (dO p a):=by
 have hle:=ha.le;have hal:=h.agr.le;dsimp only at hal;rw[qI] at hal;have hw:=mY (dB a.s a.e a.ps.length 0 a.ps) a.off (iw (jy a) p.fl,nG (jy a) p.da);refine ⟨Ku _ _ _ (V3 h.agr (by rw[qI];exact hle)) ha.eq,?_⟩;have hlen:(dO p a).fl.length=max p.fl.length (jy a):=by
  unfold dO;dsimp only;rw[hw.1];exact um _ _
 rw[hlen];unfold dO;dsimp only;cases hf:uk a with
 |true=>
  have:=ha.fin.1 hf;rw[if_pos rfl,this];exact .inr ⟨rfl,by omega⟩
 |false=>
  have hne:jy a≠ay x:=fun e=>by rw[ha.fin.2 e] at hf;cases hf
  rw[if_neg (by simp)];rcases h.size with ⟨e,hl⟩|⟨e,hl⟩
  ·exact .inl ⟨e,by omega⟩
  ·exact .inr ⟨e,by omega⟩
theorem jS.stays {x:Ou} {p:Sp} (h:jS x p) {a:iN} (ha:Piece x a) (hc:eT p=true):eT (dO p a)=true:=by
 have hle:=ha.le;have h2:=h.take ha;obtain ⟨c1,c2,_⟩:=h.whole hc;have hfl:p.fl.length=ay x:=by rw[c2,List.length_map,qI]
 have hall:kK p.fl=p.fl.length:=by
  unfold eT at hc;rw[c1] at hc;simp only[Bool.and_eq_true,decide_eq_true_eq] at hc;omega
 have hlen:(dO p a).fl.length=max p.fl.length (jy a):=by
  unfold dO;dsimp only;rw[(mY (dB a.s a.e a.ps.length 0 a.ps) a.off (iw (jy a) p.fl,nG (jy a) p.da)).1];exact um _ _
 have hg:kK (dO p a).fl=(dO p a).fl.length:=mZ _ fun i hi=>by
  refine zo _ _ _ i ?_;show (dW (iw (jy a) p.fl) i).1=true
  rw[V4];have hi2:i<p.fl.length:=by omega
  rw[jq (List.getElem?_eq_getElem hi2)];exact zu p.fl hall i _ (List.getElem?_eq_getElem hi2)
 have hpos:1≤ay x:=by
  unfold eT at hc;rw[c1] at hc;simp only[Bool.and_eq_true,decide_eq_true_eq] at hc;exact hc.1
 rcases h2.size with ⟨_,hl⟩|⟨e,hl⟩
 ·omega
 ·unfold eT;rw[e];simp only[Bool.and_eq_true,decide_eq_true_eq];omega
theorem jS.full {x:Ou} {p:Sp} (h:jS x p) {a:iN} (ha:Piece x a) (h0:a.off=0) (hf:uk a=true):eT (dO p a)=true:=by
 have he:=ha.fin.1 hf;have h2:=h.take ha;have hal:=h.agr.le;dsimp only at hal;rw[qI] at hal;have hsum:jy a=au a.ps:=by unfold jy;omega
 have hpos:=ha.pos;have hlen:(dO p a).fl.length=max p.fl.length (jy a):=by
  unfold dO;dsimp only;rw[(mY (dB a.s a.e a.ps.length 0 a.ps) a.off (iw (jy a) p.fl,nG (jy a) p.da)).1];exact um _ _
 have hg:kK (dO p a).fl=(dO p a).fl.length:=mZ _ fun i hi=>by
  refine Kv _ _ _ (zq _ _ _ _ _) ?_ i (by omega) ?_
  ·rw[mF];show a.off+_≤(iw (jy a) p.fl).length
   rw[um];omega
  ·rw[mF];omega
 rcases h2.size with ⟨_,hl⟩|⟨e,hl⟩
 ·omega
 ·unfold eT;rw[e];simp only[Bool.and_eq_true,decide_eq_true_eq];omega
structure Rx (aj:List (List UInt8)) (N:Nat) (pu:Nat→Ou) (left:Nat→List (List UInt8)) (sent:Nat→Nat) (st:Rc):Prop where
 nx:st.next≤N
 m:∀k p,st.m k=some p→st.next≤k∧k<N∧k<st.high∧jS (pu k) p
 op:Kw left sent st.next st.op st.sm
 s1:st.next≤st.status
 s2:st.status≤N
 sc:bZ (st.m st.status)=false
 h1:st.next≤st.high
 h2:st.high≤N
 tr:st.ro=true→st.gu≤st.high
structure uo (aj:List (List UInt8)) (N:Nat) (pu:Nat→Ou) (left:Nat→List (List UInt8)) (sent:Nat→Nat) (st:Rc):Prop extends Rx aj N pu left sent st where
 nc:bZ (st.m st.next)=false
 tn:st.ro=true→st.next<st.gu
def Has (st:Rc) (k:Nat):Prop:=k<st.next∨bZ (st.m k)=true
theorem Rx.none_ {st:Rc} (h:Rx aj N pu left sent st) {k:Nat} (hk:N≤k):st.m k=none:=by
 cases hm:st.m k with
 |none=>rfl
 |some p=>have:=(h.m k p hm).2.1;omega
theorem uo.start (T:wW aj N pu left sent):uo aj N pu left sent lq:=
 {nx:=Nat.zero_le _,m:=fun k p h=>by simp[lq] at h,op:=⟨by simp[lq,T.s0],fun h=>by simp[lq] at h⟩,s1:=Nat.le_refl _,s2:=Nat.zero_le _,sc:=rfl,h1:=Nat.le_refl _,h2:=Nat.zero_le _,tr:=fun h=>by simp[lq] at h,nc:=rfl,tn:=fun h=>by simp[lq] at h}
theorem Rx.uq (T:wW aj N pu left sent):∀(f:Nat) {st:Rc},Rx aj N pu left sent st→N-st.next<f→
 Rx aj N pu left sent (bR f st).1∧bZ ((bR f st).1.m (bR f st).1.next)=false∧(∃g,(bR f st).2=g∧jN aj left (bR f st).1.next=jN aj left st.next++g)∧
 (∀k,Has st k→Has (bR f st).1 k)∧(bR f st).1.ro=st.ro∧(bR f st).1.gu=st.gu∧(bR f st).1.high=st.high∧(bR f st).1.status=st.status∧(bR f st).1.due=st.due∧(bR f st).1.qH=st.qH∧(bR f st).1.now=st.now
 |0,st,_,hf=>by omega
 |f+1,st,h,hf=>by
  unfold bR;cases hm:st.m st.next with
  |none=>exact ⟨h,by rw[hm];rfl,⟨[],rfl,by simp⟩,fun k hk=>hk,rfl,rfl,rfl,rfl,rfl,rfl,rfl⟩
  |some p=>
   dsimp only;by_cases hc:eT p=true
   ·rw[if_pos hc];have hN:=T.n;obtain ⟨_,hlt,hhi,Jv⟩:=h.m _ p hm;obtain ⟨e1,e2,e3⟩:=Jv.whole hc;obtain ⟨g,hg,hg2,hg3⟩:=T.dlv hlt h.op e2 e3;have hsz:wG p=ay (pu st.next):=by unfold wG;rw[e1];rfl
    have hup:dN st.next=st.next+1:=by unfold dN;omega
    have hns:st.next≠st.status:=fun e=>by
     have:=h.sc;rw[←e,hm] at this;have h2:bZ (some p)=eT p:=rfl;rw[h2,hc] at this;cases this
    have hs1:=h.s1;have h1:Rx aj N pu left sent (wV st p):=by
     refine ⟨by show dN st.next≤N;omega,fun k q hk=> ?_,?_,by show dN st.next≤st.status;omega,h.s2,?_,by show dN st.next≤st.high;omega,h.h2,h.tr⟩
     ·have hk2:(if k=st.next then none else st.m k)=some q:=hk;split at hk2
      ·cases hk2
      ·obtain ⟨a,b,c,d⟩:=h.m k q hk2;refine ⟨?_,b,c,d⟩;show dN st.next≤k
       omega
     ·show Kw left sent (dN st.next) (vH st p).1 (vH st p).2.1
      unfold vH;rw[hsz,hup];exact hg3
     ·show bZ (eZ st.m st.next none st.status)=false
      unfold eZ;rw[if_neg (fun e=>hns e.symm)];exact h.sc
    obtain ⟨i1,i2,⟨g',i3,i4⟩,i5,i6,i7,i8,i9,ia,ib,ic⟩:=Rx.uq T f h1 (by show N-dN st.next<f;omega);refine ⟨i1,i2,⟨_,rfl,?_⟩,fun k hk=>i5 k ?_,i6,i7,i8,i9,ia,ib,ic⟩
    ·rw[i4,i3];have:(vH st p).2.2=g:=by unfold vH;rw[hsz];exact hg2
     rw[this];show jN aj left (dN st.next)++g'=_
     rw[hup,hg,List.append_assoc]
    ·rcases hk with hk|hk
     ·exact .inl (by show k<dN st.next;omega)
     ·by_cases e:k=st.next
      ·exact .inl (by show k<dN st.next;omega)
      ·refine .inr ?_;show bZ (eZ st.m st.next none k)=true
       unfold eZ;rw[if_neg e];exact hk
   ·rw[if_neg hc];refine ⟨h,?_,⟨[],rfl,by simp⟩,fun k hk=>hk,rfl,rfl,rfl,rfl,rfl,rfl,rfl⟩;rw[hm];simpa[bZ] using hc
theorem uo.goes (T:wW aj N pu left sent) {st:Rc} (h:uo aj N pu left sent st) (c:Cf) (now:Int):uo aj N pu left sent (fQ c st now)∧(fQ c st now).next=st.next∧(fQ c st now).m=st.m:=by
 have hc:uo aj N pu left sent (gB st now):=⟨⟨h.nx,h.m,h.op,h.s1,h.s2,h.sc,h.h1,h.h2,h.tr⟩,h.nc,h.tn⟩;unfold fQ;split
 ·exact ⟨hc,rfl,rfl⟩
 ·rename_i hn;have hro:(gB st now).ro=true:=by
   cases hh:st.ro with
   |true=>exact hh
   |false=>exact absurd (.inl hh) hn
  have hN:=T.n;have ht:=hc.tn hro;have ht2:=hc.tr hro;have Cc:=hc.h2;obtain ⟨a,b,d,_⟩:=rX (m:=(gB st now).m) hN (fun k hk=>hc.none_ hk) 1024 (gB st now).gu (by omega) (by omega);have h2:uo aj N pu left sent {gB st now with status:=jR (gB st now).m 1024 (gB st now).gu,due:=true,ro:=false}:=
   ⟨⟨hc.nx,hc.m,hc.op,by dsimp only;omega,b,d,hc.h1,hc.h2,fun e=>by cases e⟩,hc.nc,fun e=>by cases e⟩
  unfold rW;dsimp only;split
  ·exact ⟨⟨⟨h2.nx,h2.m,h2.op,h2.s1,h2.s2,h2.sc,h2.h1,h2.h2,fun _=>Nat.le_refl _⟩,h2.nc,fun _=>Nat.lt_of_lt_of_le ht ht2⟩,rfl,rfl⟩
  ·exact ⟨h2,rfl,rfl⟩
theorem uo.ends {st:Rc} (h:Rx aj N pu left sent st) (hN:N≤511) (hnc:bZ (st.m st.next)=false) (c:Cf):uo aj N pu left sent (zn c st)∧(zn c st).next=st.next∧(zn c st).m=st.m:=by
 have hnx:=h.nx;have hh:=h.h2;have MG:=h.h1;have key:∀s1:Rc,Rx aj N pu left sent s1→s1.m=st.m→s1.next=st.next→s1.high=st.high→(s1.ro=true→s1.next<s1.gu)→
  uo aj N pu left sent (if s1.ro=false∧s1.high≠s1.next then o8 c s1 else s1)∧(if s1.ro=false∧s1.high≠s1.next then o8 c s1 else s1).next=st.next∧(if s1.ro=false∧s1.high≠s1.next then o8 c s1 else s1).m=st.m:=by
  intro s1 hs hm hn hg ht;split
  ·rename_i hc;refine ⟨⟨⟨hs.nx,hs.m,hs.op,hs.s1,hs.s2,hs.sc,hs.h1,hs.h2,fun _=>Nat.le_refl _⟩,?_,fun _=> ?_⟩,hn,hm⟩
   ·show bZ (s1.m s1.next)=false
    rw[hm,hn];exact hnc
   ·show s1.next<s1.high
    have:=hs.h1;have:=hc.2;omega
  ·exact ⟨⟨hs,by rw[hm,hn];exact hnc,ht⟩,hn,hm⟩
 unfold zn;dsimp only;split
 ·exact key _ ⟨h.nx,h.m,h.op,h.s1,h.s2,h.sc,h.h1,h.h2,fun e=>by cases e⟩ rfl rfl rfl (fun e=>by cases e)
 ·rename_i hc;refine key st h rfl rfl rfl fun hr=> ?_
  have ht:=h.tr hr;unfold bD at hc;omega
theorem uo.J3 (T:wW aj N pu left sent) {st:Rc} (h:uo aj N pu left sent st) (c:Cf) {k:Nat} (hk:k<N) {a:iN} (ha:Piece (pu k) a):
 uo aj N pu left sent (ul c st a).1∧(ul c st a).2.2=0∧(∃g,(ul c st a).2.1=g∧jN aj left (ul c st a).1.next=jN aj left st.next++g)∧(∀j,Has st j→Has (ul c st a).1 j)∧(a.off=0→uk a=true→Has (ul c st a).1 k):=by
 have hN:=T.n;have hsn:a.sn=k:=by rw[ha.sn,T.sn k hk]
 have hnx:=h.nx;unfold ul;rw[hsn];by_cases hw:512≤bD st k
 ·rw[if_pos hw];refine ⟨⟨⟨h.nx,h.m,h.op,h.s1,h.s2,h.sc,h.h1,h.h2,h.tr⟩,h.nc,h.tn⟩,rfl,⟨[],rfl,by simp⟩,fun j hj=>hj,fun _ _=> .inl ?_⟩;show k<st.next
  unfold bD at hw;omega
 ·rw[if_neg hw];have hkn:st.next≤k:=by unfold bD at hw;omega
  have Jv:jS (pu k) (fE st k):=by
   unfold fE;cases hm:st.m k with
   |none=>exact jS.new (T.size_pos hk)
   |some p=>exact (h.m k p hm).2.2.2
  rw[Jv.fits ha,if_neg (by simp)];have htk:=Jv.take ha;have hhi:(if bD st st.high≤bD st k then dN k else st.high)=max st.high (k+1):=by
   have:=h.h1;have:=h.h2;unfold bD dN;split<;>omega
  have hhas:∀j,bZ (st.m j)=true→bZ (eZ st.m k (some (dO (fE st k) a)) j)=true:=by
   intro j hj;unfold eZ;split
   ·rename_i e;subst e;cases hm:st.m j with
    |none=>rw[hm] at hj;cases hj
    |some p=>
     rw[hm] at hj;have e2:fE st j=p:=by unfold fE;rw[hm];rfl
     rw[e2] at Jv ⊢;exact Jv.stays ha hj
   ·exact hj
  have hs0:∀(j:Nat) (q:Sp),eZ st.m k (some (dO (fE st k) a)) j=some q→st.next≤j∧j<N∧j<max st.high (k+1)∧jS (pu j) q:=by
   intro j q hj;unfold eZ at hj;split at hj
   ·rename_i e;cases hj;subst e;exact ⟨hkn,hk,by omega,htk⟩
   ·obtain ⟨p1,p2,p3,p4⟩:=h.m j q hj;exact ⟨p1,p2,by omega,p4⟩
  have hnone:∀j,N≤j→eZ st.m k (some (dO (fE st k) a)) j=none:=fun j hj=>by
   cases hm:eZ st.m k (some (dO (fE st k) a)) j with
   |none=>rfl
   |some q=>have:=(hs0 j q hm).2.1;omega
  have hs1:=h.s1;have hs2:=h.s2;have MG:=h.h1;have Cc:=h.h2;obtain ⟨f1,f2,f3,_⟩:=rX hN hnone 1024 st.status hs2 (by omega);have hst:kL st a (fE st k)= {st with m:=eZ st.m k (some (dO (fE st k) a)),due:=st.due||a.po,high:=max st.high (k+1),status:=jR (eZ st.m k (some (dO (fE st k) a))) 1024 st.status}:=by
   unfold kL;dsimp only;rw[hsn];have:(if bD {st with m:=eZ st.m k (some (dO (fE st k) a)),due:=st.due||a.po} st.high≤bD {st with m:=eZ st.m k (some (dO (fE st k) a)),due:=st.due||a.po} k then dN k else st.high)=max st.high (k+1):=hhi;rw[this]
  have hR:Rx aj N pu left sent (kL st a (fE st k)):=by
   rw[hst];exact ⟨h.nx,hs0,h.op,by dsimp only;omega,f2,f3,by dsimp only;omega,by dsimp only;omega,fun e=>Nat.le_trans (h.tr e) (by dsimp only;omega)⟩
  have hnx2:(kL st a (fE st k)).next=st.next:=by rw[hst]
  obtain ⟨d1,d2,⟨g,d3,d4⟩,d5,_⟩:=hR.uq T 1024 (by rw[hnx2];omega);obtain ⟨e1,e2,e3⟩:=uo.ends d1 hN d2 c;dsimp only;have hH:∀j,Has (bR 1024 (kL st a (fE st k))).1 j→Has (zn c (bR 1024 (kL st a (fE st k))).1) j:=fun j hj=>by
   unfold Has;rw[e2,e3];exact hj
  refine ⟨e1,rfl,⟨g,d3,by rw[e2,d4,hnx2]⟩,fun j hj=>hH j (d5 j ?_),fun h0 hf=>hH k (d5 k (.inr ?_))⟩
  ·rcases hj with hj|hj
   ·exact .inl (by rw[hnx2];exact hj)
   ·refine .inr ?_;rw[hst];exact hhas j hj
  ·rw[hst];show bZ (eZ st.m k _ k)=true
   unfold eZ;rw[if_pos rfl];exact Jv.full ha h0 hf
theorem uo.all {st:Rc} (h:uo aj N pu left sent st) (ha:∀k,k<N→Has st k):st.next=N∧st.status=N:=by
 have h1:=h.nx;have hn:st.next=N:=by
  rcases Nat.lt_or_ge st.next N with hlt|hge
  ·rcases ha st.next hlt with e|e
   ·omega
   ·rw[h.nc] at e;cases e
  ·omega
 have:=h.s1;have:=h.s2;exact ⟨hn,by omega⟩
end
end
section
def OJ (a b:Nk):Prop:=a.sn<b.sn∨(a.sn=b.sn∧a.part=true∧b.part=true∧a.lt<b.fr)
structure Ef (aI:Nat) (n:Nk):Prop where
 s0:0≤n.sn
 s1:n.sn<aI
 p:n.part=true→0≤n.fr∧n.fr≤n.lt∧n.lt≤32767
 q:n.part=false→n.fr=0∧n.lt=0
theorem Ef.more {a b:Nat} {n:Nk} (h:Ef a n) (hab:a≤b):Ef b n:=⟨h.s0,by have:=h.s1;omega,h.p,h.q⟩
theorem OL {aI:Nat} (ha:aI≤512):∀l:List Nk,(∀n∈l,Ef aI n)→l.Pairwise OJ→oN aI l=true:=by
 have hal:∀n,Ef aI n→iE aI n=true:=fun n h=>by
  have h0:=h.s0;have h1:=h.s1;unfold iE jl;simp only[Bool.and_eq_true,decide_eq_true_eq];refine ⟨⟨h0,by omega⟩,⟨by omega,by omega⟩,?_⟩;cases hp:n.part with
  |true=>
   obtain ⟨a,b,c⟩:=h.p hp;simp[a,b,c]
  |false=>
   obtain ⟨a,b⟩:=h.q hp;simp[a,b]
 intro l
 induction l with
 |nil=>intro _ _;rfl
 |cons a r ih=>
  intro hk hp;cases r with
  |nil=>exact hal a (hk a (by simp))
  |cons b t=>
   rw[List.pairwise_cons] at hp;have h1:=hk a (by simp);have h2:=hk b (by simp);have hab:=hp.1 b (by simp);have hih:=ih (fun n hn=>hk n (by simp[hn])) hp.2;have hf:lX aI a b=true:=by
    have:=h1.s0;have:=h1.s1;have:=h2.s0;have:=h2.s1;unfold lX jl;rcases hab with h|⟨e1,e2,e3,e4⟩
    ·have:(aI-b.sn)%1024<((aI:Int)-a.sn)%1024:=by omega
     simp[this]
    ·simp[e1,e2,e3,e4]
   rw[oN,hal a h1,hf,hih];rfl
theorem OM {aI:Nat} {l:List Nk} (ha:aI≤512) (hl:l.length≤512) (h1:∀n∈l,Ef aI n) (h2:l.Pairwise OJ):bU aI l=true:=by
 unfold bU;rw[OL ha l h1 h2];simp;omega
theorem rY:∀(l:List Fl) (i fr:Nat),fr≤i→(∀r∈dD l i fr,fr≤r.1∧r.1≤r.2∧r.2<i+l.length)∧(dD l i fr).Pairwise (fun a b=>a.2<b.1)
 | [],i,fr,h=>by
  unfold dD;split
  ·refine ⟨fun r hr=> ?_,by simp⟩;simp at hr;subst hr;dsimp only[List.length_nil];omega
  ·exact ⟨fun r hr=>by simp at hr,by simp⟩
 |f::t,i,fr,h=>by
  unfold dD;split
  ·obtain ⟨a,b⟩:=rY t (i+1) fr (by omega);refine ⟨fun r hr=> ?_,b⟩;have:=a r hr;rw[List.length_cons];omega
  ·obtain ⟨a,b⟩:=rY t (i+1) (i+1) (by omega);split
   ·refine ⟨fun r hr=> ?_,?_⟩
    ·simp only[List.mem_cons] at hr;rw[List.length_cons];rcases hr with rfl|hr
     ·dsimp only;omega
     ·have:=a r hr;omega
    ·rw[List.pairwise_cons];refine ⟨fun r hr=> ?_,b⟩;have:=a r hr;dsimp only;omega
   ·refine ⟨fun r hr=> ?_,b⟩;have:=a r hr;rw[List.length_cons];omega
theorem rZ:∀(l:List Fl) (i fr:Nat),(fr<i∨∃(j:Nat) (f:Fl),l[j]? =some f∧f.1=false)→fr≤i→dD l i fr≠ []
 | [],i,fr,h,hf=>by
  unfold dD;rcases h with h|⟨j,f,hj,_⟩
  ·rw[if_pos h];simp
  ·simp at hj
 |g::t,i,fr,h,hf=>by
  unfold dD;split
  ·exact rZ t (i+1) fr (.inl (by omega)) (by omega)
  ·rename_i hg;split
   ·simp
   ·refine rZ t (i+1) (i+1) ?_ (Nat.le_refl _);rcases h with h|⟨j,f,hj,hff⟩
    ·omega
    ·cases j with
     |zero=>simp at hj;subst hj;exact absurd hff hg
     |succ j=>exact .inr ⟨j,f,by simpa using hj,hff⟩
theorem RX {l:List Fl} (h:kK l≠l.length):∃(j:Nat) (f:Fl),l[j]? =some f∧f.1=false:=by
 refine Classical.byContradiction fun hn=>h (mZ l fun i hi=> ?_)
 rw[jq (List.getElem?_eq_getElem hi)];cases hf:l[i].1 with
 |true=>rfl
 |false=>exact absurd ⟨i,l[i],List.getElem?_eq_getElem hi,hf⟩ hn
def Jw (size:Nat) (n:Nk):Prop:=(fC n).1≤min (fC n).2 (size-1)
theorem LD {k:Nat} {l:List Fl} (h:k≤l.length):iw k l=l:=by
 unfold iw;rw[show k-l.length=0 by omega];simp
theorem LF {x:Ou} {sn:Nat} {o:Option Sp} (hpos:1≤ay x) (hsz:ay x≤32767) (ho:∀p,o=some p→jS x p) (hc:bZ o=false):
 (∀n∈iX sn o,n.sn=sn∧Ef (sn+1) n)∧(iX sn o).Pairwise OJ∧∃n∈iX sn o,Jw (ay x) n:=by
 cases o with
 |none=>
  refine ⟨fun n hn=> ?_,by simp[iX],⟨sn,false,0,0⟩,by simp[iX],by simp[Jw,fC]⟩;simp only[iX,List.mem_singleton] at hn;subst hn;exact ⟨rfl,by dsimp only;omega,by dsimp only;omega,(fun h=>by cases h),fun _=>⟨rfl,rfl⟩⟩
 |some p=>
  have hs:=ho p rfl;obtain ⟨g1,g2⟩:=rY p.fl 0 0 (Nat.le_refl _);have hlen:p.fl.length≤ay x:=by rcases hs.size with ⟨_,h⟩|⟨_,h⟩<;>omega
  have m1:∀n∈(dD p.fl 0 0).map (dP sn),n.sn=sn∧Ef (sn+1) n∧n.part=true∧n.lt<p.fl.length:=fun n hn=>by
   rw[List.mem_map] at hn;obtain ⟨r,hr,rfl⟩:=hn;obtain ⟨a,b,c⟩:=g1 r hr;refine ⟨rfl,⟨by simp only[dP];omega,by simp only[dP];omega,fun _=> ?_,fun h=>by cases h⟩,rfl,by simp only[dP];omega⟩;simp only[dP];omega
  have m2:((dD p.fl 0 0).map (dP sn)).Pairwise OJ:=by
   rw[List.pairwise_map];refine g2.imp fun {a b} hab=> .inr ⟨rfl,rfl,rfl,?_⟩
   simp only[dP];omega
  rcases hs.size with ⟨e,hl⟩|⟨e,hl⟩
  ·have hE:iX sn (some p)=(dD p.fl 0 0).map (dP sn)++ [⟨sn,true,p.fl.length,32767⟩]:=by simp only[iX,e]
   rw[hE];refine ⟨fun n hn=> ?_,?_,⟨sn,true,p.fl.length,32767⟩,by simp,?_⟩
   ·rw[List.mem_append] at hn;rcases hn with hn|hn
    ·exact ⟨(m1 n hn).1,(m1 n hn).2.1⟩
    ·simp only[List.mem_singleton] at hn;subst hn;refine ⟨rfl,by dsimp only;omega,by dsimp only;omega,fun _=> ?_,fun h=>by cases h⟩;dsimp only;omega
   ·rw[List.pairwise_append];refine ⟨m2,by simp,fun a ha b hb=> ?_⟩;simp only[List.mem_singleton] at hb;subst hb;obtain ⟨q1,_,q3,q4⟩:=m1 a ha;exact .inr ⟨q1,q3,rfl,q4⟩
   ·simp only[Jw,fC,if_true];omega
  ·have hE:iX sn (some p)=(dD (iw (ay x) p.fl) 0 0).map (dP sn):=by simp only[iX,e]
   rw[hE,LD (by omega)];refine ⟨fun n hn=>⟨(m1 n hn).1,(m1 n hn).2.1⟩,m2,?_⟩;have hc2:eT p=false:=hc;unfold eT at hc2;rw[e] at hc2;dsimp only at hc2;have hne:kK p.fl≠p.fl.length:=fun h=>by
    rw[decide_eq_true (show 0<ay x by omega),decide_eq_true (show kK p.fl=ay x by omega)] at hc2;cases hc2
   have hex:=rZ p.fl 0 0 (.inr (RX hne)) (Nat.le_refl _);obtain ⟨r,hr⟩:=List.exists_mem_of_ne_nil _ hex;obtain ⟨a,b,c⟩:=g1 r hr;refine ⟨dP sn r,List.mem_map.2 ⟨r,hr,rfl⟩,?_⟩;simp only[Jw,fC,dP,if_true];omega
theorem Gm (l:List (Nat × Nat)) (x:Nat × Nat):fM l x≠ []:=by
 unfold fM;split
 ·simp
 ·split<;>simp
theorem CO (size:Nat):∀(l:List Nk) (a:List (Nat × Nat)),a≠ []→l.foldl (eX size) a≠ []
 | [],a,h=>h
 |n::r,a,h=>by
  rw[List.foldl_cons];refine CO size r _ ?_;unfold eX;split
  ·exact h
  ·exact Gm _ _
theorem CQ (size:Nat):∀(l:List Nk) (a:List (Nat × Nat)),(∃n∈l,Jw size n)→l.foldl (eX size) a≠ []
 | [],_,h=>by obtain ⟨n,hn,_⟩:=h;simp at hn
 |m::r,a,h=>by
  rw[List.foldl_cons];obtain ⟨n,hn,ha⟩:=h;rcases List.mem_cons.1 hn with rfl|hn
  ·refine CO size r _ ?_;unfold eX Jw at*;rw[if_neg (by omega)];exact Gm _ _
  ·exact CQ size r _ ⟨n,hn,ha⟩
section
variable {aj:List (List UInt8)} {N:Nat} {pu:Nat→Ou} {left:Nat→List (List UInt8)} {sent:Nat→Nat}
structure CU (N:Nat) (pu:Nat→Ou) (st:Rc) (aI:Nat) (l:List Nk):Prop where
 len:l.length≤512
 ok:∀n∈l,Ef aI n
 pw:l.Pairwise OJ
 cov:∀k,k<aI→Has st k∨∃n∈l,n.sn=(k:Int)∧Jw (ay (pu k)) n
theorem vJ (T:wW aj N pu left sent) {st:Rc} (h:uo aj N pu left sent st):∀(f sn:Nat) (l:List Nk),st.next≤sn→sn≤st.status→st.status-sn<f→CU N pu st sn l→
 sn≤(o9 st f sn l).1∧(o9 st f sn l).1≤st.status∧CU N pu st (o9 st f sn l).1 (o9 st f sn l).2
 |0,sn,l,_,_,hf,_=>by omega
 |f+1,sn,l,h1,h2,hf,hl=>by
  unfold o9;by_cases he:sn=st.status
  ·rw[if_pos he];exact ⟨by omega,Nat.le_refl _,he ▸ hl⟩
  ·rw[if_neg he];have hN:=T.n;have hs2:=h.s2;have hup:dN sn=sn+1:=by unfold dN;omega
   have hlt:sn<N:=by omega
   by_cases hc:bZ (st.m sn)=true
   ·rw[if_pos hc,hup];obtain ⟨a,b,c⟩:=vJ T h f (sn+1) l (by omega) (by omega) (by omega) ⟨hl.len,fun n hn=>(hl.ok n hn).more (by omega),hl.pw,fun k hk=>by
     by_cases e:k=sn
     ·exact .inl (.inr (by rw[e];exact hc))
     ·exact hl.cov k (by omega)⟩
    exact ⟨by omega,b,c⟩
   ·rw[if_neg hc];split
    ·exact ⟨Nat.le_refl _,by dsimp only;omega,hl⟩
    ·rename_i hroom;obtain ⟨e1,e2,e3⟩:=LF (x:=pu sn) (sn:=sn) (o:=st.m sn) (T.size_pos hlt) (T.tot sn hlt) (fun p hp=>(h.m sn p hp).2.2.2) (by simpa using hc);rw[hup];obtain ⟨a,b,c⟩:=vJ T h f (sn+1) (l++iX sn (st.m sn)) (by omega) (by omega) (by omega) ⟨by rw[List.length_append];omega,fun n hn=>by
      rcases List.mem_append.1 hn with hn|hn
      ·exact (hl.ok n hn).more (by omega)
      ·exact (e1 n hn).2,by
      rw[List.pairwise_append];refine ⟨hl.pw,e2,fun x hx y hy=> .inl ?_⟩;have:=(hl.ok x hx).s1;have:=(e1 y hy).1;omega,fun k hk=>by
      by_cases e:k=sn
      ·subst e;obtain ⟨n,hn,ha⟩:=e3;exact .inr ⟨n,List.mem_append.2 (.inr hn),(e1 n hn).1,ha⟩
      ·rcases hl.cov k (by omega) with hh|⟨n,hn,ha⟩
       ·exact .inl hh
       ·exact .inr ⟨n,List.mem_append.2 (.inl hn),ha⟩⟩
     exact ⟨by omega,b,c⟩
theorem uo.report (T:wW aj N pu left sent) {st:Rc} (h:uo aj N pu left sent st):st.next≤(iO st).1∧(iO st).1≤st.status∧CU N pu st (iO st).1 (iO st).2:=by
 have hN:=T.n;have h1:=h.s1;have h2:=h.s2;exact vJ T h 1024 st.next [] (Nat.le_refl _) h1 (by omega) ⟨by simp,by simp,by simp,fun k hk=> .inl (.inl hk)⟩
theorem CU.truth {st:Rc} {aI:Nat} {l:List Nk} (h:CU N pu st aI l) {k:Nat} (hk:k<aI) (hsn:(pu k).sn=k) (hm:bK l (pu k)= []):Has st k:=by
 rcases h.cov k hk with hh|⟨n,hn,e,ha⟩
 ·exact hh
 ·exfalso;refine CQ (ay (pu k)) (l.filter (fun n=>decide (n.sn=((pu k).sn:Int)))) [] ⟨n,?_,ha⟩ hm;rw[List.mem_filter];refine ⟨hn,?_⟩;rw[hsn];simpa using e
end
end
section
theorem LG (H:List Bool) (q:Nat) (hq:H.length=q) (l:List (List UInt8)) (x:List UInt8) (hv:oJ (l++ [x])):
 gT (pack (H++(lb (l.map List.length)++ []))++(l.flatten++x)) (decide (0<l.length)) q= .inr (l++ [x]):=by
 subst hq;obtain ⟨hl63,hsh'⟩:=IP hv;have hx:1≤x.length:=hv.pos x (by simp);have hsh:∀n∈l.map List.length,1≤n∧n≤2047:=by
  intro n hn;rw[List.mem_map] at hn;obtain ⟨p,hp,rfl⟩:=hn;exact hsh' p hp
 have hsum:au l+x.length≤32767:=by have:=hv.sum;simpa[au] using this
 have rl:=tF [] (l.flatten++x) (l.map List.length) H 64 [] hsh (by simp;omega) (by simpa using hl63);have UO:=wO (H++(lb (l.map List.length)++ [])) (l.flatten++x);have hlen:(H++(lb (l.map List.length)++ [])).length=H.length+12*l.length:=by simp[Cg]
 rw[hlen] at UO;have hdrop:(pack (H++(lb (l.map List.length)++ []))++(l.flatten++x)).drop ((H.length+12*l.length+kT (H.length+12*l.length))/8)=l.flatten++x:=by
  rw[List.drop_left' (by rw[jh,hlen];unfold aV kT;omega)]
 generalize pack (H++(lb (l.map List.length)++ []))++(l.flatten++x)=b at*;have hlr:oI b (decide (0<l.length)) H.length= .inr (l.map List.length,H.length+12*l.length+kT (H.length+12*l.length)):=by
  unfold oI;rw[List.length_map] at rl;rw[rl];simp only[jc,List.nil_append];rw[UO,AF,if_pos rfl]
 unfold gT;rw[hlr];simp only;rw[hdrop];unfold jB;have h1:(l.flatten++x).length=au l+x.length:=by rw[List.length_append,iy]
 have h2:(l.map List.length).sum=au l:=rfl;rw[h1,h2,if_neg (by omega),if_neg (by omega),tH]
theorem RY (sn:Nat) (po sg la:Bool) (off:Nat) (s e:Bool) (n:Nat):jG sn po sg la off s e n=
 bitsOf 1 1++(bitsOf sg.toNat 1++(bitsOf po.toNat 1++(bitsOf (!s).toNat 1++(bitsOf (!e).toNat 1++(bitsOf (decide (1<n)).toNat 1++(bitsOf sn 10++(if sg then bitsOf la.toNat 1++bitsOf off 15 else []))))))):=by
 cases sg<;>simp[jG,aB,gZ,jF,lF]
theorem LH (a b c d e f sn:Nat) (T:List Bool) (D:List UInt8) (bs:List UInt8) (hbs:bs=pack (bitsOf a 1++(bitsOf b 1++(bitsOf c 1++(bitsOf d 1++(bitsOf e 1++(bitsOf f 1++(bitsOf sn 10++T)))))))++D):
 aG bs 0 1=bitsOf a 1∧aG bs 1 1=bitsOf b 1∧aG bs 2 1=bitsOf c 1∧aG bs 3 1=bitsOf d 1∧aG bs 4 1=bitsOf e 1∧aG bs 5 1=bitsOf f 1∧aG bs 6 10=bitsOf sn 10:=by
 subst hbs;refine ⟨?_,?_,?_,?_,?_,?_,?_⟩
 ·exact fO [] (bitsOf a 1) _ D 0 1 (by simp) (by simp)
 ·exact fO (bitsOf a 1) (bitsOf b 1) _ D 1 1 (by simp) (by simp)
 ·have:=fO (bitsOf a 1++bitsOf b 1) (bitsOf c 1) (bitsOf d 1++(bitsOf e 1++(bitsOf f 1++(bitsOf sn 10++T)))) D 2 1 (by simp) (by simp);simpa only[List.append_assoc] using this
 ·have:=fO (bitsOf a 1++bitsOf b 1++bitsOf c 1) (bitsOf d 1) (bitsOf e 1++(bitsOf f 1++(bitsOf sn 10++T))) D 3 1 (by simp) (by simp);simpa only[List.append_assoc] using this
 ·have:=fO (bitsOf a 1++bitsOf b 1++bitsOf c 1++bitsOf d 1) (bitsOf e 1) (bitsOf f 1++(bitsOf sn 10++T)) D 4 1 (by simp) (by simp);simpa only[List.append_assoc] using this
 ·have:=fO (bitsOf a 1++bitsOf b 1++bitsOf c 1++bitsOf d 1++bitsOf e 1) (bitsOf f 1) (bitsOf sn 10++T) D 5 1 (by simp) (by simp);simpa only[List.append_assoc] using this
 ·have:=fO (bitsOf a 1++bitsOf b 1++bitsOf c 1++bitsOf d 1++bitsOf e 1++bitsOf f 1) (bitsOf sn 10) T D 6 10 (by simp) (by simp);simpa only[List.append_assoc] using this
theorem Jy (H:List Bool) (hH:H.length=16) (la off:Nat) (T:List Bool) (D:List UInt8) (bs:List UInt8) (hbs:bs=pack (H++(bitsOf la 1++(bitsOf off 15++T)))++D):
 aG bs 16 1=bitsOf la 1∧aG bs 17 15=bitsOf off 15:=by
 subst hbs;refine ⟨fO H (bitsOf la 1) _ D 16 1 hH (by simp),?_⟩;have:=fO (H++bitsOf la 1) (bitsOf off 15) T D 17 15 (by simp[hH]) (by simp);simpa only[List.append_assoc] using this
theorem toNat_one (b:Bool):decide (b.toNat=1)=b:=by cases b<;>rfl
theorem toNat_not (b:Bool):decide ((!b).toNat=0)=b:=by cases b<;>rfl
theorem qJ (sn:Nat) (po sg la:Bool) (off:Nat) (s e:Bool) (ps:List (List UInt8)):(nC sn po sg la off s e ps).length=aV ((if sg then 32 else 16)+12*(ps.length-1))+au ps:=by
 unfold nC;rw[List.length_append,jh,List.length_append,nA,lU,iy]
theorem Gn (sn:Nat) (po sg la:Bool) (off:Nat) (s e:Bool) (ps:List (List UInt8)) (hv:eP sn sg la off ps=true):
 oZ (nC sn po sg la off s e ps)= .inr ⟨sn,po,sg,la,off,s,e,ps⟩:=by
 have hva:=(iF _ _ _ _ _).1 hv;have hvp:=(fK ps).1 hva.vp;have hsn:sn<1024:=by have:=hva.sn1;omega
 have hlen:=qJ sn po sg la off s e ps;obtain ⟨l,x,rfl⟩:=IK hvp.lo;have he:nC sn po sg la off s e (l++ [x])=pack (jG sn po sg la off s e (l.length+1)++(lb (l.map List.length)++ []))++(l.flatten++x):=by
  unfold nC;rw[IJ];simp
 have hch:=LG (jG sn po sg la off s e (l.length+1)) (if sg then 32 else 16) (nA _ _ _ _ _ _ _ _) l x hvp;rw[←he] at hch;rw[RY] at he;generalize nC sn po sg la off s e (l++ [x])=bs at*;obtain ⟨f0,f1,f2,f3,f4,f5,f6⟩:=LH 1 sg.toNat po.toNat (!s).toNat (!e).toNat (decide (1<l.length+1)).toNat sn ((if sg then bitsOf la.toNat 1++bitsOf off 15 else [])++(lb (l.map List.length)++ [])) (l.flatten++x) bs (by rw[he];simp only[List.append_assoc]);have hmore:decide ((decide (1<l.length+1)).toNat=1)=decide (0<l.length):=by rw[toNat_one];simp
 have hn2:2≤bs.length:=by rw[hlen];unfold aV;split<;>omega
 unfold oZ;rw[if_neg (by omega),f0,f1,f2,f3,f4,f5,f6,qT,qT,qT,qT,qT,jd 1 1 (by omega),jd 10 sn (by omega),if_neg (by simp),hmore];cases sg with
 |true=>
  obtain ⟨g0,g1⟩:=Jy (bitsOf 1 1++(bitsOf true.toNat 1++(bitsOf po.toNat 1++(bitsOf (!s).toNat 1++(bitsOf (!e).toNat 1++(bitsOf (decide (1<l.length+1)).toNat 1++bitsOf sn 10)))))) (by simp) la.toNat off (lb (l.map List.length)++ []) (l.flatten++x) bs (by rw[he];simp only[List.append_assoc,if_true]);have hoff:off<32768:=by have:=hva.seg rfl;omega
  have hn4:4≤bs.length:=by rw[hlen];unfold aV;simp;omega
  simp only[if_true] at hch;rw[if_pos (by rfl),if_neg (by omega),hch,g0,g1,qT,jd 15 off (by omega)];simp only[toNat_one,toNat_not];rw[if_pos hv]
 |false=>
  obtain ⟨rfl,h0⟩:=hva.whole rfl;obtain rfl:off=0:=by omega
  simp only[Bool.false_eq_true,if_false] at hch;rw[if_neg (by simp),hch];simp only[toNat_one,toNat_not];rw[if_pos hv]
theorem Jz {bs:List UInt8} {m:Bool} {q er:Nat} (h:oI bs m q= .inl er):er≠0:=by
 unfold oI jc at h;split at h
 ·rename_i er' hr;cases h;exact tJ bs _ _ _ _ _ hr
 ·split at h
  ·cases h
  ·cases h;omega
theorem uw {bs:List UInt8} {m:Bool} {q er:Nat} (h:gT bs m q= .inl er):er≠0:=by
 unfold gT at h;split at h
 ·rename_i er' hl;cases h;exact Jz hl
 ·unfold jB at h;split at h
  ·cases h;omega
  ·split at h
   ·cases h;omega
   ·cases h
theorem OO (bs:List UInt8) (er:Nat) (h:oZ bs= .inl er):er≠0:=by
 unfold oZ at h;split at h
 ·cases h;omega
 split at h
 ·cases h;omega
 split at h
 ·split at h
  ·cases h;omega
  ·split at h
   ·rename_i hc;cases h;exact uw hc
   ·split at h
    ·cases h
    ·cases h;omega
 ·split at h
  ·rename_i hc;cases h;exact uw hc
  ·split at h
   ·cases h
   ·cases h;omega
end
end Go.Proofs.YtiecgfahidpldaaGreat
