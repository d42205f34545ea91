/- amrecv: storing bytes; delivering a whol. -/
import Derived.Test.YtbhiklnljiehiaaGreatM1ak
import Derived.Test.YtbhiklnljiehiaaGreatM1al
import Derived.Test.YtbhiklnljiehiaaGreatM1am
import Derived.Test.YtbhiklnljiehiaaGreatM1an
namespace Go.Proofs.YtbhiklnljiehiaaGreat
section
structure Xn (F:List (Fl × UInt8)) (x:List Fl × List UInt8):Prop where
 ll:x.2.length=x.1.length
 le:x.1.length≤F.length
 eq:∀(i:Nat) (f:Fl) (b:UInt8),x.1[i]? =some f→x.2[i]? =some b→f.1=true→F[i]? =some (f,b)
theorem jS {l:List Fl} {i:Nat} {f:Fl} (h:l[i]? =some f):eP l i=f:=by unfold eP;rw[h];rfl
theorem nT:∀(l:List (Fl × UInt8)) (a:Nat) (x:List Fl × List UInt8),(zC l a x).1.length=x.1.length∧(zC l a x).2.length=x.2.length
 | [],_,_=>⟨rfl,rfl⟩
 |(f,b)::r,a,x=>by
  unfold zC;have h:=nT r (a+1) (if (eP x.1 a).1=true then x else (x.1.set a f,x.2.set a b));rw[h.1,h.2];split<;>simp
theorem Fw:∀(l m:List (Fl × UInt8)) (a:Nat) (x:List Fl × List UInt8),zC (l++m) a x=zC m (a+l.length) (zC l a x)
 | [],_,_,_=>rfl
 |(f,b)::r,m,a,x=>by
  rw[List.cons_append,zC,zC,Fw r m,List.length_cons,show a+1+r.length=a+(r.length+1) by omega]
theorem LK {F:List (Fl × UInt8)}:∀(l:List (Fl × UInt8)) (a:Nat) (x:List Fl × List UInt8),Xn F x→(∀(j:Nat) z,l[j]? =some z→F[a+j]? =some z)→Xn F (zC l a x)
 | [],_,_,h,_=>h
 |(f,b)::r,a,x,h,hl=>by
  unfold zC;refine LK r (a+1) _ ?_ (fun j z hj=>by have:=hl (j+1) z (by simpa using hj);rwa [show a+(j+1)=a+1+j by omega] at this);split
  ·exact h
  ·refine ⟨by simpa using h.ll,by simpa using h.le,fun i g c hg hc ht=> ?_⟩;dsimp only at hg hc;rw[List.getElem?_set] at hg hc;by_cases hi:a=i
   ·subst hi;have h0:=hl 0 (f,b) rfl;rw[Nat.add_zero] at h0;rw[if_pos rfl] at hg hc;split at hg
    ·split at hc
     ·cases hg;cases hc;exact h0
     ·cases hc
    ·cases hg
   ·rw[if_neg hi] at hg hc;exact h.eq i g c hg hc ht
theorem Bo:∀(l:List (Fl × UInt8)) (a:Nat) (x:List Fl × List UInt8) (i:Nat),(eP x.1 i).1=true→(eP (zC l a x).1 i).1=true
 | [],_,_,_,h=>h
 |(f,b)::r,a,x,i,h=>by
  unfold zC;refine Bo r (a+1) _ i ?_;split
  ·exact h
  ·rename_i hn;have hi:a≠i:=fun e=>hn (by rw[e];exact h)
   unfold eP at h ⊢;dsimp only;rw[List.getElem?_set_ne hi];exact h
theorem LM:∀(l:List (Fl × UInt8)) (a:Nat) (x:List Fl × List UInt8),(∀z∈l,z.1.1=true)→a+l.length≤x.1.length→∀i,a≤i→i<a+l.length→(eP (zC l a x).1 i).1=true
 | [],a,_,_,_,i,h1,h2=>by simp at h2;omega
 |(f,b)::r,a,x,hz,hle,i,h1,h2=>by
  unfold zC;simp only[List.length_cons] at hle h2;by_cases hi:i=a
  ·subst hi;refine Bo r (i+1) _ i ?_;split
   ·assumption
   ·unfold eP;dsimp only;rw[List.getElem?_set_self (by omega)];exact hz (f,b) (by simp)
  ·refine LM r (a+1) _ (fun z hm=>hz z (by simp[hm])) ?_ i (by omega) (by omega);split
   ·omega
   ·simp;omega
theorem Xo {F:List (Fl × UInt8)} {p:Sp} {k:Nat} (h:Xn F (p.fl,p.da)) (hk:k≤F.length):Xn F (iP k p.fl,oF k p.da):=by
 have h1:=h.ll;have h2:=h.le;dsimp only at h1 h2;refine ⟨by simp[iP,oF,h1],by simp[iP];omega,fun i f b hf hb ht=> ?_⟩;simp only[iP,oF] at hf hb;rw[List.getElem?_append] at hf hb;rw[h1] at hb;split at hf
 ·rename_i hlt;rw[if_pos hlt] at hb;exact h.eq i f b hf hb ht
 ·rw[List.getElem?_replicate] at hf;split at hf
  ·cases hf;simp[Vr] at ht
  ·cases hf
theorem Xp (k:Nat) (l:List Fl) (i:Nat):(eP (iP k l) i).1=(eP l i).1:=by
 unfold eP iP;rw[List.getElem?_append];split
 ·rfl
 ·rename_i hn;rw[List.getElem?_eq_none (by omega:l.length≤i),List.getElem?_replicate];split<;>rfl
theorem eO (p:List UInt8) (a b:Bool):(jO p a b).length=p.length:=by simp[jO]
theorem o8 (p:List UInt8) (a b:Bool) (j:Nat):(jO p a b)[j]? =p[j]?.map (fun x=>((true,decide (j=0)&&a,decide (j+1=p.length)&&b),x)):=by simp[jO]
theorem mY (s e:Bool) (n:Nat):∀(i:Nat) (ps:List (List UInt8)),(dN s e n i ps).length=aj ps
 |_,[]=>rfl
 |i,p::r=>by
  rw[dN,List.length_append,eO,mY s e n (i+1) r];simp[aj]
theorem Bp (s e:Bool) (n:Nat):∀(i:Nat) (ps:List (List UInt8)),∀z∈dN s e n i ps,z.1.1=true
 |_,[],z,h=>by simp[dN] at h
 |i,p::r,z,h=>by
  rw[dN,List.mem_append] at h;rcases h with h|h
  ·obtain ⟨j,hj⟩:=List.mem_iff_getElem?.1 h;rw[o8] at hj;cases hp:p[j]? with
   |none=>rw[hp] at hj;cases hj
   |some x=>rw[hp] at hj;cases hj;rfl
  ·exact Bp s e n (i+1) r z h
theorem xW (f:Fl) (l:List Fl):lJ (f::l)=f.1.toNat+lJ l:=by simp[lJ]
theorem sG:∀l:List Fl,lJ l≤l.length
 | []=>by simp[lJ]
 |f::l=>by
  have:=sG l;rw[xW,List.length_cons];cases f.1<;>simp<;>omega
theorem Bq:∀l:List Fl,lJ l=l.length→∀(i:Nat) (f:Fl),l[i]? =some f→f.1=true
 | [],_,i,f,h=>by simp at h
 |g::l,hl,i,f,h=>by
  have:=sG l;rw[xW,List.length_cons] at hl;have hg:g.1=true:=by
   cases hh:g.1 with
   |true=>rfl
   |false=>rw[hh] at hl;simp at hl;omega
  cases i with
  |zero=>simp at h;rw[←h];exact hg
  |succ i=>
   rw[hg] at hl;exact Bq l (by simp at hl;omega) i f (by simpa using h)
theorem nU:∀l:List Fl,(∀i,i<l.length→(eP l i).1=true)→lJ l=l.length
 | [],_=>rfl
 |g::l,h=>by
  have h0:=h 0 (by simp);have h1:g.1=true:=by simpa[eP] using h0
  rw[xW,List.length_cons,h1,nU l (fun i hi=>by have:=h (i+1) (by simp;omega);simpa[eP] using this)];simp;omega
theorem Xn.whole {F:List (Fl × UInt8)} {x:List Fl × List UInt8} (h:Xn F x) (hg:lJ x.1=F.length):x.1=F.map Prod.fst∧x.2=F.map Prod.snd:=by
 have h1:=sG x.1;have h2:=h.le;have h3:=h.ll;have hlen:x.1.length=F.length:=by omega
 have hall:=Bq x.1 (by omega);have key:∀i,i<F.length→x.1[i]? =F[i]?.map Prod.fst∧x.2[i]? =F[i]?.map Prod.snd:=fun i hi=>by
  have e1:x.1[i]? =some x.1[i]:=List.getElem?_eq_getElem (by omega);have e2:x.2[i]? =some x.2[i]:=List.getElem?_eq_getElem (by omega);have:=h.eq i _ _ e1 e2 (hall i _ e1);rw[this,e1,e2];exact ⟨rfl,rfl⟩
 constructor
 ·apply List.ext_getElem?;intro i;rw[List.getElem?_map];by_cases hi:i<F.length
  ·exact (key i hi).1
  ·rw[List.getElem?_eq_none (by omega),List.getElem?_eq_none (by omega)];rfl
 ·apply List.ext_getElem?;intro i;rw[List.getElem?_map];by_cases hi:i<F.length
  ·exact (key i hi).2
  ·rw[List.getElem?_eq_none (by omega),List.getElem?_eq_none (by omega)];rfl
def Ed (s e:Bool) (n:Nat):Nat→List (List UInt8)→List UInt8→Bool→List UInt8 × Bool × List (List UInt8)
 |_,[],op,sm=>(op,sm,[])
 |i,p::r,op,sm=>
  let y:=qK p (decide (0<i)||s) (decide (i+1<n)||e) op sm
  let z:=Ed s e n (i+1) r y.1 y.2.1
  (z.1,z.2.1,y.2.2++z.2.2)
theorem Br (s e:Bool) (n:Nat):∀(i:Nat) (ps:List (List UInt8)),(dN s e n i ps).map Prod.snd=ps.flatten
 |_,[]=>rfl
 |i,p::r=>by
  rw[dN,List.map_append,Br s e n (i+1) r,List.flatten_cons]
  congr 1
  apply List.ext_getElem?;intro j;rw[List.getElem?_map,o8];cases p[j]? <;>rfl
theorem H7 (fl:List Fl) (da:List UInt8) (n fr:Nat) (op:List UInt8) (sm:Bool):∀(d k i:Nat),(∀j,j<d→i+j<n∧(eP fl (i+j)).2.1=false)→oG fl da n (k+d) i fr op sm=oG fl da n k (i+d) fr op sm
 |0,_,_,_=>rfl
 |d+1,k,i,h=>by
  have h0:=h 0 (by omega);rw[Nat.add_zero] at h0;rw[←Nat.add_assoc,oG,if_pos h0,H7 fl da n fr op sm d k (i+1) (fun j hj=>by have:=h (j+1) (by omega);rwa [show i+(j+1)=i+1+j by omega] at this)];rw[show i+1+d=i+(d+1) by omega]
theorem H8 (s e:Bool) (n:Nat) (fl:List Fl) (da:List UInt8) (N:Nat):∀(r:List (List UInt8)) (i o:Nat) (op:List UInt8) (sm:Bool),(∀p∈r,1≤p.length)→i+r.length=n→o+aj r=N→
 (∀j,fl[o+j]? =(dN s e n i r)[j]?.map Prod.fst)→da.drop o=r.flatten→oG fl da N (N-o) (o+1) o op sm=Ed s e n i r op sm
 | [],i,o,op,sm,_,_,hN,_,_=>by
  have:N-o=0:=by simp[aj] at hN;omega
  rw[this];rfl
 |p::r,i,o,op,sm,hp,hi,hN,hf,hd=>by
  have hp1:=hp p (by simp);have hsum:aj (p::r)=p.length+aj r:=by simp[aj]
  rw[hsum] at hN;have hfl:∀j,j<p.length→fl[o+j]? =some (true,decide (j=0)&&(decide (0<i)||s),decide (j+1=p.length)&&(decide (i+1<n)||e)):=fun j hj=>by
   rw[hf j,dN,List.getElem?_append_left (by rw[eO];exact hj),o8,List.getElem?_eq_getElem hj];rfl
  have hnext:∀j,fl[o+p.length+j]? =(dN s e n (i+1) r)[j]?.map Prod.fst:=fun j=>by
   rw[Nat.add_assoc,hf (p.length+j),dN,List.getElem?_append_right (by rw[eO];omega),eO,Nat.add_sub_cancel_left]
  have hda:da.drop (o+p.length)=r.flatten:=by
   rw[←List.drop_drop,hd,List.flatten_cons,List.drop_left]
  have yL:=H7 fl da N o op sm (p.length-1) (N-o-(p.length-1)) (o+1) (fun j hj=>by
   refine ⟨by omega,?_⟩;rw[show o+1+j=o+(j+1) by omega,jS (hfl (j+1) (by omega))];simp)
  rw[show N-o-(p.length-1)+(p.length-1)=N-o by omega,show o+1+(p.length-1)=o+p.length by omega] at yL;rw[yL];rw[show N-o-(p.length-1)=(N-(o+p.length))+1 by omega,oG];have hcond:¬(o+p.length<N∧(eP fl (o+p.length)).2.1=false):=by
   rintro ⟨h1,h2⟩;cases r with
   |nil=>simp[aj] at hN;omega
   |cons q t=>
    have hq:=hp q (by simp);have:=hnext 0;rw[Nat.add_zero,dN,List.getElem?_append_left (by rw[eO];omega),o8,List.getElem?_eq_getElem (show 0<q.length by omega)] at this;rw[jS this] at h2;simp at h2
  rw[if_neg hcond];have hb:(da.take (o+p.length)).drop o=p:=by
   rw[List.drop_take,Nat.add_sub_cancel_left,hd,List.flatten_cons,List.take_left]
  have afV:(eP fl o).2.1=(decide (0<i)||s):=by
   have:=hfl 0 hp1;rw[Nat.add_zero] at this;rw[jS this];simp
  have hlast:(decide (o+p.length<N)||(eP fl (o+p.length-1)).2.2)=(decide (i+1<n)||e):=by
   have:=hfl (p.length-1) (by omega);rw[show o+(p.length-1)=o+p.length-1 by omega] at this;rw[jS this];cases r with
   |nil=>
    have h1:aj ([]:List (List UInt8))=0:=rfl;rw[h1] at hN;rw[show decide (o+p.length<N)=false by simp;omega];rw[show decide (p.length-1+1=p.length)=true by simp;omega];simp
   |cons q t=>
    have hq:=hp q (by simp);have h1:aj (q::t)=q.length+aj t:=by simp[aj]
    rw[h1] at hN;simp only[List.length_cons] at hi;rw[show decide (o+p.length<N)=true by simp;omega,show decide (i+1<n)=true by simp;omega];rfl
  rw[hb,afV,hlast,Ed];dsimp only;rw[H8 s e n fl da N r (i+1) (o+p.length) _ _ (fun q hq=>hp q (by simp[hq])) (by simp only[List.length_cons] at hi;omega) (by omega) hnext hda]
theorem Ee (s e:Bool) (n:Nat):∀(r:List (List UInt8)) (i:Nat) (op b0:List UInt8) (sm sm0:Bool),r≠ []→i+r.length=n→(∀p∈r,b0.length+p.length≤9000)→
 (((decide (0<i)||s)=true∧b0= [])∨((decide (0<i)||s)=false∧sm=true∧op=b0))→
 Ed s e n i r op sm=((lF b0 sm0 r e).2.1,(lF b0 sm0 r e).2.2,(lF b0 sm0 r e).1)
 | [],_,_,_,_,_,h,_,_,_=>absurd rfl h
 |p::r,i,op,b0,sm,sm0,_,hi,hl,hc=>by
  have hpl:=hl p (by simp);have hpart:∀last,qK p (decide (0<i)||s) last op sm=if last=true then ([],false,[b0++p]) else (b0++p,true,[]):=fun last=>by
   have hle:(b0++p).length≤9000:=by rw[List.length_append];exact hpl
   have he:(if (decide (0<i)||s)=true then [] else op)=b0:=by
    rcases hc with ⟨h1,h2⟩|⟨h1,_,h3⟩
    ·rw[if_pos h1,h2]
    ·rw[h1,if_neg (by simp),h3]
   have hn:¬((decide (0<i)||s)=false∧sm=false):=by
    rcases hc with ⟨h1,_⟩|⟨_,h2,_⟩
    ·rw[h1];simp
    ·rw[h2];simp
   unfold qK;rw[if_neg hn,he];dsimp only;cases last with
   |true=>rw[if_neg (by simp),if_pos hle,if_pos rfl]
   |false=>rw[if_pos ⟨hle,rfl⟩,if_neg (by simp)]
  rw[Ed,hpart];cases r with
  |nil=>
   simp only[List.length_cons,List.length_nil] at hi;rw[show decide (i+1<n)=false by simp;omega,Bool.false_or];cases e<;>simp[Ed,lF]
  |cons q t=>
   simp only[List.length_cons] at hi;rw[show decide (i+1<n)=true by simp;omega,Bool.true_or,if_pos rfl];dsimp only;rw[Ee s e n (q::t) (i+1) [] [] false false (by simp) (by simp only[List.length_cons];omega) (fun x hx=>by have:=hl x (by simp at hx ⊢;right;exact hx);simp;omega) (.inl ⟨by simp,rfl⟩)];simp[lF]
end
section
open Go.RowKit Go.Maps
theorem zG:Tryz.prog.underlying 128=some (.map 3 161):=by kernel_rfl
theorem vZ:Tryz.prog.underlying 3=some (.int .i64):=by kernel_rfl
theorem Ke (w:World):(zeroValue 161).run Tryz.prog w= .ok (.pointer none) w:=by kernel_rfl
section
variable {P:Program} {t k e:TypeId} {w w':World} {b n:Nat} {F:Nat→Option Value}
theorem jk.aa2 (h:jk P k w b n F) (hk:P.underlying k=some (.int .i64)) (ht:P.underlying t=some (.map k e)) {z:Value} (hz:(zeroValue e).run P w= .ok z w) {j:Nat} (hj:j≤9223372036854775807):
 (Instr.lookup t (.map (some b)) (.int .i64 j) false).run P w= .ok ((F j).getD z) w:=by
 obtain ⟨D,h1,_,h2⟩:=h;obtain ⟨v,ps,hr,hv⟩:=h1.lookup (zd:= .held z) (zp:= []) (int_keyed hk) ht hz rfl (keyOf_int_mk hk (Fy hj));obtain ⟨e1,e2⟩:=h2 j hj;rw[hr];simp only[Px,Option.some.injEq,Prod.mk.injEq] at hv;cases hF:F j with
 |none=>
  rw[hF] at e1;have:=Maps.atKey_of_not_has (by simpa using e1) (.held z);rw[this] at hv;cases hv.1;rfl
 |some u=>
  rw[e2 u hF] at hv;cases hv.1;rfl
end
def xg (l:List Fl):List Value:=l.flatMap (fun f=> [.bool f.1,.bool f.2.1,.bool f.2.2])
theorem mZ (f:Fl) (l:List Fl):xg (f::l)= .bool f.1:: .bool f.2.1:: .bool f.2.2::xg l:=by simp[xg]
theorem Kg (l:List Fl):(xg l).length=l.length*3:=by
 induction l with
 |nil=>rfl
 |cons r t ih=>
  rw[mZ];simp only[List.length_cons,ih];omega
theorem Tw (a b:List Fl):xg (a++b)=xg a++xg b:=by simp[xg]
theorem zH:∀(l:List Fl) (j:Nat) (f:Fl),l[j]? =some f→(xg l)[j*3]? =some (.bool f.1)∧(xg l)[j*3+1]? =some (.bool f.2.1)∧(xg l)[j*3+2]? =some (.bool f.2.2)
 | [],j,r,h=>by simp at h
 |x::t,0,r,h=>by
  simp at h;subst h;rw[mZ];exact ⟨rfl,rfl,rfl⟩
 |x::t,j+1,r,h=>by
  have ih:=zH t j r (by simpa using h);rw[mZ,show (j+1)*3=j*3+1+1+1 by omega];exact ih
theorem LP:∀(l:List Fl) (j:Nat) (f:Fl),j<l.length→(((xg l).set (j*3) (.bool f.1)).set (j*3+1) (.bool f.2.1)).set (j*3+2) (.bool f.2.2)=xg (l.set j f)
 | [],j,f,h=>by simp at h
 |x::t,0,f,_=>by
  rw[mZ];show _=xg (f::t)
  rw[mZ];rfl
 |x::t,j+1,f,h=>by
  have ih:=LP t j f (by simpa using h);rw[mZ,List.set_cons_succ,mZ,←ih,show (j+1)*3=j*3+1+1+1 by omega];rfl
structure nH (w:World) (A:Option Addr) (n c:Nat) (l:List Fl):Prop where
 len:l.length=n
 cap:n≤c
 mx:c≤9223372036854775807
 at_:0<n→∃g o,A=some ⟨g,o,none⟩∧g<w.heap.size∧∀j f,l[j]? =some f→w.cell? ⟨g,o+j*3,none⟩=some (.bool f.1)∧w.cell? ⟨g,o+j*3+1,none⟩=some (.bool f.2.1)∧w.cell? ⟨g,o+j*3+2,none⟩=some (.bool f.2.2)
section
variable {w w':World} {A:Option Addr} {n c:Nat} {l:List Fl}
theorem nH.below (h:nH w A n c l) (hb:Below w.heap.size w w'):nH w' A n c l:=
 ⟨h.len,h.cap,h.mx,fun hn=>by
  obtain ⟨g,o,e,hg,hc⟩:=h.at_ hn;refine ⟨g,o,e,Nat.lt_of_lt_of_le hg hb.size,fun j f hj=> ?_⟩;obtain ⟨a,b,d⟩:=hc j f hj;exact ⟨(hb.cell (p:=⟨g,_,none⟩) hg).trans a,(hb.cell (p:=⟨g,_,none⟩) hg).trans b,(hb.cell (p:=⟨g,_,none⟩) hg).trans d⟩⟩
theorem nH.dH {base:Nat} {v:Value} (h:w.ownsRow base 174 3 v l.length (xg l)):∃A c,v= .slice A l.length c∧nH w A l.length c l:=by
 rcases h.2 with ⟨rfl,hn⟩|⟨g,cap,cur,rfl,hb,hg,hnc,hcm,hcs,ht⟩
 ·have:=List.eq_nil_of_length_eq_zero hn;subst this;exact ⟨none,0,rfl,rfl,Nat.zero_le _,by omega,fun h=>absurd h (by simp)⟩
 ·refine ⟨_,_,rfl,⟨rfl,hnc,by unfold maxLen at hcm;omega,fun _=>⟨g,0,rfl,lt_of_heap hg,fun j f hj=> ?_⟩⟩⟩;have hc:=fun j u (hu:(xg l)[j]? =some u)=>h.cells (g:=g) rfl j u hu
  obtain ⟨g1,g2,g3⟩:=zH l j f hj;have k1:=hc _ _ g1;have k2:=hc _ _ g2;have k3:=hc _ _ g3;rw[Addr.add_lit] at k1 k2 k3;rw[Nat.zero_add] at k1 k2 k3;rw[Nat.zero_add];exact ⟨k1,k2,k3⟩
theorem nH.drop {g o k:Nat} (h:nH w (some ⟨g,o,none⟩) n c l) (hk:k<n):nH w (some ⟨g,o+k*3,none⟩) (n-k) (c-k) (l.drop k):=by
 have hl:=h.len;have hc:=h.cap;have hm:=h.mx;refine ⟨by rw[List.length_drop];omega,by omega,by omega,fun _=> ?_⟩;obtain ⟨g',o',e,hb,hcl⟩:=h.at_ (by omega);cases e;refine ⟨g,_,rfl,hb,fun j f hj=> ?_⟩;rw[List.getElem?_drop] at hj;have:=hcl _ f hj
 rwa [show o+(k+j)*3=o+k*3+j*3 by omega] at this
end
def dA (p:Sp):Int:=match p.size with
 |none=> -1
 |some k=>(k:Int)
structure qw (w:World) (b:Nat) (p:Sp) (vf vd:Value):Prop where
 blk:au w b 165 #[vf,vd,.int .i64 (dA p)]
 fr:w.ownsRow 0 174 3 vf p.fl.length (xg p.fl)
 dr:w.ownsRow 0 5 1 vd p.da.length (bQ p.da)
structure zo (p:Sp):Prop where
 ll:p.da.length=p.fl.length
 le:p.fl.length≤32767
 sz:∀k,p.size=some k→k≤32767
theorem zo.i {p:Sp} (h:zo p): -1≤dA p∧dA p≤32767:=by
 unfold dA;cases hs:p.size with
 |none=>simp
 |some k=>
  have:=h.sz k hs;dsimp only;omega
def MV (c:Cf) (M:Nat) (vo:Value) (st:Rc):Array Value:=
 #[.int .i64 c.Ls,.int .i64 c.byte,.int .i64 c.timer,.int .i64 c.reorder,.int .i64 c.iE,.int .i64 c.dW,.int .i64 c.cap,.map (some M),.int .i64 (st.next:Nat),.int .i64 (st.status:Nat),.int .i64 (st.high:Nat),.bool st.ro,.int .i64 (st.iO:Nat),.int .i64 st.exp,.bool st.due,.int .i64 st.Bd,.int .i64 st.now,vo,.bool st.sm]
structure iC (w:World) (T:Nat→Nat) (g M n:Nat) (c:Cf) (st:Rc) (vo:Value):Prop where
 blk:au w g 130 (MV c M vo st)
 tg:T g=1
 tM:T M=2
 lt:∀k,T k≠0→k<w.heap.size
 uz:w.ownsRow 0 5 1 vo st.op.length (bQ st.op)
 od:∀k,vo.ownBlock=some k→T k=3
 mp:∃F,jk Tryz.prog 3 w M n F∧∀k,(st.m k=none→F k=none)∧∀p,st.m k=some p→∃b vf vd,F k=some (.pointer (some ⟨b,0,none⟩))∧qw w b p vf vd∧T b=3*k+4∧(∀j,vf.ownBlock=some j→T j=3*k+5)∧(∀j,vd.ownBlock=some j→T j=3*k+6)
def MT (T:Nat→Nat) (k:Nat) (_:Obj):Prop:=T k≠0
structure eF (st:Rc):Prop where
 n1:st.next≤1023
 n2:st.status≤1023
 n3:st.high≤1023
 n4:st.iO≤1023
 m:∀k p,st.m k=some p→k≤1023∧bO st k<512∧zo p
 op:st.op.length≤9000
 t1:0≤st.now
 t2:st.now≤9223372036854775807
section
variable {w w':World} {T:Nat→Nat} {g M n:Nat} {c:Cf} {st:Rc} {vo:Value}
theorem bT {base size m:Nat} {e:TypeId} {v:Value} {xs:List Value} (h:w.ownsRow base e size v m xs) (hk:∀k,v.ownBlock=some k→w'.heap[k]? =w.heap[k]?):w'.ownsRow base e size v m xs:=by
 rcases h.2 with ⟨rfl,h0⟩|⟨g',cap,cur,rfl,h1,h2,h3⟩
 ·exact ⟨h.1,.inl ⟨rfl,h0⟩⟩
 ·exact ⟨h.1,.inr ⟨g',cap,cur,rfl,h1,(hk g' rfl).trans h2,h3⟩⟩
theorem qw.stay {b:Nat} {p:Sp} {vf vd:Value} (h:qw w b p vf vd) (h0:w'.heap[b]? =w.heap[b]?) (h1:∀k,vf.ownBlock=some k→w'.heap[k]? =w.heap[k]?) (h2:∀k,vd.ownBlock=some k→w'.heap[k]? =w.heap[k]?):qw w' b p vf vd:=
 ⟨h0.trans h.blk,bT h.fr h1,bT h.dr h2⟩
theorem iC.stay (h:iC w T g M n c st vo) (hk:∀k,T k≠0→w'.heap[k]? =w.heap[k]?):iC w' T g M n c st vo:=by
 obtain ⟨F,h1,h2⟩:=h.mp;refine ⟨(hk g (by rw[h.tg];omega)).trans h.blk,h.tg,h.tM,fun k hf=> ?_,bT h.uz fun k e=>hk k (by rw[h.od k e];omega),h.od,F,h1.same (hk M (by rw[h.tM];omega)),fun k=>⟨(h2 k).1,fun p hp=> ?_⟩⟩
 ·have h3:=h.lt k hf;have h4:=hk k hf;rw[Array.getElem?_eq_getElem h3] at h4;exact lt_of_heap h4
 ·obtain ⟨b,vf,vd,e,hs,t1,t2,t3⟩:=(h2 k).2 p hp;exact ⟨b,vf,vd,e,hs.stay (hk b (by omega)) (fun j hj=>hk j (by rw[t2 j hj];omega)) (fun j hj=>hk j (by rw[t3 j hj];omega)),t1,t2,t3⟩
theorem iC.below (h:iC w T g M n c st vo) (hb:Below w.heap.size w w'):iC w' T g M n c st vo:=h.stay fun k hk=>hb.block k (h.lt k hk)
theorem iC.drew (h:iC w T g M n c st vo):iC w.drew T g M n c st vo:=h.below (Below.refl _ w).drew
theorem iC.drewN (h:iC w T g M n c st vo) (k:Nat):iC (w.drewN k) T g M n c st vo:=h.below ((Below.refl _ w).drewN k)
theorem iC.alloc (h:iC w T g M n c st vo) (o:Obj):iC (w.alloc o) T g M n c st vo:=h.below ((Below.refl _ w).alloc (aN) o)
theorem iC.far {Q:Nat→Obj→Prop} (h:iC w T g M n c st vo) (hk:Kept Q w w') (hm:∀k o,Q k o→T k=0):iC w' T g M n c st vo:=
 h.stay fun k hf=>by
  have h1:=h.lt k hf;have h2:w.heap[k]? =some w.heap[k]:=Array.getElem?_eq_getElem h1;rw[h2];exact hk.same k _ h2 fun hM=>hf (hm k _ hM)
theorem iC.put (h:iC w T g M n c st vo) (i:Nat) (u:Value) {st':Rc} (he:(MV c M vo st).setIfInBounds i u=MV c M vo st') (hm:st'.m=st.m) (ho:st'.op=st.op):iC (w.setCell ⟨g,i,none⟩ u) T g M n c st' vo:=by
 have hk:∀k,T k≠1→(w.setCell ⟨g,i,none⟩ u).heap[k]? =w.heap[k]? :=fun k hk=>Below.heap_setCell w ⟨g,i,none⟩ u k (fun e=>by have e2:k=g:=e;rw[e2] at hk;exact hk h.tg)
 obtain ⟨F,h1,h2⟩:=h.mp;refine ⟨?_,h.tg,h.tM,fun k hf=>by simpa[World.setCell] using h.lt k hf,?_,h.od,F,h1.same (hk M (by rw[h.tM];omega)),fun k=>⟨by rw[hm];exact (h2 k).1,fun p hp=> ?_⟩⟩
 ·have:=h.blk.av i u;rw[he] at this;exact this
 ·rw[ho];exact bT h.uz fun k e=>hk k (by rw[h.od k e];omega)
 ·rw[hm] at hp;obtain ⟨b,vf,vd,e,hs,t1,t2,t3⟩:=(h2 k).2 p hp;exact ⟨b,vf,vd,e,hs.stay (hk b (by omega)) (fun j hj=>hk j (by rw[t2 j hj];omega)) (fun j hj=>hk j (by rw[t3 j hj];omega)),t1,t2,t3⟩
theorem iC.cell (h:iC w T g M n c st vo) (i:Nat):w.cell? ⟨g,i,none⟩=(MV c M vo st)[i]? :=h.blk.cell i
theorem iC.cells (h:iC w T g M n c st vo):w.cell? ⟨g,3,none⟩=some (.int .i64 c.reorder)∧w.cell? ⟨g,4,none⟩=some (.int .i64 c.iE)∧w.cell? ⟨g,7,none⟩=some (.map (some M))∧w.cell? ⟨g,8,none⟩=some (.int .i64 (st.next:Nat))∧w.cell? ⟨g,9,none⟩=some (.int .i64 (st.status:Nat))∧w.cell? ⟨g,10,none⟩=some (.int .i64 (st.high:Nat))∧
 w.cell? ⟨g,11,none⟩=some (.bool st.ro)∧w.cell? ⟨g,12,none⟩=some (.int .i64 (st.iO:Nat))∧w.cell? ⟨g,13,none⟩=some (.int .i64 st.exp)∧w.cell? ⟨g,14,none⟩=some (.bool st.due)∧w.cell? ⟨g,15,none⟩=some (.int .i64 st.Bd)∧w.cell? ⟨g,16,none⟩=some (.int .i64 st.now)∧w.cell? ⟨g,17,none⟩=some vo∧w.cell? ⟨g,18,none⟩=some (.bool st.sm):=
 ⟨h.blk.cell 3,h.blk.cell 4,h.blk.cell 7,h.blk.cell 8,h.blk.cell 9,h.blk.cell 10,h.blk.cell 11,h.blk.cell 12,h.blk.cell 13,h.blk.cell 14,h.blk.cell 15,h.blk.cell 16,h.blk.cell 17,h.blk.cell 18⟩
end
end
section
open Go.RowKit Go.Shelf
attribute [local go_sem] Oper.semAt_some
theorem rF (n:Int):bits .and .i64 n 1023=n%1024:=by
 have h127:(BitVec.ofInt 64 1023).toNat=2 ^ 10-1:=by decide
 have key:(BitVec.ofInt 64 n&&& BitVec.ofInt 64 1023).toNat=(n%((2 ^ 64:Nat):Int)).toNat%2 ^ 10:=by
  rw[BitVec.toNat_and,BitVec.toNat_ofInt,h127,Nat.and_two_pow_sub_one_eq_mod]
 show IntKind.i64.wrap ((BitVec.ofInt 64 n&&& BitVec.ofInt 64 1023).toNat:Nat)=n%1024
 rw[key,IntKind.wrap_i64];omega
section
variable {w w':World} {T:Nat→Nat} {g M n:Nat} {c:Cf} {st:Rc} {vo:Value}
set_option maxRecDepth 100000 in
theorem o9 (h:iC w T g M n c st vo):Calls Tryz.prog 79 #[.pointer (some ⟨g,0,none⟩)] w fun e w'=>e= .returned (.bool false)∧w=w':=by
 have x7:=h.cells.2.2.1;have q:∀(w:World) (r:Option Nat),(binOp .eql 128 (.map r) (.map none)).run Tryz.prog w= .ok (.bool r.isNone) w:=fun w r=>run_eql_map_nil w _ _ _ r zG
 clear h;go_enter Tryz.func79,Tryz.ntmps79;go_wp2;go_ret;exact ⟨rfl,rfl⟩
theorem yM (w:World) (next sn:Nat) (h:w.cell? ⟨g,8,none⟩=some (.int .i64 (next:Nat))) (hn:next≤1023) (hs:sn≤1023):
 Calls Tryz.prog 97 #[.pointer (some ⟨g,0,none⟩),.int .i64 sn] w fun e w'=>e= .returned (.int .i64 ((sn+1024-next)%1024:Nat))∧w=w':=by
 have hand:bits BinOp.and IntKind.i64 ((sn:Int)-next) 1023=(((sn+1024-next)%1024:Nat):Int):=by rw[rF];omega
 go_enter Tryz.func97,Tryz.ntmps97;go_wp2;go_ret;exact ⟨rfl,rfl⟩
theorem Bt (h:iC w T g M n c st vo) (ho:eF st) (sn:Nat) (hs:sn≤1023):
 Calls Tryz.prog 97 #[.pointer (some ⟨g,0,none⟩),.int .i64 sn] w fun e w'=>e= .returned (.int .i64 (bO st sn:Nat))∧w=w':=
 yM w st.next sn h.cells.2.2.2.1 ho.n1 hs
theorem qx (er:Int) (w:World):Calls Tryz.prog 96 #[.bool true,.int .i64 er] w fun e w'=>e= .returned (.tuple #[])∧w=w':=by
 go_enter Tryz.func96,Tryz.ntmps96;go_wp2
 go_end0
 exact ⟨rfl,rfl⟩
abbrev Fz (er:Int):Ending:= .panicked [{v:= .iface 53 (.int .i64 er),recovered:=false}]
theorem nV (er:Int) (w:World):Calls Tryz.prog 96 #[.bool false,.int .i64 er] w fun e w'=>e=Fz er∧w=w':=by
 unfold Fz;go_enter Tryz.func96,Tryz.ntmps96;go_wp2;exact ⟨rfl,rfl,rfl⟩
end
section
variable {w:World} {A:Option Addr} {n c:Nat} {l:List Fl}
theorem Bu (h:nH w A n c l) (at_:Nat) (hat:at_≤100000) (which:Nat) (hw:which<3):
 Calls Tryz.prog 156 #[.slice A n c,.int .i64 at_,.int .i64 which] w fun e w'=>e= .returned (.bool (if which=0 then (eP l at_).1 else if which=1 then (eP l at_).2.1 else (eP l at_).2.2))∧w=w':=by
 have hcap:=h.cap;have hmx:=h.mx;have hlen:=h.len;by_cases hlt:at_<n
 ·obtain ⟨g,o,rfl,hg,hc⟩:=h.at_ (by omega);obtain ⟨f,hf⟩:∃f,l[at_]? =some f:=⟨_,List.getElem?_eq_getElem (by omega)⟩
  obtain ⟨k0,k1,k2⟩:=hc at_ f hf;rw[jS hf];clear hc h hf hlen;obtain rfl|rfl|rfl:which=0∨which=1∨which=2:=by omega
  all_goals
   go_enter Tryz.func156,Tryz.ntmps156;go_wp2;go_ret;exact ⟨rfl,rfl⟩
 ·have hf:eP l at_=Vr:=by unfold eP;rw[List.getElem?_eq_none (by omega)];rfl
  rw[hf];clear h hf hlen;obtain rfl|rfl|rfl:which=0∨which=1∨which=2:=by omega
  all_goals
   go_enter Tryz.func156,Tryz.ntmps156;go_wp2;go_ret;exact ⟨rfl,rfl⟩
theorem MW {l:List Fl} {k:Nat} {f:Fl} (hf:l[k]? =some f):lJ (l.take (k+1))=lJ (l.take k)+f.1.toNat:=by
 unfold lJ;rw[List.take_add_one,hf];simp
set_option maxHeartbeats 400000 in
theorem Kh (h:nH w A n c l) (hn:n≤100000):
 Calls Tryz.prog 162 #[.slice A n c] w fun e w'=>e= .returned (.int .i64 (lJ l:Nat))∧Below w.heap.size w w':=by
 have hcap:=h.cap;have hmx:=h.mx;have HH:=ah h;have hlen:=h.len;clear h;go_enter Tryz.func162,Tryz.ntmps162;go_wp2
 go_loopw [2,7] (fun s i wr=>∃k:Nat,k≤n∧i= .int .i64 k∧s= .int .i64 (lJ (l.take k):Nat)∧Below w.heap.size w wr) (fun _ i _=>n-(intOf i).toNat)
 case atStart=>exact ⟨0,Nat.zero_le _,rfl,rfl,Below.refl _ w⟩
 case round=>
  obtain ⟨k,hk,rfl,rfl,hb⟩:=hrel;by_cases hlt:k<n
  ·obtain ⟨g,o,rfl,hg,hc⟩:=(HH.out.below hb).at_ (by omega);obtain ⟨f,hf⟩:∃f,l[k]? =some f:=⟨_,List.getElem?_eq_getElem (by omega)⟩
   obtain ⟨k0,k1,k2⟩:=hc k f hf;have hle:=sG (l.take k);rw[List.length_take] at hle;have ht:=MW hf;obtain ⟨fg,fs,fe⟩:=f;dsimp only at k0 k1 k2 ht;generalize lJ (l.take k)=S at*;have HT:=ah ht;have HB:=ah (hb.alloc hb.size (.cells #[.bool fg,.bool fs,.bool fe] 174));clear hc ht hf hb;cases fg with
   |true=>
    go_wp2
    go_round
    case rel=>exact ⟨k+1,by omega,by go_num,by rw[HT.out];go_num,HB.out⟩
    case measure=>simp[intOf];omega
   |false=>
    go_wp2
    go_round
    case rel=>exact ⟨k+1,by omega,by go_num,by rw[HT.out];go_num,HB.out⟩
    case measure=>simp[intOf];omega
  ·have e:l.take k=l:=List.take_of_length_le (by omega);rw[e];have HB:=ah hb;clear e hb;go_wp2;go_ret;exact ⟨rfl,HB.out⟩
end
end
section
open Go.RowKit Go.Shelf
attribute [local go_sem] Oper.semAt_some
section
variable {w w':World} {T:Nat→Nat} {g M n:Nat} {c:Cf} {st:Rc} {vo:Value}
theorem uF (w:World):Calls Tryz.prog 117 #[.pointer none] w fun e w'=>e= .returned (.bool false)∧Below w.heap.size w w':=by
 go_enter Tryz.func117,Tryz.ntmps117;go_wp2_with fail
 go_quiet (fail)
 go_wp2_with fail;go_ret;exact ⟨rfl,(Below.refl _ w).drewN nq⟩
set_option maxHeartbeats 400000 in
theorem uG {b:Nat} {p:Sp} {vf vd:Value} (h:qw w b p vf vd) (ho:zo p):
 Calls Tryz.prog 117 #[.pointer (some ⟨b,0,none⟩)] w fun e w'=>e= .returned (.bool (fE p))∧Below w.heap.size w w':=by
 obtain ⟨x0,x1,x2⟩:w.cell? ⟨b,0,none⟩=some vf∧w.cell? ⟨b,1,none⟩=some vd∧w.cell? ⟨b,2,none⟩=some (.int .i64 (dA p)):=⟨h.blk.cell 0,h.blk.cell 1,h.blk.cell 2⟩;have hbl:=h.blk.lt;have hi:=ho.i;obtain ⟨A,cc,rfl,hs⟩:=nH.dH h.fr;have hle:=ho.le;have hcnt:∀W,Below w.heap.size w W→Calls Tryz.prog 162 #[.slice A p.fl.length cc] W fun e w'=>e= .returned (.int .i64 (lJ p.fl:Nat))∧Below w.heap.size w w':=fun W hW=>
  (Kh (hs.below hW) (by omega)).mono fun e w' hh=>⟨hh.1,hW.trans (hh.2.mono hW.size)⟩
 have HC:=ah hcnt;have hgl:=sG p.fl;by_cases hz:0<dA p
 ·have d1:decide (dA p>0)=true:=by simpa using hz
  have hb0:=Below.refl w.heap.size w;have hres:(((lJ p.fl:Nat):Int)==dA p)=fE p:=by
   unfold dA at hz ⊢;unfold fE;cases hs2:p.size with
   |none=>rw[hs2] at hz;simp at hz
   |some k=>
    rw[hs2] at hz;dsimp only at hz ⊢;rw[decide_eq_true (show 0<k by omega),Bool.true_and];by_cases e:lJ p.fl=k
    ·rw[e];simp
    ·rw[decide_eq_false e];simp;omega
  have afW:=ah hres;have FB:=ah hi;clear hres h hcnt hz hs ho;generalize dA p=S at*;generalize lJ p.fl=G at*;go_enter Tryz.func117,Tryz.ntmps117;go_wp2_with fail
  go_region_held3 (fun W=>W.cell? ⟨b,0,none⟩=some (.slice A p.fl.length cc)∧W.cell? ⟨b,2,none⟩=some (.int .i64 S))
   (first|exact ⟨x0,x2⟩|exact ⟨(hb1.cell (p:=⟨b,0,none⟩) hbl).trans x0,(hb1.cell (p:=⟨b,2,none⟩) hbl).trans x2⟩|go_keep)
   (first
    |(go_at_call 162;refine (HC.out _ (by (repeat first|assumption|refine Below.drew ?_|refine Below.drewN ?_ _))).mono ?_;rintro e1 w1 ⟨rfl,hb1⟩)
    |fail)
  all_goals
   go_wp2_with fail;go_ret;exact ⟨by rw[←afW.out];rfl,by assumption⟩
 ·have d1:decide (dA p>0)=false:=by simpa using hz
  have hres:fE p=false:=by
   unfold dA at hz;unfold fE;cases hs2:p.size with
   |none=>rfl
   |some k=>
    rw[hs2] at hz;dsimp only at hz ⊢;rw[decide_eq_false (show ¬0<k by omega)];rfl
  rw[hres];clear hres h hcnt hz hs ho hi;generalize dA p=S at*;go_enter Tryz.func117,Tryz.ntmps117;go_wp2_with fail
  go_quiet (fail)
  go_wp2_with fail;go_ret;exact ⟨rfl,(Below.refl _ w).drewN nq⟩
theorem iC.look (h:iC w T g M n c st vo) {k:Nat} (hk:k≤1023):∃v,(Instr.lookup 128 (.map (some M)) (.int .i64 k) false).run Tryz.prog w= .ok v w∧((st.m k=none∧v= .pointer none)∨∃p b vf vd,st.m k=some p∧v= .pointer (some ⟨b,0,none⟩)∧qw w b p vf vd∧T b=3*k+4∧(∀j,vf.ownBlock=some j→T j=3*k+5)∧(∀j,vd.ownBlock=some j→T j=3*k+6)):=by
 obtain ⟨F,h1,h2⟩:=h.mp;refine ⟨(F k).getD (.pointer none),h1.aa2 vZ zG (Ke w) (by omega),?_⟩;cases hm:st.m k with
 |none=>exact .inl ⟨rfl,by rw[(h2 k).1 hm];rfl⟩
 |some p=>
  obtain ⟨b,vf,vd,e,hs,t1,t2,t3⟩:=(h2 k).2 p hm;exact .inr ⟨p,b,vf,vd,rfl,by rw[e];rfl,hs,t1,t2,t3⟩
theorem iC.aa3 (h:iC w T g M n c st vo) (ho:eF st) {k:Nat} (hk:k≤1023):∃v,(Instr.lookup 128 (.map (some M)) (.int .i64 k) false).run Tryz.prog w= .ok v w∧
 Calls Tryz.prog 117 #[v] w fun e w'=>e= .returned (.bool (dB (st.m k)))∧Below w.heap.size w w':=by
 obtain ⟨v,hr,⟨hm,rfl⟩|⟨p,b,vf,vd,hm,rfl,hs,_⟩⟩:=h.look hk
 ·refine ⟨_,hr,?_⟩;rw[hm];exact uF w
 ·refine ⟨_,hr,?_⟩;rw[hm];exact uG hs (ho.m k p hm).2.2
theorem eF.stops (ho:eF st) {sn:Nat} (hs:sn≤1023):∃j,j<1024∧dB (st.m ((sn+j)%1024))=false:=by
 refine ⟨((st.next+512)%1024+1024-sn)%1024,by omega,?_⟩;have hn:=ho.n1;rw[show (sn+((st.next+512)%1024+1024-sn)%1024)%1024=(st.next+512)%1024 by omega];cases hm:st.m ((st.next+512)%1024) with
 |none=>rfl
 |some p=>
  have:=(ho.m _ p hm).2.1;unfold bO at this;omega
theorem wh (m:Nat→Option Sp):∀(f sn:Nat),sn≤1023→kK m f sn≤1023
 |0,_,h=>h
 |f+1,sn,h=>by
  unfold kK;split
  ·exact wh m f _ (by unfold d9;omega)
  ·exact h
set_option maxHeartbeats 400000 in
theorem Ef (h:iC w T g M n c st vo) (ho:eF st) (sn:Nat) (hs:sn≤1023):
 Calls Tryz.prog 99 #[.pointer (some ⟨g,0,none⟩),.int .i64 sn] w fun e w'=>e= .returned (.int .i64 (kK st.m 1024 sn:Nat))∧Below w.heap.size w w':=by
 obtain ⟨R,hR⟩:∃R,R=kK st.m 1024 sn:=⟨_,rfl⟩
 rw[←hR];have HH:=ah h;have HO:=ah ho;have HR:=ah hR;have HST:=ah (ho.stops hs);clear h ho hR;go_enter Tryz.func99,Tryz.ntmps99;go_wp2;go_loopg [1] 1024 (fun gk s1 wr=>∃(k j:Nat),s1= .int .i64 (k:Nat)∧k≤1023∧Below w.heap.size w wr∧R=kK st.m gk k∧j<gk∧dB (st.m ((k+j)%1024))=false)
 case atStart=>
  obtain ⟨j,h1,h2⟩:=HST.out;exact ⟨sn,j,rfl,hs,Below.refl _ w,HR.out,h1,h2⟩
 case round=>
  obtain ⟨k,j,rfl,hk,hb,hr,hj,hst⟩:=hrel;have hA:=HH.out.below hb;have x7:=hA.cells.2.2.1;obtain ⟨v,hl,hc⟩:=hA.aa3 HO.out hk;obtain ⟨f,rfl⟩:∃f,gk=f+1:=⟨gk-1,by omega⟩
  unfold kK at hr;have HC:=ah hc;have HB:=ah hb;cases hcm:dB (st.m k) with
  |true=>
   rw[hcm] at HC;rw[hcm,if_pos rfl] at hr;have hj0:j≠0:=fun e=>by
    rw[e,Nat.add_zero,Nat.mod_eq_of_lt (by omega),hcm] at hst;cases hst
   have Ia:dB (st.m ((d9 k+(j-1))%1024))=false:=by
    unfold d9;rw[show ((k+1)%1024+(j-1))%1024=(k+j)%1024 by omega];exact hst
   have hand:bits BinOp.and IntKind.i64 ((k:Int)+1) 1023=((d9 k:Nat):Int):=by rw[rF];unfold d9;omega
   have hup:d9 k≤1023:=by unfold d9;omega
   have HRR:=ah hr;have HS2:=ah Ia;have HJ:=ah hj;have HJ0:=ah hj0;clear hA hc hb hr hst Ia hcm hj hj0;generalize d9 k=q at*;go_wp2_with fail;refine HC.out.mono ?_;rintro e1 w1 ⟨rfl,hb1⟩;go_wp2
   go_roundg f
   case measure=>omega
   case rel=>exact ⟨q,j-1,rfl,hup,HB.out.trans (hb1.mono HB.out.size),HRR.out,by have:=HJ.out;have:=HJ0.out;omega,HS2.out⟩
  |false=>
   rw[hcm] at HC;rw[hcm,if_neg (by simp)] at hr;have HRR:=ah hr;clear hA hc hb hr hst hcm hj;go_wp2_with fail;refine HC.out.mono ?_;rintro e1 w1 ⟨rfl,hb1⟩;go_wp2;go_ret;exact ⟨by rw[HRR.out];rfl,HB.out.trans (hb1.mono HB.out.size)⟩
theorem rG {w w':World} {T:Nat→Nat} (h:Below w.heap.size w w'):Kept (MT T) w w':=(Kept.of_below h).gH fun k o ho hm=>by have:=lt_of_heap ho;omega
set_option maxHeartbeats 1000000 in
theorem Bz (h:iC w T g M n c st vo) (ho:eF st) (_hc1:0≤c.reorder) (_hc2:c.reorder≤9223372036854775807):
 Calls Tryz.prog 101 #[.pointer (some ⟨g,0,none⟩)] w fun e w'=>e= .returned (.tuple #[])∧iC w' T g M n c (qj c st) vo∧Kept (MT T) w w':=by
 obtain ⟨x3,x4,x7,x8,x9,x10,xO,Hl,RX,Eg,Tx,RY,Py,x18⟩:=h.cells;have f11:=h.blk.frozen 11;have f12:=h.blk.frozen 12;have f13:=h.blk.frozen 13;have hn1:=ho.t1;have hn2:=ho.t2;have HH:=ah h;clear h ho x4 x7 x8 x9 Eg Tx Py x18;go_enter Tryz.func101,Tryz.ntmps101;go_wp2_with fail
 go_region
 all_goals
  go_wp2_with fail
  go_end0
  have h1:=HH.out.put 11 (.bool true) (st':= {st with ro:=true}) rfl rfl rfl;have h2:=h1.put 12 (.int .i64 (st.high:Nat)) (st':= {st with ro:=true,iO:=st.high}) rfl rfl rfl;have h3:=h2.put 13 (.int .i64 (IntKind.i64.wrap (st.now+c.reorder))) (st':= {st with ro:=true,iO:=st.high,exp:=IntKind.i64.wrap (st.now+c.reorder)}) rfl rfl rfl;rw[show wrap64 (st.now+c.reorder)=IntKind.i64.wrap (st.now+c.reorder) by rw[IntKind.wrap_i64];unfold wrap64;rfl];have ht:∀o:Obj,MT T g o:=fun o=>by unfold MT;rw[HH.out.tg];omega
  exact ⟨rfl,h3.drew,(((Kept.refl _ w).setCell (p:=⟨g,11,none⟩) (fun o _=>ht o) _).setCell (p:=⟨g,12,none⟩) (fun o _=>ht o) _).setCell (p:=⟨g,13,none⟩) (fun o _=>ht o) _ |>.drew⟩
end
end
section
open Go.RowKit Go.Shelf
attribute [local go_sem] Oper.semAt_some
section
variable {w w':World} {A:Option Addr} {n c:Nat} {l:List Fl}
theorem M0 (f:Fl) (w:World):Calls Tryz.prog 154 #[.agg #[.bool f.1,.bool f.2.1,.bool f.2.2]] w fun e w'=>e= .returned (.bool f.1)∧Below w.heap.size w w':=by
 have hb:=au.new w 174 #[.bool f.1,.bool f.2.1,.bool f.2.2];have c0:=hb.cell 0;simp at c0;clear hb;go_enter Tryz.func154,Tryz.ntmps154;go_wp2;go_ret;exact ⟨rfl,(Below.refl _ w).alloc (aN) _⟩
set_option maxHeartbeats 400000 in
theorem PE (h:nH w A n c l) (hn:n≤100000):
 Calls Tryz.prog 153 #[.slice A n c,.func (.func 154) #[] #[]] w fun e w'=>e= .returned (.bool (l.any (fun f=>f.1)))∧Below w.heap.size w w':=by
 have key:Calls Tryz.prog 196 #[.slice A n c,.func (.func 154) #[] #[]] w fun e w'=>(∃i:Int,e= .returned (.int .i64 i)∧(decide (i≥0))=l.any (fun f=>f.1))∧Below w.heap.size w w':=by
  have hcap:=h.cap;have hmx:=h.mx;have HH:=ah h;have hlen:=h.len;clear h;go_enter Tryz.func196,Tryz.ntmps196;go_wp2
  go_loopw [8] (fun i wr=>∃k:Nat,k≤n∧i= .int .i64 k∧(l.take k).any (fun f=>f.1)=false∧Below w.heap.size w wr) (fun i _=>n-(intOf i).toNat)
  case atStart=>exact ⟨0,Nat.zero_le _,rfl,by simp,Below.refl _ w⟩
  case round=>
   obtain ⟨k,hk,rfl,hno,hb⟩:=hrel;by_cases hlt:k<n
   ·obtain ⟨g,o,rfl,hg,hc⟩:=(HH.out.below hb).at_ (by omega);obtain ⟨f,hf⟩:∃f,l[k]? =some f:=⟨_,List.getElem?_eq_getElem (by omega)⟩
    obtain ⟨k0,k1,k2⟩:=hc k f hf;have hcl:=M0 f wr;have hst:(l.take (k+1)).any (fun f=>f.1)=f.1:=by rw[List.take_add_one,hf,List.any_append,hno];simp
    have hall:f.1=true→l.any (fun f=>f.1)=true:=fun e=>List.any_eq_true.2 ⟨f,List.mem_of_getElem? hf,e⟩
    have HST:=ah hst;have nD:=ah hall;have HB:=ah hb;have ug:=ah hcl;obtain ⟨fg,fs,fe⟩:=f;dsimp only at k0 k1 k2 HST nD ug;clear hc hf hno hst hall hb hcl;cases fg with
    |true=>
     go_wp2_with fail;refine ug.out.mono ?_;rintro e1 w1 ⟨rfl,hb1⟩;go_wp2;go_ret;exact ⟨⟨k,rfl,by rw[nD.out trivial];simp⟩,HB.out.trans (hb1.mono HB.out.size)⟩
    |false=>
     go_wp2_with fail;refine ug.out.mono ?_;rintro e1 w1 ⟨rfl,hb1⟩;go_wp2
     go_round
     case rel=>exact ⟨k+1,by omega,by go_num,HST.out,HB.out.trans (hb1.mono HB.out.size)⟩
     case measure=>simp[intOf];omega
   ·have e:l.take k=l:=List.take_of_length_le (by omega);rw[e] at hno;have HN:=ah hno;have HB:=ah hb;clear e hno hb;go_wp2;go_ret;exact ⟨⟨-1,rfl,by rw[HN.out];rfl⟩,HB.out⟩
 have HK:=ah key;have hcap:=h.cap;have hmx:=h.mx;clear key h;go_enter Tryz.func153,Tryz.ntmps153;go_wp2_with fail;refine HK.out.mono ?_;rintro e1 w1 ⟨⟨i,rfl,hi⟩,hb1⟩;have HI:=ah hi;clear hi;go_wp2;go_ret;exact ⟨by rw[←HI.out];rfl,hb1⟩
end
section
variable {P:Program} {ops:Array Oper} {Q:Exit→Act→World→Prop} {n l:Nat}
theorem uH {id:Nat} {a:Act} {w:World} (S:World→Prop) (L:List Nat) (hm:P.follows .mixedOrders=true) (hd:ops.toList.all nQ=true) (hout:¬LetsOut Q)
 (h:dD P .any ops Q S L ops.size (Array.replicate ops.size false) a w.drew):(Code.region id ops true).wpIn (Fence.wide.inRound l) n P Q a w:=
 wpIn_region_any hm (jf hd hout _ _ _ _ (uE _ _ _ _ h))
end
section
variable {P:Program}
theorem bu {id m lr:Nat} {Q:Exit→Act→World→Prop} {a:Act} {w:World} {l:List Oper} (n:Nat) (hm:P.follows .mixedOrders=true) (hd:l.toArray.toList.all nQ=true) (hout:¬LetsOut Q) (hB:Region.lexTailB .any l.toArray n=true)
 (h:wpStill P l.toArray {w with drawn:=w.drawn+1} (fun a'=>wpList P l.toArray Q (l.drop n) a' {w with drawn:=w.drawn+1}) (l.take n) a):(Code.region id l.toArray true).wpIn (Fence.wide.inRound lr) m P Q a w:=by
 simp only[Region.lexTailB,Bool.and_eq_true,decide_eq_true_eq] at hB;obtain ⟨⟨⟨⟨hsel,hn⟩,hs⟩,hc⟩,hlex⟩:=hB;have hn':n<l.length:=by simpa using hn
 have htl:(l.take n).length=n:=by simp;omega
 have hdl:(l.drop n).length=l.toArray.size-n:=by simp
 have inv0:HeadInv .any l.toArray n (Array.replicate l.toArray.size false):=
  ⟨by simp,fun j oj _ hl=>(by rw[getD_replicate_false] at hl;cases hl),fun t _ ht=>getD_in (by simpa using ht) (getD_replicate_false _ _)⟩
 have H:=wpAnyL_lex (md:= .any) (g:=l.toArray.size-n) hsel hs hc hn (l.take n) 0 _ a (fun j hj=>by
  have hj':j<n:=by rw[htl] at hj;exact hj
  simp[hj']) (by simpa using htl) inv0 (by rw[htl];exact hlex) h
 refine wpIn_region_any hm (jf hd hout _ _ _ _ ?_);have:=wpAny_of_head (Q':=Q) (g:=l.toArray.size-n) (fun listed a' hL=>by
  have:=wpAny_of_seq (md:= .any) (Q':=Q) (l.drop n) n listed a' {w with drawn:=w.drawn+1} (fun j=>by simp[List.getElem?_drop]) (by rw[hdl];exact hL.1) hL.2
  rwa [hdl] at this) _ _ _ H
 rw[htl,show n+(l.toArray.size-n)=l.toArray.size by omega] at this;exact this
end
theorem wD {W:World} {base size n:Nat} {e:TypeId} {v:Value} {xs:List Value} (h:W.ownsRow base e size v n xs) (hn:0<n):∃g cap,v= .slice (some ⟨g,0,none⟩) n cap∧n≤cap∧cap≤9223372036854775807∧g<W.heap.size:=by
 rcases h.2 with ⟨_,h0⟩|⟨g,cap,cur,rfl,_,hg,h1,h2,_⟩
 ·omega
 ·exact ⟨g,cap,rfl,h1,by unfold maxLen at h2;omega,lt_of_heap hg⟩
theorem yO (s e:Bool) (n:Nat):∀(a:List (List UInt8)) (i:Nat) (p:List UInt8),dN s e n i (a++ [p])=dN s e n i a++jO p (decide (0<i+a.length)||s) (decide (i+a.length+1<n)||e)
 | [],i,p=>by simp[dN]
 |q::r,i,p=>by
  rw[List.cons_append,dN,dN,yO s e n r (i+1) p,List.append_assoc,List.length_cons];rw[show i+1+r.length=i+(r.length+1) by omega]
theorem Ig {s e:Bool} {n:Nat} {ps:List (List UInt8)} {k:Nat} {p:List UInt8} (h:ps[k]? =some p):dN s e n 0 (ps.take (k+1))=dN s e n 0 (ps.take k)++jO p (decide (0<k)||s) (decide (k+1<n)||e):=by
 have hk:=(List.getElem?_eq_some_iff.1 h).1;rw[List.take_add_one,h];simp only[Option.toList];rw[yO,List.length_take,Nat.min_eq_left (by omega),Nat.zero_add]
theorem PG (l:List (Fl × UInt8)) (f:Fl) (b:UInt8) (a:Nat) (x:List Fl × List UInt8):
 zC (l++ [(f,b)]) a x=if (eP (zC l a x).1 (a+l.length)).1=true then zC l a x else ((zC l a x).1.set (a+l.length) f,(zC l a x).2.set (a+l.length) b):=by
 rw[Fw];rfl
def R3 (s e:Bool) (off:Nat) (ps:List (List UInt8)) (x0:List Fl × List UInt8) (k:Nat):List Fl × List UInt8:=zC (dN s e ps.length 0 (ps.take k)) off x0
def CU (s e:Bool) (off:Nat) (ps:List (List UInt8)) (x0:List Fl × List UInt8) (k j:Nat):List Fl × List UInt8:=
 zC ((jO (ps[k]?.getD []) (decide (0<k)||s) (decide (k+1<ps.length)||e)).take j) (off+aj (ps.take k)) (R3 s e off ps x0 k)
section
variable {s e:Bool} {off:Nat} {ps:List (List UInt8)} {x0:List Fl × List UInt8} {k:Nat}
theorem PI:CU s e off ps x0 k 0=R3 s e off ps x0 k:=by
 unfold CU;rw[List.take_zero];rfl
theorem PK (hk:k<ps.length):CU s e off ps x0 k (ps[k]?.getD []).length=R3 s e off ps x0 (k+1):=by
 have hp:ps[k]? =some ps[k]:=List.getElem?_eq_getElem hk;unfold CU R3;rw[Ig (n:=ps.length) hp,Fw,mY,hp,Option.getD_some,List.take_of_length_le (by rw[eO];exact aN)]
theorem TE (j:Nat):(CU s e off ps x0 k j).1.length=x0.1.length∧(CU s e off ps x0 k j).2.length=x0.2.length:=by
 unfold CU R3;have h1:=nT (dN s e ps.length 0 (ps.take k)) off x0;have h2:=nT ((jO (ps[k]?.getD []) (decide (0<k)||s) (decide (k+1<ps.length)||e)).take j) (off+aj (ps.take k)) (zC (dN s e ps.length 0 (ps.take k)) off x0);exact ⟨h2.1.trans h1.1,h2.2.trans h1.2⟩
theorem PL {j:Nat} (hj:j<(ps[k]?.getD []).length):CU s e off ps x0 k (j+1)=
 if (eP (CU s e off ps x0 k j).1 (off+aj (ps.take k)+j)).1=true then CU s e off ps x0 k j
 else ((CU s e off ps x0 k j).1.set (off+aj (ps.take k)+j) (true,decide (j=0)&&(decide (0<k)||s),decide (j+1=(ps[k]?.getD []).length)&&(decide (k+1<ps.length)||e)),
  (CU s e off ps x0 k j).2.set (off+aj (ps.take k)+j) ((ps[k]?.getD [])[j]?.getD 0)):=by
 unfold CU;generalize ps[k]?.getD []=p at*;have hg:(jO p (decide (0<k)||s) (decide (k+1<ps.length)||e))[j]? =some ((true,decide (j=0)&&(decide (0<k)||s),decide (j+1=p.length)&&(decide (k+1<ps.length)||e)),p[j]?.getD 0):=by
  rw[o8,List.getElem?_eq_getElem hj];rfl
 rw[List.take_add_one,hg];simp only[Option.toList];rw[PG,List.length_take,eO,Nat.min_eq_left (by omega)]
end
def Vw (b:Nat) (vf vd:Value) (k:Nat) (_:Obj):Prop:=k=b∨vf.ownBlock=some k∨vd.ownBlock=some k
structure qT (w:World) (b:Nat) (vf vd:Value) (xc:Array Value) (sz:Int) (lW lS:Value) (fl:List Fl) (da:List UInt8) (W:World):Prop where
 blk:au W b 165 #[lW,lS,.int .i64 sz]
 fr:W.ownsRow 0 174 3 lW fl.length (xg fl)
 dr:W.ownsRow 0 5 1 lS da.length (bQ da)
 bf:∀k,lW.ownBlock=some k→vf.ownBlock=some k∨w.heap.size≤k
 bd:∀k,lS.ownBlock=some k→vd.ownBlock=some k∨w.heap.size≤k
 kp:Kept (Vw b vf vd) w W
 bp:au W w.heap.size 161 #[.pointer (some ⟨b,0,none⟩)]
 bx:au W (w.heap.size+1) 148 xc
 hb:b<w.heap.size
section
variable {w W W':World} {b:Nat} {vf vd lW lS:Value} {xc:Array Value} {sz:Int} {fl:List Fl} {da:List UInt8}
theorem qT.below (h:qT w b vf vd xc sz lW lS fl da W) (hb:Below W.heap.size W W'):qT w b vf vd xc sz lW lS fl da W':=
 ⟨h.blk.below hb h.blk.lt,bT h.fr fun k hk=>hb.block k (h.fr.lt k hk).2,bT h.dr fun k hk=>hb.block k (h.dr.lt k hk).2,h.bf,h.bd,h.kp.trans ((Kept.of_below hb).gH fun k o ho hm=>by have:=lt_of_heap ho;omega),h.bp.below hb h.bp.lt,h.bx.below hb h.bx.lt,h.hb⟩
theorem qT.drew (h:qT w b vf vd xc sz lW lS fl da W):qT w b vf vd xc sz lW lS fl da W.drew:=h.below (Below.refl _ W).drew
theorem qT.alloc (h:qT w b vf vd xc sz lW lS fl da W) (o:Obj):qT w b vf vd xc sz lW lS fl da (W.alloc o):=h.below ((Below.refl _ W).alloc (aN) o)
theorem kg {base size n g:Nat} {e t:TypeId} {v:Value} {xs:List Value} {cs:Array Value} (h:W.ownsRow base e size v n xs) (hg:au W g t cs) (hne:e≠t):some g≠v.ownBlock:=fun e'=>aK h hg hne e'.symm
theorem sH {b1 b2 s1 s2 n1 n2:Nat} {e1 e2:TypeId} {v1 v2:Value} {x1 x2:List Value} (h1:W.ownsRow b1 e1 s1 v1 n1 x1) (h2:W.ownsRow b2 e2 s2 v2 n2 x2) (hne:e1≠e2):v1.ownBlock=none∨v1.ownBlock≠v2.ownBlock:=by
 cases hv:v1.ownBlock with
 |none=>exact .inl rfl
 |some k=>
  refine .inr fun e=> ?_
  obtain ⟨o1,a1,⟨c1,f1,rfl⟩,_⟩:=dh h1 hv;obtain ⟨o2,a2,⟨c2,f2,e2⟩,_⟩:=dh h2 e.symm;rw[a1] at a2;cases a2;cases e2;exact hne rfl
theorem gu {base size n g i:Nat} {e t:TypeId} {v:Value} {xs:List Value} {cs:Array Value} (h:W.ownsRow base e size v n xs) (hb:au W g t cs) (hne:e≠t) (u:Value):(W.setCell ⟨g,i,none⟩ u).ownsRow base e size v n xs:=
 bT h fun k hk=>Below.heap_setCell W ⟨g,i,none⟩ u k (fun ek=>by
  have e2:k=g:=ek;subst e2;exact aK h hb hne hk)
theorem qT.flags (h:qT w b vf vd xc sz lW lS fl da W) {v2:Value} {fl2:List Fl} (hr:W'.ownsRow 0 174 3 v2 fl2.length (xg fl2)) (hg:W.grownBy W' lW.ownBlock) (hv:v2.ownBlock=lW.ownBlock∨v2.ownBlock=some W.heap.size):
 qT w b vf vd xc sz v2 lS fl2 da (W'.setCell ⟨b,0,none⟩ v2):=by
 have hbW:=h.blk.grown hg (kg h.fr h.blk (by decide));have hsz:=h.kp.size;have hk2:Kept (Vw b vf vd) w W':=h.kp.grown hg fun k e o ho=>by
  rcases h.bf k e with e2|e2
  ·exact .inr (.inl e2)
  ·have:=lt_of_heap ho;omega
 refine ⟨by simpa using hbW.av 0 v2,?_,?_,fun k e=> ?_,h.bd,hk2.setCell (p:=⟨b,0,none⟩) (fun _ _=> .inl rfl) _,?_,?_,h.hb⟩
 ·exact gu (i:=0) hr hbW (by decide) _
 ·exact aL (i:=0) (h.dr.kept hg (sH h.dr h.fr (by decide))) hbW (by decide) _
 ·rcases hv with e2|e2
  ·exact h.bf k (e2 ▸ e)
  ·rw[e2] at e;cases e;exact .inr hsz
 ·exact (h.bp.grown hg (kg h.fr h.bp (by decide))).far (by have:=h.hb;simp;omega) _
 ·exact (h.bx.grown hg (kg h.fr h.bx (by decide))).far (by have:=h.hb;simp;omega) _
theorem qT.data (h:qT w b vf vd xc sz lW lS fl da W) {v2:Value} {da2:List UInt8} (hr:W'.ownsRow 0 5 1 v2 da2.length (bQ da2)) (hg:W.grownBy W' lS.ownBlock) (hv:v2.ownBlock=lS.ownBlock∨v2.ownBlock=some W.heap.size):
 qT w b vf vd xc sz lW v2 fl da2 (W'.setCell ⟨b,1,none⟩ v2):=by
 have hbW:=h.blk.grown hg (kg h.dr h.blk (by decide));have hsz:=h.kp.size;have hk2:Kept (Vw b vf vd) w W':=h.kp.grown hg fun k e o ho=>by
  rcases h.bd k e with e2|e2
  ·exact .inr (.inr e2)
  ·have:=lt_of_heap ho;omega
 refine ⟨by simpa using hbW.av 1 v2,?_,?_,h.bf,fun k e=> ?_,hk2.setCell (p:=⟨b,1,none⟩) (fun _ _=> .inl rfl) _,?_,?_,h.hb⟩
 ·exact gu (i:=1) (h.fr.kept hg (sH h.fr h.dr (by decide))) hbW (by decide) _
 ·exact aL (i:=1) hr hbW (by decide) _
 ·rcases hv with e2|e2
  ·exact h.bd k (e2 ▸ e)
  ·rw[e2] at e;cases e;exact .inr hsz
 ·exact (h.bp.grown hg (kg h.dr h.bp (by decide))).far (by have:=h.hb;simp;omega) _
 ·exact (h.bx.grown hg (kg h.dr h.bx (by decide))).far (by have:=h.hb;simp;omega) _
end
section
variable {w W W':World} {b:Nat} {vf vd lW lS:Value} {xc:Array Value} {sz:Int} {fl:List Fl} {da:List UInt8}
theorem BA {base size n:Nat} {e:TypeId} {v:Value} {xs:List Value} {row:Option Nat} (h:W.ownsRow base e size v n xs) (hg:W.grownBy W' row) (hr:∀r,row=some r→∃o:Obj,W.heap[r]? =some o∧o.isCells=false):W'.ownsRow base e size v n xs:=by
 refine h.kept hg ?_;cases hv:v.ownBlock with
 |none=>exact .inl rfl
 |some k=>
  refine .inr fun e2=> ?_
  obtain ⟨o,ho,hc⟩:=hr k e2.symm;obtain ⟨o2,ho2,⟨c1,f1,rfl⟩,_⟩:=dh h hv;rw[ho2] at ho;cases ho;cases hc
theorem qT.quiet (h:qT w b vf vd xc sz lW lS fl da W) {row:Option Nat} (hg:W.grownBy W' row) (hr:∀r,row=some r→w.heap.size≤r∧∃o:Obj,W.heap[r]? =some o∧o.isCells=false):qT w b vf vd xc sz lW lS fl da W':=
 have hr':=fun r e=>(hr r e).2
 ⟨fD h.blk hg hr',BA h.fr hg hr',BA h.dr hg hr',h.bf,h.bd,h.kp.grown hg (fun k e o ho=>by have:=lt_of_heap ho;have:=(hr k e).1;omega),fD h.bp hg hr',fD h.bx hg hr',h.hb⟩
theorem qT.Xz {gd n cd at_:Nat} (h:qT w b vf vd xc sz lW (.slice (some ⟨gd,0,none⟩) n cd) fl da W) (hn:da.length=n) (x:UInt8):qT w b vf vd xc sz lW (.slice (some ⟨gd,0,none⟩) n cd) fl (da.set at_ x) (W.setCell ⟨gd,at_,none⟩ (bv x)):=by
 subst hn;have hg:=aQ W gd at_ (bv x);have hd:=h.dr;have hr:=(hd.stored at_ (bv x)).1;have hne:∀{g:Nat} {t:TypeId} {cs:Array Value},au W g t cs→5≠t→some g≠some gd:=fun hb hne=>kg hd hb hne
 refine ⟨h.blk.grown hg (hne h.blk (by decide)),h.fr.kept hg (sH h.fr hd (by decide)),?_,h.bf,h.bd,h.kp.grown hg (fun k e o ho=> ?_),h.bp.grown hg (hne h.bp (by decide)),h.bx.grown hg (hne h.bx (by decide)),h.hb⟩
 ·have e:bQ (da.set at_ x)=(bQ da).set at_ (bv x):=by simp[bQ,List.map_set]
  rw[e,List.length_set];exact hr
 ·cases e;rcases h.bd gd rfl with e2|e2
  ·exact .inr (.inr e2)
  ·have:=lt_of_heap ho;omega
theorem qT.BD {gf n cf at_:Nat} (h:qT w b vf vd xc sz (.slice (some ⟨gf,0,none⟩) n cf) lS fl da W) (hn:fl.length=n) (hat:at_<n) (f:Fl):
 qT w b vf vd xc sz (.slice (some ⟨gf,0,none⟩) n cf) lS (fl.set at_ f) da (((W.setCell ⟨gf,at_*3,none⟩ (.bool f.1)).setCell ⟨gf,at_*3+1,none⟩ (.bool f.2.1)).setCell ⟨gf,at_*3+2,none⟩ (.bool f.2.2)):=by
 subst hn;have hd:=h.fr;have hr1:=(hd.stored (at_*3) (.bool f.1)).1;have hr2:=(hr1.stored (at_*3+1) (.bool f.2.1)).1;have hr3:=(hr2.stored (at_*3+2) (.bool f.2.2)).1;have hg:W.grownBy (((W.setCell ⟨gf,at_*3,none⟩ (.bool f.1)).setCell ⟨gf,at_*3+1,none⟩ (.bool f.2.1)).setCell ⟨gf,at_*3+2,none⟩ (.bool f.2.2)) (some gf):=
  ((aQ W gf _ _).trans (aQ _ gf _ _)).trans (aQ _ gf _ _)
 have hne:∀{g:Nat} {t:TypeId} {cs:Array Value},au W g t cs→174≠t→some g≠some gf:=fun hb hne=>kg hd hb hne
 refine ⟨h.blk.grown hg (hne h.blk (by decide)),?_,h.dr.kept hg (sH h.dr hd (by decide)),h.bf,h.bd,h.kp.grown hg (fun k e o ho=> ?_),h.bp.grown hg (hne h.bp (by decide)),h.bx.grown hg (hne h.bx (by decide)),h.hb⟩
 ·rw[LP _ _ _ hat] at hr3;rw[List.length_set];exact hr3
 ·cases e;rcases h.bf gf rfl with e2|e2
  ·exact .inr (.inl e2)
  ·have:=lt_of_heap ho;omega
end
section
variable {w W W':World} {b:Nat} {vf vd lW lS:Value} {xc:Array Value} {sz:Int} {fl:List Fl} {da:List UInt8}
theorem qT.abd (h:qT w b vf vd xc sz lW lS fl da W) {D:Nat} {o:Obj} (o':Obj) (hD:W.heap[D]? =some o) (hc:o.isCells=false) (hDl:w.heap.size≤D):qT w b vf vd xc sz lW lS fl da (W.putObj D o'):=
 h.quiet (grownBy_putObj' W D o') (fun r e=>by cases e;exact ⟨hDl,o,hD,hc⟩)
theorem qT.af4 (h:qT w b vf vd xc sz lW lS fl da W) (z:Int):qT w b vf vd xc z lW lS fl da (W.setCell ⟨b,2,none⟩ (.int .i64 z)):=
 ⟨by simpa using h.blk.av 2 (.int .i64 z),gu h.fr h.blk (by decide) _,gu h.dr h.blk (by decide) _,h.bf,h.bd,h.kp.setCell (p:=⟨b,2,none⟩) (fun _ _=> .inl rfl) _,h.bp.far (by have:=h.hb;simp;omega) _,h.bx.far (by have:=h.hb;simp;omega) _,h.hb⟩
end
def TF (b:Nat) (vf vd:Value) (bi Z:Nat) (j:Nat) (_:Obj):Prop:=j=b∨vf.ownBlock=some j∨vd.ownBlock=some j∨j=bi∨Z≤j
structure TkI (w:World) (b:Nat) (vf vd:Value) (xc:Array Value) (sz:Int) (Gx Gy:Value) (s e:Bool) (off:Nat) (ps:List (List UInt8)) (x0:List Fl × List UInt8) (bi:Nat) (w5:World) (k:Nat) (W:World):Prop where
 t:qT w b vf vd xc sz Gx Gy (R3 s e off ps x0 k).1 (R3 s e off ps x0 k).2 W
 di:au W bi 3 #[.int .i64 k]
 kp:Kept (TF b Gx Gy bi w5.heap.size) w5 W
theorem TG (w:World) (b:Nat) (vf vd:Value) (xc:Array Value) (sz:Int) (Gx Gy:Value) (s e:Bool) (off:Nat) (ps:List (List UInt8)) (x0:List Fl × List UInt8) (bi:Nat) (w5:World) (hw:w.heap.size≤w5.heap.size):
 OwnFrom w5.heap.size (TkI w b vf vd xc sz Gx Gy s e off ps x0 bi w5):=fun k X Y row hs hg hr=>by
 have hr':∀r,row=some r→∃o:Obj,X.heap[r]? =some o∧o.isCells=false:=fun r e=>(hr r e).2
 exact ⟨hs.t.quiet hg fun r e=>⟨by have:=(hr r e).1;omega,(hr r e).2⟩,fD hs.di hg hr',hs.kp.trans ((Kept.refl _ X).grown hg (fun j e _ _=> .inr (.inr (.inr (.inr (hr j e).1)))))⟩
structure Ih (w:World) (b:Nat) (vf vd:Value) (xc:Array Value) (sz:Int) (Gx Gy:Value) (fl:List Fl) (da:List UInt8) (bi:Nat) (w5 W0:World) (k:Nat) (W:World):Prop where
 t:qT w b vf vd xc sz Gx Gy fl da W
 di:au W bi 3 #[.int .i64 k]
 kp:Kept (TF b Gx Gy bi w5.heap.size) w5 W
 k2:Kept (TF b Gx Gy bi w5.heap.size) W0 W
 kf:KeepsFrom w5.heap.size W0 W
section
variable {w W W' w5 W0:World} {b:Nat} {vf vd lW lS:Value} {xc:Array Value} {sz:Int} {fl:List Fl} {da:List UInt8} {bi k:Nat}
theorem Ih.below (h:Ih w b vf vd xc sz lW lS fl da bi w5 W0 k W) (hb:Below W.heap.size W W') (_hz:w5.heap.size≤W.heap.size):Ih w b vf vd xc sz lW lS fl da bi w5 W0 k W':=
 have hk:Kept (TF b lW lS bi w5.heap.size) W W':=(Kept.of_below hb).gH fun k o ho hm=>by have:=lt_of_heap ho;omega
 ⟨h.t.below hb,h.di.below hb h.di.lt,h.kp.trans hk,h.k2.trans hk,h.kf.trans ⟨hb.size,fun k o _ ho _=>(hb.block k (lt_of_heap ho)).trans ho⟩⟩
theorem Ih.drew (h:Ih w b vf vd xc sz lW lS fl da bi w5 W0 k W) (hz:w5.heap.size≤W.heap.size):Ih w b vf vd xc sz lW lS fl da bi w5 W0 k W.drew:=h.below (Below.refl _ W).drew hz
theorem Ih.Xz {gd n cd at_:Nat} (h:Ih w b vf vd xc sz lW (.slice (some ⟨gd,0,none⟩) n cd) fl da bi w5 W0 k W) (hn:da.length=n) (x:UInt8):Ih w b vf vd xc sz lW (.slice (some ⟨gd,0,none⟩) n cd) fl (da.set at_ x) bi w5 W0 k (W.setCell ⟨gd,at_,none⟩ (bv x)):=by
 have hk:Kept (TF b lW (.slice (some ⟨gd,0,none⟩) n cd) bi w5.heap.size) W (W.setCell ⟨gd,at_,none⟩ (bv x)):=(Kept.refl _ W).setCell (p:=⟨gd,at_,none⟩) (fun _ _=> .inr (.inr (.inl rfl))) _;have hd:=h.t.dr;rw[hn] at hd;exact ⟨h.t.Xz hn x,h.di.grown (aQ W gd at_ (bv x)) (kg hd h.di (by decide)),h.kp.trans hk,h.k2.trans hk,h.kf.trans ((KeepsOthers.setCell _ _ _).from _)⟩
theorem Ih.BD {gf n cf at_:Nat} (h:Ih w b vf vd xc sz (.slice (some ⟨gf,0,none⟩) n cf) lS fl da bi w5 W0 k W) (hn:fl.length=n) (hat:at_<n) (f:Fl):
 Ih w b vf vd xc sz (.slice (some ⟨gf,0,none⟩) n cf) lS (fl.set at_ f) da bi w5 W0 k (((W.setCell ⟨gf,at_*3,none⟩ (.bool f.1)).setCell ⟨gf,at_*3+1,none⟩ (.bool f.2.1)).setCell ⟨gf,at_*3+2,none⟩ (.bool f.2.2)):=by
 have hM:∀o:Obj,TF b (.slice (some ⟨gf,0,none⟩) n cf) lS bi w5.heap.size gf o:=fun _=> .inr (.inl rfl)
 have hk:Kept (TF b (.slice (some ⟨gf,0,none⟩) n cf) lS bi w5.heap.size) W (((W.setCell ⟨gf,at_*3,none⟩ (.bool f.1)).setCell ⟨gf,at_*3+1,none⟩ (.bool f.2.1)).setCell ⟨gf,at_*3+2,none⟩ (.bool f.2.2)):=
  (((Kept.refl _ W).setCell (p:=⟨gf,_,none⟩) (fun _ _=>hM _) _).setCell (p:=⟨gf,_,none⟩) (fun _ _=>hM _) _).setCell (p:=⟨gf,_,none⟩) (fun _ _=>hM _) _
 have hd:=h.t.fr;rw[hn] at hd;have hg:W.grownBy (((W.setCell ⟨gf,at_*3,none⟩ (.bool f.1)).setCell ⟨gf,at_*3+1,none⟩ (.bool f.2.1)).setCell ⟨gf,at_*3+2,none⟩ (.bool f.2.2)) (some gf):=
  ((aQ W gf _ _).trans (aQ _ gf _ _)).trans (aQ _ gf _ _)
 exact ⟨h.t.BD hn hat f,h.di.grown hg (kg hd h.di (by decide)),h.kp.trans hk,h.k2.trans hk,h.kf.trans ((((KeepsOthers.setCell _ _ _).from _).trans ((KeepsOthers.setCell _ _ _).from _)).trans ((KeepsOthers.setCell _ _ _).from _))⟩
theorem Ih.next (h:Ih w b vf vd xc sz lW lS fl da bi w5 W0 k W) (hbi:b≠bi) (h1:bi≠w.heap.size) (h2:bi≠w.heap.size+1) (hw:w.heap.size≤bi):Ih w b vf vd xc sz lW lS fl da bi w5 W0 (k+1) (W.setCell ⟨bi,0,none⟩ (.int .i64 ((k+1:Nat):Int))):=by
 have hk:Kept (TF b lW lS bi w5.heap.size) W (W.setCell ⟨bi,0,none⟩ (.int .i64 ((k+1:Nat):Int))):=(Kept.refl _ W).setCell (p:=⟨bi,0,none⟩) (fun _ _=> .inr (.inr (.inr (.inl rfl)))) _;refine ⟨⟨h.t.blk.far (by simpa using hbi) _,gu h.t.fr h.di (by decide) _,gu h.t.dr h.di (by decide) _,h.t.bf,h.t.bd,h.t.kp.setCell (p:=⟨bi,0,none⟩) (fun o ho=>by have:=lt_of_heap ho;simp at this;omega) _,h.t.bp.far (by simpa using fun e=>h1 e.symm) _,h.t.bx.far (by simpa using fun e=>h2 e.symm) _,h.t.hb⟩,?_,h.kp.trans hk,h.k2.trans hk,h.kf.trans ((KeepsOthers.setCell _ _ _).from _)⟩;simpa using h.di.av 0 (.int .i64 ((k+1:Nat):Int))
end
theorem Ii (k:Nat):(Builtin.zeroCells #[.bool false,.bool false,.bool false] k).toList=xg (List.replicate k Vr):=by
 apply List.ext_getElem?;intro j;have hl:(xg (List.replicate k Vr)).length=k*3:=by rw[Kg,List.length_replicate]
 rcases Nat.lt_or_ge j (k*3) with hj|hj
 ·have hr:(List.replicate k Vr)[j/3]? =some Vr:=by rw[List.getElem?_replicate,if_pos (by omega)]
  obtain ⟨g1,g2,g3⟩:=zH _ _ _ hr;have hm:j%3=0∨j%3=1∨j%3=2:=by omega
  have he:(Builtin.zeroCells #[.bool false,.bool false,.bool false] k).toList[j]? =some (.bool false):=by
   simp only[Builtin.zeroCells,Array.getElem?_toList,Array.getElem?_map];rw[Array.getElem?_eq_getElem (by simpa using hj)];simp only[Array.getElem_range,Option.map_some,List.size_toArray,List.length_cons,List.length_nil];rcases hm with h|h|h<;>simp[h]
  rw[he];rcases hm with h|h|h
  ·rw[show j=j/3*3 by omega,g1];rfl
  ·rw[show j=j/3*3+1 by omega,g2];rfl
  ·rw[show j=j/3*3+2 by omega,g3];rfl
 ·rw[List.getElem?_eq_none (by rw[Array.length_toList,size_zeroCells];simpa using hj),List.getElem?_eq_none (by omega)]
theorem Ij (k:Nat):(Builtin.zeroCells #[.int .u8 0] k).toList=bQ (List.replicate k 0):=by
 apply List.ext_getElem?;intro j;rcases Nat.lt_or_ge j k with hj|hj
 ·simp only[Builtin.zeroCells,Array.getElem?_toList,Array.getElem?_map];rw[Array.getElem?_eq_getElem (by simpa using hj)];simp[bQ,hj,bv,Nat.mod_one]
 ·rw[List.getElem?_eq_none (by rw[Array.length_toList,size_zeroCells];simpa using hj),List.getElem?_eq_none (by simpa[bQ] using hj)]
theorem TH:(Tryz.prog.info? 174).map (fun i=>(i.zero,i.size,i.bytes))=some (some (.agg #[.bool false,.bool false,.bool false]),3,3):=by kernel_rfl
theorem PN:∃i,Tryz.prog.info? 174=some i∧i.zero=some (.agg #[.bool false,.bool false,.bool false])∧i.size=3∧i.bytes=3:=by
 have h:=TH;cases hi:Tryz.prog.info? 174 with
 |none=>rw[hi] at h;cases h
 |some i=>
  rw[hi] at h;simp only[Option.map_some,Option.some.injEq,Prod.mk.injEq] at h;exact ⟨i,rfl,h.1,h.2.1,h.2.2⟩
theorem PR:Tryz.prog.underlying 163=some (.slice 174):=by kernel_rfl
end
end Go.Proofs.YtbhiklnljiehiaaGreat
