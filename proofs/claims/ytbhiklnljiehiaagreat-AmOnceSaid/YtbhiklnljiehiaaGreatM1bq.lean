/- law37, plain: a link of two entities. -/
import Derived.Test.YtbhiklnljiehiaaGreatM1bn
namespace Go.Proofs.YtbhiklnljiehiaaGreat
section
open Go.RowKit
def V9 (x:List UInt8):Prop:=128≤(x.headD 0).toNat
theorem UT {bs:List UInt8} {a:jv} (h:qP bs= .inr a):V9 bs∧bs≠ []:=by
 unfold qP at h;split at h
 ·cases h
 rename_i h2;split at h
 ·cases h
 rename_i h3;cases bs with
 |nil=>simp at h2
 |cons b r=>
  have h4:val (ax (b::r) 0 1)=1:=Classical.byContradiction h3;refine ⟨?_,by simp⟩;have hb:=b.toNat_lt;have e:ax (b::r) 0 1= [decide (b.toNat/128%2=1)]:=by simp[ax,vC]
  rw[e] at h4;show 128≤b.toNat
  by_cases hd:b.toNat/128%2=1
  ·omega
  ·rw[decide_eq_false hd] at h4;cases h4
theorem Rj {bs:List UInt8} {R:Nat × List Nk} (h:kL bs= .inr R):¬V9 bs∧bs≠ []:=by
 unfold kL at h;split at h
 ·cases h
 rename_i h2;split at h
 ·cases h
 rename_i h3;cases bs with
 |nil=>simp at h2
 |cons b r=>
  have h4:val (ax (b::r) 0 4)=0:=Classical.byContradiction h3;refine ⟨?_,by simp⟩;have hb:=b.toNat_lt;have e:=val_zero _ h4;rw[fu,show 4=1+3 from rfl,JG] at e;have e1:=congrArg (fun l=>l[0]?) e;simp[ax,vC] at e1;show ¬128≤b.toNat
  omega
def bF (c:Cf) (s:Sd) (r:Rc) (now:Int) (x:List UInt8):Sd × Rc × List (List UInt8) × Int:=
 if x= [] then (s,r,[],5)
 else if (x.headD 0).toNat<128 then match kL x with
  | .inl er=>(s,r,[],(er:Nat))
  | .inr R=>((dL c s now (R.1:Nat) R.2).1,r,[],(dL c s now (R.1:Nat) R.2).2)
 else (s,(fK c r now x).1,(fK c r now x).2.1,((fK c r now x).2.2:Nat))
structure En where
 s:Sd
 r:Rc
 sent:List (List UInt8)
 iD:List (List UInt8)
 out:Nat
def jo (G:Nat) (a b:En):Prop:=∃N pu left sent,N≤G∧Dir a.iD N pu left sent∧uf a.iD N pu left sent (Has b.r) a.s∧pO a.iD N pu left sent b.r∧b.out=(oJ a.iD left b.r.next).length∧
 (∀x∈a.sent,V9 x→Gn N pu x)∧(∀x∈b.sent,¬V9 x→Gp N pu (Has b.r) x)
section
variable {a b:En} {G K:Nat} {c:Cf}
theorem jo.start (ha:a.s=dK) (hr:b.r=gq) (h1:a.iD= []) (h2:b.out=0) (h3:a.sent= []) (h4:b.sent= []):jo 0 a b:=by
 have D:=Dir.start a.iD (fun _=>⟨0,false,false,[],false,[],0⟩) h1;refine ⟨0,_,_,_,aN,D,⟨?_,?_,?_,?_,?_,fun i x hx=> ?_,fun i x hx=> ?_,fun k hk=> ?_⟩,by rw[hr];exact pO.start D.T,by rw[h2,h1];rfl,by rw[h3];simp,by rw[h4];simp⟩<;>rw[ha] at*
 ·rfl
 ·rw[h1];rfl
 ·rfl
 ·rfl
 ·rfl
 ·cases hx
 ·cases hx
 ·cases hk
theorem jo.confirmed (h:jo G a b):a.s.done≤b.out:=by
 obtain ⟨N,pu,left,sent,_,D,S,R,ho,_,_⟩:=h;have h1:=R.YY S.has;have h2:=EK D.T h1 R.nx;have h3:=wV D.T R.nx;have h4:=S.dn;omega
theorem jo.Y3 (h:jo G a b):b.out≤a.iD.length:=by
 obtain ⟨N,pu,left,sent,_,D,S,R,ho,_,_⟩:=h;have h3:=wV D.T R.nx;omega
theorem jo.iK (h:jo G a b) {x:List UInt8} (h1:1≤x.length) (h2:x.length≤60):jo G {a with s:=eG a.s x,iD:=a.iD++ [x]} b:=by
 obtain ⟨N,pu,left,sent,hN,D,S,R,ho,hA,hS⟩:=h;exact ⟨N,pu,_,sent,hN,D.iK h1 h2,S.iK D x,R.iK D x,by rw[Q6 D R.nx];exact ho,hA,hS⟩
theorem jo.other (h:jo G a b) (s:Sd) (iD:List (List UInt8)):jo G a {b with s:=s,iD:=iD}:=h
theorem nk {m:List UInt8} {l:List (List UInt8)} {x:List UInt8} (hx:x∈(if m= [] then l else l++ [m])):x∈l∨(x=m∧m≠ []):=by
 split at hx
 ·exact .inl hx
 ·rcases List.mem_append.1 hx with e|e
  ·exact .inl e
  ·simp at e;exact .inr ⟨e,by assumption⟩
theorem Gn.hi {N:Nat} {pu:Nat→Ou} {x:List UInt8} (h:Gn N pu x):V9 x:=by
 obtain ⟨k,a,_,h2,_⟩:=h;exact (UT h2).1
theorem Gp.dec {N:Nat} {pu:Nat→Ou} {H:Nat→Prop} {x:List UInt8} (h:Gp N pu H x):∃aJ l,kL x= .inr (aJ,l)∧V3 N pu H aJ l:=by
 obtain ⟨aJ,l,h1,h2⟩:=h;exact ⟨aJ,l,by rw[h1];exact MR h2.v,h2⟩
theorem Gp.lo {N:Nat} {pu:Nat→Ou} {H:Nat→Prop} {x:List UInt8} (h:Gp N pu H x):¬V9 x:=by
 obtain ⟨aJ,l,h1,_⟩:=h.dec;exact (Rj h1).1
def jM (c:Cf) (a:En) (now n:Int):En:=
 {a with s:=(aM c a.s a.r now n).1,r:=(aM c a.s a.r now n).2.1,sent:=if (aM c a.s a.r now n).2.2.1= [] then a.sent else a.sent++ [(aM c a.s a.r now n).2.2.1]}
theorem yY (c:Cf) (s:Sd) (r:Rc) (now n:Int):
 ((∀H,jl H s (aM c s r now n).1)∧(aM c s r now n).2.1=r∧(aM c s r now n).2.2.1= [])∨
 ((∀H,jl H s (aM c s r now n).1)∧(aM c s r now n).2.1=(dS c (cZ c r now) now n).1∧(aM c s r now n).2.2.1=(dS c (cZ c r now) now n).2.1)∨
 ((aM c s r now n).1=(bV c (fM c s now).1 now n).1∧(aM c s r now n).2.1=cZ c r now∧(aM c s r now n).2.2.1=IU (bV c (fM c s now).1 now n).2.1):=by
 unfold aM;split
 ·exact .inl ⟨fun H=>jl.refl _,rfl,rfl⟩
 split
 ·exact .inl ⟨fun H=>jl.refl _,rfl,rfl⟩
 split
 ·exact .inl ⟨fun H=>jl.fM c s now,rfl,rfl⟩
 split
 ·exact .inr (.inl ⟨fun H=>jl.fM c s now,rfl,rfl⟩)
 ·exact .inr (.inr ⟨rfl,rfl,rfl⟩)
theorem jo.kI (h:jo G a b) (hG:G<511) (hb:fq c a.s K) (_hK:K≤80000) (now n:Int) (dM:now≤9223372036854775807) (h2:jo G b a):jo (G+1) (jM c a now n) b:=by
 obtain ⟨N,pu,left,sent,hN,D,S,R,ho,hA,hS⟩:=h;obtain ⟨N2,pu2,adE,adF,Tk,D2,S2,R2,ho2,hA2,hS2⟩:=h2;rcases yY c a.s a.r now n with ⟨e1,e2,e3⟩|⟨e1,e2,e3⟩|⟨e1,e2,e3⟩
 ·exact ⟨N,pu,left,sent,by omega,D,S.Ox (e1 _),R,ho,fun x hx=>(by rcases nk hx with e|⟨_,e⟩;exact hA x e;exact absurd e3 e),hS⟩
 ·refine ⟨N,pu,left,sent,by omega,D,S.Ox (e1 _),R,ho,fun x hx hi=> ?_,hS⟩;rcases nk hx with e|⟨rfl,e⟩
  ·exact hA x e hi
  ·obtain ⟨g1,g2,g3⟩:=R2.goes D2.T c now;rw[e3] at hi e;exact absurd hi ((g1.grants D2 c now n).2.2.2 e).lo
 ·have hb2:=hb.tick now dM;obtain ⟨N',rY,left',sent',m1,m2,m3,m4,m5,m6,m7⟩:=(S.Ox (jl.fM c a.s now)).kI D (by omega) c hb2 now n dM;have hRx:pO a.iD N' rY left' sent' b.r:=by
   rcases Nat.lt_or_ge N N' with hlt|hge
   ·obtain rfl:N'=N+1:=by omega
    exact R.fresh m3 m4
   ·obtain rfl:N'=N:=by omega
    refine R.ext (aN) m3 ?_;obtain ⟨q1,q2⟩:=m4 b.r.next R.nx
    have:=R.op;unfold yV at this ⊢;rw[q1,q2];exact this
  refine ⟨N',rY,left',sent',by omega,m5,by show uf _ _ _ _ _ _ (aM c a.s a.r now n).1;rw[e1];exact m6,hRx,?_,fun x hx hi=> ?_,fun x hx hlo=>(hS x hx hlo).mono m1 m3 (fun _ hk=>hk)⟩
  ·rw[ho];unfold oJ;rw[(m4 b.r.next R.nx).1];rfl
  ·rcases nk hx with e|⟨rfl,e⟩
   ·exact (hA x e hi).mono m1 m3
   ·rw[e3] at e ⊢;cases hp:(bV c (fM c a.s now).1 now n).2.1 with
    |none=>rw[hp] at e;exact absurd rfl e
    |some p=>exact m7 p hp
theorem jo.granted (h:jo G a b) (hG:G<511) (hb:fq c b.s K) (_hK:K≤80000) (now n:Int) (dM:now≤9223372036854775807) (h2:jo G b a):jo (G+1) a (jM c b now n):=by
 obtain ⟨N,pu,left,sent,hN,D,S,R,ho,hA,hS⟩:=h;obtain ⟨N2,pu2,adE,adF,Tk,D2,S2,R2,ho2,hA2,hS2⟩:=h2;rcases yY c b.s b.r now n with ⟨e1,e2,e3⟩|⟨e1,e2,e3⟩|⟨e1,e2,e3⟩
 ·have e2':(jM c b now n).r=b.r:=e2;exact ⟨N,pu,left,sent,by omega,D,by rw[e2'];exact S,by rw[e2'];exact R,by rw[e2'];exact ho,hA,fun x hx=>(by rw[e2'];rcases nk hx with e|⟨_,e⟩;exact hS x e;exact absurd e3 e)⟩
 ·have e2':(jM c b now n).r=(dS c (cZ c b.r now) now n).1:=e2;obtain ⟨g1,g2,g3⟩:=R.goes D.T c now;obtain ⟨q1,q2,q3,q4⟩:=g1.grants D c now n;have hH:∀k,Has b.r k→Has (jM c b now n).r k:=fun k hk=>by rw[e2'];unfold Has at hk ⊢;rwa [q2,q3,g2,g3]
  have hH0:∀k,Has (cZ c b.r now) k→Has (jM c b now n).r k:=fun k hk=>by rw[e2'];unfold Has at hk ⊢;rwa [q2,q3]
  refine ⟨N,pu,left,sent,by omega,D,S.mono hH,by rw[e2'];exact q1,by rw[e2',q2,g2];exact ho,hA,fun x hx hlo=> ?_⟩;rcases nk hx with e|⟨rfl,e⟩
  ·exact (hS x e hlo).mono (aN) (fun _ _=>rfl) hH
  ·rw[e3] at e ⊢;exact (q4 e).mono (aN) (fun _ _=>rfl) hH0
 ·have e2':(jM c b now n).r=cZ c b.r now:=e2;obtain ⟨g1,g2,g3⟩:=R.goes D.T c now;have hH:∀k,Has b.r k→Has (jM c b now n).r k:=fun k hk=>by rw[e2'];unfold Has at hk ⊢;rwa [g2,g3]
  refine ⟨N,pu,left,sent,by omega,D,S.mono hH,by rw[e2'];exact g1,by rw[e2',g2];exact ho,hA,fun x hx hlo=> ?_⟩;rcases nk hx with e|⟨rfl,e⟩
  ·exact (hS x e hlo).mono (aN) (fun _ _=>rfl) hH
  ·exfalso;rw[e3] at e hlo;have hb2:=hb.tick now dM;obtain ⟨N',rY,left',sent',m1,m2,m3,m4,m5,m6,m7⟩:=(S2.Ox (jl.fM c b.s now)).kI D2 (by omega) c hb2 now n dM;cases hp:(bV c (fM c b.s now).1 now n).2.1 with
   |none=>rw[hp] at e;exact absurd rfl e
   |some p=>rw[hp] at hlo;exact hlo (m7 p hp).hi
def nu (c:Cf) (a:En) (now:Int) (x:List UInt8):En:=
 {a with s:=(bF c a.s a.r now x).1,r:=(bF c a.s a.r now x).2.1,out:=a.out+(bF c a.s a.r now x).2.2.1.length}
theorem jo.report (h:jo G a b) {x:List UInt8} (hx:x∈b.sent) (hne:x≠ []) (now:Int):jo G (nu c a now x) b:=by
 obtain ⟨N,pu,left,sent,hN,D,S,R,ho,hA,hS⟩:=h;refine ⟨N,pu,left,sent,hN,D,?_,R,ho,hA,hS⟩;show uf a.iD N pu left sent (Has b.r) (bF c a.s a.r now x).1
 unfold bF;rw[if_neg hne];split
 ·rename_i hlo;obtain ⟨aJ,l,e1,e2⟩:=(hS x hx (by unfold V9;omega)).dec;rw[e1];exact S.status D c now e2
 ·exact S
theorem jo.data (h:jo G a b) {x:List UInt8} (hx:x∈a.sent) (hne:x≠ []) (now:Int):jo G a (nu c b now x)∧
 b.out+(bF c b.s b.r now x).2.2.1.length≤a.iD.length∧(bF c b.s b.r now x).2.2.1=(a.iD.drop b.out).take (bF c b.s b.r now x).2.2.1.length:=by
 have hle:=h.Y3;obtain ⟨N,pu,left,sent,hN,D,S,R,ho,hA,hS⟩:=h;by_cases hlo:(x.headD 0).toNat<128
 ·have e:(bF c b.s b.r now x).2.1=b.r∧(bF c b.s b.r now x).2.2.1= []:=by
   unfold bF;rw[if_neg hne,if_pos hlo];cases kL x<;>exact ⟨rfl,rfl⟩
  have e1:(nu c b now x).r=b.r:=e.1;have e2:(nu c b now x).out=b.out:=by show b.out+_=_;rw[e.2];rfl
  rw[e.2];exact ⟨⟨N,pu,left,sent,hN,D,by rw[e1];exact S,by rw[e1];exact R,by rw[e1,e2];exact ho,hA,fun y hy=>by rw[e1];exact hS y hy⟩,by simpa using hle,by simp⟩
 ·obtain ⟨k,ap,h1,h2,h3⟩:=hA x hx (by unfold V9;omega);obtain ⟨r1,r2,r3,r4,_⟩:=Q5 D.T R c now h1 h3 h2;have e:(bF c b.s b.r now x).2.1=(fK c b.r now x).1∧(bF c b.s b.r now x).2.2.1=(fK c b.r now x).2.1:=by
   unfold bF;rw[if_neg hne,if_neg hlo];exact ⟨rfl,rfl⟩
  have e1:(nu c b now x).r=(fK c b.r now x).1:=e.1;have e2:(nu c b now x).out=b.out+(fK c b.r now x).2.1.length:=by show b.out+_=_;rw[e.2]
  rw[e.2];have h4:=wV D.T r1.nx;have h5:=congrArg List.length r3;rw[List.length_append,←ho] at h5;refine ⟨⟨N,pu,left,sent,hN,D,by rw[e1];exact S.mono r4,by rw[e1];exact r1,by rw[e1,e2];exact h5.symm,hA,fun y hy hl=>by rw[e1];exact (hS y hy hl).mono (aN) (fun _ _=>rfl) r4⟩,by omega,?_⟩;have h6:=D.T.done r1.nx;rw[r3] at h6;have h7:a.iD.drop b.out=(fK c b.r now x).2.1++left (fK c b.r now x).1.next:=by
   conv=>lhs;rw[h6]
   rw[List.append_assoc,ho,List.drop_left]
  rw[h7,List.take_left]
end
end
end Go.Proofs.YtbhiklnljiehiaaGreat
