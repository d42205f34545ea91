/- law37, plain: a link of two entities. -/
import Derived.Test.YtbhiklnljiehiaaGreatM3bm
namespace Go.Proofs.YtbhiklnljiehiaaGreat
open RowKit Tryz
def VG (x:List UInt8):Prop:=128<=(x.headD 0).toNat
theorem Rh {bs:List UInt8} {a:jY} (h:qx bs= .inr a):VG bs/\bs≠ []:=by
 unfold qx at h;split at h
 ·cases h
 rename_i h2;split at h
 ·cases h
 rename_i h3;cases bs with
 |nil=>simp at h2
 |cons b r=>
  have h4:val (ax (b::r) 0 1)=1:=G7 h3;refine ⟨?_,by simp⟩;have hb:=b.toNat_lt;have e:ax (b::r) 0 1= [decide (b.toNat/128%2=1)]:=by simp[ax,zN]
  rw[e] at h4;show 128<=b.toNat
  by_cases hd:b.toNat/128%2=1
  ·omega
  ·rw[iP hd] at h4;cases h4
theorem Ny {bs:List UInt8} {R:Nat × List Nk} (h:mO bs= .inr R):¬VG bs/\bs≠ []:=by
 unfold mO at h;split at h
 ·cases h
 rename_i h2;split at h
 ·cases h
 rename_i h3;cases bs with
 |nil=>simp at h2
 |cons b r=>
  have h4:val (ax (b::r) 0 4)=0:=G7 h3;refine ⟨?_,by simp⟩;have hb:=b.toNat_lt;have e:=val_zero _ h4;rw[gF,show 4=1+3 from rfl,Ow] at e;have e1:=congrArg (fun l=>l[0]?) e;simp[ax,zN] at e1;show ¬128<=b.toNat
  omega
def aS (c:Cf) (s:Sd) (r:Rc) (now:Int) (x:List UInt8):Sd × Rc × List (List UInt8) × Int:=
 if x= [] then (s,r,[],5)
 else if (x.headD 0).toNat<128 then match mO x with
  | .inl er=>(s,r,[],(er:Nat))
  | .inr R=>((bP c s now (R.1:Nat) R.2).1,r,[],(bP c s now (R.1:Nat) R.2).2)
 else (s,(fZ c r now x).1,(fZ c r now x).2.1,((fZ c r now x).2.2:Nat))
structure En where
 s:Sd
 r:Rc
 sent:List (List UInt8)
 iA:List (List UInt8)
 out:Nat
def jg (G:Nat) (a b:En):Prop:=∃N pu left sent,N<=G/\Dir a.iA N pu left sent/\qU a.iA N pu left sent (Has b.r) a.s/\jF a.iA N pu left sent b.r/\b.out=(rW a.iA left b.r.next).length/\
 (∀x∈a.sent,VG x->KX N pu x)/\(∀x∈b.sent,¬VG x->KY N pu (Has b.r) x)
section
variable {a b:En} {G K:Nat} {c:Cf}
theorem jg.start (ha:a.s=dO) (hr:b.r=gL) (h1:a.iA= []) (h2:b.out=0) (h3:a.sent= []) (h4:b.sent= []):jg 0 a b:=by
 have D:=Dir.start a.iA (fun _=>⟨0,false,false,[],false,[],0⟩) h1;refine ⟨0,_,_,_,aL,D,⟨?_,?_,?_,?_,?_,fun i x hx=> ?_,fun i x hx=> ?_,fun k hk=> ?_⟩,by rw[hr];exact jF.start D.T,by rw[h2,h1];rfl,by rw[h3];simp,by rw[h4];simp⟩<;>rw[ha] at*
 ·rfl
 ·rw[h1];rfl
 ·rfl
 ·rfl
 ·rfl
 ·cases hx
 ·cases hx
 ·cases hk
theorem jg.confirmed (h:jg G a b):a.s.done<=b.out:=by
 obtain ⟨N,pu,left,sent,_,D,S,R,ho,_,_⟩:=h;have h1:=R.ab5 S.has;have h2:=Jm D.T h1 R.nx;have h3:=AQ D.T R.nx;have h4:=S.dn;omega
theorem jg.VH (h:jg G a b):b.out<=a.iA.length:=by
 obtain ⟨N,pu,left,sent,_,D,S,R,ho,_,_⟩:=h;have h3:=AQ D.T R.nx;omega
theorem jg.iY (h:jg G a b) {x:List UInt8} (h1:1<=x.length) (h2:x.length<=60):jg G {a with s:=dQ a.s x,iA:=a.iA++ [x]} b:=by
 obtain ⟨N,pu,left,sent,hN,D,S,R,ho,hA,hS⟩:=h;exact ⟨N,pu,_,sent,hN,D.iY h1 h2,S.iY D x,R.iY D x,by rw[VF D R.nx];exact ho,hA,hS⟩
theorem jg.other (h:jg G a b) (s:Sd) (iA:List (List UInt8)):jg G a {b with s:=s,iA:=iA}:=h
theorem qE {m:List UInt8} {l:List (List UInt8)} {x:List UInt8} (hx:x∈(if m= [] then l else l++ [m])):x∈l\/(x=m/\m≠ []):=by
 split at hx
 ·exact .inl hx
 ·rcases iH.1 hx with e|e
  ·exact .inl e
  ·simp at e;exact .inr ⟨e,by assumption⟩
theorem KX.hi {N:Nat} {pu:Nat->Ou} {x:List UInt8} (h:KX N pu x):VG x:=by
 obtain ⟨k,a,_,h2,_⟩:=h;exact (Rh h2).1
theorem KY.dec {N:Nat} {pu:Nat->Ou} {H:Nat->Prop} {x:List UInt8} (h:KY N pu H x):∃aA l,mO x= .inr (aA,l)/\Rep N pu H aA l:=by
 obtain ⟨aA,l,h1,h2⟩:=h;exact ⟨aA,l,by rw[h1];exact Jq h2.v,h2⟩
theorem KY.lo {N:Nat} {pu:Nat->Ou} {H:Nat->Prop} {x:List UInt8} (h:KY N pu H x):¬VG x:=by
 obtain ⟨aA,l,h1,_⟩:=h.dec;exact (Ny h1).1
def dL (c:Cf) (a:En) (now n:Int):En:=
 {a with s:=(aF c a.s a.r now n).1,r:=(aF c a.s a.r now n).2.1,sent:=if (aF c a.s a.r now n).2.2.1= [] then a.sent else a.sent++ [(aF c a.s a.r now n).2.2.1]}
theorem Dg (c:Cf) (s:Sd) (r:Rc) (now n:Int):
 ((∀H,jV H s (aF c s r now n).1)/\(aF c s r now n).2.1=r/\(aF c s r now n).2.2.1= [])\/
 ((∀H,jV H s (aF c s r now n).1)/\(aF c s r now n).2.1=(dG c (aM c r now) now n).1/\(aF c s r now n).2.2.1=(dG c (aM c r now) now n).2.1)\/
 ((aF c s r now n).1=(aZ c (eY c s now).1 now n).1/\(aF c s r now n).2.1=aM c r now/\(aF c s r now n).2.2.1=D7 (aZ c (eY c s now).1 now n).2.1):=by
 unfold aF;split
 ·exact .inl ⟨fun H=>jV.refl _,rfl,rfl⟩
 split
 ·exact .inl ⟨fun H=>jV.refl _,rfl,rfl⟩
 split
 ·exact .inl ⟨fun H=>jV.eY c s now,rfl,rfl⟩
 split
 ·exact .inr (.inl ⟨fun H=>jV.eY c s now,rfl,rfl⟩)
 ·exact .inr (.inr ⟨rfl,rfl,rfl⟩)
theorem jg.ko (h:jg G a b) (hG:G<511) (hb:fu c a.s K) (_hK:K<=80000) (now n:Int) (ed:now<=9223372036854775807) (h2:jg G b a):jg (G+1) (dL c a now n) b:=by
 obtain ⟨N,pu,left,sent,hN,D,S,R,ho,hA,hS⟩:=h;obtain ⟨N2,pu2,aay,aaz,Yu,D2,S2,R2,ho2,hA2,hS2⟩:=h2;rcases Dg c a.s a.r now n with ⟨e1,e2,e3⟩|⟨e1,e2,e3⟩|⟨e1,e2,e3⟩
 ·exact ⟨N,pu,left,sent,by omega,D,S.QY (e1 _),R,ho,fun x hx=>(by rcases qE hx with e|⟨_,e⟩;exact hA x e;exact absurd e3 e),hS⟩
 ·refine ⟨N,pu,left,sent,by omega,D,S.QY (e1 _),R,ho,fun x hx hi=> ?_,hS⟩;rcases qE hx with e|⟨rfl,e⟩
  ·exact hA x e hi
  ·obtain ⟨g1,g2,g3⟩:=R2.goes D2.T c now;rw[e3] at hi e;exact absurd hi ((g1.grants D2 c now n).2.2.2 e).lo
 ·have hb2:=hb.tick now ed;obtain ⟨N',vN,left',sent',m1,m2,m3,m4,m5,m6,m7⟩:=(S.QY (jV.eY c a.s now)).ko D (by omega) c hb2 now n ed;have hRx:jF a.iA N' vN left' sent' b.r:=by
   rcases kD N N' with hlt|hge
   ·obtain rfl:N'=N+1:=by omega
    exact R.fresh m3 m4
   ·obtain rfl:N'=N:=by omega
    refine R.ext (aL) m3 ?_;obtain ⟨q1,q2⟩:=m4 b.r.next R.nx
    have:=R.op;unfold CV at this ⊢;rw[q1,q2];exact this
  refine ⟨N',vN,left',sent',by omega,m5,by show qU _ _ _ _ _ _ (aF c a.s a.r now n).1;rw[e1];exact m6,hRx,?_,fun x hx hi=> ?_,fun x hx hlo=>(hS x hx hlo).mono m1 m3 (fun _ hk=>hk)⟩
  ·rw[ho];unfold rW;rw[(m4 b.r.next R.nx).1];rfl
  ·rcases qE hx with e|⟨rfl,e⟩
   ·exact (hA x e hi).mono m1 m3
   ·rw[e3] at e ⊢;cases hp:(aZ c (eY c a.s now).1 now n).2.1 with
    |none=>rw[hp] at e;exact absurd rfl e
    |some p=>exact m7 p hp
theorem jg.granted (h:jg G a b) (hG:G<511) (hb:fu c b.s K) (_hK:K<=80000) (now n:Int) (ed:now<=9223372036854775807) (h2:jg G b a):jg (G+1) a (dL c b now n):=by
 obtain ⟨N,pu,left,sent,hN,D,S,R,ho,hA,hS⟩:=h;obtain ⟨N2,pu2,aay,aaz,Yu,D2,S2,R2,ho2,hA2,hS2⟩:=h2;rcases Dg c b.s b.r now n with ⟨e1,e2,e3⟩|⟨e1,e2,e3⟩|⟨e1,e2,e3⟩
 ·have e2':(dL c b now n).r=b.r:=e2;exact ⟨N,pu,left,sent,by omega,D,by rw[e2'];exact S,by rw[e2'];exact R,by rw[e2'];exact ho,hA,fun x hx=>(by rw[e2'];rcases qE hx with e|⟨_,e⟩;exact hS x e;exact absurd e3 e)⟩
 ·have e2':(dL c b now n).r=(dG c (aM c b.r now) now n).1:=e2;obtain ⟨g1,g2,g3⟩:=R.goes D.T c now;obtain ⟨q1,q2,q3,q4⟩:=g1.grants D c now n;have hH:∀k,Has b.r k->Has (dL c b now n).r k:=fun k hk=>by rw[e2'];unfold Has at hk ⊢;rwa [q2,q3,g2,g3]
  have hH0:∀k,Has (aM c b.r now) k->Has (dL c b now n).r k:=fun k hk=>by rw[e2'];unfold Has at hk ⊢;rwa [q2,q3]
  refine ⟨N,pu,left,sent,by omega,D,S.mono hH,by rw[e2'];exact q1,by rw[e2',q2,g2];exact ho,hA,fun x hx hlo=> ?_⟩;rcases qE hx with e|⟨rfl,e⟩
  ·exact (hS x e hlo).mono (aL) (fun _ _=>rfl) hH
  ·rw[e3] at e ⊢;exact (q4 e).mono (aL) (fun _ _=>rfl) hH0
 ·have e2':(dL c b now n).r=aM c b.r now:=e2;obtain ⟨g1,g2,g3⟩:=R.goes D.T c now;have hH:∀k,Has b.r k->Has (dL c b now n).r k:=fun k hk=>by rw[e2'];unfold Has at hk ⊢;rwa [g2,g3]
  refine ⟨N,pu,left,sent,by omega,D,S.mono hH,by rw[e2'];exact g1,by rw[e2',g2];exact ho,hA,fun x hx hlo=> ?_⟩;rcases qE hx with e|⟨rfl,e⟩
  ·exact (hS x e hlo).mono (aL) (fun _ _=>rfl) hH
  ·exfalso;rw[e3] at e hlo;have hb2:=hb.tick now ed;obtain ⟨N',vN,left',sent',m1,m2,m3,m4,m5,m6,m7⟩:=(S2.QY (jV.eY c b.s now)).ko D2 (by omega) c hb2 now n ed;cases hp:(aZ c (eY c b.s now).1 now n).2.1 with
   |none=>rw[hp] at e;exact absurd rfl e
   |some p=>rw[hp] at hlo;exact hlo (m7 p hp).hi
def lU (c:Cf) (a:En) (now:Int) (x:List UInt8):En:=
 {a with s:=(aS c a.s a.r now x).1,r:=(aS c a.s a.r now x).2.1,out:=a.out+(aS c a.s a.r now x).2.2.1.length}
theorem jg.report (h:jg G a b) {x:List UInt8} (hx:x∈b.sent) (hne:x≠ []) (now:Int):jg G (lU c a now x) b:=by
 obtain ⟨N,pu,left,sent,hN,D,S,R,ho,hA,hS⟩:=h;refine ⟨N,pu,left,sent,hN,D,?_,R,ho,hA,hS⟩;show qU a.iA N pu left sent (Has b.r) (aS c a.s a.r now x).1
 unfold aS;rw[aP hne];split
 ·rename_i hlo;obtain ⟨aA,l,e1,e2⟩:=(hS x hx (by unfold VG;omega)).dec;rw[e1];exact S.status D c now e2
 ·exact S
theorem jg.data (h:jg G a b) {x:List UInt8} (hx:x∈a.sent) (hne:x≠ []) (now:Int):jg G a (lU c b now x)/\
 b.out+(aS c b.s b.r now x).2.2.1.length<=a.iA.length/\(aS c b.s b.r now x).2.2.1=(a.iA.drop b.out).take (aS c b.s b.r now x).2.2.1.length:=by
 have hle:=h.VH;obtain ⟨N,pu,left,sent,hN,D,S,R,ho,hA,hS⟩:=h;by_cases hlo:(x.headD 0).toNat<128
 ·have e:(aS c b.s b.r now x).2.1=b.r/\(aS c b.s b.r now x).2.2.1= []:=by
   unfold aS;rw[aP hne,bD hlo];cases mO x<;>exact ⟨rfl,rfl⟩
  have e1:(lU c b now x).r=b.r:=e.1;have e2:(lU c b now x).out=b.out:=by show b.out+_=_;rw[e.2];rfl
  rw[e.2];exact ⟨⟨N,pu,left,sent,hN,D,by rw[e1];exact S,by rw[e1];exact R,by rw[e1,e2];exact ho,hA,fun y hy=>by rw[e1];exact hS y hy⟩,by simpa using hle,by simp⟩
 ·obtain ⟨k,ap,h1,h2,h3⟩:=hA x hx (by unfold VG;omega);obtain ⟨r1,r2,r3,r4,_⟩:=UR D.T R c now h1 h3 h2;have e:(aS c b.s b.r now x).2.1=(fZ c b.r now x).1/\(aS c b.s b.r now x).2.2.1=(fZ c b.r now x).2.1:=by
   unfold aS;rw[aP hne,aP hlo];exact ⟨rfl,rfl⟩
  have e1:(lU c b now x).r=(fZ c b.r now x).1:=e.1;have e2:(lU c b now x).out=b.out+(fZ c b.r now x).2.1.length:=by show b.out+_=_;rw[e.2]
  rw[e.2];have h4:=AQ D.T r1.nx;have h5:=congrArg List.length r3;rw[l8,<-ho] at h5;refine ⟨⟨N,pu,left,sent,hN,D,by rw[e1];exact S.mono r4,by rw[e1];exact r1,by rw[e1,e2];exact h5.symm,hA,fun y hy hl=>by rw[e1];exact (hS y hy hl).mono (aL) (fun _ _=>rfl) r4⟩,by omega,?_⟩;have h6:=D.T.done r1.nx;rw[r3] at h6;have h7:a.iA.drop b.out=(fZ c b.r now x).2.1++left (fZ c b.r now x).1.next:=by
   conv=>lhs;rw[h6]
   rw[oJ,ho,List.drop_left]
  rw[h7,List.take_left]
end
end Go.Proofs.YtbhiklnljiehiaaGreat
