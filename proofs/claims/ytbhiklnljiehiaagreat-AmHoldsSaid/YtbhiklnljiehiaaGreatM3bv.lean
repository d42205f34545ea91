/- AmHolds, plain: what pending ranges cost. -/
import Derived.Test.YtbhiklnljiehiaaGreatM3bn
namespace Go.Proofs.YtbhiklnljiehiaaGreat
open Tryz
def qm (l:List (Nat × Nat)) (j:Nat):Bool:=l.any fun r=>decide (r.1<=j)&&decide (j<=r.2)
theorem DV {l:List (Nat × Nat)} {j:Nat}:qm l j=true↔∃r∈l,r.1<=j/\j<=r.2:=by simp[qm]
def OD (p:Nat->Bool) (j:Nat):Bool:=p j||(decide (0<j)&&p (j-1))
def cst (z:Nat) (p:Nat->Bool):Nat:=(List.range (z+1)).countP (OD p)
theorem abo (z:Nat) (p:Nat->Bool):cst z p<=z+1:=by
 unfold cst;refine gG List.countP_le_length ?_;simp
theorem Mc {p q:Nat->Bool} (h:∀j,p j=true->q j=true) {j:Nat} (hj:OD p j=true):OD q j=true:=by
 unfold OD at hj ⊢;simp only[Bool.or_eq_true,gD,gY] at hj ⊢;rcases hj with e|⟨e,e2⟩
 .exact .inl (h _ e)
 .exact .inr ⟨e,h _ e2⟩
theorem Ug {z:Nat} {p q:Nat->Bool} (h:∀j,p j=true->q j=true):cst z p<=cst z q:=
 List.countP_mono_left fun _ _ hj=>Mc h hj
theorem Uh {z:Nat} {p:Nat->Bool} (h:∀j,p j=false):cst z p=0:=by
 unfold cst;rw[List.countP_eq_zero];intro j _;simp[OD,h]
theorem IX {l:List Nat} (hl:l.Nodup) {q:Nat->Bool} {a:Nat} (ha:a∈l) (hq:q a=true):l.countP (fun j=>q j&&decide (j≠a))+1=l.countP q:=by
 induction l with
 |nil=>cases ha
 |cons x r ih=>
  rw[List.nodup_cons] at hl;rw[List.countP_cons,List.countP_cons];rcases nE.1 ha with rfl|h
  .have e:r.countP (fun j=>q j&&decide (j≠a))=r.countP q:=List.countP_congr fun j hj=>by
    have:j≠a:=fun e=>hl.1 (e ▸ hj)
    simp[this]
   rw[e];simp[hq]
  .have hne:x≠a:=fun e=>hl.1 (e ▸ h)
   have:=ih hl.2 h;simp[hne] at this ⊢;omega
theorem XI {z:Nat} {p q:Nat->Bool} (h:∀j,p j=true->q j=true) {a:Nat} (ha:a<z) (hq:q a=true) (h0:p a=false) (h1:p (a+1)=false) (h2:a=0\/p (a-1)=false):cst z p+2<=cst z q:=by
 unfold cst;have n:=List.nodup_range (n:=z+1);have e1:OD q a=true:=by simp[OD,hq]
 have e2:OD q (a+1)=true:=by simp[OD,hq]
 have s1:=IX n (q:=OD q) (a:=a) (by simp;omega) e1;have s2:=IX n (q:=fun j=>OD q j&&decide (j≠a)) (a:=a+1) (by simp;omega) (by simp[e2]);have s3:(List.range (z+1)).countP (OD p)<=(List.range (z+1)).countP (fun j=>(OD q j&&decide (j≠a))&&decide (j≠a+1)):=by
  refine List.countP_mono_left fun j _ hj=> ?_
  simp only[gD,gY];refine ⟨⟨Mc h hj,?_⟩,?_⟩
  .rintro rfl;simp only[OD,h0,uP,gD,gY] at hj;rcases h2 with e|e
   .omega
   .rw[e] at hj;exact absurd hj.2 (by simp)
  .rintro rfl;simp[OD,h0,h1] at hj
 omega
def sH (z:Nat) (l:List (Nat × Nat)):Prop:=l.Pairwise (fun a b=>a.2+1<b.1)/\∀r∈l,r.1<=r.2/\r.2<z
theorem sH.nil (z:Nat):sH z []:=⟨List.Pairwise.nil,by simp⟩
theorem sH.whole {z:Nat} (h:1<=z):sH z [(0,z-1)]:=⟨by simp,by simp;omega⟩
theorem sI (r:Nat × Nat) (l:List (Nat × Nat)) (j:Nat):qm (r::l) j=(decide (r.1<=j)&&decide (j<=r.2)||qm l j):=rfl
theorem sH.rest {z:Nat} {r:Nat × Nat} {l:List (Nat × Nat)} (h:sH z (r::l)) {j:Nat} (hj:qm l j=true):r.2+1<j:=by
 obtain ⟨q,hq,h1,h2⟩:=DV.1 hj;have:=(List.pairwise_cons.1 h.1).1 q hq;omega
theorem sH.again {z fr e0 K:Nat} {rest:List (Nat × Nat)} (h:sH z ((fr,e0)::rest)) (h1:fr<K) (h2:K<=e0+1) (h3:K=e0+1\/fr+2<=K):
 sH z (if K=e0+1 then rest else (K,e0)::rest)/\cst z (qm (if K=e0+1 then rest else (K,e0)::rest))+2<=cst z (qm ((fr,e0)::rest))/\
 ∀j,qm ((fr,e0)::rest) j=true->qm (if K=e0+1 then rest else (K,e0)::rest) j=true\/(fr<=j/\j<K):=by
 have hp:=List.pairwise_cons.1 h.1;have hr:=h.2 (fr,e0) (by simp);dsimp only at hr;have hz:∀j,qm rest j=true->e0+1<j:=fun j hj=>h.rest hj
 have hf:∀j,j<=e0+1->qm rest j=false:=fun j hj=>by
  cases hh:qm rest j with
  |false=>rfl
  |true=>have:=hz j hh;omega
 have hb:∀j,qm (if K=e0+1 then rest else (K,e0)::rest) j=(decide (K<=j)&&decide (j<=e0)||qm rest j):=fun j=>by
  split
  .rename_i e;have:(decide (K<=j)&&decide (j<=e0))=false:=by
    rw[Bool.and_eq_false_iff];simp;omega
   rw[this,uP]
  .rfl
 refine ⟨?_,XI (a:=fr) (fun j hj=> ?_) (by omega) (by rw[sI];simp;omega) ?_ ?_ ?_,fun j hj=> ?_⟩
 .split
  .exact ⟨hp.2,fun r hm=>h.2 r (by simp[hm])⟩
  .refine ⟨List.pairwise_cons.2 ⟨hp.1,hp.2⟩,fun r hm=> ?_⟩;rcases nE.1 hm with rfl|hm
   .dsimp only;omega
   .exact h.2 r (by simp[hm])
 .rw[hb] at hj;rw[sI];simp only[Bool.or_eq_true,gD,gY] at hj ⊢;rcases hj with e|e
  .exact .inl (by omega)
  .exact .inr e
 .rw[hb,hf fr (by omega)];simp;omega
 .rw[hb,hf (fr+1) (by omega)];simp;omega
 .by_cases e:fr=0
  .exact .inl e
  .refine .inr ?_;rw[hb,hf (fr-1) (by omega)];simp;omega
 .rw[sI] at hj;rw[hb];simp only[Bool.or_eq_true,gD,gY] at hj ⊢;rcases hj with e|e
  .by_cases hk:K<=j
   .exact .inl (.inl ⟨hk,e.2⟩)
   .exact .inr (by omega)
  .exact .inl (.inr e)
def DN (st:Rc) (k j:Nat):Prop:=k<st.next\/∃p,st.m k=some p/\(dZ p.fl j).1=true
def Cr (l:List Nk) (sn j:Nat):Prop:=∃n∈l,n.sn=(sn:Int)/\(bH n).1<=j/\j<=(bH n).2
theorem Nv {a b:List Nk} {sn j:Nat}:Cr (a++b) sn j↔Cr a sn j\/Cr b sn j:=by
 constructor
 .rintro ⟨n,hn,h⟩;rcases iH.1 hn with e|e
  .exact .inl ⟨n,e,h⟩
  .exact .inr ⟨n,e,h⟩
 .rintro (⟨n,hn,h⟩|⟨n,hn,h⟩)
  .exact ⟨n,by simp[hn],h⟩
  .exact ⟨n,by simp[hn],h⟩
theorem Gd:∀(l:List Fl) (i fr j:Nat),fr<=i->(qm (dS l i fr) j=true↔(fr<=j/\j<i)\/(i<=j/\j<i+l.length/\(dZ l (j-i)).1=false))
 | [],i,fr,j,h=>by
  unfold dS;split
  .simp[qm];omega
  .simp[qm];omega
 |f::t,i,fr,j,h=>by
  have e0:dZ (f::t) 0=f:=rfl;have e1:i<j->dZ (f::t) (j-i)=dZ t (j-(i+1)):=fun hj=>by
   rw[show j-i=(j-(i+1))+1 by omega];rfl
  unfold dS;split
  .rename_i hf;rw[Gd t (i+1) fr j (by omega),jh];rcases Nat.lt_trichotomy j i with hj|rfl|hj
   .omega
   .rw[Nat.sub_self,e0];simp[hf];omega
   .rw[e1 hj];constructor
    .rintro (e|e)
     .omega
     .exact .inr ⟨by omega,by omega,e.2.2⟩
    .rintro (e|e)
     .omega
     .exact .inr ⟨by omega,by omega,e.2.2⟩
  .rename_i hf;have hf2:f.1=true:=by simpa using hf
   have ih:=Gd t (i+1) (i+1) j (aL);have key:(fr<=j/\j<i)\/qm (dS t (i+1) (i+1)) j=true↔(fr<=j/\j<i)\/(i<=j/\j<i+(f::t).length/\(dZ (f::t) (j-i)).1=false):=by
    rw[ih,jh];rcases Nat.lt_trichotomy j i with hj|rfl|hj
    .omega
    .rw[Nat.sub_self,e0,hf2];simp;omega
    .rw[e1 hj];constructor
     .rintro (e|e|e)
      .omega
      .omega
      .exact .inr ⟨by omega,by omega,e.2.2⟩
     .rintro (e|e)
      .omega
      .exact .inr (.inr ⟨by omega,by omega,e.2.2⟩)
   rw[<-key];split
   .rw[sI];simp only[Bool.or_eq_true,gD,gY];constructor
    .rintro (e|e)
     .exact .inl (by omega)
     .exact .inr e
    .rintro (e|e)
     .exact .inl (by omega)
     .exact .inr e
   .constructor
    .exact fun e=> .inr e
    .rintro (e|e)
     .omega
     .exact e
theorem Gf (sn:Nat) (r:Nat × Nat):bH (eT sn r)=r:=by simp[bH,eT]
theorem Nw (l:List (Nat × Nat)) (sn j:Nat):Cr (l.map (eT sn)) sn j↔qm l j=true:=by
 rw[DV];constructor
 .rintro ⟨n,hn,_,h⟩;obtain ⟨r,hr,rfl⟩:=List.mem_map.1 hn;rw[Gf] at h;exact ⟨r,hr,h⟩
 .rintro ⟨r,hr,h⟩;exact ⟨_,List.mem_map.2 ⟨r,hr,rfl⟩,rfl,by rw[Gf];exact h⟩
theorem YY {x:Ou} {sn:Nat} {o:Option Sp} (hsz:au x<=32767) (ho:∀p,o=some p->kP x p) {j:Nat} (hj:j<au x):
 Cr (jf sn o) sn j↔¬∃p,o=some p/\(dZ p.fl j).1=true:=by
 cases o with
 |none=>
  have:Cr (jf sn none) sn j:=⟨⟨sn,false,0,0⟩,by simp[jf],rfl,by simp[bH],by simp[bH];omega⟩;simp[this]
 |some p=>
  have hs:=ho p rfl;have e:(∃q,some p=some q/\(dZ q.fl j).1=true)↔(dZ p.fl j).1=true:=by simp
  rw[e];have g:=Gd p.fl 0 0 j (aL);rw[Nat.sub_zero] at g;rcases hs.size with ⟨e,hl⟩|⟨e,hl⟩
  .have hE:jf sn (some p)=(dS p.fl 0 0).map (eT sn)++ [⟨sn,true,p.fl.length,32767⟩]:=by simp only[jf,e]
   rw[hE,Nv,Nw,g];have hlast:Cr [⟨(sn:Int),true,(p.fl.length:Int),32767⟩] sn j↔p.fl.length<=j:=by
    constructor
    .rintro ⟨n,hn,_,h1,_⟩;simp at hn;subst hn;simpa[bH] using h1
    .intro h;exact ⟨⟨(sn:Int),true,(p.fl.length:Int),32767⟩,by simp,rfl,by simpa[bH] using h,by simp[bH];omega⟩
   rw[hlast];have hfl:p.fl.length<=j->(dZ p.fl j).1=false:=fun h=>by
    unfold dZ;rw[kV h];rfl
   constructor
   .rintro ((h|h)|h)
    .omega
    .simp[h.2.2]
    .simp[hfl h]
   .intro h;by_cases hlt:j<p.fl.length
    .exact .inl (.inr ⟨eH _,by omega,by simpa using h⟩)
    .exact .inr (by omega)
  .have hE:jf sn (some p)=(dS (je (au x) p.fl) 0 0).map (eT sn):=by simp only[jf,e]
   rw[hE,I9 (by omega),Nw,g];constructor
   .rintro (h|h)
    .omega
    .simp[h.2.2]
   .intro h;exact .inr ⟨eH _,by omega,by simpa using h⟩
section
variable {aD:List (List UInt8)} {N:Nat} {pu:Nat->Ou} {left:Nat->List (List UInt8)} {sent:Nat->Nat}
theorem jF.Re {st:Rc} (h:jF aD N pu left sent st) {k:Nat} (hk:Has st k) {j:Nat} (hj:j<au (pu k)):DN st k j:=by
 rcases hk with e|e
 .exact .inl e
 .cases hm:st.m k with
  |none=>rw[hm] at e;cases e
  |some p=>
   rw[hm] at e;obtain ⟨h1,h2,_⟩:=(h.m k p hm).2.2.2.whole e;refine .inr ⟨p,hm,?_⟩;have hl:p.fl.length=au (pu k):=by rw[h2,Ej,sQ]
   have hc:fP p=true:=e;unfold fP at hc;rw[h1] at hc;simp only[gD,gY] at hc;rw[jZ (gX (show j<p.fl.length by omega))];exact Ak p.fl (by omega) j _ (gX _)
theorem jF.Rf {st:Rc} (h:jF aD N pu left sent st) {k:Nat} (hpos:1<=au (pu k)) (hg:∀j,j<au (pu k)->DN st k j):Has st k:=by
 by_cases hk:k<st.next
 .exact .inl hk
 .have hp:∀j,j<au (pu k)->∃p,st.m k=some p/\(dZ p.fl j).1=true:=fun j hj=>(hg j hj).resolve_left hk
  obtain ⟨p,hm,h1⟩:=hp (au (pu k)-1) (by omega);have hs:=(h.m k p hm).2.2.2;have hall:∀j,j<au (pu k)->(dZ p.fl j).1=true:=fun j hj=>by
   obtain ⟨q,hq,h2⟩:=hp j hj;rw[hm] at hq;cases hq;exact h2
  have hlen:au (pu k)<=p.fl.length:=by
   rcases kD (au (pu k)-1) p.fl.length with e|e
   .omega
   .unfold dZ at h1;rw[kV e] at h1;cases h1
  rcases hs.size with ⟨_,e⟩|⟨e1,e2⟩
  .omega
  .refine .inr ?_;rw[hm];show fP p=true
   unfold fP;rw[e1];have:=oq p.fl fun i hi=>hall i (by omega)
   simp only[gD,gY];omega
def YZ (pu:Nat->Ou) (st:Rc) (aA:Nat) (l:List Nk):Prop:=∀k,k<aA->∀j,j<au (pu k)->(Cr l k j↔¬DN st k j)
theorem yZ (T:vD aD N pu left sent) {st:Rc} (h:jF aD N pu left sent st):∀(f sn:Nat) (l:List Nk),st.next<=sn->sn<=st.status->st.status-sn<f->(∀n∈l,n.sn<(sn:Int))->YZ pu st sn l->
 YZ pu st (pI st f sn l).1 (pI st f sn l).2
 |0,sn,l,_,_,hf,_,_=>by omega
 |f+1,sn,l,h1,h2,hf,hb,hl=>by
  unfold pI;by_cases he:sn=st.status
  .rw[bD he];exact he ▸ hl
  .rw[aP he];have hN:=T.n;have hs2:=h.s2;have hup:eD sn=sn+1:=by unfold eD;omega
   have hlt:sn<N:=by omega
   have hno:∀j,¬Cr l sn j:=fun j ⟨n,hn,e,_⟩=>by have:=hb n hn;omega
   by_cases hc:dW (st.m sn)=true
   .rw[bD hc,hup];refine yZ T h f (sn+1) l (by omega) (by omega) (by omega) (fun n hn=>by have:=hb n hn;omega) fun k hk j hj=> ?_
    by_cases e:k=sn
    .subst e;have:=h.Re (.inr hc) hj;simp[hno,this]
    .exact hl k (by omega) j hj
   .rw[aP hc];split
    .exact hl
    .obtain ⟨e1,_,_⟩:=BV (x:=pu sn) (sn:=sn) (o:=st.m sn) (T.size_pos hlt) (T.tot sn hlt) (fun p hp=>(h.m sn p hp).2.2.2) (by simpa using hc);rw[hup];refine yZ T h f (sn+1) _ (by omega) (by omega) (by omega) (fun n hn=> ?_) fun k hk j hj=> ?_
     .rcases iH.1 hn with hn|hn
      .have:=hb n hn;omega
      .have:=(e1 n hn).1;omega
     .rw[Nv];by_cases e:k=sn
      .subst e;rw[YY (T.tot k hlt) (fun p hp=>(h.m k p hp).2.2.2) hj];have:¬k<st.next:=by omega
       simp only[DN,this,false_or,hno]
      .have hx:¬Cr (jf sn (st.m sn)) k j:=fun ⟨n,hn,e2,_⟩=>by have:=(e1 n hn).1;omega
       rw[<-hl k (by omega) j hj];simp[hx]
theorem jF.exact (T:vD aD N pu left sent) {st:Rc} (h:jF aD N pu left sent st):YZ pu st (iR st).1 (iR st).2:=by
 have h1:=h.s1;have h2:=h.s2;have hN:=T.n;refine yZ T h 1024 st.next [] (aL) h1 (by omega) (by simp) fun k hk j hj=> ?_
 have:DN st k j:= .inl hk;simp[this,Cr]
end
theorem SH {z:Nat} {l:List (Nat × Nat)} {x:Nat × Nat} (h:sH z l) (hl:∀r∈l,r.2<x.1) (h1:x.1<=x.2) (h2:x.2<z):
 sH z (gN l x)/\(∀j,qm (gN l x) j=true↔qm l j=true\/(x.1<=j/\j<=x.2))/\∀r∈gN l x,r.2<=x.2:=by
 unfold gN;cases hg:l.getLast? with
 |none=>
  rw[List.getLast?_eq_none_iff] at hg;subst hg;exact ⟨⟨by simp,by simp;omega⟩,fun j=>by simp[qm],by simp⟩
 |some y=>
  obtain ⟨t,rfl⟩:=List.getLast?_eq_some_iff.1 hg;have hy:=h.2 y (by simp);have hyx:=hl y (by simp);have hp:=List.pairwise_append.1 h.1;have hle:∀r∈t,r.2<=x.2:=fun r hr=>by have:=hl r (by simp[hr]);omega
  dsimp only;split
  .rename_i e;rw[List.dropLast_concat];refine ⟨⟨List.pairwise_append.2 ⟨hp.1,by simp,fun a ha b hb=> ?_⟩,fun r hr=> ?_⟩,fun j=> ?_,fun r hr=> ?_⟩
   .simp only[nC] at hb;subst hb;have:=hp.2.2 a ha y (by simp);exact this
   .rcases iH.1 hr with hr|hr
    .exact h.2 r (by simp[hr])
    .simp only[nC] at hr;subst hr;dsimp only;omega
   .simp only[qm,List.any_append,List.any_cons,List.any_nil,Bool.or_false,Bool.or_eq_true,gD,gY];constructor
    .rintro (q|q)
     .exact .inl (.inl q)
     .by_cases hj:j<=y.2
      .exact .inl (.inr ⟨q.1,hj⟩)
      .exact .inr (by omega)
    .rintro ((q|q)|q)
     .exact .inl q
     .exact .inr (by omega)
     .exact .inr (by omega)
   .rcases iH.1 hr with hr|hr
    .exact hle r hr
    .simp only[nC] at hr;subst hr;exact aL
  .rename_i e;refine ⟨⟨List.pairwise_append.2 ⟨h.1,by simp,fun a ha b hb=> ?_⟩,fun r hr=> ?_⟩,fun j=> ?_,fun r hr=> ?_⟩
   .simp only[nC] at hb;subst hb;rcases iH.1 ha with ha|ha
    .have:=hp.2.2 a ha y (by simp);omega
    .simp only[nC] at ha;subst ha;omega
   .rcases iH.1 hr with hr|hr
    .exact h.2 r hr
    .simp only[nC] at hr;subst hr;exact ⟨h1,h2⟩
   .simp only[qm,List.any_append,List.any_cons,List.any_nil,Bool.or_false,Bool.or_eq_true,gD,gY]
   .rcases iH.1 hr with hr|hr
    .have:=hl r hr;omega
    .simp only[nC] at hr;subst hr;exact aL
theorem Gg {z:Nat} (hz:1<=z):∀(L:List Nk) (a:List (Nat × Nat)),sH z a->(∀r∈a,∀n∈L,r.2<(bH n).1)->L.Pairwise (fun m n=>(bH m).2<(bH n).1)->(∀n∈L,(bH n).1<=(bH n).2)->
 sH z (L.foldl (eO z) a)/\∀j,j<z->(qm (L.foldl (eO z) a) j=true↔qm a j=true\/∃n∈L,(bH n).1<=j/\j<=(bH n).2)
 | [],a,h,_,_,_=>⟨h,fun j _=>by simp⟩
 |m::L,a,h,h1,h2,h3=>by
  rw[List.pairwise_cons] at h2;have hm:=h3 m (by simp);rw[List.foldl_cons];have key:sH z (eO z a m)/\(∀j,j<z->(qm (eO z a m) j=true↔qm a j=true\/((bH m).1<=j/\j<=(bH m).2)))/\∀r∈eO z a m,∀n∈L,r.2<(bH n).1:=by
   unfold eO;split
   .refine ⟨h,fun j hj=> ?_,fun r hr n hn=>h1 r hr n (by simp[hn])⟩;constructor
    .exact .inl
    .rintro (e|e)
     .exact e
     .omega
   .obtain ⟨a1,a2,a3⟩:=SH (x:=((bH m).1,min (bH m).2 (z-1))) h (fun r hr=>h1 r hr m (by simp)) (by dsimp only;omega) (by dsimp only;omega);refine ⟨a1,fun j hj=> ?_,fun r hr n hn=> ?_⟩
    .rw[a2 j];dsimp only;constructor
     .rintro (e|e)
      .exact .inl e
      .exact .inr (by omega)
     .rintro (e|e)
      .exact .inl e
      .exact .inr (by omega)
    .have:=a3 r hr;have:=h2.1 n hn;dsimp only at*;omega
  obtain ⟨k1,k2,k3⟩:=key;obtain ⟨i1,i2⟩:=Gg hz L _ k1 k3 h2.2 fun n hn=>h3 n (by simp[hn])
  refine ⟨i1,fun j hj=> ?_⟩;rw[i2 j hj,k2 j hj];simp only[nE,exists_eq_or_imp];exact or_assoc
theorem agR {aA:Nat} {n:Nk} (h:BU aA n):(bH n).1<=(bH n).2:=by
 unfold bH;split
 .rename_i e;have:=h.p e;dsimp only;omega
 .exact eH _
theorem PX {aA:Nat} {l:List Nk} (hok:∀n∈l,BU aA n) (hpw:l.Pairwise H7) {x:Ou} (hz:1<=au x):
 sH (au x) (aQ l x)/\∀j,j<au x->(qm (aQ l x) j=true↔Cr l x.sn j):=by
 have h:=Gg hz (l.filter (fun n=>decide (n.sn=(x.sn:Int)))) [] (sH.nil _) (by simp) (by
  refine (List.pairwise_filter.2 (hpw.imp_of_mem fun {a b} ha hb hab h1 h2=> ?_));simp only[gY] at h1 h2;rcases hab with e|⟨_,e2,e3,e4⟩
  .omega
  .have p1:=(hok a ha).p e2;have p2:=(hok b hb).p e3;simp only[bH,e2,e3,kE];omega) (fun n hn=>agR (hok n ((List.mem_filter.1 hn).1)))
 refine ⟨h.1,fun j hj=> ?_⟩;have:=h.2 j hj;unfold aQ;rw[this];simp only[Cr,List.mem_filter,gY];constructor
 .rintro (e|⟨n,hn,h1⟩)
  .simp[qm] at e
  .exact ⟨n,hn.1,hn.2,h1⟩
 .rintro ⟨n,hn,e,h1⟩;exact .inr ⟨n,⟨hn,e⟩,h1⟩
def lF (r:Rc):Nat:=if r.ro=false then 0 else if r.gW=r.high then 1 else 2
def wQ (r:Rc):Nat:=(if r.due=true then 2 else 0)+2*lF r
section
variable {aD:List (List UInt8)} {N:Nat} {pu:Nat->Ou} {left:Nat->List (List UInt8)} {sent:Nat->Nat} {r:Rc}
theorem jF.tH (T:vD aD N pu left sent) (h:jF aD N pu left sent r) (c:Cf) (now:Int):
 wQ (aM c r now)<=wQ r/\(r.due=true->(aM c r now).due=true)/\(aM c r now).fJ=r.fJ/\(aM c r now).now=(gP r now).now:=by
 unfold aM;split
 .exact ⟨aL,id,rfl,rfl⟩
 .rename_i hn;have hro:r.ro=true:=by
   cases hh:r.ro with
   |true=>rfl
   |false=>exact absurd (.inl hh) hn
  have hN:=T.n;have GJ:=h.h2;have ht:=h.tr hro;have hfr:r.gW=r.high->lN r.m 1024 r.gW=r.high:=fun e=>by
   obtain ⟨a,b,d,f⟩:=uz (m:=r.m) hN (fun k hk=>h.none_ hk) 1024 r.gW (by omega) (by omega);rcases Nat.eq_or_lt_of_le a with e2|e2
   .omega
   .have h3:=f r.gW (aL) e2;cases hm:r.m r.gW with
    |none=>rw[hm] at h3;cases h3
    |some p=>have:=(h.m _ p hm).2.2.1;omega
  have hbr:2*lF r<=wQ r:=by unfold wQ;omega
  unfold rT;dsimp only;split
  .rename_i hne;refine ⟨?_,fun _=>rfl,rfl,rfl⟩;have hne2:¬r.gW=r.high:=fun e=>hne (hfr e).symm
   have h2:lF r=2:=by unfold lF;rw[aP (by simp[hro]),aP hne2]
   refine gG ?_ hbr;rw[h2];unfold wQ lF jO;simp
  .refine ⟨?_,fun _=>rfl,rfl,rfl⟩;refine gG ?_ hbr;have h2:1<=lF r:=by unfold lF;rw[aP (by simp[hro])];split<;>omega
   have h3:wQ {gP r now with status:=lN (gP r now).m 1024 (gP r now).gW,due:=true,ro:=false}=2:=by simp[wQ,lF]
   rw[h3];omega
theorem JD (c:Cf) (now:Int) (T:vD aD N pu left sent) (h:jF aD N pu left sent r) (i j:Nat):DN (aM c r now) i j↔DN r i j:=by
 obtain ⟨_,e1,e2⟩:=h.goes T c now;unfold DN;rw[e1,e2]
theorem Cs:∀(f:Nat) (st:Rc),(∀k p,st.m k=some p->k<1000)->∀i j,DN st i j->DN (bK f st).1 i j
 |0,_,_,_,_,h=>h
 |f+1,st,hm,i,j,h=>by
  unfold bK;cases hp:st.m st.next with
  |none=>exact h
  |some p=>
   dsimp only;split
   .have hl:=hm _ p hp;have hup:eD st.next=st.next+1:=by unfold eD;omega
    refine Cs f (Ah st p) (fun k q hq=> ?_) i j ?_
    .have hq2:(if k=st.next then none else st.m k)=some q:=hq;split at hq2
     .cases hq2
     .exact hm k q hq2
    .by_cases e:i=st.next
     .refine .inl ?_;show i<eD st.next
      omega
     .rcases h with h|⟨q,h1,h2⟩
      .refine .inl ?_;show i<eD st.next
       omega
      .refine .inr ⟨q,?_,h2⟩;show (if i=st.next then none else st.m i)=some q
       rw[aP e];exact h1
   .exact h
theorem wR:∀(f:Nat) (st:Rc),(bK f st).1.ro=st.ro/\(bK f st).1.gW=st.gW/\(bK f st).1.high=st.high/\(bK f st).1.due=st.due/\(bK f st).1.fJ=st.fJ/\(bK f st).1.now=st.now
 |0,_=>⟨rfl,rfl,rfl,rfl,rfl,rfl⟩
 |f+1,st=>by
  unfold bK;cases st.m st.next with
  |none=>exact ⟨rfl,rfl,rfl,rfl,rfl,rfl⟩
  |some p=>
   dsimp only;split
   .exact wR f (Ah st p)
   .exact ⟨rfl,rfl,rfl,rfl,rfl,rfl⟩
theorem Gh (c:Cf) (st:Rc):(rV c st).due=st.due/\(rV c st).fJ=st.fJ/\(rV c st).high=st.high/\(rV c st).now=st.now/\lF (rV c st)<=lF st+(if st.ro=true then 0 else 1):=by
 have key:∀s1:Rc,s1.due=st.due->s1.fJ=st.fJ->s1.high=st.high->s1.now=st.now->(s1.ro=false\/(s1.ro=st.ro/\s1.gW=st.gW))->
  (if s1.ro=false/\s1.high≠s1.next then jO c s1 else s1).due=st.due/\(if s1.ro=false/\s1.high≠s1.next then jO c s1 else s1).fJ=st.fJ/\(if s1.ro=false/\s1.high≠s1.next then jO c s1 else s1).high=st.high/\(if s1.ro=false/\s1.high≠s1.next then jO c s1 else s1).now=st.now/\
  lF (if s1.ro=false/\s1.high≠s1.next then jO c s1 else s1)<=lF st+(if st.ro=true then 0 else 1):=by
  intro s1 e1 e2 e3 e4 e5;have hone:1<=lF st+(if st.ro=true then 0 else 1):=by
   unfold lF;cases st.ro with
   |true=>simp;split<;>omega
   |false=>simp
  split
  .refine ⟨e1,e2,e3,e4,?_⟩;have:lF (jO c s1)=1:=by simp[lF,jO]
   omega
  .refine ⟨e1,e2,e3,e4,?_⟩;rcases e5 with e|⟨e,e'⟩
   .have:lF s1=0:=by simp[lF,e]
    omega
   .have:lF s1=lF st:=by unfold lF;rw[e,e',e3]
    omega
 unfold rV;dsimp only;split
 .exact key _ rfl rfl rfl rfl (.inl rfl)
 .exact key st rfl rfl rfl rfl (.inr ⟨rfl,rfl⟩)
theorem jF.takes (T:vD aD N pu left sent) (h:jF aD N pu left sent r) (c:Cf) {k:Nat} (hk:k<N) {a:jY} (ha:Piece (pu k) a):
 (∀i j,DN r i j->DN (iM c r a).1 i j)/\(∀j,a.off<=j->j<jm a->DN (iM c r a).1 k j)/\(iM c r a).1.due=(r.due||a.po)/\(iM c r a).1.fJ=r.fJ/\(iM c r a).1.now=r.now/\lF (iM c r a).1<=lF r+(if k<r.next then 0 else 1):=by
 have hN:=T.n;have hsn:a.sn=k:=by rw[ha.sn,T.sn k hk]
 have hnx:=h.nx;unfold iM;rw[hsn];by_cases hw:512<=bZ r k
 .rw[bD hw];have hlt:k<r.next:=by unfold bZ at hw;omega
  exact ⟨fun i j hg=>hg,fun j _ _=> .inl hlt,rfl,rfl,rfl,Nat.le_add_right _ _⟩
 .rw[aP hw];have hkn:r.next<=k:=by unfold bZ at hw;omega
  have Hz:kP (pu k) (d9 r k):=by
   unfold d9;cases hm:r.m k with
   |none=>exact kP.new (T.size_pos hk)
   |some p=>exact (h.m k p hm).2.2.2
  rw[Hz.fits ha,aP (by simp)];dsimp only;obtain ⟨f1,f2,f3,f4,f5,f6⟩:=wR 1024 (iD r a (d9 r k));obtain ⟨g1,g2,g3,g4,g5⟩:=Gh c (bK 1024 (iD r a (d9 r k))).1;have hmem:∀i p,(iD r a (d9 r k)).m i=some p->i<1000:=fun i p hi=>by
   have hi2:fK r.m a.sn (some (eF (d9 r k) a)) i=some p:=hi;unfold fK at hi2;rw[hsn] at hi2;split at hi2
   .omega
   .have:=(h.m i p hi2).2.1;omega
  have hend:∀i j,DN (bK 1024 (iD r a (d9 r k))).1 i j->DN (rV c (bK 1024 (iD r a (d9 r k))).1) i j:=fun i j hg=>by
   have e1:(rV c (bK 1024 (iD r a (d9 r k))).1).next=(bK 1024 (iD r a (d9 r k))).1.next/\(rV c (bK 1024 (iD r a (d9 r k))).1).m=(bK 1024 (iD r a (d9 r k))).1.m:=by
    unfold rV;dsimp only;split<;>split<;>exact ⟨rfl,rfl⟩
   unfold DN at hg ⊢;rw[e1.1,e1.2];exact hg
  have hlen:(eF (d9 r k) a).fl.length=max (d9 r k).fl.length (jm a):=by
   unfold eF;dsimp only;rw[(pJ (eG a.s a.e a.ps.length 0 a.ps) a.off (je (jm a) (d9 r k).fl,qQ (jm a) (d9 r k).da)).1];exact sS _ _
  refine ⟨fun i j hg=>hend i j (Cs 1024 _ hmem i j ?_),fun j h1 h2=>hend k j (Cs 1024 _ hmem k j (.inr ⟨eF (d9 r k) a,?_,?_⟩)),?_,?_,?_,?_⟩
  .rcases hg with hg|⟨p,hp,hf⟩
   .exact .inl hg
   .by_cases e:i=k
    .subst e;refine .inr ⟨eF (d9 r i) a,?_,?_⟩
     .show fK r.m a.sn _ i=_
      unfold fK;rw[bD hsn.symm]
     .have e2:d9 r i=p:=by unfold d9;rw[hp];rfl
      rw[e2];refine Aj _ _ _ j ?_;show (dZ (je (jm a) p.fl) j).1=true
      rw[Uz];exact hf
    .refine .inr ⟨p,?_,hf⟩;show fK r.m a.sn _ i=_
     unfold fK;rw[aP (by omega)];exact hp
  .show fK r.m a.sn _ k=_
   unfold fK;rw[bD hsn.symm]
  .have hal:=Hz.agr.le;refine Kr _ _ _ (yI _ _ _ _ _) ?_ j (by omega) ?_
   .rw[lq];show a.off+_<=(je (jm a) (d9 r k).fl).length
    rw[sS];unfold jm;omega
   .rw[lq];unfold jm at h2;omega
  .rw[g1,f4];rfl
  .rw[g2,f5];rfl
  .rw[g4,f6];rfl
  .rw[aP (by omega)];have hro:(iD r a (d9 r k)).ro=r.ro:=rfl;have htr:(iD r a (d9 r k)).gW=r.gW:=rfl;have h3:lF (bK 1024 (iD r a (d9 r k))).1<=lF r+(if r.ro=true then 1 else 0):=by
    unfold lF;rw[f1,hro];cases r.ro with
    |false=>simp
    |true=>simp;split<;>split<;>omega
   rw[f1,hro] at g5;cases hh:r.ro with
   |true=>rw[hh] at g5 h3;simp at g5 h3;omega
   |false=>rw[hh] at g5 h3;simp at g5 h3;omega
end
theorem SG {m:Nat} (h1:1<=m) (h:m<=3):iV (m:Int)<=5:=by
 unfold iV;split<;>omega
theorem PW {x:Ou} (hv:qh x.ps) {fr k:Nat} {n:Int} (hn:12<=n) (h1:fr<k) (h2:k<=fr+3) (h3:k<=au x):eX x fr n k=true:=by
 have hv2:=sK x.ps 0 fr k hv (eH _) h1 (by rw[jA];exact h3);have hs:=zW x.ps 0 fr k (eH _) (by rw[jA];exact h3);have hl:=xk hv2.pos;have h0:=hv2.lo;unfold eX;rw[gY];have:=SG (m:=(aO x.ps 0 fr k x.ps.length).length) h0 (by omega);omega
theorem Rb (f:Nat->Bool):∀(d m k:Nat),d<=m->(∀i,k<i->i<=k+d->f i=true)->k+d<=qj f m k
 |0,m,k,_,_=>(pz f m k).1
 |d+1,0,k,h,_=>by omega
 |d+1,m+1,k,h,hf=>by
  unfold qj;rw[bD (hf (k+1) (by omega) (by omega))];have:=Rb f d m (k+1) (by omega) fun i h1 h2=>hf i (by omega) (by omega)
  omega
theorem JC (c:Cf) {n:Int} (hn:12<=n) (st:Sd) (i:Nat) {x:Ou} (ho:zS x) (ha:sH (au x) x.pend) (hne:x.pend≠ []):
 ∃l p a,dK c n st i x=((aG c (cB st i x l) false).1,some p)/\qx (D7 (some p))= .inr a/\Piece x a/\a.po=(aG c (cB st i x l) false).2/\sH (au x) l/\cst (au x) (qm l)+2<=cst (au x) (qm x.pend)/\
  (∀j,qm x.pend j=true->qm l j=true\/(a.off<=j/\j<jm a))/\∀j,qm l j=true->qm x.pend j=true:=by
 have hv:=ho.ps;unfold dK;obtain ⟨⟨fr,e0⟩,rest,hp⟩:∃r rest,x.pend=r::rest:=by
  cases h:x.pend with
  |nil=>exact absurd h hne
  |cons r rest=>exact ⟨r,rest,rfl⟩
 rw[hp] at ha ⊢;have hr:=ha.2 (fr,e0) (by simp);dsimp only at hr ⊢;have key:∀K,fr<K->K<=e0+1->(K=e0+1\/fr+2<=K)->∀j,qm (if K=e0+1 then rest else (K,e0)::rest) j=true->qm ((fr,e0)::rest) j=true:=by
  intro K h1 h2 _ j hj;rw[sI];split at hj
  .rw[hj,Bool.or_true]
  .rw[sI] at hj;simp only[Bool.or_eq_true,gD,gY] at hj ⊢;rcases hj with e|e
   .exact .inl (by omega)
   .exact .inr e
 by_cases h1:fr=0/\e0+1=au x/\iV (x.ps.length:Int)+(au x:Int)<=n
 .rw[bD h1];have hrest:rest= []:=by
   cases hq:rest with
   |nil=>rfl
   |cons q t=>
    have h4:=(List.pairwise_cons.1 ha.1).1 q (by rw[hq];simp);have h5:=ha.2 q (by rw[hq];simp);dsimp only at h4;omega
  obtain ⟨a1,a2,a3⟩:=ha.again (K:=e0+1) (by omega) (aL) (.inl rfl);have a4:=key (e0+1) (by omega) (aL) (.inl rfl);rw[bD rfl] at a1 a2 a3 a4;rw[hrest] at a1 a2 a3 a4 ⊢;obtain ⟨d1,d2⟩:=KZ ho (aG c (cB st i x []) false).2;refine ⟨[],_,_,rfl,d1,d2,rfl,a1,a2,fun j hj=> ?_,a4⟩;rcases a3 j hj with e|e
  .exact .inl e
  .refine .inr ⟨eH _,?_⟩;show j<0+aj x.ps
   have:au x=aj x.ps:=rfl;omega
 .rw[aP h1];have hb:=pz (eX x fr n) (e0+1-fr) fr;have hg:=Rb (eX x fr n) (min 3 (e0+1-fr)) (e0+1-fr) fr (by omega) fun i q1 q2=>PW hv hn q1 (by omega) (by omega)
  generalize hK:qj (eX x fr n) (e0+1-fr) fr=K at*;rw[aP (show ¬K=fr by omega)];obtain ⟨a1,a2,a3⟩:=ha.again (K:=K) (by omega) (by omega) (by omega);have a4:=key K (by omega) (by omega) (by omega);obtain ⟨d1,d2⟩:=agQ ho (aG c (cB st i x (if K=e0+1 then rest else (K,e0)::rest)) false).2 (fr:=fr) (till:=K) (by omega) (by omega);refine ⟨_,_,_,rfl,d1,d2,rfl,a1,a2,fun j hj=> ?_,a4⟩;rcases a3 j hj with e|e
  .exact .inl e
  .refine .inr ⟨e.1,?_⟩;show j<fr+aj (aO x.ps 0 fr K x.ps.length)
   have hs:=zW x.ps 0 fr K (eH _) (by rw[jA];show K<=au x;omega);omega
theorem Nu (n:Int) (hn:12<=n):∀(f:Nat) (aD:List (List UInt8)) (sent cnt jB size:Nat) (e:Bool),(∀s∈aD,1<=s.length/\s.length<=60)->(∀x r,aD=x::r->sent<x.length)->(aD= []->sent=0)->aD.length<f->cnt<=size->(cnt=0\/jB<=60)->
 4<=size+aj (l9 n f aD sent cnt jB size e).1\/sent+aj (l9 n f aD sent cnt jB size e).1=aj aD
 |0,aD,sent,cnt,jB,size,e,_,_,_,hf,_,_=>by omega
 |f+1,[],sent,cnt,jB,size,e,_,_,h0,_,_,_=> .inr (by rw[h0 rfl];rfl)
 |f+1,x::rest,sent,cnt,jB,size,e,hp,hs,_,hf,hc,hl=>by
  have hx:=hs x rest rfl;have K5:=(hp x (by simp)).2;by_cases h4:4<=size
  .exact .inl (by omega)
  have GJ:iV ((cnt:Int)+1)+(size:Int)<=n-1:=by
   unfold iV;split<;>omega
  rw[l9,aP (by omega)];rw[aP (by omega)];split
  .left
   rename_i hlt;dsimp only;simp only[aj,vw,xS,zK,List.sum_nil,kz,kC];unfold iV at hlt ⊢;split at hlt<;>split<;>omega
  .rename_i hge;have ih:=Nu n hn f rest 0 (cnt+1) (x.length-sent) (size+(x.length-sent)) true (fun s h=>hp s (by simp[h])) (fun y r hy=>(hp y (by simp[hy])).1) (fun _=>rfl) (by simp at hf;omega) (by omega) (.inr (by omega));dsimp only;simp only[aj,vw,zK,kC] at ih ⊢;omega
structure acC (N:Nat) (pu:Nat->Ou) (r:Rc) (aA:Nat) (l:List Nk):Prop where
 le:aA<=N
 ge:r.next<=aA
 v:bO (aA:Int) l=true
 ok:∀n∈l,BU aA n
 nx:∀n∈l,(r.next:Int)<=n.sn
 pw:l.Pairwise H7
 ex:YZ pu r aA l
section
variable {aD:List (List UInt8)} {N:Nat} {pu:Nat->Ou} {left:Nat->List (List UInt8)} {sent:Nat->Nat} {r:Rc}
theorem K6 (T:vD aD N pu left sent) {st:Rc} (h:jF aD N pu left sent st):∀(f sn:Nat) (l:List Nk),st.next<=sn->sn<=st.status->st.status-sn<f->(∀n∈l,(st.next:Int)<=n.sn)->∀n∈(pI st f sn l).2,(st.next:Int)<=n.sn
 |0,sn,l,_,_,hf,_=>by omega
 |f+1,sn,l,h1,h2,hf,hl=>by
  unfold pI;split
  .exact hl
  rename_i he;have hN:=T.n;have hs2:=h.s2;have hup:eD sn=sn+1:=by unfold eD;omega
  have hlt:sn<N:=by omega
  split
  .rw[hup];exact K6 T h f (sn+1) l (by omega) (by omega) (by omega) hl
  .rename_i hc;split
   .exact hl
   .obtain ⟨e1,_,_⟩:=BV (x:=pu sn) (sn:=sn) (o:=st.m sn) (T.size_pos hlt) (T.tot sn hlt) (fun p hp=>(h.m sn p hp).2.2.2) (by simpa using hc);rw[hup];refine K6 T h f (sn+1) _ (by omega) (by omega) (by omega) fun n hn=> ?_
    rcases iH.1 hn with hn|hn
    .exact hl n hn
    .have:=(e1 n hn).1;omega
theorem PY (l:List Nk) (hl:l.Pairwise H7) (M:Nat):∀(q:Nat) (y:Int × Nat),q<=l.length->(∀n∈l.take y.2,n.sn<y.1)->∀n∈l.take (tu l M q y).2,n.sn<(tu l M q y).1
 |0,y,_,h=>h
 |q+1,y,hq,h=>by
  rw[tu];split
  .exact h
  split
  .exact PY l hl M q y (by omega) h
  .rename_i hne;have hsn:xM l q=l[q].sn:=by unfold xM;rw[gX (by omega)];rfl
   refine PY l hl M q (xM l q,q) (by omega) fun n hn=> ?_
   dsimp only at hn ⊢;obtain ⟨j,hj,rfl⟩:=List.mem_iff_getElem.1 hn;rw[kz] at hj;rw[List.getElem_take];have hjq:j<q:=by omega
   have hq1:xM l (q-1)=l[q-1].sn:=by unfold xM;rw[gX (by omega)];rfl
   have h1:l[q-1].sn≠l[q].sn:=fun e=>hne ⟨by omega,by rw[hsn,hq1,e]⟩
   have h2:=(List.pairwise_iff_getElem.1 hl) (q-1) q (by omega) (by omega) (by omega);have h3:l[j].sn<=l[q-1].sn:=by
    rcases Nat.eq_or_lt_of_le (show j<=q-1 by omega) with e|e
    .subst e;exact Int.le_refl _
    .rcases (List.pairwise_iff_getElem.1 hl) j (q-1) (by omega) (by omega) e with e1|e1<;>omega
   rw[hsn];rcases h2 with e|e<;>omega
theorem jF.sends (D:Dir aD N pu left sent) (h:jF aD N pu left sent r) {n:Int} (_hn:12<=n):
 ∃aA l,(encR (FY (iR r) n.toNat))=(qB aA l,0)/\acC N pu r aA l:=by
 obtain ⟨a1,a2,a3⟩:=jF.report D.T h;have hN:=D.T.n;have hs1:=h.s1;have hs2:=h.s2;have hx:=h.exact D.T;have hge:=K6 D.T h 1024 r.next [] (aL) hs1 (by omega) (by simp)
 have hv:=Ms (aA:=(iR r).1) (by omega) a3.len a3.ok a3.pw;have acD:∀n∈(iR r).2,(r.next:Int)<=n.sn:=hge
 generalize iR r=R at*;obtain ⟨aA,l⟩:=R;unfold FY;dsimp only at a1 a2 a3 hx hv acD ⊢;rw[bD hv];obtain ⟨b1,b2⟩:=Ee l a3.pw n.toNat l.length ((aA:Int),l.length) (aL) (fun n hn _=>by dsimp only;rw[List.take_length];exact hn);have b3:=PY l a3.pw n.toNat l.length ((aA:Int),l.length) (aL) (fun n hn=>by dsimp only at hn ⊢;rw[List.take_length] at hn;exact (a3.ok n hn).s1);have hfs:DK (aA:Int) l n.toNat=tu l n.toNat l.length ((aA:Int),l.length):=rfl;rw[<-hfs] at b1 b2 b3;generalize DK (aA:Int) l n.toNat=y at*;obtain ⟨a,q⟩:=y;dsimp only at b1 b2 b3 ⊢;have ha:(r.next:Int)<=a/\a<=aA:=by
  rcases b2 with e|⟨n,hn,e⟩
  .omega
  .have h1:=acD n hn;have h2:=(a3.ok n hn).s1;omega
 obtain ⟨a,rfl⟩:=GZ (show 0<=a by omega);have hok:∀n∈l.take q,BU a n:=fun n hn=>by
  have:=a3.ok n (List.mem_of_mem_take hn);exact ⟨this.s0,b3 n hn,this.p,this.q⟩
 have hpw:(l.take q).Pairwise H7:=a3.pw.sublist (List.take_sublist _ _);have hv2:bO (a:Int) (l.take q)=true:=Ms (by omega) (by rw[kz];have:=a3.len;omega) hok hpw;refine ⟨a,l.take q,by unfold encR;rw[bD hv2,Es],by omega,by omega,hv2,hok,fun n hn=>acD n (List.mem_of_mem_take hn),hpw,fun k hk j hj=> ?_⟩;rw[<-hx k (by omega) j hj];constructor
 .rintro ⟨n,hn,e⟩;exact ⟨n,List.mem_of_mem_take hn,e⟩
 .rintro ⟨n,hn,e⟩;exact ⟨n,b1 n hn (by omega),e⟩
end
def za (r:Rc) (k:Nat) (x:Ou):Prop:=∀j,j<au x->¬DN r k j->qm x.pend j=true
def cp (x:Ou):Nat:=3*cst (au x) (qm x.pend)
theorem JE (x:Ou):cp x<=3*(au x+1):=Nat.mul_le_mul_left 3 (abo _ _)
theorem PZ {x:Ou} (h:x.pend= []):cp x=0:=by
 unfold cp;rw[h,Uh (p:=qm []) fun j=>rfl]
structure CT (r:Rc) (k:Nat) (x:Ou) (m:Nat):Prop where
 a:cp x<=m
 b:¬Has r k->cp x+146<=m
 c:¬Has r k->¬za r k x->cp x+146+3*(au x+1)<=m
def ST (r:Rc):Nat->List Ou->Nat->Prop
 |_,[],_=>True
 |k,x::t,m=>∃a b,CT r k x a/\ST r (k+1) t b/\a+b<=m
structure K8 (r r':Rc):Prop where
 got:∀i j,DN r i j->DN r' i j
 has:∀k,Has r k->Has r' k
theorem za.more {r r':Rc} {k:Nat} {x:Ou} (h:za r k x) (hm:K8 r r'):za r' k x:=fun j hj hg=>h j hj fun e=>hg (hm.got k j e)
theorem CT.more {r r':Rc} {k m:Nat} {x:Ou} (h:CT r k x m) (hm:K8 r r'):CT r' k x m:=
 ⟨h.a,fun e=>h.b fun e2=>e (hm.has k e2),fun e e1=>h.c (fun e2=>e (hm.has k e2)) fun e2=>e1 (e2.more hm)⟩
theorem ST.more {r r':Rc} (hm:K8 r r'):∀{l:List Ou} {k m:Nat},ST r k l m->ST r' k l m
 | [],_,_,_=>trivial
 |_::_,_,_,⟨a,b,h1,h2,h3⟩=>⟨a,b,h1.more hm,ST.more hm h2,h3⟩
theorem ST.set {r r':Rc} (hm:K8 r r') {x y:Ou} {d:Nat}:∀{l:List Ou} {k i m:Nat},ST r k l m->l[i]? =some x->(∀a,CT r (k+i) x a->∃a',CT r' (k+i) y a'/\a'+d<=a)->∃m',ST r' k (l.set i y) m'/\m'+d<=m
 | [],_,_,_,_,hx,_=>by simp at hx
 |z::t,k,0,m,⟨a,b,h1,h2,h3⟩,hx,hc=>by
  simp at hx;subst hx;obtain ⟨a',e1,e2⟩:=hc a h1;exact ⟨a'+b,⟨a',b,e1,h2.more hm,aL⟩,by omega⟩
 |z::t,k,i+1,m,⟨a,b,h1,h2,h3⟩,hx,hc=>by
  obtain ⟨b',e1,e2⟩:=ST.set hm (i:=i) h2 (by simpa using hx) fun a0 ha0=>by
   rw[show k+1+i=k+(i+1) by omega] at ha0 ⊢;exact hc a0 ha0
  exact ⟨a+b',⟨a,b',h1.more hm,e1,aL⟩,by omega⟩
theorem ST.app {r:Rc} {x:Ou} {a:Nat}:∀{l:List Ou} {k m:Nat},ST r k l m->CT r (k+l.length) x a->ST r k (l++ [x]) (m+a)
 | [],_,m,_,h=>⟨a,m,h,trivial,by omega⟩
 |z::t,k,m,⟨a0,b,h1,h2,h3⟩,h=>by
  refine ⟨a0,b+a,h1,ST.app h2 ?_,by omega⟩;rw[show k+1+t.length=k+(z::t).length by simp;omega];exact h
def Ub (s:Sd) (t:List Ou):Prop:=(∃y∈t,y.pend≠ [])\/s.taken<aH s
structure HT (s:Sd) (r:Rc) (now:Int) (x:Ou) (t:List Ou) (m:Nat):Prop where
 u:Has r s.first->Ub s t->cp x+94<=m
 d:Has r s.first->¬Ub s t->r.due=true->2*(r.fJ-now).toNat+2<=m
 o:Has r s.first->¬Ub s t->r.due=false->s.dI=true->46<=m
 w:Has r s.first->¬Ub s t->r.due=false->s.dI=false->s.wait=true->2*(s.bu-now).toNat+48<=m
 v:Has r s.first->¬Ub s t->r.due=false->s.dI=false->s.wait=false->cp x+92<=m
 c:¬Has r s.first->cp x+98<=m
 b:¬Has r s.first->¬za r s.first x->dH s=false->cp x+98+3*(au x+1)+46<=m
 i:¬Has r s.first->¬za r s.first x->dH s=true->cp x+98+3*(au x+1)+2*(s.bu-now).toNat+2<=m
def HO (s:Sd) (r:Rc) (now:Int):List Ou->Nat->Prop
 | [],m=>s.taken<aH s->94<=m
 |x::t,m=>HT s r now x t m
def Uc (s:Sd):Nat:=6*((aH s-s.taken+2)/3)
def lG (s:Sd) (r:Rc) (now:Int) (m:Nat):Prop:=∃h t,HO s r now s.out h/\ST r (s.first+1) s.out.tail t/\h+t+Uc s+wQ r<=m
def Dh (s:Sd):Prop:=s.out= []/\s.taken=aH s
def Clk (s:Sd) (r:Rc) (now:Int):Prop:=∃x t,s.out=x::t/\
 ((Has r s.first/\¬Ub s t/\r.due=true/\now<r.fJ)\/(Has r s.first/\¬Ub s t/\r.due=false/\s.dI=false/\s.wait=true/\now<s.bu)\/
  (¬Has r s.first/\¬za r s.first x/\dH s=true/\now<s.bu))
theorem HT.time {s:Sd} {r:Rc} {now:Int} {x:Ou} {t:List Ou} {m:Nat} (h:HT s r now x t m):HT s r (now+1) x t m:=
 ⟨h.u,fun a b e=>by have:=h.d a b e;omega,h.o,fun a b e f g=>by have:=h.w a b e f g;omega,h.v,h.c,h.b,fun a b e=>by have:=h.i a b e;omega⟩
theorem lG.time {s:Sd} {r:Rc} {now:Int} {m:Nat} (h:lG s r now m):lG s r (now+1) m:=by
 obtain ⟨a,b,h1,h2,h3⟩:=h;refine ⟨a,b,?_,h2,h3⟩;cases ho:s.out with
 |nil=>rw[ho] at h1;exact h1
 |cons x t=>rw[ho] at h1;exact HT.time h1
theorem lG.clock {s:Sd} {r:Rc} {now:Int} {m:Nat} (h:lG s r now m) (hk:Clk s r now):∃m',lG s r (now+1) m'/\m'+2<=m:=by
 obtain ⟨a,b,h1,h2,h3⟩:=h;obtain ⟨x,t,ho,hk⟩:=hk;have key:HT s r (now+1) x t (a-2)/\2<=a:=by
  rw[ho] at h1;have h1:HT s r now x t a:=h1;rcases hk with ⟨k1,k2,k3,k4⟩|⟨k1,k2,k3,k4,k5,k6⟩|⟨k1,k2,k3,k4⟩
  .have:=h1.d k1 k2 k3;exact ⟨⟨fun _ e=>absurd e k2,fun _ _ _=>by omega,fun _ _ e=>absurd e (by simp[k3]),fun _ _ e=>absurd e (by simp[k3]),fun _ _ e=>absurd e (by simp[k3]),fun e=>absurd k1 e,fun e=>absurd k1 e,fun e=>absurd k1 e⟩,by omega⟩
  .have:=h1.w k1 k2 k3 k4 k5;exact ⟨⟨fun _ e=>absurd e k2,fun _ _ e=>absurd e (by simp[k3]),fun _ _ _ e=>absurd e (by simp[k4]),fun _ _ _ _ _=>by omega,fun _ _ _ _ e=>absurd e (by simp[k5]),fun e=>absurd k1 e,fun e=>absurd k1 e,fun e=>absurd k1 e⟩,by omega⟩
  .have:=h1.i k1 k2 k3;exact ⟨⟨fun e=>absurd e k1,fun e=>absurd e k1,fun e=>absurd e k1,fun e=>absurd e k1,fun e=>absurd e k1,fun _=>by omega,fun _ _ e=>absurd e (by simp[k3]),fun _ _ _=>by omega⟩,by omega⟩
 exact ⟨(a-2)+b+Uc s+wQ r,⟨a-2,b,by rw[ho];exact key.1,h2,aL⟩,by omega⟩
section
variable {aD:List (List UInt8)} {N:Nat} {pu:Nat->Ou} {left:Nat->List (List UInt8)} {sent:Nat->Nat} {r:Rc} {s:Sd} {now:Int} {m:Nat}
theorem lG.goes (T:vD aD N pu left sent) (h:jF aD N pu left sent r) (c:Cf) (hu:r.fJ<=now+20) (hp:lG s r now m):lG s (aM c r now) now m:=by
 obtain ⟨g1,g2,g3⟩:=h.goes T c now;obtain ⟨b1,b2,b3,_⟩:=h.tH T c now;have hH:∀k,Has (aM c r now) k↔Has r k:=fun k=>by unfold Has;rw[g2,g3]
 have hG:∀i j,DN (aM c r now) i j↔DN r i j:=JD c now T h
 have hC:∀k x,za (aM c r now) k x↔za r k x:=fun k x=>⟨fun e j hj hg=>e j hj fun q=>hg ((hG k j).1 q),fun e j hj hg=>e j hj fun q=>hg ((hG k j).2 q)⟩
 have hm:K8 r (aM c r now):=⟨fun i j=>(hG i j).2,fun k=>(hH k).2⟩;obtain ⟨a,b,h1,h2,h3⟩:=hp;refine ⟨a,b,?_,h2.more hm,by omega⟩;cases ho:s.out with
 |nil=>rw[ho] at h1;exact h1
 |cons x t=>
  rw[ho] at h1;have h1:HT s r now x t a:=h1;refine ⟨fun e=>h1.u ((hH _).1 e),fun e e1 e2=> ?_,fun e e1 e2=> ?_,fun e e1 e2=> ?_,fun e e1 e2=> ?_,fun e=>h1.c fun q=>e ((hH _).2 q),fun e e1=>h1.b (fun q=>e ((hH _).2 q)) fun q=>e1 ((hC _ _).2 q),fun e e1=>h1.i (fun q=>e ((hH _).2 q)) fun q=>e1 ((hC _ _).2 q)⟩
  .rw[b3];cases hd:r.due with
   |true=>exact h1.d ((hH _).1 e) e1 hd
   |false=>
    cases ho2:s.dI with
    |true=>have:=h1.o ((hH _).1 e) e1 hd ho2;omega
    |false=>
     cases hw:s.wait with
     |true=>have:=h1.w ((hH _).1 e) e1 hd ho2 hw;omega
     |false=>have:=h1.v ((hH _).1 e) e1 hd ho2 hw;omega
  .cases hd:r.due with
   |true=>rw[b2 hd] at e2;cases e2
   |false=>exact h1.o ((hH _).1 e) e1 hd
  .cases hd:r.due with
   |true=>rw[b2 hd] at e2;cases e2
   |false=>exact h1.w ((hH _).1 e) e1 hd
  .cases hd:r.due with
   |true=>rw[b2 hd] at e2;cases e2
   |false=>exact h1.v ((hH _).1 e) e1 hd
end
def LzR (s:Sd) (r:Rc) (t:List Ou):Prop:=Has r s.first/\¬Ub s t/\r.due=true
def LzW (s:Sd) (r:Rc) (t:List Ou):Prop:=Has r s.first/\¬Ub s t/\r.due=false/\s.dI=false/\s.wait=true
def LzI (s:Sd) (r:Rc) (x:Ou):Prop:=¬Has r s.first/\¬za r s.first x/\dH s=true
section
variable {aD:List (List UInt8)} {N:Nat} {pu:Nat->Ou} {left:Nat->List (List UInt8)} {sent:Nat->Nat} {r:Rc} {s:Sd} {now:Int} {m:Nat} {x:Ou} {t:List Ou}
theorem VI (h:bY s) (ho:s.out≠ []):s.queue≠ []:=by
 intro hq;have h1:=h.tk;have h2:=h.le;have h3:aH s=0:=by unfold aH;rw[hq];rfl
 obtain ⟨x,t,e⟩:=List.exists_cons_of_ne_nil ho;have h4:=h.mG x (by rw[e];simp);rw[e,iL] at h1;omega
theorem lH (hl:s.out.length<512) (h:dH s=true):(∀x∈s.out,x.pend= [])/\s.taken=aH s:=by
 obtain ⟨h1,h2⟩:=kL.1 h;exact ⟨h1,h2.resolve_right (by omega)⟩
theorem Gi (h:bY s) (hl:s.out.length<512) (ho:s.out≠ []) (hi:dH s=true):s.wait=true:=
 h.holds (VI h ho) (lH hl hi).2 (lH hl hi).1
theorem K9 (hl:s.out.length<512) (ho:s.out=x::t) (hi:dH s=true):¬Ub s t:=by
 obtain ⟨h1,h2⟩:=lH hl hi;rintro (⟨y,hy,e⟩|e)
 .exact e (h1 y (by rw[ho];simp[hy]))
 .omega
theorem head_size (hS:qU aD N pu left sent (Has r) s) (ho:s.out=x::t):au x=au (pu s.first):=by
 have hx:=(hS.out 0 x (by rw[ho];rfl)).size
 rwa [uf] at hx
theorem La (hx:au x=au (pu s.first)) (hR:jF aD N pu left sent r) (hz:1<=au x) (hp:x.pend= []) (hc:za r s.first x):Has r s.first:=by
 refine hR.Rf (by omega) fun j hj=>G7 fun hg=> ?_
 have:=hc j (by omega) hg;rw[hp] at this;cases this
theorem JF (z:Nat) (hz:1<=z) (j:Nat) (hj:j<z):qm [(0,z-1)] j=true:=by
 simp[qm];omega
theorem rD (c:Cf) (h:s.out= []):aX c s=s:=by
 unfold aX;split
 .rfl
 .have hf:s.out.findIdx? (fun x=> !x.bJ)=none:=by rw[h];rfl
  simp only[hf]
theorem mU (c:Cf) (hi:dH s=true) (ho:s.out=x::t) (hx:x.bJ=false):aX c s=iW s 0 (fO c x [(0,au x-1)]):=by
 unfold aX;rw[aP (by simp[hi])];have hf:s.out.findIdx? (fun x=> !x.bJ)=some 0:=by rw[ho,List.findIdx?_cons];simp[hx]
 have h0:s.out[0]? =some x:=by rw[ho];rfl
 simp only[hf,h0]
theorem mV (c:Cf) (hi:dH s=false):aX c s=s:=by
 unfold aX;rw[bD hi]
theorem HT.as {s':Sd} (h:HT s r now x t m) (e1:s'.first=s.first) (e2:s'.dI=s.dI) (e3:s'.wait=s.wait) (e4:s'.bu=s.bu) (e5:s'.queue=s.queue) (e6:s'.taken=s.taken) (e7:s'.out=s.out):HT s' r now x t m:=by
 have h5:aH s'=aH s:=by unfold aH;rw[e5]
 have h6:Ub s' t=Ub s t:=by unfold Ub;rw[e6,h5]
 have h7:dH s'=dH s:=by unfold dH;rw[e6,h5,e7]
 exact ⟨by rw[e1,h6];exact h.u,by rw[e1,h6];exact h.d,by rw[e1,h6,e2];exact h.o,by rw[e1,h6,e2,e3,e4];exact h.w,by rw[e1,h6,e2,e3];exact h.v,by rw[e1];exact h.c,by rw[e1,h7];exact h.b,by rw[e1,h7,e4];exact h.i⟩
theorem lG.as {s':Sd} (h:lG s r now m) (e1:s'.first=s.first) (e2:s'.dI=s.dI) (e3:s'.wait=s.wait) (e4:s'.bu=s.bu) (e5:s'.queue=s.queue) (e6:s'.taken=s.taken) (e7:s'.out=s.out):lG s' r now m:=by
 have h5:aH s'=aH s:=by unfold aH;rw[e5]
 obtain ⟨a,b,h1,h2,h3⟩:=h;refine ⟨a,b,?_,by rw[e1,e7];exact h2,by unfold Uc at h3 ⊢;rw[h5,e6];exact h3⟩;rw[e7];cases ho:s.out with
 |nil=>rw[ho] at h1;intro q;rw[e6,h5] at q;exact h1 q
 |cons x t=>rw[ho] at h1;exact HT.as h1 e1 e2 e3 e4 e5 e6 e7
theorem lG.tick (c:Cf) (hS:qU aD N pu left sent (Has r) s) (hR:jF aD N pu left sent r) (h:bY s) (hl:s.out.length<512) (hn:s.now<=now) (hp:lG s r now m):
 ∃m',lG (aB c s now) r now m'/\m'<=m/\(∀x t,s.out=x::t->LzW s r t\/LzI s r x->s.bu<=now->m'+2<=m):=by
 have hck:(cO s now).now=now:=by
  show (if s.now<now then now else s.now)=now
  split<;>omega
 unfold aB gH;by_cases he:(cO s now).wait=false\/(cO s now).now<(cO s now).bu
 .rw[bD he];refine ⟨m,hp.as rfl rfl rfl rfl rfl rfl rfl,aL,fun x t ho hz hx=> ?_⟩;exfalso;rcases he with e|e
  .have e:s.wait=false:=e;rcases hz with ⟨_,_,_,_,hw⟩|⟨_,_,hi⟩
   .rw[e] at hw;cases hw
   .rw[Gi h hl (by rw[ho];simp) hi] at e;cases e
  .rw[hck] at e;have e:now<s.bu:=e;omega
 .rw[aP he];have hw:s.wait=true:=by
   cases hh:s.wait with
   |true=>rfl
   |false=>exact absurd (.inl hh) he
  obtain ⟨s1,hs1⟩:∃s1:Sd,s1= {cO s now with wait:=false,dI:=true}:=⟨_,rfl⟩
  have f1:s1.first=s.first:=by rw[hs1];rfl
  have f2:s1.dI=true:=by rw[hs1]
  have f3:s1.wait=false:=by rw[hs1]
  have f5:s1.queue=s.queue:=by rw[hs1];rfl
  have f6:s1.taken=s.taken:=by rw[hs1];rfl
  have f7:s1.out=s.out:=by rw[hs1];rfl
  have h5:aH s1=aH s:=by unfold aH;rw[f5]
  have hU:∀t,Ub s1 t=Ub s t:=fun t=>by unfold Ub;rw[f6,h5]
  have h7:dH s1=dH s:=by unfold dH;rw[f6,h5,f7]
  have hUc:Uc s1=Uc s:=by unfold Uc;rw[h5,f6]
  rw[<-hs1];clear hs1 hck he;obtain ⟨a,b,h1,h2,h3⟩:=hp;cases ho:s.out with
  |nil=>
   rw[rD c (f7.trans ho)];rw[ho] at h1 h2;refine ⟨m,⟨a,b,?_,by rw[f1,f7,ho];exact h2,by rw[hUc];exact h3⟩,aL,fun x t e=>(by cases e)⟩;rw[f7,ho];intro q;rw[f6,h5] at q;exact h1 q
  |cons x t=>
   rw[ho] at h1 h2;have h1:HT s r now x t a:=h1;cases hi:dH s with
   |false=>
    rw[mV c (h7.trans hi)];have key:∀a',(Has r s.first->Ub s t->cp x+94<=a')->(Has r s.first->¬Ub s t->r.due=true->2*(r.fJ-now).toNat+2<=a')->(Has r s.first->¬Ub s t->r.due=false->46<=a')->(¬Has r s.first->cp x+98<=a')->
     (¬Has r s.first->¬za r s.first x->cp x+98+3*(au x+1)+46<=a')->lG s1 r now (a'+b+Uc s+wQ r):=fun a' k1 k2 k3 k4 k5=>by
     refine ⟨a',b,?_,by rw[f1,f7,ho];exact h2,by rw[hUc];exact aL⟩;rw[f7,ho];refine ⟨by rw[f1,hU];exact k1,by rw[f1,hU];exact k2,?_,fun _ _ _ e=> ?_,fun _ _ _ e=> ?_,by rw[f1];exact k4,?_,fun _ _ e=> ?_⟩
     .rw[f1,hU];exact fun e1 e2 e3 _=>k3 e1 e2 e3
     .rw[f2] at e;cases e
     .rw[f2] at e;cases e
     .rw[f1];exact fun e1 e2 _=>k5 e1 e2
     .rw[h7,hi] at e;cases e
    by_cases hz:LzW s r t
    .obtain ⟨z1,z2,z3,z4,z5⟩:=hz;have h48:=h1.w z1 z2 z3 z4 z5;exact ⟨_,key (a-2) (fun _ e=>absurd e z2) (fun _ _ e=>absurd e (by simp[z3])) (fun _ _ _=>by omega) (fun e=>absurd z1 e) (fun e=>absurd z1 e),by omega,fun _ _ _ _ _=>by omega⟩
    .refine ⟨_,key a h1.u h1.d (fun e1 e2 e3=> ?_) h1.c (fun e1 e2=>h1.b e1 e2 hi),by omega,fun x' t' e hq _=> ?_⟩
     .cases hq:s.dI with
      |true=>exact h1.o e1 e2 e3 hq
      |false=>exact absurd ⟨e1,e2,e3,hq,hw⟩ hz
     .exfalso;cases e;rcases hq with q|⟨_,_,q⟩
      .exact hz q
      .rw[hi] at q;cases q
   |true=>
    have hxa:=h.hd x t ho;have hub:=K9 hl ho hi;have VJ:=(lH hl hi).1 x (by rw[ho];simp);have hz:=h.mG x (by rw[ho];simp);rw[mU c (h7.trans hi) (f7.trans ho) hxa];obtain ⟨p1,p2,p3,_⟩:=mH c x [(0,au x-1)];have hsz:au (fO c x [(0,au x-1)]).1=au x:=congrArg aj p1;have Gj:za r s.first (fO c x [(0,au x-1)]).1:=fun j hj _=>by
     rw[p3];exact JF _ hz j (by omega)
    have hcp:=JE (fO c x [(0,au x-1)]).1;rw[hsz] at hcp;generalize fO c x [(0,au x-1)]=R at*;have key:∀a',(Has r s.first->r.due=true->2*(r.fJ-now).toNat+2<=a')->(Has r s.first->r.due=false->46<=a')->(¬Has r s.first->cp R.1+98<=a')->
     lG (iW s1 0 R) r now (a'+b+Uc s+wQ r):=fun a' k1 k2 k3=>by
     have g1:(iW s1 0 R).first=s.first:=f1
     have g2:(iW s1 0 R).dI=true:=f2;have g7:(iW s1 0 R).out=R.1::t:=by show s1.out.set 0 R.1=_;rw[f7,ho];rfl
     have gU:Ub (iW s1 0 R) t=Ub s t:=hU t;refine ⟨a',b,?_,by rw[g1,g7];exact h2,by show a'+b+Uc s1+_<=_;rw[hUc];exact aL⟩;rw[g7];refine ⟨fun _ e=>absurd (gU ▸ e) hub,?_,?_,fun _ _ _ e=> ?_,fun _ _ _ e=> ?_,by rw[g1];exact k3,fun _ e=> ?_,fun _ e=> ?_⟩
     .rw[g1];exact fun e1 _ e3=>k1 e1 e3
     .rw[g1];exact fun e1 _ e3 _=>k2 e1 e3
     .rw[g2] at e;cases e
     .rw[g2] at e;cases e
     .rw[g1] at e;exact absurd Gj e
     .rw[g1] at e;exact absurd Gj e
    by_cases hH:Has r s.first
    .by_cases hz2:LzW s r t
     .obtain ⟨z1,z2,z3,z4,z5⟩:=hz2;have h48:=h1.w z1 z2 z3 z4 z5;exact ⟨_,key (a-2) (fun _ e=>absurd e (by simp[z3])) (fun _ _=>by omega) (fun e=>absurd hH e),by omega,fun _ _ _ _ _=>by omega⟩
     .refine ⟨_,key a (fun e1 e3=>h1.d e1 hub e3) (fun e1 e3=> ?_) (fun e=>absurd hH e),by omega,fun x' t' e hq _=> ?_⟩
      .cases hq:s.dI with
       |true=>exact h1.o e1 hub e3 hq
       |false=>exact absurd ⟨e1,hub,e3,hq,hw⟩ hz2
      .exfalso;cases e;rcases hq with q|⟨q,_⟩
       .exact hz2 q
       .exact q hH
    .have hnc:¬za r s.first x:=fun e=>hH (La (head_size hS ho) hR hz VJ e)
     have h9:=h1.i hH hnc hi;exact ⟨_,key (a-2) (fun e=>absurd e hH) (fun e=>absurd e hH) (fun _=>by omega),by omega,fun _ _ _ _ _=>by omega⟩
end
section
variable {aD:List (List UInt8)} {N:Nat} {pu:Nat->Ou} {left:Nat->List (List UInt8)} {sent:Nat->Nat} {r r1:Rc} {s s':Sd} {now:Int} {m a d:Nat} {x y:Ou} {t t':List Ou} {c:Cf}
theorem HT.next (h:HT s r now x t a) (hm:K8 r r1) (hf:s'.first=s.first) (hU:Has r s.first->Ub s t) (hi:dH s=false) (how:s'.dI=false) (hex:s'.wait=true->s'.bu<=now+20) (hun:r1.fJ<=now+20)
 (hiw:dH s'=true->s'.wait=true) (hcp:cp y+d<=cp x) (hz:au y=au x) (Gj:za r s.first x->za r1 s.first y) (_hd:d<=6):HT s' r1 now y t' (a-d)/\d<=a:=by
 have h92:94+d<=a/\cp y+94+d<=a:=by
  by_cases hH:Has r s.first
  .have:=h.u hH (hU hH);omega
  .have:=h.c hH;omega
 refine ⟨⟨fun _ _=>by omega,fun _ _ _=>by omega,fun _ _ _ e=> ?_,fun _ _ _ _ e=> ?_,fun _ _ _ _ _=>by omega,fun e=> ?_,fun e e2 _=> ?_,fun e e2 e3=> ?_⟩,by omega⟩
 .rw[how] at e;cases e
 .have:=hex e;omega
 .rw[hf] at e;have:=h.c fun q=>e (hm.has _ q)
  omega
 .rw[hf] at e e2;have:=h.b (fun q=>e (hm.has _ q)) (fun q=>e2 (Gj q)) hi;omega
 .rw[hf] at e e2;have:=h.b (fun q=>e (hm.has _ q)) (fun q=>e2 (Gj q)) hi;have:=hex (hiw e3);omega
theorem lV (c:Cf) (s:Sd) (b:Bool):
 (aG c s b).1.out=s.out/\(aG c s b).1.first=s.first/\(aG c s b).1.queue=s.queue/\(aG c s b).1.taken=s.taken/\(aG c s b).1.dI=false/\(aG c s b).1.now=s.now/\(aG c s b).1.failed=s.failed/\
 ((aG c s b).2=true->(aG c s b).1.wait=true/\(aG c s b).1.bu=IntKind.i64.wrap (s.now+c.timer))/\
 ((aG c s b).2=false->(aG c s b).1=s/\dH s=false):=by
 unfold aG;split
 .exact ⟨rfl,rfl,rfl,rfl,rfl,rfl,rfl,fun _=>⟨rfl,rfl⟩,fun e=>absurd e (by simp)⟩
 .rename_i h;have h:(b||s.dI||dH s)=false:=by simpa using h
  simp only[Bool.or_eq_false_iff] at h;exact ⟨rfl,rfl,rfl,rfl,h.1.2,rfl,rfl,fun e=>absurd e (by simp),fun _=>⟨rfl,h.2⟩⟩
theorem JG (hc:J9 c) (ht:c.timer<=20) (h0:0<=s.now) (hn:s.now<=now) (hs:now<=1000000) (hex:s.wait=true->s.bu<=now+20) (b:Bool):
 ((aG c s b).1.wait=true->(aG c s b).1.bu<=now+20)/\(dH (aG c s b).1=true->(aG c s b).1.wait=true):=by
 obtain ⟨f1,_,f3,f4,_,_,_,f8,f9⟩:=lV c s b;have h1:=hc.timer.1;cases hb:(aG c s b).2 with
 |true=>
  obtain ⟨g1,g2⟩:=f8 hb;refine ⟨fun _=> ?_,fun _=>g1⟩;rw[g2,vk];omega
 |false=>
  obtain ⟨g1,g2⟩:=f9 hb;rw[g1];exact ⟨hex,fun e=>by rw[g2] at e;cases e⟩
theorem zb (hS:qU aD N pu left sent (Has r) s) (hR:jF aD N pu left sent r):s.first<=r.next/\(Has r s.first->s.first<r.next):=by
 have h1:s.first<=r.next:=by
  rcases kD r.next s.first with h|h
  .rcases hS.has _ h with e|e
   .omega
   .rw[hR.nc] at e;cases e
  .exact h
 refine ⟨h1,fun e=> ?_⟩;rcases e with e|e
 .exact e
 .rcases kD s.first r.next with h|h
  .exact h
  .rw[show s.first=r.next by omega,hR.nc] at e;cases e
theorem JH {n:Nat} {b:Bool} (h1:r1.due=(r.due||b)) (h2:lF r1<=lF r+n):wQ r1<=wQ r+2*n+(if r.due=false/\b=true then 2 else 0):=by
 unfold wQ;rw[h1];cases r.due<;>cases b<;>simp<;>omega
theorem lG.again (hc:J9 c) (ht:c.timer<=20) (hT:vD aD N pu left sent) (hS:qU aD N pu left sent (Has r) s) (hR:jF aD N pu left sent r) (_h35:bY s) (hou:∀x∈s.out,zS x) (VK:∀x∈s.out,sH (au x) x.pend)
 (h0:0<=s.now) (hn:s.now<=now) (hs:now<=1000000) (hex:s.wait=true->s.bu<=now+20) (hun:r.fJ<=now+20) {n:Int} (acE:12<=n) {i:Nat} (hp:gZ s.out=some i) (hx:s.out[i]? =some x) (hP:lG s r now m):
 ∃p ap,dK c n s i x=((dK c n s i x).1,some p)/\qx (D7 (some p))= .inr ap/\s.first+i<N/\Piece (pu (s.first+i)) ap/\(∀y∈(dK c n s i x).1.out,sH (au y) y.pend)/\
  ∃m',lG (dK c n s i x).1 (iM c r ap).1 now m'/\m'<=m/\(∀x0 t,s.out=x0::t->¬LzR s r t->¬LzW s r t->m'+2<=m):=by
 obtain ⟨x1,hx1,hne,hbe⟩:=fH hp;rw[hx] at hx1;cases hx1;have hmem:=iT hx;obtain ⟨l,p,ap,e1,e2,e3,e4,e5,e6,e7,e8⟩:=JC c acE s i (hou x hmem) (VK x hmem) hne;have hil:=(pN.1 hx).1;have hfo:=hS.fo;have hk:s.first+i<N:=by omega
 have hsame:=hS.out i x hx;have hpc:Piece (pu (s.first+i)) ap:=e3.same hsame;obtain ⟨g1,_,_,g4,_⟩:=hR.Oh hT c hk hpc;obtain ⟨q1,q2,q3,q4,q5,q6⟩:=hR.takes hT c hk hpc;have hm:K8 r (iM c r ap).1:=⟨q1,g4⟩;have Lb:=JH q3 q6;rw[e1];refine ⟨p,ap,rfl,e2,hk,hpc,?_,?_⟩
 .have f1:(aG c (cB s i x l) false).1.out=s.out.set i {x with pend:=l}:=(lV c (cB s i x l) false).1;intro y hy;rw[show ((aG c (cB s i x l) false).1,some p).1.out=s.out.set i {x with pend:=l} from f1] at hy;rcases qZ hy with rfl|hy
  .exact e5
  .exact VK y hy
 dsimp only;obtain ⟨u1,u2,u3,u4,f5,_,_,_,f9⟩:=lV c (cB s i x l) false;obtain ⟨v1,v2⟩:=JG (now:=now) hc ht (s:=cB s i x l) h0 hn hs hex false;have w1:(aG c (cB s i x l) false).1.out=s.out.set i {x with pend:=l}:=u1;have w2:(aG c (cB s i x l) false).1.first=s.first:=u2
 have w3:(aG c (cB s i x l) false).1.queue=s.queue:=u3;have w4:(aG c (cB s i x l) false).1.taken=s.taken:=u4;have h5:aH (aG c (cB s i x l) false).1=aH s:=by unfold aH;rw[w3]
 have hUc:Uc (aG c (cB s i x l) false).1=Uc s:=by unfold Uc;rw[h5,w4]
 have hcp:cp {x with pend:=l}+6<=cp x:=by
  unfold cp;show 3*cst (au x) (qm l)+6<=_
  omega
 have Gj:za r (s.first+i) x->za (iM c r ap).1 (s.first+i) {x with pend:=l}:=fun h j hj hg=>by
  rcases e7 j (h j hj fun q=>hg (q1 _ _ q)) with q|q
  .exact q
  .exact absurd (q2 j q.1 q.2) hg
 have hidle:dH s=false:=by
  cases hh:dH s with
  |false=>rfl
  |true=>exact absurd ((kL.1 hh).1 x hmem) hne
 have hpo:ap.po=(aG c (cB s i x l) false).2:=e4;clear u1 u2 u3 u4;generalize aG c (cB s i x l) false=F at*;rw[hpo] at q3 Lb;have Y0:(iM c r ap).1.fJ<=now+20:=by rw[q4];exact hun
 generalize (iM c r ap).1=r1 at*;obtain ⟨A,B,h1,h2,h3⟩:=hP;cases ho:s.out with
 |nil=>rw[ho] at hx;simp at hx
 |cons x0 t=>
  rw[ho] at h1 h2 hx w1;have h1:HT s r now x0 t A:=h1;cases i with
  |succ i=>
   have hxt:t[i]? =some x:=by simpa using hx
   have hub:Ub s t:= .inl ⟨x,iT hxt,hne⟩;obtain ⟨k1,k2⟩:=h1.next (s':=F.1) (r1:=r1) (y:=x0) (t':=t.set i {x with pend:=l}) (d:=0) hm w2 (fun _=>hub) hidle f5 v1 Y0 v2 (by omega) rfl (fun q=>q.more hm) (by omega)
   obtain ⟨B',k3,k4⟩:=ST.set hm (i:=i) (y:= {x with pend:=l}) (d:=6) h2 hxt fun a0 ha0=>by
    rw[show s.first+1+i=s.first+(i+1) by omega] at ha0 ⊢;have:=ha0.a;exact ⟨a0-6,⟨by omega,fun q=>by have:=ha0.b fun z=>q (hm.has _ z);omega,fun q q'=>by
     have:=ha0.c (fun z=>q (hm.has _ z)) fun z=>q' (Gj z)
     show cp {x with pend:=l}+146+3*(au x+1)<=a0-6
     omega⟩,by omega⟩
   have hb4:wQ r1<=wQ r+4:=by
    refine gG Lb ?_;split<;>split<;>omega
   have hfin:lG F.1 r1 now (A+B'+Uc s+wQ r1):=by
    refine ⟨A,B',?_,?_,by rw[hUc];exact aL⟩
    .rw[w1];exact k1
    .rw[w1,w2];exact k3
   exact ⟨_,hfin,by omega,fun _ _ _ _ _=>by omega⟩
  |zero=>
   simp at hx;subst hx;rw[uf] at*;have hout:F.1.out= {x0 with pend:=l}::t:=w1;have hUb:Ub F.1 t=Ub s t:=by unfold Ub;rw[w4,h5]
   have hfin:∀A',HT F.1 r1 now {x0 with pend:=l} t A'->lG F.1 r1 now (A'+B+Uc s+wQ r1):=fun A' k=>by
    refine ⟨A',B,?_,?_,by rw[hUc];exact aL⟩
    .rw[hout];exact k
    .rw[hout,w2];exact h2.more hm
   by_cases agU:Has r s.first->Ub s t
   .obtain ⟨k1,k2⟩:=h1.next (s':=F.1) (r1:=r1) (y:= {x0 with pend:=l}) (t':=t) (d:=6) hm w2 agU hidle f5 v1 Y0 v2 hcp rfl Gj (by omega)
    have hb4:wQ r1<=wQ r+4:=by
     refine gG Lb ?_;split<;>split<;>omega
    exact ⟨_,hfin _ k1,by omega,fun _ _ _ _ _=>by omega⟩
   .obtain ⟨hH,hnu⟩:=Classical.not_imp.1 agU;have hlt:=(zb hS hR).2 hH;rw[bD hlt] at Lb;have hH1:Has r1 F.1.first:=by rw[w2];exact hm.has _ hH
    cases mW:r.due with
    |true=>
     have hd1:r1.due=true:=by rw[q3,mW];rfl
     have h9:=h1.d hH hnu mW;refine ⟨_,hfin A ⟨fun _ e=>absurd (hUb ▸ e) hnu,fun _ _ _=>by rw[q4];exact h9,fun _ _ e=>absurd e (by simp[hd1]),fun _ _ e=>absurd e (by simp[hd1]),fun _ _ e=>absurd e (by simp[hd1]),fun e=>absurd hH1 e,fun e=>absurd hH1 e,fun e=>absurd hH1 e⟩,?_,fun x' t' e z _=> ?_⟩
     .rw[aP (by simp[mW])] at Lb;omega
     .cases e;exact absurd ⟨hH,hnu,mW⟩ z
    |false=>
     cases hF:F.2 with
     |true=>
      have hd1:r1.due=true:=by rw[q3,hF];simp
      have h46:46<=A:=by
       cases hw:s.dI with
       |true=>exact h1.o hH hnu mW hw
       |false=>
        cases hw2:s.wait with
        |true=>have:=h1.w hH hnu mW hw hw2;omega
        |false=>have:=h1.v hH hnu mW hw hw2;omega
      rw[bD ⟨mW,hF⟩] at Lb;refine ⟨_,hfin 42 ⟨fun _ e=>absurd (hUb ▸ e) hnu,fun _ _ _=>by omega,fun _ _ e=>absurd e (by simp[hd1]),fun _ _ e=>absurd e (by simp[hd1]),fun _ _ e=>absurd e (by simp[hd1]),fun e=>absurd hH1 e,fun e=>absurd hH1 e,fun e=>absurd hH1 e⟩,by omega,fun _ _ _ _ _=>by omega⟩
     |false=>
      obtain ⟨g1',g2'⟩:=f9 hF;have hd1:r1.due=false:=by rw[q3,hF,mW];rfl
      have hw1:F.1.wait=s.wait:=by rw[g1'];rfl
      have hx1:F.1.bu=s.bu:=by rw[g1'];rfl
      have hs1:s.dI=false:=by
       have:F.1.dI=s.dI:=by rw[g1'];rfl
       rw[<-this];exact f5
      rw[aP (by simp[hF])] at Lb;cases hw2:s.wait with
      |true=>
       have h48:=h1.w hH hnu mW hs1 hw2;refine ⟨_,hfin A ⟨fun _ e=>absurd (hUb ▸ e) hnu,fun _ _ e=>absurd e (by simp[hd1]),fun _ _ _ e=>absurd e (by simp[f5]),fun _ _ _ _ _=>by rw[hx1];exact h48,fun _ _ _ _ e=>absurd e (by simp[hw1,hw2]),fun e=>absurd hH1 e,fun e=>absurd hH1 e,fun e=>absurd hH1 e⟩,by omega,fun x' t' e _ z=> ?_⟩;cases e;exact absurd ⟨hH,hnu,mW,hs1,hw2⟩ z
      |false=>
       have h92:=h1.v hH hnu mW hs1 hw2;exact ⟨_,hfin (A-6) ⟨fun _ e=>absurd (hUb ▸ e) hnu,fun _ _ e=>absurd e (by simp[hd1]),fun _ _ _ e=>absurd e (by simp[f5]),fun _ _ _ _ e=>absurd e (by simp[hw1,hw2]),fun _ _ _ _ _=>by omega,fun e=>absurd hH1 e,fun e=>absurd hH1 e,fun e=>absurd hH1 e⟩,by omega,fun _ _ _ _ _=>by omega⟩
theorem P4 (h:bY s) (hq:∀q∈s.queue,q.length<=60) {n:Int} (hn:12<=n):4<=au (aJ n s)\/au (aJ n s)=aH s-s.taken:=by
 obtain ⟨⟨d,e1,e2⟩,e3,e4⟩:=sF s.queue s.taken h.le;have hmem:∀q∈(aI s.queue s.taken).1,1<=q.length/\q.length<=60:=fun q hm=>by
  have:q∈s.queue:=by rw[e1];exact iH.2 (.inr hm)
  exact ⟨h.pos q this,hq q this⟩
 have h4:=Nu n hn ((aI s.queue s.taken).1.length+1) (aI s.queue s.taken).1 (aI s.queue s.taken).2 0 0 0 false hmem e4 e3 (Nat.lt_succ_self _) (aL) (.inl rfl);have hsum:aH s=aj d+aj (aI s.queue s.taken).1:=by
  unfold aH
  conv=>lhs;rw[e1]
  exact nN _ _
 have hsz:au (aJ n s)=aj (l9 n ((aI s.queue s.taken).1.length+1) (aI s.queue s.taken).1 (aI s.queue s.taken).2 0 0 0 false).1:=rfl;rw[hsz];omega
theorem lG.fresh (hc:J9 c) (ht:c.timer<=20) (D:Dir aD N pu left sent) (hS:qU aD N pu left sent (Has r) s) (hR:jF aD N pu left sent r) (tJ:bY s) {K:Nat} (hb:lK s K) (hq:∀q∈s.queue,q.length<=60)
 (hN:N<511) (h0:0<=s.now) (hn:s.now<=now) (hs:now<=1000000) (hex:s.wait=true->s.bu<=now+20) (hun:r.fJ<=now+20) {n:Int} (acE:12<=n) (_hp:gZ s.out=none) (hu:s.taken<aH s) (hP:lG s r now m):
 ∃p ap,bU c n s=((bU c n s).1,some p)/\qx (qO p.1.sn p.2 false false 0 p.1.s p.1.e p.1.ps)= .inr ap/\(∀y∈(bU c n s).1.out,y∈s.out\/y.pend= [])/\
  (bU c n s).1.first+(bU c n s).1.out.length=N+1/\aH (bU c n s).1=aH s/\((bU c n s).1.taken=aH s\/s.taken+4<=(bU c n s).1.taken)/\
  ∃m',lG (bU c n s).1 (iM c r ap).1 now m'/\m'+2<=m:=by
 have hfo:=hS.fo;have h4:=P4 tJ hq acE;have hne:(aJ n s).ps≠ []:=fun e=>by
  have:au (aJ n s)=0:=by unfold au;rw[e];rfl
  omega
 obtain ⟨z1,z2⟩:=xh tJ.toInvV n hne;have hE:bU c n s=((aG c (cK s (aJ n s)) (dF c (cK s (aJ n s)))).1,some (aJ n s,(aG c (cK s (aJ n s)) (dF c (cK s (aJ n s)))).2)):=by
  unfold bU;rw[aP (by omega),aP hne]
 obtain ⟨vN,left',sent',f1,f2,f3,f4,f5⟩:=hS.fresh D hN n hne;have hok:=chunk_ok hb tJ.toInvV n hne;have hR':=hR.fresh f1 f2;obtain ⟨y1,y2,y3,y4,w5,_,_,_,_⟩:=lV c (cK s (aJ n s)) (dF c (cK s (aJ n s)));obtain ⟨v1,v2⟩:=JG (now:=now) hc ht (s:=cK s (aJ n s)) h0 hn hs hex (dF c (cK s (aJ n s)));have w1:(aG c (cK s (aJ n s)) (dF c (cK s (aJ n s)))).1.out=s.out++ [aJ n s]:=y1;have w2:(aG c (cK s (aJ n s)) (dF c (cK s (aJ n s)))).1.first=s.first:=y2
 have w3:(aG c (cK s (aJ n s)) (dF c (cK s (aJ n s)))).1.queue=s.queue:=y3;have w4:(aG c (cK s (aJ n s)) (dF c (cK s (aJ n s)))).1.taken=s.taken+au (aJ n s):=y4;have h5:aH (aG c (cK s (aJ n s)) (dF c (cK s (aJ n s)))).1=aH s:=by unfold aH;rw[w3]
 rw[hE];clear hE y1 y2 y3 y4;generalize aG c (cK s (aJ n s)) (dF c (cK s (aJ n s)))=F at*;obtain ⟨d1,d2⟩:=KZ hok F.2;have hpc:=d2.same f5;have hpe:(aJ n s).pend= []:=rfl;generalize aJ n s=x at*;obtain ⟨_,_,_,g4,g5⟩:=hR'.Oh f3.T c (Nat.lt_succ_self N) hpc;obtain ⟨q1,_,q3,q4,_,q6⟩:=hR'.takes f3.T c (Nat.lt_succ_self N) hpc;have hm:K8 r (iM c r ⟨x.sn,F.2,false,false,0,x.s,x.e,x.ps⟩).1:=⟨q1,g4⟩;have Lb:=JH q3 q6;have hHN:=g5 rfl rfl;have Y0:(iM c r ⟨x.sn,F.2,false,false,0,x.s,x.e,x.ps⟩).1.fJ<=now+20:=by rw[q4];exact hun
 refine ⟨(x,F.2),_,rfl,d1,fun y hy=> ?_,?_,h5,?_,?_⟩
 .dsimp only at hy;rw[w1] at hy;rcases iH.1 hy with hy|hy
  .exact .inl hy
  .simp only[nC] at hy;subst hy;exact .inr hpe
 .dsimp only;rw[w1,w2,l8];simp only[Ep];omega
 .dsimp only;rw[w4];omega
 dsimp only;generalize (iM c r ⟨x.sn,F.2,false,false,0,x.s,x.e,x.ps⟩).1=r1 at*;have hb4:wQ r1<=wQ r+4:=by
  refine gG Lb ?_;split<;>split<;>omega
 have hUc:Uc F.1+6<=Uc s:=by
  unfold Uc;rw[h5,w4];omega
 have hidle:dH s=false:=by
  cases hh:dH s with
  |false=>rfl
  |true=>rcases (kL.1 hh).2 with e|e<;>omega
 obtain ⟨A,B,h1,h2,h3⟩:=hP;cases ho:s.out with
 |nil=>
  rw[ho] at h1 hfo;have hA:94<=A:=h1 hu;have hcp:=PZ hpe;simp at hfo;have hHf:Has r1 F.1.first:=by rw[w2,hfo];exact hHN
  have hfin:lG F.1 r1 now (A+B+Uc F.1+wQ r1):=by
   refine ⟨A,B,?_,?_,aL⟩
   .rw[w1,ho];refine ⟨fun _ _=>by omega,fun _ _ _=>by omega,fun _ _ _ e=>absurd e (by simp[w5]),fun _ _ _ _ e=> ?_,fun _ _ _ _ _=>by omega,fun e=>absurd hHf e,fun e=>absurd hHf e,fun e=>absurd hHf e⟩;have:=v1 e;omega
   .rw[w1,ho]
    trivial
  exact ⟨_,hfin,by omega⟩
 |cons x0 t=>
  rw[ho] at h1 h2 hfo;have h1:HT s r now x0 t A:=h1;obtain ⟨k1,k2⟩:=h1.next (s':=F.1) (r1:=r1) (y:=x0) (t':=t++ [x]) (d:=0) hm w2 (fun _=> .inr hu) hidle w5 v1 Y0 v2 (by omega) rfl (fun q=>q.more hm) (by omega)
  have hcp:=PZ hpe;have hfin:lG F.1 r1 now (A+B+Uc F.1+wQ r1):=by
   refine ⟨A,B,?_,?_,aL⟩
   .rw[w1,ho];exact k1
   .rw[w1,ho,w2];have hh:Has r1 (s.first+1+t.length):=by
     rw[show s.first+1+t.length=N by simp at hfo;omega];exact hHN
    exact ST.app (a:=0) (h2.more hm) ⟨by omega,fun e=>absurd hh e,fun e=>absurd hh e⟩
  exact ⟨_,hfin,by omega⟩
end
theorem ST.map {r r':Rc}:∀{l l':List Ou} {k m:Nat},l'.length=l.length->(∀(i:Nat) (x y:Ou),l[i]? =some x->l'[i]? =some y->∀a,CT r (k+i) x a->CT r' (k+i) y a)->ST r k l m->ST r' k l' m
 | [],[],_,_,_,_,_=>trivial
 |x::l,y::l',k,m,hl,h,⟨a,b,h1,h2,h3⟩=>by
  refine ⟨a,b,h 0 x y rfl rfl a h1,ST.map (by simpa using hl) (fun i u v hu hv a0 ha0=> ?_) h2,h3⟩;rw[show k+1+i=k+(i+1) by omega] at ha0 ⊢;exact h (i+1) u v (by simpa using hu) (by simpa using hv) a0 ha0
theorem ST.drop {r:Rc}:∀{l:List Ou} {k m d:Nat} {y:Ou} {t:List Ou},ST r k l m->l.drop d=y::t->∃a b,CT r (k+d) y a/\ST r (k+d+1) t b/\a+b<=m
 | [],_,_,_,_,_,_,h=>by simp at h
 |x::l,k,m,0,y,t,⟨a,b,h1,h2,h3⟩,h=>by
  simp at h;obtain ⟨rfl,rfl⟩:=h;exact ⟨a,b,h1,h2,h3⟩
 |x::l,k,m,d+1,y,t,⟨a,b,h1,h2,h3⟩,h=>by
  obtain ⟨a',b',e1,e2,e3⟩:=ST.drop (d:=d) h2 (by simpa using h);rw[show k+(d+1)=k+1+d by omega];exact ⟨a',b',e1,e2,by omega⟩
theorem Bf:∀{l:List Ou} {p:Nat},(∀(i:Nat) (x:Ou),i<p->l[i]? =some x->x.bJ=true)->(∀x,l[p]? =some x->x.bJ=false)->p<=l.length->(aV l).1=p/\(aV l).2.2=l.drop p
 | [],p,_,_,h=>by
  have:p=0:=by simpa using h
  subst this;exact ⟨rfl,rfl⟩
 |x::l,0,_,h2,_=>by
  have:=h2 x rfl;unfold aV;rw[aP (by simp[this])];exact ⟨rfl,rfl⟩
 |x::l,p+1,h1,h2,h3=>by
  have:=h1 0 x (by omega) rfl;obtain ⟨e1,e2⟩:=Bf (l:=l) (p:=p) (fun i y hi hy=>h1 (i+1) y (by omega) (by simpa using hy)) (fun y hy=>h2 y (by simpa using hy)) (by simpa using h3);unfold aV;rw[bD this];dsimp only;rw[e1,e2];exact ⟨rfl,rfl⟩
section
variable {aD:List (List UInt8)} {N:Nat} {pu:Nat->Ou} {left:Nat->List (List UInt8)} {sent:Nat->Nat} {r r1:Rc} {s s':Sd} {now:Int} {m a d:Nat} {x y:Ou} {t t':List Ou} {c:Cf}
theorem lG.nS (c:Cf) (hsx:∀x t,s.out=x::t->au x=au (pu s.first)) (hR:jF aD N pu left sent r) (hd:∀x t,s.out=x::t->x.bJ=false) (hop:∀x∈s.out,1<=au x) (hl:s.out.length<512) (how:s.dI=true) (hp:lG s r now m):lG (aX c s) r now m:=by
 cases hi:dH s with
 |false=>rw[mV c hi];exact hp
 |true=>
  obtain ⟨a,b,h1,h2,h3⟩:=hp;cases ho:s.out with
  |nil=>rw[rD c ho];exact ⟨a,b,h1,h2,h3⟩
  |cons x t=>
   rw[ho] at h1 h2;have h1:HT s r now x t a:=h1;have hub:=K9 hl ho hi;have VJ:=(lH hl hi).1 x (by rw[ho];simp);have hz:=hop x (by rw[ho];simp);rw[mU c hi ho (hd x t ho)];obtain ⟨p1,p2,p3,_⟩:=mH c x [(0,au x-1)];have hsz:au (fO c x [(0,au x-1)]).1=au x:=congrArg aj p1;have Gj:za r s.first (fO c x [(0,au x-1)]).1:=fun j hj _=>by
    rw[p3];exact JF _ hz j (by omega)
   have hcp:=JE (fO c x [(0,au x-1)]).1;rw[hsz] at hcp;generalize fO c x [(0,au x-1)]=R at*;have g7:(iW s 0 R).out=R.1::t:=by show s.out.set 0 R.1=_;rw[ho];rfl
   refine ⟨a,b,?_,by rw[g7];exact h2,h3⟩;rw[g7];refine ⟨fun _ e=>absurd e hub,fun e1 _ e3=>h1.d e1 hub e3,fun e1 _ e3 _=>h1.o e1 hub e3 how,fun _ _ _ e=>absurd (e.symm.trans how) (by simp),fun _ _ _ e=>absurd (e.symm.trans how) (by simp),fun e=> ?_,fun _ e=>absurd Gj e,fun _ e=>absurd Gj e⟩;have e:¬Has r s.first:=e
   have hnc:¬za r s.first x:=fun q=>e (La (hsx x t ho) hR hz VJ q)
   have:=h1.i e hnc hi;omega
theorem CT.told (hS:qU aD N pu left sent (Has r) s) (hR:jF aD N pu left sent r) (hT:vD aD N pu left sent) (tJ:bY s) {aA:Nat} {l:List Nk} (hG:acC N pu r aA l) {i:Nat} (hx:s.out[i]? =some x) (hi:s.first+i<aA):
 (Has r (s.first+i)->(bT c (aQ l) x).1.bJ=true/\(bT c (aQ l) x).1.pend= [])/\
 (¬Has r (s.first+i)->(bT c (aQ l) x).1.bJ=false/\za r (s.first+i) (bT c (aQ l) x).1/\(za r (s.first+i) x->cp (bT c (aQ l) x).1<=cp x))/\
 sH (au x) (bT c (aQ l) x).1.pend/\au (bT c (aQ l) x).1=au x:=by
 have hmem:=iT hx;have hz:=tJ.mG x hmem;have hil:=(pN.1 hx).1;have hfo:=hS.fo;have hsame:=hS.out i x hx;have hsz:=hsame.size;have hsn:x.sn=s.first+i:=by rw[hsame.sn,hT.sn _ (by omega)]
 obtain ⟨m1,m2⟩:=PX hG.ok hG.pw hz;have hex:∀j,j<au x->(qm (aQ l x) j=true↔¬DN r (s.first+i) j):=fun j hj=>by
  rw[m2 j hj,hsn];exact hG.ex _ hi j (by omega)
 have hps:au (bT c (aQ l) x).1=au x:=congrArg aj (ul c (aQ l) x);have hin:∀j,qm (aQ l x) j=true->j<au x:=fun j hj=>by
  obtain ⟨q,hq,h1,h2⟩:=DV.1 hj;have:=m1.2 q hq;omega
 refine ⟨fun hH=> ?_,fun hH=> ?_,?_,hps⟩
 .have hnil:aQ l x= []:=by
   cases hm:aQ l x with
   |nil=>rfl
   |cons q t=>
    exfalso;have h1:=m1.2 q (by rw[hm];simp);have h2:qm (aQ l x) q.1=true:=DV.2 ⟨q,by rw[hm];simp,aL,h1.1⟩;exact (hex _ (by omega)).1 h2 (hR.Re hH (by omega))
  unfold bT;split
  .rename_i ha;exact ⟨ha,tJ.ak x hmem ha⟩
  .exact ⟨rfl,rfl⟩
 .have hna:x.bJ=false:=by
   cases ha:x.bJ with
   |false=>rfl
   |true=>exact absurd (hS.ak i x hx ha) hH
  have hne:aQ l x≠ []:=fun e=>hH (hR.Rf (by omega) fun j hj=>G7 fun hg=>by
   have:=(hex j (by omega)).2 hg;rw[e] at this;cases this)
  have hE:(bT c (aQ l) x).1=(fO c x (aQ l x)).1:=by
   unfold bT;rw[aP (by simp[hna]),aP hne]
  obtain ⟨p1,p2,p3,_⟩:=mH c x (aQ l x);rw[<-hE] at p1 p2 p3;refine ⟨p2.trans hna,fun j hj hg=> ?_,fun hcv=> ?_⟩
  .rw[p3];exact (hex j (by omega)).2 hg
  .unfold cp;rw[hps,p3];exact Nat.mul_le_mul_left 3 (Ug fun j hj=>hcv j (hin j hj) ((hex j (hin j hj)).1 hj))
 .unfold bT;split
  .rename_i ha;rw[tJ.ak x hmem ha];exact sH.nil _
  .split
   .exact sH.nil _
   .rw[(mH c x (aQ l x)).2.2.1];exact m1
end
end Go.Proofs.YtbhiklnljiehiaaGreat
