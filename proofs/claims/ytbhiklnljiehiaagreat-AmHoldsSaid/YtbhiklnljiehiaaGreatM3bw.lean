/- AmHolds, plain: a report falls. -/
import Derived.Test.YtbhiklnljiehiaaGreatM3bt
import Derived.Test.YtbhiklnljiehiaaGreatM3bv
import Derived.Deep.Slices
set_option maxHeartbeats 4000000
set_option maxRecDepth 100000
namespace Go.Proofs.YtbhiklnljiehiaaGreat
open RowKit Shelf Tryz
attribute [local go_sem] Oper.semAt_some
section
variable {aD:List (List UInt8)} {N:Nat} {pu:Nat->Ou} {left:Nat->List (List UInt8)} {sent:Nat->Nat} {r r1:Rc} {s s':Sd} {now:Int} {m a d:Nat} {x y:Ou} {t t':List Ou} {c:Cf}
theorem qF (e1:r1.next=r.next) (e2:r1.m=r.m):∀k,Has r1 k↔Has r k:=fun k=>by unfold Has;rw[e1,e2]
theorem Nz (e1:r1.next=r.next) (e2:r1.m=r.m):∀k j,DN r1 k j↔DN r k j:=fun k j=>by unfold DN;rw[e1,e2]
def fq (c:Cf) (l:List Nk) (n:Nat) (s:Sd):Sd:=
 ig {s with out:=(aT c (aQ l) n s.out).1,failed:=s.failed||(aT c (aQ l) n s.out).2,wait:=s.wait&&decide (n<=qi s s.polled)}
theorem Gl (c:Cf) (l:List Nk) (n:Nat) (s:Sd):oU c (aQ l) n s=if (fq c l n s).dI=true then aX c (fq c l n s) else fq c l n s:=rfl
theorem lG.told (hS:qU aD N pu left sent (Has r) s) (hR:jF aD N pu left sent r) (hT:vD aD N pu left sent) (tJ:bY s) (hl:s.out.length<512) {aA:Nat} {l:List Nk} (hG:acC N pu r aA l)
 (hex:s.bu<=now+20)
 (e1:r1.next=r.next) (e2:r1.m=r.m) (e3:wQ r1+2<=wQ r) (hd:r.due=true) (hp:lG s r now m):
 (∃m',lG (fq c l (aA-s.first) s) r1 now m'/\m'+2<=m)/\(∀y∈(fq c l (aA-s.first) s).out,(sH (au y) y.pend\/y∈s.out)/\1<=au y)/\
  (∀y t,(fq c l (aA-s.first) s).out=y::t->y.bJ=false/\au y=au (pu (fq c l (aA-s.first) s).first))/\(fq c l (aA-s.first) s).out.length<=s.out.length/\
  (fq c l (aA-s.first) s).first+(fq c l (aA-s.first) s).out.length=s.first+s.out.length/\aH (fq c l (aA-s.first) s)-(fq c l (aA-s.first) s).taken=aH s-s.taken/\aH (fq c l (aA-s.first) s)<=aH s:=by
 have _:=hd;have hN:=hT.n;have hfo:=hS.fo;have hge:=hG.ge;have hle:=hG.le;obtain ⟨hfn,hfl⟩:=zb hS hR;have hnx:=hR.nx;have hH:=qF e1 e2;have hGt:=Nz e1 e2;have hC:∀k x,za r1 k x↔za r k x:=fun k x=>⟨fun q j hj hg=>q j hj fun z=>hg ((hGt k j).1 z),fun q j hj hg=>q j hj fun z=>hg ((hGt k j).2 z)⟩
 have hn:aA-s.first<=s.out.length:=by omega
 have hget:=jk (c:=c) (m:=aQ l) (n:=aA-s.first) s.out;have hlen:=jK (c:=c) (m:=aQ l) (n:=aA-s.first) s.out;generalize hL:(aT c (aQ l) (aA-s.first) s.out).1=L at*;have hy:∀(i:Nat) (x y:Ou),s.out[i]? =some x->L[i]? =some y->(Has r (s.first+i)->s.first+i<aA->y.bJ=true/\y.pend= [])/\
  (¬Has r (s.first+i)->y.bJ=false/\(s.first+i<aA->za r (s.first+i) y/\(za r (s.first+i) x->cp y<=cp x))/\(aA<=s.first+i->y=x))/\au y=au x/\(sH (au y) y.pend\/y=x):=by
  intro i x y hx NA;have hnd:¬Has r (s.first+i)->x.bJ=false:=fun q=>by
   cases ha:x.bJ with
   |false=>rfl
   |true=>exact absurd (hS.ak i x hx ha) q
  rw[hget,hx] at NA;by_cases hi:i<aA-s.first
  .rw[bD hi] at NA;have NA:(bT c (aQ l) x).1=y:=by simpa using NA
   obtain ⟨c1,c2,c3,c4⟩:=CT.told (c:=c) hS hR hT tJ hG hx (by omega);rw[NA] at c1 c2 c3 c4;exact ⟨fun q _=>c1 q,fun q=>⟨(c2 q).1,fun _=>(c2 q).2,fun z=>by omega⟩,c4,.inl (by rw[c4];exact c3)⟩
  .rw[aP hi] at NA;have NA:x=y:=by simpa using NA
   subst NA;exact ⟨fun _ z=>by omega,fun q=>⟨hnd q,fun z=>by omega,fun _=>rfl⟩,rfl,.inr rfl⟩
 have hct:∀(i:Nat) (x y:Ou),s.out[i]? =some x->L[i]? =some y->∀a,CT r (s.first+i) x a->CT r1 (s.first+i) y a:=by
  intro i x y hx NA a ha;obtain ⟨c1,c2,c3,_⟩:=hy i x y hx NA;have hcy:=JE y;by_cases hh:Has r (s.first+i)
  .by_cases hlt:s.first+i<aA
   .exact ⟨by rw[PZ (c1 hh hlt).2];omega,fun q=>absurd ((hH _).2 hh) q,fun q=>absurd ((hH _).2 hh) q⟩
   .have Y1:=NA;rw[hget,hx,aP (by omega)] at Y1;have Y1:x=y:=by simpa using Y1
    subst Y1;exact ⟨ha.a,fun q=>absurd ((hH _).2 hh) q,fun q=>absurd ((hH _).2 hh) q⟩
  .obtain ⟨d1,d2,d3⟩:=c2 hh;by_cases hlt:s.first+i<aA
   .obtain ⟨k1,k2⟩:=d2 hlt;have hb:=ha.b hh;have key:cp y+146<=a:=by
     by_cases hcv:za r (s.first+i) x
     .have:=k2 hcv;omega
     .have:=ha.c hh hcv;rw[c3] at hcy;omega
    exact ⟨by omega,fun _=>key,fun _ q=>absurd ((hC _ _).2 k1) q⟩
   .have:=d3 (by omega);subst this;exact ⟨ha.a,fun _=>ha.b hh,fun _ q=>ha.c hh fun z=>q ((hC _ _).2 z)⟩
 have hcnt:=Bf (l:=L) (p:=r.next-s.first) (fun i y hi NA=>by
  have hlt:i<s.out.length:=by omega
  exact ((hy i _ y (gX hlt) NA).1 (.inl (by omega)) (by omega)).1) (fun y NA=>by
  have hlt:r.next-s.first<s.out.length:=by have:=(pN.1 NA).1;omega
  refine ((hy _ _ y (gX hlt) NA).2.1 ?_).1;rw[show s.first+(r.next-s.first)=r.next by omega];rintro (q|q)
  .omega
  .rw[hR.nc] at q;cases q) (by omega)
 have hto:(fq c l (aA-s.first) s).out=L.drop (r.next-s.first):=by
  unfold fq;rw[hL];exact hcnt.2
 have GM:(fq c l (aA-s.first) s).first=r.next:=by
  unfold fq;rw[hL];show (s.first+(aV L).1)%1024=_
  rw[hcnt.1];omega
 obtain ⟨htu,hTk,hTh⟩:aH (fq c l (aA-s.first) s)-(fq c l (aA-s.first) s).taken=aH s-s.taken/\(fq c l (aA-s.first) s).taken<=aH (fq c l (aA-s.first) s)/\aH (fq c l (aA-s.first) s)<=aH s:=by
  have hsz:sizes L=sizes s.out:=by rw[<-hL];exact rP (c:=c) (m:=aQ l) (n:=aA-s.first) s.out
  obtain ⟨⟨d,q1,_,q3,q4⟩,_⟩:=sG s.queue (s.front+(aV L).2.1);obtain ⟨⟨d2,f1,_,f3,_⟩,_⟩:=jJ L;have g1:aH s=aj d+aH (fq c l (aA-s.first) s):=by
   unfold fq;rw[hL];show aj s.queue=_+aj (iy s.queue (s.front+(aV L).2.1)).2.2.2
   conv=>lhs;rw[q1]
   exact nN _ _
  have g2:(fq c l (aA-s.first) s).taken=s.taken-(iy s.queue (s.front+(aV L).2.1)).2.1:=by
   unfold fq;rw[hL];rfl
  have g3:=tJ.tk;have g4:sizes L=sizes d2+sizes (aV L).2.2:=by
   conv=>lhs;rw[f1]
   exact pP _ _
  have g5:=tJ.le;omega
 have hte:(fq c l (aA-s.first) s).bu=s.bu:=rfl;refine ⟨?_,fun y hym=> ?_,fun y t hyt=> ?_,?_,?_,htu,hTh⟩;rotate_left
 .rw[hto] at hym;obtain ⟨i,hi⟩:=List.getElem?_of_mem (List.mem_of_mem_drop hym);have hlt:i<s.out.length:=by have:=(pN.1 hi).1;omega
  obtain ⟨_,_,z1,z2⟩:=hy i _ y (gX hlt) hi;refine ⟨?_,?_⟩
  .rcases z2 with q|q
   .exact .inl q
   .exact .inr (q ▸ xR _)
  .rw[z1];exact tJ.mG _ (xR _)
 .rw[hto] at hyt;have hyi:L[r.next-s.first]? =some y:=by
   have:=vg (xs:=L) (i:=r.next-s.first) (j:=0);rw[hyt] at this;simpa using this.symm
  have hlt:r.next-s.first<s.out.length:=by have:=(pN.1 hyi).1;omega
  obtain ⟨_,z0,z1,_⟩:=hy _ _ y (gX hlt) hyi;have hnn:s.first+(r.next-s.first)=r.next:=by omega
  refine ⟨(z0 ?_).1,?_⟩
  .rw[hnn];rintro (q|q)
   .omega
   .rw[hR.nc] at q;cases q
  .rw[z1,(hS.out _ _ (gX hlt)).size,hnn,GM]
 .rw[hto,kC];omega
 .rw[hto,GM,kC];omega
 have hUc:Uc (fq c l (aA-s.first) s)=Uc s:=by unfold Uc;rw[htu]
 obtain ⟨A,B,h1,h2,h3⟩:=hp;have hno:¬Has r1 r.next:=fun q=>by
  rcases (hH _).1 q with q|q
  .omega
  .rw[hR.nc] at q;cases q
 generalize fq c l (aA-s.first) s=S at*;cases hd':L.drop (r.next-s.first) with
 |nil=>
  have hA:s.taken<aH s->94<=A:=fun hu=>by
   cases ho:s.out with
   |nil=>rw[ho] at h1;exact h1 hu
   |cons x t=>
    rw[ho] at h1;have h1:HT s r now x t A:=h1;by_cases hh:Has r s.first
    .have:=h1.u hh (.inr hu);omega
    .have:=h1.c hh;omega
  have hfin:lG S r1 now (A+B+Uc S+wQ r1):=by
   refine ⟨A,B,?_,?_,aL⟩
   .rw[hto,hd'];intro q;exact hA (by omega)
   .rw[hto,hd']
    trivial
  exact ⟨_,hfin,by omega⟩
 |cons y t'=>
  have hyi:L[r.next-s.first]? =some y:=by
   have:=vg (xs:=L) (i:=r.next-s.first) (j:=0);rw[hd'] at this;simpa using this.symm
  have hylt:=(pN.1 hyi).1;have hbw:2*(S.bu-now).toNat+2<=42:=by
   rw[hte];omega
  have hmk:∀A',cp y+98<=A'->(¬za r1 r.next y->cp y+98+3*(au y+1)+46<=A')->HT S r1 now y t' A':=fun A' k1 k2=>by
   refine ⟨fun e=> ?_,fun e=> ?_,fun e=> ?_,fun e=> ?_,fun e=> ?_,fun _=>k1,fun _ e _=> ?_,fun _ e _=> ?_⟩
   .rw[GM] at e;exact absurd e hno
   .rw[GM] at e;exact absurd e hno
   .rw[GM] at e;exact absurd e hno
   .rw[GM] at e;exact absurd e hno
   .rw[GM] at e;exact absurd e hno
   .rw[GM] at e;exact k2 e
   .rw[GM] at e;have:=k2 e;omega
  cases ho:s.out with
  |nil=>
   have h00:L.length=0:=by rw[hlen,ho];rfl
   omega
  |cons x0 t0=>
   cases hL0:L with
   |nil=>rw[hL0] at hylt;simp at hylt
   |cons y0 t1=>
    rw[ho] at h1 h2;have h1:HT s r now x0 t0 A:=h1;have hl1:t1.length=t0.length:=by rw[ho,hL0] at hlen;simpa using hlen
    have hST:ST r1 (s.first+1) t1 B:=ST.map hl1 (fun i u v hu hv a ha=>by
     rw[show s.first+1+i=s.first+(i+1) by omega] at ha ⊢;exact hct (i+1) u v (by rw[ho];simpa using hu) (by rw[hL0];simpa using hv) a ha) h2
    rcases Nat.eq_or_lt_of_le hfn with heq|hlt
    .
     have hz:r.next-s.first=0:=by omega
     rw[hz,hL0] at hd';simp at hd';obtain ⟨rfl,rfl⟩:=hd';have hnh:¬Has r s.first:=fun q=>by have:=hfl q;omega
     obtain ⟨_,c2,c3,_⟩:=hy 0 x0 y0 (by rw[ho];rfl) (by rw[hL0];rfl);rw[uf] at c2;obtain ⟨_,d2,d3⟩:=c2 hnh;have hcy:=JE y0;have h98:=h1.c hnh;have hfin:∀A',HT S r1 now y0 t1 A'->lG S r1 now (A'+B+Uc S+wQ r1):=fun A' k=>by
      refine ⟨A',B,?_,?_,aL⟩
      .rw[hto,hz,hL0];exact k
      .rw[hto,hz,hL0,GM,<-heq];exact hST
     by_cases hak:s.first<aA
     .obtain ⟨k1,k2⟩:=d2 hak;refine ⟨_,hfin A (hmk A ?_ fun q=>absurd ((hC _ _).2 (heq ▸ k1)) q),by omega⟩;by_cases hcv:za r s.first x0
      .have:=k2 hcv;omega
      .rw[c3] at hcy;cases hid:dH s with
       |true=>have:=h1.i hnh hcv hid;omega
       |false=>have:=h1.b hnh hcv hid;omega
     .have hyx:=d3 (by omega);subst hyx;cases hid:dH s with
      |false=>
       exact ⟨_,hfin A (hmk A h98 fun q=>h1.b hnh (fun z=>q ((hC _ _).2 (heq ▸ z))) hid),by omega⟩
      |true=>
       have hn0:aA-s.first=0:=by omega
       have hLs:L=s.out:=by
        rw[<-hL];refine zG fun i=> ?_
        rw[jk,aP (by omega)]
       have alG:dH S=true:=by
        obtain ⟨i1,i2⟩:=lH hl hid;refine kL.2 ⟨fun z hzm=>i1 z ?_,.inl ?_⟩
        .rw[hto,hz,ny,hLs] at hzm;exact hzm
        .have hle2:S.taken<=aH S:=by
          have:=hTk;omega
         omega
       refine ⟨_,hfin A ⟨fun e=>absurd (GM ▸ e) hno,fun e=>absurd (GM ▸ e) hno,fun e=>absurd (GM ▸ e) hno,fun e=>absurd (GM ▸ e) hno,fun e=>absurd (GM ▸ e) hno,fun _=>h98,fun _ _ e=>absurd (alG.symm.trans e) (by simp),fun _ e _=> ?_⟩,by omega⟩;rw[GM] at e;rw[hte];exact h1.i hnh (fun z=>e ((hC _ _).2 (heq ▸ z))) hid
    .
     have hdr:t1.drop (r.next-s.first-1)=y::t':=by
      rw[hL0,show r.next-s.first=(r.next-s.first-1)+1 by omega] at hd';simpa using hd'
     obtain ⟨a,b,k1,k2,k3⟩:=ST.drop hST hdr;rw[show s.first+1+(r.next-s.first-1)=r.next by omega] at k1 k2;have k4:=k1.b hno;have hfin:lG S r1 now (a+b+Uc S+wQ r1):=by
      refine ⟨a,b,?_,?_,aL⟩
      .rw[hto,hd'];exact hmk a (by omega) fun q=>by have:=k1.c hno q;omega
      .rw[hto,hd',GM];exact k2
     exact ⟨_,hfin,by omega⟩
end
section
variable {aD:List (List UInt8)} {N:Nat} {pu:Nat->Ou} {left:Nat->List (List UInt8)} {sent:Nat->Nat} {r r1:Rc} {s s':Sd} {now:Int} {m a d K:Nat} {x y:Ou} {t t':List Ou} {c:Cf}
structure Lv (s:Sd) (r:Rc) (now:Int):Prop where
 NB:∀x∈s.out,sH (au x) x.pend
 ow:s.dI=true->s.out≠ []->dH s=false
 sn:s.now<=now
 ex:s.bu<=now+20
 un:r.fJ<=now+20
 rn:r.now<=now
theorem uI (c:Cf) (s:Sd):(aX c s).wait=s.wait/\(aX c s).now=s.now/\(aX c s).bu=s.bu/\(aX c s).dI=s.dI/\(aX c s).first=s.first/\(aX c s).queue=s.queue/\(aX c s).taken=s.taken/\(aX c s).out.length=s.out.length:=by
 unfold aX;split
 .exact ⟨rfl,rfl,rfl,rfl,rfl,rfl,rfl,rfl⟩
 .split
  .exact ⟨rfl,rfl,rfl,rfl,rfl,rfl,rfl,rfl⟩
  .split
   .exact ⟨rfl,rfl,rfl,rfl,rfl,rfl,rfl,rfl⟩
   .exact ⟨rfl,rfl,rfl,rfl,rfl,rfl,rfl,by simp[iW]⟩
theorem wS (hd:∀x t,s.out=x::t->x.bJ=false) (hop:∀x∈s.out,1<=au x) (h:∀x∈s.out,sH (au x) x.pend):∀x∈(aX c s).out,sH (au x) x.pend:=by
 cases hi:dH s with
 |false=>rw[mV c hi];exact h
 |true=>
  cases ho:s.out with
  |nil=>rw[rD c ho,ho];simp
  |cons x t=>
   rw[mU c hi ho (hd x t ho)];intro y hy;have hy:y∈s.out.set 0 (fO c x [(0,au x-1)]).1:=hy;rcases qZ hy with rfl|hy
   .obtain ⟨p1,_,p3,_⟩:=mH c x [(0,au x-1)];have hz:=hop x (by rw[ho];simp);rw[p3,show au (fO c x [(0,au x-1)]).1=au x from congrArg aj p1];exact sH.whole hz
   .exact h y hy
theorem j5 (hd:∀x t,s.out=x::t->x.bJ=false) (ho:(aX c s).out≠ []):dH (aX c s)=false:=by
 cases hi:dH s with
 |false=>rw[mV c hi];exact hi
 |true=>
  cases hl:s.out with
  |nil=>rw[rD c hl] at ho;exact absurd hl ho
  |cons x t=>
   rw[mU c hi hl (hd x t hl)];cases hh:dH (iW s 0 (fO c x [(0,au x-1)])) with
   |false=>rfl
   |true=>
    have h1:=(kL.1 hh).1 (fO c x [(0,au x-1)]).1 (by show _∈s.out.set 0 _;rw[hl];simp);rw[(mH c x _).2.2.1] at h1;cases h1
theorem xG (h:s.now<=now):(cO s now).now=now:=by
 show (if s.now<now then now else s.now)=now
 split<;>omega
theorem P5 (h:s.now=now):cO s now=s:=by
 subst h;cases s;simp[cO]
theorem pQ (c:Cf) (h:s.now<=now):(aB c s now).now=now/\(aB c s now).first=s.first/\(aB c s now).queue=s.queue/\(aB c s now).taken=s.taken/\(aB c s now).out.length=s.out.length/\(aB c s now).bu=s.bu/\
 (((aB c s now)=cO s now/\(s.wait=false\/now<s.bu))\/(s.wait=true/\s.bu<=now/\(aB c s now).wait=false/\(aB c s now).dI=true/\∃s1:Sd,aB c s now=aX c s1/\s1.out=s.out)):=by
 have hc:=xG h;unfold aB gH;split
 .rename_i e;rw[hc] at e;exact ⟨hc,rfl,rfl,rfl,rfl,rfl,.inl ⟨rfl,e⟩⟩
 .rename_i e;rw[hc] at e;obtain ⟨e1,e2⟩:=not_or.1 e;obtain ⟨k1,k2,k3,k4,k5,k6,k7,k8⟩:=uI c {cO s now with wait:=false,dI:=true};have e1:¬s.wait=false:=e1;have e2:¬now<s.bu:=e2;exact ⟨k2.trans hc,k5,k6,k7,k8,k3,.inr ⟨by simpa using e1,by omega,k1,k4,_,rfl,rfl⟩⟩
theorem JI (c:Cf) (h:s.now<=now):aB c (aB c s now) now=aB c s now:=by
 obtain ⟨k1,_,_,_,_,kx,k6⟩:=pQ c h;have hs:cO (aB c s now) now=aB c s now:=P5 k1;have he:(aB c s now).wait=false\/(aB c s now).now<(aB c s now).bu:=by
  rcases k6 with ⟨e,e2⟩|⟨_,_,e,_,_⟩
  .rw[k1,e];exact e2
  .exact .inl e
 generalize aB c s now=s1 at*;unfold aB gH;rw[hs,bD he]
theorem Lv.tick (c:Cf) (h:Lv s r now) (tJ:bY s):Lv (aB c s now) r now:=by
 obtain ⟨k1,_,_,_,_,kx,k6⟩:=pQ c h.sn;rcases k6 with ⟨e,_⟩|⟨_,_,e1,_,s1,e2,e3⟩
 .rw[e];exact ⟨h.NB,h.ow,by rw[xG h.sn];exact Int.le_refl _,h.ex,h.un,h.rn⟩
 .have hd:∀x t,s1.out=x::t->x.bJ=false:=by rw[e3];exact tJ.hd
  refine ⟨?_,fun _ ho=> ?_,by omega,by rw[kx];exact h.ex,h.un,h.rn⟩
  .rw[e2];exact wS hd (by rw[e3];exact tJ.mG) (by rw[e3];exact h.NB)
  .rw[e2] at ho ⊢;exact j5 hd ho
theorem lG.agV (T:vD aD N pu left sent) (h:jF aD N pu left sent r) (c:Cf) (hu:r.fJ<=now+20) (hp:lG s r now m) (ho:s.out=x::t) (hH:Has r s.first) (hub:¬Ub s t) (h1:r.due=false) (h2:(aM c r now).due=true):∃m',lG s (aM c r now) now m'/\m'+2<=m:=by
 obtain ⟨g1,g2,g3⟩:=h.goes T c now;obtain ⟨b1,_,b3,_⟩:=h.tH T c now;have hm:K8 r (aM c r now):=⟨fun i j=>(JD c now T h i j).2,fun k=>(qF g2 g3 k).2⟩;obtain ⟨A,B,k1,k2,k3⟩:=hp;rw[ho] at k1;have k1:HT s r now x t A:=k1;have hA:46<=A:=by
  cases ho2:s.dI with
  |true=>exact k1.o hH hub h1 ho2
  |false=>
   cases hw:s.wait with
   |true=>have:=k1.w hH hub h1 ho2 hw;omega
   |false=>have:=k1.v hH hub h1 ho2 hw;omega
 have hH1:=hm.has _ hH;refine ⟨42+B+Uc s+wQ (aM c r now),⟨42,B,?_,k2.more hm,aL⟩,by omega⟩;rw[ho];exact ⟨fun _ e=>absurd e hub,fun _ _ _=>by omega,fun _ _ e=>absurd e (by simp[h2]),fun _ _ e=>absurd e (by simp[h2]),fun _ _ e=>absurd e (by simp[h2]),fun e=>absurd hH1 e,fun e=>absurd hH1 e,fun e=>absurd hH1 e⟩
theorem Bg (c:Cf) (T:vD aD N pu left sent) (h:jF aD N pu left sent r) (hr:r.now<=now):(aM c r now).now=now:=by
 rw[(h.tH T c now).2.2.2];show (if r.now<now then now else r.now)=now
 split<;>omega
theorem Lv.goes (c:Cf) (T:vD aD N pu left sent) (hR:jF aD N pu left sent r) (h:Lv s r now):Lv s (aM c r now) now:=by
 have h1:=Bg c T hR h.rn;obtain ⟨_,_,h2,_⟩:=hR.tH T c now;exact ⟨h.NB,h.ow,h.sn,h.ex,by rw[h2];exact h.un,by rw[h1];exact Int.le_refl _⟩
theorem NC (D:Dir aD N pu left sent) (hS:qU aD N pu left sent (Has r) s) (hR:jF aD N pu left sent r) (hk:fu c s K) (hv:Lv s r now) (hp0:0<=c.cu) (hp:c.cu<=20) (hn0:0<=now) (hs:now<=1000000) {n:Int} (hn:12<=n)
 (hl:s.out.length<512) (mW:(aM c r now).due=true) (hun:(aM c r now).fJ<=now) (hnf:s.failed=false) (hP:lG s r now m):
 ∃aA l,(dG c (aM c r now) now n).2.1=qB aA l/\bO (aA:Int) l=true/\Lv (bP c s now (aA:Nat) l).1 (dG c (aM c r now) now n).1 now/\
  ((bP c s now (aA:Nat) l).1.first+(bP c s now (aA:Nat) l).1.out.length=s.first+s.out.length/\aH (bP c s now (aA:Nat) l).1-(bP c s now (aA:Nat) l).1.taken=aH s-s.taken)/\
  ∃m1,lG (bP c s now (aA:Nat) l).1 (dG c (aM c r now) now n).1 now m1/\m1+2<=m:=by
 have tJ:=hk.inv;have hN:=D.T.n;have hfo:=hS.fo;obtain ⟨g1,g2,g3⟩:=hR.goes D.T c now;have hv1:=hv.goes c D.T hR;obtain ⟨j1,j2,j3⟩:=g1.goes D.T c now;have hv2:=hv1.goes c D.T g1;obtain ⟨_,b2,b3,_⟩:=g1.tH D.T c now;have ed:=Bg c D.T g1 hv1.rn;have hd2:=b2 mW;have hP2:=(hP.goes D.T hR c hv.un).goes D.T g1 c hv1.un;have hS2:qU aD N pu left sent (Has (aM c (aM c r now) now)) s:=hS.mono fun k hk=>(qF j2 j3 k).2 ((qF g2 g3 k).2 hk)
 unfold dG;rw[aP (by omega),aP (by rw[hd2,b3,ed];simp;omega)];dsimp only;clear b2 mW;rw[<-b3] at hun;generalize aM c (aM c r now) now=q at*;obtain ⟨aA,l,e1,hG⟩:=j1.sends D hn;rw[e1,ed];refine ⟨aA,l,rfl,hG.v,?_⟩;obtain ⟨hfn,_⟩:=zb hS2 j1;have hge:=hG.ge;have hle:=hG.le;have hpl:∀k:Int,(s.first:Int)<=k->k<=N->eP s k=k-s.first:=fun k h1 h2=>by unfold eP;omega
 have hst:bP c s now (aA:Nat) l=kS c s now (aA:Nat) l:=by unfold bP;rw[aP (by simp[hnf])]
 have hss:(kS c s now (aA:Nat) l).1=oU c (aQ l) (aA-s.first) (cO s now):=by
  have hno:¬((s.out.length:Int)<eP s (aA:Nat)\/l.any (fun n=>decide (eP s (aA:Nat)<=eP s n.sn))=true):=by
   rw[hpl aA (by omega) (by omega)];rintro (e|e)
   .omega
   .rw[Eu] at e;obtain ⟨k,hk2,hk3⟩:=e;have h1:=hG.nx k hk2;have h2:=(hG.ok k hk2).s1;rw[gY,hpl k.sn (by omega) (by omega)] at hk3;omega
  unfold kS;rw[aP (by rw[hG.v];simp),aP hno];dsimp only;rw[hpl aA (by omega) (by omega),show ((aA:Int)-(s.first:Int)).toNat=aA-s.first by omega]
 rw[hst,hss];have hck:=xG hv.sn;have hS0:qU aD N pu left sent (Has q) (cO s now):=hS2.QY (jV.clock s now);have agW:=tJ.clock now;have hP0:lG (cO s now) q now m:=hP2.as rfl rfl rfl rfl rfl rfl rfl;have hInv:=agW.stat c (aQ l) (aA-s.first) (by show _<=s.out.length;omega) (Md l);have hf0:(cO s now).first=s.first:=rfl
 obtain ⟨⟨m1,k1,k2⟩,k3,k4,k5,k6,k7,k8⟩:=hP0.told (c:=c) (l:=l) (aA:=aA) (r1:= {q with due:=false,fJ:=IntKind.i64.wrap (now+c.cu),now:=now}) hS0 j1 D.T agW hl hG hv.ex rfl rfl (by
  have h1:lF {q with due:=false,fJ:=IntKind.i64.wrap (now+c.cu),now:=now}=lF q:=rfl;unfold wQ;rw[h1,hd2];simp;omega) hd2
 rw[hf0] at k1 k3 k4 k5 k6 k7 k8;have agX:IntKind.i64.wrap (now+c.cu)<=now+20:=by
  rw[vk];omega
 have tY:jF aD N pu left sent {q with due:=false,fJ:=IntKind.i64.wrap (now+c.cu),now:=now}:=j1.flags rfl rfl rfl rfl rfl rfl rfl rfl;have VK:∀y∈(fq c l (aA-s.first) (cO s now)).out,sH (au y) y.pend:=fun y hy=>(k3 y hy).1.elim id fun z=>hv.NB y z
 have hex:(fq c l (aA-s.first) (cO s now)).bu=s.bu:=rfl;have hnw:(fq c l (aA-s.first) (cO s now)).now=now:=hck;rw[Gl];have k5':(fq c l (aA-s.first) (cO s now)).out.length<512:=by
  have:(cO s now).out.length=s.out.length:=rfl;omega
 generalize fq c l (aA-s.first) (cO s now)=S at*;split
 .rename_i ho;obtain ⟨_,u2,u3,_,u5,u6,u7,u8⟩:=uI c S;have hd9:∀x t,S.out=x::t->x.bJ=false:=fun x t e=>(k4 x t e).1
  have hop:∀x∈S.out,1<=au x:=fun x hx=>(k3 x hx).2
  refine ⟨⟨wS hd9 hop VK,fun _ h9=>j5 hd9 h9,by rw[u2,hnw];exact Int.le_refl _,by rw[u3,hex];exact hv.ex,agX,Int.le_refl _⟩,⟨by rw[u5,u8];exact k6,by rw[u7,show aH (aX c S)=aH S by unfold aH;rw[u6]];exact k7⟩,m1,?_,k2⟩;exact k1.nS c (fun x t e=>(k4 x t e).2) tY hd9 hop k5' ho
 .rename_i ho;exact ⟨⟨VK,fun e=>absurd e ho,by rw[hnw];exact Int.le_refl _,by rw[hex];exact hv.ex,agX,Int.le_refl _⟩,⟨k6,k7⟩,m1,k1,k2⟩
def Lc (s:Sd):Prop:=(s.taken<aH s->4*(s.first+s.out.length)+(aH s-s.taken)<=1800)/\4*(s.first+s.out.length)<=1804
def Str (s:Sd) (r:Rc) (now:Int) (m m1:Nat):Prop:=Dh s\/m1+2<=m\/∃x t,s.out=x::t/\(LzR s r t\/((LzW s r t\/LzI s r x)/\now<s.bu))
theorem ze (hc:J9 c) (ht:c.timer<=20) (h0:0<=s.now) (hn:s.now<=now) (hs:now<=1000000) (hex:s.bu<=now+20) (b:Bool):(aG c s b).1.bu<=now+20:=by
 obtain ⟨_,_,_,_,_,_,_,f8,f9⟩:=lV c s b;have h1:=hc.timer.1;cases hb:(aG c s b).2 with
 |true=>
  rw[(f8 hb).2,vk];omega
 |false=>
  rw[(f9 hb).1];exact hex
theorem SI (c:Cf) (hd:∀x t,s.out=x::t->x.bJ=false) (ho:s.out=x::t):∃x',(aB c s now).out=x'::t:=by
 unfold aB gH;split
 .exact ⟨x,ho⟩
 .cases hi:dH ({cO s now with wait:=false,dI:=true}:Sd) with
  |false=>
   rw[mV c hi];exact ⟨x,ho⟩
  |true=>
   rw[mU c hi (x:=x) (t:=t) ho (hd x t ho)];refine ⟨(fO c x [(0,au x-1)]).1,?_⟩;show s.out.set 0 _=_
   rw[ho];rfl
theorem JJ (c:Cf) (r:Rc) (a:jY):(iM c r a).1.fJ=r.fJ/\(iM c r a).1.now=r.now/\(r.due=true->(iM c r a).1.due=true):=by
 unfold iM;split
 .exact ⟨rfl,rfl,fun e=>by show (r.due||a.po)=true;rw[e];rfl⟩
 split
 .exact ⟨rfl,rfl,id⟩
 .dsimp only;obtain ⟨_,_,_,f4,f5,f6⟩:=wR 1024 (iD r a (d9 r a.sn));obtain ⟨g1,g2,_,g4,_⟩:=Gh c (bK 1024 (iD r a (d9 r a.sn))).1;exact ⟨by rw[g2,f5];rfl,by rw[g4,f6];rfl,fun e=>by rw[g1,f4];show (r.due||a.po)=true;rw[e];rfl⟩
theorem lG.aaD (T:vD aD N pu left sent) (h:jF aD N pu left sent r) (c:Cf) (hu:r.fJ<=now+20) (hp:lG s r now m):
 ∃m',lG s (aM c r now) now m'/\m'<=m/\(∀x t,s.out=x::t->Has r s.first->¬Ub s t->r.due=false->(aM c r now).due=true->m'+2<=m):=by
 by_cases hh:∃x t,s.out=x::t/\Has r s.first/\¬Ub s t/\r.due=false/\(aM c r now).due=true
 .obtain ⟨x,t,h1,h2,h3,h4,h5⟩:=hh;obtain ⟨m',k1,k2⟩:=hp.agV T h c hu h1 h2 h3 h4 h5;exact ⟨m',k1,by omega,fun _ _ _ _ _ _ _=>k2⟩
 .exact ⟨m,hp.goes T h c hu,aL,fun x t h1 h2 h3 h4 h5=>absurd ⟨x,t,h1,h2,h3,h4,h5⟩ hh⟩
theorem SK (hT:c.timer<=20) (D:Dir aD N pu left sent) (hS:qU aD N pu left sent (Has r) s) (hR:jF aD N pu left sent r) (hk:fu c s K) (hv:Lv s r now) (hn0:0<=now) (hs:now<=1000000) {n:Int} (hn:12<=n)
 (hcn:Lc s) (hnf:(aB c s now).failed=false) (hP:lG s r now m):
 ((aZ c (aB c s now) now n).2.1=none/\Lv (aZ c (aB c s now) now n).1 r now/\Lc (aZ c (aB c s now) now n).1/\∃m1,lG (aZ c (aB c s now) now n).1 r now m1/\m1<=m/\Str s r now m m1)\/
 ∃p ap,(aZ c (aB c s now) now n).2.1=some p/\qx (D7 (some p))= .inr ap/\Lv (aZ c (aB c s now) now n).1 (iM c (aM c r now) ap).1 now/\Lc (aZ c (aB c s now) now n).1/\
  (r.due=true->(iM c (aM c r now) ap).1.due=true)/\(iM c (aM c r now) ap).1.fJ=r.fJ/\∃m1,lG (aZ c (aB c s now) now n).1 (iM c (aM c r now) ap).1 now m1/\m1<=m/\Str s r now m m1:=by
 have tJ:=hk.inv;have hfo:=hS.fo;have hN:N<=451:=by have:=hcn.2;omega
 have hl:s.out.length<512:=by omega
 obtain ⟨mt,p1,p2,p3⟩:=hP.tick c hS hR tJ hl hv.sn;obtain ⟨t1,t2,t3,t4,t5,t6,t7⟩:=pQ c hv.sn;have hid:=JI c hv.sn;have hv1:=hv.tick c tJ;have Y2:=tJ.tick c now;have hS1:qU aD N pu left sent (Has r) (aB c s now):=hS.QY (jV.tick c s now);have hb1:=hk.bnd.tick c (now:=now) (by omega);have hth:aH (aB c s now)=aH s:=by unfold aH;rw[t3]
 have htail:∀x t,s.out=x::t->∃x',(aB c s now).out=x'::t:=fun x t ho=>SI c tJ.hd ho
 have alI:∀q∈(aB c s now).queue,q.length<=60:=fun q hq=>by
  rw[t3,hS.q] at hq;exact ((D.ok s.first (by omega)).len q hq).2
 have acF:Lc (aB c s now):=by
  unfold Lc;rw[t2,t4,t5,hth];exact hcn
 have hgr:aZ c (aB c s now) now n=((kF c (aB c s now) now n).1,(kF c (aB c s now) now n).2.1,if (kF c (aB c s now) now n).2.2=true then 8 else 0):=by
  unfold aZ;rw[aP (by simp[hnf]),aP (by omega)]
 rw[hgr];dsimp only;unfold kF;rw[hid,aP (by simp[hnf])];have hg:=hR.goes D.T c now;obtain ⟨_,b2,b3,_⟩:=hR.tH D.T c now;have hgn:=Bg c D.T hR hv.rn;have P6:=hv1.goes c D.T hR;have hSg:qU aD N pu left sent (Has (aM c r now)) (aB c s now):=hS1.mono fun k hk=>(qF hg.2.1 hg.2.2 k).2 hk
 obtain ⟨mg,hPg,g1,g2⟩:=p1.aaD D.T hR c hv.un;have hH:Has (aM c r now) s.first↔Has r s.first:=qF hg.2.1 hg.2.2 _
 have hUb:∀t,Ub (aB c s now) t=Ub s t:=fun t=>by unfold Ub;rw[t4,hth]
 have hstr:∀m1,m1<=mg->(aB c s now).out≠ []->(∀x t,(aB c s now).out=x::t->¬LzR (aB c s now) (aM c r now) t->¬LzW (aB c s now) (aM c r now) t->m1+2<=mg)->Str s r now m m1:=by
  intro m1 h1 hne h2;by_cases hw:∃x t,s.out=x::t/\(LzR s r t\/((LzW s r t\/LzI s r x)/\now<s.bu))
  .exact .inr (.inr hw)
  refine .inr (.inl ?_);cases ho:s.out with
  |nil=>rw[ho] at t5;exact absurd (nV t5) hne
  |cons x t=>
   obtain ⟨x',ho'⟩:=htail x t ho;by_cases hz:LzW s r t\/LzI s r x
   .have:=p3 x t ho hz (by
     refine G7 fun q=>hw ⟨x,t,ho,.inr ⟨hz,by omega⟩⟩)
    omega
   .by_cases hR2:LzR (aB c s now) (aM c r now) t
    .obtain ⟨z1,z2,z3⟩:=hR2;rw[t2] at z1;rw[hUb] at z2;cases mW:r.due with
     |true=>exact absurd ⟨x,t,ho,.inl ⟨hH.1 z1,z2,mW⟩⟩ hw
     |false=>
      have:=g2 x' t ho' (by rw[t2];exact hH.1 z1) (by rw[hUb];exact z2) mW z3;omega
    .have:=h2 x' t ho' hR2 (by
      rintro ⟨z1,z2,z3,z4,z5⟩;rw[t2] at z1;rw[hUb] at z2;rcases t7 with ⟨q1,q2⟩|⟨_,_,q3,_⟩
      .have w1:s.dI=false:=by rw[q1] at z4;exact z4
       have w2:s.wait=true:=by rw[q1] at z5;exact z5
       have w3:r.due=false:=by
        cases mW:r.due with
        |false=>rfl
        |true=>rw[b2 mW] at z3;cases z3
       exact hz (.inl ⟨hH.1 z1,z2,w3,w1,w2⟩)
      .rw[q3] at z5;cases z5)
     omega
 cases hpa:gZ (aB c s now).out with
 |some i=>
  obtain ⟨x,hx,_⟩:=fH hpa;simp only[hx];have hmem:=iT hx;obtain ⟨p,ap,a1,a2,a3,a4,a5,m1,a6,a7,a8⟩:=lG.again (n:=n) hk.cf hT D.T hSg hg.1 Y2 hb1.ou hv1.NB (by omega) P6.sn hs (fun _=>P6.ex) P6.un hn hpa hx hPg;obtain ⟨_,hx2,hne,_⟩:=fH hpa;rw[hx] at hx2;cases hx2;obtain ⟨l',p',ap',e1,_⟩:=JC c hn (aB c s now) i (hb1.ou x hmem) (hv1.NB x hmem) hne;have hF:(dK c n (aB c s now) i x).1=(aG c (cB (aB c s now) i x l') false).1:=by rw[e1]
  obtain ⟨y1,y2,y3,y4,y5,y6,_,_,_⟩:=lV c (cB (aB c s now) i x l') false;have Ng:=ze (now:=now) hk.cf hT (s:=cB (aB c s now) i x l') (by show 0<=(aB c s now).now;omega) P6.sn hs hv1.ex false;rw[<-hF] at y1 y2 y3 y4 y5 y6 Ng;have y1:(dK c n (aB c s now) i x).1.out=(aB c s now).out.set i {x with pend:=l'}:=y1;have y2:(dK c n (aB c s now) i x).1.first=(aB c s now).first:=y2
  have y3:(dK c n (aB c s now) i x).1.queue=(aB c s now).queue:=y3;have y4:(dK c n (aB c s now) i x).1.taken=(aB c s now).taken:=y4;have y6:(dK c n (aB c s now) i x).1.now=(aB c s now).now:=y6;obtain ⟨_,_,q3,q4,q5,_⟩:=hg.1.takes D.T c a3 a4;refine .inr ⟨p,ap,by rw[a1],a2,⟨a5,fun e=>absurd e (by simp[y5]),by omega,Ng,by rw[q4];exact P6.un,by rw[q5];exact P6.rn⟩,?_,fun e=>by rw[q3,b2 e];rfl,q4.trans b3,m1,a6,by omega,hstr m1 a7 (fun e=>by rw[e] at hx;simp at hx) a8⟩;unfold Lc;rw[y2,y1,Dr,y4,show aH (dK c n (aB c s now) i x).1=aH (aB c s now) by unfold aH;rw[y3]];exact acF
 |none=>
  dsimp only;have hnp:=vZ.1 hpa;have hle:=Y2.le;by_cases hu:(aB c s now).taken<aH (aB c s now)
  .obtain ⟨p,ap,a1,a2,a3,a4,a5,a6,m1,a7,a8⟩:=lG.fresh (n:=n) hk.cf hT D hSg hg.1 Y2 hb1 alI (by omega) (by omega) P6.sn hs (fun _=>P6.ex) P6.un hn hpa hu hPg;have hne:(aJ n (aB c s now)).ps≠ []:=fun e=>by
    have e9:bU c n (aB c s now)=(aB c s now,none):=by unfold bU;rw[aP (by omega),bD e]
    rw[e9] at a1;cases a1
   have e9:bU c n (aB c s now)=((aG c (cK (aB c s now) (aJ n (aB c s now))) (dF c (cK (aB c s now) (aJ n (aB c s now))))).1,some (aJ n (aB c s now),(aG c (cK (aB c s now) (aJ n (aB c s now))) (dF c (cK (aB c s now) (aJ n (aB c s now))))).2)):=by
    unfold bU;rw[aP (by omega),aP hne]
   have hF:(bU c n (aB c s now)).1=(aG c (cK (aB c s now) (aJ n (aB c s now))) (dF c (cK (aB c s now) (aJ n (aB c s now))))).1:=by rw[e9]
   obtain ⟨_,_,_,_,y5,y6,_,_,_⟩:=lV c (cK (aB c s now) (aJ n (aB c s now))) (dF c (cK (aB c s now) (aJ n (aB c s now))));have Ng:=ze (now:=now) hk.cf hT (s:=cK (aB c s now) (aJ n (aB c s now))) (by show 0<=(aB c s now).now;omega) P6.sn hs hv1.ex (dF c (cK (aB c s now) (aJ n (aB c s now))));rw[<-hF] at y5 y6 Ng;have y6:(bU c n (aB c s now)).1.now=(aB c s now).now:=y6;clear hF e9;obtain ⟨l1,l2,l3⟩:=JJ c (aM c r now) ap;generalize bU c n (aB c s now)=Fr at*;obtain ⟨S2,o⟩:=Fr;obtain ⟨xo,bo⟩:=p;have ho:o=some (xo,bo):=(Prod.mk.inj a1).2;subst ho;dsimp only at*;have hc1:=acF.1 hu;refine .inr ⟨_,ap,rfl,a2,⟨fun y hy=> ?_,fun e=>absurd e (by simp[y5]),by omega,Ng,by rw[l1];exact P6.un,by rw[l2];exact P6.rn⟩,⟨fun q=> ?_,by omega⟩,fun e=>l3 (b2 e),l1.trans b3,m1,a7,by omega,.inr (.inl (by omega))⟩
   .rcases a3 y hy with q|q
    .exact hv1.NB y q
    .rw[q];exact sH.nil _
   .rcases a6 with q2|q2<;>omega
  .have e9:bU c n (aB c s now)=(aB c s now,none):=by
    unfold bU;split
    .rfl
    .by_cases hne:(aJ n (aB c s now)).ps= []
     .rw[bD hne]
     .have:=xh Y2.toInvV n hne;omega
   rw[e9];refine .inl ⟨rfl,hv1,acF,mt,p1,p2,?_⟩;have hi1:dH (aB c s now)=true:=kL.2 ⟨hnp,.inl (by omega)⟩;cases ho:s.out with
   |nil=>exact .inl ⟨ho,by omega⟩
   |cons x t=>
    rcases t7 with ⟨q1,q2⟩|⟨_,_,_,_,s0,q4,q5⟩
    .have hi:dH s=true:=by rw[q1] at hi1;exact hi1
     have hw:=Gi tJ hl (by rw[ho];simp) hi;have agY:now<s.bu:=by
      rcases q2 with q|q
      .rw[hw] at q;cases q
      .exact q
     refine .inr (.inr ⟨x,t,ho,?_⟩);have hub:=K9 hl ho hi;by_cases hh:Has r s.first
     .cases mW:r.due with
      |true=>exact .inl ⟨hh,hub,mW⟩
      |false=>
       cases how:s.dI with
       |true=>rw[hv.ow how (by rw[ho];simp)] at hi;cases hi
       |false=>exact .inr ⟨.inl ⟨hh,hub,mW,how,hw⟩,agY⟩
     .refine .inr ⟨.inr ⟨hh,fun e=>hh (La (head_size hS ho) hR (tJ.mG x (by rw[ho];simp)) ((lH hl hi).1 x (by rw[ho];simp)) e),hi⟩,agY⟩
    .exfalso;have:=j5 (c:=c) (s:=s0) (by rw[q5];exact tJ.hd) (by rw[<-q4];intro e;rw[e,ho] at t5;simp at t5);rw[<-q4,hi1] at this;cases this
end
def gq (c:Cf) (a b:En) (now n:Int):En:=if (aF c a.s a.r now n).2.2.1= [] then b else lU c b now (aF c a.s a.r now n).2.2.1
structure Fre (c:Cf) (a b:En) (now n:Int) (m m1 m' RJ:Nat):Prop where
 bs:(gq c a b now n).s=b.s
 ar:(dL c a now n).r=aM c a.r now
 nd:¬((aM c a.r now).due=true/\(aM c a.r now).fJ<=now)
 st:Str a.s b.r now m m1
 du:b.r.due=true->(gq c a b now n).r.due=true
 un:(gq c a b now n).r.fJ=b.r.fJ
 go:∀x t,b.s.out=x::t->Has a.r b.s.first->¬Ub b.s t->a.r.due=false->(aM c a.r now).due=true->RJ+2<=m'
theorem Lc.same {s s':Sd} (h:Lc s) (h1:s'.first+s'.out.length=s.first+s.out.length) (h2:aH s'-s'.taken=aH s-s.taken):Lc s':=by
 obtain ⟨a,b⟩:=h;exact ⟨fun q=>by have:=a (by omega);omega,by omega⟩
theorem yu {c:Cf} {s:Sd} {r:Rc} (h:s.failed=true) (now:Int) (x:List UInt8):(aS c s r now x).1.failed=true:=by
 unfold aS;split
 .exact h
 split
 .cases mO x with
  |inl e=>exact h
  |inr R=>
   dsimp only;unfold bP;rw[bD h];exact h
 .exact h
theorem JV {c:Cf} {a b:En} {now n:Int} {Ga Gb Ka Kb m m':Nat} (hT:c.timer<=20) (hp0:0<=c.cu) (hp:c.cu<=20) (da:jg Ga a b) (db:jg Gb b a) (oa:fu c a.s Ka) (ob:fu c b.s Kb) (va:Lv a.s b.r now) (vb:Lv b.s a.r now)
 (ca:Lc a.s) (cb:Lc b.s) (hn0:0<=now) (hs:now<=1000000) (hn:12<=n) (ha:(dL c a now n).s.failed=false) (hb:(gq c a b now n).s.failed=false) (Pa:lG a.s b.r now m) (Pb:lG b.s a.r now m'):
 Lv (dL c a now n).s (gq c a b now n).r now/\Lv (gq c a b now n).s (dL c a now n).r now/\Lc (dL c a now n).s/\Lc (gq c a b now n).s/\
  ∃m1 RJ,lG (dL c a now n).s (gq c a b now n).r now m1/\lG (gq c a b now n).s (dL c a now n).r now RJ/\m1<=m/\RJ<=m'/\(RJ+2<=m'\/Fre c a b now n m m1 m' RJ):=by
 obtain ⟨N,pu,left,sent,_,D,S,R,_,_,_⟩:=da;obtain ⟨N2,pu2,aay,aaz,_,D2,S2,R2,_,_,_⟩:=db;have hfo:=S.fo;have auv:=S2.fo;have hl:a.s.out.length<512:=by have:=ca.2;omega
 have hl2:b.s.out.length<512:=by have:=cb.2;omega
 have hgs:(dL c a now n).s=(aF c a.s a.r now n).1:=rfl;have hgr:(dL c a now n).r=(aF c a.s a.r now n).2.1:=rfl;have hfa:a.s.failed=false:=by
  cases hh:a.s.failed with
  |false=>rfl
  |true=>
   rw[hgs] at ha;unfold aF at ha;rw[bD hh] at ha;dsimp only at ha;rw[hh] at ha;cases ha
 have GM:(aB c a.s now).failed=false:=by
  cases hh:(aB c a.s now).failed with
  |false=>rfl
  |true=>
   have ana:eY c a.s now=(aB c a.s now,8):=by unfold eY;rw[aP (by simp[hfa]),bD hh]
   rw[hgs] at ha;unfold aF at ha;rw[aP (by simp[hfa]),aP (by omega),ana,bD (show (8:Int)≠0 by decide)] at ha;dsimp only at ha;rw[hh] at ha;cases ha
 have hTR:eY c a.s now=(aB c a.s now,0):=by unfold eY;rw[aP (by simp[hfa]),aP (by simp[GM])]
 have hv1:=va.tick c oa.inv;obtain ⟨t1,t2,t3,t4,t5,_,_⟩:=pQ c va.sn;have hth:aH (aB c a.s now)=aH a.s:=by unfold aH;rw[t3]
 have hct:Lc (aB c a.s now):=ca.same (by rw[t2,t5]) (by rw[t4,hth]);have hgn:=Bg c D2.T R2 vb.rn;have P6:=vb.goes c D2.T R2;have O4:uV (aM c a.r now) now=true↔(aM c a.r now).due=true/\(aM c a.r now).fJ<=now:=by
  unfold uV;rw[hgn,aP (by omega)];simp
 by_cases hrep:(aM c a.r now).due=true/\(aM c a.r now).fJ<=now
 .
  have hE:aF c a.s a.r now n=(aB c a.s now,(dG c (aM c a.r now) now n).1,(dG c (aM c a.r now) now n).2.1,(((dG c (aM c a.r now) now n).2.2:Nat):Int)):=by
   unfold aF;rw[aP (by simp[hfa]),aP (by omega),hTR,aP (by simp),bD ⟨O4.2 hrep,by omega⟩]
  have hfb:b.s.failed=false:=by
   cases hh:b.s.failed with
   |false=>rfl
   |true=>
    exfalso;unfold gq at hb;split at hb
    .rw[hh] at hb;cases hb
    .have:(lU c b now (aF c a.s a.r now n).2.2.1).s.failed=true:=yu hh now _;rw[hb] at this;cases this
  obtain ⟨aA,l,r1,r2,r3,r4,RJ,r5,r6⟩:=NC D2 S2 R2 ob vb hp0 hp hn0 hs hn hl2 hrep.1 hrep.2 hfb Pb;obtain ⟨mt,p1,p2,_⟩:=Pa.tick c S R oa.inv hl va.sn;have hds:=Jq r2;obtain ⟨lo,hne⟩:=Ny hds;have hx:(aF c a.s a.r now n).2.2.1=qB aA l:=by rw[hE];exact r1
  have hrv:aS c b.s b.r now (qB aA l)=((bP c b.s now (aA:Nat) l).1,b.r,[],(bP c b.s now (aA:Nat) l).2):=by
   unfold aS;rw[aP hne,bD (by unfold VG at lo;omega),hds]
  have hB:(gq c a b now n).s=(bP c b.s now (aA:Nat) l).1/\(gq c a b now n).r=b.r:=by
   unfold gq;rw[hx,aP hne];unfold lU;dsimp only;rw[hrv];exact ⟨rfl,rfl⟩
  refine ⟨?_,?_,?_,?_,mt,RJ,?_,?_,p2,by omega,.inl r6⟩
  .rw[hgs,hE,hB.2];exact hv1
  .rw[hgr,hE,hB.1];exact r3
  .rw[hgs,hE];exact hct
  .rw[hB.1];exact cb.same r4.1 r4.2
  .rw[hgs,hE,hB.2];exact p1
  .rw[hgr,hE,hB.1];exact r5
 .have hE:aF c a.s a.r now n=((aZ c (aB c a.s now) now n).1,aM c a.r now,D7 (aZ c (aB c a.s now) now n).2.1,(aZ c (aB c a.s now) now n).2.2):=by
   unfold aF;rw[aP (by simp[hfa]),aP (by omega),hTR,aP (by simp),aP (fun e=>hrep (O4.1 e.1))]
  obtain ⟨RJ,q1,q2,q3⟩:=Pb.aaD D2.T R2 c vb.un;rcases SK hT D S R oa va hn0 hs hn ca GM Pa with ⟨w1,w2,w3,m1,w4,w5,w6⟩|⟨p,ap,w1,w2,w3,w4,w5,w6,m1,w7,w8,w9⟩
  .have hx:(aF c a.s a.r now n).2.2.1= []:=by rw[hE];dsimp only;rw[w1];rfl
   have hB:gq c a b now n=b:=by unfold gq;rw[bD hx]
   rw[hgs,hgr,hB,hE];dsimp only;exact ⟨w2,P6,w3,cb,m1,RJ,w4,q1,w5,q2,.inr ⟨by rw[hB],by rw[hgr,hE],hrep,w6,by rw[hB];exact id,by rw[hB],q3⟩⟩
  .have hx:(aF c a.s a.r now n).2.2.1=D7 (some p):=by rw[hE];dsimp only;rw[w1]
   obtain ⟨hi,hne⟩:=Rh w2;have hrv:aS c b.s b.r now (D7 (some p))=(b.s,(iM c (aM c b.r now) ap).1,(iM c (aM c b.r now) ap).2.1,(((iM c (aM c b.r now) ap).2.2:Nat):Int)):=by
    have hr:fZ c b.r now (D7 (some p))=iM c (aM c b.r now) ap:=by unfold fZ;rw[w2]
    unfold aS;rw[aP hne,aP (by unfold VG at hi;omega),hr]
   have hB:(gq c a b now n).s=b.s/\(gq c a b now n).r=(iM c (aM c b.r now) ap).1:=by
    unfold gq;rw[hx,aP hne];unfold lU;dsimp only;rw[hrv];exact ⟨rfl,rfl⟩
   refine ⟨?_,?_,?_,by rw[hB.1];exact cb,m1,RJ,?_,?_,w8,q2,.inr ⟨hB.1,by rw[hgr,hE],hrep,w9,by rw[hB.2];exact w5,by rw[hB.2];exact w6,q3⟩⟩
   .rw[hgs,hE,hB.2];exact w3
   .rw[hgr,hE,hB.1];exact P6
   .rw[hgs,hE];exact w4
   .rw[hgs,hE,hB.2];exact w7
   .rw[hgr,hE,hB.1];exact q1
theorem zm (c:Cf) (r:Rc) (now:Int):(aM c r now).next=r.next/\(aM c r now).m=r.m/\(aM c r now).fJ=r.fJ/\(r.due=true->(aM c r now).due=true):=by
 unfold aM;split
 .exact ⟨rfl,rfl,rfl,id⟩
 .unfold rT;dsimp only;split<;>exact ⟨rfl,rfl,rfl,fun _=>rfl⟩
section
variable {c:Cf} {a b:En} {now n:Int} {G J K Ka Kb m m':Nat} {s:Sd} {r:Rc}
theorem jg.tight (h:jg G a b) (hc:Lc a.s):jg 451 a b:=by
 obtain ⟨N,pu,left,sent,hN,D,S,hh⟩:=h;have:=S.fo;have:=hc.2;exact ⟨N,pu,left,sent,by omega,D,S,hh⟩
theorem Lv.time (h:Lv s r now):Lv s r (now+1):=⟨h.NB,h.ow,by have:=h.sn;omega,by have:=h.ex;omega,by have:=h.un;omega,by have:=h.rn;omega⟩
theorem lG.aaX (h:lG s r now m):∃m1,lG s r (now+1) m1/\m1<=m/\(Clk s r now->m1+2<=m):=by
 by_cases hc:Clk s r now
 .obtain ⟨m1,h1,h2⟩:=h.clock hc;exact ⟨m1,h1,by omega,fun _=>h2⟩
 .exact ⟨m,h.time,aL,fun e=>absurd e hc⟩
theorem tZ.half (P:tZ c a b G J K) (hG:G<511) (hK:K<=80000) (hn:now<=9223372036854775807):tZ c (dL c a now n) (gq c a b now n) (G+1) (J+1) (K+9):=by
 have P1:=P.ko hG hK now n hn;unfold gq;split
 .exact P1.mono (aL) (by omega)
 .rename_i hx;have hm:(aF c a.s a.r now n).2.2.1∈(dL c a now n).sent:=by
   show _∈(if (aF c a.s a.r now n).2.2.1= [] then a.sent else a.sent++ [(aF c a.s a.r now n).2.2.1])
   rw[aP hx];simp
  exact (P1.swap.recv now hn hm).1.swap
theorem Ro (oa:fu c a.s Ka) (ob:fu c b.s Kb) (ra:wW c a.r) (rb:wW c b.r) (hn:now<=9223372036854775807):fu c (dL c a now n).s (Ka+6)/\fu c (gq c a b now n).s (Kb+3):=by
 refine ⟨(zk oa ra hn n).1,?_⟩;unfold gq;split
 .exact ob.mono (by omega)
 .exact (nR ob rb hn _).1
theorem Iv (h:a.s.failed=true):(dL c a now n).s.failed=true:=by
 show (aF c a.s a.r now n).1.failed=true
 unfold aF;rw[bD h];exact h
theorem LB (h:b.s.failed=true):(gq c a b now n).s.failed=true:=by
 unfold gq;split
 .exact h
 .exact yu h now _
def ZJ (c:Cf) (a b:En) (u n:Int):En:=gq c (gq c a b u n) (dL c a u n) u n
def ZK (c:Cf) (a b:En) (u n:Int):En:=dL c (gq c a b u n) u n
structure Rnd (c:Cf) (a b:En) (J K:Nat) (now:Int) (M:Nat):Prop where
 p:tZ c a b 451 J K
 va:Lv a.s b.r now
 vb:Lv b.s a.r now
 ca:Lc a.s
 cb:Lc b.s
 pot:∃m m',lG a.s b.r now m/\lG b.s a.r now m'/\m+m'<=M
theorem Rnd.step (h:Rnd c a b J K now m) (hT:c.timer<=20) (hp0:0<=c.cu) (hp:c.cu<=20) (hK:K<=70000) (hn0:0<=now) (hs:now<1000000) (hn:12<=n)
 (ha:(ZJ c a b (now+1) n).s.failed=false) (hb:(ZK c a b (now+1) n).s.failed=false):
 ∃M,Rnd c (ZJ c a b (now+1) n) (ZK c a b (now+1) n) (J+2) (K+9) (now+1) M/\M<=m/\((Dh a.s/\Dh b.s)\/M+2<=m):=by
 obtain ⟨P,va,vb,ca,cb,ma,mb,Pa,Pb,hM⟩:=h;unfold ZJ at ha;unfold ZK at hb;have ha1:(dL c a (now+1) n).s.failed=false:=by
  cases hh:(dL c a (now+1) n).s.failed with
  |false=>rfl
  |true=>rw[LB hh] at ha;cases ha
 have hb1:(gq c a b (now+1) n).s.failed=false:=by
  cases hh:(gq c a b (now+1) n).s.failed with
  |false=>rfl
  |true=>rw[Iv hh] at hb;cases hb
 obtain ⟨mA,Pa1,hA1,hA2⟩:=Pa.aaX;obtain ⟨mB,Pb1,hB1,hB2⟩:=Pb.aaX;have hnb:now+1<=9223372036854775807:=by omega
 obtain ⟨v1,v2,c1,c2,m1,RJ,q1,q2,q3,q4,q5⟩:=JV (n:=n) hT hp0 hp P.da P.db P.oa P.ob va.time vb.time ca cb (by omega) (by omega) hn ha1 hb1 Pa1 Pb1;have P1:=P.half (now:=now+1) (n:=n) (by omega) (by omega) hnb;obtain ⟨o1,o2⟩:=Ro (now:=now+1) (n:=n) P.oa P.ob P.ra P.rb hnb;have hda:=P1.da.tight c1;have hdb:=P1.db.tight c2;obtain ⟨v3,v4,c3,c4,m2',m2,q6,q7,q8,q9,Xc⟩:=JV (n:=n) hT hp0 hp hdb hda o2 o1 v2 v1 c2 c1 (by omega) (by omega) hn hb ha q2 q1;have P1t:tZ c (dL c a (now+1) n) (gq c a b (now+1) n) 451 (J+1) (K+9):=⟨hda,hdb,o1.mono (by omega),o2.mono (by omega),P1.ra,P1.rb,P1.sa,P1.sb,P1.la,P1.lb,P1.ia,P1.ib⟩;have P2:=P1t.swap.half (now:=now+1) (n:=n) (by omega) (by omega) hnb;obtain ⟨o3,o4⟩:=Ro (now:=now+1) (n:=n) o2 o1 P1.rb P1.ra hnb;have P3:tZ c (ZJ c a b (now+1) n) (ZK c a b (now+1) n) 451 (J+2) (K+9):=⟨P2.db.tight c4,P2.da.tight c3,o4.mono (by omega),o3.mono (by omega),P2.rb,P2.ra,P2.sb,P2.sa,P2.lb,P2.la,P2.ib,P2.ia⟩;refine ⟨m2+m2',⟨P3,v4,v3,c4,c3,m2,m2',q7,q6,aL⟩,by omega,?_⟩;rcases q5 with q5|F1
 .exact .inr (by omega)
 rcases Xc with Xc|F2
 .exact .inr (by omega)
 obtain ⟨k1,k2,k3,k4⟩:=zm c a.r (now+1);obtain ⟨_,_,j3,j4⟩:=zm c (gq c a b (now+1) n).r (now+1);have hD:Dh a.s\/m2+m2'+2<=m:=by
  rcases F1.st with q|q|⟨x,t,ho,q⟩
  .exact .inl q
  .exact .inr (by omega)
  .refine .inr ?_;have hc:Clk a.s b.r now->m2+m2'+2<=m:=fun e=>by have:=hA2 e;omega
   rcases q with ⟨z1,z2,z3⟩|⟨⟨z1,z2,z3,z4,z5⟩|⟨z1,z2,z3⟩,z6⟩
   .by_cases hlt:now<b.r.fJ
    .exact hc ⟨x,t,ho,.inl ⟨z1,z2,z3,hlt⟩⟩
    .exact absurd ⟨j4 (F1.du z3),by rw[j3,F1.un];omega⟩ F2.nd
   .exact hc ⟨x,t,ho,.inr (.inl ⟨z1,z2,z3,z4,z5,by omega⟩)⟩
   .exact hc ⟨x,t,ho,.inr (.inr ⟨z1,z2,z3,by omega⟩)⟩
 have hD2:Dh b.s\/m2+m2'+2<=m:=by
  have hst:=F2.st;rw[F1.bs,F1.ar] at hst;rcases hst with q|q|⟨x,t,ho,q⟩
  .exact .inl q
  .exact .inr (by omega)
  .refine .inr ?_;have hc:Clk b.s a.r now->m2+m2'+2<=m:=fun e=>by have:=hB2 e;omega
   have hH:=qF k1 k2;have hG:=Nz k1 k2;have hC:∀k x,za (aM c a.r (now+1)) k x↔za a.r k x:=fun k x=>⟨fun e j hj hg=>e j hj fun z=>hg ((hG k j).1 z),fun e j hj hg=>e j hj fun z=>hg ((hG k j).2 z)⟩
   rcases q with ⟨z1,z2,z3⟩|⟨⟨z1,z2,z3,z4,z5⟩|⟨z1,z2,z3⟩,z6⟩
   .cases mW:a.r.due with
    |true=>
     by_cases hlt:now<a.r.fJ
     .exact hc ⟨x,t,ho,.inl ⟨(hH _).1 z1,z2,mW,hlt⟩⟩
     .exact absurd ⟨k4 mW,by rw[k3];omega⟩ F1.nd
    |false=>
     have:=F1.go x t ho ((hH _).1 z1) z2 mW z3;omega
   .have mW:a.r.due=false:=by
     cases hh:a.r.due with
     |false=>rfl
     |true=>rw[k4 hh] at z3;cases z3
    exact hc ⟨x,t,ho,.inr (.inl ⟨(hH _).1 z1,z2,mW,z4,z5,by omega⟩)⟩
   .exact hc ⟨x,t,ho,.inr (.inr ⟨fun e=>z1 ((hH _).2 e),fun e=>z2 ((hC _ _).2 e),z3,by omega⟩)⟩
 rcases hD with q|q
 .rcases hD2 with q'|q'
  .exact .inl ⟨q,q'⟩
  .exact .inr q'
 .exact .inr q
theorem ST.start (r:Rc):∀(l:List Ou) (k:Nat),ST r k l (6*sizes l+152*l.length)
 | [],_=>trivial
 |x::l,k=>by
  have h:=JE x;refine ⟨6*au x+152,6*sizes l+152*l.length,⟨by omega,fun _=>by omega,fun _ _=>by omega⟩,ST.start r l (k+1),?_⟩;rw[iL,jh];omega
theorem lG.start (tJ:bY s) (hv:Lv s r now):∃m,lG s r now m/\m<=6*aH s+152*(s.first+s.out.length)+104:=by
 have h1:=tJ.tk;have h2:=tJ.le;have hb:wQ r<=6:=by
  unfold wQ lF;split<;>split<;>(try split)<;>omega
 have hu:Uc s<=2*(aH s-s.taken)+4:=by unfold Uc;omega
 have hex:=hv.ex;have hun:=hv.un;cases ho:s.out with
 |nil=>
  rw[ho] at h1;refine ⟨94+Uc s+wQ r,⟨94,0,?_,?_,by omega⟩,by omega⟩
  .rw[ho];exact fun _=>aL
  .rw[ho]
   trivial
 |cons x t=>
  rw[ho,iL] at h1;have hc:=JE x;refine ⟨(6*au x+150)+(6*sizes t+152*t.length)+Uc s+wQ r,⟨6*au x+150,6*sizes t+152*t.length,?_,?_,aL⟩,?_⟩
  .rw[ho];exact ⟨fun _ _=>by omega,fun _ _ _=>by omega,fun _ _ _ _=>by omega,fun _ _ _ _ _=>by omega,fun _ _ _ _ _=>by omega,fun _=>by omega,fun _ _ _=>by omega,fun _ _ _=>by omega⟩
  .rw[ho];exact ST.start r t _
  .rw[jh];omega
theorem N9 (da:jg G a b) (tJ:bY a.s) (hd:Dh a.s):a.s.done=a.iA.length/\b.out=a.iA.length:=by
 have h1:=da.confirmed;have h2:=da.VH;obtain ⟨N,pu,left,sent,_,D,S,_⟩:=da;have hq:a.s.queue= []:=by
  cases hh:a.s.queue with
  |nil=>rfl
  |cons y t=>
   exfalso;have e1:=tJ.fr y t hh;have e2:=tJ.tk;have e3:aH a.s=y.length+aj t:=by unfold aH;rw[hh,iX]
   have e4:=hd.2;rw[hd.1] at e2;simp[sizes] at e2;omega
 have h3:=S.dn;rw[<-S.q,hq] at h3;simp at h3;omega
structure Dl (a b:En) (now:Int) (k:Nat):Prop where
 va:Lv a.s b.r now
 vb:Lv b.s a.r now
 sum:6*aH a.s+152*(a.s.first+a.s.out.length)+(6*aH b.s+152*(b.s.first+b.s.out.length))<=360*k
theorem Dl.rnd (h:Dl a b now 30) (P:tZ c a b G J K):Rnd c a b J K now 11008:=by
 have hs:=h.sum;obtain ⟨m1,p1,p2⟩:=lG.start P.oa.inv h.va;obtain ⟨m2,p3,p4⟩:=lG.start P.ob.inv h.vb;have ca:Lc a.s:=⟨fun _=>by omega,by omega⟩;have cb:Lc b.s:=⟨fun _=>by omega,by omega⟩;exact ⟨⟨P.da.tight ca,P.db.tight cb,P.oa,P.ob,P.ra,P.rb,P.sa,P.sb,P.la,P.lb,P.ia,P.ib⟩,h.va,h.vb,ca,cb,m1,m2,p1,p3,by omega⟩
end
def NkB (aA:Int) (a b:Nk):Prop:=kr aA b.sn<kr aA a.sn\/(a.sn=b.sn/\a.part=true/\b.part=true/\a.lt<b.fr)
theorem Qq {aA:Int} {a b:Nk} (h:jL aA a b=true):NkB aA a b:=by
 unfold jL at h;simp only[Bool.or_eq_true,gD,gY] at h;rcases h with e|⟨e1,e2,e3,e4⟩
 .exact .inl e
 .exact .inr ⟨e1,e2,e3,e4⟩
theorem uO {aA:Int} {n:Nk} (h:iq aA n=true):(n.part=true->0<=n.fr/\n.fr<=n.lt)/\(bH n).1<=(bH n).2:=by
 unfold iq at h;simp only[gD,gY] at h;have h2:=h.2.2;unfold bH;cases hp:n.part with
 |true=>
  rw[hp] at h2;simp at h2;refine ⟨fun _=>⟨h2.1,h2.2.1⟩,?_⟩;simp;omega
 |false=>simp
theorem Oa {aA:Int}:∀l:List Nk,oM aA l=true->l.Pairwise (NkB aA)/\∀n∈l,iq aA n=true
 | [],_=>by simp
 | [n],h=>by simpa[oM] using h
 |a::b::t,h=>by
  rw[oM] at h;simp only[gD] at h;obtain ⟨h1,h2,h3⟩:=h;obtain ⟨i1,i2⟩:=Oa (b::t) h3;have hab:=Qq h2;have hbp:=(uO (i2 b (by simp))).1;refine ⟨List.pairwise_cons.2 ⟨fun n hn=> ?_,i1⟩,fun n hn=> ?_⟩
  .rcases nE.1 hn with rfl|hn
   .exact hab
   .have hbn:=(List.pairwise_cons.1 i1).1 n hn;rcases hab with e|⟨e1,e2,e3,e4⟩
    .rcases hbn with f|⟨f1,_⟩
     .exact .inl (by omega)
     .exact .inl (by rw[<-f1];exact e)
    .rcases hbn with f|⟨f1,f2,f3,f4⟩
     .exact .inl (by rw[e1];exact f)
     .have:=hbp e3;exact .inr ⟨e1.trans f1,e2,f3,by omega⟩
  .rcases nE.1 hn with rfl|hn
   .exact h1
   .exact i2 n hn
theorem Qr {aA:Int} {l:List Nk} (h:bO aA l=true) {x:Ou} (hz:1<=au x):sH (au x) (aQ l x):=by
 unfold bO at h;simp only[gD] at h;obtain ⟨p1,p2⟩:=Oa l h.2.2;refine (Gg hz (l.filter (fun n=>decide (n.sn=(x.sn:Int)))) [] (sH.nil _) (by simp) ?_ fun n hn=>(uO (p2 n (List.mem_filter.1 hn).1)).2).1;refine List.pairwise_filter.2 (p1.imp_of_mem fun {a b} ha hb hab h1 h2=> ?_);simp only[gY] at h1 h2;rcases hab with e|⟨_,e2,e3,e4⟩
 .rw[h1,h2] at e;omega
 .have q1:=(uO (p2 a ha)).1 e2;have q2:=(uO (p2 b hb)).1 e3;simp only[bH,e2,e3,kE];omega
section
variable {c:Cf} {a b:En} {now n:Int} {G J K Ka Kb m m' k:Nat} {s:Sd} {r r1:Rc} {x:Ou}
theorem Lv.later {now':Int} (h:Lv s r now) (hn:now<=now'):Lv s r now':=⟨h.NB,h.ow,by have:=h.sn;omega,by have:=h.ex;omega,by have:=h.un;omega,by have:=h.rn;omega⟩
theorem Lv.aaY (h:Lv s r now) (h1:r1.fJ<=now+20) (h2:r1.now<=now):Lv s r1 now:=⟨h.NB,h.ow,h.sn,h.ex,h1,h2⟩
theorem Dl.swap (h:Dl a b now k):Dl b a now k:=⟨h.vb,h.va,by have:=h.sum;omega⟩
theorem Dl.iY (h:Dl a b now k) (hk:k<=30) (tJ:bY a.s) {x:List UInt8} (hx:x.length<=60):Dl (uN c a x) b now (k+1):=by
 have hs:=h.sum;unfold uN;split
 .rename_i h0;obtain ⟨_,h1⟩:=uM h0;have hh:aH (dQ a.s x)=aH a.s+x.length:=by
   unfold aH dQ;rw[nN];simp[aj]
  have hle:=tJ.le;refine ⟨⟨h.va.NB,fun _ _=> ?_,h.va.sn,h.va.ex,h.va.un,h.va.rn⟩,h.vb,?_⟩
  .cases hi:dH (dQ a.s x) with
   |false=>rfl
   |true=>
    exfalso;rcases (kL.1 hi).2 with e|e
    .have e:a.s.taken=aH (dQ a.s x):=e;omega
    .have e:512<=a.s.out.length:=e;omega
  .have e1:(dQ a.s x).first=a.s.first:=rfl
   have e2:(dQ a.s x).out=a.s.out:=rfl;show 6*aH (dQ a.s x)+152*((dQ a.s x).first+(dQ a.s x).out.length)+_<=_
   rw[hh,e1,e2];omega
 .exact ⟨h.va,h.vb,by omega⟩
theorem Tk (c:Cf) (n:Int) (s:Sd) (i:Nat) (ha:sH (au x) x.pend):(dK c n s i x).1=s\/∃l,sH (au x) l/\(dK c n s i x).1=(aG c (cB s i x l) false).1:=by
 unfold dK;cases hp:x.pend with
 |nil=>exact .inl rfl
 |cons q rest=>
  obtain ⟨fr,e0⟩:=q;rw[hp] at ha;dsimp only;split
  .exact .inr ⟨[],sH.nil _,rfl⟩
  .split
   .exact .inl rfl
   .rename_i hne;refine .inr ⟨_,?_,rfl⟩;have hb:=pz (eX x fr n) (e0+1-fr) fr;have hr:=ha.2 (fr,e0) (by simp);have hpw:=List.pairwise_cons.1 ha.1;dsimp only at hr;generalize qj (eX x fr n) (e0+1-fr) fr=K at*;split
    .exact ⟨hpw.2,fun r hm=>ha.2 r (by simp[hm])⟩
    .refine ⟨List.pairwise_cons.2 ⟨hpw.1,hpw.2⟩,fun r hm=> ?_⟩;rcases nE.1 hm with rfl|hm
     .dsimp only;omega
     .exact ha.2 r (by simp[hm])
theorem Lv.aZ (hT:c.timer<=20) (hk:fu c s K) (hv:Lv s r now) (hs0:0<=s.now) (hs:now<=1000000) (n:Int):
 Lv (aZ c (aB c s now) now n).1 r now/\(aZ c (aB c s now) now n).1.first+(aZ c (aB c s now) now n).1.out.length<=s.first+s.out.length+1/\aH (aZ c (aB c s now) now n).1=aH s:=by
 have hv1:=hv.tick c hk.inv;obtain ⟨t1,t2,t3,_,t5,_,_⟩:=pQ c hv.sn;have hid:=JI c hv.sn;have hn0:0<=(aB c s now).now:=by have:=hv.sn;omega
 have h0:Lv (aB c s now) r now/\(aB c s now).first+(aB c s now).out.length<=s.first+s.out.length+1/\aH (aB c s now)=aH s:=⟨hv1,by omega,by unfold aH;rw[t3]⟩
 have hfin:∀S:Sd,(∀y∈S.out,sH (au y) y.pend)->S.now=(aB c s now).now->S.bu=(aB c s now).bu->S.queue=(aB c s now).queue->S.first+S.out.length<=(aB c s now).first+(aB c s now).out.length+1->∀p,
  Lv (aG c S p).1 r now/\(aG c S p).1.first+(aG c S p).1.out.length<=s.first+s.out.length+1/\aH (aG c S p).1=aH s:=fun S e1 e2 e3 e4 e5 p=>by
  obtain ⟨f1,f2,f3,_,f5,f6,_⟩:=lV c S p;have hx:=ze (now:=now) hk.cf hT (s:=S) (by omega) (by have:=hv1.sn;omega) hs (by rw[e3];exact hv1.ex) p;refine ⟨⟨by rw[f1];exact e1,fun e=>absurd e (by simp[f5]),by rw[f6,e2];exact hv1.sn,hx,hv.un,hv.rn⟩,by rw[f1,f2];omega,?_⟩;unfold aH;rw[f3,e4,t3]
 unfold Go.Proofs.YtbhiklnljiehiaaGreat.aZ;split
 .exact h0
 split
 .exact h0
 unfold kF;rw[hid];split
 .exact h0
 dsimp only;generalize aB c s now=s1 at*;cases hpa:gZ s1.out with
 |some i=>
  obtain ⟨x,hx,_⟩:=fH hpa;simp only[hx];rcases Tk c n s1 i (hv1.NB x (iT hx)) with e|⟨l,e1,e2⟩
  .rw[e];exact h0
  .rw[e2];refine hfin (cB s1 i x l) (fun y hy=> ?_) rfl rfl rfl (by show s1.first+(s1.out.set i _).length<=_;rw[Dr];omega) false;rcases qZ (l:=s1.out) hy with rfl|hy
   .exact e1
   .exact hv1.NB y hy
 |none=>
  dsimp only;by_cases hw:512<=s1.out.length
  .have e:bU c n s1=(s1,none):=by unfold bU;rw[bD hw]
   rw[e];exact h0
  by_cases hne:(aJ n s1).ps= []
  .have e:bU c n s1=(s1,none):=by unfold bU;rw[aP hw,bD hne]
   rw[e];exact h0
  have e:bU c n s1=((aG c (cK s1 (aJ n s1)) (dF c (cK s1 (aJ n s1)))).1,some (aJ n s1,(aG c (cK s1 (aJ n s1)) (dF c (cK s1 (aJ n s1)))).2)):=by
   unfold bU;rw[aP hw,aP hne]
  rw[e];dsimp only;refine hfin (cK s1 (aJ n s1)) (fun y hy=> ?_) rfl rfl rfl (by show s1.first+(s1.out++ [_]).length<=_;simp;omega) _;have hy:y∈s1.out++ [aJ n s1]:=hy;rcases iH.1 hy with hy|hy
  .exact hv1.NB y hy
  .simp only[nC] at hy;subst hy;exact sH.nil _
theorem Tm (c:Cf) (r:Rc) (now:Int):(aM c r now).now=(gP r now).now:=by
 unfold aM;split
 .rfl
 .unfold rT;dsimp only;split<;>rfl
theorem goes_le (c:Cf) (h1:r.fJ<=now+20) (h2:r.now<=now):(aM c r now).fJ<=now+20/\(aM c r now).now=now:=by
 obtain ⟨_,_,e,_⟩:=zm c r now;refine ⟨by rw[e];exact h1,?_⟩;rw[Tm];show (if r.now<now then now else r.now)=now
 split<;>omega
theorem Tn (hp0:0<=c.cu) (hp:c.cu<=20) (hn0:0<=now) (hs:now<=1000000) (n:Int) (h1:r.fJ<=now+20) (h2:r.now<=now):(dG c r now n).1.fJ<=now+20/\(dG c r now n).1.now<=now:=by
 obtain ⟨g1,g2⟩:=goes_le c h1 h2;unfold dG;split
 .exact ⟨h1,h2⟩
 split
 .exact ⟨g1,Int.le_of_eq g2⟩
 .dsimp only;rw[g2,vk];omega
theorem Lv.stat (tJ:bY s) (hv:Lv s r now) (hs:s.now=now) {aA:Int} {l:List Nk} (hl:bO aA l=true) (p:Nat):
 Lv (oU c (aQ l) p s) r now/\(oU c (aQ l) p s).first+(oU c (aQ l) p s).out.length<=s.first+s.out.length/\aH (oU c (aQ l) p s)<=aH s:=by
 have hmem:∀y∈(aT c (aQ l) p s.out).1,sH (au y) y.pend/\1<=au y:=fun y hy=>by
  obtain ⟨x,hx,e|e⟩:=lJ (c:=c) (m:=aQ l) (n:=p) s.out y hy
  .rw[e];exact ⟨hv.NB x hx,tJ.mG x hx⟩
  .have hz:=tJ.mG x hx;have hsz:au y=au x:=by rw[e];exact congrArg aj (ul c (aQ l) x)
   refine ⟨?_,by omega⟩;rw[hsz,e];unfold bT;split
   .exact hv.NB x hx
   .split
    .exact sH.nil _
    .rw[(mH c x (aQ l x)).2.2.1];exact Qr hl hz
 obtain ⟨⟨d2,f1,f2,_,_⟩,f3⟩:=jJ (aT c (aQ l) p s.out).1;obtain ⟨⟨d,q1,_,_,_⟩,_⟩:=sG s.queue (s.front+(aV (aT c (aQ l) p s.out).1).2.1);have hlen:=jK (c:=c) (m:=aQ l) (n:=p) s.out;have t1:(fq c l p s).out=(aV (aT c (aQ l) p s.out).1).2.2:=rfl;have t2:(fq c l p s).first=(s.first+(aV (aT c (aQ l) p s.out).1).1)%1024:=rfl
 have t3:aH (fq c l p s)<=aH s:=by
  show aj (iy s.queue (s.front+(aV (aT c (aQ l) p s.out).1).2.1)).2.2.2<=aj s.queue
  conv=>rhs;rw[q1]
  rw[nN];omega
 have hin:∀y∈(fq c l p s).out,sH (au y) y.pend/\1<=au y:=fun y hy=>hmem y (by rw[f1];exact iH.2 (.inr (t1 ▸ hy)))
 have hd:∀x t,(fq c l p s).out=x::t->x.bJ=false:=fun x t e=>f3 x t (t1 ▸ e)
 have hfl:(fq c l p s).first+(fq c l p s).out.length<=s.first+s.out.length:=by
  have h1:=congrArg List.length f1;rw[l8] at h1;rw[t1,t2];omega
 have t4:(fq c l p s).now=s.now:=rfl;have t5:(fq c l p s).bu=s.bu:=rfl;rw[Gl];generalize fq c l p s=S at*;split
 .obtain ⟨_,u2,u3,_,u5,u6,_,u8⟩:=uI c S;refine ⟨⟨wS hd (fun y hy=>(hin y hy).2) fun y hy=>(hin y hy).1,fun _ h9=>j5 hd h9,by omega,by rw[u3,t5];exact hv.ex,hv.un,hv.rn⟩,by omega,?_⟩;unfold aH;rw[u6];exact t3
 .rename_i ho;exact ⟨⟨fun y hy=>(hin y hy).1,fun e=>absurd e ho,by omega,by rw[t5];exact hv.ex,hv.un,hv.rn⟩,hfl,t3⟩
theorem Lv.status (tJ:bY s) (hv:Lv s r now) {aA:Int} {l:List Nk} (hl:bO aA l=true):
 Lv (bP c s now aA l).1 r now/\(bP c s now aA l).1.first+(bP c s now aA l).1.out.length<=s.first+s.out.length/\aH (bP c s now aA l).1<=aH s:=by
 have hsame:Lv s r now/\s.first+s.out.length<=s.first+s.out.length/\aH s<=aH s:=⟨hv,aL,aL⟩
 have hck:=xG hv.sn;have WW:Lv (cO s now) r now:=⟨hv.NB,hv.ow,by rw[hck];exact Int.le_refl _,hv.ex,hv.un,hv.rn⟩;unfold bP;split
 .exact hsame
 unfold kS;split
 .exact hsame
 split
 .exact ⟨WW,aL,aL⟩
 .exact Lv.stat (tJ.clock now) WW hck hl _
theorem Dl.ko (h:Dl a b now k) (oa:fu c a.s K) (hT:c.timer<=20) (hp0:0<=c.cu) (hp:c.cu<=20) (hn0:0<=now) (hs:now<=1000000) (n:Int):Dl (dL c a now n) b now (k+1):=by
 have hsum:=h.sum;have hs0:=oa.bnd.EL;have hg:=goes_le c h.vb.un h.vb.rn;have key:Lv (aF c a.s a.r now n).1 b.r now/\(aF c a.s a.r now n).1.first+(aF c a.s a.r now n).1.out.length<=a.s.first+a.s.out.length+1/\aH (aF c a.s a.r now n).1=aH a.s/\
  (aF c a.s a.r now n).2.1.fJ<=now+20/\(aF c a.s a.r now n).2.1.now<=now:=by
  obtain ⟨_,t2,t3,_,t5,_,_⟩:=pQ c h.va.sn;have ht:=h.va.tick c oa.inv;have JW:Lv (eY c a.s now).1 b.r now/\(eY c a.s now).1.first+(eY c a.s now).1.out.length<=a.s.first+a.s.out.length+1/\aH (eY c a.s now).1=aH a.s:=by
   unfold eY;split
   .exact ⟨h.va,by dsimp only;omega,rfl⟩
   .exact ⟨ht,by dsimp only;omega,by unfold aH;dsimp only;rw[t3]⟩
  unfold aF;split
  .exact ⟨h.va,by dsimp only;omega,rfl,h.vb.un,h.vb.rn⟩
  rename_i hf;split
  .exact ⟨h.va,by dsimp only;omega,rfl,h.vb.un,h.vb.rn⟩
  split
  .exact ⟨JW.1,JW.2.1,JW.2.2,h.vb.un,h.vb.rn⟩
  split
  .exact ⟨JW.1,JW.2.1,JW.2.2,(Tn hp0 hp hn0 hs n hg.1 (Int.le_of_eq hg.2))⟩
  .have e:(eY c a.s now).1=aB c a.s now:=by unfold eY;rw[aP hf]
   rw[e];obtain ⟨g1,g2,g3⟩:=Lv.aZ hT oa h.va hs0 hs n;exact ⟨g1,g2,g3,hg.1,by dsimp only;omega⟩
 obtain ⟨k1,k2,k3,k4,k5⟩:=key;refine ⟨k1,h.vb.aaY k4 k5,?_⟩;show 6*aH (aF c a.s a.r now n).1+152*((aF c a.s a.r now n).1.first+(aF c a.s a.r now n).1.out.length)+_<=_
 omega
theorem WB (c:Cf) (h1:r.fJ<=now+20) (h2:r.now<=now) (x:List UInt8):(fZ c r now x).1.fJ<=now+20/\(fZ c r now x).1.now<=now:=by
 obtain ⟨g1,g2⟩:=goes_le c h1 h2;unfold fZ;cases qx x with
 |inl e=>exact ⟨g1,by dsimp only;omega⟩
 |inr ap=>
  dsimp only;obtain ⟨e1,e2,_⟩:=JJ c (aM c r now) ap;rw[e1,e2];exact ⟨g1,by omega⟩
theorem Dl.recv (h:Dl a b now k) (da:jg G a b) (tJ:bY a.s) {y:List UInt8} (hy:y∈b.sent):Dl (lU c a now y) b now (k+1):=by
 have hsum:=h.sum;have key:Lv (aS c a.s a.r now y).1 b.r now/\(aS c a.s a.r now y).1.first+(aS c a.s a.r now y).1.out.length<=a.s.first+a.s.out.length/\aH (aS c a.s a.r now y).1<=aH a.s/\
  (aS c a.s a.r now y).2.1.fJ<=now+20/\(aS c a.s a.r now y).2.1.now<=now:=by
  unfold aS;split
  .exact ⟨h.va,aL,aL,h.vb.un,h.vb.rn⟩
  split
  .rename_i hlo;obtain ⟨N,pu,left,sent,_,_,_,_,_,_,hS⟩:=da;obtain ⟨aA,l,e1,e2⟩:=(hS y hy (by unfold VG;omega)).dec;rw[e1];dsimp only;obtain ⟨g1,g2,g3⟩:=h.va.status (c:=c) tJ e2.v;exact ⟨g1,g2,g3,h.vb.un,h.vb.rn⟩
  .exact ⟨h.va,aL,aL,WB c h.vb.un h.vb.rn y⟩
 obtain ⟨k1,k2,k3,k4,k5⟩:=key;refine ⟨k1,h.vb.aaY k4 k5,?_⟩;show 6*aH (aS c a.s a.r now y).1+152*((aS c a.s a.r now y).1.first+(aS c a.s a.r now y).1.out.length)+_<=_
 omega
theorem Dl.more (h:Dl a b now k) {k':Nat} (hk:k<=k'):Dl a b now k':=⟨h.va,h.vb,by have:=h.sum;omega⟩
theorem Dl.step (h:Dl a b now k) (hk:k<=30) (P:tZ c a b G J K) (hT:c.timer<=20) (hp0:0<=c.cu) (hp:c.cu<=20) (hn0:0<=now) (hs:now<=1000000) (what:Int) (n pick:UInt8) {x:List UInt8} (hx:x.length<=60):
 Dl (oF c a b now what n pick x).1 (oF c a b now what n pick x).2.1 (oF c a b now what n pick x).2.2 (k+1):=by
 unfold oF;split
 .exact h.iY hk P.oa.inv hx
 split
 .exact h.ko P.oa hT hp0 hp hn0 hs _
 split
 .dsimp only;split
  .exact h.more (vQ _)
  .rename_i y hy;exact h.recv P.da P.oa.inv (iT hy)
 .exact ⟨h.va.later (by dsimp only;omega),h.vb.later (by dsimp only;omega),by have:=h.sum;dsimp only;omega⟩
theorem Dl.start (h1:a.s=dO) (h2:a.r=gL) (h3:b.s=dO) (h4:b.r=gL):Dl a b 0 0:=by
 have hv:Lv dO gL 0:=⟨fun x hx=>by simp[dO] at hx,fun e=>by simp[dO] at e,by decide,by decide,by decide,by decide⟩;refine ⟨by rw[h1,h4];exact hv,by rw[h3,h2];exact hv,?_⟩;rw[h1,h3];decide
end
def en0:En:=⟨dO,gL,[],[],0⟩
def aiJ (w0 w:World) (a0 a1 a2 a3 a4 a5 a6:Int) (e:Ending) (w':World):Prop:=
 (eU a0 a1 a2 a3 a4 a5 a6=true/\∃g ga gb,e= .returned (.tuple #[.pointer (some ⟨g,0,none⟩),.bool true])/\vO w0 false g ga gb (uK a0 a1 a2 a3 a4 a5 a6) en0 en0 0 0 w')\/
 (Below w w w'/\e= .returned (.tuple #[.pointer none,.bool false]))
theorem adW {w w2:World} {ga gb:Nat} {c:Cf} {Fa Fb:Fp} (hb:Below w w w2) (ha:qI w2 Fa ga c dO gL 0) (hbb:qI w2 Fb gb c dO gL 0) (h1:∀k,Fa k->w.heap.size<=k/\¬Fb k) (h2:∀k,Fb k->w.heap.size<=k):
 vO w false w2 ga gb c en0 en0 0 0 (w2.alloc (.cells (zy false ga gb (.slice none 0 0) (.slice none 0 0) (.slice none 0 0) (.slice none 0 0) 0 0 0) 41)):=by
 have hal:=(bS w2 w2).alloc (aL) (.cells (zy false ga gb (.slice none 0 0) (.slice none 0 0) (.slice none 0 0) (.slice none 0 0) 0 0 0) 41);have bl:=av.new w2 41 (zy false ga gb (.slice none 0 0) (.slice none 0 0) (.slice none 0 0) (.slice none 0 0) 0 0 0);have hap:Apart (.slice none 0 0) (.slice none 0 0):=fun k hk=>by cases hk
 exact ⟨0,0,Fa,Fb,.slice none 0 0,.slice none 0 0,.slice none 0 0,.slice none 0 0,aL,aL,
  {r:= {oz:=hb.trans (hal.mono hb.size),gl:=⟨_,bl⟩,gn:=hb.size,ea:=ha.below hal,eb:=hbb.below hal,fa:=fun k hk=>⟨(h1 k hk).1,by have:=ha.lt k hk;omega,(h1 k hk).2⟩,fb:=fun k hk=>⟨h2 k hk,by have:=hbb.lt k hk;omega⟩,s0:=⟨_,WC.nil _ _ _⟩,s1:=⟨_,WC.nil _ _ _⟩,i0:=⟨_,Tp.nil _ _⟩,i1:=⟨_,Tp.nil _ _⟩,rb:=fun v hv k hk=>by (rcases hv with rfl|rfl|rfl|rfl<;>cases hk),WE:=hap,TR:=hap,WG:=hap,a12:=hap,Xv:=hap,a23:=hap},blk:=bl}⟩
theorem ZN {a0 a1 a2 a3 a4 a5 a6:Int} (h:eU a0 a1 a2 a3 a4 a5 a6=true):tZ (uK a0 a1 a2 a3 a4 a5 a6) en0 en0 0 0 0:=
 ⟨jg.start rfl rfl rfl rfl rfl rfl,jg.start rfl rfl rfl rfl rfl rfl,tT h,tT h,xH h,xH h,fun x hx=>by simp[en0] at hx,fun x hx=>by simp[en0] at hx,aL,aL,aL,aL⟩
theorem Qt (a0 a1 a2 a3 a4 a5 a6:Int) (w0 w:World) (hw0:Below w0 w0 w):Calls prog 11 #[.agg (Be a0 a1 a2 a3 a4 a5 a6)] w (aiJ w0 w a0 a1 a2 a3 a4 a5 a6):=by
 have hN0:=JR a0 a1 a2 a3 a4 a5 a6;unfold Be at hN0 ⊢;have HN:=ah hN0;have HB0:=ah ((bS _ w).alloc (aL) (.cells #[a0,a1,a2,a3,a4,a5,a6] 23));have Xm:=ah (av.new w 23 #[a0,a1,a2,a3,a4,a5,a6]);have HW:=ah hw0;clear hN0 hw0;go_enter func11,ntmps11;go_wp2_with fail;generalize w.alloc (.cells #[a0,a1,a2,a3,a4,a5,a6] 23)=W0 at*;refine (HN.out W0).mono ?_;rintro e1 w1 ⟨hb1,h1⟩;have bc1:=Xm.out.below hb1 Xm.out.lt;obtain ⟨x0,x1,x2,x3,x4,x5,x6⟩:=wX (a0:=a0) (a1:=a1) (a2:=a2) (a3:=a3) (a4:=a4) (a5:=a5) (a6:=a6) bc1;have HB1:=ah (HB0.out.trans (hb1.mono HB0.out.size));have HZ1:=ah (gG HB0.out.size hb1.size);have HZ0:=ah HB0.out.size;clear hb1 bc1;rcases h1 with ⟨hr,ga,Fa,rfl,hEa,hFa⟩|⟨hr,rfl⟩
 .have HR:=ah hr;have HEA:=ah hEa;have HFA:=ah hFa;clear hEa hFa hr Xm HB0;go_wp2_with fail;clear x0 x1 x2 x3 x4 x5 x6;refine (HN.out w1).mono ?_;rintro e2 w2 ⟨hb2,⟨_,gb,Fb,rfl,hEb,hFb⟩|⟨hf,_⟩⟩
  .have hL:=adW (w:=w0) (HW.out.trans ((HB1.out.trans (hb2.mono HB1.out.size)).mono HW.out.size)) (HEA.out.below hb2) hEb (fun k hk=>⟨gG HW.out.size (gG HZ0.out (HFA.out k hk)),fun e=>by have:=hFb k e;have:=HEA.out.lt k hk;omega⟩) (fun k hk=>gG HW.out.size (gG HZ1.out (hFb k hk)));have HL:=ah hL;clear hL hb2 hEb hFb HEA HFA HB1 HZ1 HZ0 HN HW;unfold zy at HL;simp only[mq,l7] at HL;go_wp2_with (go_at_call 20;refine (pR _ _).mono ?_;rintro e1 w2 ⟨rfl,rfl⟩)
   go_ret2
   exact .inl ⟨HR.out,_,_,_,rfl,HL.out⟩
  .exact absurd (HR.out.symm.trans hf) (by decide)
 .have HR:=ah hr;clear hr Xm HB0;go_wp2_with fail;clear x0 x1 x2 x3 x4 x5 x6;refine (HN.out w1).mono ?_;rintro e2 w2 ⟨hb2,⟨hf,_⟩|⟨_,rfl⟩⟩
  .exact absurd (hf.symm.trans HR.out) (by decide)
  .have HB2:=ah (HB1.out.trans (hb2.mono HB1.out.size));clear hb2 HB1 HZ1 HZ0 HN HW;go_wp2_with (go_at_call 20;refine (pR _ _).mono ?_;rintro e1 w2 ⟨rfl,rfl⟩)
   go_ret2
   exact .inr ⟨HB2.out,rfl⟩
structure EvQ where
 k:Int
 who:Bool
 n:UInt8
 pick:UInt8
 A:Option Addr
 b:List UInt8
 c:Nat
def evL (x:EvQ):List Value:= [x.k,.bool x.who,.int .u8 x.n.toNat,.int .u8 x.pick.toNat,.slice x.A x.b.length x.c]
structure ZM (w:World) (B:Nat) (A:Option Addr) (n c:Nat) (l:List EvQ):Prop where
 len:l.length=n
 cap:n<=c
 mx:c<=9223372036854775807
 at_:0<n->∃ad,A=some ad/\ad.block<B/\∀j x,l[j]? =some x->(∀i v,(evL x)[i]? =some v->w.cell? (ad.add (j*5+i))=some v)/\Sl w B x.A x.b.length x.c (dz x.b)
theorem JY (ad:Addr) (j i:Nat) (hi:0<i):(⟨(ad.add j).block,(ad.add j).off+i,none⟩:Addr)=ad.add (j+i):=by
 unfold Addr.add;by_cases hj:j=0
 .subst hj;rw[bD rfl,aP (by omega)];simp
 .rw[aP hj,aP (by omega)];simp[Nat.add_assoc]
section
variable {w w':World} {B n c:Nat} {A:Option Addr} {l:List EvQ}
theorem ZM.base (h:ZM w B A n c l) (hb:Below B w w') {B':Nat} (hB:B<=B'):ZM w' B' A n c l:=
 ⟨h.len,h.cap,h.mx,fun hn=>by
  obtain ⟨ad,e,hlt,hc⟩:=h.at_ hn;refine ⟨ad,e,zD hlt hB,fun j x hj=> ?_⟩;obtain ⟨h1,h2⟩:=hc j x hj;exact ⟨fun i v hi=>(hb.cell (p:=ad.add (j*5+i)) (by rw[block_add];exact hlt)).trans (h1 i v hi),(h2.below hb).more hB⟩⟩
theorem ZM.get (h:ZM w B A n c l) (hb:Below B w w') {j:Nat} (hj:j<n):∃ad x,A=some ad/\ad.block<B/\l[j]? =some x/\Sl w B x.A x.b.length x.c (dz x.b)/\
 w'.cell? (ad.add (j*5))=some (.int .i64 x.k)/\w'.cell? (ad.add (j*5+1))=some (.bool x.who)/\w'.cell? (ad.add (j*5+2))=some (.int .u8 x.n.toNat)/\
 w'.cell? (ad.add (j*5+3))=some (.int .u8 x.pick.toNat)/\w'.cell? (ad.add (j*5+4))=some (.slice x.A x.b.length x.c):=by
 obtain ⟨ad,e,hbl,hc⟩:=h.at_ (by omega);have hl:j<l.length:=by have:=h.len;omega
 obtain ⟨h1,h2⟩:=hc j _ (gX hl);have key:∀i v,(evL l[j])[i]? =some v->w'.cell? (ad.add (j*5+i))=some v:=fun i v hi=>(hb.cell (p:=ad.add (j*5+i)) (by rw[block_add];exact hbl)).trans (h1 i v hi)
 exact ⟨ad,l[j],e,hbl,gX hl,h2,key 0 _ rfl,key 1 _ rfl,key 2 _ rfl,key 3 _ rfl,key 4 _ rfl⟩
end
def adV (l:List EvQ) (m:Nat) (w:World) (e:Ending) (w':World):Prop:=∃b:Bool,e= .returned (.bool b)/\(b=true->l.length<=m/\∀x∈l,x.b.length<=60)/\w=w'
theorem Oc (A:Option Addr) (n c:Nat) (l:List EvQ) (w:World) (h:ZM w w A n c l) (m:Nat) (hm:m<=200):
 Calls prog 9 #[.slice A n c,m] w (adV l m w):=by
 have hn63:n<=9223372036854775807:=by have:=h.cap;have:=h.mx;omega
 have hlen:=h.len;by_cases h60:m<n
 .go_enter func9,ntmps9;go_wp2;go_ret;exact ⟨false,rfl,by simp,rfl⟩
 .go_enter func9,ntmps9;go_wp2
  go_loop [5] (fun i=>∃k:Nat,k<=n/\i= .int .i64 k/\∀x∈l.take k,x.b.length<=60) (fun i=>n-(intOf i).toNat)
  case atStart=>exact ⟨0,eH _,rfl,by simp⟩
  case round=>
   obtain ⟨k,hk,rfl,hall⟩:=hrel;have qM:=ah hall;clear hall;by_cases hlt:k<n
   .obtain ⟨ad,x,rfl,hb,hx,hI,h0,h1,h2,h3,h4⟩:=h.get (bS _ w) hlt;have htk:l.take (k+1)=l.take k++ [x]:=by rw[pX,hx];rfl
    have PG:=ah htk;have hcap:=hI.cap;have hmx:=hI.mx;have e4:=h4;rw[<-JY _ _ _ (by decide)] at e4;clear hx htk h0 h1 h2 h3 hI;generalize hxl:x.b.length=nb at*;have HXL:=ah hxl;clear hxl;go_wp2
    all_goals first
     |(go_ret;exact ⟨false,rfl,by simp,rfl⟩)
     |(
      go_round
      case rel=>
       refine ⟨k+1,by omega,by go_num,fun y hy=> ?_⟩;rw[PG.out,iH] at hy;rcases hy with hy|hy
       .exact qM.out y hy
       .simp at hy;rw[hy,HXL.out];omega
      case measure=>simp[intOf];omega)
   .have e1:l.take k=l:=kI (by omega);rw[e1] at qM;have kH:=ah hlen;clear e1 hlen;go_wp2;go_ret;exact ⟨true,rfl,fun _=>⟨by rw[kH.out];omega,qM.out⟩,rfl⟩
end Go.Proofs.YtbhiklnljiehiaaGreat
