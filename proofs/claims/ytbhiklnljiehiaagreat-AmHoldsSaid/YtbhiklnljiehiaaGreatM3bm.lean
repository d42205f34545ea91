/- law36, plain: a segment cut from a PDU i. -/
import Derived.Test.YtbhiklnljiehiaaGreatM3bl
namespace Go.Proofs.YtbhiklnljiehiaaGreat
open RowKit Shelf Tryz
def rY (e:Bool):Bool->List (List UInt8)->List (Fl × UInt8)
 |_,[]=> []
 |s,p::r=>lQ p s (decide (0<r.length)||e)++rY e true r
theorem Fy (s e:Bool) (n:Nat):∀(ps:List (List UInt8)) (i:Nat),i+ps.length=n->eG s e n i ps=rY e (decide (0<i)||s) ps
 | [],_,_=>rfl
 |p::r,i,h=>by
  rw[eG,rY,Fy s e n r (i+1) (by simp at h;omega)];simp at h;have e1:decide (i+1<n)=decide (0<r.length):=by simp;omega
  simp[e1]
theorem Jo (p:List UInt8) (a b:Bool) {x y:Nat} (h:x<y) (hy:y<=p.length):lQ ((p.take y).drop x) (decide (x=0)&&a) (decide (y=p.length)&&b)=((lQ p a b).take y).drop x:=by
 refine zG fun j=> ?_
 rw[vg,pW];unfold lQ;rw[List.getElem?_mapIdx,vg,pW];by_cases hj:x+j<y
 ·rw[bD hj,bD hj,List.getElem?_mapIdx,gX (by omega)];simp only[G8,kC,kz,sj,BA,true_and,and_true];have e1:(decide (j=0)&&(decide (x=0)&&a))=(decide (x+j=0)&&a):=by
   by_cases h1:j=0<;>by_cases h2:x=0<;>simp[h1,h2]
  have e2:(decide (j+1=min y p.length-x)&&(decide (y=p.length)&&b))=(decide (x+j+1=p.length)&&b):=by
   by_cases h1:x+j+1=p.length
   ·have h2:y=p.length:=by omega
    have h3:j+1=min y p.length-x:=by omega
    rw[iK h1,iK h2,iK h3];simp
   ·by_cases h2:y=p.length
    ·have h3:¬j+1=min y p.length-x:=by omega
     rw[iP h1,iP h3];simp
    ·rw[iP h1,iP h2];simp
  exact ⟨e1,e2⟩
 ·rw[aP hj,aP hj];rfl
theorem MQ:∀(ps:List (List UInt8)),0<ps.length->wm ps true 0=true
 | [],h=>by simp at h
 |p::ps,_=>by simp[wm]
theorem yQ (e:Bool):∀(ps:List (List UInt8)) (s:Bool) (x y:Nat),(∀p∈ps,1<=p.length)->x<y->y<=aj ps->
 rY (Me ps e y) (wm ps s x) (oh ps x y)=((rY e s ps).take y).drop x
 | [],_,_,_,_,h,hy=>by simp[aj] at hy;omega
 |p::ps,s,x,y,hp,h,hy=>by
  rw[jM] at hy;have hpl:=hp p (by simp);have hps:∀q∈ps,1<=q.length:=fun q hq=>hp q (by simp[hq])
  rw[oh,wm,Me,rY];by_cases hx:x<min p.length y
  ·rw[bD hx,show x-p.length=0 by omega];have hxl:¬p.length<=x:=by omega
   rw[iP hxl,Bool.false_and,Bool.or_false];by_cases hyl:y<=p.length
   ·rw[show y-p.length=0 by omega,IY,RD ps e hps,Bool.and_false,Bool.or_false,rY,rY,CB];simp only[gQ,Nat.lt_irrefl,decide_false,uP];rw[Jo p s (decide (0<ps.length)||e) h hyl,List.take_append_of_le_length (by rw[fT];exact hyl)]
   ·have hne:=QD ps 0 (y-p.length) (by omega) (by omega);have hpn:0<ps.length:=by
     rcases ps with _|⟨q,r⟩
     ·simp[aj] at hy;omega
     ·simp
    have ih:=yQ e ps true 0 (y-p.length) hps (by omega) (by omega);rw[MQ ps hpn,ny] at ih;have hyn:¬y=p.length:=by omega
    rw[iP hyn,Bool.false_and,uP,iK (show p.length<=y by omega),Du,rY,ih,iK (show 0<(oh ps 0 (y-p.length)).length from hne),iK hpn,Bool.true_or,Bool.true_or];have hc:=Jo p s true (x:=x) (y:=p.length) (by omega) (aL);rw[iK rfl,Du,List.take_length,show (lQ p s true).take p.length=lQ p s true from kI (by rw[fT];exact aL)] at hc;rw[kI (show p.length<=y by omega),hc,List.take_append,fT,kI (show (lQ p s true).length<=y by rw[fT];omega),List.drop_append_of_le_length (show x<=(lQ p s true).length by rw[fT];omega)]
  ·rw[aP hx];have hxl:p.length<=x:=by omega
   have ih:=yQ e ps true (x-p.length) (y-p.length) hps (by omega) (by omega);rw[iP (show ¬x=0 by omega),Bool.false_and,uP,iK hxl,Du,iP (show ¬y=p.length by omega),Bool.false_and,uP,iK (show p.length<=y by omega),Du,ih];rw[List.take_append,fT,kI (show (lQ p s (decide (0<ps.length)||e)).length<=y by rw[fT];omega),List.drop_append,fT,List.drop_eq_nil_of_le (show (lQ p s (decide (0<ps.length)||e)).length<=x by rw[fT];exact hxl),pY]
def Fz (x:Ou) (po:Bool) (fr till:Nat):jY:=⟨x.sn,po,true,decide (till=aj x.ps),fr,bQ x.ps x.s 0 fr x.ps.length,dN x.ps x.e 0 till x.ps.length,aO x.ps 0 fr till x.ps.length⟩
theorem R6 (x:Ou) (po:Bool) {fr till:Nat} (hp:∀p∈x.ps,1<=p.length) (h:fr<till) (ht:till<=aj x.ps):Piece x (Fz x po fr till):=by
 have hs:=zW x.ps 0 fr till (eH _) (by omega);refine ⟨rfl,by show 1<=aj (aO _ _ _ _ _);omega,by show fr+aj (aO _ _ _ _ _)<=_;rw[hs];show _<=aj x.ps;omega,?_,fun j z hz=> ?_⟩
 ·show (!true||decide (till=aj x.ps))=true↔fr+aj (aO _ _ _ _ _)=aj x.ps
  rw[hs];simp;omega
 ·have e1:eG (Fz x po fr till).s (Fz x po fr till).e (Fz x po fr till).ps.length 0 (Fz x po fr till).ps=((BS x).take till).drop fr:=by
   rw[Fy _ _ _ _ 0 (by simp)];show rY (dN x.ps x.e 0 till x.ps.length) (decide (0<0)||bQ x.ps x.s 0 fr x.ps.length) (aO x.ps 0 fr till x.ps.length)=_
   rw[nT,sJ,zV];simp only[Nat.sub_zero,eH,decide_true,Du,Nat.lt_irrefl,decide_false,uP];rw[yQ x.e x.ps x.s fr till hp h ht,BS,Fy _ _ _ _ 0 (by simp)];simp
  rw[e1,vg,pW] at hz;split at hz
  ·exact hz
  ·cases hz
def tot (pu:Nat->Ou):Nat->Nat
 |0=>0
 |n+1=>tot pu n+au (pu n)
theorem sW {pu vN:Nat->Ou}:∀{n:Nat},(∀k,k<n->vN k=pu k)->tot vN n=tot pu n
 |0,_=>rfl
 |n+1,h=>by rw[tot,tot,sW fun k hk=>h k (by omega),h n (by omega)]
theorem Ps (pu:Nat->Ou) (a:Nat):∀b,tot pu a<=tot pu (a+b)
 |0=>aL
 |b+1=>by have:=Ps pu a b;rw[show a+(b+1)=(a+b)+1 by omega,tot];omega
structure jb (x y:Ou):Prop where
 sn:x.sn=y.sn
 s:x.s=y.s
 e:x.e=y.e
 ps:x.ps=y.ps
theorem jb.refl (x:Ou):jb x x:=⟨rfl,rfl,rfl,rfl⟩
theorem jb.trans {x y z:Ou} (h:jb x y) (h2:jb y z):jb x z:=⟨h.sn.trans h2.sn,h.s.trans h2.s,h.e.trans h2.e,h.ps.trans h2.ps⟩
theorem jb.size {x y:Ou} (h:jb x y):au x=au y:=by unfold au;rw[h.ps]
theorem jb.bytes {x y:Ou} (h:jb x y):BS x=BS y:=by unfold BS;rw[h.s,h.e,h.ps]
theorem Piece.same {x y:Ou} {a:jY} (h:jb x y) (p:Piece x a):Piece y a:=⟨p.sn.trans h.sn,p.pos,by rw[<-h.size];exact p.le,by rw[<-h.size];exact p.fin,by rw[<-h.bytes];exact p.eq⟩
theorem QX {pu:Nat->Ou}:∀(d:List Ou) (a:Nat),(∀i x,d[i]? =some x->jb x (pu (a+i)))->tot pu (a+d.length)=tot pu a+sizes d
 | [],a,_=>by simp[sizes]
 |x::r,a,h=>by
  have ih:=QX r (a+1) fun i y hy=>by
   have:=h (i+1) y (by simpa using hy)
   rwa [show a+1+i=a+(i+1) by omega]
  have h0:=(h 0 x (by simp)).size;rw[uf] at h0;rw[jh,show a+(r.length+1)=a+1+r.length by omega,ih,tot,iL,h0];omega
structure Dir (aD:List (List UInt8)) (N:Nat) (pu:Nat->Ou) (left:Nat->List (List UInt8)) (sent:Nat->Nat):Prop where
 T:vD aD N pu left sent
 ok:∀i,i<=N->Pn (left i) (sent i)
 sk:∀i,i<=N->aI aD (tot pu i)=(left i,sent i)
 sm:tot pu N<=aj aD
theorem MZ:∀(l m:List (List UInt8)) (t:Nat),aI (l++m) t=if (aI l t).1= [] then aI m (aI l t).2 else ((aI l t).1++m,(aI l t).2)
 | [],m,t=>by simp[aI]
 |x::r,m,t=>by
  by_cases h:x.length<=t
  ·have e:∀q,aI (x::q) t=aI q (t-x.length):=fun q=>by rw[aI,bD h]
   rw[qJ,e,e,MZ r m]
  ·have e:∀q,aI (x::q) t=(x::q,t):=fun q=>by rw[aI,aP h]
   rw[qJ,e,e];simp
theorem nN (a b:List (List UInt8)):aj (a++b)=aj a+aj b:=by simp[aj]
theorem FF {l:List (List UInt8)} {k:Nat} (x:List UInt8) (h:l= []->k=0):((l++ [x]).headD []).take k=(l.headD []).take k:=by
 cases l with
 |nil=>simp[h rfl]
 |cons y r=>rfl
theorem Pn.app {l:List (List UInt8)} {k:Nat} (h:Pn l k) {x:List UInt8} (h1:1<=x.length) (h2:x.length<=60):Pn (l++ [x]) k:=by
 refine ⟨fun y r e=> ?_,fun e=>by simp at e,fun s hs=> ?_⟩
 ·cases l with
  |nil=>
   have:=h.z rfl;simp at e;rw[<-e.1];omega
  |cons z t=>
   simp at e;rw[<-e.1];exact h.lt z t rfl
 ·rcases iH.1 hs with hs|hs
  ·exact h.len s hs
  ·simp at hs;rw[hs];exact ⟨h1,h2⟩
section
variable {aD aaj:List (List UInt8)} {N N':Nat} {pu vN:Nat->Ou} {left left':Nat->List (List UInt8)} {sent sent':Nat->Nat} {H H':Nat->Prop} {st st':Sd}
theorem Dir.iY (h:Dir aD N pu left sent) {x:List UInt8} (h1:1<=x.length) (h2:x.length<=60):Dir (aD++ [x]) N pu (fun i=>left i++ [x]) sent:=by
 refine ⟨⟨h.T.n,?_,h.T.s0,h.T.sn,h.T.s,h.T.ne,h.T.each,h.T.tot,fun s hs=> ?_,fun i hi=> ?_⟩,fun i hi=>(h.ok i hi).app h1 h2,fun i hi=> ?_,?_⟩
 ·rw[h.T.l0]
 ·rcases iH.1 hs with hs|hs
  ·exact h.T.len s hs
  ·simp at hs;rw[hs];omega
 ·obtain ⟨g,e1,e2⟩:=h.T.step i hi;refine ⟨g,by rw[e1,oJ],?_⟩;rw[FF x (h.ok i (by omega)).z,FF x (h.ok (i+1) (by omega)).z];exact e2
 ·rw[MZ,h.sk i hi];dsimp only;split
  ·rename_i e;rw[(h.ok i hi).z e,aI,aP (by omega),e];rfl
  ·rfl
 ·rw[nN];have:=h.sm;omega
def upd {α:Type} (f:Nat->α) (k:Nat) (v:α):Nat->α:=fun i=>if i=k then v else f i
theorem jQ {α:Type} (f:Nat->α) (k:Nat) (v:α):upd f k v k=v:=by simp[upd]
theorem upd_ne {α:Type} (f:Nat->α) {k i:Nat} (v:α) (h:i≠k):upd f k v i=f i:=by simp[upd,h]
theorem Dir.fresh (h:Dir aD N pu left sent) (hN:N<511) (n:Int) {x:Ou} (hsn:x.sn=N) (hs:x.s=decide (sent N=0))
 (he:x.e=(l9 n ((left N).length+1) (left N) (sent N) 0 0 0 false).2.1) (hps:x.ps=(l9 n ((left N).length+1) (left N) (sent N) 0 0 0 false).1) (hne:x.ps≠ []):
 Dir aD (N+1) (upd pu N x) (upd left (N+1) (l9 n ((left N).length+1) (left N) (sent N) 0 0 0 false).2.2.1) (upd sent (N+1) (l9 n ((left N).length+1) (left N) (sent N) 0 0 0 false).2.2.2):=by
 have ho:=h.ok N (aL);have hk:=J8 n ((left N).length+1) (left N) (sent N) 0 0 0 false (fun s hm=>(ho.len s hm).1) ho.lt ho.z;have hs2:=ho.step n ((left N).length+1);have hne':(l9 n ((left N).length+1) (left N) (sent N) 0 0 0 false).1≠ []:=by rw[<-hps];exact hne
 have hv:=BH n ((left N).length+1) (left N) (sent N) false (fun s hm=>(ho.len s hm).1) ho.lt hne';have hsh:=Jl n ((left N).length+1) (left N) (sent N) 0 0 0 false (fun s hm=>(ho.len s hm).2);have hsk:=MP n ((left N).length+1) (left N) (sent N) 0 0 0 false ho.lt (fun s hm=>(ho.len s hm).1);have hsum:=QU n ((left N).length+1) (left N) (sent N) 0 0 0 false ho.lt ho.z (fun s hm=>(ho.len s hm).1);obtain ⟨g,g1,g2⟩:=hk.some_ hne';generalize hR:l9 n ((left N).length+1) (left N) (sent N) 0 0 0 false=R at*;have htot:tot (upd pu N x) N=tot pu N:=sW fun k hk=>upd_ne _ _ (by omega)
 have hsz:au x=aj R.1:=by unfold au;rw[hps]
 refine ⟨⟨by omega,?_,?_,fun i hi=> ?_,fun i hi=> ?_,fun i hi=> ?_,fun i hi=> ?_,fun i hi=> ?_,h.T.len,fun i hi=> ?_⟩,fun i hi=> ?_,fun i hi=> ?_,?_⟩
 ·rw[upd_ne _ _ (by omega)];exact h.T.l0
 ·rw[upd_ne _ _ (by omega)];exact h.T.s0
 ·by_cases e:i=N
  ·rw[e,jQ];exact hsn
  ·rw[upd_ne _ _ e];exact h.T.sn i (by omega)
 ·by_cases e:i=N
  ·rw[e,jQ,upd_ne _ _ (by omega)];exact hs
  ·rw[upd_ne _ _ e,upd_ne _ _ (by omega)];exact h.T.s i (by omega)
 ·by_cases e:i=N
  ·rw[e,jQ];exact hne
  ·rw[upd_ne _ _ e];exact h.T.ne i (by omega)
 ·by_cases e:i=N
  ·rw[e,jQ,hps];exact fun q hq=>⟨hv.pos q hq,by have:=hsh q hq;omega⟩
  ·rw[upd_ne _ _ e];exact h.T.each i (by omega)
 ·by_cases e:i=N
  ·rw[e,jQ,hsz];exact hv.sum
  ·rw[upd_ne _ _ e];exact h.T.tot i (by omega)
 ·by_cases e:i=N
  ·rw[e,jQ,jQ,jQ,upd_ne _ _ (by omega),upd_ne _ _ (by omega),he,hps];exact ⟨g,g1,g2⟩
  ·rw[upd_ne _ _ e,upd_ne _ _ (by omega),upd_ne _ _ (by omega),upd_ne _ _ (by omega),upd_ne _ _ (by omega)];exact h.T.step i (by omega)
 ·by_cases e:i=N+1
  ·rw[e,jQ,jQ];exact hs2
  ·rw[upd_ne _ _ e,upd_ne _ _ e];exact h.ok i (by omega)
 ·by_cases e:i=N+1
  ·rw[e,jQ,jQ,tot,htot,jQ,xB,h.sk N (aL),hsz];exact hsk
  ·rw[upd_ne _ _ e,upd_ne _ _ e,sW fun k hk=>upd_ne _ _ (by omega)];exact h.sk i (by omega)
 ·rw[tot,htot,jQ,hsz];obtain ⟨⟨d,e1,e2⟩,_⟩:=sF aD (tot pu N) h.sm;rw[h.sk N (aL)] at e1 e2;have e3:aj aD=aj d+aj (left N):=by
   conv=>lhs;rw[e1]
   exact nN _ _
  dsimp only at e2;omega
theorem Dir.start (aD:List (List UInt8)) (pu:Nat->Ou):aD= []->Dir aD 0 pu (fun _=> []) (fun _=>0):=by
 rintro rfl;exact ⟨⟨by omega,rfl,rfl,fun i hi=>by omega,fun i hi=>by omega,fun i hi=>by omega,fun i hi=>by omega,fun i hi=>by omega,by simp,fun i hi=>by omega⟩,
  fun i hi=>⟨fun x r e=>(by cases e),fun _=>rfl,by simp⟩,fun i hi=>(by rw[show i=0 by omega];rfl),aL⟩
theorem Dir.Yx (h:Dir aD N pu left sent) {i:Nat} (hi:i<=N):(left i).length<=aD.length:=by
 have:=AQ h.T hi;omega
structure qU (aD:List (List UInt8)) (N:Nat) (pu:Nat->Ou) (left:Nat->List (List UInt8)) (sent:Nat->Nat) (H:Nat->Prop) (st:Sd):Prop where
 q:st.queue=left st.first
 dn:st.done+(left st.first).length=aD.length
 fr:st.front=sent st.first
 tk:st.taken+tot pu st.first=st.front+tot pu N
 fo:st.first+st.out.length=N
 out:∀i x,st.out[i]? =some x->jb x (pu (st.first+i))
 ak:∀i x,st.out[i]? =some x->x.bJ=true->H (st.first+i)
 has:∀k,k<st.first->H k
theorem qU.mono (h:qU aD N pu left sent H st) (hH:∀k,H k->H' k):qU aD N pu left sent H' st:=
 ⟨h.q,h.dn,h.fr,h.tk,h.fo,h.out,fun i x hx ha=>hH _ (h.ak i x hx ha),fun k hk=>hH k (h.has k hk)⟩
structure jV (H:Nat->Prop) (st st':Sd):Prop where
 q:st'.queue=st.queue
 d:st'.done=st.done
 fr:st'.front=st.front
 tk:st'.taken=st.taken
 fi:st'.first=st.first
 ln:st'.out.length=st.out.length
 o:∀i x',st'.out[i]? =some x'->∃x,st.out[i]? =some x/\jb x' x/\(x'.bJ=true->x.bJ=true\/H (st.first+i))
theorem jV.KD (hq:st'.queue=st.queue) (hd:st'.done=st.done) (hf:st'.front=st.front) (ht:st'.taken=st.taken) (hi:st'.first=st.first) (ho:st'.out=st.out):jV H st st':=
 ⟨hq,hd,hf,ht,hi,by rw[ho],fun i x' hx=>⟨x',by rw[<-ho];exact hx,jb.refl _,fun ha=> .inl ha⟩⟩
theorem jV.refl (st:Sd):jV H st st:=jV.KD rfl rfl rfl rfl rfl rfl
theorem jV.trans {s2:Sd} (h:jV H st st') (h2:jV H st' s2):jV H st s2:=by
 refine ⟨h2.q.trans h.q,h2.d.trans h.d,h2.fr.trans h.fr,h2.tk.trans h.tk,h2.fi.trans h.fi,h2.ln.trans h.ln,fun i x' hx=> ?_⟩;obtain ⟨y,hy,e1,e2⟩:=h2.o i x' hx;obtain ⟨z,hz,e3,e4⟩:=h.o i y hy;refine ⟨z,hz,e1.trans e3,fun ha=> ?_⟩;rcases e2 ha with e|e
 ·exact e4 e
 ·exact .inr (by rwa [h.fi] at e)
theorem qU.QY (h:qU aD N pu left sent H st) (hs:jV H st st'):qU aD N pu left sent H st':=by
 refine ⟨by rw[hs.q,hs.fi];exact h.q,by rw[hs.d,hs.fi];exact h.dn,by rw[hs.fr,hs.fi];exact h.fr,by rw[hs.tk,hs.fr,hs.fi];exact h.tk,by rw[hs.fi,hs.ln];exact h.fo,fun i x hx=> ?_,fun i x hx ha=> ?_,by rw[hs.fi];exact h.has⟩
 ·obtain ⟨y,hy,e1,_⟩:=hs.o i x hx;rw[hs.fi];exact e1.trans (h.out i y hy)
 ·obtain ⟨y,hy,_,e2⟩:=hs.o i x hx;rw[hs.fi];rcases e2 ha with e|e
  ·exact h.ak i y hy e
  ·exact e
theorem jV.set {i:Nat} {x z:Ou} (hx:st.out[i]? =some x) (hz:jb z x) (ha:z.bJ=true->x.bJ=true\/H (st.first+i)) (hq:st'.queue=st.queue) (hd:st'.done=st.done) (hf:st'.front=st.front) (ht:st'.taken=st.taken) (hi:st'.first=st.first) (ho:st'.out=st.out.set i z):jV H st st':=by
 refine ⟨hq,hd,hf,ht,hi,by rw[ho,Dr],fun j y hy=> ?_⟩;rw[ho,IC] at hy;split at hy
 ·rename_i e;subst e;split at hy
  ·cases hy;exact ⟨x,hx,hz,ha⟩
  ·cases hy
 ·exact ⟨y,hy,jb.refl _,fun h=> .inl h⟩
theorem FH (c:Cf) (x:Ou) (l:List (Nat × Nat)):jb (fO c x l).1 x/\(fO c x l).1.bJ=x.bJ:=by
 unfold fO;split<;>exact ⟨⟨rfl,rfl,rfl,rfl⟩,rfl⟩
theorem jV.nS (c:Cf) (st:Sd):jV H st (aX c st):=by
 unfold aX;split
 ·exact jV.refl _
 ·split
  ·exact jV.refl _
  ·split
   ·exact jV.refl _
   ·rename_i i _ x hx;obtain ⟨e1,e2⟩:=FH c x [(0,au x-1)];exact jV.set hx e1 (fun ha=> .inl (by rwa [e2] at ha)) rfl rfl rfl rfl rfl rfl
theorem jV.clock (st:Sd) (now:Int):jV H st (cO st now):=jV.KD rfl rfl rfl rfl rfl rfl
theorem jV.tick (c:Cf) (st:Sd) (now:Int):jV H st (aB c st now):=by
 refine (jV.clock st now).trans ?_;unfold aB gH;split
 ·exact jV.refl _
 ·exact jV.trans (st':= {cO st now with wait:=false,dI:=true}) (jV.KD rfl rfl rfl rfl rfl rfl) (jV.nS c _)
theorem jV.eY (c:Cf) (st:Sd) (now:Int):jV H st (eY c st now).1:=by
 unfold Go.Proofs.YtbhiklnljiehiaaGreat.eY;split
 ·exact jV.refl _
 ·exact jV.tick c st now
theorem jV.finish (c:Cf) (st:Sd) (b:Bool):jV H st (aG c st b).1:=by
 unfold aG;split
 ·exact jV.KD rfl rfl rfl rfl rfl rfl
 ·exact jV.refl _
theorem jV.cB {i:Nat} {x:Ou} (hx:st.out[i]? =some x) (l:List (Nat × Nat)):jV H st (cB st i x l):=jV.set (z:= {x with pend:=l}) hx ⟨rfl,rfl,rfl,rfl⟩ (fun ha=> .inl ha) rfl rfl rfl rfl rfl rfl
theorem jV.again (c:Cf) (n:Int) {i:Nat} {x:Ou} (hx:st.out[i]? =some x):jV H st (dK c n st i x).1:=by
 unfold dK;split
 ·exact jV.refl _
 ·split
  ·exact (jV.cB hx _).trans (jV.finish c _ _)
  ·split
   ·exact jV.refl _
   ·exact (jV.cB hx _).trans (jV.finish c _ _)
theorem KE (c:Cf) (m:Ou->List (Nat × Nat)) (x:Ou):jb (bT c m x).1 x/\((bT c m x).1.bJ=true->x.bJ=true\/m x= []):=by
 unfold bT;split
 ·exact ⟨jb.refl _,fun h=> .inl h⟩
 ·split
  ·rename_i e;exact ⟨⟨rfl,rfl,rfl,rfl⟩,fun _=> .inr e⟩
  ·obtain ⟨e1,e2⟩:=FH c x (m x);exact ⟨e1,fun ha=> .inl (by rwa [e2] at ha)⟩
theorem jV.stat (c:Cf) (m:Ou->List (Nat × Nat)) (n:Nat) (hn:n<=st.out.length) (hm:∀i x,i<n->st.out[i]? =some x->m x= []->H (st.first+i)) (f w:Bool):
 jV H st {st with out:=(aT c m n st.out).1,failed:=f,wait:=w}:=by
 have e:(aT c m n st.out).1=(st.out.take n).map (fun x=>(bT c m x).1)++st.out.drop n:=rfl;refine ⟨rfl,rfl,rfl,rfl,rfl,?_,fun i y hy=> ?_⟩
 ·show (aT c m n st.out).1.length=_
  rw[e,l8,Ej,kz,kC];omega
 ·have hy':(aT c m n st.out).1[i]? =some y:=hy;rw[e] at hy';by_cases hi:i<n
  ·rw[mh (by rw[Ej,kz];omega),oW,pW,bD hi] at hy';cases hx:st.out[i]? with
   |none=>rw[hx] at hy';cases hy'
   |some x=>
    rw[hx] at hy';cases hy';obtain ⟨e1,e2⟩:=KE c m x;refine ⟨x,rfl,e1,fun ha=> ?_⟩;rcases e2 ha with h|h
    ·exact .inl h
    ·exact .inr (hm i x hi hx h)
  ·rw[oI (by rw[Ej,kz];omega),Ej,kz,show min n st.out.length=n by omega,vg,show n+(i-n)=i by omega] at hy';exact ⟨y,hy',jb.refl _,fun ha=> .inl ha⟩
theorem FJ:∀(l:List (List UInt8)) (f:Nat),(iy l f).2.2.1=(aI l f).2/\(iy l f).2.1+(aI l f).2=f
 | [],f=>by simp[iy,aI]
 |x::r,f=>by
  by_cases h:x.length<=f
  ·obtain ⟨h1,h2⟩:=FJ r (f-x.length);rw[iy,bD h,aI,bD h];dsimp only;exact ⟨h1,by omega⟩
  ·rw[iy,aP h,aI,aP h];simp
theorem qU.adv (D:Dir aD N pu left sent) (h:qU aD N pu left sent H st):qU aD N pu left sent H (ig st):=by
 have hN:=D.T.n;have hfo:=h.fo;obtain ⟨⟨d,d1,d2,d3,d4⟩,_⟩:=jJ st.out;have e1:(ig st).out=(aV st.out).2.2:=rfl;have e2:(ig st).queue=(iy st.queue (st.front+(aV st.out).2.1)).2.2.2:=rfl;have e3:(ig st).taken=st.taken-(iy st.queue (st.front+(aV st.out).2.1)).2.1:=rfl;have e4:(ig st).front=(iy st.queue (st.front+(aV st.out).2.1)).2.2.1:=rfl;have e5:(ig st).first=(st.first+(aV st.out).1)%1024:=rfl
 have e6:(ig st).done=st.done+(iy st.queue (st.front+(aV st.out).2.1)).1:=rfl;have hlen:st.out.length=d.length+(aV st.out).2.2.length:=by
  conv=>lhs;rw[d1]
  rw[l8]
 have hf:(ig st).first=st.first+d.length:=by rw[e5,<-d2];omega
 have hd:∀i x,d[i]? =some x->jb x (pu (st.first+i)):=fun i x hx=>h.out i x (by rw[d1,mh (pN.1 hx).1];exact hx)
 have ht:=QX d st.first hd
 rw[d3] at ht;have hle:st.first+d.length<=N:=by omega
 have hsk:=D.sk (st.first+d.length) hle;rw[ht,xB,D.sk st.first (by omega)] at hsk;dsimp only at hsk;rw[<-h.q,<-h.fr] at hsk;obtain ⟨a1,a2⟩:=Jn st.queue (st.front+(aV st.out).2.1);obtain ⟨b1,b2⟩:=FJ st.queue (st.front+(aV st.out).2.1);rw[hsk] at a1 a2 b1 b2;dsimp only at a1 a2 b1 b2;have hmono:=Ps pu (st.first+d.length) (N-(st.first+d.length));rw[show st.first+d.length+(N-(st.first+d.length))=N by omega] at hmono;have htk:=h.tk;have hdn:=h.dn;have hq:=h.q;have hrest:∀i,(aV st.out).2.2[i]? =st.out[d.length+i]? :=fun i=>by
  conv=>rhs;rw[d1]
  rw[oI (by omega),show d.length+i-d.length=i by omega]
 refine ⟨by rw[e2,a2,hf],?_,by rw[e4,b1,hf],?_,?_,fun i x hx=> ?_,fun i x hx ha=> ?_,fun k hk=> ?_⟩
 ·rw[e6,hf];have:st.queue.length=(left st.first).length:=by rw[hq]
  omega
 ·rw[e3,e4,b1,hf,ht];omega
 ·rw[hf,e1];omega
 ·rw[e1,hrest] at hx;rw[hf,zH];exact h.out _ x hx
 ·rw[e1,hrest] at hx;rw[hf,zH];exact h.ak _ x hx ha
 ·rw[hf] at hk;by_cases hk2:k<st.first
  ·exact h.has k hk2
  ·have hi:k-st.first<d.length:=by omega
   have hx:d[k-st.first]? =some d[k-st.first]:=gX hi;have h1:=h.ak (k-st.first) d[k-st.first] (by rw[d1,mh hi];exact hx) (d4 _ (xR _))
   rwa [show st.first+(k-st.first)=k by omega] at h1
structure Rep (N:Nat) (pu:Nat->Ou) (H:Nat->Prop) (aA:Nat) (l:List Nk):Prop where
 le:aA<=N
 v:bO (aA:Int) l=true
 cov:∀k,k<aA->H k\/∃n∈l,n.sn=(k:Int)/\Mt (au (pu k)) n
theorem Rep.mono {aA:Nat} {l:List Nk} (h:Rep N pu H aA l) (hN:N<=N') (hp:∀k,k<N->vN k=pu k) (hH:∀k,H k->H' k):Rep N' vN H' aA l:=
 ⟨gG h.le hN,h.v,fun k hk=>by
  rcases h.cov k hk with e|e
  ·exact .inl (hH k e)
  ·rw[hp k (by have:=h.le;omega)];exact .inr e⟩
theorem Rep.truth {aA:Nat} {l:List Nk} (h:Rep N pu H aA l) {k:Nat} (hk:k<aA) {x:Ou} (hx:jb x (pu k)) (hsn:(pu k).sn=k) (hm:aQ l x= []):H k:=by
 rcases h.cov k hk with hh|⟨n,hn,e,ha⟩
 ·exact hh
 ·exfalso;rw[<-hx.size] at ha;refine Jb (au x) (l.filter (fun n=>decide (n.sn=(x.sn:Int)))) [] ⟨n,?_,ha⟩ hm;rw[List.mem_filter];refine ⟨hn,?_⟩;rw[hx.sn,hsn];simpa using e
theorem qU.status (D:Dir aD N pu left sent) (h:qU aD N pu left sent H st) (c:Cf) (now:Int) {aA:Nat} {l:List Nk} (hr:Rep N pu H aA l):qU aD N pu left sent H (bP c st now (aA:Int) l).1:=by
 have hN:=D.T.n;have hfo:=h.fo;have hle:=hr.le;unfold bP;split
 ·exact h
 unfold kS;split
 ·exact h
 split
 ·exact h.QY (jV.clock st now)
 rename_i hbad;have hpl:eP st (aA:Int)<=st.out.length:=by have:=not_or.1 hbad;omega
 have hge:st.first<=aA:=by
  unfold eP at hpl;omega
 have hp:eP st (aA:Int)=((aA-st.first:Nat):Int):=by
  unfold eP;omega
 rw[hp];dsimp only;rw[Es];have h2:qU aD N pu left sent H (cO st now):=h.QY (jV.clock st now);have h3:∀f w,qU aD N pu left sent H {cO st now with out:=(aT c (aQ l) (aA-st.first) (cO st now).out).1,failed:=f,wait:=w}:=fun f w=>by
  refine h2.QY (jV.stat c (aQ l) (aA-st.first) (by show _<=st.out.length;omega) (fun i x hi hx hm=> ?_) f w);have hx':st.out[i]? =some x:=hx;show H (st.first+i)
  have hil:=(pN.1 hx').1;exact hr.truth (by omega) (h.out i x hx') (D.T.sn _ (by omega)) hm
 unfold oU;dsimp only;split
 ·exact (qU.adv D (h3 _ _)).QY (jV.nS c _)
 ·exact qU.adv D (h3 _ _)
theorem qU.iY (_D:Dir aD N pu left sent) (h:qU aD N pu left sent H st) (x:List UInt8):qU (aD++ [x]) N pu (fun i=>left i++ [x]) sent H (dQ st x):=by
 refine ⟨by show st.queue++ [x]=_;rw[h.q];rfl,?_,h.fr,h.tk,h.fo,h.out,h.ak,h.has⟩;show st.done+(left st.first++ [x]).length=_
 have:=h.dn;simp only[l8,jh,gQ];omega
theorem qU.skip (D:Dir aD N pu left sent) (h:qU aD N pu left sent H st):aI st.queue st.taken=(left N,sent N):=by
 have hfo:=h.fo;have htk:=h.tk;have hmono:=Ps pu st.first (N-st.first)
 rw[show st.first+(N-st.first)=N by omega] at hmono;have e:=D.sk N (aL);rw[show tot pu N=tot pu st.first+(tot pu N-tot pu st.first) by omega,xB,D.sk st.first (by omega)] at e;dsimp only at e;rw[<-h.q,<-h.fr,show st.front+(tot pu N-tot pu st.first)=st.taken by omega] at e;exact e
theorem qU.fresh (D:Dir aD N pu left sent) (h:qU aD N pu left sent H st) (hN:N<511) (n:Int) (hne:(aJ n st).ps≠ []):
 ∃vN left' sent',(∀k,k<N->vN k=pu k)/\(∀i,i<=N->left' i=left i/\sent' i=sent i)/\Dir aD (N+1) vN left' sent'/\qU aD (N+1) vN left' sent' H (cK st (aJ n st))/\jb (aJ n st) (vN N):=by
 have hsk:=h.skip D;have hfo:=h.fo;have hsn:(aJ n st).sn=N:=by
  show dM st=N
  unfold dM;omega
 have hs:(aJ n st).s=decide (sent N=0):=by
  show decide ((aI st.queue st.taken).2=0)=_
  rw[hsk]
 have he:(aJ n st).e=(l9 n ((left N).length+1) (left N) (sent N) 0 0 0 false).2.1:=by
  show (l9 n ((aI st.queue st.taken).1.length+1) (aI st.queue st.taken).1 (aI st.queue st.taken).2 0 0 0 false).2.1=_
  rw[hsk]
 have hps:(aJ n st).ps=(l9 n ((left N).length+1) (left N) (sent N) 0 0 0 false).1:=by
  show (l9 n ((aI st.queue st.taken).1.length+1) (aI st.queue st.taken).1 (aI st.queue st.taken).2 0 0 0 false).1=_
  rw[hsk]
 have hD:=D.fresh hN n hsn hs he hps hne;have hak:(aJ n st).bJ=false:=rfl;generalize aJ n st=x at*;have htot:tot (upd pu N x) N=tot pu N:=sW fun k hk=>upd_ne _ _ (by omega)
 have GM:tot (upd pu N x) st.first=tot pu st.first:=sW fun k hk=>upd_ne _ _ (by omega)
 refine ⟨_,_,_,fun k hk=>upd_ne _ _ (by omega),fun i hi=>⟨upd_ne _ _ (by omega),upd_ne _ _ (by omega)⟩,hD,?_,by rw[jQ];exact jb.refl _⟩;refine ⟨by rw[upd_ne _ _ (by show st.first≠_;omega)];exact h.q,by rw[upd_ne _ _ (by show st.first≠_;omega)];exact h.dn,by rw[upd_ne _ _ (by show st.first≠_;omega)];exact h.fr,?_,?_,fun i y hy=> ?_,fun i y hy ha=> ?_,h.has⟩
 ·show st.taken+au x+tot (upd pu N x) st.first=st.front+tot (upd pu N x) (N+1)
  rw[tot,htot,GM,jQ];have:=h.tk;omega
 ·show st.first+(st.out++ [x]).length=N+1
  simp;omega
 ·have hy':(st.out++ [x])[i]? =some y:=hy;show jb y (upd pu N x (st.first+i))
  rcases kD i st.out.length with hlt|hge
  ·rw[mh hlt] at hy';rw[upd_ne _ _ (by omega)];exact h.out i y hy'
  ·rw[oI hge] at hy';have hi0:i-st.out.length=0:=by
    rcases oV (i-st.out.length) with e|e
    ·exact e
    ·rw[kV (by simp;omega)] at hy';cases hy'
   rw[hi0] at hy';simp at hy';rw[<-hy',show st.first+i=N by omega,jQ];exact jb.refl _
 ·have hy':(st.out++ [x])[i]? =some y:=hy;show H (st.first+i)
  rcases kD i st.out.length with hlt|hge
  ·rw[mh hlt] at hy';exact h.ak i y hy' ha
  ·exfalso;rw[oI hge] at hy';have hi0:i-st.out.length=0:=by
    rcases oV (i-st.out.length) with e|e
    ·exact e
    ·rw[kV (by simp;omega)] at hy';cases hy'
   rw[hi0] at hy';simp at hy';rw[<-hy',hak] at ha;cases ha
end
theorem jR {lo hi:Int} {xs:List Int} (h:within lo hi xs=true):∀x∈xs,lo<=x/\x<=hi:=by
 intro x hx;unfold within at h;simp only[Bool.not_eq_true',List.any_eq_false] at h;have:=h x hx;unfold outside at this;simp at this;omega
def uK (a0 a1 a2 a3 a4 a5 a6:Int):Cf:=⟨a0,a1,a2,a3,a4,a5,a6⟩
theorem NE {a0 a1 a2 a3 a4 a5 a6:Int} (h:eU a0 a1 a2 a3 a4 a5 a6=true):J9 (uK a0 a1 a2 a3 a4 a5 a6):=by
 unfold eU at h;simp only[gD] at h;obtain ⟨h1,h2,h3,h4,h5,h6⟩:=h;exact ⟨jR h1 a0 (by simp),jR h2 a1 (by simp),jR h3 a2 (by simp),jR h5 a5 (by simp),jR h6 a6 (by simp)⟩
theorem Y9 {w:World} {g:Nat} (c:Cf) (hb:av w g 143 (fV c (.slice none 0 0) (.slice none 0 0) dO)):gu w (·=g) (·=g) g c dO (.slice none 0 0) [] (.slice none 0 0) []:=
 ⟨hb,rfl,fun _ h=>h,fun k hk=>by rw[show k=g from hk];exact hb.lt,Mx _ _ _,fun k hk=>by simp[bM] at hk,fun i p hi=>by simp[dO] at hi,Mx _ _ _,fun k hk=>by simp[bM] at hk,fun i x hi=>by simp[dO] at hi,fun i j v hi _=>by simp at hi⟩
def ahl (w:World) (a0 a1 a2 a3 a4 a5 a6:Int) (e:Ending) (w':World):Prop:=
 Below w w w'/\
  ((eU a0 a1 a2 a3 a4 a5 a6=true/\∃s,e= .returned (.tuple #[.pointer (some ⟨s,0,none⟩),.int .i64 0])/\w.heap.size<=s/\Gc w' (·=s) s (uK a0 a1 a2 a3 a4 a5 a6) dO/\fu (uK a0 a1 a2 a3 a4 a5 a6) dO 0)\/(eU a0 a1 a2 a3 a4 a5 a6=false/\e= .returned (.tuple #[.pointer none,.int .i64 2])))
theorem Za (a0 a1 a2 a3 a4 a5 a6:Int) (w:World):Calls prog 70 #[.agg (Be a0 a1 a2 a3 a4 a5 a6)] w (ahl w a0 a1 a2 a3 a4 a5 a6):=by
 refine (agB a0 a1 a2 a3 a4 a5 a6 w).mono ?_;rintro e w' ⟨hb,⟨h1,s,he,hs,hblk⟩|h⟩
 ·exact ⟨hb,.inl ⟨h1,s,he,hs,⟨_,_,_,_,_,Y9 (uK a0 a1 a2 a3 a4 a5 a6) hblk⟩,⟨NE h1,vC.new,lK.new⟩⟩⟩
 ·exact ⟨hb,.inr h⟩
section
variable {aD aaj:List (List UInt8)} {N N' K:Nat} {pu vN:Nat->Ou} {left left':Nat->List (List UInt8)} {sent sent':Nat->Nat} {H H':Nat->Prop} {st st':Sd} {r:Rc}
theorem jF.ext (h:jF aD N pu left sent r) (hN:N<=N') (hp:∀k,k<N->vN k=pu k) (ho:CV left' sent' r.next r.op r.sm):jF aaj N' vN left' sent' r:=
 {nx:=gG h.nx hN,m:=fun k p hm=>(by obtain ⟨a,b,d,e⟩:=h.m k p hm;exact ⟨a,by omega,d,by rw[hp k b];exact e⟩),op:=ho,s1:=h.s1,s2:=gG h.s2 hN,sc:=h.sc,h1:=h.h1,h2:=gG h.h2 hN,tr:=h.tr,nc:=h.nc,tn:=h.tn}
theorem jF.fresh (h:jF aD N pu left sent r) (hp:∀k,k<N->vN k=pu k) (hl:∀i,i<=N->left' i=left i/\sent' i=sent i):jF aD (N+1) vN left' sent' r:=by
 obtain ⟨e1,e2⟩:=hl r.next h.nx
 refine h.ext (vQ _) hp ?_;unfold CV;rw[e1,e2];exact h.op
theorem jF.iY (D:Dir aD N pu left sent) (h:jF aD N pu left sent r) (x:List UInt8):jF (aD++ [x]) N pu (fun i=>left i++ [x]) sent r:=by
 refine h.ext (aL) (fun _ _=>rfl) ?_;have:=h.op;unfold CV at this ⊢;rw[FF x (D.ok r.next h.nx).z];exact this
theorem VF (D:Dir aD N pu left sent) {i:Nat} (hi:i<=N) (x:List UInt8):rW (aD++ [x]) (fun j=>left j++ [x]) i=rW aD left i:=by
 have:=D.Yx hi;unfold rW;simp only[l8,jh,gQ];rw[show aD.length+(0+1)-((left i).length+(0+1))=aD.length-(left i).length by omega,List.take_append_of_le_length (by omega)]
def KX (N:Nat) (pu:Nat->Ou) (b:List UInt8):Prop:=∃k a,k<N/\qx b= .inr a/\Piece (pu k) a
def KY (N:Nat) (pu:Nat->Ou) (H:Nat->Prop) (b:List UInt8):Prop:=∃aA l,b=qB aA l/\Rep N pu H aA l
theorem KX.mono {b:List UInt8} (h:KX N pu b) (hN:N<=N') (hp:∀k,k<N->vN k=pu k):KX N' vN b:=by
 obtain ⟨k,a,h1,h2,h3⟩:=h;exact ⟨k,a,by omega,h2,by rw[hp k h1];exact h3⟩
theorem KY.mono {b:List UInt8} (h:KY N pu H b) (hN:N<=N') (hp:∀k,k<N->vN k=pu k) (hH:∀k,H k->H' k):KY N' vN H' b:=by
 obtain ⟨aA,l,h1,h2⟩:=h;exact ⟨aA,l,h1,h2.mono hN hp hH⟩
theorem agQ {x:Ou} (h:zS x) (po:Bool) {fr till:Nat} (h1:fr<till) (h2:till<=au x):
 qx (qO x.sn po true (decide (till=au x)) fr (bQ x.ps x.s 0 fr x.ps.length) (dN x.ps x.e 0 till x.ps.length) (aO x.ps 0 fr till x.ps.length))= .inr (Fz x po fr till)/\Piece x (Fz x po fr till):=by
 have ht:till<=aj x.ps:=h2;have hs:=h.ps.sum;have so:=zW x.ps 0 fr till (eH _) (by omega);have vo:=sK x.ps 0 fr till h.ps (eH _) h1 (by omega);have hsn:=h.sn;have v2:iZ (x.sn:Nat) true (decide (till=aj x.ps)) (fr:Nat) (aO x.ps 0 fr till x.ps.length)=true:=
  (qo _ _ _ _ _).2 ⟨by omega,by omega,(nI _).2 vo,fun _=>by rw[so];omega,fun h=>by cases h⟩
 exact ⟨MO _ _ _ _ _ _ _ _ v2,R6 x po (fun p hp=>h.ps.pos p hp) h1 ht⟩
theorem KZ {x:Ou} (h:zS x) (po:Bool):qx (qO x.sn po false false 0 x.s x.e x.ps)= .inr ⟨x.sn,po,false,false,0,x.s,x.e,x.ps⟩/\Piece x ⟨x.sn,po,false,false,0,x.s,x.e,x.ps⟩:=by
 refine ⟨MO _ _ _ _ _ _ _ _ (pM h),rfl,?_,by show 0+aj _<=_;rw[jA];exact aL,?_,fun j z hz=>by show (BS _)[0+j]? =_;rw[jA];exact hz⟩
 ·exact Fh (fun e=>by have:=h.ps.lo;rw[show x.ps= [] from e] at this;simp at this) h.ps.pos
 ·constructor
  ·intro _;show 0+aj _=_
   rw[jA];rfl
  ·intro _;rfl
theorem SF (c:Cf) (n:Int) (h:qU aD N pu left sent H st) {i:Nat} {x:Ou} (hx:st.out[i]? =some x) (ho:zS x) {p:Pu} (hp:(dK c n st i x).2=some p):KX N pu (D7 (some p)):=by
 have hs:=h.out i x hx;have hil:=(pN.1 hx).1;have hfo:=h.fo;unfold dK at hp;cases hl:x.pend with
 |nil=>rw[hl] at hp;cases hp
 |cons q rest=>
  obtain ⟨fr,e0⟩:=q;rw[hl] at hp;have hpr:=ho.pr (fr,e0) (by rw[hl];simp);dsimp only at hp hpr;split at hp
  ·cases hp;obtain ⟨d1,d2⟩:=KZ ho (aG c (cB st i x []) false).2;exact ⟨st.first+i,_,by omega,d1,d2.same hs⟩
  ·split at hp
   ·cases hp
   ·rename_i hne;cases hp;have hb:=pz (eX x fr n) (e0+1-fr) fr;generalize qj (eX x fr n) (e0+1-fr) fr=J at*;generalize (aG c (cB st i x (if J=e0+1 then rest else (J,e0)::rest)) false).2=po;obtain ⟨d1,d2⟩:=agQ ho po (fr:=fr) (till:=J) (by omega) (by omega);exact ⟨st.first+i,_,by omega,d1,d2.same hs⟩
theorem qU.ko (D:Dir aD N pu left sent) (h:qU aD N pu left sent H st) (hN:N<511) (c:Cf) (hb:fu c st K) (now n:Int) (ed:now<=9223372036854775807):
 ∃N' vN left' sent',N<=N'/\N'<=N+1/\(∀k,k<N->vN k=pu k)/\(∀i,i<=N->left' i=left i/\sent' i=sent i)/\Dir aD N' vN left' sent'/\qU aD N' vN left' sent' H (aZ c st now n).1/\
  (∀p,(aZ c st now n).2.1=some p->KX N' vN (D7 (some p))):=by
 have same:∀s2,jV H st s2->∃N' vN left' sent',N<=N'/\N'<=N+1/\(∀k,k<N->vN k=pu k)/\(∀i,i<=N->left' i=left i/\sent' i=sent i)/\Dir aD N' vN left' sent'/\qU aD N' vN left' sent' H s2/\
  (∀p,(none:Option Pu)=some p->KX N' vN (D7 (some p))):=fun s2 hs=>⟨N,pu,left,sent,aL,vQ _,fun _ _=>rfl,fun _ _=>⟨rfl,rfl⟩,D,h.QY hs,fun p e=>by cases e⟩
 unfold aZ;split
 ·exact same _ (jV.refl _)
 split
 ·exact same _ (jV.refl _)
 have ht:jV H st (aB c st now):=jV.tick c st now;have hb1:lK (aB c st now) (K+3):=(hb.bnd.tick c ed).mono (by omega);have hi1:=hb.inv.tick c now;unfold kF;split
 ·exact same _ ht
 have h1:=h.QY ht;dsimp only;generalize aB c st now=s1 at*;cases hp:gZ s1.out with
 |some i=>
  obtain ⟨x,hx,_⟩:=fH hp;simp only[hx];refine ⟨N,pu,left,sent,aL,vQ _,fun _ _=>rfl,fun _ _=>⟨rfl,rfl⟩,D,h1.QY (jV.again c n hx),fun p e=> ?_⟩;exact SF c n h1 hx (hb1.ou x (iT hx)) e
 |none=>
  dsimp only;by_cases hw:512<=s1.out.length
  ·have e:bU c n s1=(s1,none):=by unfold bU;rw[bD hw]
   rw[e];exact same _ ht
  by_cases hne:(aJ n s1).ps= []
  ·have e:bU c n s1=(s1,none):=by unfold bU;rw[aP hw,bD hne]
   rw[e];exact same _ ht
  have e:bU c n s1=((aG c (cK s1 (aJ n s1)) (dF c (cK s1 (aJ n s1)))).1,some (aJ n s1,(aG c (cK s1 (aJ n s1)) (dF c (cK s1 (aJ n s1)))).2)):=by unfold bU;rw[aP hw,aP hne]
  rw[e];clear e;dsimp only;obtain ⟨vN,left',sent',f1,f2,f3,f4,f5⟩:=h1.fresh D hN n hne;have hok:=chunk_ok hb1 hi1.toInvV n hne;refine ⟨N+1,vN,left',sent',vQ _,aL,f1,f2,f3,f4.QY (jV.finish c _ _),fun p e=> ?_⟩;cases e;obtain ⟨d1,d2⟩:=KZ hok (aG c (cK s1 (aJ n s1)) (dF c (cK s1 (aJ n s1)))).2;exact ⟨N,_,by omega,d1,d2.same f5⟩
theorem jF.flags {r2:Rc} (h:jF aD N pu left sent r) (e1:r2.m=r.m) (e2:r2.next=r.next) (e3:r2.status=r.status) (e4:r2.high=r.high) (e5:r2.ro=r.ro) (e6:r2.gW=r.gW) (e7:r2.op=r.op) (e8:r2.sm=r.sm):jF aD N pu left sent r2:=
 {nx:=by rw[e2];exact h.nx,m:=by rw[e1,e2,e4];exact h.m,op:=by rw[e2,e7,e8];exact h.op,s1:=by rw[e2,e3];exact h.s1,s2:=by rw[e3];exact h.s2,sc:=by rw[e1,e3];exact h.sc,h1:=by rw[e2,e4];exact h.h1,h2:=by rw[e4];exact h.h2,tr:=by rw[e5,e6,e4];exact h.tr,nc:=by rw[e1,e2];exact h.nc,tn:=by rw[e5,e6,e2];exact h.tn}
theorem Ee (l:List Nk) (hl:l.Pairwise H7) (N:Nat):∀(q:Nat) (y:Int × Nat),q<=l.length->(∀n∈l,n.sn<y.1->n∈l.take y.2)->(∀n∈l,n.sn<(tu l N q y).1->n∈l.take (tu l N q y).2)/\((tu l N q y).1=y.1\/∃n∈l,(tu l N q y).1=n.sn)
 |0,y,_,h=>⟨h,.inl rfl⟩
 |q+1,y,hq,h=>by
  rw[tu];split
  ·exact ⟨h,.inl rfl⟩
  split
  ·exact Ee l hl N q y (by omega) h
  ·have hsn:xM l q=l[q].sn:=by unfold xM;rw[gX (by omega)];rfl
   obtain ⟨a,b⟩:=Ee l hl N q (xM l q,q) (by omega) (fun n hn hlt=>by
    dsimp only at hlt ⊢;obtain ⟨j,hj,rfl⟩:=List.mem_iff_getElem.1 hn;have hjq:j<q:=by
     rcases kD j q with e|e
     ·exact e
     ·exfalso;rcases Nat.eq_or_lt_of_le e with e|e
      ·subst e;rw[hsn] at hlt;omega
      ·have:=(List.pairwise_iff_getElem.1 hl) q j (by omega) hj e;rw[hsn] at hlt;rcases this with e1|e1<;>omega
    exact List.mem_iff_getElem.2 ⟨j,by rw[kz];omega,by rw[List.getElem_take]⟩)
   refine ⟨a,?_⟩;rcases b with b|b
   ·exact .inr ⟨l[q],xR _,by rw[b,hsn]⟩
   ·exact .inr b
theorem jF.grants (D:Dir aD N pu left sent) (h:jF aD N pu left sent r) (c:Cf) (now n:Int):
 jF aD N pu left sent (dG c r now n).1/\(dG c r now n).1.next=r.next/\(dG c r now n).1.m=r.m/\((dG c r now n).2.1≠ []->KY N pu (Has r) (dG c r now n).2.1):=by
 obtain ⟨g1,g2,g3⟩:=h.goes D.T c now;unfold dG;split
 ·exact ⟨h,rfl,rfl,fun e=>absurd rfl e⟩
 split
 ·exact ⟨g1,g2,g3,fun e=>absurd rfl e⟩
 refine ⟨g1.flags rfl rfl rfl rfl rfl rfl rfl rfl,g2,g3,fun hne=> ?_⟩;obtain ⟨a1,a2,a3⟩:=jF.report D.T g1;have hH:∀k,Has (aM c r now) k->Has r k:=fun k hk=>by unfold Has at hk ⊢;rwa [g2,g3] at hk
 have hs2:=g1.s2;dsimp only at hne ⊢;generalize iR (aM c r now)=R at*;obtain ⟨aA,l⟩:=R;unfold FY at hne ⊢;dsimp only at a1 a2 a3 hne ⊢;by_cases hv:bO (aA:Int) l=true
 ·rw[bD hv] at hne ⊢;obtain ⟨b1,b2⟩:=Ee l a3.pw n.toNat l.length ((aA:Int),l.length) (aL) (fun n hn _=>by dsimp only;rw[List.take_length];exact hn);have hfs:DK (aA:Int) l n.toNat=tu l n.toNat l.length ((aA:Int),l.length):=rfl;rw[<-hfs] at b1 b2;generalize DK (aA:Int) l n.toNat=y at*;obtain ⟨a,q⟩:=y;dsimp only at b1 b2 hne ⊢;have ha:0<=a/\a<=aA:=by
   rcases b2 with e|⟨n,hn,e⟩
   ·omega
   ·have h1:=(a3.ok n hn).s0;have h2:=(a3.ok n hn).s1;omega
  obtain ⟨a,rfl⟩:=GZ ha.1;unfold encR at hne ⊢;dsimp only at hne ⊢;by_cases hv2:bO (a:Int) (l.take q)=true
  ·rw[bD hv2];refine ⟨a,l.take q,by rw[Es],by omega,hv2,fun k hk=> ?_⟩;rcases a3.cov k (by omega) with e|⟨n,hn,e1,e2⟩
   ·exact .inl (hH k e)
   ·exact .inr ⟨n,b1 n hn (by rw[e1];omega),e1,e2⟩
  ·rw[aP hv2] at hne;exact absurd rfl hne
 ·rw[aP hv] at hne ⊢;have hv0:bO (0:Int) []=true:=by decide
  unfold encR;dsimp only;rw[bD hv0];exact ⟨0,[],rfl,by omega,hv0,fun k hk=>by omega⟩
end
def aF (c:Cf) (s:Sd) (r:Rc) (now n:Int):Sd × Rc × List UInt8 × Int:=
 if s.failed=true then (s,r,[],8)
 else if n<0 then (s,r,[],2)
 else if (eY c s now).2≠0 then ((eY c s now).1,r,[],(eY c s now).2)
 else if uV (aM c r now) now=true/\2<=n then ((eY c s now).1,(dG c (aM c r now) now n).1,(dG c (aM c r now) now n).2.1,((dG c (aM c r now) now n).2.2:Nat))
 else ((aZ c (eY c s now).1 now n).1,aM c r now,D7 (aZ c (eY c s now).1 now n).2.1,(aZ c (eY c s now).1 now n).2.2)
end Go.Proofs.YtbhiklnljiehiaaGreat
