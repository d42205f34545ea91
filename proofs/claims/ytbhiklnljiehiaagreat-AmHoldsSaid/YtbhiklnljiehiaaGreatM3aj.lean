/- Plain mathematics: what a transmitter's. -/
import Derived.Test.YtbhiklnljiehiaaGreatM3ac
import Derived.Test.YtbhiklnljiehiaaGreatM3ah
namespace Go.Proofs.YtbhiklnljiehiaaGreat
open Tryz
def l9 (n:Int):Nat->List (List UInt8)->Nat->Nat->Nat->Nat->Bool->List (List UInt8) × Bool × List (List UInt8) × Nat
 |0,aD,sent,_,_,_,e=>([],e,aD,sent)
 |_+1,[],sent,_,_,_,e=>([],e,[],sent)
 |f+1,x::rest,sent,cnt,jB,size,e=>
  if cnt=64\/(0<cnt/\2047<jB) then ([],e,x::rest,sent)
  else if min (n-iV ((cnt:Int)+1)) 32767-(size:Int)<1 then ([],e,x::rest,sent)
  else if sent+(min (n-iV ((cnt:Int)+1)) 32767-(size:Int)).toNat<x.length then
   ([(x.drop sent).take (min (n-iV ((cnt:Int)+1)) 32767-(size:Int)).toNat],false,x::rest,sent+(min (n-iV ((cnt:Int)+1)) 32767-(size:Int)).toNat)
  else (x.drop sent::(l9 n f rest 0 (cnt+1) (x.length-sent) (size+(x.length-sent)) true).1,(l9 n f rest 0 (cnt+1) (x.length-sent) (size+(x.length-sent)) true).2)
def og (op:List UInt8) (sm:Bool):List (List UInt8)->Bool->List (List UInt8) × List UInt8 × Bool
 | [],_=>([],op,sm)
 | [p],e=>if e then ([op++p],[],false) else ([],op++p,true)
 |p::q::r,e=>((op++p)::(og [] false (q::r) e).1,(og [] false (q::r) e).2)
structure ZU (aD:List (List UInt8)) (sent:Nat) (e:Bool) (R:List (List UInt8) × Bool × List (List UInt8) × Nat):Prop where
 none_:R.1= []->R=([],e,aD,sent)
 some_:R.1≠ []->∃g,aD=g++R.2.2.1/\og ((aD.headD []).take sent) (decide (0<sent)) R.1 R.2.1=(g,(R.2.2.1.headD []).take R.2.2.2,decide (0<R.2.2.2))
 lt_:∀x r,R.2.2.1=x::r->R.2.2.2<x.length
 z_:R.2.2.1= []->R.2.2.2=0
theorem uj {aD:List (List UInt8)} {sent:Nat} {e:Bool} (h1:∀x r,aD=x::r->sent<x.length) (h2:aD= []->sent=0):ZU aD sent e ([],e,aD,sent):=
 ⟨fun _=>rfl,fun h=>absurd rfl h,h1,h2⟩
theorem J8 (n:Int):∀(f:Nat) (aD:List (List UInt8)) (sent cnt jB size:Nat) (e:Bool),(∀s∈aD,1<=s.length)->(∀x r,aD=x::r->sent<x.length)->(aD= []->sent=0)->
 ZU aD sent e (l9 n f aD sent cnt jB size e)
 |0,aD,sent,cnt,jB,size,e,_,h1,h2=>by rw[l9];exact uj h1 h2
 |f+1,[],sent,cnt,jB,size,e,_,h1,h2=>by rw[l9];exact uj h1 h2
 |f+1,x::rest,sent,cnt,jB,size,e,hp,h1,h2=>by
  have hs:=h1 x rest rfl;rw[l9];split
  ·exact uj h1 h2
  split
  ·exact uj h1 h2
  rename_i hroom;have hr1:1<=(min (n-iV ((cnt:Int)+1)) 32767-(size:Int)).toNat:=by omega
  generalize (min (n-iV ((cnt:Int)+1)) 32767-(size:Int)).toNat=room at*;split
  ·rename_i hlt;refine ⟨(fun h=>by cases h),(fun _=>⟨[],rfl,?_⟩),(fun y r hy=> ?_),(fun h=>by cases h)⟩
   ·have e1:x.take sent++(x.drop sent).take room=x.take (sent+room):=by rw[List.take_add]
    simp only[og,mq,l7,List.headD_cons,e1];rw[show decide (0<sent+room)=true by simp;omega]
   ·simp only[List.cons.injEq] at hy;obtain ⟨rfl,_⟩:=hy;exact hlt
  ·have ih:=J8 n f rest 0 (cnt+1) (x.length-sent) (size+(x.length-sent)) true (fun s hs=>hp s (by simp[hs])) (fun y r hy=>by have:=hp y (by simp[hy]);omega) (fun _=>rfl);generalize l9 n f rest 0 (cnt+1) (x.length-sent) (size+(x.length-sent)) true=R at*;refine ⟨(fun h=>by cases h),(fun _=> ?_),ih.lt_,ih.z_⟩;obtain ⟨q,e',s',t'⟩:=R;cases q with
   |nil=>
    have hR:=ih.none_ rfl;cases hR;exact ⟨[x],rfl,by simp[og]⟩
   |cons a b=>
    obtain ⟨g,hg1,hg2⟩:=ih.some_ (by simp);refine ⟨x::g,by rw[qJ,<-hg1],?_⟩;simp only[og,List.headD_cons];rw[List.take_append_drop];simp only[nu,Nat.lt_irrefl,decide_false] at hg2;rw[hg2]
structure Ma (cnt size:Nat) (q:List (List UInt8)):Prop where
 num:cnt<=64->cnt+q.length<=64
 pos:∀p∈q,1<=p.length
 short:∀i,i+1<q.length->(q[i]?.getD []).length<=2047
 sum:size<=32767->size+aj q<=32767
theorem o8 (cnt size:Nat):Ma cnt size []:=⟨fun h=>by simpa using h,by simp,fun i hi=>by simp at hi,fun h=>by simpa[aj] using h⟩
theorem Uf (n:Int) (f:Nat) (aD:List (List UInt8)) (sent cnt jB size:Nat) (e:Bool) (hc:0<cnt) (hl:2047<jB):(l9 n f aD sent cnt jB size e).1= []:=by
 cases f with
 |zero=>rfl
 |succ f=>
  cases aD with
  |nil=>rfl
  |cons x r=>rw[l9,bD (.inr ⟨hc,hl⟩)]
theorem IW (n:Int):∀(f:Nat) (aD:List (List UInt8)) (sent cnt jB size:Nat) (e:Bool),(∀s∈aD,1<=s.length)->(∀x r,aD=x::r->sent<x.length)->
 Ma cnt size (l9 n f aD sent cnt jB size e).1
 |0,aD,sent,cnt,jB,size,e,_,_=>by rw[l9];exact o8 _ _
 |f+1,[],sent,cnt,jB,size,e,_,_=>by rw[l9];exact o8 _ _
 |f+1,x::rest,sent,cnt,jB,size,e,hp,h1=>by
  have hs:=h1 x rest rfl;rw[l9];split
  ·exact o8 _ _
  rename_i hc;split
  ·exact o8 _ _
  rename_i hroom;have hr1:1<=(min (n-iV ((cnt:Int)+1)) 32767-(size:Int)).toNat:=by omega
  have hr2:size+(min (n-iV ((cnt:Int)+1)) 32767-(size:Int)).toNat<=32767:=by omega
  generalize (min (n-iV ((cnt:Int)+1)) 32767-(size:Int)).toNat=room at*;split
  ·rename_i hlt;have hl:((x.drop sent).take room).length=room:=by rw[kz,kC];omega
   refine ⟨fun h=>by simp;omega,fun p hm=> ?_,fun i hi=>by simp at hi,fun h=> ?_⟩
   ·simp only[nC] at hm;rw[hm,hl];exact hr1
   ·simp only[aj,vw,xS,zK,List.sum_nil,hl];omega
  ·rename_i hge;have ih:=IW n f rest 0 (cnt+1) (x.length-sent) (size+(x.length-sent)) true (fun s hs=>hp s (by simp[hs])) (fun y r hy=>by have:=hp y (by simp[hy]);omega);have hlong:=Uf n f rest 0 (cnt+1) (x.length-sent) (size+(x.length-sent)) true (by omega);generalize (l9 n f rest 0 (cnt+1) (x.length-sent) (size+(x.length-sent)) true).1=q at*;have hl:(x.drop sent).length=x.length-sent:=kC;refine ⟨fun h=> ?_,fun p hm=> ?_,fun i hi=> ?_,fun h=> ?_⟩
   ·have:=ih.num (by omega);simp;omega
   ·simp only[nE] at hm;rcases hm with rfl|hm
    ·omega
    ·exact ih.pos p hm
   ·cases i with
    |zero=>
     simp only[oH,Cy];rw[hl];rcases kD 2047 (x.length-sent) with hg|hg
     ·rw[hlong hg] at hi;simp at hi
     ·exact hg
    |succ i=>
     have:=ih.short i (by simp at hi;omega);simpa using this
   ·have:=ih.sum (by omega);simp only[aj,vw,zK,hl] at this ⊢;omega
theorem BH (n:Int) (f:Nat) (aD:List (List UInt8)) (sent:Nat) (e:Bool) (hp:∀s∈aD,1<=s.length) (h1:∀x r,aD=x::r->sent<x.length) (hne:(l9 n f aD sent 0 0 0 e).1≠ []):qh (l9 n f aD sent 0 0 0 e).1:=by
 have h:=IW n f aD sent 0 0 0 e hp h1;have hpos:1<=(l9 n f aD sent 0 0 0 e).1.length:=Iz.2 hne;exact ⟨hpos,by have:=h.num (by omega);omega,h.pos,h.short,by have:=h.sum (by omega);omega⟩
structure Ou where
 sn:Nat
 s:Bool
 e:Bool
 ps:List (List UInt8)
 bJ:Bool
 pend:List (Nat × Nat)
 fF:Nat
def au (x:Ou):Nat:=aj x.ps
structure Cf where
 Oh:Int
 byte:Int
 timer:Int
 reorder:Int
 cu:Int
 fF:Int
 cap:Int
structure Sd where
 queue:List (List UInt8)
 done:Nat
 front:Nat
 taken:Nat
 first:Nat
 out:List Ou
 fG:Nat
 bytes:Nat
 polled:Nat
 wait:Bool
 bu:Int
 dI:Bool
 failed:Bool
 now:Int
def dO:Sd:=⟨[],0,0,0,0,[],0,0,0,false,0,false,false,0⟩
def aH (st:Sd):Nat:=aj st.queue
def dM (st:Sd):Nat:=(st.first+st.out.length)%1024
def uk (x:Ou):Bool:= !x.pend.isEmpty
def gZ (l:List Ou):Option Nat:=l.findIdx? uk
def dH (st:Sd):Bool:=(gZ st.out).isNone&&(decide (st.taken=aH st)||decide (512<=st.out.length))
def fO (c:Cf) (x:Ou) (l:List (Nat × Nat)):Ou × Bool:=
 if x.pend= [] then ({x with pend:=l,fF:=x.fF+1},decide (c.fF<((x.fF+1:Nat):Int))) else ({x with pend:=l},false)
def cO (st:Sd) (now:Int):Sd:= {st with now:=if st.now<now then now else st.now}
def iW (st:Sd) (i:Nat) (R:Ou × Bool):Sd:= {st with out:=st.out.set i R.1,failed:=st.failed||R.2}
def aX (c:Cf) (st:Sd):Sd:=
 if dH st=false then st
 else match st.out.findIdx? (fun x=> !x.bJ) with
  |none=>st
  |some i=>match st.out[i]? with
   |none=>st
   |some x=>iW st i (fO c x [(0,au x-1)])
def gH (c:Cf) (st:Sd):Sd:=
 if st.wait=false\/st.now<st.bu then st else aX c {st with wait:=false,dI:=true}
def aB (c:Cf) (st:Sd) (now:Int):Sd:=gH c (cO st now)
def aI:List (List UInt8)->Nat->List (List UInt8) × Nat
 | [],k=>([],k)
 |x::r,k=>if x.length<=k then aI r (k-x.length) else (x::r,k)
def zR (st:Sd) (c:Cf):Sd:= {st with fG:=0,bytes:=0,dI:=false,polled:=(dM st+1023)%1024,wait:=true,bu:=IntKind.i64.wrap (st.now+c.timer)}
def aG (c:Cf) (st:Sd) (polls:Bool):Sd × Bool:=
 if (polls||st.dI||dH st)=true then (zR st c,true) else (st,false)
def cK (st:Sd) (x:Ou):Sd:= {st with out:=st.out++ [x],taken:=st.taken+au x,fG:=st.fG+1,bytes:=st.bytes+au x}
def dF (c:Cf) (st:Sd):Bool:=(decide (0<c.Oh)&&decide (c.Oh<=(st.fG:Int)))||(decide (0<c.byte)&&decide (c.byte<=(st.bytes:Int)))
def aJ (n:Int) (st:Sd):Ou:=
 let q:=aI st.queue st.taken
 let R:=l9 n (q.1.length+1) q.1 q.2 0 0 0 false
 ⟨dM st,decide (q.2=0),R.2.1,R.1,false,[],0⟩
def bU (c:Cf) (n:Int) (st:Sd):Sd × Option (Ou × Bool):=
 if 512<=st.out.length then (st,none)
 else if (aJ n st).ps= [] then (st,none)
 else
  let s1:=cK st (aJ n st)
  let R:=aG c s1 (dF c s1)
  (R.1,some (aJ n st,R.2))
def aV:List Ou->Nat × Nat × List Ou
 | []=>(0,0,[])
 |x::r=>if x.bJ=true then let R:=aV r;(R.1+1,R.2.1+au x,R.2.2) else (0,0,x::r)
def iy:List (List UInt8)->Nat->Nat × Nat × Nat × List (List UInt8)
 | [],f=>(0,0,f,[])
 |x::r,f=>if x.length<=f then let R:=iy r (f-x.length);(R.1+1,R.2.1+x.length,R.2.2.1,R.2.2.2) else (0,0,f,x::r)
def ig (st:Sd):Sd:=
 let A:=aV st.out
 let Q:=iy st.queue (st.front+A.2.1)
 {st with out:=A.2.2,first:=(st.first+A.1)%1024,front:=Q.2.2.1,taken:=st.taken-Q.2.1,queue:=Q.2.2.2,done:=st.done+Q.1}
def bT (c:Cf) (miss:Ou->List (Nat × Nat)) (x:Ou):Ou × Bool:=
 if x.bJ=true then (x,false)
 else if miss x= [] then ({x with bJ:=true,pend:= []},false)
 else fO c x (miss x)
def qi (st:Sd) (sn:Nat):Nat:=(sn+1024-st.first)%1024
def aT (c:Cf) (miss:Ou->List (Nat × Nat)) (n:Nat) (l:List Ou):List Ou × Bool:=
 ((l.take n).map (fun x=>(bT c miss x).1)++l.drop n,(l.take n).any (fun x=>(bT c miss x).2))
def oU (c:Cf) (miss:Ou->List (Nat × Nat)) (n:Nat) (st:Sd):Sd:=
 let R:=aT c miss n st.out
 let s1:= {st with out:=R.1,failed:=st.failed||R.2,wait:=st.wait&&decide (n<=qi st st.polled)}
 let s2:=ig s1
 if s2.dI=true then aX c s2 else s2
def dQ (st:Sd) (x:List UInt8):Sd:= {st with queue:=st.queue++ [x]}
def sizes (l:List Ou):Nat:=(l.map au).sum
theorem iL (x:Ou) (r:List Ou):sizes (x::r)=au x+sizes r:=by simp[sizes]
theorem pP (a b:List Ou):sizes (a++b)=sizes a+sizes b:=by simp[sizes]
theorem iX (x:List UInt8) (r:List (List UInt8)):aj (x::r)=x.length+aj r:=by simp[aj]
theorem sD (a b:List (List UInt8)):aj (a++b)=aj a+aj b:=by simp[aj]
structure InvV (st:Sd):Prop where
 tk:st.taken=st.front+sizes st.out
 le:st.taken<=aH st
 pos:∀x∈st.queue,1<=x.length
 mG:∀x∈st.out,1<=au x
 ak:∀x∈st.out,x.bJ=true->x.pend= []
 pr:∀x∈st.out,∀r∈x.pend,r.1<=r.2
 w:st.out.length<=512
 f:st.first<1024
 pl:st.taken=aH st->st.out≠ []->st.polled=(st.first+st.out.length+1023)%1024
structure vC (st:Sd):Prop extends InvV st where
 fr:∀x r,st.queue=x::r->st.front<x.length
 hd:∀x r,st.out=x::r->x.bJ=false
def Mb (st:Sd):Prop:=st.taken=aH st->st.wait=false->
 (∀(i:Nat) (x:Ou),st.out[i]? =some x->x.bJ=false->x.pend= []->∃(j:Nat) (y:Ou),i<j/\st.out[j]? =some y/\y.pend≠ [])\/(st.dI=true/\∃x∈st.out,x.pend≠ [])
structure bY (st:Sd):Prop extends vC st where
 ti:Mb st
theorem vZ {l:List Ou}:gZ l=none↔∀x∈l,x.pend= []:=by
 unfold gZ;rw[List.findIdx?_eq_none_iff];simp[uk]
theorem fH {l:List Ou} {i:Nat} (h:gZ l=some i):∃x,l[i]? =some x/\x.pend≠ []/\∀j y,j<i->l[j]? =some y->y.pend= []:=by
 unfold gZ at h;obtain ⟨hi,h1,h2⟩:=List.findIdx?_eq_some_iff_getElem.1 h;refine ⟨l[i],gX hi,by simpa[uk] using h1,fun j y hj hy=> ?_⟩;have:=h2 j hj;obtain ⟨hl,rfl⟩:=pN.1 hy;simpa[uk] using this
theorem kL {st:Sd}:dH st=true↔(∀x∈st.out,x.pend= [])/\(st.taken=aH st\/512<=st.out.length):=by
 unfold dH;rw[gD,Option.isNone_iff_eq_none,vZ];simp
theorem vC.new:bY dO where
 tk:=rfl
 le:=by simp[dO,aH,aj]
 pos:=by simp[dO]
 mG:=by simp[dO]
 ak:=by simp[dO]
 pr:=by simp[dO]
 w:=by simp[dO]
 f:=by simp[dO]
 pl:=fun _ h=>absurd rfl h
 fr:=by simp[dO]
 hd:=by simp[dO]
 ti:=fun _ _=> .inl (by simp[dO])
theorem qZ {l:List Ou} {i:Nat} {z x:Ou} (h:x∈l.set i z):x=z\/x∈l:=by
 rcases List.mem_or_eq_of_mem_set h with h|h
 ·exact .inr h
 ·exact .inl h
theorem Rz {l:List Ou} {i:Nat} {x z:Ou} (hx:l[i]? =some x) (hz:au z=au x):sizes (l.set i z)=sizes l:=by
 induction l generalizing i with
 |nil=>simp at hx
 |cons a r ih=>
  cases i with
  |zero=>
   simp at hx;subst hx;simp only[kX,iL,hz]
  |succ i=>simp only[kK,iL,ih (by simpa using hx)]
theorem vC.QA {st:Sd} (h:vC st) {i:Nat} {x z:Ou} (hx:st.out[i]? =some x) (hps:z.ps=x.ps) (ha:z.bJ=x.bJ) (hn:x.bJ=true->z.pend= []) (hp:∀r∈z.pend,r.1<=r.2) (b:Bool):
 vC {st with out:=st.out.set i z,failed:=b}:=by
 have hxm:x∈st.out:=iT hx;have hsz:au z=au x:=by unfold au;rw[hps]
 refine {tk:= ?_,le:=h.le,pos:=h.pos,mG:=fun y hy=> ?_,ak:=fun y hy hya=> ?_,pr:=fun y hy=> ?_,w:=by simpa using h.w,f:=h.f,pl:=fun h1 h2=> ?_,fr:=h.fr,hd:=fun y r hy=> ?_}
 ·show st.taken=st.front+sizes (st.out.set i z)
  rw[Rz hx hsz];exact h.tk
 ·rcases qZ hy with rfl|hy
  ·rw[hsz];exact h.mG x hxm
  ·exact h.mG y hy
 ·rcases qZ hy with rfl|hy
  ·exact hn (ha ▸ hya)
  ·exact h.ak y hy hya
 ·rcases qZ hy with rfl|hy
  ·exact hp
  ·exact h.pr y hy
 ·show st.polled=(st.first+(st.out.set i z).length+1023)%1024
  rw[Dr];refine h.pl h1 (fun e=> ?_);rw[e] at hx;simp at hx
 ·have hy':st.out.set i z=y::r:=hy;cases hl:st.out with
  |nil=>rw[hl] at hy';simp at hy'
  |cons a t=>
   have ha0:=h.hd a t hl;rw[hl] at hy' hx;cases i with
   |zero=>
    simp at hx hy';rw[<-hy'.1,ha,<-hx];exact ha0
   |succ i=>
    simp at hy';rw[<-hy'.1];exact ha0
theorem vC.clock {st:Sd} (h:vC st) (now:Int):vC (cO st now):= {tk:=h.tk,le:=h.le,pos:=h.pos,mG:=h.mG,ak:=h.ak,pr:=h.pr,w:=h.w,f:=h.f,pl:=h.pl,fr:=h.fr,hd:=h.hd}
theorem Mb.clock {st:Sd} (h:Mb st) (now:Int):Mb (cO st now):=h
theorem bY.clock {st:Sd} (h:bY st) (now:Int):bY (cO st now):= {h.tovC.clock now with ti:=h.ti.clock now}
theorem mH (c:Cf) (x:Ou) (l:List (Nat × Nat)):(fO c x l).1.ps=x.ps/\(fO c x l).1.bJ=x.bJ/\(fO c x l).1.pend=l/\(fO c x l).1.sn=x.sn/\(fO c x l).1.s=x.s/\(fO c x l).1.e=x.e:=by
 unfold fO;split<;>exact ⟨rfl,rfl,rfl,rfl,rfl,rfl⟩
theorem vC.nS {st:Sd} (c:Cf) (h:vC st) (ho:st.dI=true):bY (aX c st):=by
 unfold aX;by_cases hi:dH st=false
 ·rw[bD hi];refine {h with ti:=fun h1 _=> ?_};have hn:¬((∀x∈st.out,x.pend= [])/\(st.taken=aH st\/512<=st.out.length)):=fun e=>by rw[kL.2 e] at hi;cases hi
  refine .inr ⟨ho,?_⟩;refine G7 fun hc=>hn ⟨fun x hx=> ?_,.inl h1⟩
  exact G7 fun hp=>hc ⟨x,hx,hp⟩
 ·rw[aP hi];cases hl:st.out with
  |nil=>
   simp only[List.findIdx?_nil];exact {h with ti:=fun _ _=> .inl (by rw[hl];simp)}
  |cons x r=>
   have hx:=h.hd x r hl;have hf:(x::r).findIdx? (fun x=> !x.bJ)=some 0:=by rw[List.findIdx?_cons];simp[hx]
   rw[hf];simp only[oH];obtain ⟨p1,p2,p3,_⟩:=mH c x [(0,au x-1)];have hw:=h.QA (i:=0) (x:=x) (z:=(fO c x [(0,au x-1)]).1) (by rw[hl];rfl) p1 p2 (fun e=>by rw[hx] at e;cases e) (fun q hq=>by rw[p3] at hq;simp at hq;rw[hq];exact eH _) (st.failed||(fO c x [(0,au x-1)]).2);refine {hw with ti:=fun _ _=> .inr ⟨ho,(fO c x [(0,au x-1)]).1,?_,by rw[p3];simp⟩};show _∈st.out.set 0 _
   rw[hl];simp
theorem bY.XH {st:Sd} (c:Cf) (h:bY st):bY (gH c st):=by
 unfold gH;split
 ·exact h
 ·refine vC.nS c ?_ rfl;exact {tk:=h.tk,le:=h.le,pos:=h.pos,mG:=h.mG,ak:=h.ak,pr:=h.pr,w:=h.w,f:=h.f,pl:=h.pl,fr:=h.fr,hd:=h.hd}
theorem bY.tick {st:Sd} (c:Cf) (h:bY st) (now:Int):bY (aB c st now):=(h.clock now).XH c
theorem bY.iY {st:Sd} (h:bY st) {x:List UInt8} (hx:1<=x.length):bY (dQ st x):=by
 have hh:aH (dQ st x)=aH st+x.length:=by simp only[aH,dQ,sD,iX];simp[aj]
 have hle:=h.le;have hne:(dQ st x).taken=aH (dQ st x)->False:=fun e=>by
  rw[hh] at e;have:(dQ st x).taken=st.taken:=rfl;omega
 refine {tk:=h.tk,le:= ?_,pos:=fun y hy=> ?_,mG:=h.mG,ak:=h.ak,pr:=h.pr,w:=h.w,f:=h.f,pl:=fun e=>(hne e).elim,fr:=fun y r hy=> ?_,hd:=h.hd,ti:=fun e=>(hne e).elim}
 ·rw[hh];show st.taken<=_
  omega
 ·simp only[dQ,iH,nC] at hy;rcases hy with hy|rfl
  ·exact h.pos y hy
  ·exact hx
 ·show st.front<y.length
  cases hq:st.queue with
  |nil=>
   have hz:aH st=0:=by simp[aH,hq,aj]
   have:=h.tk;have e:st.queue++ [x]=y::r:=hy;rw[hq] at e;simp at e;rw[<-e.1];omega
  |cons a t=>
   have e:st.queue++ [x]=y::r:=hy;rw[hq] at e;simp at e;rw[<-e.1];exact h.fr a t hq
theorem vC.finish {st:Sd} (c:Cf) (h:InvV st) (hfr:∀x r,st.queue=x::r->st.front<x.length) (hhd:∀x r,st.out=x::r->x.bJ=false) (b:Bool)
 (hpl:(b||st.dI||dH st)=false->st.taken=aH st->st.out≠ []->st.polled=(st.first+st.out.length+1023)%1024) (hti:(b||st.dI||dH st)=false->Mb st):bY (aG c st b).1:=by
 unfold aG;by_cases hc:(b||st.dI||dH st)=true
 ·rw[bD hc];refine {tk:=h.tk,le:=h.le,pos:=h.pos,mG:=h.mG,ak:=h.ak,pr:=h.pr,w:=h.w,f:=h.f,pl:=fun _ h2=> ?_,fr:=hfr,hd:=hhd,ti:=fun _ e=>by cases e};show (dM st+1023)%1024=(st.first+st.out.length+1023)%1024
  unfold dM;omega
 ·rw[aP hc];exact {h with pl:=hpl (by simpa using hc),fr:=hfr,hd:=hhd,ti:=hti (by simpa using hc)}
theorem bY.again {st:Sd} (c:Cf) (h:bY st) {i:Nat} {x:Ou} (hp:gZ st.out=some i) (hx:st.out[i]? =some x) {l:List (Nat × Nat)} (hl:∀r∈l,r.1<=r.2):
 bY (aG c {st with out:=st.out.set i {x with pend:=l}} false).1:=by
 obtain ⟨x',hx',hxp,hbe⟩:=fH hp;rw[hx] at hx';cases hx';have hil:i<st.out.length:=(pN.1 hx).1;have hxa:x.bJ=false:=by
  cases ha:x.bJ with
  |false=>rfl
  |true=>exact absurd (h.ak x (iT hx) ha) hxp
 have hw:=h.tovC.QA hx (z:= {x with pend:=l}) rfl rfl (fun e=>by rw[hxa] at e;cases e) hl st.failed;refine vC.finish c hw.toInvV hw.fr hw.hd false (fun _=>hw.pl) (fun hno=> ?_);simp only[uP,Bool.or_eq_false_iff] at hno;obtain ⟨aj7,ae5⟩:=hno;intro h1 h2;have hidle:¬((∀y∈st.out.set i {x with pend:=l},y.pend= [])/\(st.taken=aH st\/512<=(st.out.set i {x with pend:=l}).length)):=fun e=>by rw[kL.2 e] at ae5;cases ae5
 have hex:∃y∈st.out.set i {x with pend:=l},y.pend≠ []:=G7 fun hc=>hidle ⟨fun y hy=>G7 fun hp=>hc ⟨y,hy,hp⟩,.inl h1⟩
 obtain ⟨y,hym,hyp⟩:=hex;obtain ⟨k,hk⟩:=El.1 hym;have hki:i<=k:=by
  rcases kD k i with hlt|hge
  ·rw[LU (by omega)] at hk;exact absurd (hbe k y hlt hk) hyp
  ·exact hge
 rcases h.ti h1 h2 with ht|⟨ho,_⟩
 ·refine .inl fun j z hz hza hzp=> ?_
  have hz':(st.out.set i {x with pend:=l})[j]? =some z:=hz;by_cases hji:j=i
  ·subst hji;rw[Iy hil] at hz';cases hz';have hkne:k≠j:=fun e=>by
    subst e;rw[Iy hil] at hk;cases hk;exact hyp hzp
   exact ⟨k,y,by omega,hk,hyp⟩
  ·rw[LU (by omega)] at hz';obtain ⟨q,v,hq,hv,hvp⟩:=ht j z hz' hza hzp;by_cases hqi:q=i
   ·subst hqi;exact ⟨k,y,by omega,hk,hyp⟩
   ·exact ⟨q,v,hq,by show (st.out.set i _)[q]? =some v;rw[LU (by omega)];exact hv,hvp⟩
 ·have:st.dI=false:=aj7;rw[this] at ho;cases ho
theorem CG:∀(ps:List (List UInt8)) (op:List UInt8) (sm e:Bool),ps≠ []->op.length+aj ps=aj (og op sm ps e).1+(og op sm ps e).2.1.length
 | [],_,_,_,h=>absurd rfl h
 | [p],op,sm,e,_=>by cases e<;>simp[og,aj]
 |p::q::r,op,sm,e,_=>by
  have ih:=CG (q::r) [] false e (by simp);simp only[og,iX,l8] at ih ⊢;simp only[gQ] at ih;omega
theorem sF:∀(q:List (List UInt8)) (k:Nat),k<=aj q->(∃d,q=d++(aI q k).1/\aj d+(aI q k).2=k)/\((aI q k).1= []->(aI q k).2=0)/\∀x r,(aI q k).1=x::r->(aI q k).2<x.length
 | [],k,h=>by
  have:k=0:=by simpa[aj] using h
  subst this;exact ⟨⟨[],rfl,rfl⟩,fun _=>rfl,by simp[aI]⟩
 |x::r,k,h=>by
  rw[iX] at h;unfold aI;split
  ·rename_i hx;obtain ⟨⟨d,h1,h2⟩,h3,h4⟩:=sF r (k-x.length) (by omega);refine ⟨⟨x::d,?_,?_⟩,h3,h4⟩
   ·rw[qJ,<-h1]
   ·rw[iX];omega
  ·refine ⟨⟨[],rfl,by simp[aj]⟩,by simp,fun y t e=> ?_⟩;simp at e;rw[<-e.1];omega
theorem xh {st:Sd} (h:InvV st) (n:Int) (hne:(aJ n st).ps≠ []):1<=au (aJ n st)/\st.taken+au (aJ n st)<=aH st:=by
 obtain ⟨⟨d,h1,h2⟩,h3,h4⟩:=sF st.queue st.taken h.le;have hne':(l9 n ((aI st.queue st.taken).1.length+1) (aI st.queue st.taken).1 (aI st.queue st.taken).2 0 0 0 false).1≠ []:=hne;have hpos:∀s∈(aI st.queue st.taken).1,1<=s.length:=fun s hs=>h.pos s (by rw[h1];simp[hs])
 have hk:=J8 n ((aI st.queue st.taken).1.length+1) (aI st.queue st.taken).1 (aI st.queue st.taken).2 0 0 0 false hpos h4 h3;have hv:=BH n ((aI st.queue st.taken).1.length+1) (aI st.queue st.taken).1 (aI st.queue st.taken).2 false hpos h4 hne';have hs:au (aJ n st)=aj (l9 n ((aI st.queue st.taken).1.length+1) (aI st.queue st.taken).1 (aI st.queue st.taken).2 0 0 0 false).1:=rfl;rw[hs];have hh:aH st=aj d+aj (aI st.queue st.taken).1:=by
  unfold aH
  conv=>lhs;rw[h1]
  rw[sD]
 generalize aI st.queue st.taken=Q at*;generalize l9 n (Q.1.length+1) Q.1 Q.2 0 0 0 false=R at*;obtain ⟨g,hg1,hg2⟩:=hk.some_ hne';have hj:=CG R.1 ((Q.1.headD []).take Q.2) (decide (0<Q.2)) R.2.1 hne';rw[hg2] at hj;dsimp only at hj;have e1:((Q.1.headD []).take Q.2).length=Q.2:=by
  cases hq:Q.1 with
  |nil=>rw[h3 hq];simp
  |cons x r=>have:=h4 x r hq;simp;omega
 have e2:((R.2.2.1.headD []).take R.2.2.2).length=R.2.2.2/\R.2.2.2<=aj R.2.2.1:=by
  cases hq:R.2.2.1 with
  |nil=>rw[hk.z_ hq];simp
  |cons x r=>have:=hk.lt_ x r hq;rw[iX];simp;omega
 rw[e1,e2.1] at hj;have e3:aj Q.1=aj g+aj R.2.2.1:=by rw[hg1,sD]
 have e4:1<=aj R.1:=by
  obtain ⟨p,hp⟩:=List.exists_mem_of_ne_nil _ hne';have:=jw hp;have:=hv.pos p hp;omega
 exact ⟨e4,by have:=e2.2;omega⟩
theorem InvV.add {st:Sd} (h:InvV st) {x:Ou} (h1:1<=au x) (h2:st.taken+au x<=aH st) (hp:x.pend= []) (hl:st.out.length<512) (hpl:(cK st x).taken≠aH (cK st x)):InvV (cK st x) where
 tk:=by
  show st.taken+au x=st.front+sizes (st.out++ [x])
  rw[pP,h.tk];simp[sizes];omega
 le:=h2
 pos:=h.pos
 mG:=fun y hy=>by
  simp only[cK,iH,nC] at hy;rcases hy with hy|rfl
  ·exact h.mG y hy
  ·exact h1
 ak:=fun y hy hya=>by
  simp only[cK,iH,nC] at hy;rcases hy with hy|rfl
  ·exact h.ak y hy hya
  ·exact hp
 pr:=fun y hy r hr=>by
  simp only[cK,iH,nC] at hy;rcases hy with hy|rfl
  ·exact h.pr y hy r hr
  ·rw[hp] at hr;cases hr
 w:=by simp only[cK,l8,Ep];omega
 f:=h.f
 pl:=fun e=>absurd e hpl
theorem bY.fresh {st:Sd} (c:Cf) (n:Int) (h:bY st) (hp:gZ st.out=none):bY (bU c n st).1:=by
 unfold bU;split
 ·exact h
 ·rename_i hl;split
  ·exact h
  ·rename_i hne;obtain ⟨h1,h2⟩:=xh h.toInvV n hne;generalize hx:aJ n st=x at*;have hxp:x.pend= []:=by rw[<-hx];rfl
   have hxa:x.bJ=false:=by rw[<-hx];rfl
   dsimp only;have hhd:∀y r,(cK st x).out=y::r->y.bJ=false:=fun y r e=>by
    have e':st.out++ [x]=y::r:=e;cases ho:st.out with
    |nil=>rw[ho] at e';simp at e';rw[<-e'.1];exact hxa
    |cons a t=>rw[ho] at e';simp at e';rw[<-e'.1];exact h.hd a t ho
   by_cases ht:(cK st x).taken=aH (cK st x)
   ·have hid:dH (cK st x)=true:=kL.2 ⟨fun y hy=>by
     simp only[cK,iH,nC] at hy;rcases hy with hy|rfl
     ·exact vZ.1 hp y hy
     ·exact hxp,.inl ht⟩
    have ae6:(dF c (cK st x)||(cK st x).dI||dH (cK st x))=true:=by rw[hid];simp
    unfold aG;rw[bD ae6];have hb:InvV (zR (cK st x) c):= {
     tk:=by
      show st.taken+au x=st.front+sizes (st.out++ [x])
      rw[pP,h.tk];simp[sizes];omega
     le:=h2
     pos:=h.pos
     mG:=fun y hy=>by
      simp only[zR,cK,iH,nC] at hy;rcases hy with hy|rfl
      ·exact h.mG y hy
      ·exact h1
     ak:=fun y hy hya=>by
      simp only[zR,cK,iH,nC] at hy;rcases hy with hy|rfl
      ·exact h.ak y hy hya
      ·exact hxp
     pr:=fun y hy r hr=>by
      simp only[zR,cK,iH,nC] at hy;rcases hy with hy|rfl
      ·exact h.pr y hy r hr
      ·rw[hxp] at hr;cases hr
     w:=by simp only[zR,cK,l8,Ep];omega
     f:=h.f
     pl:=fun _ _=>by
      show (dM (cK st x)+1023)%1024=((cK st x).first+(cK st x).out.length+1023)%1024
      unfold dM;omega}
    exact {hb with fr:=h.fr,hd:=hhd,ti:=fun _ e=>by cases e}
   ·exact vC.finish c (h.toInvV.add h1 h2 hxp (by omega) ht) h.fr hhd _ (fun _ e=>absurd e ht) (fun _ e=>absurd e ht)
theorem jJ:∀l:List Ou,(∃d:List Ou,l=d++(aV l).2.2/\d.length=(aV l).1/\sizes d=(aV l).2.1/\∀x∈d,x.bJ=true)/\∀x r,(aV l).2.2=x::r->x.bJ=false
 | []=>⟨⟨[],rfl,rfl,rfl,by simp⟩,by simp[aV]⟩
 |x::r=>by
  unfold aV;split
  ·rename_i hx;obtain ⟨⟨d,h1,h2,h3,h4⟩,h5⟩:=jJ r;refine ⟨⟨x::d,?_,by simp[h2],by rw[iL,h3,Nat.add_comm],fun y hy=> ?_⟩,h5⟩
   ·rw[qJ,<-h1]
   ·rcases nE.1 hy with rfl|hy
    ·exact hx
    ·exact h4 y hy
  ·rename_i hx;exact ⟨⟨[],rfl,rfl,rfl,by simp⟩,fun y t e=>by simp at e;rw[<-e.1];simpa using hx⟩
theorem sG:∀(q:List (List UInt8)) (f:Nat),(∃d:List (List UInt8),q=d++(iy q f).2.2.2/\d.length=(iy q f).1/\aj d=(iy q f).2.1/\aj d+(iy q f).2.2.1=f)/\∀x r,(iy q f).2.2.2=x::r->(iy q f).2.2.1<x.length
 | [],f=>⟨⟨[],rfl,rfl,rfl,by simp[aj,iy]⟩,by simp[iy]⟩
 |x::r,f=>by
  unfold iy;split
  ·rename_i hx;obtain ⟨⟨d,h1,h2,h3,h4⟩,h5⟩:=sG r (f-x.length);refine ⟨⟨x::d,?_,by simp[h2],by rw[iX,h3,Nat.add_comm],by rw[iX];dsimp only;omega⟩,h5⟩;rw[qJ,<-h1]
  ·exact ⟨⟨[],rfl,rfl,rfl,by simp[aj]⟩,fun y t e=>by simp at e;dsimp only;rw[<-e.1];omega⟩
theorem InvV.adv {st:Sd} (h:InvV st):vC (ig st)/\(∃d,st.out=d++(ig st).out/\∀x∈d,x.bJ=true)/\((ig st).taken=aH (ig st)->st.taken=aH st):=by
 obtain ⟨⟨d,h1,h2,h3,h4⟩,h5⟩:=jJ st.out;obtain ⟨⟨q,g1,g2,g3,g4⟩,g5⟩:=sG st.queue (st.front+(aV st.out).2.1);have e1:(ig st).out=(aV st.out).2.2:=rfl;have e2:(ig st).queue=(iy st.queue (st.front+(aV st.out).2.1)).2.2.2:=rfl;have e3:(ig st).taken=st.taken-(iy st.queue (st.front+(aV st.out).2.1)).2.1:=rfl;have e4:(ig st).front=(iy st.queue (st.front+(aV st.out).2.1)).2.2.1:=rfl;have e5:(ig st).first=(st.first+(aV st.out).1)%1024:=rfl
 have e6:(ig st).polled=st.polled:=rfl;have hsz:sizes st.out=(aV st.out).2.1+sizes (aV st.out).2.2:=by
  conv=>lhs;rw[h1]
  rw[pP,h3]
 have QB:aH st=(iy st.queue (st.front+(aV st.out).2.1)).2.1+aH (ig st):=by
  unfold aH;rw[e2]
  conv=>lhs;rw[g1]
  rw[sD,g3]
 have hle:=h.le;have htk:=h.tk;have hmem:∀x,x∈(ig st).out->x∈st.out:=fun x hx=>by rw[h1,<-e1];simp[hx]
 have hlen:st.out.length=(aV st.out).1+(ig st).out.length:=by
  conv=>lhs;rw[h1]
  rw[l8,h2,e1]
 rw[<-e1] at h5 h1 hsz;rw[<-e2] at g5;rw[<-e4] at g5;generalize aV st.out=A at*;generalize iy st.queue (st.front+A.2.1)=Q at*;have hinv:vC (ig st):= {
  tk:=by rw[e3,e4];omega
  le:=by rw[e3];omega
  pos:=fun x hx=>h.pos x (by rw[g1,<-e2];simp[hx])
  mG:=fun x hx=>h.mG x (hmem x hx)
  ak:=fun x hx=>h.ak x (hmem x hx)
  pr:=fun x hx=>h.pr x (hmem x hx)
  w:=by have:=h.w;omega
  f:=by rw[e5];omega
  pl:=fun t1 t2=>by
   have hne:st.out≠ []:=fun e=>by
    rw[e] at h1;exact t2 (List.append_eq_nil_iff.1 h1.symm).2
   have:=h.pl (by rw[e3] at t1;omega) hne;rw[e5,e6,this];omega
  fr:=g5
  hd:=h5}
 exact ⟨hinv,⟨d,h1,h4⟩,fun e=>by rw[e3] at e;omega⟩
theorem ul (c:Cf) (m:Ou->List (Nat × Nat)) (x:Ou):(bT c m x).1.ps=x.ps:=by
 unfold bT;split
 ·rfl
 ·split
  ·rfl
  ·exact (mH c x _).1
theorem EK (c:Cf) (m:Ou->List (Nat × Nat)) (x:Ou) (hx:x.bJ=true->x.pend= []):((bT c m x).1.bJ=true->(bT c m x).1.pend= [])/\((bT c m x).1.bJ=false->(bT c m x).1.pend≠ []):=by
 unfold bT;by_cases h1:x.bJ=true
 ·rw[bD h1];exact ⟨hx,fun e=>by rw[h1] at e;cases e⟩
 ·rw[aP h1];by_cases h2:m x= []
  ·rw[bD h2];exact ⟨fun _=>rfl,fun e=>by cases e⟩
  ·rw[aP h2];obtain ⟨_,p2,p3,_⟩:=mH c x (m x);rw[p2,p3];exact ⟨fun e=>absurd e h1,fun _=>h2⟩
theorem OC (c:Cf) (m:Ou->List (Nat × Nat)) (x:Ou) (hx:∀r∈x.pend,r.1<=r.2) (hm:∀r∈m x,r.1<=r.2):∀r∈(bT c m x).1.pend,r.1<=r.2:=by
 unfold bT;by_cases h1:x.bJ=true
 ·rw[bD h1];exact hx
 ·rw[aP h1];by_cases h2:m x= []
  ·rw[bD h2];simp
  ·rw[aP h2,(mH c x (m x)).2.2.1];exact hm
section
variable (c:Cf) (m:Ou->List (Nat × Nat)) (n:Nat)
theorem jK (l:List Ou):(aT c m n l).1.length=l.length:=by simp[aT];omega
theorem jk (l:List Ou) (i:Nat):(aT c m n l).1[i]? =if i<n then l[i]?.map (fun x=>(bT c m x).1) else l[i]? :=by
 unfold aT;dsimp only;by_cases hi:i<n
 ·rw[bD hi];by_cases hl:i<l.length
  ·rw[mh (by simp;omega),oW,pW,bD hi]
  ·rw[kV (by simp;omega),kV (by omega)];rfl
 ·rw[aP hi];by_cases hl:i<l.length
  ·rw[oI (by simp;omega),vg];simp only[Ej,kz];rw[show n+(i-min n l.length)=i by omega]
  ·rw[kV (by simp;omega),kV (by omega)]
theorem lJ (l:List Ou) (y:Ou) (h:y∈(aT c m n l).1):∃x∈l,y=x\/y=(bT c m x).1:=by
 obtain ⟨i,hi⟩:=El.1 h;rw[jk] at hi;split at hi
 ·obtain ⟨x,hx,rfl⟩:=Option.map_eq_some_iff.1 hi;exact ⟨x,iT hx,.inr rfl⟩
 ·exact ⟨y,iT hi,.inl rfl⟩
theorem rP (l:List Ou):sizes (aT c m n l).1=sizes l:=by
 have key:∀a:List Ou,sizes (a.map (fun x=>(bT c m x).1))=sizes a:=by
  intro a
  induction a with
  |nil=>rfl
  |cons x r ih=>rw[vw,iL,iL,ih];unfold au;rw[ul]
 unfold aT;dsimp only;rw[pP,key,<-pP,List.take_append_drop]
end
theorem bY.stat {st:Sd} (c:Cf) (m:Ou->List (Nat × Nat)) (n:Nat) (h:bY st) (_hn:n<=st.out.length) (hm:∀x,∀r∈m x,r.1<=r.2):bY (oU c m n st):=by
 have hv:InvV {st with out:=(aT c m n st.out).1,failed:=st.failed||(aT c m n st.out).2,wait:=st.wait&&decide (n<=qi st st.polled)}:= {
  tk:=by
   show st.taken=st.front+sizes (aT c m n st.out).1
   rw[rP];exact h.tk
  le:=h.le
  pos:=h.pos
  mG:=fun y hy=>by
   obtain ⟨x,hx,rfl|rfl⟩:=lJ c m n _ y hy
   ·exact h.mG _ hx
   ·unfold au;rw[ul];exact h.mG x hx
  ak:=fun y hy=>by
   obtain ⟨x,hx,rfl|rfl⟩:=lJ c m n _ y hy
   ·exact h.ak _ hx
   ·exact (EK c m x (h.ak x hx)).1
  pr:=fun y hy=>by
   obtain ⟨x,hx,rfl|rfl⟩:=lJ c m n _ y hy
   ·exact h.pr _ hx
   ·exact OC c m x (h.pr x hx) (hm x)
  w:=by
   show (aT c m n st.out).1.length<=512
   rw[jK];exact h.w
  f:=h.f
  pl:=fun t1 t2=>by
   show st.polled=(st.first+(aT c m n st.out).1.length+1023)%1024
   rw[jK];refine h.pl t1 (fun e=>t2 ?_);show (aT c m n st.out).1= []
   rw[e];simp[aT]}
 obtain ⟨hw,⟨d,hd1,hd2⟩,ht⟩:=hv.adv;unfold oU;dsimp only;by_cases ho:st.dI=true
 ·have ho2:(ig {st with out:=(aT c m n st.out).1,failed:=st.failed||(aT c m n st.out).2,wait:=st.wait&&decide (n<=qi st st.polled)}).dI=true:=ho;rw[bD ho2];exact hw.nS c ho2
 ·have ho2:¬(ig {st with out:=(aT c m n st.out).1,failed:=st.failed||(aT c m n st.out).2,wait:=st.wait&&decide (n<=qi st st.polled)}).dI=true:=ho;rw[aP ho2];refine {hw with ti:=fun t1 t2=> .inl ?_};have htk:st.taken=aH st:=ht t1;have hwt:(st.wait&&decide (n<=qi st st.polled))=false:=t2;intro i x hx hxa hxp;have hix:(aT c m n st.out).1[d.length+i]? =some x:=by
   have e:(aT c m n st.out).1=_:=hd1;rw[e,oI (by omega),show d.length+i-d.length=i by omega];exact hx
  rw[jk] at hix;have hge:¬d.length+i<n:=fun hlt=>by
   rw[bD hlt] at hix;obtain ⟨y,hy,rfl⟩:=Option.map_eq_some_iff.1 hix;exact (EK c m y (h.ak y (iT hy))).2 hxa hxp
  rw[aP hge] at hix;have hil:d.length+i<st.out.length:=(pN.1 hix).1;have hwf:st.wait=false:=by
   cases hw':st.wait with
   |false=>rfl
   |true=>
    rw[hw'] at hwt;simp only[Du,decide_eq_false_iff_not] at hwt;have hpl:=h.pl htk (fun e=>by rw[e] at hil;simp at hil);have hf:=h.f;have hw5:=h.w;exfalso;apply hwt;unfold qi;rw[hpl];omega
  rcases h.ti htk hwf with hA|⟨hb,_⟩
  ·obtain ⟨j,y,hj,hy,hyp⟩:=hA _ x hix hxa hxp;refine ⟨j-d.length,y,by omega,?_,hyp⟩;have e:(aT c m n st.out).1[j]? =some y:=by rw[jk,aP (by omega)];exact hy
   have e2:(aT c m n st.out).1=_:=hd1;rw[e2,oI (by omega)] at e;exact e
  ·exact absurd hb ho
theorem bY.holds {st:Sd} (h:bY st) (hq:st.queue≠ []) (ht:st.taken=aH st) (hp:∀x∈st.out,x.pend= []):st.wait=true:=by
 cases hw:st.wait with
 |true=>rfl
 |false=>
  exfalso;rcases h.ti ht hw with hA|⟨_,x,hx,hxp⟩
  ·cases ho:st.out with
   |nil=>
    obtain ⟨a,r,hqa⟩:=List.exists_cons_of_ne_nil hq;have h1:=h.tk;have h2:=h.fr a r hqa;have h3:aH st=a.length+aj r:=by unfold aH;rw[hqa,iX]
    rw[ho] at h1;simp[sizes] at h1;omega
   |cons x r=>
    obtain ⟨j,y,_,hy,hyp⟩:=hA 0 x (by rw[ho];rfl) (h.hd x r ho) (hp x (by rw[ho];simp));exact hyp (hp y (iT hy))
  ·exact hxp (hp x hx)
structure Pu where
 sn:Nat
 poll:Bool
 seg:Bool
 last:Bool
 off:Nat
 s:Bool
 e:Bool
 ps:List (List UInt8)
def qj (f:Nat->Bool):Nat->Nat->Nat
 |0,k=>k
 |m+1,k=>if f (k+1)=true then qj f m (k+1) else k
theorem pz (f:Nat->Bool):∀m k,k<=qj f m k/\qj f m k<=k+m
 |0,k=>⟨aL,aL⟩
 |m+1,k=>by
  unfold qj;split
  ·have:=pz f m (k+1);omega
  ·omega
def eX (x:Ou) (fr:Nat) (n:Int) (k:Nat):Bool:=decide (iV ((aO x.ps 0 fr k x.ps.length).length:Int)+2+((k:Int)-(fr:Int))<=n)
def cB (st:Sd) (i:Nat) (x:Ou) (l:List (Nat × Nat)):Sd:= {st with out:=st.out.set i {x with pend:=l}}
def dK (c:Cf) (n:Int) (st:Sd) (i:Nat) (x:Ou):Sd × Option Pu:=
 match x.pend with
 | []=>(st,none)
 |(fr,e0)::rest=>
  if fr=0/\e0+1=au x/\iV (x.ps.length:Int)+(au x:Int)<=n then
   ((aG c (cB st i x []) false).1,some ⟨x.sn,(aG c (cB st i x []) false).2,false,false,0,x.s,x.e,x.ps⟩)
  else if qj (eX x fr n) (e0+1-fr) fr=fr then (st,none)
  else
   (
    (aG c (cB st i x (if qj (eX x fr n) (e0+1-fr) fr=e0+1 then rest else (qj (eX x fr n) (e0+1-fr) fr,e0)::rest)) false).1,
    some ⟨x.sn,(aG c (cB st i x (if qj (eX x fr n) (e0+1-fr) fr=e0+1 then rest else (qj (eX x fr n) (e0+1-fr) fr,e0)::rest)) false).2,true,decide (qj (eX x fr n) (e0+1-fr) fr=au x),fr,
     bQ x.ps x.s 0 fr x.ps.length,dN x.ps x.e 0 (qj (eX x fr n) (e0+1-fr) fr) x.ps.length,aO x.ps 0 fr (qj (eX x fr n) (e0+1-fr) fr) x.ps.length⟩)
def kF (c:Cf) (st:Sd) (now n:Int):Sd × Option Pu × Bool:=
 if (aB c st now).failed=true then (aB c st now,none,true)
 else match gZ (aB c st now).out with
  |some i=>match (aB c st now).out[i]? with
   |some x=>((dK c n (aB c st now) i x).1,(dK c n (aB c st now) i x).2,false)
   |none=>(aB c st now,none,false)
  |none=>match bU c n (aB c st now) with
   |(s2,none)=>(s2,none,false)
   |(s2,some (x,b))=>(s2,some ⟨x.sn,b,false,false,0,x.s,x.e,x.ps⟩,false)
theorem bY.dK {st:Sd} (c:Cf) (n:Int) (h:bY st) {i:Nat} {x:Ou} (hp:gZ st.out=some i) (hx:st.out[i]? =some x):bY (dK c n st i x).1:=by
 unfold Go.Proofs.YtbhiklnljiehiaaGreat.dK;have hpr:=h.pr x (iT hx);cases hl:x.pend with
 |nil=>exact h
 |cons r rest=>
  obtain ⟨fr,e0⟩:=r;rw[hl] at hpr;have hr:fr<=e0:=hpr (fr,e0) (by simp);have hb:=pz (eX x fr n) (e0+1-fr) fr;dsimp only;split
  ·exact h.again c hp hx (by simp)
  ·split
   ·exact h
   ·refine h.again c hp hx fun q hq=> ?_
    split at hq
    ·exact hpr q (by simp[hq])
    ·rcases nE.1 hq with rfl|hq
     ·dsimp only;omega
     ·exact hpr q (by simp[hq])
theorem bY.ko {st:Sd} (c:Cf) (h:bY st) (now n:Int):bY (kF c st now n).1:=by
 have h1:=h.tick c now;unfold kF;split
 ·exact h1
 ·cases hp:gZ (aB c st now).out with
  |some i=>
   obtain ⟨x,hx,_⟩:=fH hp;simp only[hx];exact h1.dK c n hp hx
  |none=>
   have h2:=h1.fresh c n hp;dsimp only;generalize bU c n (aB c st now)=R at*;obtain ⟨s2,_|⟨x,b⟩⟩:=R
   ·exact h2
   ·exact h2
structure Nk where
 sn:Int
 part:Bool
 fr:Int
 lt:Int
def kr (aA sn:Int):Int:=(aA-sn)%1024
def iq (aA:Int) (n:Nk):Bool:=
 (decide (0<=n.sn)&&decide (n.sn<1024))&&((decide (1<=kr aA n.sn)&&decide (kr aA n.sn<=512))&&
  (if n.part=true then decide (0<=n.fr)&&(decide (n.fr<=n.lt)&&decide (n.lt<=32767)) else decide (n.fr=0)&&decide (n.lt=0)))
def jL (aA:Int) (a b:Nk):Bool:=
 decide (kr aA b.sn<kr aA a.sn)||(decide (a.sn=b.sn)&&(a.part&&(b.part&&decide (a.lt<b.fr))))
def oM (aA:Int):List Nk->Bool
 | []=>true
 | [n]=>iq aA n
 |a::b::r=>iq aA a&&(jL aA a b&&oM aA (b::r))
def bO (aA:Int) (l:List Nk):Bool:=(decide (0<=aA)&&decide (aA<=1023))&&(decide (l.length<=512)&&oM aA l)
def gN (l:List (Nat × Nat)) (x:Nat × Nat):List (Nat × Nat):=
 match l.getLast? with
 |none=> [x]
 |some y=>if y.2+1=x.1 then l.dropLast++ [(y.1,x.2)] else l++ [x]
def bH (n:Nk):Nat × Nat:=if n.part=true then (n.fr.toNat,n.lt.toNat) else (0,32767)
def eO (size:Nat) (l:List (Nat × Nat)) (n:Nk):List (Nat × Nat):=
 if min (bH n).2 (size-1)<(bH n).1 then l else gN l ((bH n).1,min (bH n).2 (size-1))
def aQ (fI:List Nk) (x:Ou):List (Nat × Nat):=(fI.filter (fun n=>decide (n.sn=(x.sn:Int)))).foldl (eO (au x)) []
theorem RA {l:List (Nat × Nat)} {x:Nat × Nat} (h:∀r∈l,r.1<=r.2) (hx:x.1<=x.2):∀r∈gN l x,r.1<=r.2:=by
 unfold gN;cases hl:l.getLast? with
 |none=>simpa using hx
 |some y=>
  have hy:=h y (List.mem_of_getLast? hl);dsimp only;split
  ·rename_i e;intro r hr;rcases iH.1 hr with hr|hr
   ·exact h r (List.dropLast_subset l hr)
   ·simp at hr;rw[hr];dsimp only;omega
  ·intro r hr;rcases iH.1 hr with hr|hr
   ·exact h r hr
   ·simp at hr;rw[hr];exact hx
theorem Md (fI:List Nk) (x:Ou):∀r∈aQ fI x,r.1<=r.2:=by
 unfold aQ;generalize fI.filter (fun n=>decide (n.sn=(x.sn:Int)))=l;have key:∀(l:List Nk) (a:List (Nat × Nat)),(∀r∈a,r.1<=r.2)->∀r∈l.foldl (eO (au x)) a,r.1<=r.2:=by
  intro l
  induction l with
  |nil=>intro a ha;simpa using ha
  |cons n r ih=>
   intro a ha;rw[List.foldl_cons];refine ih _ ?_;unfold eO;split
   ·exact ha
   ·exact RA ha (by dsimp only;omega)
 exact key l [] (by simp)
def eP (st:Sd) (sn:Int):Int:=(sn-(st.first:Int))%1024
def kS (c:Cf) (st:Sd) (now aA:Int) (fI:List Nk):Sd × Int:=
 if bO aA fI=false then (st,2)
 else if (st.out.length:Int)<eP st aA\/fI.any (fun n=>decide (eP st aA<=eP st n.sn))=true then (cO st now,6)
 else
  let s2:=oU c (aQ fI) (eP st aA).toNat (cO st now)
  (s2,if s2.failed=true then 8 else 0)
theorem bY.status {st:Sd} (h:bY st) (c:Cf) (now aA:Int) (fI:List Nk):bY (kS c st now aA fI).1:=by
 unfold kS;split
 ·exact h
 ·split
  ·exact h.clock now
  ·rename_i hr;have hn:(eP st aA).toNat<=(cO st now).out.length:=by
    have e:(cO st now).out.length=st.out.length:=rfl;rw[e];have:=not_or.1 hr;omega
   exact (h.clock now).stat c (aQ fI) _ hn (Md fI)
end Go.Proofs.YtbhiklnljiehiaaGreat
