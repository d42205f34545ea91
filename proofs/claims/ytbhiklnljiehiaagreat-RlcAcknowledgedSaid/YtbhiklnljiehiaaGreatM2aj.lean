/- Plain mathematics: what a transmitter's. -/
import Derived.Test.YtbhiklnljiehiaaGreatM2ac
import Derived.Test.YtbhiklnljiehiaaGreatM2ah
namespace Go.Proofs.YtbhiklnljiehiaaGreat
section
def pI (n:Int):Nat→List (List UInt8)→Nat→Nat→Nat→Nat→Bool→List (List UInt8) × Bool × List (List UInt8) × Nat
 |0,aK,sent,_,_,_,e=>([],e,aK,sent)
 |_+1,[],sent,_,_,_,e=>([],e,[],sent)
 |f+1,x::rest,sent,cnt,kJ,size,e=>
  if cnt=64∨(0<cnt∧2047<kJ) then ([],e,x::rest,sent)
  else if min (n-iQ ((cnt:Int)+1)) 32767-(size:Int)<1 then ([],e,x::rest,sent)
  else if sent+(min (n-iQ ((cnt:Int)+1)) 32767-(size:Int)).toNat<x.length then
   ([(x.drop sent).take (min (n-iQ ((cnt:Int)+1)) 32767-(size:Int)).toNat],false,x::rest,sent+(min (n-iQ ((cnt:Int)+1)) 32767-(size:Int)).toNat)
  else (x.drop sent::(pI n f rest 0 (cnt+1) (x.length-sent) (size+(x.length-sent)) true).1,(pI n f rest 0 (cnt+1) (x.length-sent) (size+(x.length-sent)) true).2)
def pZ (op:List UInt8) (sm:Bool):List (List UInt8)→Bool→List (List UInt8) × List UInt8 × Bool
 | [],_=>([],op,sm)
 | [p],e=>if e then ([op++p],[],false) else ([],op++p,true)
 |p::q::r,e=>((op++p)::(pZ [] false (q::r) e).1,(pZ [] false (q::r) e).2)
structure Uy (aK:List (List UInt8)) (sent:Nat) (e:Bool) (R:List (List UInt8) × Bool × List (List UInt8) × Nat):Prop where
 none_:R.1= []→R=([],e,aK,sent)
 some_:R.1≠ []→∃g,aK=g++R.2.2.1∧pZ ((aK.headD []).take sent) (decide (0<sent)) R.1 R.2.1=(g,(R.2.2.1.headD []).take R.2.2.2,decide (0<R.2.2.2))
 lt_:∀x r,R.2.2.1=x::r→R.2.2.2<x.length
 z_:R.2.2.1= []→R.2.2.2=0
theorem nW {aK:List (List UInt8)} {sent:Nat} {e:Bool} (h1:∀x r,aK=x::r→sent<x.length) (h2:aK= []→sent=0):Uy aK sent e ([],e,aK,sent):=
 ⟨fun _=>rfl,fun h=>absurd rfl h,h1,h2⟩
theorem IU (n:Int):∀(f:Nat) (aK:List (List UInt8)) (sent cnt kJ size:Nat) (e:Bool),(∀s∈aK,1≤s.length)→(∀x r,aK=x::r→sent<x.length)→(aK= []→sent=0)→
 Uy aK sent e (pI n f aK sent cnt kJ size e)
 |0,aK,sent,cnt,kJ,size,e,_,h1,h2=>by rw[pI];exact nW h1 h2
 |f+1,[],sent,cnt,kJ,size,e,_,h1,h2=>by rw[pI];exact nW h1 h2
 |f+1,x::rest,sent,cnt,kJ,size,e,hp,h1,h2=>by
  have hs:=h1 x rest rfl;rw[pI];split
  ·exact nW h1 h2
  split
  ·exact nW h1 h2
  rename_i hroom;have hr1:1≤(min (n-iQ ((cnt:Int)+1)) 32767-(size:Int)).toNat:=by omega
  generalize (min (n-iQ ((cnt:Int)+1)) 32767-(size:Int)).toNat=room at*;split
  ·rename_i hlt;refine ⟨(fun h=>by cases h),(fun _=>⟨[],rfl,?_⟩),(fun y r hy=> ?_),(fun h=>by cases h)⟩
   ·have e1:x.take sent++(x.drop sent).take room=x.take (sent+room):=by rw[List.take_add]
    simp only[pZ,Bool.false_eq_true,if_false,List.headD_cons,e1];rw[show decide (0<sent+room)=true by simp;omega]
   ·simp only[List.cons.injEq] at hy;obtain ⟨rfl,_⟩:=hy;exact hlt
  ·have ih:=IU n f rest 0 (cnt+1) (x.length-sent) (size+(x.length-sent)) true (fun s hs=>hp s (by simp[hs])) (fun y r hy=>by have:=hp y (by simp[hy]);omega) (fun _=>rfl);generalize pI n f rest 0 (cnt+1) (x.length-sent) (size+(x.length-sent)) true=R at*;refine ⟨(fun h=>by cases h),(fun _=> ?_),ih.lt_,ih.z_⟩;obtain ⟨q,e',s',t'⟩:=R;cases q with
   |nil=>
    have hR:=ih.none_ rfl;cases hR;exact ⟨[x],rfl,by simp[pZ]⟩
   |cons a b=>
    obtain ⟨g,hg1,hg2⟩:=ih.some_ (by simp);refine ⟨x::g,by rw[List.cons_append,←hg1],?_⟩;simp only[pZ,List.headD_cons];rw[List.take_append_drop];simp only[List.take_zero,Nat.lt_irrefl,decide_false] at hg2;rw[hg2]
structure Fy (cnt size:Nat) (q:List (List UInt8)):Prop where
 num:cnt≤64→cnt+q.length≤64
 pos:∀p∈q,1≤p.length
 short:∀i,i+1<q.length→(q[i]?.getD []).length≤2047
 sum:size≤32767→size+aj q≤32767
theorem kU (cnt size:Nat):Fy cnt size []:=⟨fun h=>by simpa using h,by simp,fun i hi=>by simp at hi,fun h=>by simpa[aj] using h⟩
theorem Oi (n:Int) (f:Nat) (aK:List (List UInt8)) (sent cnt kJ size:Nat) (e:Bool) (hc:0<cnt) (hl:2047<kJ):(pI n f aK sent cnt kJ size e).1= []:=by
 cases f with
 |zero=>rfl
 |succ f=>
  cases aK with
  |nil=>rfl
  |cons x r=>rw[pI,if_pos (.inr ⟨hc,hl⟩)]
theorem Cn (n:Int):∀(f:Nat) (aK:List (List UInt8)) (sent cnt kJ size:Nat) (e:Bool),(∀s∈aK,1≤s.length)→(∀x r,aK=x::r→sent<x.length)→
 Fy cnt size (pI n f aK sent cnt kJ size e).1
 |0,aK,sent,cnt,kJ,size,e,_,_=>by rw[pI];exact kU _ _
 |f+1,[],sent,cnt,kJ,size,e,_,_=>by rw[pI];exact kU _ _
 |f+1,x::rest,sent,cnt,kJ,size,e,hp,h1=>by
  have hs:=h1 x rest rfl;rw[pI];split
  ·exact kU _ _
  rename_i hc;split
  ·exact kU _ _
  rename_i hroom;have hr1:1≤(min (n-iQ ((cnt:Int)+1)) 32767-(size:Int)).toNat:=by omega
  have hr2:size+(min (n-iQ ((cnt:Int)+1)) 32767-(size:Int)).toNat≤32767:=by omega
  generalize (min (n-iQ ((cnt:Int)+1)) 32767-(size:Int)).toNat=room at*;split
  ·rename_i hlt;have hl:((x.drop sent).take room).length=room:=by rw[List.length_take,List.length_drop];omega
   refine ⟨fun h=>by simp;omega,fun p hm=> ?_,fun i hi=>by simp at hi,fun h=> ?_⟩
   ·simp only[List.mem_singleton] at hm;rw[hm,hl];exact hr1
   ·simp only[aj,List.map_cons,List.map_nil,List.sum_cons,List.sum_nil,hl];omega
  ·rename_i hge;have ih:=Cn n f rest 0 (cnt+1) (x.length-sent) (size+(x.length-sent)) true (fun s hs=>hp s (by simp[hs])) (fun y r hy=>by have:=hp y (by simp[hy]);omega);have hlong:=Oi n f rest 0 (cnt+1) (x.length-sent) (size+(x.length-sent)) true (by omega);generalize (pI n f rest 0 (cnt+1) (x.length-sent) (size+(x.length-sent)) true).1=q at*;have hl:(x.drop sent).length=x.length-sent:=List.length_drop;refine ⟨fun h=> ?_,fun p hm=> ?_,fun i hi=> ?_,fun h=> ?_⟩
   ·have:=ih.num (by omega);simp;omega
   ·simp only[List.mem_cons] at hm;rcases hm with rfl|hm
    ·omega
    ·exact ih.pos p hm
   ·cases i with
    |zero=>
     simp only[List.getElem?_cons_zero,Option.getD_some];rw[hl];rcases Nat.lt_or_ge 2047 (x.length-sent) with hg|hg
     ·rw[hlong hg] at hi;simp at hi
     ·exact hg
    |succ i=>
     have:=ih.short i (by simp at hi;omega);simpa using this
   ·have:=ih.sum (by omega);simp only[aj,List.map_cons,List.sum_cons,hl] at this ⊢;omega
theorem Co (n:Int) (f:Nat) (aK:List (List UInt8)) (sent:Nat) (e:Bool) (hp:∀s∈aK,1≤s.length) (h1:∀x r,aK=x::r→sent<x.length) (hne:(pI n f aK sent 0 0 0 e).1≠ []):rV (pI n f aK sent 0 0 0 e).1:=by
 have h:=Cn n f aK sent 0 0 0 e hp h1;have hpos:1≤(pI n f aK sent 0 0 0 e).1.length:=List.length_pos_iff.2 hne;exact ⟨hpos,by have:=h.num (by omega);omega,h.pos,h.short,by have:=h.sum (by omega);omega⟩
end
section
structure Ou where
 sn:Nat
 s:Bool
 e:Bool
 ps:List (List UInt8)
 aX:Bool
 pend:List (Nat × Nat)
 dM:Nat
def aG (x:Ou):Nat:=aj x.ps
structure Cf where
 Ny:Int
 byte:Int
 timer:Int
 reorder:Int
 gP:Int
 dM:Int
 cap:Int
structure Sd where
 queue:List (List UInt8)
 done:Nat
 front:Nat
 taken:Nat
 first:Nat
 out:List Ou
 dN:Nat
 bytes:Nat
 polled:Nat
 wait:Bool
 fK:Int
 eB:Bool
 failed:Bool
 now:Int
def dY:Sd:=⟨[],0,0,0,0,[],0,0,0,false,0,false,false,0⟩
def aW (st:Sd):Nat:=aj st.queue
def bP (st:Sd):Nat:=(st.first+st.out.length)%1024
def nX (x:Ou):Bool:= !x.pend.isEmpty
def gJ (l:List Ou):Option Nat:=l.findIdx? nX
def jP (st:Sd):Bool:=(gJ st.out).isNone&&(decide (st.taken=aW st)||decide (512≤st.out.length))
def gQ (c:Cf) (x:Ou) (l:List (Nat × Nat)):Ou × Bool:=
 if x.pend= [] then ({x with pend:=l,dM:=x.dM+1},decide (c.dM<((x.dM+1:Nat):Int))) else ({x with pend:=l},false)
def cK (st:Sd) (now:Int):Sd:= {st with now:=if st.now<now then now else st.now}
def kM (st:Sd) (i:Nat) (R:Ou × Bool):Sd:= {st with out:=st.out.set i R.1,failed:=st.failed||R.2}
def bQ (c:Cf) (st:Sd):Sd:=
 if jP st=false then st
 else match st.out.findIdx? (fun x=> !x.aX) with
  |none=>st
  |some i=>match st.out[i]? with
   |none=>st
   |some x=>kM st i (gQ c x [(0,aG x-1)])
def gT (c:Cf) (st:Sd):Sd:=
 if st.wait=false∨st.now<st.fK then st else bQ c {st with wait:=false,eB:=true}
def fA (c:Cf) (st:Sd) (now:Int):Sd:=gT c (cK st now)
def aP:List (List UInt8)→Nat→List (List UInt8) × Nat
 | [],k=>([],k)
 |x::r,k=>if x.length≤k then aP r (k-x.length) else (x::r,k)
def tX (st:Sd) (c:Cf):Sd:= {st with dN:=0,bytes:=0,eB:=false,polled:=(bP st+1023)%1024,wait:=true,fK:=IntKind.i64.wrap (st.now+c.timer)}
def dh (c:Cf) (st:Sd) (polls:Bool):Sd × Bool:=
 if (polls||st.eB||jP st)=true then (tX st c,true) else (st,false)
def eU (st:Sd) (x:Ou):Sd:= {st with out:=st.out++ [x],taken:=st.taken+aG x,dN:=st.dN+1,bytes:=st.bytes+aG x}
def nk (c:Cf) (st:Sd):Bool:=(decide (0<c.Ny)&&decide (c.Ny≤(st.dN:Int)))||(decide (0<c.byte)&&decide (c.byte≤(st.bytes:Int)))
def dU (n:Int) (st:Sd):Ou:=
 let q:=aP st.queue st.taken
 let R:=pI n (q.1.length+1) q.1 q.2 0 0 0 false
 ⟨bP st,decide (q.2=0),R.2.1,R.1,false,[],0⟩
def jE (c:Cf) (n:Int) (st:Sd):Sd × Option (Ou × Bool):=
 if 512≤st.out.length then (st,none)
 else if (dU n st).ps= [] then (st,none)
 else
  let s1:=eU st (dU n st)
  let R:=dh c s1 (nk c s1)
  (R.1,some (dU n st,R.2))
def aQ:List Ou→Nat × Nat × List Ou
 | []=>(0,0,[])
 |x::r=>if x.aX=true then let R:=aQ r;(R.1+1,R.2.1+aG x,R.2.2) else (0,0,x::r)
def eG:List (List UInt8)→Nat→Nat × Nat × Nat × List (List UInt8)
 | [],f=>(0,0,f,[])
 |x::r,f=>if x.length≤f then let R:=eG r (f-x.length);(R.1+1,R.2.1+x.length,R.2.2.1,R.2.2.2) else (0,0,f,x::r)
def eD (st:Sd):Sd:=
 let A:=aQ st.out
 let Q:=eG st.queue (st.front+A.2.1)
 {st with out:=A.2.2,first:=(st.first+A.1)%1024,front:=Q.2.2.1,taken:=st.taken-Q.2.1,queue:=Q.2.2.2,done:=st.done+Q.1}
def bY (c:Cf) (miss:Ou→List (Nat × Nat)) (x:Ou):Ou × Bool:=
 if x.aX=true then (x,false)
 else if miss x= [] then ({x with aX:=true,pend:= []},false)
 else gQ c x (miss x)
def iA (st:Sd) (sn:Nat):Nat:=(sn+1024-st.first)%1024
def aM (c:Cf) (miss:Ou→List (Nat × Nat)) (n:Nat) (l:List Ou):List Ou × Bool:=
 ((l.take n).map (fun x=>(bY c miss x).1)++l.drop n,(l.take n).any (fun x=>(bY c miss x).2))
def iP (c:Cf) (miss:Ou→List (Nat × Nat)) (n:Nat) (st:Sd):Sd:=
 let R:=aM c miss n st.out
 let s1:= {st with out:=R.1,failed:=st.failed||R.2,wait:=st.wait&&decide (n≤iA st st.polled)}
 let s2:=eD s1
 if s2.eB=true then bQ c s2 else s2
def gK (st:Sd) (x:List UInt8):Sd:= {st with queue:=st.queue++ [x]}
end
section
def sizes (l:List Ou):Nat:=(l.map aG).sum
theorem fM (x:Ou) (r:List Ou):sizes (x::r)=aG x+sizes r:=by simp[sizes]
theorem kZ (a b:List Ou):sizes (a++b)=sizes a+sizes b:=by simp[sizes]
theorem iJ (x:List UInt8) (r:List (List UInt8)):aj (x::r)=x.length+aj r:=by simp[aj]
theorem kC (a b:List (List UInt8)):aj (a++b)=aj a+aj b:=by simp[aj]
structure InvV (st:Sd):Prop where
 tk:st.taken=st.front+sizes st.out
 le:st.taken≤aW st
 pos:∀x∈st.queue,1≤x.length
 mH:∀x∈st.out,1≤aG x
 ak:∀x∈st.out,x.aX=true→x.pend= []
 pr:∀x∈st.out,∀r∈x.pend,r.1≤r.2
 w:st.out.length≤512
 f:st.first<1024
 pl:st.taken=aW st→st.out≠ []→st.polled=(st.first+st.out.length+1023)%1024
structure o8 (st:Sd):Prop extends InvV st where
 fr:∀x r,st.queue=x::r→st.front<x.length
 hd:∀x r,st.out=x::r→x.aX=false
def Fz (st:Sd):Prop:=st.taken=aW st→st.wait=false→
 (∀(i:Nat) (x:Ou),st.out[i]? =some x→x.aX=false→x.pend= []→∃(j:Nat) (y:Ou),i<j∧st.out[j]? =some y∧y.pend≠ [])∨(st.eB=true∧∃x∈st.out,x.pend≠ [])
structure bS (st:Sd):Prop extends o8 st where
 ti:Fz st
theorem qb {l:List Ou}:gJ l=none↔∀x∈l,x.pend= []:=by
 unfold gJ;rw[List.findIdx?_eq_none_iff];simp[nX]
theorem iB {l:List Ou} {i:Nat} (h:gJ l=some i):∃x,l[i]? =some x∧x.pend≠ []∧∀j y,j<i→l[j]? =some y→y.pend= []:=by
 unfold gJ at h;obtain ⟨hi,h1,h2⟩:=List.findIdx?_eq_some_iff_getElem.1 h;refine ⟨l[i],List.getElem?_eq_getElem hi,by simpa[nX] using h1,fun j y hj hy=> ?_⟩;have:=h2 j hj;obtain ⟨hl,rfl⟩:=List.getElem?_eq_some_iff.1 hy;simpa[nX] using this
theorem yP {st:Sd}:jP st=true↔(∀x∈st.out,x.pend= [])∧(st.taken=aW st∨512≤st.out.length):=by
 unfold jP;rw[Bool.and_eq_true,Option.isNone_iff_eq_none,qb];simp
theorem o8.new:bS dY where
 tk:=rfl
 le:=by simp[dY,aW,aj]
 pos:=by simp[dY]
 mH:=by simp[dY]
 ak:=by simp[dY]
 pr:=by simp[dY]
 w:=by simp[dY]
 f:=by simp[dY]
 pl:=fun _ h=>absurd rfl h
 fr:=by simp[dY]
 hd:=by simp[dY]
 ti:=fun _ _=> .inl (by simp[dY])
theorem tY {l:List Ou} {i:Nat} {z x:Ou} (h:x∈l.set i z):x=z∨x∈l:=by
 rcases List.mem_or_eq_of_mem_set h with h|h
 ·exact .inr h
 ·exact .inl h
theorem LF {l:List Ou} {i:Nat} {x z:Ou} (hx:l[i]? =some x) (hz:aG z=aG x):sizes (l.set i z)=sizes l:=by
 induction l generalizing i with
 |nil=>simp at hx
 |cons a r ih=>
  cases i with
  |zero=>
   simp at hx;subst hx;simp only[List.set_cons_zero,fM,hz]
  |succ i=>simp only[List.set_cons_succ,fM,ih (by simpa using hx)]
theorem o8.KA {st:Sd} (h:o8 st) {i:Nat} {x z:Ou} (hx:st.out[i]? =some x) (hps:z.ps=x.ps) (ha:z.aX=x.aX) (hn:x.aX=true→z.pend= []) (hp:∀r∈z.pend,r.1≤r.2) (b:Bool):
 o8 {st with out:=st.out.set i z,failed:=b}:=by
 have hxm:x∈st.out:=List.mem_of_getElem? hx;have hsz:aG z=aG x:=by unfold aG;rw[hps]
 refine {tk:= ?_,le:=h.le,pos:=h.pos,mH:=fun y hy=> ?_,ak:=fun y hy hya=> ?_,pr:=fun y hy=> ?_,w:=by simpa using h.w,f:=h.f,pl:=fun h1 h2=> ?_,fr:=h.fr,hd:=fun y r hy=> ?_}
 ·show st.taken=st.front+sizes (st.out.set i z)
  rw[LF hx hsz];exact h.tk
 ·rcases tY hy with rfl|hy
  ·rw[hsz];exact h.mH x hxm
  ·exact h.mH y hy
 ·rcases tY hy with rfl|hy
  ·exact hn (ha ▸ hya)
  ·exact h.ak y hy hya
 ·rcases tY hy with rfl|hy
  ·exact hp
  ·exact h.pr y hy
 ·show st.polled=(st.first+(st.out.set i z).length+1023)%1024
  rw[List.length_set];refine h.pl h1 (fun e=> ?_);rw[e] at hx;simp at hx
 ·have hy':st.out.set i z=y::r:=hy;cases hl:st.out with
  |nil=>rw[hl] at hy';simp at hy'
  |cons a t=>
   have ha0:=h.hd a t hl;rw[hl] at hy' hx;cases i with
   |zero=>
    simp at hx hy';rw[←hy'.1,ha,←hx];exact ha0
   |succ i=>
    simp at hy';rw[←hy'.1];exact ha0
theorem o8.clock {st:Sd} (h:o8 st) (now:Int):o8 (cK st now):= {tk:=h.tk,le:=h.le,pos:=h.pos,mH:=h.mH,ak:=h.ak,pr:=h.pr,w:=h.w,f:=h.f,pl:=h.pl,fr:=h.fr,hd:=h.hd}
theorem Fz.clock {st:Sd} (h:Fz st) (now:Int):Fz (cK st now):=h
theorem bS.clock {st:Sd} (h:bS st) (now:Int):bS (cK st now):= {h.too8.clock now with ti:=h.ti.clock now}
theorem xQ (c:Cf) (x:Ou) (l:List (Nat × Nat)):(gQ c x l).1.ps=x.ps∧(gQ c x l).1.aX=x.aX∧(gQ c x l).1.pend=l∧(gQ c x l).1.sn=x.sn∧(gQ c x l).1.s=x.s∧(gQ c x l).1.e=x.e:=by
 unfold gQ;split<;>exact ⟨rfl,rfl,rfl,rfl,rfl,rfl⟩
theorem o8.nY {st:Sd} (c:Cf) (h:o8 st) (ho:st.eB=true):bS (bQ c st):=by
 unfold bQ;by_cases hi:jP st=false
 ·rw[if_pos hi];refine {h with ti:=fun h1 _=> ?_};have hn:¬((∀x∈st.out,x.pend= [])∧(st.taken=aW st∨512≤st.out.length)):=fun e=>by rw[yP.2 e] at hi;cases hi
  refine .inr ⟨ho,?_⟩;refine Classical.byContradiction fun hc=>hn ⟨fun x hx=> ?_,.inl h1⟩
  exact Classical.byContradiction fun hp=>hc ⟨x,hx,hp⟩
 ·rw[if_neg hi];cases hl:st.out with
  |nil=>
   simp only[List.findIdx?_nil];exact {h with ti:=fun _ _=> .inl (by rw[hl];simp)}
  |cons x r=>
   have hx:=h.hd x r hl;have hf:(x::r).findIdx? (fun x=> !x.aX)=some 0:=by rw[List.findIdx?_cons];simp[hx]
   rw[hf];simp only[List.getElem?_cons_zero];obtain ⟨p1,p2,p3,_⟩:=xQ c x [(0,aG x-1)];have hw:=h.KA (i:=0) (x:=x) (z:=(gQ c x [(0,aG x-1)]).1) (by rw[hl];rfl) p1 p2 (fun e=>by rw[hx] at e;cases e) (fun q hq=>by rw[p3] at hq;simp at hq;rw[hq];exact Nat.zero_le _) (st.failed||(gQ c x [(0,aG x-1)]).2);refine {hw with ti:=fun _ _=> .inr ⟨ho,(gQ c x [(0,aG x-1)]).1,?_,by rw[p3];simp⟩};show _∈st.out.set 0 _
   rw[hl];simp
theorem bS.RQ {st:Sd} (c:Cf) (h:bS st):bS (gT c st):=by
 unfold gT;split
 ·exact h
 ·refine o8.nY c ?_ rfl;exact {tk:=h.tk,le:=h.le,pos:=h.pos,mH:=h.mH,ak:=h.ak,pr:=h.pr,w:=h.w,f:=h.f,pl:=h.pl,fr:=h.fr,hd:=h.hd}
theorem bS.tick {st:Sd} (c:Cf) (h:bS st) (now:Int):bS (fA c st now):=(h.clock now).RQ c
theorem bS.nZ {st:Sd} (h:bS st) {x:List UInt8} (hx:1≤x.length):bS (gK st x):=by
 have hh:aW (gK st x)=aW st+x.length:=by simp only[aW,gK,kC,iJ];simp[aj]
 have hle:=h.le;have hne:(gK st x).taken=aW (gK st x)→False:=fun e=>by
  rw[hh] at e;have:(gK st x).taken=st.taken:=rfl;omega
 refine {tk:=h.tk,le:= ?_,pos:=fun y hy=> ?_,mH:=h.mH,ak:=h.ak,pr:=h.pr,w:=h.w,f:=h.f,pl:=fun e=>(hne e).elim,fr:=fun y r hy=> ?_,hd:=h.hd,ti:=fun e=>(hne e).elim}
 ·rw[hh];show st.taken≤_
  omega
 ·simp only[gK,List.mem_append,List.mem_singleton] at hy;rcases hy with hy|rfl
  ·exact h.pos y hy
  ·exact hx
 ·show st.front<y.length
  cases hq:st.queue with
  |nil=>
   have hz:aW st=0:=by simp[aW,hq,aj]
   have:=h.tk;have e:st.queue++ [x]=y::r:=hy;rw[hq] at e;simp at e;rw[←e.1];omega
  |cons a t=>
   have e:st.queue++ [x]=y::r:=hy;rw[hq] at e;simp at e;rw[←e.1];exact h.fr a t hq
theorem o8.finish {st:Sd} (c:Cf) (h:InvV st) (hfr:∀x r,st.queue=x::r→st.front<x.length) (hhd:∀x r,st.out=x::r→x.aX=false) (b:Bool)
 (hpl:(b||st.eB||jP st)=false→st.taken=aW st→st.out≠ []→st.polled=(st.first+st.out.length+1023)%1024) (hti:(b||st.eB||jP st)=false→Fz st):bS (dh c st b).1:=by
 unfold dh;by_cases hc:(b||st.eB||jP st)=true
 ·rw[if_pos hc];refine {tk:=h.tk,le:=h.le,pos:=h.pos,mH:=h.mH,ak:=h.ak,pr:=h.pr,w:=h.w,f:=h.f,pl:=fun _ h2=> ?_,fr:=hfr,hd:=hhd,ti:=fun _ e=>by cases e};show (bP st+1023)%1024=(st.first+st.out.length+1023)%1024
  unfold bP;omega
 ·rw[if_neg hc];exact {h with pl:=hpl (by simpa using hc),fr:=hfr,hd:=hhd,ti:=hti (by simpa using hc)}
theorem bS.again {st:Sd} (c:Cf) (h:bS st) {i:Nat} {x:Ou} (hp:gJ st.out=some i) (hx:st.out[i]? =some x) {l:List (Nat × Nat)} (hl:∀r∈l,r.1≤r.2):
 bS (dh c {st with out:=st.out.set i {x with pend:=l}} false).1:=by
 obtain ⟨x',hx',hxp,hbe⟩:=iB hp;rw[hx] at hx';cases hx';have hil:i<st.out.length:=(List.getElem?_eq_some_iff.1 hx).1;have hxa:x.aX=false:=by
  cases ha:x.aX with
  |false=>rfl
  |true=>exact absurd (h.ak x (List.mem_of_getElem? hx) ha) hxp
 have hw:=h.too8.KA hx (z:= {x with pend:=l}) rfl rfl (fun e=>by rw[hxa] at e;cases e) hl st.failed;refine o8.finish c hw.toInvV hw.fr hw.hd false (fun _=>hw.pl) (fun hno=> ?_);simp only[Bool.false_or,Bool.or_eq_false_iff] at hno;obtain ⟨aee,Zn⟩:=hno;intro h1 h2;have hidle:¬((∀y∈st.out.set i {x with pend:=l},y.pend= [])∧(st.taken=aW st∨512≤(st.out.set i {x with pend:=l}).length)):=fun e=>by rw[yP.2 e] at Zn;cases Zn
 have hex:∃y∈st.out.set i {x with pend:=l},y.pend≠ []:=Classical.byContradiction fun hc=>hidle ⟨fun y hy=>Classical.byContradiction fun hp=>hc ⟨y,hy,hp⟩,.inl h1⟩
 obtain ⟨y,hym,hyp⟩:=hex;obtain ⟨k,hk⟩:=List.mem_iff_getElem?.1 hym;have hki:i≤k:=by
  rcases Nat.lt_or_ge k i with hlt|hge
  ·rw[List.getElem?_set_ne (by omega)] at hk;exact absurd (hbe k y hlt hk) hyp
  ·exact hge
 rcases h.ti h1 h2 with ht|⟨ho,_⟩
 ·refine .inl fun j z hz hza hzp=> ?_
  have hz':(st.out.set i {x with pend:=l})[j]? =some z:=hz;by_cases hji:j=i
  ·subst hji;rw[List.getElem?_set_self hil] at hz';cases hz';have hkne:k≠j:=fun e=>by
    subst e;rw[List.getElem?_set_self hil] at hk;cases hk;exact hyp hzp
   exact ⟨k,y,by omega,hk,hyp⟩
  ·rw[List.getElem?_set_ne (by omega)] at hz';obtain ⟨q,v,hq,hv,hvp⟩:=ht j z hz' hza hzp;by_cases hqi:q=i
   ·subst hqi;exact ⟨k,y,by omega,hk,hyp⟩
   ·exact ⟨q,v,hq,by show (st.out.set i _)[q]? =some v;rw[List.getElem?_set_ne (by omega)];exact hv,hvp⟩
 ·have:st.eB=false:=aee;rw[this] at ho;cases ho
end
section
theorem wI:∀(ps:List (List UInt8)) (op:List UInt8) (sm e:Bool),ps≠ []→op.length+aj ps=aj (pZ op sm ps e).1+(pZ op sm ps e).2.1.length
 | [],_,_,_,h=>absurd rfl h
 | [p],op,sm,e,_=>by cases e<;>simp[pZ,aj]
 |p::q::r,op,sm,e,_=>by
  have ih:=wI (q::r) [] false e (by simp);simp only[pZ,iJ,List.length_append] at ih ⊢;simp only[List.length_nil] at ih;omega
theorem vD:∀(q:List (List UInt8)) (k:Nat),k≤aj q→(∃d,q=d++(aP q k).1∧aj d+(aP q k).2=k)∧((aP q k).1= []→(aP q k).2=0)∧∀x r,(aP q k).1=x::r→(aP q k).2<x.length
 | [],k,h=>by
  have:k=0:=by simpa[aj] using h
  subst this;exact ⟨⟨[],rfl,rfl⟩,fun _=>rfl,by simp[aP]⟩
 |x::r,k,h=>by
  rw[iJ] at h;unfold aP;split
  ·rename_i hx;obtain ⟨⟨d,h1,h2⟩,h3,h4⟩:=vD r (k-x.length) (by omega);refine ⟨⟨x::d,?_,?_⟩,h3,h4⟩
   ·rw[List.cons_append,←h1]
   ·rw[iJ];omega
  ·refine ⟨⟨[],rfl,by simp[aj]⟩,by simp,fun y t e=> ?_⟩;simp at e;rw[←e.1];omega
theorem Cq {st:Sd} (h:InvV st) (n:Int) (hne:(dU n st).ps≠ []):1≤aG (dU n st)∧st.taken+aG (dU n st)≤aW st:=by
 obtain ⟨⟨d,h1,h2⟩,h3,h4⟩:=vD st.queue st.taken h.le;have hne':(pI n ((aP st.queue st.taken).1.length+1) (aP st.queue st.taken).1 (aP st.queue st.taken).2 0 0 0 false).1≠ []:=hne;have hpos:∀s∈(aP st.queue st.taken).1,1≤s.length:=fun s hs=>h.pos s (by rw[h1];simp[hs])
 have hk:=IU n ((aP st.queue st.taken).1.length+1) (aP st.queue st.taken).1 (aP st.queue st.taken).2 0 0 0 false hpos h4 h3;have hv:=Co n ((aP st.queue st.taken).1.length+1) (aP st.queue st.taken).1 (aP st.queue st.taken).2 false hpos h4 hne';have hs:aG (dU n st)=aj (pI n ((aP st.queue st.taken).1.length+1) (aP st.queue st.taken).1 (aP st.queue st.taken).2 0 0 0 false).1:=rfl;rw[hs];have hh:aW st=aj d+aj (aP st.queue st.taken).1:=by
  unfold aW
  conv=>lhs;rw[h1]
  rw[kC]
 generalize aP st.queue st.taken=Q at*;generalize pI n (Q.1.length+1) Q.1 Q.2 0 0 0 false=R at*;obtain ⟨g,hg1,hg2⟩:=hk.some_ hne';have hj:=wI R.1 ((Q.1.headD []).take Q.2) (decide (0<Q.2)) R.2.1 hne';rw[hg2] at hj;dsimp only at hj;have e1:((Q.1.headD []).take Q.2).length=Q.2:=by
  cases hq:Q.1 with
  |nil=>rw[h3 hq];simp
  |cons x r=>have:=h4 x r hq;simp;omega
 have e2:((R.2.2.1.headD []).take R.2.2.2).length=R.2.2.2∧R.2.2.2≤aj R.2.2.1:=by
  cases hq:R.2.2.1 with
  |nil=>rw[hk.z_ hq];simp
  |cons x r=>have:=hk.lt_ x r hq;rw[iJ];simp;omega
 rw[e1,e2.1] at hj;have e3:aj Q.1=aj g+aj R.2.2.1:=by rw[hg1,kC]
 have e4:1≤aj R.1:=by
  obtain ⟨p,hp⟩:=List.exists_mem_of_ne_nil _ hne';have:=gW hp;have:=hv.pos p hp;omega
 exact ⟨e4,by have:=e2.2;omega⟩
theorem InvV.add {st:Sd} (h:InvV st) {x:Ou} (h1:1≤aG x) (h2:st.taken+aG x≤aW st) (hp:x.pend= []) (hl:st.out.length<512) (hpl:(eU st x).taken≠aW (eU st x)):InvV (eU st x) where
 tk:=by
  show st.taken+aG x=st.front+sizes (st.out++ [x])
  rw[kZ,h.tk];simp[sizes];omega
 le:=h2
 pos:=h.pos
 mH:=fun y hy=>by
  simp only[eU,List.mem_append,List.mem_singleton] at hy;rcases hy with hy|rfl
  ·exact h.mH y hy
  ·exact h1
 ak:=fun y hy hya=>by
  simp only[eU,List.mem_append,List.mem_singleton] at hy;rcases hy with hy|rfl
  ·exact h.ak y hy hya
  ·exact hp
 pr:=fun y hy r hr=>by
  simp only[eU,List.mem_append,List.mem_singleton] at hy;rcases hy with hy|rfl
  ·exact h.pr y hy r hr
  ·rw[hp] at hr;cases hr
 w:=by simp only[eU,List.length_append,List.length_singleton];omega
 f:=h.f
 pl:=fun e=>absurd e hpl
theorem bS.fresh {st:Sd} (c:Cf) (n:Int) (h:bS st) (hp:gJ st.out=none):bS (jE c n st).1:=by
 unfold jE;split
 ·exact h
 ·rename_i hl;split
  ·exact h
  ·rename_i hne;obtain ⟨h1,h2⟩:=Cq h.toInvV n hne;generalize hx:dU n st=x at*;have hxp:x.pend= []:=by rw[←hx];rfl
   have hxa:x.aX=false:=by rw[←hx];rfl
   dsimp only;have hhd:∀y r,(eU st x).out=y::r→y.aX=false:=fun y r e=>by
    have e':st.out++ [x]=y::r:=e;cases ho:st.out with
    |nil=>rw[ho] at e';simp at e';rw[←e'.1];exact hxa
    |cons a t=>rw[ho] at e';simp at e';rw[←e'.1];exact h.hd a t ho
   by_cases ht:(eU st x).taken=aW (eU st x)
   ·have hid:jP (eU st x)=true:=yP.2 ⟨fun y hy=>by
     simp only[eU,List.mem_append,List.mem_singleton] at hy;rcases hy with hy|rfl
     ·exact qb.1 hp y hy
     ·exact hxp,.inl ht⟩
    have Zo:(nk c (eU st x)||(eU st x).eB||jP (eU st x))=true:=by rw[hid];simp
    unfold dh;rw[if_pos Zo];have hb:InvV (tX (eU st x) c):= {
     tk:=by
      show st.taken+aG x=st.front+sizes (st.out++ [x])
      rw[kZ,h.tk];simp[sizes];omega
     le:=h2
     pos:=h.pos
     mH:=fun y hy=>by
      simp only[tX,eU,List.mem_append,List.mem_singleton] at hy;rcases hy with hy|rfl
      ·exact h.mH y hy
      ·exact h1
     ak:=fun y hy hya=>by
      simp only[tX,eU,List.mem_append,List.mem_singleton] at hy;rcases hy with hy|rfl
      ·exact h.ak y hy hya
      ·exact hxp
     pr:=fun y hy r hr=>by
      simp only[tX,eU,List.mem_append,List.mem_singleton] at hy;rcases hy with hy|rfl
      ·exact h.pr y hy r hr
      ·rw[hxp] at hr;cases hr
     w:=by simp only[tX,eU,List.length_append,List.length_singleton];omega
     f:=h.f
     pl:=fun _ _=>by
      show (bP (eU st x)+1023)%1024=((eU st x).first+(eU st x).out.length+1023)%1024
      unfold bP;omega}
    exact {hb with fr:=h.fr,hd:=hhd,ti:=fun _ e=>by cases e}
   ·exact o8.finish c (h.toInvV.add h1 h2 hxp (by omega) ht) h.fr hhd _ (fun _ e=>absurd e ht) (fun _ e=>absurd e ht)
end
section
theorem jk:∀l:List Ou,(∃d:List Ou,l=d++(aQ l).2.2∧d.length=(aQ l).1∧sizes d=(aQ l).2.1∧∀x∈d,x.aX=true)∧∀x r,(aQ l).2.2=x::r→x.aX=false
 | []=>⟨⟨[],rfl,rfl,rfl,by simp⟩,by simp[aQ]⟩
 |x::r=>by
  unfold aQ;split
  ·rename_i hx;obtain ⟨⟨d,h1,h2,h3,h4⟩,h5⟩:=jk r;refine ⟨⟨x::d,?_,by simp[h2],by rw[fM,h3,Nat.add_comm],fun y hy=> ?_⟩,h5⟩
   ·rw[List.cons_append,←h1]
   ·rcases List.mem_cons.1 hy with rfl|hy
    ·exact hx
    ·exact h4 y hy
  ·rename_i hx;exact ⟨⟨[],rfl,rfl,rfl,by simp⟩,fun y t e=>by simp at e;rw[←e.1];simpa using hx⟩
theorem nu:∀(q:List (List UInt8)) (f:Nat),(∃d:List (List UInt8),q=d++(eG q f).2.2.2∧d.length=(eG q f).1∧aj d=(eG q f).2.1∧aj d+(eG q f).2.2.1=f)∧∀x r,(eG q f).2.2.2=x::r→(eG q f).2.2.1<x.length
 | [],f=>⟨⟨[],rfl,rfl,rfl,by simp[aj,eG]⟩,by simp[eG]⟩
 |x::r,f=>by
  unfold eG;split
  ·rename_i hx;obtain ⟨⟨d,h1,h2,h3,h4⟩,h5⟩:=nu r (f-x.length);refine ⟨⟨x::d,?_,by simp[h2],by rw[iJ,h3,Nat.add_comm],by rw[iJ];dsimp only;omega⟩,h5⟩;rw[List.cons_append,←h1]
  ·exact ⟨⟨[],rfl,rfl,rfl,by simp[aj]⟩,fun y t e=>by simp at e;dsimp only;rw[←e.1];omega⟩
theorem InvV.V2 {st:Sd} (h:InvV st):o8 (eD st)∧(∃d,st.out=d++(eD st).out∧∀x∈d,x.aX=true)∧((eD st).taken=aW (eD st)→st.taken=aW st):=by
 obtain ⟨⟨d,h1,h2,h3,h4⟩,h5⟩:=jk st.out;obtain ⟨⟨q,g1,g2,g3,g4⟩,g5⟩:=nu st.queue (st.front+(aQ st.out).2.1);have e1:(eD st).out=(aQ st.out).2.2:=rfl;have e2:(eD st).queue=(eG st.queue (st.front+(aQ st.out).2.1)).2.2.2:=rfl;have e3:(eD st).taken=st.taken-(eG st.queue (st.front+(aQ st.out).2.1)).2.1:=rfl;have e4:(eD st).front=(eG st.queue (st.front+(aQ st.out).2.1)).2.2.1:=rfl;have e5:(eD st).first=(st.first+(aQ st.out).1)%1024:=rfl
 have e6:(eD st).polled=st.polled:=rfl;have hsz:sizes st.out=(aQ st.out).2.1+sizes (aQ st.out).2.2:=by
  conv=>lhs;rw[h1]
  rw[kZ,h3]
 have EY:aW st=(eG st.queue (st.front+(aQ st.out).2.1)).2.1+aW (eD st):=by
  unfold aW;rw[e2]
  conv=>lhs;rw[g1]
  rw[kC,g3]
 have hle:=h.le;have htk:=h.tk;have hmem:∀x,x∈(eD st).out→x∈st.out:=fun x hx=>by rw[h1,←e1];simp[hx]
 have hlen:st.out.length=(aQ st.out).1+(eD st).out.length:=by
  conv=>lhs;rw[h1]
  rw[List.length_append,h2,e1]
 rw[←e1] at h5 h1 hsz;rw[←e2] at g5;rw[←e4] at g5;generalize aQ st.out=A at*;generalize eG st.queue (st.front+A.2.1)=Q at*;have hinv:o8 (eD st):= {
  tk:=by rw[e3,e4];omega
  le:=by rw[e3];omega
  pos:=fun x hx=>h.pos x (by rw[g1,←e2];simp[hx])
  mH:=fun x hx=>h.mH x (hmem x hx)
  ak:=fun x hx=>h.ak x (hmem x hx)
  pr:=fun x hx=>h.pr x (hmem x hx)
  w:=by have:=h.w;omega
  f:=by rw[e5];omega
  pl:=fun t1 t2=>by
   have hne:st.out≠ []:=fun e=>by
    rw[e] at h1;exact t2 (List.append_eq_nil_iff.1 h1.symm).2
   have:=h.pl (by rw[e3] at t1;omega) hne;rw[e5,e6,this];omega
  fr:=g5
  hd:=h5}
 exact ⟨hinv,⟨d,h1,h4⟩,fun e=>by rw[e3] at e;omega⟩
theorem yQ (c:Cf) (m:Ou→List (Nat × Nat)) (x:Ou):(bY c m x).1.ps=x.ps:=by
 unfold bY;split
 ·rfl
 ·split
  ·rfl
  ·exact (xQ c x _).1
theorem yR (c:Cf) (m:Ou→List (Nat × Nat)) (x:Ou) (hx:x.aX=true→x.pend= []):((bY c m x).1.aX=true→(bY c m x).1.pend= [])∧((bY c m x).1.aX=false→(bY c m x).1.pend≠ []):=by
 unfold bY;by_cases h1:x.aX=true
 ·rw[if_pos h1];exact ⟨hx,fun e=>by rw[h1] at e;cases e⟩
 ·rw[if_neg h1];by_cases h2:m x= []
  ·rw[if_pos h2];exact ⟨fun _=>rfl,fun e=>by cases e⟩
  ·rw[if_neg h2];obtain ⟨_,p2,p3,_⟩:=xQ c x (m x);rw[p2,p3];exact ⟨fun e=>absurd e h1,fun _=>h2⟩
theorem IV (c:Cf) (m:Ou→List (Nat × Nat)) (x:Ou) (hx:∀r∈x.pend,r.1≤r.2) (hm:∀r∈m x,r.1≤r.2):∀r∈(bY c m x).1.pend,r.1≤r.2:=by
 unfold bY;by_cases h1:x.aX=true
 ·rw[if_pos h1];exact hx
 ·rw[if_neg h1];by_cases h2:m x= []
  ·rw[if_pos h2];simp
  ·rw[if_neg h2,(xQ c x (m x)).2.2.1];exact hm
section
variable (c:Cf) (m:Ou→List (Nat × Nat)) (n:Nat)
theorem jl (l:List Ou):(aM c m n l).1.length=l.length:=by simp[aM];omega
theorem jm (l:List Ou) (i:Nat):(aM c m n l).1[i]? =if i<n then l[i]?.map (fun x=>(bY c m x).1) else l[i]? :=by
 unfold aM;dsimp only;by_cases hi:i<n
 ·rw[if_pos hi];by_cases hl:i<l.length
  ·rw[List.getElem?_append_left (by simp;omega),List.getElem?_map,List.getElem?_take,if_pos hi]
  ·rw[List.getElem?_eq_none (by simp;omega),List.getElem?_eq_none (by omega)];rfl
 ·rw[if_neg hi];by_cases hl:i<l.length
  ·rw[List.getElem?_append_right (by simp;omega),List.getElem?_drop];simp only[List.length_map,List.length_take];rw[show n+(i-min n l.length)=i by omega]
  ·rw[List.getElem?_eq_none (by simp;omega),List.getElem?_eq_none (by omega)]
theorem kD (l:List Ou) (y:Ou) (h:y∈(aM c m n l).1):∃x∈l,y=x∨y=(bY c m x).1:=by
 obtain ⟨i,hi⟩:=List.mem_iff_getElem?.1 h;rw[jm] at hi;split at hi
 ·obtain ⟨x,hx,rfl⟩:=Option.map_eq_some_iff.1 hi;exact ⟨x,List.mem_of_getElem? hx,.inr rfl⟩
 ·exact ⟨y,List.mem_of_getElem? hi,.inl rfl⟩
theorem mI (l:List Ou):sizes (aM c m n l).1=sizes l:=by
 have key:∀a:List Ou,sizes (a.map (fun x=>(bY c m x).1))=sizes a:=by
  intro a
  induction a with
  |nil=>rfl
  |cons x r ih=>rw[List.map_cons,fM,fM,ih];unfold aG;rw[yQ]
 unfold aM;dsimp only;rw[kZ,key,←kZ,List.take_append_drop]
end
theorem bS.stat {st:Sd} (c:Cf) (m:Ou→List (Nat × Nat)) (n:Nat) (h:bS st) (_hn:n≤st.out.length) (hm:∀x,∀r∈m x,r.1≤r.2):bS (iP c m n st):=by
 have hv:InvV {st with out:=(aM c m n st.out).1,failed:=st.failed||(aM c m n st.out).2,wait:=st.wait&&decide (n≤iA st st.polled)}:= {
  tk:=by
   show st.taken=st.front+sizes (aM c m n st.out).1
   rw[mI];exact h.tk
  le:=h.le
  pos:=h.pos
  mH:=fun y hy=>by
   obtain ⟨x,hx,rfl|rfl⟩:=kD c m n _ y hy
   ·exact h.mH _ hx
   ·unfold aG;rw[yQ];exact h.mH x hx
  ak:=fun y hy=>by
   obtain ⟨x,hx,rfl|rfl⟩:=kD c m n _ y hy
   ·exact h.ak _ hx
   ·exact (yR c m x (h.ak x hx)).1
  pr:=fun y hy=>by
   obtain ⟨x,hx,rfl|rfl⟩:=kD c m n _ y hy
   ·exact h.pr _ hx
   ·exact IV c m x (h.pr x hx) (hm x)
  w:=by
   show (aM c m n st.out).1.length≤512
   rw[jl];exact h.w
  f:=h.f
  pl:=fun t1 t2=>by
   show st.polled=(st.first+(aM c m n st.out).1.length+1023)%1024
   rw[jl];refine h.pl t1 (fun e=>t2 ?_);show (aM c m n st.out).1= []
   rw[e];simp[aM]}
 obtain ⟨hw,⟨d,hd1,hd2⟩,ht⟩:=hv.V2;unfold iP;dsimp only;by_cases ho:st.eB=true
 ·have ho2:(eD {st with out:=(aM c m n st.out).1,failed:=st.failed||(aM c m n st.out).2,wait:=st.wait&&decide (n≤iA st st.polled)}).eB=true:=ho;rw[if_pos ho2];exact hw.nY c ho2
 ·have ho2:¬(eD {st with out:=(aM c m n st.out).1,failed:=st.failed||(aM c m n st.out).2,wait:=st.wait&&decide (n≤iA st st.polled)}).eB=true:=ho;rw[if_neg ho2];refine {hw with ti:=fun t1 t2=> .inl ?_};have htk:st.taken=aW st:=ht t1;have hwt:(st.wait&&decide (n≤iA st st.polled))=false:=t2;intro i x hx hxa hxp;have hix:(aM c m n st.out).1[d.length+i]? =some x:=by
   have e:(aM c m n st.out).1=_:=hd1;rw[e,List.getElem?_append_right (by omega),show d.length+i-d.length=i by omega];exact hx
  rw[jm] at hix;have hge:¬d.length+i<n:=fun hlt=>by
   rw[if_pos hlt] at hix;obtain ⟨y,hy,rfl⟩:=Option.map_eq_some_iff.1 hix;exact (yR c m y (h.ak y (List.mem_of_getElem? hy))).2 hxa hxp
  rw[if_neg hge] at hix;have hil:d.length+i<st.out.length:=(List.getElem?_eq_some_iff.1 hix).1;have hwf:st.wait=false:=by
   cases hw':st.wait with
   |false=>rfl
   |true=>
    rw[hw'] at hwt;simp only[Bool.true_and,decide_eq_false_iff_not] at hwt;have hpl:=h.pl htk (fun e=>by rw[e] at hil;simp at hil);have hf:=h.f;have hw5:=h.w;exfalso;apply hwt;unfold iA;rw[hpl];omega
  rcases h.ti htk hwf with hA|⟨hb,_⟩
  ·obtain ⟨j,y,hj,hy,hyp⟩:=hA _ x hix hxa hxp;refine ⟨j-d.length,y,by omega,?_,hyp⟩;have e:(aM c m n st.out).1[j]? =some y:=by rw[jm,if_neg (by omega)];exact hy
   have e2:(aM c m n st.out).1=_:=hd1;rw[e2,List.getElem?_append_right (by omega)] at e;exact e
  ·exact absurd hb ho
end
section
structure Pu where
 sn:Nat
 poll:Bool
 seg:Bool
 last:Bool
 off:Nat
 s:Bool
 e:Bool
 ps:List (List UInt8)
def qc (f:Nat→Bool):Nat→Nat→Nat
 |0,k=>k
 |m+1,k=>if f (k+1)=true then qc f m (k+1) else k
theorem xR (f:Nat→Bool):∀m k,k≤qc f m k∧qc f m k≤k+m
 |0,k=>⟨aN,aN⟩
 |m+1,k=>by
  unfold qc;split
  ·have:=xR f m (k+1);omega
  ·omega
def gL (x:Ou) (fr:Nat) (n:Int) (k:Nat):Bool:=decide (iQ ((aS x.ps 0 fr k x.ps.length).length:Int)+2+((k:Int)-(fr:Int))≤n)
def j5 (st:Sd) (i:Nat) (x:Ou) (l:List (Nat × Nat)):Sd:= {st with out:=st.out.set i {x with pend:=l}}
def iC (c:Cf) (n:Int) (st:Sd) (i:Nat) (x:Ou):Sd × Option Pu:=
 match x.pend with
 | []=>(st,none)
 |(fr,e0)::rest=>
  if fr=0∧e0+1=aG x∧iQ (x.ps.length:Int)+(aG x:Int)≤n then
   ((dh c (j5 st i x []) false).1,some ⟨x.sn,(dh c (j5 st i x []) false).2,false,false,0,x.s,x.e,x.ps⟩)
  else if qc (gL x fr n) (e0+1-fr) fr=fr then (st,none)
  else
   (
    (dh c (j5 st i x (if qc (gL x fr n) (e0+1-fr) fr=e0+1 then rest else (qc (gL x fr n) (e0+1-fr) fr,e0)::rest)) false).1,
    some ⟨x.sn,(dh c (j5 st i x (if qc (gL x fr n) (e0+1-fr) fr=e0+1 then rest else (qc (gL x fr n) (e0+1-fr) fr,e0)::rest)) false).2,true,decide (qc (gL x fr n) (e0+1-fr) fr=aG x),fr,
     bZ x.ps x.s 0 fr x.ps.length,ed x.ps x.e 0 (qc (gL x fr n) (e0+1-fr) fr) x.ps.length,aS x.ps 0 fr (qc (gL x fr n) (e0+1-fr) fr) x.ps.length⟩)
def oh (c:Cf) (st:Sd) (now n:Int):Sd × Option Pu × Bool:=
 if (fA c st now).failed=true then (fA c st now,none,true)
 else match gJ (fA c st now).out with
  |some i=>match (fA c st now).out[i]? with
   |some x=>((iC c n (fA c st now) i x).1,(iC c n (fA c st now) i x).2,false)
   |none=>(fA c st now,none,false)
  |none=>match jE c n (fA c st now) with
   |(s2,none)=>(s2,none,false)
   |(s2,some (x,b))=>(s2,some ⟨x.sn,b,false,false,0,x.s,x.e,x.ps⟩,false)
theorem bS.iC {st:Sd} (c:Cf) (n:Int) (h:bS st) {i:Nat} {x:Ou} (hp:gJ st.out=some i) (hx:st.out[i]? =some x):bS (iC c n st i x).1:=by
 unfold Go.Proofs.YtbhiklnljiehiaaGreat.iC;have hpr:=h.pr x (List.mem_of_getElem? hx);cases hl:x.pend with
 |nil=>exact h
 |cons r rest=>
  obtain ⟨fr,e0⟩:=r;rw[hl] at hpr;have hr:fr≤e0:=hpr (fr,e0) (by simp);have hb:=xR (gL x fr n) (e0+1-fr) fr;dsimp only;split
  ·exact h.again c hp hx (by simp)
  ·split
   ·exact h
   ·refine h.again c hp hx fun q hq=> ?_
    split at hq
    ·exact hpr q (by simp[hq])
    ·rcases List.mem_cons.1 hq with rfl|hq
     ·dsimp only;omega
     ·exact hpr q (by simp[hq])
theorem bS.ny {st:Sd} (c:Cf) (h:bS st) (now n:Int):bS (oh c st now n).1:=by
 have h1:=h.tick c now;unfold oh;split
 ·exact h1
 ·cases hp:gJ (fA c st now).out with
  |some i=>
   obtain ⟨x,hx,_⟩:=iB hp;simp only[hx];exact h1.iC c n hp hx
  |none=>
   have h2:=h1.fresh c n hp;dsimp only;generalize jE c n (fA c st now)=R at*;obtain ⟨s2,_|⟨x,b⟩⟩:=R
   ·exact h2
   ·exact h2
end
section
structure V3 (st:Sd) (acc:List (List UInt8)) (a next:Nat):Prop where
 ex:∃d,acc=d++st.queue∧a=aj d+st.taken
 nx:next=bP st
theorem V3.same {st st':Sd} {acc:List (List UInt8)} {a next:Nat} (h:V3 st acc a next) (h1:st'.queue=st.queue) (h2:st'.taken=st.taken) (h3:st'.first=st.first) (h4:st'.out.length=st.out.length):V3 st' acc a next:=by
 obtain ⟨⟨d,e1,e2⟩,e3⟩:=h;exact ⟨⟨d,by rw[h1];exact e1,by rw[h2];exact e2⟩,by rw[e3];unfold bP;rw[h3,h4]⟩
theorem DK (c:Cf) (st:Sd):(bQ c st).queue=st.queue∧(bQ c st).taken=st.taken∧(bQ c st).first=st.first∧(bQ c st).out.length=st.out.length∧(bQ c st).done=st.done∧(bQ c st).front=st.front:=by
 unfold bQ;split
 ·exact ⟨rfl,rfl,rfl,rfl,rfl,rfl⟩
 ·split
  ·exact ⟨rfl,rfl,rfl,rfl,rfl,rfl⟩
  ·split
   ·exact ⟨rfl,rfl,rfl,rfl,rfl,rfl⟩
   ·exact ⟨rfl,rfl,rfl,by simp[kM],rfl,rfl⟩
theorem V3.stat {st:Sd} {acc:List (List UInt8)} {a next:Nat} (h:V3 st acc a next) (hi:bS st) (c:Cf) (m:Ou→List (Nat × Nat)) (n:Nat):V3 (iP c m n st) acc a next:=by
 obtain ⟨⟨d,e1,e2⟩,e3⟩:=h;have key:V3 (eD {st with out:=(aM c m n st.out).1,failed:=st.failed||(aM c m n st.out).2,wait:=st.wait&&decide (n≤iA st st.polled)}) acc a next:=by
  obtain ⟨⟨o,h1,h2,h3,_⟩,_⟩:=jk (aM c m n st.out).1;obtain ⟨⟨q,g1,g2,g3,g4⟩,_⟩:=nu st.queue (st.front+(aQ (aM c m n st.out).1).2.1);have hsz:sizes st.out=(aQ (aM c m n st.out).1).2.1+sizes (aQ (aM c m n st.out).1).2.2:=by
   rw[←mI c m n,←h3,←kZ,←h1]
  have htk:=hi.tk;refine ⟨⟨d++q,?_,?_⟩,?_⟩
  ·show acc=d++q++(eG st.queue (st.front+(aQ (aM c m n st.out).1).2.1)).2.2.2
   rw[e1,List.append_assoc,←g1]
  ·show a=aj (d++q)+(st.taken-(eG st.queue (st.front+(aQ (aM c m n st.out).1).2.1)).2.1)
   rw[kC,e2];omega
  ·rw[e3];show (st.first+st.out.length)%1024=((st.first+(aQ (aM c m n st.out).1).1)%1024+(aQ (aM c m n st.out).1).2.2.length)%1024
   have hl:=congrArg List.length h1;rw[List.length_append,h2,jl] at hl;omega
 unfold iP;dsimp only;split
 ·obtain ⟨a1,a2,a3,a4,_⟩:=DK c (eD {st with out:=(aM c m n st.out).1,failed:=st.failed||(aM c m n st.out).2,wait:=st.wait&&decide (n≤iA st st.polled)});exact key.same a1 a2 a3 a4
 ·exact key
end
section
structure Wd (st:Sd):Prop where
 inv:bS st
 f:st.first=0
 fl:st.failed=false
 now:st.now=0
 ow:st.eB=false
 out:∀x∈st.out,x.aX=false∧x.pend= []
 wt:st.wait=true→st.polled<st.out.length∧0<st.fK
theorem Wd.pend {st:Sd} (h:Wd st):gJ st.out=none:=qb.2 fun x hx=>(h.out x hx).2
theorem yS:∀l:List Ou,(∀x∈l,x.aX=true)→aQ l=(l.length,sizes l,[])
 | [],_=>rfl
 |x::r,h=>by
  unfold aQ;rw[if_pos (h x (by simp)),yS r (fun y hy=>h y (by simp[hy]))];simp[fM,Nat.add_comm]
theorem Wd.stat {st:Sd} (h:Wd st) (c:Cf):(iP c (fun _=> []) st.out.length (cK st 1)).out= []∧(iP c (fun _=> []) st.out.length (cK st 1)).first=st.out.length∧(iP c (fun _=> []) st.out.length (cK st 1)).wait=false∧
 (iP c (fun _=> []) st.out.length (cK st 1)).failed=false∧(aW (iP c (fun _=> []) st.out.length (cK st 1)):Int)-(iP c (fun _=> []) st.out.length (cK st 1)).taken=(aW st:Int)-st.taken∧(iP c (fun _=> []) st.out.length (cK st 1)).taken≤aW (iP c (fun _=> []) st.out.length (cK st 1)):=by
 have hone:∀x∈st.out,bY c (fun _=> []) x=({x with aX:=true,pend:= []},false):=fun x hx=>by
  unfold bY;rw[if_neg (by rw[(h.out x hx).1];simp),if_pos rfl]
 have hmap:aM c (fun _=> []) st.out.length st.out=(st.out.map (fun x=> {x with aX:=true,pend:= []}),false):=by
  unfold aM;rw[List.take_length,List.drop_length,List.append_nil]
  congr 1
  ·exact List.map_congr_left fun x hx=>by rw[hone x hx]
  ·rw[List.any_eq_false];intro x hx;rw[hone x hx];simp
 have hv:=h.inv.toInvV;have hsz:sizes (st.out.map (fun x=>({x with aX:=true,pend:= []}:Ou)))=sizes st.out:=by
  have key:∀a:List Ou,sizes (a.map (fun x=>({x with aX:=true,pend:= []}:Ou)))=sizes a:=by
   intro a
   induction a with
   |nil=>rfl
   |cons x r ih=>rw[List.map_cons,fM,fM,ih];rfl
  exact key _
 have RS:=yS (st.out.map (fun x=>({x with aX:=true,pend:= []}:Ou))) (fun y hy=>by
  obtain ⟨x,_,rfl⟩:=List.mem_map.1 hy;rfl)
 rw[hsz,List.length_map] at RS;have how:(eD {cK st 1 with out:=(aM c (fun _=> []) st.out.length st.out).1,failed:=st.failed||(aM c (fun _=> []) st.out.length st.out).2,wait:=st.wait&&decide (st.out.length≤iA st st.polled)}).eB=false:=h.ow;have hst:iP c (fun _=> []) st.out.length (cK st 1)=eD {cK st 1 with out:=(aM c (fun _=> []) st.out.length st.out).1,failed:=st.failed||(aM c (fun _=> []) st.out.length st.out).2,wait:=st.wait&&decide (st.out.length≤iA st st.polled)}:=by
  unfold iP;dsimp only;rw[if_neg]
  ·rfl
  ·intro e;have e2:(eD {cK st 1 with out:=(aM c (fun _=> []) st.out.length st.out).1,failed:=st.failed||(aM c (fun _=> []) st.out.length st.out).2,wait:=st.wait&&decide (st.out.length≤iA st st.polled)}).eB=true:=e;rw[how] at e2;cases e2
 rw[hst,hmap];have htk:=hv.tk;have hle:=hv.le;have hw5:=hv.w;have hf:=h.f;obtain ⟨⟨q,g1,g2,g3,g4⟩,g5⟩:=nu st.queue (st.front+(aQ (st.out.map (fun x=>({x with aX:=true,pend:= []}:Ou)))).2.1);have EY:aW st=aj q+aj (eG st.queue (st.front+(aQ (st.out.map (fun x=>({x with aX:=true,pend:= []}:Ou)))).2.1)).2.2.2:=by
  unfold aW
  conv=>lhs;rw[g1]
  rw[kC]
 have hA:(aQ (st.out.map (fun x=>({x with aX:=true,pend:= []}:Ou)))).2.1=sizes st.out:=by rw[RS]
 refine ⟨?_,?_,?_,?_,?_,?_⟩
 ·show (aQ (st.out.map (fun x=>({x with aX:=true,pend:= []}:Ou)))).2.2= []
  rw[RS]
 ·show (st.first+(aQ (st.out.map (fun x=>({x with aX:=true,pend:= []}:Ou)))).1)%1024=_
  rw[RS,hf];dsimp only;omega
 ·show (st.wait&&decide (st.out.length≤iA st st.polled))=false
  cases hw:st.wait with
  |false=>rfl
  |true=>
   have:=(h.wt hw).1;simp only[Bool.true_and,decide_eq_false_iff_not];unfold iA;rw[hf];omega
 ·show (st.failed||false)=false
  rw[h.fl];rfl
 ·show (aj (eG st.queue (st.front+(aQ (st.out.map (fun x=>({x with aX:=true,pend:= []}:Ou)))).2.1)).2.2.2:Int)-((st.taken-(eG st.queue (st.front+(aQ (st.out.map (fun x=>({x with aX:=true,pend:= []}:Ou)))).2.1)).2.1:Nat):Int)=_
  omega
 ·show st.taken-(eG st.queue (st.front+(aQ (st.out.map (fun x=>({x with aX:=true,pend:= []}:Ou)))).2.1)).2.1≤aj (eG st.queue (st.front+(aQ (st.out.map (fun x=>({x with aX:=true,pend:= []}:Ou)))).2.1)).2.2.2
  omega
end
section
structure Nk where
 sn:Int
 part:Bool
 fr:Int
 lt:Int
def jQ (aL sn:Int):Int:=(aL-sn)%1024
def iD (aL:Int) (n:Nk):Bool:=
 (decide (0≤n.sn)&&decide (n.sn<1024))&&((decide (1≤jQ aL n.sn)&&decide (jQ aL n.sn≤512))&&
  (if n.part=true then decide (0≤n.fr)&&(decide (n.fr≤n.lt)&&decide (n.lt≤32767)) else decide (n.fr=0)&&decide (n.lt=0)))
def lD (aL:Int) (a b:Nk):Bool:=
 decide (jQ aL b.sn<jQ aL a.sn)||(decide (a.sn=b.sn)&&(a.part&&(b.part&&decide (a.lt<b.fr))))
def rW (aL:Int):List Nk→Bool
 | []=>true
 | [n]=>iD aL n
 |a::b::r=>iD aL a&&(lD aL a b&&rW aL (b::r))
def dm (aL:Int) (l:List Nk):Bool:=(decide (0≤aL)&&decide (aL≤1023))&&(decide (l.length≤512)&&rW aL l)
def fO (l:List (Nat × Nat)) (x:Nat × Nat):List (Nat × Nat):=
 match l.getLast? with
 |none=> [x]
 |some y=>if y.2+1=x.1 then l.dropLast++ [(y.1,x.2)] else l++ [x]
def gM (n:Nk):Nat × Nat:=if n.part=true then (n.fr.toNat,n.lt.toNat) else (0,32767)
def eX (size:Nat) (l:List (Nat × Nat)) (n:Nk):List (Nat × Nat):=
 if min (gM n).2 (size-1)<(gM n).1 then l else fO l ((gM n).1,min (gM n).2 (size-1))
def bT (dO:List Nk) (x:Ou):List (Nat × Nat):=(dO.filter (fun n=>decide (n.sn=(x.sn:Int)))).foldl (eX (aG x)) []
theorem LG {l:List (Nat × Nat)} {x:Nat × Nat} (h:∀r∈l,r.1≤r.2) (hx:x.1≤x.2):∀r∈fO l x,r.1≤r.2:=by
 unfold fO;cases hl:l.getLast? with
 |none=>simpa using hx
 |some y=>
  have hy:=h y (List.mem_of_getLast? hl);dsimp only;split
  ·rename_i e;intro r hr;rcases List.mem_append.1 hr with hr|hr
   ·exact h r (List.dropLast_subset l hr)
   ·simp at hr;rw[hr];dsimp only;omega
  ·intro r hr;rcases List.mem_append.1 hr with hr|hr
   ·exact h r hr
   ·simp at hr;rw[hr];exact hx
theorem Oj (dO:List Nk) (x:Ou):∀r∈bT dO x,r.1≤r.2:=by
 unfold bT;generalize dO.filter (fun n=>decide (n.sn=(x.sn:Int)))=l;have key:∀(l:List Nk) (a:List (Nat × Nat)),(∀r∈a,r.1≤r.2)→∀r∈l.foldl (eX (aG x)) a,r.1≤r.2:=by
  intro l
  induction l with
  |nil=>intro a ha;simpa using ha
  |cons n r ih=>
   intro a ha;rw[List.foldl_cons];refine ih _ ?_;unfold eX;split
   ·exact ha
   ·exact LG ha (by dsimp only;omega)
 exact key l [] (by simp)
def dW (st:Sd) (sn:Int):Int:=(sn-(st.first:Int))%1024
def l8 (c:Cf) (st:Sd) (now aL:Int) (dO:List Nk):Sd × Int:=
 if dm aL dO=false then (st,2)
 else if (st.out.length:Int)<dW st aL∨dO.any (fun n=>decide (dW st aL≤dW st n.sn))=true then (cK st now,6)
 else
  let s2:=iP c (bT dO) (dW st aL).toNat (cK st now)
  (s2,if s2.failed=true then 8 else 0)
theorem bS.status {st:Sd} (h:bS st) (c:Cf) (now aL:Int) (dO:List Nk):bS (l8 c st now aL dO).1:=by
 unfold l8;split
 ·exact h
 ·split
  ·exact h.clock now
  ·rename_i hr;have hn:(dW st aL).toNat≤(cK st now).out.length:=by
    have e:(cK st now).out.length=st.out.length:=rfl;rw[e];have:=not_or.1 hr;omega
   exact (h.clock now).stat c (bT dO) _ hn (Oj dO)
end
end Go.Proofs.YtbhiklnljiehiaaGreat
