/- Plain mathematics: what a transmitter's. -/
import Derived.Test.YtbhiklnljiehiaaGreatM1ac
import Derived.Test.YtbhiklnljiehiaaGreatM1ah
namespace Go.Proofs.YtbhiklnljiehiaaGreat
section
def kG (n:Int):Nat→List (List UInt8)→Nat→Nat→Nat→Nat→Bool→List (List UInt8) × Bool × List (List UInt8) × Nat
 |0,aO,sent,_,_,_,e=>([],e,aO,sent)
 |_+1,[],sent,_,_,_,e=>([],e,[],sent)
 |f+1,x::rest,sent,cnt,ji,size,e=>
  if cnt=64∨(0<cnt∧2047<ji) then ([],e,x::rest,sent)
  else if min (n-iT ((cnt:Int)+1)) 32767-(size:Int)<1 then ([],e,x::rest,sent)
  else if sent+(min (n-iT ((cnt:Int)+1)) 32767-(size:Int)).toNat<x.length then
   ([(x.drop sent).take (min (n-iT ((cnt:Int)+1)) 32767-(size:Int)).toNat],false,x::rest,sent+(min (n-iT ((cnt:Int)+1)) 32767-(size:Int)).toNat)
  else (x.drop sent::(kG n f rest 0 (cnt+1) (x.length-sent) (size+(x.length-sent)) true).1,(kG n f rest 0 (cnt+1) (x.length-sent) (size+(x.length-sent)) true).2)
def lF (op:List UInt8) (sm:Bool):List (List UInt8)→Bool→List (List UInt8) × List UInt8 × Bool
 | [],_=>([],op,sm)
 | [p],e=>if e then ([op++p],[],false) else ([],op++p,true)
 |p::q::r,e=>((op++p)::(lF [] false (q::r) e).1,(lF [] false (q::r) e).2)
structure Vf (aO:List (List UInt8)) (sent:Nat) (e:Bool) (R:List (List UInt8) × Bool × List (List UInt8) × Nat):Prop where
 none_:R.1= []→R=([],e,aO,sent)
 some_:R.1≠ []→∃g,aO=g++R.2.2.1∧lF ((aO.headD []).take sent) (decide (0<sent)) R.1 R.2.1=(g,(R.2.2.1.headD []).take R.2.2.2,decide (0<R.2.2.2))
 lt_:∀x r,R.2.2.1=x::r→R.2.2.2<x.length
 z_:R.2.2.1= []→R.2.2.2=0
theorem qb {aO:List (List UInt8)} {sent:Nat} {e:Bool} (h1:∀x r,aO=x::r→sent<x.length) (h2:aO= []→sent=0):Vf aO sent e ([],e,aO,sent):=
 ⟨fun _=>rfl,fun h=>absurd rfl h,h1,h2⟩
theorem EZ (n:Int):∀(f:Nat) (aO:List (List UInt8)) (sent cnt ji size:Nat) (e:Bool),(∀s∈aO,1≤s.length)→(∀x r,aO=x::r→sent<x.length)→(aO= []→sent=0)→
 Vf aO sent e (kG n f aO sent cnt ji size e)
 |0,aO,sent,cnt,ji,size,e,_,h1,h2=>by rw[kG];exact qb h1 h2
 |f+1,[],sent,cnt,ji,size,e,_,h1,h2=>by rw[kG];exact qb h1 h2
 |f+1,x::rest,sent,cnt,ji,size,e,hp,h1,h2=>by
  have hs:=h1 x rest rfl;rw[kG];split
  ·exact qb h1 h2
  split
  ·exact qb h1 h2
  rename_i hroom;have hr1:1≤(min (n-iT ((cnt:Int)+1)) 32767-(size:Int)).toNat:=by omega
  generalize (min (n-iT ((cnt:Int)+1)) 32767-(size:Int)).toNat=room at*;split
  ·rename_i hlt;refine ⟨(fun h=>by cases h),(fun _=>⟨[],rfl,?_⟩),(fun y r hy=> ?_),(fun h=>by cases h)⟩
   ·have e1:x.take sent++(x.drop sent).take room=x.take (sent+room):=by rw[List.take_add]
    simp only[lF,Bool.false_eq_true,if_false,List.headD_cons,e1];rw[show decide (0<sent+room)=true by simp;omega]
   ·simp only[List.cons.injEq] at hy;obtain ⟨rfl,_⟩:=hy;exact hlt
  ·have ih:=EZ n f rest 0 (cnt+1) (x.length-sent) (size+(x.length-sent)) true (fun s hs=>hp s (by simp[hs])) (fun y r hy=>by have:=hp y (by simp[hy]);omega) (fun _=>rfl);generalize kG n f rest 0 (cnt+1) (x.length-sent) (size+(x.length-sent)) true=R at*;refine ⟨(fun h=>by cases h),(fun _=> ?_),ih.lt_,ih.z_⟩;obtain ⟨q,e',s',t'⟩:=R;cases q with
   |nil=>
    have hR:=ih.none_ rfl;cases hR;exact ⟨[x],rfl,by simp[lF]⟩
   |cons a b=>
    obtain ⟨g,hg1,hg2⟩:=ih.some_ (by simp);refine ⟨x::g,by rw[List.cons_append,←hg1],?_⟩;simp only[lF,List.headD_cons];rw[List.take_append_drop];simp only[List.take_zero,Nat.lt_irrefl,decide_false] at hg2;rw[hg2]
structure GR (cnt size:Nat) (q:List (List UInt8)):Prop where
 num:cnt≤64→cnt+q.length≤64
 pos:∀p∈q,1≤p.length
 short:∀i,i+1<q.length→(q[i]?.getD []).length≤2047
 sum:size≤32767→size+aj q≤32767
theorem l7 (cnt size:Nat):GR cnt size []:=⟨fun h=>by simpa using h,by simp,fun i hi=>by simp at hi,fun h=>by simpa[aj] using h⟩
theorem OX (n:Int) (f:Nat) (aO:List (List UInt8)) (sent cnt ji size:Nat) (e:Bool) (hc:0<cnt) (hl:2047<ji):(kG n f aO sent cnt ji size e).1= []:=by
 cases f with
 |zero=>rfl
 |succ f=>
  cases aO with
  |nil=>rfl
  |cons x r=>rw[kG,if_pos (.inr ⟨hc,hl⟩)]
theorem DY (n:Int):∀(f:Nat) (aO:List (List UInt8)) (sent cnt ji size:Nat) (e:Bool),(∀s∈aO,1≤s.length)→(∀x r,aO=x::r→sent<x.length)→
 GR cnt size (kG n f aO sent cnt ji size e).1
 |0,aO,sent,cnt,ji,size,e,_,_=>by rw[kG];exact l7 _ _
 |f+1,[],sent,cnt,ji,size,e,_,_=>by rw[kG];exact l7 _ _
 |f+1,x::rest,sent,cnt,ji,size,e,hp,h1=>by
  have hs:=h1 x rest rfl;rw[kG];split
  ·exact l7 _ _
  rename_i hc;split
  ·exact l7 _ _
  rename_i hroom;have hr1:1≤(min (n-iT ((cnt:Int)+1)) 32767-(size:Int)).toNat:=by omega
  have hr2:size+(min (n-iT ((cnt:Int)+1)) 32767-(size:Int)).toNat≤32767:=by omega
  generalize (min (n-iT ((cnt:Int)+1)) 32767-(size:Int)).toNat=room at*;split
  ·rename_i hlt;have hl:((x.drop sent).take room).length=room:=by rw[List.length_take,List.length_drop];omega
   refine ⟨fun h=>by simp;omega,fun p hm=> ?_,fun i hi=>by simp at hi,fun h=> ?_⟩
   ·simp only[List.mem_singleton] at hm;rw[hm,hl];exact hr1
   ·simp only[aj,List.map_cons,List.map_nil,List.sum_cons,List.sum_nil,hl];omega
  ·rename_i hge;have ih:=DY n f rest 0 (cnt+1) (x.length-sent) (size+(x.length-sent)) true (fun s hs=>hp s (by simp[hs])) (fun y r hy=>by have:=hp y (by simp[hy]);omega);have hlong:=OX n f rest 0 (cnt+1) (x.length-sent) (size+(x.length-sent)) true (by omega);generalize (kG n f rest 0 (cnt+1) (x.length-sent) (size+(x.length-sent)) true).1=q at*;have hl:(x.drop sent).length=x.length-sent:=List.length_drop;refine ⟨fun h=> ?_,fun p hm=> ?_,fun i hi=> ?_,fun h=> ?_⟩
   ·have:=ih.num (by omega);simp;omega
   ·simp only[List.mem_cons] at hm;rcases hm with rfl|hm
    ·omega
    ·exact ih.pos p hm
   ·cases i with
    |zero=>
     simp only[List.getElem?_cons_zero,Option.getD_some];rw[hl];rcases Nat.lt_or_ge 2047 (x.length-sent) with hg|hg
     ·rw[hlong hg] at hi;simp at hi
     ·exact hg
    |succ i=>
     have:=ih.short i (by simp at hi;omega);simpa using this
   ·have:=ih.sum (by omega);simp only[aj,List.map_cons,List.sum_cons,hl] at this ⊢;omega
theorem xD (n:Int) (f:Nat) (aO:List (List UInt8)) (sent:Nat) (e:Bool) (hp:∀s∈aO,1≤s.length) (h1:∀x r,aO=x::r→sent<x.length) (hne:(kG n f aO sent 0 0 0 e).1≠ []):ol (kG n f aO sent 0 0 0 e).1:=by
 have h:=DY n f aO sent 0 0 0 e hp h1;have hpos:1≤(kG n f aO sent 0 0 0 e).1.length:=List.length_pos_iff.2 hne;exact ⟨hpos,by have:=h.num (by omega);omega,h.pos,h.short,by have:=h.sum (by omega);omega⟩
end
section
structure Ou where
 sn:Nat
 s:Bool
 e:Bool
 ps:List (List UInt8)
 bY:Bool
 pend:List (Nat × Nat)
 dW:Nat
def aC (x:Ou):Nat:=aj x.ps
structure Cf where
 Ls:Int
 byte:Int
 timer:Int
 reorder:Int
 iE:Int
 dW:Int
 cap:Int
structure Sd where
 queue:List (List UInt8)
 done:Nat
 front:Nat
 taken:Nat
 first:Nat
 out:List Ou
 dX:Nat
 bytes:Nat
 polled:Nat
 wait:Bool
 iA:Int
 fH:Bool
 failed:Bool
 now:Int
def dK:Sd:=⟨[],0,0,0,0,[],0,0,0,false,0,false,false,0⟩
def dx (st:Sd):Nat:=aj st.queue
def bZ (st:Sd):Nat:=(st.first+st.out.length)%1024
def qc (x:Ou):Bool:= !x.pend.isEmpty
def gU (l:List Ou):Option Nat:=l.findIdx? qc
def kH (st:Sd):Bool:=(gU st.out).isNone&&(decide (st.taken=dx st)||decide (512≤st.out.length))
def iF (c:Cf) (x:Ou) (l:List (Nat × Nat)):Ou × Bool:=
 if x.pend= [] then ({x with pend:=l,dW:=x.dW+1},decide (c.dW<((x.dW+1:Nat):Int))) else ({x with pend:=l},false)
def fO (st:Sd) (now:Int):Sd:= {st with now:=if st.now<now then now else st.now}
def mK (st:Sd) (i:Nat) (R:Ou × Bool):Sd:= {st with out:=st.out.set i R.1,failed:=st.failed||R.2}
def dY (c:Cf) (st:Sd):Sd:=
 if kH st=false then st
 else match st.out.findIdx? (fun x=> !x.bY) with
  |none=>st
  |some i=>match st.out[i]? with
   |none=>st
   |some x=>mK st i (iF c x [(0,aC x-1)])
def gV (c:Cf) (st:Sd):Sd:=
 if st.wait=false∨st.now<st.iA then st else dY c {st with wait:=false,fH:=true}
def eX (c:Cf) (st:Sd) (now:Int):Sd:=gV c (fO st now)
def aI:List (List UInt8)→Nat→List (List UInt8) × Nat
 | [],k=>([],k)
 |x::r,k=>if x.length≤k then aI r (k-x.length) else (x::r,k)
def vJ (st:Sd) (c:Cf):Sd:= {st with dX:=0,bytes:=0,fH:=false,polled:=(bZ st+1023)%1024,wait:=true,iA:=IntKind.i64.wrap (st.now+c.timer)}
def bK (c:Cf) (st:Sd) (polls:Bool):Sd × Bool:=
 if (polls||st.fH||kH st)=true then (vJ st c,true) else (st,false)
def eD (st:Sd) (x:Ou):Sd:= {st with out:=st.out++ [x],taken:=st.taken+aC x,dX:=st.dX+1,bytes:=st.bytes+aC x}
def iV (c:Cf) (st:Sd):Bool:=(decide (0<c.Ls)&&decide (c.Ls≤(st.dX:Int)))||(decide (0<c.byte)&&decide (c.byte≤(st.bytes:Int)))
def bH (n:Int) (st:Sd):Ou:=
 let q:=aI st.queue st.taken
 let R:=kG n (q.1.length+1) q.1 q.2 0 0 0 false
 ⟨bZ st,decide (q.2=0),R.2.1,R.1,false,[],0⟩
def fA (c:Cf) (n:Int) (st:Sd):Sd × Option (Ou × Bool):=
 if 512≤st.out.length then (st,none)
 else if (bH n st).ps= [] then (st,none)
 else
  let s1:=eD st (bH n st)
  let R:=bK c s1 (iV c s1)
  (R.1,some (bH n st,R.2))
def bD:List Ou→Nat × Nat × List Ou
 | []=>(0,0,[])
 |x::r=>if x.bY=true then let R:=bD r;(R.1+1,R.2.1+aC x,R.2.2) else (0,0,x::r)
def gG:List (List UInt8)→Nat→Nat × Nat × Nat × List (List UInt8)
 | [],f=>(0,0,f,[])
 |x::r,f=>if x.length≤f then let R:=gG r (f-x.length);(R.1+1,R.2.1+x.length,R.2.2.1,R.2.2.2) else (0,0,f,x::r)
def fU (st:Sd):Sd:=
 let A:=bD st.out
 let Q:=gG st.queue (st.front+A.2.1)
 {st with out:=A.2.2,first:=(st.first+A.1)%1024,front:=Q.2.2.1,taken:=st.taken-Q.2.1,queue:=Q.2.2.2,done:=st.done+Q.1}
def dF (c:Cf) (miss:Ou→List (Nat × Nat)) (x:Ou):Ou × Bool:=
 if x.bY=true then (x,false)
 else if miss x= [] then ({x with bY:=true,pend:= []},false)
 else iF c x (miss x)
def om (st:Sd) (sn:Nat):Nat:=(sn+1024-st.first)%1024
def aY (c:Cf) (miss:Ou→List (Nat × Nat)) (n:Nat) (l:List Ou):List Ou × Bool:=
 ((l.take n).map (fun x=>(dF c miss x).1)++l.drop n,(l.take n).any (fun x=>(dF c miss x).2))
def tK (c:Cf) (miss:Ou→List (Nat × Nat)) (n:Nat) (st:Sd):Sd:=
 let R:=aY c miss n st.out
 let s1:= {st with out:=R.1,failed:=st.failed||R.2,wait:=st.wait&&decide (n≤om st st.polled)}
 let s2:=fU s1
 if s2.fH=true then dY c s2 else s2
def eG (st:Sd) (x:List UInt8):Sd:= {st with queue:=st.queue++ [x]}
end
section
def sizes (l:List Ou):Nat:=(l.map aC).sum
theorem jE (x:Ou) (r:List Ou):sizes (x::r)=aC x+sizes r:=by simp[sizes]
theorem oQ (a b:List Ou):sizes (a++b)=sizes a+sizes b:=by simp[sizes]
theorem je (x:List UInt8) (r:List (List UInt8)):aj (x::r)=x.length+aj r:=by simp[aj]
theorem oU (a b:List (List UInt8)):aj (a++b)=aj a+aj b:=by simp[aj]
structure InvV (st:Sd):Prop where
 tk:st.taken=st.front+sizes st.out
 le:st.taken≤dx st
 pos:∀x∈st.queue,1≤x.length
 oq:∀x∈st.out,1≤aC x
 ak:∀x∈st.out,x.bY=true→x.pend= []
 pr:∀x∈st.out,∀r∈x.pend,r.1≤r.2
 w:st.out.length≤512
 f:st.first<1024
 pl:st.taken=dx st→st.out≠ []→st.polled=(st.first+st.out.length+1023)%1024
structure qO (st:Sd):Prop extends InvV st where
 fr:∀x r,st.queue=x::r→st.front<x.length
 hd:∀x r,st.out=x::r→x.bY=false
def GU (st:Sd):Prop:=st.taken=dx st→st.wait=false→
 (∀(i:Nat) (x:Ou),st.out[i]? =some x→x.bY=false→x.pend= []→∃(j:Nat) (y:Ou),i<j∧st.out[j]? =some y∧y.pend≠ [])∨(st.fH=true∧∃x∈st.out,x.pend≠ [])
structure dz (st:Sd):Prop extends qO st where
 ti:GU st
theorem yA {l:List Ou}:gU l=none↔∀x∈l,x.pend= []:=by
 unfold gU;rw[List.findIdx?_eq_none_iff];simp[qc]
theorem gI {l:List Ou} {i:Nat} (h:gU l=some i):∃x,l[i]? =some x∧x.pend≠ []∧∀j y,j<i→l[j]? =some y→y.pend= []:=by
 unfold gU at h;obtain ⟨hi,h1,h2⟩:=List.findIdx?_eq_some_iff_getElem.1 h;refine ⟨l[i],List.getElem?_eq_getElem hi,by simpa[qc] using h1,fun j y hj hy=> ?_⟩;have:=h2 j hj;obtain ⟨hl,rfl⟩:=List.getElem?_eq_some_iff.1 hy;simpa[qc] using this
theorem Az {st:Sd}:kH st=true↔(∀x∈st.out,x.pend= [])∧(st.taken=dx st∨512≤st.out.length):=by
 unfold kH;rw[Bool.and_eq_true,Option.isNone_iff_eq_none,yA];simp
theorem qO.new:dz dK where
 tk:=rfl
 le:=by simp[dK,dx,aj]
 pos:=by simp[dK]
 oq:=by simp[dK]
 ak:=by simp[dK]
 pr:=by simp[dK]
 w:=by simp[dK]
 f:=by simp[dK]
 pl:=fun _ h=>absurd rfl h
 fr:=by simp[dK]
 hd:=by simp[dK]
 ti:=fun _ _=> .inl (by simp[dK])
theorem vK {l:List Ou} {i:Nat} {z x:Ou} (h:x∈l.set i z):x=z∨x∈l:=by
 rcases List.mem_or_eq_of_mem_set h with h|h
 ·exact .inr h
 ·exact .inl h
theorem MC {l:List Ou} {i:Nat} {x z:Ou} (hx:l[i]? =some x) (hz:aC z=aC x):sizes (l.set i z)=sizes l:=by
 induction l generalizing i with
 |nil=>simp at hx
 |cons a r ih=>
  cases i with
  |zero=>
   simp at hx;subst hx;simp only[List.set_cons_zero,jE,hz]
  |succ i=>simp only[List.set_cons_succ,jE,ih (by simpa using hx)]
theorem qO.Lt {st:Sd} (h:qO st) {i:Nat} {x z:Ou} (hx:st.out[i]? =some x) (hps:z.ps=x.ps) (ha:z.bY=x.bY) (hn:x.bY=true→z.pend= []) (hp:∀r∈z.pend,r.1≤r.2) (b:Bool):
 qO {st with out:=st.out.set i z,failed:=b}:=by
 have hxm:x∈st.out:=List.mem_of_getElem? hx;have hsz:aC z=aC x:=by unfold aC;rw[hps]
 refine {tk:= ?_,le:=h.le,pos:=h.pos,oq:=fun y hy=> ?_,ak:=fun y hy hya=> ?_,pr:=fun y hy=> ?_,w:=by simpa using h.w,f:=h.f,pl:=fun h1 h2=> ?_,fr:=h.fr,hd:=fun y r hy=> ?_}
 ·show st.taken=st.front+sizes (st.out.set i z)
  rw[MC hx hsz];exact h.tk
 ·rcases vK hy with rfl|hy
  ·rw[hsz];exact h.oq x hxm
  ·exact h.oq y hy
 ·rcases vK hy with rfl|hy
  ·exact hn (ha ▸ hya)
  ·exact h.ak y hy hya
 ·rcases vK hy with rfl|hy
  ·exact hp
  ·exact h.pr y hy
 ·show st.polled=(st.first+(st.out.set i z).length+1023)%1024
  rw[List.length_set];refine h.pl h1 (fun e=> ?_);rw[e] at hx;simp at hx
 ·have hy':st.out.set i z=y::r:=hy;cases hl:st.out with
  |nil=>rw[hl] at hy';simp at hy'
  |cons a t=>
   have ha0:=h.hd a t hl;rw[hl] at hy' hx;cases i with
   |zero=>
    simp at hx hy';rw[←hy'.1,ha,←hx];exact ha0
   |succ i=>
    simp at hy';rw[←hy'.1];exact ha0
theorem qO.clock {st:Sd} (h:qO st) (now:Int):qO (fO st now):= {tk:=h.tk,le:=h.le,pos:=h.pos,oq:=h.oq,ak:=h.ak,pr:=h.pr,w:=h.w,f:=h.f,pl:=h.pl,fr:=h.fr,hd:=h.hd}
theorem GU.clock {st:Sd} (h:GU st) (now:Int):GU (fO st now):=h
theorem dz.clock {st:Sd} (h:dz st) (now:Int):dz (fO st now):= {h.toqO.clock now with ti:=h.ti.clock now}
theorem zz (c:Cf) (x:Ou) (l:List (Nat × Nat)):(iF c x l).1.ps=x.ps∧(iF c x l).1.bY=x.bY∧(iF c x l).1.pend=l∧(iF c x l).1.sn=x.sn∧(iF c x l).1.s=x.s∧(iF c x l).1.e=x.e:=by
 unfold iF;split<;>exact ⟨rfl,rfl,rfl,rfl,rfl,rfl⟩
theorem qO.nO {st:Sd} (c:Cf) (h:qO st) (ho:st.fH=true):dz (dY c st):=by
 unfold dY;by_cases hi:kH st=false
 ·rw[if_pos hi];refine {h with ti:=fun h1 _=> ?_};have hn:¬((∀x∈st.out,x.pend= [])∧(st.taken=dx st∨512≤st.out.length)):=fun e=>by rw[Az.2 e] at hi;cases hi
  refine .inr ⟨ho,?_⟩;refine Classical.byContradiction fun hc=>hn ⟨fun x hx=> ?_,.inl h1⟩
  exact Classical.byContradiction fun hp=>hc ⟨x,hx,hp⟩
 ·rw[if_neg hi];cases hl:st.out with
  |nil=>
   simp only[List.findIdx?_nil];exact {h with ti:=fun _ _=> .inl (by rw[hl];simp)}
  |cons x r=>
   have hx:=h.hd x r hl;have hf:(x::r).findIdx? (fun x=> !x.bY)=some 0:=by rw[List.findIdx?_cons];simp[hx]
   rw[hf];simp only[List.getElem?_cons_zero];obtain ⟨p1,p2,p3,_⟩:=zz c x [(0,aC x-1)];have hw:=h.Lt (i:=0) (x:=x) (z:=(iF c x [(0,aC x-1)]).1) (by rw[hl];rfl) p1 p2 (fun e=>by rw[hx] at e;cases e) (fun q hq=>by rw[p3] at hq;simp at hq;rw[hq];exact Nat.zero_le _) (st.failed||(iF c x [(0,aC x-1)]).2);refine {hw with ti:=fun _ _=> .inr ⟨ho,(iF c x [(0,aC x-1)]).1,?_,by rw[p3];simp⟩};show _∈st.out.set 0 _
   rw[hl];simp
theorem dz.SG {st:Sd} (c:Cf) (h:dz st):dz (gV c st):=by
 unfold gV;split
 ·exact h
 ·refine qO.nO c ?_ rfl;exact {tk:=h.tk,le:=h.le,pos:=h.pos,oq:=h.oq,ak:=h.ak,pr:=h.pr,w:=h.w,f:=h.f,pl:=h.pl,fr:=h.fr,hd:=h.hd}
theorem dz.tick {st:Sd} (c:Cf) (h:dz st) (now:Int):dz (eX c st now):=(h.clock now).SG c
theorem dz.iK {st:Sd} (h:dz st) {x:List UInt8} (hx:1≤x.length):dz (eG st x):=by
 have hh:dx (eG st x)=dx st+x.length:=by simp only[dx,eG,oU,je];simp[aj]
 have hle:=h.le;have hne:(eG st x).taken=dx (eG st x)→False:=fun e=>by
  rw[hh] at e;have:(eG st x).taken=st.taken:=rfl;omega
 refine {tk:=h.tk,le:= ?_,pos:=fun y hy=> ?_,oq:=h.oq,ak:=h.ak,pr:=h.pr,w:=h.w,f:=h.f,pl:=fun e=>(hne e).elim,fr:=fun y r hy=> ?_,hd:=h.hd,ti:=fun e=>(hne e).elim}
 ·rw[hh];show st.taken≤_
  omega
 ·simp only[eG,List.mem_append,List.mem_singleton] at hy;rcases hy with hy|rfl
  ·exact h.pos y hy
  ·exact hx
 ·show st.front<y.length
  cases hq:st.queue with
  |nil=>
   have hz:dx st=0:=by simp[dx,hq,aj]
   have:=h.tk;have e:st.queue++ [x]=y::r:=hy;rw[hq] at e;simp at e;rw[←e.1];omega
  |cons a t=>
   have e:st.queue++ [x]=y::r:=hy;rw[hq] at e;simp at e;rw[←e.1];exact h.fr a t hq
theorem qO.finish {st:Sd} (c:Cf) (h:InvV st) (hfr:∀x r,st.queue=x::r→st.front<x.length) (hhd:∀x r,st.out=x::r→x.bY=false) (b:Bool)
 (hpl:(b||st.fH||kH st)=false→st.taken=dx st→st.out≠ []→st.polled=(st.first+st.out.length+1023)%1024) (hti:(b||st.fH||kH st)=false→GU st):dz (bK c st b).1:=by
 unfold bK;by_cases hc:(b||st.fH||kH st)=true
 ·rw[if_pos hc];refine {tk:=h.tk,le:=h.le,pos:=h.pos,oq:=h.oq,ak:=h.ak,pr:=h.pr,w:=h.w,f:=h.f,pl:=fun _ h2=> ?_,fr:=hfr,hd:=hhd,ti:=fun _ e=>by cases e};show (bZ st+1023)%1024=(st.first+st.out.length+1023)%1024
  unfold bZ;omega
 ·rw[if_neg hc];exact {h with pl:=hpl (by simpa using hc),fr:=hfr,hd:=hhd,ti:=hti (by simpa using hc)}
theorem dz.again {st:Sd} (c:Cf) (h:dz st) {i:Nat} {x:Ou} (hp:gU st.out=some i) (hx:st.out[i]? =some x) {l:List (Nat × Nat)} (hl:∀r∈l,r.1≤r.2):
 dz (bK c {st with out:=st.out.set i {x with pend:=l}} false).1:=by
 obtain ⟨x',hx',hxp,hbe⟩:=gI hp;rw[hx] at hx';cases hx';have hil:i<st.out.length:=(List.getElem?_eq_some_iff.1 hx).1;have hxa:x.bY=false:=by
  cases ha:x.bY with
  |false=>rfl
  |true=>exact absurd (h.ak x (List.mem_of_getElem? hx) ha) hxp
 have hw:=h.toqO.Lt hx (z:= {x with pend:=l}) rfl rfl (fun e=>by rw[hxa] at e;cases e) hl st.failed;refine qO.finish c hw.toInvV hw.fr hw.hd false (fun _=>hw.pl) (fun hno=> ?_);simp only[Bool.false_or,Bool.or_eq_false_iff] at hno;obtain ⟨aft,aao⟩:=hno;intro h1 h2;have hidle:¬((∀y∈st.out.set i {x with pend:=l},y.pend= [])∧(st.taken=dx st∨512≤(st.out.set i {x with pend:=l}).length)):=fun e=>by rw[Az.2 e] at aao;cases aao
 have hex:∃y∈st.out.set i {x with pend:=l},y.pend≠ []:=Classical.byContradiction fun hc=>hidle ⟨fun y hy=>Classical.byContradiction fun hp=>hc ⟨y,hy,hp⟩,.inl h1⟩
 obtain ⟨y,hym,hyp⟩:=hex;obtain ⟨k,hk⟩:=List.mem_iff_getElem?.1 hym;have hki:i≤k:=by
  rcases Nat.lt_or_ge k i with hlt|hge
  ·rw[List.getElem?_set_ne (by omega)] at hk;exact absurd (hbe k y hlt hk) hyp
  ·exact hge
 rcases h.ti h1 h2 with ht|⟨ho,_⟩
 ·refine .inl fun j z hz hza hzp=> ?_
  have hz':(st.out.set i {x with pend:=l})[j]? =some z:=hz;by_cases hji:j=i
  ·subst hji;rw[List.getElem?_set_self hil] at hz';cases hz';have hkne:k≠j:=fun e=>by
    subst e;rw[List.getElem?_set_self hil] at hk;cases hk;exact hyp hzp
   exact ⟨k,y,by omega,hk,hyp⟩
  ·rw[List.getElem?_set_ne (by omega)] at hz';obtain ⟨q,v,hq,hv,hvp⟩:=ht j z hz' hza hzp;by_cases hqi:q=i
   ·subst hqi;exact ⟨k,y,by omega,hk,hyp⟩
   ·exact ⟨q,v,hq,by show (st.out.set i _)[q]? =some v;rw[List.getElem?_set_ne (by omega)];exact hv,hvp⟩
 ·have:st.fH=false:=aft;rw[this] at ho;cases ho
end
section
theorem yB:∀(ps:List (List UInt8)) (op:List UInt8) (sm e:Bool),ps≠ []→op.length+aj ps=aj (lF op sm ps e).1+(lF op sm ps e).2.1.length
 | [],_,_,_,h=>absurd rfl h
 | [p],op,sm,e,_=>by cases e<;>simp[lF,aj]
 |p::q::r,op,sm,e,_=>by
  have ih:=yB (q::r) [] false e (by simp);simp only[lF,je,List.length_append] at ih ⊢;simp only[List.length_nil] at ih;omega
theorem sj:∀(q:List (List UInt8)) (k:Nat),k≤aj q→(∃d,q=d++(aI q k).1∧aj d+(aI q k).2=k)∧((aI q k).1= []→(aI q k).2=0)∧∀x r,(aI q k).1=x::r→(aI q k).2<x.length
 | [],k,h=>by
  have:k=0:=by simpa[aj] using h
  subst this;exact ⟨⟨[],rfl,rfl⟩,fun _=>rfl,by simp[aI]⟩
 |x::r,k,h=>by
  rw[je] at h;unfold aI;split
  ·rename_i hx;obtain ⟨⟨d,h1,h2⟩,h3,h4⟩:=sj r (k-x.length) (by omega);refine ⟨⟨x::d,?_,?_⟩,h3,h4⟩
   ·rw[List.cons_append,←h1]
   ·rw[je];omega
  ·refine ⟨⟨[],rfl,by simp[aj]⟩,by simp,fun y t e=> ?_⟩;simp at e;rw[←e.1];omega
theorem DZ {st:Sd} (h:InvV st) (n:Int) (hne:(bH n st).ps≠ []):1≤aC (bH n st)∧st.taken+aC (bH n st)≤dx st:=by
 obtain ⟨⟨d,h1,h2⟩,h3,h4⟩:=sj st.queue st.taken h.le;have hne':(kG n ((aI st.queue st.taken).1.length+1) (aI st.queue st.taken).1 (aI st.queue st.taken).2 0 0 0 false).1≠ []:=hne;have hpos:∀s∈(aI st.queue st.taken).1,1≤s.length:=fun s hs=>h.pos s (by rw[h1];simp[hs])
 have hk:=EZ n ((aI st.queue st.taken).1.length+1) (aI st.queue st.taken).1 (aI st.queue st.taken).2 0 0 0 false hpos h4 h3;have hv:=xD n ((aI st.queue st.taken).1.length+1) (aI st.queue st.taken).1 (aI st.queue st.taken).2 false hpos h4 hne';have hs:aC (bH n st)=aj (kG n ((aI st.queue st.taken).1.length+1) (aI st.queue st.taken).1 (aI st.queue st.taken).2 0 0 0 false).1:=rfl;rw[hs];have hh:dx st=aj d+aj (aI st.queue st.taken).1:=by
  unfold dx
  conv=>lhs;rw[h1]
  rw[oU]
 generalize aI st.queue st.taken=Q at*;generalize kG n (Q.1.length+1) Q.1 Q.2 0 0 0 false=R at*;obtain ⟨g,hg1,hg2⟩:=hk.some_ hne';have hj:=yB R.1 ((Q.1.headD []).take Q.2) (decide (0<Q.2)) R.2.1 hne';rw[hg2] at hj;dsimp only at hj;have e1:((Q.1.headD []).take Q.2).length=Q.2:=by
  cases hq:Q.1 with
  |nil=>rw[h3 hq];simp
  |cons x r=>have:=h4 x r hq;simp;omega
 have e2:((R.2.2.1.headD []).take R.2.2.2).length=R.2.2.2∧R.2.2.2≤aj R.2.2.1:=by
  cases hq:R.2.2.1 with
  |nil=>rw[hk.z_ hq];simp
  |cons x r=>have:=hk.lt_ x r hq;rw[je];simp;omega
 rw[e1,e2.1] at hj;have e3:aj Q.1=aj g+aj R.2.2.1:=by rw[hg1,oU]
 have e4:1≤aj R.1:=by
  obtain ⟨p,hp⟩:=List.exists_mem_of_ne_nil _ hne';have:=iI hp;have:=hv.pos p hp;omega
 exact ⟨e4,by have:=e2.2;omega⟩
theorem InvV.add {st:Sd} (h:InvV st) {x:Ou} (h1:1≤aC x) (h2:st.taken+aC x≤dx st) (hp:x.pend= []) (hl:st.out.length<512) (hpl:(eD st x).taken≠dx (eD st x)):InvV (eD st x) where
 tk:=by
  show st.taken+aC x=st.front+sizes (st.out++ [x])
  rw[oQ,h.tk];simp[sizes];omega
 le:=h2
 pos:=h.pos
 oq:=fun y hy=>by
  simp only[eD,List.mem_append,List.mem_singleton] at hy;rcases hy with hy|rfl
  ·exact h.oq y hy
  ·exact h1
 ak:=fun y hy hya=>by
  simp only[eD,List.mem_append,List.mem_singleton] at hy;rcases hy with hy|rfl
  ·exact h.ak y hy hya
  ·exact hp
 pr:=fun y hy r hr=>by
  simp only[eD,List.mem_append,List.mem_singleton] at hy;rcases hy with hy|rfl
  ·exact h.pr y hy r hr
  ·rw[hp] at hr;cases hr
 w:=by simp only[eD,List.length_append,List.length_singleton];omega
 f:=h.f
 pl:=fun e=>absurd e hpl
theorem dz.fresh {st:Sd} (c:Cf) (n:Int) (h:dz st) (hp:gU st.out=none):dz (fA c n st).1:=by
 unfold fA;split
 ·exact h
 ·rename_i hl;split
  ·exact h
  ·rename_i hne;obtain ⟨h1,h2⟩:=DZ h.toInvV n hne;generalize hx:bH n st=x at*;have hxp:x.pend= []:=by rw[←hx];rfl
   have hxa:x.bY=false:=by rw[←hx];rfl
   dsimp only;have hhd:∀y r,(eD st x).out=y::r→y.bY=false:=fun y r e=>by
    have e':st.out++ [x]=y::r:=e;cases ho:st.out with
    |nil=>rw[ho] at e';simp at e';rw[←e'.1];exact hxa
    |cons a t=>rw[ho] at e';simp at e';rw[←e'.1];exact h.hd a t ho
   by_cases ht:(eD st x).taken=dx (eD st x)
   ·have hid:kH (eD st x)=true:=Az.2 ⟨fun y hy=>by
     simp only[eD,List.mem_append,List.mem_singleton] at hy;rcases hy with hy|rfl
     ·exact yA.1 hp y hy
     ·exact hxp,.inl ht⟩
    have aap:(iV c (eD st x)||(eD st x).fH||kH (eD st x))=true:=by rw[hid];simp
    unfold bK;rw[if_pos aap];have hb:InvV (vJ (eD st x) c):= {
     tk:=by
      show st.taken+aC x=st.front+sizes (st.out++ [x])
      rw[oQ,h.tk];simp[sizes];omega
     le:=h2
     pos:=h.pos
     oq:=fun y hy=>by
      simp only[vJ,eD,List.mem_append,List.mem_singleton] at hy;rcases hy with hy|rfl
      ·exact h.oq y hy
      ·exact h1
     ak:=fun y hy hya=>by
      simp only[vJ,eD,List.mem_append,List.mem_singleton] at hy;rcases hy with hy|rfl
      ·exact h.ak y hy hya
      ·exact hxp
     pr:=fun y hy r hr=>by
      simp only[vJ,eD,List.mem_append,List.mem_singleton] at hy;rcases hy with hy|rfl
      ·exact h.pr y hy r hr
      ·rw[hxp] at hr;cases hr
     w:=by simp only[vJ,eD,List.length_append,List.length_singleton];omega
     f:=h.f
     pl:=fun _ _=>by
      show (bZ (eD st x)+1023)%1024=((eD st x).first+(eD st x).out.length+1023)%1024
      unfold bZ;omega}
    exact {hb with fr:=h.fr,hd:=hhd,ti:=fun _ e=>by cases e}
   ·exact qO.finish c (h.toInvV.add h1 h2 hxp (by omega) ht) h.fr hhd _ (fun _ e=>absurd e ht) (fun _ e=>absurd e ht)
end
section
theorem lG:∀l:List Ou,(∃d:List Ou,l=d++(bD l).2.2∧d.length=(bD l).1∧sizes d=(bD l).2.1∧∀x∈d,x.bY=true)∧∀x r,(bD l).2.2=x::r→x.bY=false
 | []=>⟨⟨[],rfl,rfl,rfl,by simp⟩,by simp[bD]⟩
 |x::r=>by
  unfold bD;split
  ·rename_i hx;obtain ⟨⟨d,h1,h2,h3,h4⟩,h5⟩:=lG r;refine ⟨⟨x::d,?_,by simp[h2],by rw[jE,h3,Nat.add_comm],fun y hy=> ?_⟩,h5⟩
   ·rw[List.cons_append,←h1]
   ·rcases List.mem_cons.1 hy with rfl|hy
    ·exact hx
    ·exact h4 y hy
  ·rename_i hx;exact ⟨⟨[],rfl,rfl,rfl,by simp⟩,fun y t e=>by simp at e;rw[←e.1];simpa using hx⟩
theorem xE:∀(q:List (List UInt8)) (f:Nat),(∃d:List (List UInt8),q=d++(gG q f).2.2.2∧d.length=(gG q f).1∧aj d=(gG q f).2.1∧aj d+(gG q f).2.2.1=f)∧∀x r,(gG q f).2.2.2=x::r→(gG q f).2.2.1<x.length
 | [],f=>⟨⟨[],rfl,rfl,rfl,by simp[aj,gG]⟩,by simp[gG]⟩
 |x::r,f=>by
  unfold gG;split
  ·rename_i hx;obtain ⟨⟨d,h1,h2,h3,h4⟩,h5⟩:=xE r (f-x.length);refine ⟨⟨x::d,?_,by simp[h2],by rw[je,h3,Nat.add_comm],by rw[je];dsimp only;omega⟩,h5⟩;rw[List.cons_append,←h1]
  ·exact ⟨⟨[],rfl,rfl,rfl,by simp[aj]⟩,fun y t e=>by simp at e;dsimp only;rw[←e.1];omega⟩
theorem InvV.WL {st:Sd} (h:InvV st):qO (fU st)∧(∃d,st.out=d++(fU st).out∧∀x∈d,x.bY=true)∧((fU st).taken=dx (fU st)→st.taken=dx st):=by
 obtain ⟨⟨d,h1,h2,h3,h4⟩,h5⟩:=lG st.out;obtain ⟨⟨q,g1,g2,g3,g4⟩,g5⟩:=xE st.queue (st.front+(bD st.out).2.1);have e1:(fU st).out=(bD st.out).2.2:=rfl;have e2:(fU st).queue=(gG st.queue (st.front+(bD st.out).2.1)).2.2.2:=rfl;have e3:(fU st).taken=st.taken-(gG st.queue (st.front+(bD st.out).2.1)).2.1:=rfl;have e4:(fU st).front=(gG st.queue (st.front+(bD st.out).2.1)).2.2.1:=rfl;have e5:(fU st).first=(st.first+(bD st.out).1)%1024:=rfl
 have e6:(fU st).polled=st.polled:=rfl;have hsz:sizes st.out=(bD st.out).2.1+sizes (bD st.out).2.2:=by
  conv=>lhs;rw[h1]
  rw[oQ,h3]
 have Lu:dx st=(gG st.queue (st.front+(bD st.out).2.1)).2.1+dx (fU st):=by
  unfold dx;rw[e2]
  conv=>lhs;rw[g1]
  rw[oU,g3]
 have hle:=h.le;have htk:=h.tk;have hmem:∀x,x∈(fU st).out→x∈st.out:=fun x hx=>by rw[h1,←e1];simp[hx]
 have hlen:st.out.length=(bD st.out).1+(fU st).out.length:=by
  conv=>lhs;rw[h1]
  rw[List.length_append,h2,e1]
 rw[←e1] at h5 h1 hsz;rw[←e2] at g5;rw[←e4] at g5;generalize bD st.out=A at*;generalize gG st.queue (st.front+A.2.1)=Q at*;have hinv:qO (fU st):= {
  tk:=by rw[e3,e4];omega
  le:=by rw[e3];omega
  pos:=fun x hx=>h.pos x (by rw[g1,←e2];simp[hx])
  oq:=fun x hx=>h.oq x (hmem x hx)
  ak:=fun x hx=>h.ak x (hmem x hx)
  pr:=fun x hx=>h.pr x (hmem x hx)
  w:=by have:=h.w;omega
  f:=by rw[e5];omega
  pl:=fun t1 t2=>by
   have hne:st.out≠ []:=fun e=>by
    rw[e] at h1;exact t2 (List.append_eq_nil_iff.1 h1.symm).2
   have:=h.pl (by rw[e3] at t1;omega) hne;rw[e5,e6,this];omega
  fr:=g5
  hd:=h5}
 exact ⟨hinv,⟨d,h1,h4⟩,fun e=>by rw[e3] at e;omega⟩
theorem AB (c:Cf) (m:Ou→List (Nat × Nat)) (x:Ou):(dF c m x).1.ps=x.ps:=by
 unfold dF;split
 ·rfl
 ·split
  ·rfl
  ·exact (zz c x _).1
theorem AF (c:Cf) (m:Ou→List (Nat × Nat)) (x:Ou) (hx:x.bY=true→x.pend= []):((dF c m x).1.bY=true→(dF c m x).1.pend= [])∧((dF c m x).1.bY=false→(dF c m x).1.pend≠ []):=by
 unfold dF;by_cases h1:x.bY=true
 ·rw[if_pos h1];exact ⟨hx,fun e=>by rw[h1] at e;cases e⟩
 ·rw[if_neg h1];by_cases h2:m x= []
  ·rw[if_pos h2];exact ⟨fun _=>rfl,fun e=>by cases e⟩
  ·rw[if_neg h2];obtain ⟨_,p2,p3,_⟩:=zz c x (m x);rw[p2,p3];exact ⟨fun e=>absurd e h1,fun _=>h2⟩
theorem JO (c:Cf) (m:Ou→List (Nat × Nat)) (x:Ou) (hx:∀r∈x.pend,r.1≤r.2) (hm:∀r∈m x,r.1≤r.2):∀r∈(dF c m x).1.pend,r.1≤r.2:=by
 unfold dF;by_cases h1:x.bY=true
 ·rw[if_pos h1];exact hx
 ·rw[if_neg h1];by_cases h2:m x= []
  ·rw[if_pos h2];simp
  ·rw[if_neg h2,(zz c x (m x)).2.2.1];exact hm
section
variable (c:Cf) (m:Ou→List (Nat × Nat)) (n:Nat)
theorem lH (l:List Ou):(aY c m n l).1.length=l.length:=by simp[aY];omega
theorem jN (l:List Ou) (i:Nat):(aY c m n l).1[i]? =if i<n then l[i]?.map (fun x=>(dF c m x).1) else l[i]? :=by
 unfold aY;dsimp only;by_cases hi:i<n
 ·rw[if_pos hi];by_cases hl:i<l.length
  ·rw[List.getElem?_append_left (by simp;omega),List.getElem?_map,List.getElem?_take,if_pos hi]
  ·rw[List.getElem?_eq_none (by simp;omega),List.getElem?_eq_none (by omega)];rfl
 ·rw[if_neg hi];by_cases hl:i<l.length
  ·rw[List.getElem?_append_right (by simp;omega),List.getElem?_drop];simp only[List.length_map,List.length_take];rw[show n+(i-min n l.length)=i by omega]
  ·rw[List.getElem?_eq_none (by simp;omega),List.getElem?_eq_none (by omega)]
theorem lI (l:List Ou) (y:Ou) (h:y∈(aY c m n l).1):∃x∈l,y=x∨y=(dF c m x).1:=by
 obtain ⟨i,hi⟩:=List.mem_iff_getElem?.1 h;rw[jN] at hi;split at hi
 ·obtain ⟨x,hx,rfl⟩:=Option.map_eq_some_iff.1 hi;exact ⟨x,List.mem_of_getElem? hx,.inr rfl⟩
 ·exact ⟨y,List.mem_of_getElem? hi,.inl rfl⟩
theorem tL (l:List Ou):sizes (aY c m n l).1=sizes l:=by
 have key:∀a:List Ou,sizes (a.map (fun x=>(dF c m x).1))=sizes a:=by
  intro a
  induction a with
  |nil=>rfl
  |cons x r ih=>rw[List.map_cons,jE,jE,ih];unfold aC;rw[AB]
 unfold aY;dsimp only;rw[oQ,key,←oQ,List.take_append_drop]
end
theorem dz.stat {st:Sd} (c:Cf) (m:Ou→List (Nat × Nat)) (n:Nat) (h:dz st) (_hn:n≤st.out.length) (hm:∀x,∀r∈m x,r.1≤r.2):dz (tK c m n st):=by
 have hv:InvV {st with out:=(aY c m n st.out).1,failed:=st.failed||(aY c m n st.out).2,wait:=st.wait&&decide (n≤om st st.polled)}:= {
  tk:=by
   show st.taken=st.front+sizes (aY c m n st.out).1
   rw[tL];exact h.tk
  le:=h.le
  pos:=h.pos
  oq:=fun y hy=>by
   obtain ⟨x,hx,rfl|rfl⟩:=lI c m n _ y hy
   ·exact h.oq _ hx
   ·unfold aC;rw[AB];exact h.oq x hx
  ak:=fun y hy=>by
   obtain ⟨x,hx,rfl|rfl⟩:=lI c m n _ y hy
   ·exact h.ak _ hx
   ·exact (AF c m x (h.ak x hx)).1
  pr:=fun y hy=>by
   obtain ⟨x,hx,rfl|rfl⟩:=lI c m n _ y hy
   ·exact h.pr _ hx
   ·exact JO c m x (h.pr x hx) (hm x)
  w:=by
   show (aY c m n st.out).1.length≤512
   rw[lH];exact h.w
  f:=h.f
  pl:=fun t1 t2=>by
   show st.polled=(st.first+(aY c m n st.out).1.length+1023)%1024
   rw[lH];refine h.pl t1 (fun e=>t2 ?_);show (aY c m n st.out).1= []
   rw[e];simp[aY]}
 obtain ⟨hw,⟨d,hd1,hd2⟩,ht⟩:=hv.WL;unfold tK;dsimp only;by_cases ho:st.fH=true
 ·have ho2:(fU {st with out:=(aY c m n st.out).1,failed:=st.failed||(aY c m n st.out).2,wait:=st.wait&&decide (n≤om st st.polled)}).fH=true:=ho;rw[if_pos ho2];exact hw.nO c ho2
 ·have ho2:¬(fU {st with out:=(aY c m n st.out).1,failed:=st.failed||(aY c m n st.out).2,wait:=st.wait&&decide (n≤om st st.polled)}).fH=true:=ho;rw[if_neg ho2];refine {hw with ti:=fun t1 t2=> .inl ?_};have htk:st.taken=dx st:=ht t1;have hwt:(st.wait&&decide (n≤om st st.polled))=false:=t2;intro i x hx hxa hxp;have hix:(aY c m n st.out).1[d.length+i]? =some x:=by
   have e:(aY c m n st.out).1=_:=hd1;rw[e,List.getElem?_append_right (by omega),show d.length+i-d.length=i by omega];exact hx
  rw[jN] at hix;have hge:¬d.length+i<n:=fun hlt=>by
   rw[if_pos hlt] at hix;obtain ⟨y,hy,rfl⟩:=Option.map_eq_some_iff.1 hix;exact (AF c m y (h.ak y (List.mem_of_getElem? hy))).2 hxa hxp
  rw[if_neg hge] at hix;have hil:d.length+i<st.out.length:=(List.getElem?_eq_some_iff.1 hix).1;have hwf:st.wait=false:=by
   cases hw':st.wait with
   |false=>rfl
   |true=>
    rw[hw'] at hwt;simp only[Bool.true_and,decide_eq_false_iff_not] at hwt;have hpl:=h.pl htk (fun e=>by rw[e] at hil;simp at hil);have hf:=h.f;have hw5:=h.w;exfalso;apply hwt;unfold om;rw[hpl];omega
  rcases h.ti htk hwf with hA|⟨hb,_⟩
  ·obtain ⟨j,y,hj,hy,hyp⟩:=hA _ x hix hxa hxp;refine ⟨j-d.length,y,by omega,?_,hyp⟩;have e:(aY c m n st.out).1[j]? =some y:=by rw[jN,if_neg (by omega)];exact hy
   have e2:(aY c m n st.out).1=_:=hd1;rw[e2,List.getElem?_append_right (by omega)] at e;exact e
  ·exact absurd hb ho
end
section
structure Pu where
 sn:Nat
 poll:Bool
 seg:Bool
 last:Bool
 off:Nat
 s:Bool
 e:Bool
 ps:List (List UInt8)
def qg (f:Nat→Bool):Nat→Nat→Nat
 |0,k=>k
 |m+1,k=>if f (k+1)=true then qg f m (k+1) else k
theorem su (f:Nat→Bool):∀m k,k≤qg f m k∧qg f m k≤k+m
 |0,k=>⟨aN,aN⟩
 |m+1,k=>by
  unfold qg;split
  ·have:=su f m (k+1);omega
  ·omega
def fP (x:Ou) (fr:Nat) (n:Int) (k:Nat):Bool:=decide (iT ((aP x.ps 0 fr k x.ps.length).length:Int)+2+((k:Int)-(fr:Int))≤n)
def gQ (st:Sd) (i:Nat) (x:Ou) (l:List (Nat × Nat)):Sd:= {st with out:=st.out.set i {x with pend:=l}}
def fQ (c:Cf) (n:Int) (st:Sd) (i:Nat) (x:Ou):Sd × Option Pu:=
 match x.pend with
 | []=>(st,none)
 |(fr,e0)::rest=>
  if fr=0∧e0+1=aC x∧iT (x.ps.length:Int)+(aC x:Int)≤n then
   ((bK c (gQ st i x []) false).1,some ⟨x.sn,(bK c (gQ st i x []) false).2,false,false,0,x.s,x.e,x.ps⟩)
  else if qg (fP x fr n) (e0+1-fr) fr=fr then (st,none)
  else
   (
    (bK c (gQ st i x (if qg (fP x fr n) (e0+1-fr) fr=e0+1 then rest else (qg (fP x fr n) (e0+1-fr) fr,e0)::rest)) false).1,
    some ⟨x.sn,(bK c (gQ st i x (if qg (fP x fr n) (e0+1-fr) fr=e0+1 then rest else (qg (fP x fr n) (e0+1-fr) fr,e0)::rest)) false).2,true,decide (qg (fP x fr n) (e0+1-fr) fr=aC x),fr,
     aZ x.ps x.s 0 fr x.ps.length,cu x.ps x.e 0 (qg (fP x fr n) (e0+1-fr) fr) x.ps.length,aP x.ps 0 fr (qg (fP x fr n) (e0+1-fr) fr) x.ps.length⟩)
def mM (c:Cf) (st:Sd) (now n:Int):Sd × Option Pu × Bool:=
 if (eX c st now).failed=true then (eX c st now,none,true)
 else match gU (eX c st now).out with
  |some i=>match (eX c st now).out[i]? with
   |some x=>((fQ c n (eX c st now) i x).1,(fQ c n (eX c st now) i x).2,false)
   |none=>(eX c st now,none,false)
  |none=>match fA c n (eX c st now) with
   |(s2,none)=>(s2,none,false)
   |(s2,some (x,b))=>(s2,some ⟨x.sn,b,false,false,0,x.s,x.e,x.ps⟩,false)
theorem dz.fQ {st:Sd} (c:Cf) (n:Int) (h:dz st) {i:Nat} {x:Ou} (hp:gU st.out=some i) (hx:st.out[i]? =some x):dz (fQ c n st i x).1:=by
 unfold Go.Proofs.YtbhiklnljiehiaaGreat.fQ;have hpr:=h.pr x (List.mem_of_getElem? hx);cases hl:x.pend with
 |nil=>exact h
 |cons r rest=>
  obtain ⟨fr,e0⟩:=r;rw[hl] at hpr;have hr:fr≤e0:=hpr (fr,e0) (by simp);have hb:=su (fP x fr n) (e0+1-fr) fr;dsimp only;split
  ·exact h.again c hp hx (by simp)
  ·split
   ·exact h
   ·refine h.again c hp hx fun q hq=> ?_
    split at hq
    ·exact hpr q (by simp[hq])
    ·rcases List.mem_cons.1 hq with rfl|hq
     ·dsimp only;omega
     ·exact hpr q (by simp[hq])
theorem dz.kI {st:Sd} (c:Cf) (h:dz st) (now n:Int):dz (mM c st now n).1:=by
 have h1:=h.tick c now;unfold mM;split
 ·exact h1
 ·cases hp:gU (eX c st now).out with
  |some i=>
   obtain ⟨x,hx,_⟩:=gI hp;simp only[hx];exact h1.fQ c n hp hx
  |none=>
   have h2:=h1.fresh c n hp;dsimp only;generalize fA c n (eX c st now)=R at*;obtain ⟨s2,_|⟨x,b⟩⟩:=R
   ·exact h2
   ·exact h2
end
section

end
section

end
section
structure Nk where
 sn:Int
 part:Bool
 fr:Int
 lt:Int
def kJ (aJ sn:Int):Int:=(aJ-sn)%1024
def iB (aJ:Int) (n:Nk):Bool:=
 (decide (0≤n.sn)&&decide (n.sn<1024))&&((decide (1≤kJ aJ n.sn)&&decide (kJ aJ n.sn≤512))&&
  (if n.part=true then decide (0≤n.fr)&&(decide (n.fr≤n.lt)&&decide (n.lt≤32767)) else decide (n.fr=0)&&decide (n.lt=0)))
def mO (aJ:Int) (a b:Nk):Bool:=
 decide (kJ aJ b.sn<kJ aJ a.sn)||(decide (a.sn=b.sn)&&(a.part&&(b.part&&decide (a.lt<b.fr))))
def uj (aJ:Int):List Nk→Bool
 | []=>true
 | [n]=>iB aJ n
 |a::b::r=>iB aJ a&&(mO aJ a b&&uj aJ (b::r))
def bS (aJ:Int) (l:List Nk):Bool:=(decide (0≤aJ)&&decide (aJ≤1023))&&(decide (l.length≤512)&&uj aJ l)
def gL (l:List (Nat × Nat)) (x:Nat × Nat):List (Nat × Nat):=
 match l.getLast? with
 |none=> [x]
 |some y=>if y.2+1=x.1 then l.dropLast++ [(y.1,x.2)] else l++ [x]
def gD (n:Nk):Nat × Nat:=if n.part=true then (n.fr.toNat,n.lt.toNat) else (0,32767)
def fI (size:Nat) (l:List (Nat × Nat)) (n:Nk):List (Nat × Nat):=
 if min (gD n).2 (size-1)<(gD n).1 then l else gL l ((gD n).1,min (gD n).2 (size-1))
def cO (dZ:List Nk) (x:Ou):List (Nat × Nat):=(dZ.filter (fun n=>decide (n.sn=(x.sn:Int)))).foldl (fI (aC x)) []
theorem ME {l:List (Nat × Nat)} {x:Nat × Nat} (h:∀r∈l,r.1≤r.2) (hx:x.1≤x.2):∀r∈gL l x,r.1≤r.2:=by
 unfold gL;cases hl:l.getLast? with
 |none=>simpa using hx
 |some y=>
  have hy:=h y (List.mem_of_getLast? hl);dsimp only;split
  ·rename_i e;intro r hr;rcases List.mem_append.1 hr with hr|hr
   ·exact h r (List.dropLast_subset l hr)
   ·simp at hr;rw[hr];dsimp only;omega
  ·intro r hr;rcases List.mem_append.1 hr with hr|hr
   ·exact h r hr
   ·simp at hr;rw[hr];exact hx
theorem OY (dZ:List Nk) (x:Ou):∀r∈cO dZ x,r.1≤r.2:=by
 unfold cO;generalize dZ.filter (fun n=>decide (n.sn=(x.sn:Int)))=l;have key:∀(l:List Nk) (a:List (Nat × Nat)),(∀r∈a,r.1≤r.2)→∀r∈l.foldl (fI (aC x)) a,r.1≤r.2:=by
  intro l
  induction l with
  |nil=>intro a ha;simpa using ha
  |cons n r ih=>
   intro a ha;rw[List.foldl_cons];refine ih _ ?_;unfold fI;split
   ·exact ha
   ·exact ME ha (by dsimp only;omega)
 exact key l [] (by simp)
def eY (st:Sd) (sn:Int):Int:=(sn-(st.first:Int))%1024
def nP (c:Cf) (st:Sd) (now aJ:Int) (dZ:List Nk):Sd × Int:=
 if bS aJ dZ=false then (st,2)
 else if (st.out.length:Int)<eY st aJ∨dZ.any (fun n=>decide (eY st aJ≤eY st n.sn))=true then (fO st now,6)
 else
  let s2:=tK c (cO dZ) (eY st aJ).toNat (fO st now)
  (s2,if s2.failed=true then 8 else 0)
theorem dz.status {st:Sd} (h:dz st) (c:Cf) (now aJ:Int) (dZ:List Nk):dz (nP c st now aJ dZ).1:=by
 unfold nP;split
 ·exact h
 ·split
  ·exact h.clock now
  ·rename_i hr;have hn:(eY st aJ).toNat≤(fO st now).out.length:=by
    have e:(fO st now).out.length=st.out.length:=rfl;rw[e];have:=not_or.1 hr;omega
   exact (h.clock now).stat c (cO dZ) _ hn (OY dZ)
end
end Go.Proofs.YtbhiklnljiehiaaGreat
