/- law36: sent: what a transmitter sends in grants of given sizes (plain). law36: valid, same, lists. law36: lists. Maps with numbers for keys, whose elements are values as they lie. amrecv: the receiver's memory. amrecv: none, place, has, count, complete, from, must. amrecv: complete, from, waits, goes. 'append(s, make([]T, k)...)' onto a row of its own. -/
import Derived.Test.YtiecgfahidpldaaGreatM3aa
import Derived.Test.YtiecgfahidpldaaGreatM3ad
import Derived.Test.YtiecgfahidpldaaGreatM3ae
import Derived.Test.YtiecgfahidpldaaGreatM3ai
import Derived.Test.YtiecgfahidpldaaGreatM3ar
import Derived.BigQuiet
import Derived.Deep.RegionHeld3
import Derived.Deep.RegionLaw
import Derived.Maps.OwnSet
import Derived.Deep.DeepCutAuto
import Derived.BigRegion
import Derived.Lib.AppendZerosOnto
namespace Go.Proofs.YtiecgfahidpldaaGreat
section
def phi (left:List (List UInt8)) (sent:Nat):Nat:=au left-sent+2*left.length
theorem bW (x:List UInt8) (r:List (List UInt8)):au (x::r)=x.length+au r:=by simp[au]
theorem Ky (n:Int):∀(f:Nat) (left:List (List UInt8)) (sent cnt gN size:Nat) (e:Bool),(∀x r,left=x::r→sent<x.length)→(left= []→sent=0)→(∀s∈left,1≤s.length)→
 phi (jD n f left sent cnt gN size e).2.2.1 (jD n f left sent cnt gN size e).2.2.2≤phi left sent
 |0,left,sent,cnt,gN,size,e,_,_,_=>by rw[jD];exact Nat.le_refl _
 |f+1,[],sent,cnt,gN,size,e,_,_,_=>by rw[jD];exact Nat.le_refl _
 |f+1,x::rest,sent,cnt,gN,size,e,h1,h2,h3=>by
  have hs:=h1 x rest rfl;rw[jD];split
  ·exact Nat.le_refl _
  split
  ·exact Nat.le_refl _
  generalize (min (n-gW ((cnt:Int)+1)) 32767-(size:Int)).toNat=room;split
  ·simp only[phi,bW,List.length_cons];omega
  ·have ih:=Ky n f rest 0 (cnt+1) (x.length-sent) (size+(x.length-sent)) true (fun y r hy=>h3 y (by rw[hy];simp)) (fun _=>rfl) (fun s hm=>h3 s (by simp[hm]));refine Nat.le_trans ih ?_;simp only[phi,bW,List.length_cons];omega
theorem CV (n:Int) (hn:5≤n) (x:List UInt8) (rest:List (List UInt8)) (sent f:Nat) (hs:sent<x.length) (h3:∀s∈rest,1≤s.length):
 (jD n (f+1) (x::rest) sent 0 0 0 false).1≠ []∧phi (jD n (f+1) (x::rest) sent 0 0 0 false).2.2.1 (jD n (f+1) (x::rest) sent 0 0 0 false).2.2.2+3≤phi (x::rest) sent:=by
 have hh:gW ((0:Nat)+1:Int)=2:=by decide
 rw[jD,if_neg (by omega),hh,if_neg (by omega)];have hroom:3≤(min (n-2) 32767-((0:Nat):Int)).toNat:=by omega
 generalize (min (n-2) 32767-((0:Nat):Int)).toNat=room at*;split
 ·refine ⟨by simp,?_⟩;simp only[phi,bW,List.length_cons];omega
 ·refine ⟨by simp,?_⟩;have ih:=Ky n f rest 0 (0+1) (x.length-sent) (0+(x.length-sent)) true (fun y r hy=>h3 y (by rw[hy];simp)) (fun _=>rfl) h3;refine Nat.le_trans (Nat.add_le_add_right ih 3) ?_;simp only[phi,bW,List.length_cons];omega
def dx (sizes:List UInt8) (i:Nat):Nat:=if sizes= [] then 20 else 5+(sizes[min i (sizes.length-1)]?.getD 0).toNat%60
theorem vK (sizes:List UInt8) (i:Nat):5≤dx sizes i∧dx sizes i≤64:=by
 unfold dx;split
 ·omega
 ·have:=Nat.mod_lt (sizes[min i (sizes.length-1)]?.getD 0).toNat (by omega:60>0);omega
def bO (sizes:List UInt8) (aj:List (List UInt8)):Nat→List (List UInt8) × Nat
 |0=>(aj,0)
 |i+1=>(jD (dx sizes i) ((bO sizes aj i).1.length+1) (bO sizes aj i).1 (bO sizes aj i).2 0 0 0 false).2.2
structure RZ (left:List (List UInt8)) (sent:Nat):Prop where
 lt:∀x r,left=x::r→sent<x.length
 z:left= []→sent=0
 len:∀s∈left,1≤s.length∧s.length≤60
theorem RZ.step {left:List (List UInt8)} {sent:Nat} (h:RZ left sent) (n:Int) (f:Nat):RZ (jD n f left sent 0 0 0 false).2.2.1 (jD n f left sent 0 0 0 false).2.2.2:=by
 have hk:=Dp n f left sent 0 0 0 false (fun s hs=>(h.len s hs).1) h.lt h.z;refine ⟨hk.lt_,hk.z_,fun s hs=> ?_⟩;by_cases hne:(jD n f left sent 0 0 0 false).1= []
 ·have:=hk.none_ hne;rw[this] at hs;exact h.len s hs
 ·obtain ⟨g,hg,_⟩:=hk.some_ hne;exact h.len s (by rw[hg];simp[hs])
theorem lH (sizes:List UInt8) {aj:List (List UInt8)} (h:∀s∈aj,1≤s.length∧s.length≤60):∀i,RZ (bO sizes aj i).1 (bO sizes aj i).2
 |0=>⟨fun x r e=>by have:=h x (by simp only[bO] at e;rw[e];simp);simp only[bO];omega,fun _=>rfl,h⟩
 |i+1=>(lH sizes h i).step _ _
theorem Gp (sizes:List UInt8) {aj:List (List UInt8)} (h:∀s∈aj,1≤s.length∧s.length≤60):∀k,(∃N,N≤k∧(bO sizes aj N).1= []∧∀i,i<N→(bO sizes aj i).1≠ [])∨((∀i,i≤k→(bO sizes aj i).1≠ [])∧phi (bO sizes aj k).1 (bO sizes aj k).2+3*k≤phi aj 0)
 |0=>by
  by_cases h0:(bO sizes aj 0).1= []
  ·exact .inl ⟨0,Nat.le_refl _,h0,fun i hi=>by omega⟩
  ·exact .inr ⟨fun i hi=>by rw[show i=0 by omega];exact h0,Nat.le_refl _⟩
 |k+1=>by
  rcases Gp sizes h k with ⟨N,h1,h2,h3⟩|⟨h1,h2⟩
  ·exact .inl ⟨N,by omega,h2,h3⟩
  ·by_cases h0:(bO sizes aj (k+1)).1= []
   ·exact .inl ⟨k+1,Nat.le_refl _,h0,fun i hi=>h1 i (by omega)⟩
   ·refine .inr ⟨fun i hi=> ?_,?_⟩
    ·rcases Nat.lt_or_ge i (k+1) with hlt|hge
     ·exact h1 i (by omega)
     ·rw[show i=k+1 by omega];exact h0
    ·have ho:=lH sizes h k;have hne:=h1 k (Nat.le_refl _);have hsz:=(vK sizes k).1;simp only[bO];generalize bO sizes aj k=T at*;obtain ⟨left,sent⟩:=T;cases left with
     |nil=>exact absurd rfl hne
     |cons x rest=>
      have:=(CV (dx sizes k) (by omega) x rest sent (rest.length+1) (ho.lt x rest rfl) (fun s hs=>(ho.len s (by simp[hs])).1)).2;dsimp only at h2;simp only[List.length_cons] at this ⊢;omega
theorem OP (sizes:List UInt8) {aj:List (List UInt8)} (h:∀s∈aj,1≤s.length∧s.length≤60) (h8:aj.length≤8):∃N,N≤166∧(bO sizes aj N).1= []∧∀i,i<N→(bO sizes aj i).1≠ []:=by
 have hsum:∀l:List (List UInt8),(∀s∈l,s.length≤60)→au l≤60*l.length:=by
  intro l
  induction l with
  |nil=>intro _;simp[au]
  |cons x r ih=>
   intro hl;have h1:=hl x (by simp);have h2:=ih (fun s hs=>hl s (by simp[hs]));rw[bW];simp only[List.length_cons];omega
 have hs:=hsum aj (fun s hs=>(h s hs).2);rcases Gp sizes h 166 with hh|⟨_,h2⟩
 ·exact hh
 ·unfold phi at h2;omega
theorem CW (n:Int):∀(f:Nat) (left:List (List UInt8)) (sent cnt gN size:Nat) (e:Bool),(∀s∈left,s.length≤60)→∀q∈(jD n f left sent cnt gN size e).1,q.length≤60
 |0,left,sent,cnt,gN,size,e,_=>by rw[jD];simp
 |f+1,[],sent,cnt,gN,size,e,_=>by rw[jD];simp
 |f+1,x::rest,sent,cnt,gN,size,e,h=>by
  have hx:=h x (by simp);rw[jD];split
  ·simp
  split
  ·simp
  split
  ·intro q hq;simp only[List.mem_cons,List.not_mem_nil,or_false] at hq;rw[hq,List.length_take,List.length_drop];omega
  ·intro q hq;simp only[List.mem_cons] at hq;rcases hq with rfl|hq
   ·rw[List.length_drop];omega
   ·exact CW n f rest 0 _ _ _ true (fun s hs=>h s (by simp[hs])) q hq
theorem CX:∀(l:List (List UInt8)) (t k:Nat),aK l (t+k)=aK (aK l t).1 ((aK l t).2+k)
 | [],t,k=>by simp[aK]
 |x::r,t,k=>by
  by_cases h:x.length≤t
  ·have e:aK (x::r) t=aK r (t-x.length):=by rw[aK,if_pos h]
   rw[e,←CX r (t-x.length) k,aK,if_pos (by omega),show t+k-x.length=t-x.length+k by omega]
  ·have e:aK (x::r) t=(x::r,t):=by rw[aK,if_neg h]
   rw[e]
theorem nZ {l:List (List UInt8)} {s:Nat} (h:∀x r,l=x::r→s<x.length):aK l s=(l,s):=by
 cases l with
 |nil=>rfl
 |cons x r=>rw[aK,if_neg (by have:=h x r rfl;omega)]
theorem Gq (n:Int):∀(f:Nat) (left:List (List UInt8)) (sent cnt gN size:Nat) (e:Bool),(∀x r,left=x::r→sent<x.length)→(∀s∈left,1≤s.length)→
 aK left (sent+au (jD n f left sent cnt gN size e).1)=(jD n f left sent cnt gN size e).2.2
 |0,left,sent,cnt,gN,size,e,h1,_=>by rw[jD];exact nZ h1
 |f+1,[],sent,cnt,gN,size,e,h1,_=>by rw[jD];exact nZ h1
 |f+1,x::rest,sent,cnt,gN,size,e,h1,h2=>by
  have hs:=h1 x rest rfl;rw[jD];split
  ·exact nZ h1
  split
  ·exact nZ h1
  generalize (min (n-gW ((cnt:Int)+1)) 32767-(size:Int)).toNat=room;split
  ·rename_i hlt;have hl:((x.drop sent).take room).length=room:=by rw[List.length_take,List.length_drop];omega
   simp only[au,List.map_cons,List.map_nil,List.sum_cons,List.sum_nil,hl,Nat.add_zero];rw[aK,if_neg (by omega)]
  ·have ih:=Gq n f rest 0 (cnt+1) (x.length-sent) (size+(x.length-sent)) true (fun y r hy=>by have:=h2 y (by simp[hy]);omega) (fun s hm=>h2 s (by simp[hm]));dsimp only;rw[←ih,aK,if_pos (by rw[bW,List.length_drop];omega)];rw[bW,List.length_drop]
   congr 1
   omega
theorem Kz (n:Int):∀(f:Nat) (left:List (List UInt8)) (sent cnt gN size:Nat) (e:Bool),(∀x r,left=x::r→sent<x.length)→(left= []→sent=0)→(∀s∈left,1≤s.length)→
 sent+au (jD n f left sent cnt gN size e).1≤au left
 |0,left,sent,cnt,gN,size,e,h1,h2,_=>by
  rw[jD];cases left with
  |nil=>have:=h2 rfl;simp[au];omega
  |cons x r=>have:=h1 x r rfl;rw[bW];simp[au];omega
 |f+1,[],sent,cnt,gN,size,e,_,h2,_=>by rw[jD];have:=h2 rfl;simp[au];omega
 |f+1,x::rest,sent,cnt,gN,size,e,h1,h2,h3=>by
  have hs:=h1 x rest rfl;have hr:au (x::rest)=x.length+au rest:=bW x rest;have h0:au ([]:List (List UInt8))=0:=rfl;rw[jD];split
  ·dsimp only;omega
  split
  ·dsimp only;omega
  generalize (min (n-gW ((cnt:Int)+1)) 32767-(size:Int)).toNat=room;split
  ·rename_i hlt;have hl:((x.drop sent).take room).length=room:=by rw[List.length_take,List.length_drop];omega
   simp only[bW,hl];omega
  ·have ih:=Kz n f rest 0 (cnt+1) (x.length-sent) (size+(x.length-sent)) true (fun y r hy=>by have:=h3 y (by simp[hy]);omega) (fun _=>rfl) (fun s hm=>h3 s (by simp[hm]));dsimp only;rw[bW,List.length_drop];omega
def cS:Cf:=⟨3,0,1000,0,0,64,100000⟩
def kM (sizes:List UInt8) (aj:List (List UInt8)):Nat→Sd
 |0=> {fF with queue:=aj}
 |i+1=>(dw cS (kM sizes aj i) 0 (dx sizes i)).1
def aH (sizes:List UInt8) (aj:List (List UInt8)) (i:Nat):Ou:=
 ⟨i,decide ((bO sizes aj i).2=0),(jD (dx sizes i) ((bO sizes aj i).1.length+1) (bO sizes aj i).1 (bO sizes aj i).2 0 0 0 false).2.1,(jD (dx sizes i) ((bO sizes aj i).1.length+1) (bO sizes aj i).1 (bO sizes aj i).2 0 0 0 false).1,false,[],0⟩
structure lu (sizes:List UInt8) (aj:List (List UInt8)) (i:Nat) (st:Sd):Prop where
 q:st.queue=aj
 d:st.done=0
 fr:st.front=0
 f0:st.first=0
 out:st.out=(List.range i).map (aH sizes aj)
 tk:aK aj st.taken=bO sizes aj i
 le:st.taken≤au aj
 w:st.wait=true→0<st.iB
 fa:st.failed=false
 nw:st.now=0
 ow:st.fD=false
theorem pz (sizes:List UInt8) {aj:List (List UInt8)} (h:∀s∈aj,1≤s.length∧s.length≤60) {i:Nat} (hi:(bO sizes aj i).1≠ []):(aH sizes aj i).ps≠ []:=by
 have ho:=lH sizes h i;have hsz:=(vK sizes i).1;unfold aH;dsimp only;generalize bO sizes aj i=T at*;obtain ⟨left,sent⟩:=T;cases left with
 |nil=>exact absurd rfl hi
 |cons x rest=>exact (CV (dx sizes i) (by omega) x rest sent (rest.length+1) (ho.lt x rest rfl) (fun s hs=>(ho.len s (by simp[hs])).1)).1
theorem lu.start (sizes:List UInt8) {aj:List (List UInt8)} (h:∀s∈aj,1≤s.length∧s.length≤60):lu sizes aj 0 (kM sizes aj 0):=
 ⟨rfl,rfl,rfl,rfl,rfl,nZ (l:=aj) (s:=0) (fun x r e=>by have:=h x (by rw[e];simp);omega),Nat.zero_le _,fun e=>(by cases e),rfl,rfl,rfl⟩
section
variable {sizes:List UInt8} {aj:List (List UInt8)} {i:Nat} {st:Sd}
theorem lu.tick (h:lu sizes aj i st):gG cS st 0=st:=by
 have hn:=h.nw;have hc:fu st 0=st:=by
  unfold fu;rw[hn];obtain ⟨⟩:=st;simp only at hn;subst hn;rfl
 unfold gG fZ;rw[hc,if_pos];cases hw:st.wait with
 |false=>exact .inl rfl
 |true=>exact .inr (by rw[hn];exact h.w hw)
theorem lu.chunk (h:lu sizes aj i st) (hi:i<512):dK (dx sizes i) st=aH sizes aj i:=by
 unfold dK aH;rw[h.q,h.tk];have hl:cB st=i:=by
  unfold cB;rw[h.f0,h.out];simp;omega
 rw[hl]
theorem lu.pM (hs:∀s∈aj,1≤s.length∧s.length≤60) (h:lu sizes aj i st) (hi:i<512) (hne:(bO sizes aj i).1≠ []):
 ∃b,(dw cS st 0 (dx sizes i)).2=(some ⟨i,b,false,false,0,(aH sizes aj i).s,(aH sizes aj i).e,(aH sizes aj i).ps⟩,0)∧lu sizes aj (i+1) (dw cS st 0 (dx sizes i)).1:=by
 have hp:fV st.out=none:=by
  rw[mO,h.out];intro x hx;obtain ⟨j,_,rfl⟩:=List.mem_map.1 hx;rfl
 have hlen:st.out.length=i:=by rw[h.out];simp
 have hx:=pz sizes hs hne;have hg:kU cS st 0 (dx sizes i)=((aR cS (dR st (aH sizes aj i)) (iU cS (dR st (aH sizes aj i)))).1,some ⟨i,(aR cS (dR st (aH sizes aj i)) (iU cS (dR st (aH sizes aj i)))).2,false,false,0,(aH sizes aj i).s,(aH sizes aj i).e,(aH sizes aj i).ps⟩,false):=by
  unfold kU;rw[h.tick,if_neg (by rw[h.fa];simp),hp];dsimp only;unfold iQ;rw[if_neg (by omega),h.chunk hi,if_neg hx];rfl
 have hr:dw cS st 0 (dx sizes i)=((aR cS (dR st (aH sizes aj i)) (iU cS (dR st (aH sizes aj i)))).1,some ⟨i,(aR cS (dR st (aH sizes aj i)) (iU cS (dR st (aH sizes aj i)))).2,false,false,0,(aH sizes aj i).s,(aH sizes aj i).e,(aH sizes aj i).ps⟩,0):=by
  unfold dw;rw[if_neg (by rw[h.fa];simp),if_neg (by omega),hg];rfl
 rw[hr];refine ⟨_,rfl,?_⟩;have ho:=lH sizes hs i;have hk:=Gq (dx sizes i) ((bO sizes aj i).1.length+1) (bO sizes aj i).1 (bO sizes aj i).2 0 0 0 false ho.lt (fun s hm=>(ho.len s hm).1);have htk:aK aj (st.taken+ay (aH sizes aj i))=bO sizes aj (i+1):=by
  rw[CX,h.tk];exact hk
 have hle:st.taken+ay (aH sizes aj i)≤au aj:=by
  have hk2:=Kz (dx sizes i) ((bO sizes aj i).1.length+1) (bO sizes aj i).1 (bO sizes aj i).2 0 0 0 false ho.lt ho.z (fun s hm=>(ho.len s hm).1);obtain ⟨⟨d,e1,e2⟩,_⟩:=nQ aj st.taken h.le;rw[h.tk] at e1 e2;have e3:au aj=au d+au (bO sizes aj i).1:=by
   conv=>lhs;rw[e1]
   simp[au]
  have e4:ay (aH sizes aj i)=au (jD (dx sizes i) ((bO sizes aj i).1.length+1) (bO sizes aj i).1 (bO sizes aj i).2 0 0 0 false).1:=rfl;omega
 have key:lu sizes aj (i+1) (dR st (aH sizes aj i)):=
  ⟨h.q,h.d,h.fr,h.f0,by show st.out++ [_]=_;rw[h.out,List.range_succ,List.map_append];rfl,htk,hle,h.w,h.fa,h.nw,h.ow⟩
 unfold aR;split
 ·exact ⟨key.q,key.d,key.fr,key.f0,key.out,key.tk,key.le,fun _=>(by show (0:Int)<IntKind.i64.wrap ((dR st (aH sizes aj i)).now+1000);rw[key.nw];decide),key.fa,key.nw,rfl⟩
 ·exact key
theorem jI (hs:∀s∈aj,1≤s.length∧s.length≤60) {N:Nat} (hN:N≤166) (hne:∀i,i<N→(bO sizes aj i).1≠ []):∀i,i≤N→lu sizes aj i (kM sizes aj i)
 |0,_=>lu.start sizes hs
 |i+1,hi=>(lu.pM hs (jI hs hN hne i (by omega)) (by omega) (hne i (by omega))).choose_spec.2
def zx (sizes:List UInt8) (aj:List (List UInt8)) (i:Nat):Bool:=match (dw cS (kM sizes aj i) 0 (dx sizes i)).2.1 with
 |some p=>p.poll
 |none=>false
def kN (sizes:List UInt8) (aj:List (List UInt8)) (i:Nat):List UInt8:=QU (dw cS (kM sizes aj i) 0 (dx sizes i)).2.1
theorem r9 (hs:∀s∈aj,1≤s.length∧s.length≤60) {N:Nat} (hN:N≤166) (hne:∀i,i<N→(bO sizes aj i).1≠ []) (i:Nat) (hi:i<N):
 (dw cS (kM sizes aj i) 0 (dx sizes i)).2.2=0∧kN sizes aj i=nC i (zx sizes aj i) false false 0 (aH sizes aj i).s (aH sizes aj i).e (aH sizes aj i).ps:=by
 obtain ⟨b,h1,_⟩:=lu.pM hs (jI hs hN hne i (by omega)) (by omega) (hne i hi);unfold kN zx;rw[h1];exact ⟨rfl,rfl⟩
theorem gU (hs:∀s∈aj,1≤s.length∧s.length≤60) {N:Nat} (hN:N≤166) (hne:∀i,i<N→(bO sizes aj i).1≠ []):
 wW aj N (aH sizes aj) (fun i=>(bO sizes aj i).1) (fun i=>(bO sizes aj i).2) where
 n:=by omega
 l0:=rfl
 s0:=rfl
 sn:=fun i _=>rfl
 s:=fun i _=>rfl
 ne:=fun i hi=>pz sizes hs (hne i hi)
 each:=fun i hi q hq=>by
  have ho:=lH sizes hs i;have hv:=nN (dx sizes i) ((bO sizes aj i).1.length+1) (bO sizes aj i).1 (bO sizes aj i).2 false (fun s hm=>(ho.len s hm).1) ho.lt (pz sizes hs (hne i hi));have:=CW (dx sizes i) ((bO sizes aj i).1.length+1) (bO sizes aj i).1 (bO sizes aj i).2 0 0 0 false (fun s hm=>(ho.len s hm).2) q hq;exact ⟨hv.pos q hq,by omega⟩
 tot:=fun i hi=>by
  have ho:=lH sizes hs i;have hv:=nN (dx sizes i) ((bO sizes aj i).1.length+1) (bO sizes aj i).1 (bO sizes aj i).2 false (fun s hm=>(ho.len s hm).1) ho.lt (pz sizes hs (hne i hi));exact hv.sum
 len:=fun s hm=>by have:=(hs s hm).2;omega
 step:=fun i hi=>by
  have ho:=lH sizes hs i;have hk:=Dp (dx sizes i) ((bO sizes aj i).1.length+1) (bO sizes aj i).1 (bO sizes aj i).2 0 0 0 false (fun s hm=>(ho.len s hm).1) ho.lt ho.z;obtain ⟨g,h1,h2⟩:=hk.some_ (pz sizes hs (hne i hi));exact ⟨g,h1,h2⟩
def ZO (sizes:List UInt8) (aj:List (List UInt8)) (i:Nat):iN:=⟨i,zx sizes aj i,false,false,0,(aH sizes aj i).s,(aH sizes aj i).e,(aH sizes aj i).ps⟩
theorem kP (hs:∀s∈aj,1≤s.length∧s.length≤60) {N:Nat} (hN:N≤166) (hne:∀i,i<N→(bO sizes aj i).1≠ []) (i:Nat) (hi:i<N):
 eP (i:Nat) false false 0 (aH sizes aj i).ps=true∧oZ (kN sizes aj i)= .inr (ZO sizes aj i):=by
 have ho:=lH sizes hs i;have hv:=nN (dx sizes i) ((bO sizes aj i).1.length+1) (bO sizes aj i).1 (bO sizes aj i).2 false (fun s hm=>(ho.len s hm).1) ho.lt (pz sizes hs (hne i hi));have h2:=(fK (aH sizes aj i).ps).2 hv;have hva:eP (i:Nat) false false 0 (aH sizes aj i).ps=true:=by
  simp[eP,l8,h2];omega
 refine ⟨hva,?_⟩;rw[(r9 hs hN hne i hi).2];exact Gn i (zx sizes aj i) false false 0 _ _ _ hva
theorem si (i:Nat) (h1:1≤ay (aH sizes aj i)):Piece (aH sizes aj i) (ZO sizes aj i):=by
 refine ⟨rfl,h1,by show 0+au _≤_;rw[Nat.zero_add];exact Nat.le_refl _,?_,fun j z hz=>by show (Bu _)[0+j]? =_;rw[Nat.zero_add];exact hz⟩;constructor
 ·intro _;show 0+au _=_
  rw[Nat.zero_add];rfl
 ·intro _;rfl
end
end
end Go.Proofs.YtiecgfahidpldaaGreat
namespace Go.Proofs.YtiecgfahidpldaaGreat
open Go.RowKit Go.Shelf
attribute [local go_sem] Oper.semAt_some
theorem JA (A B:Option Addr) (n c m d:Nat) (a b:List UInt8) (w:World) (ha:Sl w w.heap.size A n c (cu a)) (hb:Sl w w.heap.size B m d (cu b)):
 Calls Tryz.prog 63 #[.slice A n c,.slice B m d] w fun e w'=>e= .returned (.bool (a==b))∧w=w':=by
 have h1:=sZ ha;have h2:=sZ hb;clear ha hb;go_enter Tryz.func63,Tryz.ntmps63;go_wp2;go_ret;exact ⟨rfl,rfl⟩
def Ig (s:List UInt8):Bool:=decide (1≤s.length)&&decide (s.length≤60)
def j5 (aj:List (List UInt8)):Bool:=decide (aj.length≤8)&&aj.all Ig
theorem JB {ps:List (List UInt8)} {n:Nat} (hl:ps.length=n) (h:∀k,k<n→Ig (ps[k]?.getD [])=true):decide ((n:Int)≤8)=j5 ps:=by
 unfold j5;rw[hl];have:ps.all Ig=true:=by
  rw[List.all_eq_true];intro s hs;obtain ⟨i,hi,rfl⟩:=List.getElem_of_mem hs;have:=h i (by omega)
  rwa [List.getElem?_eq_getElem hi] at this
 rw[this,Bool.and_true,Bool.eq_iff_iff];simp;omega
theorem Gr {ps:List (List UInt8)} {n:Nat} (hl:ps.length=n) (h:9≤n):decide ((n:Int)≤8)=j5 ps:=by
 unfold j5;rw[hl,decide_eq_false (by omega),decide_eq_false (by omega)];rfl
theorem JC {ps:List (List UInt8)} {k:Nat} (hk:k<ps.length) (h:Ig (ps[k]?.getD [])=false):false=j5 ps:=by
 unfold j5;have:ps.all Ig=false:=by
  rw[List.all_eq_false];exact ⟨ps[k],List.getElem_mem hk,by rw[List.getElem?_eq_getElem hk] at h;simp only[Option.getD_some] at h;simp[h]⟩
 rw[this,Bool.and_false]
set_option maxRecDepth 100000 in
set_option maxHeartbeats 1000000 in
theorem wH (A:Option Addr) (n c:Nat) (vs:List Value) (ps:List (List UInt8)) (w:World) (h:gD w w.heap.size A n c vs ps):
 Calls Tryz.prog 17 #[.slice A n c] w fun e w'=>e= .returned (.bool (j5 ps))∧w=w':=by
 have hcap:=h.sl.cap;have hmx:=h.sl.mx;have HL:=Lib.hid h.len;have HH:=Lib.hid h;clear h;go_enter Tryz.func17,Tryz.ntmps17;go_wp2;go_loopg [3] (n+9) (fun gk s3 wr=>wr=w∧∃i:Nat,s3= .int .i64 i∧i≤n∧i≤9∧gk+i=n+9∧∀k,k<i→Ig (ps[k]?.getD [])=true)
 case atStart=>exact ⟨rfl,0,rfl,by omega,by omega,rfl,fun k hk=>by omega⟩
 case round=>
  obtain ⟨rfl,i,rfl,hin,hi9,uQ,hall⟩:=hrel;have KA:=Lib.hid uQ;have HA:=Lib.hid hall;clear uQ hall;by_cases hlt:i<n
  ·by_cases h9:i<9
   ·obtain ⟨ad,Ai,ci,rfl,hb,hc,hsl⟩:=HH.out.get hlt;have hstep:Ig (ps[i]?.getD [])=true→∀k,k<i+1→Ig (ps[k]?.getD [])=true:=fun h k hk=>by
     rcases Nat.lt_or_ge k i with h1|h1
     ·exact HA.out k h1
     ·rw[show k=i by omega];exact h
    have hbad:Ig (ps[i]?.getD [])=false→false=j5 ps:=fun h=>JC (by have:=HL.out;omega) h
    generalize ps[i]?.getD []=p at*;have hc1:=hsl.cap;have hm1:=hsl.mx;have d3:decide ((i:Int)<9)=true:=by simp;omega
    have HST:=Lib.hid hstep;have Ny:=Lib.hid hbad;clear hsl hstep hbad;by_cases h1:p.length<1
    ·have d1:decide ((p.length:Int)<1)=true:=by simp;omega
     have hf:Ig p=false:=by unfold Ig;rw[decide_eq_false (by omega)];rfl
     have HF:=Lib.hid (Ny.out hf);clear hf h1;go_wp2;go_ret;exact ⟨by rw[←HF.out];rfl,rfl⟩
    ·have d1:decide ((p.length:Int)<1)=false:=by simp;omega
     by_cases h2:60<p.length
     ·have d2:decide ((60:Int)<(p.length:Int))=true:=by simp;omega
      have hf:Ig p=false:=by unfold Ig;rw[decide_eq_false (show ¬p.length≤60 by omega),Bool.and_false]
      have HF:=Lib.hid (Ny.out hf);clear hf h1 h2;go_wp2;go_ret;exact ⟨by rw[←HF.out];rfl,rfl⟩
     ·have d2:decide ((60:Int)<(p.length:Int))=false:=by simp;omega
      have hf:Ig p=true:=by unfold Ig;rw[decide_eq_true (by omega),decide_eq_true (by omega)];rfl
      have HF:=Lib.hid (HST.out hf);clear hf h1 h2;go_wp2
      go_roundg (n+9-(i+1))
      case measure=>have:=KA.out;omega
      case rel=>exact ⟨rfl,i+1,by go_num,by omega,by omega,by omega,HF.out⟩
   ·have d3:decide ((i:Int)<9)=false:=by simp;omega
    have HF:=Lib.hid (Gr HL.out (show 9≤n by omega));go_wp2;go_ret;exact ⟨by rw[←HF.out];rfl,rfl⟩
  ·have hin2:i=n:=by omega
   have HF:=Lib.hid (JB HL.out (by rw[←hin2];exact HA.out));clear hin2;go_wp2;go_ret;exact ⟨by rw[←HF.out];rfl,rfl⟩
end Go.Proofs.YtiecgfahidpldaaGreat
namespace Go.Proofs.YtiecgfahidpldaaGreat
open Go.RowKit Go.Shelf
attribute [local go_sem] Oper.semAt_some
set_option maxRecDepth 100000 in
set_option maxHeartbeats 1000000 in
theorem wI (A B:Option Addr) (n c m d:Nat) (vs us:List Value) (ps qs:List (List UInt8)) (w:World) (h:gD w w.heap.size A n c vs ps) (k:gD w w.heap.size B m d us qs):
 Calls Tryz.prog 21 #[.slice A n c,.slice B m d] w fun e w'=>e= .returned (.bool (ps==qs))∧Below w.heap.size w w':=by
 have hcap:=h.sl.cap;have hmx:=h.sl.mx;have V5:=k.sl.cap;have kmx:=k.sl.mx;have HL:=Lib.hid h.len;have KL:=Lib.hid k.len;have HH:=Lib.hid h;have HK:=Lib.hid k;clear h k;by_cases hnm:n=m
 ·subst hnm;go_enter Tryz.func21,Tryz.ntmps21;go_wp2;go_loopg [5] n (fun gk s5 wr=>Below w.heap.size w wr∧∃i:Nat,s5= .int .i64 i∧i≤n∧gk+i=n∧∀k,k<i→ps[k]? =qs[k]?)
  case atStart=>exact ⟨Below.refl _ _,0,rfl,by omega,rfl,fun k hk=>by omega⟩
  case round=>
   obtain ⟨hb,i,rfl,hin,uQ,hall⟩:=hrel;have KA:=Lib.hid uQ;have HA:=Lib.hid hall;have HB:=Lib.hid hb;clear uQ hall hb;by_cases hlt:i<n
   ·obtain ⟨ad,Ai,ci,rfl,hba,hc,hsl⟩:=((HH.out.below HB.out).more HB.out.size).get hlt;obtain ⟨bd,Bi,di,rfl,hbb,kc,ksl⟩:=((HK.out.below HB.out).more HB.out.size).get hlt;have e1:ps[i]? =some (ps[i]?.getD []):=by rw[List.getElem?_eq_getElem (by have:=HL.out;omega)];rfl
    have e2:qs[i]? =some (qs[i]?.getD []):=by rw[List.getElem?_eq_getElem (by have:=KL.out;omega)];rfl
    have E1:=Lib.hid e1;have E2:=Lib.hid e2;clear e1 e2;generalize ps[i]?.getD []=p at*;generalize qs[i]?.getD []=q at*;have hc1:=hsl.cap;have hm1:=hsl.mx;have kc1:=ksl.cap;have km1:=ksl.mx;have hsm:=fun q'=>JA Ai Bi p.length ci q.length di p q (wr.drewN q') (hsl.drewN q') (ksl.drewN q')
    obtain ⟨bq,hbq⟩:∃bq:Bool,bq=(p==q):=⟨_,rfl⟩
    simp only[←hbq] at hsm;have XF:=Lib.hid hbq;have sN:=Lib.hid hsm;clear hsl ksl hsm hbq;go_wp2_with fail
    go_quiet ((go_at_call 63;exact Calls.quiet_of_same ((sN.out _).mono fun _ _ hh=>⟨hh.1,hh.2.symm⟩)))
    cases bq with
    |true=>
     have hpq:p=q:=eq_of_beq XF.out.symm;have Xx:=Lib.hid hpq;clear hpq;have hB2:=HB.out.drewN nq;have HB2:=Lib.hid hB2;clear hB2;go_wp2
     go_roundg (n-(i+1))
     case measure=>have:=KA.out;omega
     case rel=>
      refine ⟨HB2.out,i+1,by go_num,by omega,by omega,fun k hk=> ?_⟩;rcases Nat.lt_or_ge k i with h1|h1
      ·exact HA.out k h1
      ·rw[show k=i by omega,E1.out,E2.out,Xx.out]
    |false=>
     have hpq:¬p=q:=fun e=>by have:=XF.out;rw[e] at this;simp at this
     have hne:(ps==qs)=false:=by
      cases hh:(ps==qs) with
      |false=>rfl
      |true=>
       have e:=eq_of_beq hh;have e1:=E1.out;rw[e,E2.out] at e1;exact absurd (Option.some.inj e1).symm hpq
     have HNE:=Lib.hid hne;have HB2:=Lib.hid (HB.out.drewN nq);clear hne hpq;go_wp2;go_ret;exact ⟨by rw[HNE.out];rfl,HB2.out⟩
   ·have hin2:i=n:=by omega
    have heq:(ps==qs)=true:=by
     have:ps=qs:=List.ext_getElem? fun k=>by
      rcases Nat.lt_or_ge k n with h1|h1
      ·exact HA.out k (by omega)
      ·rw[List.getElem?_eq_none (by have:=HL.out;omega),List.getElem?_eq_none (by have:=KL.out;omega)]
     rw[this];simp
    have HEQ:=Lib.hid heq;clear heq hin2;go_wp2;go_ret;exact ⟨by rw[HEQ.out];rfl,HB.out⟩
 ·have hne:(ps==qs)=false:=by
   cases hh:(ps==qs) with
   |false=>rfl
   |true=>
    have e:=eq_of_beq hh;have h1:=HL.out;have h2:=KL.out;rw[e] at h1;omega
  have HNE:=Lib.hid hne;have d1:((n:Int) !=(m:Int))=true:=by simp;omega
  clear hne hnm;go_enter Tryz.func21,Tryz.ntmps21;go_wp2;go_ret;exact ⟨by rw[HNE.out];rfl,Below.refl _ _⟩
structure gM (sizes:List UInt8) (aj:List (List UInt8)) (N:Nat):Prop where
 hs:∀s∈aj,1≤s.length∧s.length≤60
 le:N≤166
 nil:(bO sizes aj N).1= []
 ne:∀i,i<N→(bO sizes aj i).1≠ []
theorem sj {aj:List (List UInt8)}:j5 aj=true↔aj.length≤8∧∀s∈aj,1≤s.length∧s.length≤60:=by
 simp[j5,Ig,List.all_eq_true]
theorem zy (sizes:List UInt8) {aj:List (List UInt8)} (h:j5 aj=true):∃N,gM sizes aj N:=by
 obtain ⟨h8,hv⟩:=sj.1 h;obtain ⟨N,h1,h2,h3⟩:=OP sizes hv h8;exact ⟨N,hv,h1,h2,h3⟩
end Go.Proofs.YtiecgfahidpldaaGreat
namespace Go.Proofs.YtiecgfahidpldaaGreat
section
open Go.RowKit Go.Maps
def OQ (v:Value):Option (DataW Value × List MemPlace):=some (.held v,[])
def iP (P:Program) (k:TypeId) (w:World) (b n:Nat) (F:Nat→Option Value):Prop:=
 ∃D:DataW Value,w.ownsMap P k OQ b n D∧IsMap D∧∀j:Nat,j≤9223372036854775807→Maps.has D (.int .i64 j)=(F j).isSome∧∀v,F j=some v→∀z,D.atKey (.int .i64 j) z= .held v
def Eg (F:Nat→Option Value) (k:Nat) (v:Option Value):Nat→Option Value:=fun j=>if j=k then v else F j
section
variable {P:Program} {t k e:TypeId} {w w':World} {b n:Nat} {F:Nat→Option Value}
theorem iP.made (P:Program) (k:TypeId) (w:World):iP P k (w.alloc (.map #[] 0)) w.heap.size 0 (fun _=>none):=
 ⟨.map [],World.ownsMap_made w P k OQ,isMap_empty,fun j _=>⟨rfl,fun v h=>by cases h⟩⟩
theorem iP.same (h:iP P k w b n F) (hs:w'.heap[b]? =w.heap[b]?):iP P k w' b n F:=by
 obtain ⟨D,⟨es,clock,hb,hr⟩,h2⟩:=h;exact ⟨D,⟨es,clock,hs.trans hb,hr⟩,h2⟩
theorem Eh {j:Nat} (h:j≤9223372036854775807):(Lit.int .i64 (j:Int)).wf=true:=by
 simp[Lit.wf,IntKind.min,IntKind.max,IntKind.bits,IntKind.signed];omega
theorem iP.drop (h:iP P k w b n F) (hk:P.underlying k=some (.int .i64)) (ht:P.underlying t=some (.map k e)) {j:Nat} (hj:j≤9223372036854775807) (ty:TypeId):
 ∃w',(Builtin.delete_ #[t,k] ty #[.map (some b),.int .i64 j]).run P w= .ok (.tuple #[]) w'∧iP P k w' b n (Eg F j none)∧w.grownBy w' (some b):=by
 obtain ⟨D,h1,hm,h2⟩:=h;obtain ⟨w',hr,h3,h4⟩:=h1.drop (int_keyed hk) ht (keyOf_int_mk hk (Eh hj)) ty;refine ⟨w',hr,⟨_,h3,hm.del _,fun i hi=> ?_⟩,h4.grown⟩;unfold Eg;by_cases hij:i=j
 ·subst hij;simp[Maps.has_del_same]
 ·rw[if_neg hij];have hne:(Lit.int .i64 (i:Int))≠Lit.int .i64 (j:Int):=by
   intro hh;injection hh with _ hh
   omega
  obtain ⟨a,b⟩:=h2 i hi;exact ⟨by rw[Maps.has_del_other hne,a],fun v hv z=>by rw[Maps.atKey_del_other hne,b v hv]⟩
theorem iP.store (h:iP P k w b n F) (hk:P.underlying k=some (.int .i64)) (ht:P.underlying t=some (.map k e)) (hn:n<maxLen) {j:Nat} (hj:j≤9223372036854775807) (val:Value):
 ∃w',(Instr.mapUpdate t (.map (some b)) (.int .i64 j) val).run P w= .ok () w'∧iP P k w' b (n+1) (Eg F j (some val))∧w.grownBy w' (some b):=by
 obtain ⟨D,h1,hm,h2⟩:=h;obtain ⟨w',hr,h3,h4⟩:=h1.store (int_keyed hk) ht hn (keyOf_int_mk hk (Eh hj)) (val:=val) (d:= .held val) (ps:= []) rfl;have hkl:WideAt.IsKeyLit (.int .i64 (j:Int)):=(int_keyed (P:=P) hk).key (keyOf_int_mk hk (Eh hj));refine ⟨w',hr,⟨_,h3,hm.put _ _,fun i hi=> ?_⟩,h4.grown⟩;unfold Eg;by_cases hij:i=j
 ·subst hij;rw[if_pos rfl];exact ⟨by rw[Maps.has_put_same hm hkl];rfl,fun v hv z=>by cases hv;exact Maps.atKey_put_same hm hkl _ _⟩
 ·rw[if_neg hij];have hne:(Lit.int .i64 (i:Int))≠Lit.int .i64 (j:Int):=by
   intro hh;injection hh with _ hh
   omega
  obtain ⟨a,b⟩:=h2 i hi;exact ⟨by rw[Maps.has_put_other hne,a],fun v hv z=>by rw[Maps.atKey_put_other hne,b v hv]⟩
end
section
variable {P:Program} (w:World) {ops:Array Oper} {rest:List Oper} {o:Oper} {a:Act} {Q:Exit→Act→World→Prop}
theorem uy (hg:o.guard=none) (m x:Operand) (t k:TypeId) (hop:o.op=Op.call {callee:=Callee.builtin Builtin.delete,args:= #[m,x],argTypes:= #[t,k]}) (e:TypeId) (hk:P.underlying k=some (.int .i64)) (ht:P.underlying t=some (.map k e))
 (b n:Nat) (F:Nat→Option Value) (hm:a.eval m= .map (some b)) (hown:iP P k w b n F) (j:Nat) (hx:a.eval x= .int .i64 j) (hj:j≤9223372036854775807)
 (hK:∀w',iP P k w' b n (Eg F j none)→w.grownBy w' (some b)→wpList P ops Q rest (a.put o.dst (.tuple #[])) w'):wpList P ops Q (o::rest) a w:=by
 refine wpList_plain hg fun K' hK'=> ?_
 obtain ⟨w',hrun,r1,r2⟩:=hown.drop hk ht hj o.type;unfold Oper.wp;simp[execOp,hop,resolve,invoke,builtin,hm,hx,hrun,Result.andThen];exact hK' _ _ (hK w' r1 r2)
theorem vL (hg:o.guard=none) (m x v:Operand) (t:TypeId) (hop:o.op=Op.mapUpdate t m x v) (k e:TypeId) (hk:P.underlying k=some (.int .i64)) (ht:P.underlying t=some (.map k e))
 (b n:Nat) (F:Nat→Option Value) (hm:a.eval m= .map (some b)) (hown:iP P k w b n F) (hn:n<maxLen) (j:Nat) (hx:a.eval x= .int .i64 j) (hj:j≤9223372036854775807) (val:Value) (hv:a.eval v=val)
 (hK:∀w',iP P k w' b (n+1) (Eg F j (some val))→w.grownBy w' (some b)→wpList P ops Q rest (a.put o.dst undef) w'):wpList P ops Q (o::rest) a w:=by
 refine wpList_plain hg fun K' hK'=> ?_
 obtain ⟨w',hrun,r1,r2⟩:=hown.store hk ht hn hj val;unfold Oper.wp;simp[execOp,hop,hm,hx,hv,hrun,Result.andThen];exact hK' _ _ (hK w' r1 r2)
end
end
section
open Go.RowKit Go.Maps
theorem xM:Tryz.prog.underlying 31=some (.map 3 86):=by kernel_rfl
theorem uz:Tryz.prog.underlying 3=some (.int .i64):=by kernel_rfl
theorem JD (w:World):(zeroValue 86).run Tryz.prog w= .ok (.pointer none) w:=by kernel_rfl
section
variable {P:Program} {t k e:TypeId} {w w':World} {b n:Nat} {F:Nat→Option Value}
theorem iP.ZP (h:iP P k w b n F) (hk:P.underlying k=some (.int .i64)) (ht:P.underlying t=some (.map k e)) {z:Value} (hz:(zeroValue e).run P w= .ok z w) {j:Nat} (hj:j≤9223372036854775807):
 (Instr.lookup t (.map (some b)) (.int .i64 j) false).run P w= .ok ((F j).getD z) w:=by
 obtain ⟨D,h1,_,h2⟩:=h;obtain ⟨v,ps,hr,hv⟩:=h1.lookup (zd:= .held z) (zp:= []) (int_keyed hk) ht hz rfl (keyOf_int_mk hk (Eh hj));obtain ⟨e1,e2⟩:=h2 j hj;rw[hr];simp only[OQ,Option.some.injEq,Prod.mk.injEq] at hv;cases hF:F j with
 |none=>
  rw[hF] at e1;have:=Maps.atKey_of_not_has (by simpa using e1) (.held z);rw[this] at hv;cases hv.1;rfl
 |some u=>
  rw[e2 u hF] at hv;cases hv.1;rfl
end
def uR (l:List Fl):List Value:=l.flatMap (fun f=> [.bool f.1,.bool f.2.1,.bool f.2.2])
theorem mG (f:Fl) (l:List Fl):uR (f::l)= .bool f.1:: .bool f.2.1:: .bool f.2.2::uR l:=by simp[uR]
theorem JE (l:List Fl):(uR l).length=l.length*3:=by
 induction l with
 |nil=>rfl
 |cons r t ih=>
  rw[mG];simp only[List.length_cons,ih];omega
theorem R3 (a b:List Fl):uR (a++b)=uR a++uR b:=by simp[uR]
theorem xN:∀(l:List Fl) (j:Nat) (f:Fl),l[j]? =some f→(uR l)[j*3]? =some (.bool f.1)∧(uR l)[j*3+1]? =some (.bool f.2.1)∧(uR l)[j*3+2]? =some (.bool f.2.2)
 | [],j,r,h=>by simp at h
 |x::t,0,r,h=>by
  simp at h;subst h;rw[mG];exact ⟨rfl,rfl,rfl⟩
 |x::t,j+1,r,h=>by
  have ih:=xN t j r (by simpa using h);rw[mG,show (j+1)*3=j*3+1+1+1 by omega];exact ih
theorem KB:∀(l:List Fl) (j:Nat) (f:Fl),j<l.length→(((uR l).set (j*3) (.bool f.1)).set (j*3+1) (.bool f.2.1)).set (j*3+2) (.bool f.2.2)=uR (l.set j f)
 | [],j,f,h=>by simp at h
 |x::t,0,f,_=>by
  rw[mG];show _=uR (f::t)
  rw[mG];rfl
 |x::t,j+1,f,h=>by
  have ih:=KB t j f (by simpa using h);rw[mG,List.set_cons_succ,mG,←ih,show (j+1)*3=j*3+1+1+1 by omega];rfl
structure mJ (w:World) (A:Option Addr) (n c:Nat) (l:List Fl):Prop where
 len:l.length=n
 cap:n≤c
 mx:c≤9223372036854775807
 at_:0<n→∃g o,A=some ⟨g,o,none⟩∧g<w.heap.size∧∀j f,l[j]? =some f→w.cell? ⟨g,o+j*3,none⟩=some (.bool f.1)∧w.cell? ⟨g,o+j*3+1,none⟩=some (.bool f.2.1)∧w.cell? ⟨g,o+j*3+2,none⟩=some (.bool f.2.2)
section
variable {w w':World} {A:Option Addr} {n c:Nat} {l:List Fl}
theorem mJ.below (h:mJ w A n c l) (hb:Below w.heap.size w w'):mJ w' A n c l:=
 ⟨h.len,h.cap,h.mx,fun hn=>by
  obtain ⟨g,o,e,hg,hc⟩:=h.at_ hn;refine ⟨g,o,e,Nat.lt_of_lt_of_le hg hb.size,fun j f hj=> ?_⟩;obtain ⟨a,b,d⟩:=hc j f hj;exact ⟨(hb.cell (p:=⟨g,_,none⟩) hg).trans a,(hb.cell (p:=⟨g,_,none⟩) hg).trans b,(hb.cell (p:=⟨g,_,none⟩) hg).trans d⟩⟩
theorem mJ.cO {base:Nat} {v:Value} (h:w.ownsRow base 101 3 v l.length (uR l)):∃A c,v= .slice A l.length c∧mJ w A l.length c l:=by
 rcases h.2 with ⟨rfl,hn⟩|⟨g,cap,cur,rfl,hb,hg,hnc,hcm,hcs,ht⟩
 ·have:=List.eq_nil_of_length_eq_zero hn;subst this;exact ⟨none,0,rfl,rfl,Nat.zero_le _,by omega,fun h=>absurd h (by simp)⟩
 ·refine ⟨_,_,rfl,⟨rfl,hnc,by unfold maxLen at hcm;omega,fun _=>⟨g,0,rfl,lt_of_heap hg,fun j f hj=> ?_⟩⟩⟩;have hc:=fun j u (hu:(uR l)[j]? =some u)=>h.cells (g:=g) rfl j u hu
  obtain ⟨g1,g2,g3⟩:=xN l j f hj;have k1:=hc _ _ g1;have k2:=hc _ _ g2;have k3:=hc _ _ g3;rw[Addr.add_lit] at k1 k2 k3;rw[Nat.zero_add] at k1 k2 k3;rw[Nat.zero_add];exact ⟨k1,k2,k3⟩
theorem mJ.drop {g o k:Nat} (h:mJ w (some ⟨g,o,none⟩) n c l) (hk:k<n):mJ w (some ⟨g,o+k*3,none⟩) (n-k) (c-k) (l.drop k):=by
 have hl:=h.len;have hc:=h.cap;have hm:=h.mx;refine ⟨by rw[List.length_drop];omega,by omega,by omega,fun _=> ?_⟩;obtain ⟨g',o',e,hb,hcl⟩:=h.at_ (by omega);cases e;refine ⟨g,_,rfl,hb,fun j f hj=> ?_⟩;rw[List.getElem?_drop] at hj;have:=hcl _ f hj
 rwa [show o+(k+j)*3=o+k*3+j*3 by omega] at this
end
def bY (p:Sp):Int:=match p.size with
 |none=> -1
 |some k=>(k:Int)
structure pE (w:World) (b:Nat) (p:Sp) (vf vd:Value):Prop where
 blk:aA w b 90 #[vf,vd,.int .i64 (bY p)]
 fr:w.ownsRow 0 101 3 vf p.fl.length (uR p.fl)
 dr:w.ownsRow 0 5 1 vd p.da.length (cu p.da)
structure wX (p:Sp):Prop where
 ll:p.da.length=p.fl.length
 le:p.fl.length≤32767
 sz:∀k,p.size=some k→k≤32767
theorem wX.i {p:Sp} (h:wX p): -1≤bY p∧bY p≤32767:=by
 unfold bY;cases hs:p.size with
 |none=>simp
 |some k=>
  have:=h.sz k hs;dsimp only;omega
def LJ (c:Cf) (M:Nat) (vo:Value) (st:Rc):Array Value:=
 #[.int .i64 c.J3,.int .i64 c.byte,.int .i64 c.timer,.int .i64 c.reorder,.int .i64 c.gP,.int .i64 c.dF,.int .i64 c.cap,.map (some M),.int .i64 (st.next:Nat),.int .i64 (st.status:Nat),.int .i64 (st.high:Nat),.bool st.ro,.int .i64 (st.gu:Nat),.int .i64 st.exp,.bool st.due,.int .i64 st.qH,.int .i64 st.now,vo,.bool st.sm]
structure gH (w:World) (T:Nat→Nat) (g M n:Nat) (c:Cf) (st:Rc) (vo:Value):Prop where
 blk:aA w g 33 (LJ c M vo st)
 tg:T g=1
 tM:T M=2
 lt:∀k,T k≠0→k<w.heap.size
 nR:w.ownsRow 0 5 1 vo st.op.length (cu st.op)
 od:∀k,vo.ownBlock=some k→T k=3
 mp:∃F,iP Tryz.prog 3 w M n F∧∀k,(st.m k=none→F k=none)∧∀p,st.m k=some p→∃b vf vd,F k=some (.pointer (some ⟨b,0,none⟩))∧pE w b p vf vd∧T b=3*k+4∧(∀j,vf.ownBlock=some j→T j=3*k+5)∧(∀j,vd.ownBlock=some j→T j=3*k+6)
def MT (T:Nat→Nat) (k:Nat) (_:Obj):Prop:=T k≠0
structure dL (st:Rc):Prop where
 n1:st.next≤1023
 n2:st.status≤1023
 n3:st.high≤1023
 n4:st.gu≤1023
 m:∀k p,st.m k=some p→k≤1023∧bD st k<512∧wX p
 op:st.op.length≤9000
 t1:0≤st.now
 t2:st.now≤9223372036854775807
section
variable {w w':World} {T:Nat→Nat} {g M n:Nat} {c:Cf} {st:Rc} {vo:Value}
theorem bT {base size m:Nat} {e:TypeId} {v:Value} {xs:List Value} (h:w.ownsRow base e size v m xs) (hk:∀k,v.ownBlock=some k→w'.heap[k]? =w.heap[k]?):w'.ownsRow base e size v m xs:=by
 rcases h.2 with ⟨rfl,h0⟩|⟨g',cap,cur,rfl,h1,h2,h3⟩
 ·exact ⟨h.1,.inl ⟨rfl,h0⟩⟩
 ·exact ⟨h.1,.inr ⟨g',cap,cur,rfl,h1,(hk g' rfl).trans h2,h3⟩⟩
theorem pE.stay {b:Nat} {p:Sp} {vf vd:Value} (h:pE w b p vf vd) (h0:w'.heap[b]? =w.heap[b]?) (h1:∀k,vf.ownBlock=some k→w'.heap[k]? =w.heap[k]?) (h2:∀k,vd.ownBlock=some k→w'.heap[k]? =w.heap[k]?):pE w' b p vf vd:=
 ⟨h0.trans h.blk,bT h.fr h1,bT h.dr h2⟩
theorem gH.stay (h:gH w T g M n c st vo) (hk:∀k,T k≠0→w'.heap[k]? =w.heap[k]?):gH w' T g M n c st vo:=by
 obtain ⟨F,h1,h2⟩:=h.mp;refine ⟨(hk g (by rw[h.tg];omega)).trans h.blk,h.tg,h.tM,fun k hf=> ?_,bT h.nR fun k e=>hk k (by rw[h.od k e];omega),h.od,F,h1.same (hk M (by rw[h.tM];omega)),fun k=>⟨(h2 k).1,fun p hp=> ?_⟩⟩
 ·have h3:=h.lt k hf;have h4:=hk k hf;rw[Array.getElem?_eq_getElem h3] at h4;exact lt_of_heap h4
 ·obtain ⟨b,vf,vd,e,hs,t1,t2,t3⟩:=(h2 k).2 p hp;exact ⟨b,vf,vd,e,hs.stay (hk b (by omega)) (fun j hj=>hk j (by rw[t2 j hj];omega)) (fun j hj=>hk j (by rw[t3 j hj];omega)),t1,t2,t3⟩
theorem gH.below (h:gH w T g M n c st vo) (hb:Below w.heap.size w w'):gH w' T g M n c st vo:=h.stay fun k hk=>hb.block k (h.lt k hk)
theorem gH.drew (h:gH w T g M n c st vo):gH w.drew T g M n c st vo:=h.below (Below.refl _ w).drew
theorem gH.drewN (h:gH w T g M n c st vo) (k:Nat):gH (w.drewN k) T g M n c st vo:=h.below ((Below.refl _ w).drewN k)
theorem gH.alloc (h:gH w T g M n c st vo) (o:Obj):gH (w.alloc o) T g M n c st vo:=h.below ((Below.refl _ w).alloc (Nat.le_refl _) o)
theorem gH.far {Q:Nat→Obj→Prop} (h:gH w T g M n c st vo) (hk:Kept Q w w') (hm:∀k o,Q k o→T k=0):gH w' T g M n c st vo:=
 h.stay fun k hf=>by
  have h1:=h.lt k hf;have h2:w.heap[k]? =some w.heap[k]:=Array.getElem?_eq_getElem h1;rw[h2];exact hk.same k _ h2 fun hM=>hf (hm k _ hM)
theorem gH.put (h:gH w T g M n c st vo) (i:Nat) (u:Value) {st':Rc} (he:(LJ c M vo st).setIfInBounds i u=LJ c M vo st') (hm:st'.m=st.m) (ho:st'.op=st.op):gH (w.setCell ⟨g,i,none⟩ u) T g M n c st' vo:=by
 have hk:∀k,T k≠1→(w.setCell ⟨g,i,none⟩ u).heap[k]? =w.heap[k]? :=fun k hk=>Below.heap_setCell w ⟨g,i,none⟩ u k (fun e=>by have e2:k=g:=e;rw[e2] at hk;exact hk h.tg)
 obtain ⟨F,h1,h2⟩:=h.mp;refine ⟨?_,h.tg,h.tM,fun k hf=>by simpa[World.setCell] using h.lt k hf,?_,h.od,F,h1.same (hk M (by rw[h.tM];omega)),fun k=>⟨by rw[hm];exact (h2 k).1,fun p hp=> ?_⟩⟩
 ·have:=h.blk.aC i u;rw[he] at this;exact this
 ·rw[ho];exact bT h.nR fun k e=>hk k (by rw[h.od k e];omega)
 ·rw[hm] at hp;obtain ⟨b,vf,vd,e,hs,t1,t2,t3⟩:=(h2 k).2 p hp;exact ⟨b,vf,vd,e,hs.stay (hk b (by omega)) (fun j hj=>hk j (by rw[t2 j hj];omega)) (fun j hj=>hk j (by rw[t3 j hj];omega)),t1,t2,t3⟩
theorem gH.cell (h:gH w T g M n c st vo) (i:Nat):w.cell? ⟨g,i,none⟩=(LJ c M vo st)[i]? :=h.blk.cell i
theorem gH.cells (h:gH w T g M n c st vo):w.cell? ⟨g,3,none⟩=some (.int .i64 c.reorder)∧w.cell? ⟨g,4,none⟩=some (.int .i64 c.gP)∧w.cell? ⟨g,7,none⟩=some (.map (some M))∧w.cell? ⟨g,8,none⟩=some (.int .i64 (st.next:Nat))∧w.cell? ⟨g,9,none⟩=some (.int .i64 (st.status:Nat))∧w.cell? ⟨g,10,none⟩=some (.int .i64 (st.high:Nat))∧
 w.cell? ⟨g,11,none⟩=some (.bool st.ro)∧w.cell? ⟨g,12,none⟩=some (.int .i64 (st.gu:Nat))∧w.cell? ⟨g,13,none⟩=some (.int .i64 st.exp)∧w.cell? ⟨g,14,none⟩=some (.bool st.due)∧w.cell? ⟨g,15,none⟩=some (.int .i64 st.qH)∧w.cell? ⟨g,16,none⟩=some (.int .i64 st.now)∧w.cell? ⟨g,17,none⟩=some vo∧w.cell? ⟨g,18,none⟩=some (.bool st.sm):=
 ⟨h.blk.cell 3,h.blk.cell 4,h.blk.cell 7,h.blk.cell 8,h.blk.cell 9,h.blk.cell 10,h.blk.cell 11,h.blk.cell 12,h.blk.cell 13,h.blk.cell 14,h.blk.cell 15,h.blk.cell 16,h.blk.cell 17,h.blk.cell 18⟩
end
end
section
open Go.RowKit Go.Shelf
attribute [local go_sem] Oper.semAt_some
theorem qK (n:Int):bits .and .i64 n 1023=n%1024:=by
 have h127:(BitVec.ofInt 64 1023).toNat=2 ^ 10-1:=by decide
 have key:(BitVec.ofInt 64 n&&& BitVec.ofInt 64 1023).toNat=(n%((2 ^ 64:Nat):Int)).toNat%2 ^ 10:=by
  rw[BitVec.toNat_and,BitVec.toNat_ofInt,h127,Nat.and_two_pow_sub_one_eq_mod]
 show IntKind.i64.wrap ((BitVec.ofInt 64 n&&& BitVec.ofInt 64 1023).toNat:Nat)=n%1024
 rw[key,IntKind.wrap_i64];omega
section
variable {w w':World} {T:Nat→Nat} {g M n:Nat} {c:Cf} {st:Rc} {vo:Value}
set_option maxRecDepth 100000 in
theorem og (h:gH w T g M n c st vo):Calls Tryz.prog 31 #[.pointer (some ⟨g,0,none⟩)] w fun e w'=>e= .returned (.bool false)∧w=w':=by
 have x7:=h.cells.2.2.1;have q:∀(w:World) (r:Option Nat),(binOp .eql 31 (.map r) (.map none)).run Tryz.prog w= .ok (.bool r.isNone) w:=fun w r=>run_eql_map_nil w _ _ _ r xM
 clear h;go_enter Tryz.func31,Tryz.ntmps31;go_wp2;go_ret;exact ⟨rfl,rfl⟩
theorem wJ (w:World) (next sn:Nat) (h:w.cell? ⟨g,8,none⟩=some (.int .i64 (next:Nat))) (hn:next≤1023) (hs:sn≤1023):
 Calls Tryz.prog 35 #[.pointer (some ⟨g,0,none⟩),.int .i64 sn] w fun e w'=>e= .returned (.int .i64 ((sn+1024-next)%1024:Nat))∧w=w':=by
 have hand:bits BinOp.and IntKind.i64 ((sn:Int)-next) 1023=(((sn+1024-next)%1024:Nat):Int):=by rw[qK];omega
 go_enter Tryz.func35,Tryz.ntmps35;go_wp2;go_ret;exact ⟨rfl,rfl⟩
theorem zz (h:gH w T g M n c st vo) (ho:dL st) (sn:Nat) (hs:sn≤1023):
 Calls Tryz.prog 35 #[.pointer (some ⟨g,0,none⟩),.int .i64 sn] w fun e w'=>e= .returned (.int .i64 (bD st sn:Nat))∧w=w':=
 wJ w st.next sn h.cells.2.2.2.1 ho.n1 hs
theorem pF (er:Int) (w:World):Calls Tryz.prog 34 #[.bool true,.int .i64 er] w fun e w'=>e= .returned (.tuple #[])∧w=w':=by
 go_enter Tryz.func34,Tryz.ntmps34;go_wp2
 go_end0
 exact ⟨rfl,rfl⟩
abbrev Ei (er:Int):Ending:= .panicked [{v:= .iface 35 (.int .i64 er),recovered:=false}]
theorem ng (er:Int) (w:World):Calls Tryz.prog 34 #[.bool false,.int .i64 er] w fun e w'=>e=Ei er∧w=w':=by
 unfold Ei;go_enter Tryz.func34,Tryz.ntmps34;go_wp2;exact ⟨rfl,rfl,rfl⟩
end
section
variable {w:World} {A:Option Addr} {n c:Nat} {l:List Fl}
theorem zA (h:mJ w A n c l) (at_:Nat) (hat:at_≤100000) (which:Nat) (hw:which<3):
 Calls Tryz.prog 85 #[.slice A n c,.int .i64 at_,.int .i64 which] w fun e w'=>e= .returned (.bool (if which=0 then (dW l at_).1 else if which=1 then (dW l at_).2.1 else (dW l at_).2.2))∧w=w':=by
 have hcap:=h.cap;have hmx:=h.mx;have hlen:=h.len;by_cases hlt:at_<n
 ·obtain ⟨g,o,rfl,hg,hc⟩:=h.at_ (by omega);obtain ⟨f,hf⟩:∃f,l[at_]? =some f:=⟨_,List.getElem?_eq_getElem (by omega)⟩
  obtain ⟨k0,k1,k2⟩:=hc at_ f hf;rw[jq hf];clear hc h hf hlen;obtain rfl|rfl|rfl:which=0∨which=1∨which=2:=by omega
  all_goals
   go_enter Tryz.func85,Tryz.ntmps85;go_wp2;go_ret;exact ⟨rfl,rfl⟩
 ·have hf:dW l at_=Ue:=by unfold dW;rw[List.getElem?_eq_none (by omega)];rfl
  rw[hf];clear h hf hlen;obtain rfl|rfl|rfl:which=0∨which=1∨which=2:=by omega
  all_goals
   go_enter Tryz.func85,Tryz.ntmps85;go_wp2;go_ret;exact ⟨rfl,rfl⟩
theorem LK {l:List Fl} {k:Nat} {f:Fl} (hf:l[k]? =some f):kK (l.take (k+1))=kK (l.take k)+f.1.toNat:=by
 unfold kK;rw[List.take_add_one,hf];simp
set_option maxHeartbeats 400000 in
theorem JF (h:mJ w A n c l) (hn:n≤100000):
 Calls Tryz.prog 90 #[.slice A n c] w fun e w'=>e= .returned (.int .i64 (kK l:Nat))∧Below w.heap.size w w':=by
 have hcap:=h.cap;have hmx:=h.mx;have HH:=Lib.hid h;have hlen:=h.len;clear h;go_enter Tryz.func90,Tryz.ntmps90;go_wp2
 go_loopw [2,7] (fun s i wr=>∃k:Nat,k≤n∧i= .int .i64 k∧s= .int .i64 (kK (l.take k):Nat)∧Below w.heap.size w wr) (fun _ i _=>n-(intOf i).toNat)
 case atStart=>exact ⟨0,Nat.zero_le _,rfl,rfl,Below.refl _ w⟩
 case round=>
  obtain ⟨k,hk,rfl,rfl,hb⟩:=hrel;by_cases hlt:k<n
  ·obtain ⟨g,o,rfl,hg,hc⟩:=(HH.out.below hb).at_ (by omega);obtain ⟨f,hf⟩:∃f,l[k]? =some f:=⟨_,List.getElem?_eq_getElem (by omega)⟩
   obtain ⟨k0,k1,k2⟩:=hc k f hf;have hle:=qW (l.take k);rw[List.length_take] at hle;have ht:=LK hf;obtain ⟨fg,fs,fe⟩:=f;dsimp only at k0 k1 k2 ht;generalize kK (l.take k)=S at*;have HT:=Lib.hid ht;have HB:=Lib.hid (hb.alloc hb.size (.cells #[.bool fg,.bool fs,.bool fe] 101));clear hc ht hf hb;cases fg with
   |true=>
    go_wp2
    go_round
    case rel=>exact ⟨k+1,by omega,by go_num,by rw[HT.out];go_num,HB.out⟩
    case measure=>simp[intOf];omega
   |false=>
    go_wp2
    go_round
    case rel=>exact ⟨k+1,by omega,by go_num,by rw[HT.out];go_num,HB.out⟩
    case measure=>simp[intOf];omega
  ·have e:l.take k=l:=List.take_of_length_le (by omega);rw[e];have HB:=Lib.hid hb;clear e hb;go_wp2;go_ret;exact ⟨rfl,HB.out⟩
end
end
section
open Go.RowKit Go.Shelf
attribute [local go_sem] Oper.semAt_some
section
variable {w w':World} {T:Nat→Nat} {g M n:Nat} {c:Cf} {st:Rc} {vo:Value}
theorem su (w:World):Calls Tryz.prog 42 #[.pointer none] w fun e w'=>e= .returned (.bool false)∧Below w.heap.size w w':=by
 go_enter Tryz.func42,Tryz.ntmps42;go_wp2_with fail
 go_quiet (fail)
 go_wp2_with fail;go_ret;exact ⟨rfl,(Below.refl _ w).drewN nq⟩
set_option maxHeartbeats 400000 in
theorem sw {b:Nat} {p:Sp} {vf vd:Value} (h:pE w b p vf vd) (ho:wX p):
 Calls Tryz.prog 42 #[.pointer (some ⟨b,0,none⟩)] w fun e w'=>e= .returned (.bool (eT p))∧Below w.heap.size w w':=by
 obtain ⟨x0,x1,x2⟩:w.cell? ⟨b,0,none⟩=some vf∧w.cell? ⟨b,1,none⟩=some vd∧w.cell? ⟨b,2,none⟩=some (.int .i64 (bY p)):=⟨h.blk.cell 0,h.blk.cell 1,h.blk.cell 2⟩;have hbl:=h.blk.lt;have hi:=ho.i;obtain ⟨A,cc,rfl,hs⟩:=mJ.cO h.fr;have hle:=ho.le;have hcnt:∀W,Below w.heap.size w W→Calls Tryz.prog 90 #[.slice A p.fl.length cc] W fun e w'=>e= .returned (.int .i64 (kK p.fl:Nat))∧Below w.heap.size w w':=fun W hW=>
  (JF (hs.below hW) (by omega)).mono fun e w' hh=>⟨hh.1,hW.trans (hh.2.mono hW.size)⟩
 have HC:=Lib.hid hcnt;have hgl:=qW p.fl;by_cases hz:0<bY p
 ·have d1:decide (bY p>0)=true:=by simpa using hz
  have hb0:=Below.refl w.heap.size w;have hres:(((kK p.fl:Nat):Int)==bY p)=eT p:=by
   unfold bY at hz ⊢;unfold eT;cases hs2:p.size with
   |none=>rw[hs2] at hz;simp at hz
   |some k=>
    rw[hs2] at hz;dsimp only at hz ⊢;rw[decide_eq_true (show 0<k by omega),Bool.true_and];by_cases e:kK p.fl=k
    ·rw[e];simp
    ·rw[decide_eq_false e];simp;omega
  have ae1:=Lib.hid hres;have wu:=Lib.hid hi;clear hres h hcnt hz hs ho;generalize bY p=S at*;generalize kK p.fl=G at*;go_enter Tryz.func42,Tryz.ntmps42;go_wp2_with fail
  go_region_held3 (fun W=>W.cell? ⟨b,0,none⟩=some (.slice A p.fl.length cc)∧W.cell? ⟨b,2,none⟩=some (.int .i64 S))
   (first|exact ⟨x0,x2⟩|exact ⟨(hb1.cell (p:=⟨b,0,none⟩) hbl).trans x0,(hb1.cell (p:=⟨b,2,none⟩) hbl).trans x2⟩|go_keep)
   (first
    |(go_at_call 90;refine (HC.out _ (by (repeat first|assumption|refine Below.drew ?_|refine Below.drewN ?_ _))).mono ?_;rintro e1 w1 ⟨rfl,hb1⟩)
    |fail)
  all_goals
   go_wp2_with fail;go_ret;exact ⟨by rw[←ae1.out];rfl,by assumption⟩
 ·have d1:decide (bY p>0)=false:=by simpa using hz
  have hres:eT p=false:=by
   unfold bY at hz;unfold eT;cases hs2:p.size with
   |none=>rfl
   |some k=>
    rw[hs2] at hz;dsimp only at hz ⊢;rw[decide_eq_false (show ¬0<k by omega)];rfl
  rw[hres];clear hres h hcnt hz hs ho hi;generalize bY p=S at*;go_enter Tryz.func42,Tryz.ntmps42;go_wp2_with fail
  go_quiet (fail)
  go_wp2_with fail;go_ret;exact ⟨rfl,(Below.refl _ w).drewN nq⟩
theorem gH.look (h:gH w T g M n c st vo) {k:Nat} (hk:k≤1023):∃v,(Instr.lookup 31 (.map (some M)) (.int .i64 k) false).run Tryz.prog w= .ok v w∧((st.m k=none∧v= .pointer none)∨∃p b vf vd,st.m k=some p∧v= .pointer (some ⟨b,0,none⟩)∧pE w b p vf vd∧T b=3*k+4∧(∀j,vf.ownBlock=some j→T j=3*k+5)∧(∀j,vd.ownBlock=some j→T j=3*k+6)):=by
 obtain ⟨F,h1,h2⟩:=h.mp;refine ⟨(F k).getD (.pointer none),h1.ZP uz xM (JD w) (by omega),?_⟩;cases hm:st.m k with
 |none=>exact .inl ⟨rfl,by rw[(h2 k).1 hm];rfl⟩
 |some p=>
  obtain ⟨b,vf,vd,e,hs,t1,t2,t3⟩:=(h2 k).2 p hm;exact .inr ⟨p,b,vf,vd,rfl,by rw[e];rfl,hs,t1,t2,t3⟩
theorem gH.ZQ (h:gH w T g M n c st vo) (ho:dL st) {k:Nat} (hk:k≤1023):∃v,(Instr.lookup 31 (.map (some M)) (.int .i64 k) false).run Tryz.prog w= .ok v w∧
 Calls Tryz.prog 42 #[v] w fun e w'=>e= .returned (.bool (bZ (st.m k)))∧Below w.heap.size w w':=by
 obtain ⟨v,hr,⟨hm,rfl⟩|⟨p,b,vf,vd,hm,rfl,hs,_⟩⟩:=h.look hk
 ·refine ⟨_,hr,?_⟩;rw[hm];exact su w
 ·refine ⟨_,hr,?_⟩;rw[hm];exact sw hs (ho.m k p hm).2.2
theorem dL.stops (ho:dL st) {sn:Nat} (hs:sn≤1023):∃j,j<1024∧bZ (st.m ((sn+j)%1024))=false:=by
 refine ⟨((st.next+512)%1024+1024-sn)%1024,by omega,?_⟩;have hn:=ho.n1;rw[show (sn+((st.next+512)%1024+1024-sn)%1024)%1024=(st.next+512)%1024 by omega];cases hm:st.m ((st.next+512)%1024) with
 |none=>rfl
 |some p=>
  have:=(ho.m _ p hm).2.1;unfold bD at this;omega
theorem uD (m:Nat→Option Sp):∀(f sn:Nat),sn≤1023→jR m f sn≤1023
 |0,_,h=>h
 |f+1,sn,h=>by
  unfold jR;split
  ·exact uD m f _ (by unfold dN;omega)
  ·exact h
set_option maxHeartbeats 400000 in
theorem CY (h:gH w T g M n c st vo) (ho:dL st) (sn:Nat) (hs:sn≤1023):
 Calls Tryz.prog 37 #[.pointer (some ⟨g,0,none⟩),.int .i64 sn] w fun e w'=>e= .returned (.int .i64 (jR st.m 1024 sn:Nat))∧Below w.heap.size w w':=by
 obtain ⟨R,hR⟩:∃R,R=jR st.m 1024 sn:=⟨_,rfl⟩
 rw[←hR];have HH:=Lib.hid h;have HO:=Lib.hid ho;have HR:=Lib.hid hR;have HST:=Lib.hid (ho.stops hs);clear h ho hR;go_enter Tryz.func37,Tryz.ntmps37;go_wp2;go_loopg [1] 1024 (fun gk s1 wr=>∃(k j:Nat),s1= .int .i64 (k:Nat)∧k≤1023∧Below w.heap.size w wr∧R=jR st.m gk k∧j<gk∧bZ (st.m ((k+j)%1024))=false)
 case atStart=>
  obtain ⟨j,h1,h2⟩:=HST.out;exact ⟨sn,j,rfl,hs,Below.refl _ w,HR.out,h1,h2⟩
 case round=>
  obtain ⟨k,j,rfl,hk,hb,hr,hj,hst⟩:=hrel;have hA:=HH.out.below hb;have x7:=hA.cells.2.2.1;obtain ⟨v,hl,hc⟩:=hA.ZQ HO.out hk;obtain ⟨f,rfl⟩:∃f,gk=f+1:=⟨gk-1,by omega⟩
  unfold jR at hr;have HC:=Lib.hid hc;have HB:=Lib.hid hb;cases hcm:bZ (st.m k) with
  |true=>
   rw[hcm] at HC;rw[hcm,if_pos rfl] at hr;have hj0:j≠0:=fun e=>by
    rw[e,Nat.add_zero,Nat.mod_eq_of_lt (by omega),hcm] at hst;cases hst
   have Gs:bZ (st.m ((dN k+(j-1))%1024))=false:=by
    unfold dN;rw[show ((k+1)%1024+(j-1))%1024=(k+j)%1024 by omega];exact hst
   have hand:bits BinOp.and IntKind.i64 ((k:Int)+1) 1023=((dN k:Nat):Int):=by rw[qK];unfold dN;omega
   have hup:dN k≤1023:=by unfold dN;omega
   have HRR:=Lib.hid hr;have HS2:=Lib.hid Gs;have HJ:=Lib.hid hj;have ZR:=Lib.hid hj0;clear hA hc hb hr hst Gs hcm hj hj0;generalize dN k=q at*;go_wp2_with fail;refine HC.out.mono ?_;rintro e1 w1 ⟨rfl,hb1⟩;go_wp2
   go_roundg f
   case measure=>omega
   case rel=>exact ⟨q,j-1,rfl,hup,HB.out.trans (hb1.mono HB.out.size),HRR.out,by have:=HJ.out;have:=ZR.out;omega,HS2.out⟩
  |false=>
   rw[hcm] at HC;rw[hcm,if_neg (by simp)] at hr;have HRR:=Lib.hid hr;clear hA hc hb hr hst hcm hj;go_wp2_with fail;refine HC.out.mono ?_;rintro e1 w1 ⟨rfl,hb1⟩;go_wp2;go_ret;exact ⟨by rw[HRR.out];rfl,HB.out.trans (hb1.mono HB.out.size)⟩
theorem qL {w w':World} {T:Nat→Nat} (h:Below w.heap.size w w'):Kept (MT T) w w':=(Kept.of_below h).gX fun k o ho hm=>by have:=lt_of_heap ho;omega
set_option maxHeartbeats 1000000 in
theorem zB (h:gH w T g M n c st vo) (ho:dL st) (_hc1:0≤c.reorder) (_hc2:c.reorder≤9223372036854775807):
 Calls Tryz.prog 39 #[.pointer (some ⟨g,0,none⟩)] w fun e w'=>e= .returned (.tuple #[])∧gH w' T g M n c (o8 c st) vo∧Kept (MT T) w w':=by
 obtain ⟨x3,x4,x7,x8,x9,x10,uZ,EG,OT,Ej,Qd,OU,OV,x18⟩:=h.cells;have f11:=h.blk.frozen 11;have f12:=h.blk.frozen 12;have f13:=h.blk.frozen 13;have hn1:=ho.t1;have hn2:=ho.t2;have HH:=Lib.hid h;clear h ho x4 x7 x8 x9 Ej Qd OV x18;go_enter Tryz.func39,Tryz.ntmps39;go_wp2_with fail
 go_region
 all_goals
  go_wp2_with fail
  go_end0
  have h1:=HH.out.put 11 (.bool true) (st':= {st with ro:=true}) rfl rfl rfl;have h2:=h1.put 12 (.int .i64 (st.high:Nat)) (st':= {st with ro:=true,gu:=st.high}) rfl rfl rfl;have h3:=h2.put 13 (.int .i64 (IntKind.i64.wrap (st.now+c.reorder))) (st':= {st with ro:=true,gu:=st.high,exp:=IntKind.i64.wrap (st.now+c.reorder)}) rfl rfl rfl;rw[show wrap64 (st.now+c.reorder)=IntKind.i64.wrap (st.now+c.reorder) by rw[IntKind.wrap_i64];unfold wrap64;rfl];have ht:∀o:Obj,MT T g o:=fun o=>by unfold MT;rw[HH.out.tg];omega
  exact ⟨rfl,h3.drew,(((Kept.refl _ w).setCell (p:=⟨g,11,none⟩) (fun o _=>ht o) _).setCell (p:=⟨g,12,none⟩) (fun o _=>ht o) _).setCell (p:=⟨g,13,none⟩) (fun o _=>ht o) _ |>.drew⟩
end
end
section
open Go.RowKit Go.Lib
section
variable {P:Program} (w:World)
theorem pY (t tn ty e:TypeId) (i:TypeInfo) (z:Value) (kq kn:IntKind) (ht:P.underlying t=some (.slice e)) (htn:P.underlying tn=some (.int kn)) (hi:P.info? e=some i) (hz:i.zero=some z) (hzs:z.cells.size=i.size)
 (g sLen sCap:Nat) (cur:Array Value) (hg:w.heap[g]? =some (.cells cur e (0,0))) (k:Nat) (h0:0<k) (hs:0<i.size) (h48:k*i.bytes≤281474976710656) (h63:((k:Nat):Int)≤9223372036854775807) (h1:∀u∈(Builtin.zeroCells z.cells k).toList,u.oneCell'=true)
 (hroom:sLen+k≤sCap) (hfit:sLen*i.size+k*i.size≤cur.size):
 (Builtin.append_ #[t,tn] ty #[.slice (some ⟨g,0,none⟩) sLen sCap,.int kq k]).run P w=
  .ok (.slice (some ⟨g,0,none⟩) (sLen+k) sCap) (w.setRow g (cur.toList.take (sLen*i.size)++(Builtin.zeroCells z.cells k).toList++cur.toList.drop (sLen*i.size+(Builtin.zeroCells z.cells k).toList.length)).toArray):=by
 have hl:(Builtin.zeroCells z.cells k).toList.length=k*i.size:=by rw[Array.length_toList,size_zeroCells,hzs]
 have hst:=run_storeCells_at P g (sLen*i.size) e (Builtin.zeroCells z.cells k).toList 0 cur w hg (by rw[hl];simpa using hfit) h1;simp only[Nat.add_zero] at hst;have hw:IntKind.i64.wrap (k:Int)=k:=by rw[IntKind.wrap_i64];omega
 have h48i:¬(281474976710656<(k:Int)*(i.bytes:Int)):=by
  rw[←Int.natCast_mul];omega
 have hneg:¬((k:Int)<0):=by omega
 have hns:¬(k*i.size=0):=Nat.mul_ne_zero (by omega) (by omega);simp[Builtin.append_,run_underlying ht,run_underlying htn,sizeOf,typeInfo,zeroValue,hi,hz,asInt,asIntOf,hw,hneg,hns,h48i,hroom,Addr.add_lit,hst]
theorem qM (base:Nat) (t tn ty e:TypeId) (i:TypeInfo) (z:Value) (size bytes:Nat) (kq kn:IntKind) (ht:P.underlying t=some (.slice e)) (htn:P.underlying tn=some (.int kn)) (hi:P.info? e=some i) (hz:i.zero=some z)
 (hsize:i.size=size) (hby:i.bytes=bytes) (hzs:z.cells.size=size) (hsz:0<size)
 (v:Value) (n:Nat) (xs:List Value) (hown:w.ownsRow base e size v n xs) (k:Nat) (h0:0<k) (h1:∀u∈(Builtin.zeroCells z.cells k).toList,u.oneCell'=true)
 (h63:n+k≤maxLen) (hbytes:(n+k)*bytes≤140737488355328) (hbase:base≤w.heap.size):
 ∃v' w',(Builtin.append_ #[t,tn] ty #[v,.int kq k]).run P w= .ok v' w'∧w'.ownsRow base e size v' (n+k) (xs++(Builtin.zeroCells z.cells k).toList)∧w.grownBy w' v.ownBlock∧(v'.ownBlock=v.ownBlock∨v'.ownBlock=some w.heap.size):=by
 subst hsize;subst hby;have hl:(Builtin.zeroCells z.cells k).toList.length=k*i.size:=by rw[Array.length_toList,size_zeroCells,hzs]
 have hlen:(xs++(Builtin.zeroCells z.cells k).toList).length=(n+k)*i.size:=by rw[List.length_append,hown.1,hl,Nat.add_mul]
 have hm63:((n+k:Nat):Int)≤9223372036854775807:=by simp only[maxLen] at h63;omega
 have hkb:k*i.bytes≤(n+k)*i.bytes:=Nat.mul_le_mul_right _ (by omega);have hxa:∀(c:Array Value),(xs.toArray++Builtin.zeroCells z.cells k++c).toList=(xs++(Builtin.zeroCells z.cells k).toList)++c.toList:=fun c=>by simp
 have grown:∀(old:Nat),old<n+k→∀(row:Option Nat),
  (w.drew.alloc (.cells (xs.toArray++Builtin.zeroCells z.cells k++Builtin.zeroCells z.cells (grownCap w (n+k) old e-(n+k))) e)).ownsRow base e i.size
   (.slice (some ⟨w.heap.size,0,none⟩) (n+k) (grownCap w (n+k) old e)) (n+k) (xs++(Builtin.zeroCells z.cells k).toList)∧
  w.grownBy (w.drew.alloc (.cells (xs.toArray++Builtin.zeroCells z.cells k++Builtin.zeroCells z.cells (grownCap w (n+k) old e-(n+k))) e)) row:=by
  intro old ho row;have hge:=grownCap_ge w (n+k) old e;have hcm:grownCap w (n+k) old e≤maxLen:=grownCap_le_maxLen w (n+k) old e h63;refine ⟨⟨hlen,.inr ⟨w.heap.size,_,_,rfl,hbase,heap_alloc_new w.drew _,hge,hcm,?_,?_⟩⟩,⟨rfl,rfl,rfl,by simp,fun k hk _=>Below.heap_alloc w.drew _ k hk⟩⟩
  ·simp only[Array.size_append,List.size_toArray,size_zeroCells,hzs,hown.1,←Nat.add_mul]
   congr 1
   omega
  ·rw[hxa,←hlen];exact List.take_left
 rcases hown.2 with ⟨rfl,rfl⟩|⟨g,cap,cur,rfl,hbg,hg,hnc,hcm,hcs,htake⟩
 ·have hx:xs= []:=List.eq_nil_of_length_eq_zero (by simpa using hown.1);subst hx;have hr:=run_append_nil_zeros (P:=P) w t tn ty e i z kq kn ht htn hi hz k h0 hsz (by simpa using hm63) (by omega);have hgr:=grown 0 (by omega) (Value.ownBlock (.slice none 0 0));simp only[Nat.zero_add,List.nil_append,Array.empty_append] at hgr ⊢;exact ⟨_,_,hr,hgr.1,hgr.2,.inr rfl⟩
 ·by_cases hroom:n+k≤cap
  ·have hfit:n*i.size+k*i.size≤cur.size:=by rw[hcs,←Nat.add_mul];exact Nat.mul_le_mul_right _ hroom
   have hr:=pY (P:=P) w t tn ty e i z kq kn ht htn hi hz hzs g n cap cur hg k h0 hsz (by omega) (by omega) h1 hroom hfit;refine ⟨_,_,hr,⟨hlen,.inr ⟨g,cap,_,rfl,hbg,setRow_heap w g cur _ e _ hg,hroom,hcm,?_,?_⟩⟩,⟨rfl,rfl,rfl,by simp,fun k _ hk=>setRow_other w g k _ (fun e=>hk (by simp[Value.ownBlock,e]))⟩,.inl rfl⟩
   ·simp only[List.size_toArray,List.length_append,List.length_take,List.length_drop,Array.length_toList,size_zeroCells,hzs];omega
   ·rw[htake,←hlen];exact List.take_left
  ·have holds:∀j u,xs[j]? =some u→w.drew.cell? ((⟨g,0,none⟩:Addr).add j)=some u:=hown.cells (g:=g) rfl
   have hfc:=run_firstCells_some (P:=P) w.drew i.size n ⟨g,0,none⟩ n cap xs hown.1 holds;have hr:=run_append_grow_zeros (P:=P) w t tn ty e i z kq kn ht htn hi hz (some ⟨g,0,none⟩) n cap xs hfc k h0 hsz (by omega) hm63 (by omega) (growslice_fits (by omega) hbytes);have hgr:=grown cap (by omega) (Value.ownBlock (.slice (some ⟨g,0,none⟩) n cap));exact ⟨_,_,hr,hgr.1,hgr.2,.inr rfl⟩
theorem pU {o:Oper} {a:Act} {K:Act→World→Prop} {Q:Exit→Act→World→Prop} (s x:Operand) (t tn:TypeId)
 (ho:o.op= .call {callee:= .builtin .append,args:= #[s,x],argTypes:= #[t,tn]})
 (base:Nat) (e:TypeId) (i:TypeInfo) (z:Value) (size bytes:Nat) (kq kn:IntKind) (ht:P.underlying t=some (.slice e)) (htn:P.underlying tn=some (.int kn)) (hi:P.info? e=some i) (hz:i.zero=some z)
 (hsize:i.size=size) (hby:i.bytes=bytes) (hzs:z.cells.size=size) (hsz:0<size)
 (v:Value) (n:Nat) (xs:List Value) (hs:a.eval s=v) (hown:w.ownsRow base e size v n xs) (k:Nat) (hx:a.eval x= .int kq k) (h0:0<k) (h1:∀u∈(Builtin.zeroCells z.cells k).toList,u.oneCell'=true)
 (h63:n+k≤maxLen) (hbytes:(n+k)*bytes≤140737488355328) (hbase:base≤w.heap.size)
 (h:∀v' w',w'.ownsRow base e size v' (n+k) (xs++(Builtin.zeroCells z.cells k).toList)→w.grownBy w' v.ownBlock→(v'.ownBlock=v.ownBlock∨v'.ownBlock=some w.heap.size)→K (a.put o.dst v') w'):o.wp P a w K Q:=by
 obtain ⟨v',w',hrun,h2,h3,h4⟩:=qM (P:=P) w base t tn o.type e i z size bytes kq kn ht htn hi hz hsize hby hzs hsz v n xs hown k h0 h1 h63 hbytes hbase;unfold Oper.wp execOp;simp only[ho,resolve,invoke,builtin,Sem.run_bind,Sem.run_pure,Result.andThen_ok,List.map_toArray,List.map_cons,List.map_nil,hs,hx,hrun];exact h v' w' h2 h3 h4
end
end
end Go.Proofs.YtiecgfahidpldaaGreat
