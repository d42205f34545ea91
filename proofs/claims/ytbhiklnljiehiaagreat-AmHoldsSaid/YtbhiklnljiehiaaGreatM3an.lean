/- A queue's row: a row of its own from an. -/
import Derived.Test.YtbhiklnljiehiaaGreatM3af
import Derived.Test.YtbhiklnljiehiaaGreatM3aj
import Derived.ArgAppend
import Derived.Lib.AppendZerosOnto
set_option maxHeartbeats 1000000
set_option maxRecDepth 10000
namespace Go.Proofs.YtbhiklnljiehiaaGreat
open RowKit Shelf Tryz
attribute [local go_sem] Oper.semAt_some
def fU (w:World) (base:Nat) (e:TypeId) (v:Value) (n:Nat) (xs:List Value):Prop:=
 xs.length=n/\((v= .slice none 0 0/\n=0)\/∃g o cap cur,v= .slice (some ⟨g,o,none⟩) n cap/\base<=g/\w.heap[g]? =some (.cells cur e (0,0))/\n<=cap/\cap<=maxLen/\o+cap<=cur.size/\(cur.toList.drop o).take n=xs)
def bM:Value->Option Nat
 | .slice (some ad) _ _=>some ad.block
 |_=>none
section
variable {w w':World} {base:Nat} {e:TypeId} {v:Value} {n:Nat} {xs:List Value}
theorem Mx (w:World) (base:Nat) (e:TypeId):fU w base e (.slice none 0 0) 0 []:=⟨rfl,.inl ⟨rfl,rfl⟩⟩
theorem fU.eu (h:w.ownsRow base e 1 v n xs):fU w base e v n xs:=by
 rcases h.2 with ⟨rfl,h0⟩|⟨g,cap,cur,rfl,hb,hg,hnc,hcm,hcs,ht⟩
 ·exact ⟨by simpa using h.1,.inl ⟨rfl,h0⟩⟩
 ·exact ⟨by simpa using h.1,.inr ⟨g,0,cap,cur,rfl,hb,hg,hnc,hcm,by omega,by simpa using ht⟩⟩
theorem fU.keep (h:fU w base e v n xs) (hk:∀g,bM v=some g->w'.heap[g]? =w.heap[g]?):fU w' base e v n xs:=by
 rcases h.2 with ⟨rfl,h0⟩|⟨g,o,cap,cur,rfl,hb,hg,hr⟩
 ·exact ⟨h.1,.inl ⟨rfl,h0⟩⟩
 ·exact ⟨h.1,.inr ⟨g,o,cap,cur,rfl,hb,(hk g rfl).trans hg,hr⟩⟩
theorem fU.row (h:fU w base e v n xs) {g:Nat} (hg:bM v=some g):∃cur,w.heap[g]? =some (.cells cur e (0,0))/\base<=g:=by
 rcases h.2 with ⟨rfl,_⟩|⟨g',o,cap,cur,rfl,hb,hh,_⟩
 ·simp[bM] at hg
 ·have:g'=g:=by simpa[bM] using hg
  subst this;exact ⟨cur,hh,hb⟩
theorem fU.lt (h:fU w base e v n xs) {g:Nat} (hg:bM v=some g):base<=g/\g<w:=by
 obtain ⟨cur,hh,hb⟩:=h.row hg;exact ⟨hb,lt_of_heap hh⟩
theorem fU.below {B:Nat} (h:fU w base e v n xs) (hb:Below B w w') (hB:w.heap.size<=B):fU w' base e v n xs:=
 h.keep fun g hg=>hb.block g (by have:=(h.lt hg).2;omega)
theorem fU.alloc (h:fU w base e v n xs) (o:Obj):fU (w.alloc o) base e v n xs:=h.keep fun g hg=>yA w o g (h.lt hg).2
theorem fU.drew (h:fU w base e v n xs):fU w.drew base e v n xs:=h
theorem fU.CW {b':Nat} (h:fU w base e v n xs) (hb:b'<=base):fU w b' e v n xs:=by
 rcases h.2 with ⟨rfl,h0⟩|⟨g,o,cap,cur,rfl,hg,hr⟩
 ·exact ⟨h.1,.inl ⟨rfl,h0⟩⟩
 ·exact ⟨h.1,.inr ⟨g,o,cap,cur,rfl,by omega,hr⟩⟩
theorem fU.Ca {g:Nat} {t:TypeId} {cs:Array Value} (h:fU w base e v n xs) (hb:av w g t cs) (hne:e≠t):bM v≠some g:=by
 intro hg;obtain ⟨cur,hh,_⟩:=h.row hg;unfold av at hb;rw[hh] at hb;cases hb;exact hne rfl
theorem fU.store {g i:Nat} {t:TypeId} {cs:Array Value} (h:fU w base e v n xs) (hb:av w g t cs) (hne:e≠t) (u:Value):fU (w.setCell ⟨g,i,none⟩ u) base e v n xs:=
 h.keep fun k hk=>lZ w _ _ k (fun ek=>by
  have e2:k=g:=ek;subst e2;exact h.Ca hb hne hk)
theorem fU.cells {g o cap:Nat} (h:fU w base e (.slice (some ⟨g,o,none⟩) n cap) n xs):∀j u,xs[j]? =some u->w.cell? ⟨g,o+j,none⟩=some u:=by
 intro j u hu;rcases h.2 with ⟨hv,_⟩|⟨g',o',cap',cur,hv,hb,hh,hnc,hcm,hs,ht⟩
 ·cases hv
 ·cases hv;rw[cell_of_row w g (o+j) cur e (0,0) hh];rw[<-ht,pW] at hu;split at hu
  ·rw[vg] at hu;simpa using hu
  ·cases hu
theorem fU.sl (h:fU w base e v n xs):∃A c,v= .slice A n c/\Sl w w A n c xs:=by
 rcases h.2 with ⟨rfl,rfl⟩|⟨g,o,cap,cur,rfl,hb,hh,hnc,hcm,hs,ht⟩
 ·exact ⟨none,0,rfl,by have:=nV h.1;subst this;exact Sl.aeZ.2 (by omega)⟩
 ·refine ⟨_,_,rfl,h.1,hnc,by unfold maxLen at hcm;omega,fun _=>⟨_,rfl,lt_of_heap hh,fun j u hu=> ?_⟩⟩;rw[Addr.add_lit];exact h.cells j u hu
theorem fU.tail {x:Value} {g o cap:Nat} (h:fU w base e (.slice (some ⟨g,o,none⟩) (n+1) cap) (n+1) (x::xs)):fU w base e (.slice (some (if cap=1 then ⟨g,o,none⟩ else ⟨g,o+1,none⟩)) n (cap-1)) n xs:=by
 have hl:xs.length=n:=by have:=h.1;simpa using this
 rcases h.2 with ⟨hv,_⟩|⟨g',o',cap',cur,hv,hb,hh,hnc,hcm,hs,ht⟩
 ·cases hv
 ·cases hv;by_cases hc:cap=1
  ·subst hc;have hn:n=0:=by omega
   subst hn;have hx:=nV hl;subst hx;exact ⟨rfl,.inr ⟨g,o,0,cur,by simp,hb,hh,by omega,by omega,by omega,by simp⟩⟩
  ·refine ⟨hl,.inr ⟨g,o+1,cap-1,cur,by simp[hc],hb,hh,by omega,by omega,by omega,?_⟩⟩;have h2:=congrArg (List.drop 1) ht;rw[List.drop_take,List.drop_drop] at h2;simpa using h2
variable {P:Program}
theorem Ks (t ty:TypeId) (i:TypeInfo) (z:Value) (bytes:Nat) (ht:P.underlying t=some (.slice e)) (hi:P.info? e=some i) (hz:i.zero=some z)
 (hsize:i.size=1) (hby:i.bytes=bytes) (hzs:z.cells.size=1) (hown:fU w base e v n xs)
 (a:Addr) (c:Nat) (u:Value) (hu:w.cell? a=some u) (h1:u.oneCell'=true)
 (h63:n+1<=maxLen) (hbytes:(n+1)*bytes<=140737488355328) (hbase:base<=w):
 ∃v' w',(Builtin.append_ #[t,t] ty #[v,.slice (some a) 1 c]).run P w= .ok v' w'/\fU w' base e v' (n+1) (xs++ [u])/\w.grownBy w' (bM v)/\(∀k,bM v'=some k->bM v=some k\/w.heap.size<=k):=by
 have hnews:∀j x,[u][j]? =some x->w.cell? (a.add j)=some x:=by
  intro j x hx;cases j with
  |zero=>simp at hx;subst hx;simpa[Addr.add] using hu
  |succ j=>simp at hx
 rcases hown.2 with ⟨rfl,rfl⟩|⟨g,o,cap,cur,rfl,hbg,hg,hnc,hcm,hcs,htake⟩
 ·have hx:=nV hown.1;subst hx;obtain ⟨v',w',hr,h2,h3,_⟩:=run_append_own (P:=P) w w t ty e i z 1 bytes ht hi hz hsize hby hzs (by omega) (.slice none 0 0) 0 [] (jl _ _ _ _) a 1 c [u] rfl hnews (by simpa using h1) h63 hbytes (aL);exact ⟨v',w',hr,(fU.eu h2).CW hbase,h3,fun k hk=> .inr ((fU.eu h2).lt hk).1⟩
 ·by_cases hroom:n+1<=cap
  ·have hcell:(w.cell? ⟨g,o+n,none⟩).isSome=true:=by
    rw[cell_of_row w g (o+n) cur e (0,0) hg,rH (by omega)];rfl
   have hfr:w.frozen? ⟨g,o+n,none⟩=false:=by simp[World.frozen?,hg]
   have hc0:∀j,j< [u].length->(w.cell? ⟨g,o+n*i.size+j,none⟩).isSome=true:=by
    intro j hj;have hj0:j=0:=by simpa using hj
    subst hj0;simpa[hsize] using hcell
   have hf0:∀j,j< [u].length->w.frozen? ⟨g,o+n*i.size+j,none⟩=false:=by
    intro j hj;have hj0:j=0:=by simpa using hj
    subst hj0;simpa[hsize] using hfr
   have hr:=run_append_room_cells (P:=P) w t ty e i ht hi g o n cap a 1 c [u] (by rw[hsize];rfl) hnews (by simpa using h1) hroom hc0 hf0;rw[hsize,Nat.mul_one] at hr;have hset:w.setCells g (o+n) [u]=w.setCell ⟨g,o+n,none⟩ u:=rfl;rw[hset] at hr;refine ⟨_,_,hr,⟨by simp[hown.1],.inr ⟨g,o,cap,cur.setIfInBounds (o+n) u,rfl,hbg,heap_setCell_same w g (o+n) cur e u hg,hroom,hcm,by simpa using hcs,?_⟩⟩,aR w g (o+n) u,fun k hk=> .inl hk⟩;rw[Array.toList_setIfInBounds];apply zG;intro j;rw[pW,vg,IC];rcases Nat.lt_trichotomy j n with hj|hj|hj
   ·rw[bD (by omega),aP (by omega),mh (by rw[hown.1];exact hj),<-htake,pW,bD hj,vg]
   ·subst hj;rw[bD (by omega),bD rfl,bD (by simp;omega),oI (by rw[hown.1];omega),hown.1,Nat.sub_self];rfl
   ·rw[aP (by omega),kV (by simp[hown.1];omega)]
  ·obtain ⟨v',w',hr,h2,h3⟩:=run_append_arg_grows (P:=P) w t ty e i z 1 bytes ht hi hz hsize hby hzs (by omega) ⟨g,o,none⟩ n cap xs (by simpa using hown.1) (fun j x hx=>by rw[Addr.add_lit];exact hown.cells j x hx) a 1 c [u] rfl hnews (by omega) h63 hbytes;exact ⟨v',w',hr,(fU.eu h2).CW hbase,⟨h3.os,h3.tape,h3.output,h3.size,fun k hk _=>h3.block k hk (by simp)⟩,fun k hk=> .inr ((fU.eu h2).lt hk).1⟩
theorem CX {o:Oper} {a:Act} {K:Act->World->Prop} {Q:Exit->Act->World->Prop} (s x:Operand) (t:TypeId)
 (ho:o.op= .call {callee:= .builtin .append,args:= #[s,x],argTypes:= #[t,t]})
 (i:TypeInfo) (z:Value) (bytes:Nat) (ht:P.underlying t=some (.slice e)) (hi:P.info? e=some i) (hz:i.zero=some z)
 (hsize:i.size=1) (hby:i.bytes=bytes) (hzs:z.cells.size=1) (hs:a.eval s=v) (hown:fU w base e v n xs)
 (ad:Addr) (c:Nat) (u:Value) (hx:a.eval x= .slice (some ad) 1 c) (hu:w.cell? ad=some u) (h1:u.oneCell'=true)
 (h63:n+1<=maxLen) (hbytes:(n+1)*bytes<=140737488355328) (hbase:base<=w)
 (h:∀v' w',fU w' base e v' (n+1) (xs++ [u])->w.grownBy w' (bM v)->(∀k,bM v'=some k->bM v=some k\/w.heap.size<=k)->K (a.put o.dst v') w'):o.wp P a w K Q:=by
 obtain ⟨v',w',hr,h2,h3,h4⟩:=Ks (P:=P) t o.type i z bytes ht hi hz hsize hby hzs hown ad c u hu h1 h63 hbytes hbase;unfold Oper.wp execOp;simp only[ho,resolve,invoke,builtin,Sem.run_bind,Sem.run_pure,Result.andThen_ok,List.map_toArray,vw,xS,hs,hx,hr];exact h v' w' h2 h3 h4
theorem DC {ops:Array Oper} {rest:List Oper} {o:Oper} {a:Act} {Q:Exit->Act->World->Prop} (hgd:o.guard=none) (s x:Operand) (t:TypeId)
 (ho:o.op= .call {callee:= .builtin .append,args:= #[s,x],argTypes:= #[t,t]})
 (i:TypeInfo) (z:Value) (bytes:Nat) (ht:P.underlying t=some (.slice e)) (hi:P.info? e=some i) (hz:i.zero=some z)
 (hsize:i.size=1) (hby:i.bytes=bytes) (hzs:z.cells.size=1) (hs:a.eval s=v) (hown:fU w base e v n xs)
 (ad:Addr) (c:Nat) (u:Value) (hx:a.eval x= .slice (some ad) 1 c) (hu:w.cell? ad=some u) (h1:u.oneCell'=true)
 (h63:n+1<=maxLen) (hbytes:(n+1)*bytes<=140737488355328) (hbase:base<=w)
 (h:∀v' w',fU w' base e v' (n+1) (xs++ [u])->w.grownBy w' (bM v)->(∀k,bM v'=some k->bM v=some k\/w.heap.size<=k)->wpList P ops Q rest (a.put o.dst v') w'):wpList P ops Q (o::rest) a w:=
 wpList_plain hgd fun _ hK=>CX s x t ho i z bytes ht hi hz hsize hby hzs hs hown ad c u hx hu h1 h63 hbytes hbase fun v' w' h2 h3 h4=>hK _ _ (h v' w' h2 h3 h4)
theorem H8 {ops:Array Oper} {o:Oper} {a:Act} {K:Act->World->Prop} {Q:Exit->Act->World->Prop} {E:Prop} (hgd:o.guard=none) (s x:Operand) (t:TypeId)
 (ho:o.op= .call {callee:= .builtin .append,args:= #[s,x],argTypes:= #[t,t]})
 (i:TypeInfo) (z:Value) (bytes:Nat) (ht:P.underlying t=some (.slice e)) (hi:P.info? e=some i) (hz:i.zero=some z)
 (hsize:i.size=1) (hby:i.bytes=bytes) (hzs:z.cells.size=1) (hs:a.eval s=v) (hown:fU w base e v n xs)
 (ad:Addr) (c:Nat) (u:Value) (hx:a.eval x= .slice (some ad) 1 c) (hu:w.cell? ad=some u) (h1:u.oneCell'=true)
 (h63:n+1<=maxLen) (hbytes:(n+1)*bytes<=140737488355328) (hbase:base<=w)
 (h:∀v' w',fU w' base e v' (n+1) (xs++ [u])->w.grownBy w' (bM v)->(∀k,bM v'=some k->bM v=some k\/w.heap.size<=k)->K (a.put o.dst v') w'):if Region.wanted o (yielded ops a.tmps)=true then Oper.wp P o a w K Q else E:=by
 have hw:Region.wanted o (yielded ops a.tmps)=true:=by simp[Region.wanted,hgd]
 rw[bD hw];exact CX s x t ho i z bytes ht hi hz hsize hby hzs hs hown ad c u hx hu h1 h63 hbytes hbase h
end
def bV (c:Cf) (st:Sd) (x:List UInt8):Sd × Int:=
 if st.failed=true then (st,8)
 else if x.length=0\/9000<x.length then (st,2)
 else if c.cap<(aH st:Int)+(x.length:Int) then (st,7)
 else (dQ st x,0)
def aZ (c:Cf) (st:Sd) (now n:Int):Sd × Option Pu × Int:=
 if st.failed=true then (st,none,8)
 else if n<0 then (st,none,2)
 else ((kF c st now n).1,(kF c st now n).2.1,if (kF c st now n).2.2=true then 8 else 0)
def bP (c:Cf) (st:Sd) (now aA:Int) (fI:List Nk):Sd × Int:=
 if st.failed=true then (st,8) else kS c st now aA fI
def eY (c:Cf) (st:Sd) (now:Int):Sd × Int:=
 if st.failed=true then (st,8) else (aB c st now,if (aB c st now).failed=true then 8 else 0)
theorem bY.bV {st:Sd} (h:bY st) (c:Cf) (x:List UInt8):bY (bV c st x).1:=by
 unfold Go.Proofs.YtbhiklnljiehiaaGreat.bV;split
 ·exact h
 ·split
  ·exact h
  ·split
   ·exact h
   ·exact h.iY (by omega)
theorem bY.aZ {st:Sd} (h:bY st) (c:Cf) (now n:Int):bY (aZ c st now n).1:=by
 unfold Go.Proofs.YtbhiklnljiehiaaGreat.aZ;split
 ·exact h
 ·split
  ·exact h
  ·exact h.ko c now n
theorem bY.bP {st:Sd} (h:bY st) (c:Cf) (now aA:Int) (fI:List Nk):bY (bP c st now aA fI).1:=by
 unfold Go.Proofs.YtbhiklnljiehiaaGreat.bP;split
 ·exact h
 ·exact h.status c now aA fI
theorem bY.eY {st:Sd} (h:bY st) (c:Cf) (now:Int):bY (eY c st now).1:=by
 unfold Go.Proofs.YtbhiklnljiehiaaGreat.eY;split
 ·exact h
 ·exact h.tick c now
structure J9 (c:Cf):Prop where
 Oh:0<=c.Oh/\c.Oh<=1024
 byte:0<=c.byte/\c.byte<=1048576
 timer:1<=c.timer/\c.timer<=1048576
 fF:0<=c.fF/\c.fF<=64
 cap:1<=c.cap/\c.cap<=1048576
structure zS (x:Ou):Prop where
 sn:x.sn<=1023
 ps:qh x.ps
 pr:∀r∈x.pend,r.1<=r.2/\r.2<au x
 pl:x.pend.length<=1000
structure lK (st:Sd) (K:Nat):Prop where
 done:st.done<=1048576*K
 fG:st.fG<=K
 bytes:st.bytes<=32767*K
 held:aH st<=1048576
 RB:∀s∈st.queue,1<=s.length/\s.length<=9000
 pol:st.polled<=1023
 ou:∀x∈st.out,zS x
 rx:∀x∈st.out,x.fF<=K
 EL:0<=st.now
 Hl:st.now<=9223372036854775807
theorem lK.mono {st:Sd} {K K':Nat} (h:lK st K) (hk:K<=K'):lK st K':=
 ⟨gG h.done (Nat.mul_le_mul_left _ hk),gG h.fG hk,gG h.bytes (Nat.mul_le_mul_left _ hk),h.held,h.RB,h.pol,h.ou,fun x hx=>gG (h.rx x hx) hk,h.EL,h.Hl⟩
theorem lK.new:lK dO 0:=⟨by simp[dO],by simp[dO],by simp[dO],by simp[dO,aH,aj],by simp[dO],by simp[dO],by simp[dO],by simp[dO],by simp[dO],by simp[dO]⟩
theorem xk {q:List (List UInt8)} (h:∀s∈q,1<=s.length):q.length<=aj q:=by
 induction q with
 |nil=>simp
 |cons x r ih=>
  have h1:=h x (by simp);have h2:=ih (fun s hs=>h s (by simp[hs]));rw[iX];simp only[jh];omega
theorem lK.clock {st:Sd} {K:Nat} (h:lK st K) {now:Int} (hn:now<=9223372036854775807):lK (cO st now) K:=
 ⟨h.done,h.fG,h.bytes,h.held,h.RB,h.pol,h.ou,h.rx,by have:=h.EL;simp only[cO];split<;>omega,by have:=h.Hl;simp only[cO];split<;>omega⟩
theorem lK.iY {st:Sd} {K:Nat} (h:lK st K) {x:List UInt8} (h1:1<=x.length) (h9:x.length<=9000) (hc:aH st+x.length<=1048576):lK (dQ st x) K:=
 ⟨h.done,h.fG,h.bytes,by simp only[aH,dQ,sD,iX] at*;simp[aj] at*;omega,fun s hs=>by
  simp only[dQ,iH,nC] at hs;rcases hs with hs|rfl
  ·exact h.RB s hs
  ·exact ⟨h1,h9⟩,h.pol,h.ou,h.rx,h.EL,h.Hl⟩
theorem QC (c:Cf) {x:Ou} {l:List (Nat × Nat)} {K:Nat} (h:zS x) (hr:x.fF<=K) (hl:∀r∈l,r.1<=r.2/\r.2<au x) (hn:l.length<=1000):zS (fO c x l).1/\(fO c x l).1.fF<=K+1:=by
 unfold fO;split
 ·exact ⟨⟨h.sn,h.ps,hl,hn⟩,by dsimp only;omega⟩
 ·exact ⟨⟨h.sn,h.ps,hl,hn⟩,by dsimp only;omega⟩
theorem lM {x:Ou} (h:zS x):1<=au x/\au x<=32767:=by
 unfold au;have:=h.ps.sum;have:=h.ps.lo;refine ⟨?_,by omega⟩;obtain ⟨p,hp⟩:=List.exists_mem_of_length_pos (show 0<x.ps.length by omega);have:=jw hp;have:=h.ps.pos p hp;omega
theorem lK.set {st:Sd} {K:Nat} (h:lK st K) (i:Nat) {z:Ou} (hz:zS z) (hr:z.fF<=K) (b:Bool):lK {st with out:=st.out.set i z,failed:=b} K:=
 ⟨h.done,h.fG,h.bytes,h.held,h.RB,h.pol,fun x hx=>by
  rcases qZ hx with rfl|hx
  ·exact hz
  ·exact h.ou x hx,fun x hx=>by
  rcases qZ hx with rfl|hx
  ·exact hr
  ·exact h.rx x hx,h.EL,h.Hl⟩
theorem lK.nS {st:Sd} {K:Nat} (h:lK st K) (c:Cf):lK (aX c st) (K+1):=by
 unfold aX;split
 ·exact h.mono (by omega)
 ·split
  ·exact h.mono (by omega)
  ·split
   ·exact h.mono (by omega)
   ·rename_i i _ _ x hx;have hm:=iT hx;have ho:=h.ou x hm;have hs:=lM ho;obtain ⟨p1,p2⟩:=QC c ho (h.rx x hm) (l:= [(0,au x-1)]) (fun r hr=>by simp at hr;rw[hr];dsimp only;omega) (by simp);exact (h.mono (vQ K)).set i p1 p2 _
theorem lK.tick {st:Sd} {K:Nat} (h:lK st K) (c:Cf) {now:Int} (hn:now<=9223372036854775807):lK (aB c st now) (K+1):=by
 have h1:=h.clock hn;unfold aB gH;split
 ·exact h1.mono (by omega)
 ·exact lK.nS (st:= {cO st now with wait:=false,dI:=true}) ⟨h1.done,h1.fG,h1.bytes,h1.held,h1.RB,h1.pol,h1.ou,h1.rx,h1.EL,h1.Hl⟩ c
theorem lK.finish {st:Sd} {K:Nat} (h:lK st K) (c:Cf) (b:Bool):lK (aG c st b).1 K:=by
 unfold aG;split
 ·exact ⟨h.done,eH _,eH _,h.held,h.RB,by show (dM st+1023)%1024<=1023;omega,h.ou,h.rx,h.EL,h.Hl⟩
 ·exact h
theorem lK.again {st:Sd} {K:Nat} (h:lK st K) (c:Cf) (n:Int) (i:Nat) {x:Ou} (hx:st.out[i]? =some x):lK (dK c n st i x).1 K:=by
 have hm:=iT hx;have ho:=h.ou x hm;have hpl:=ho.pl;have key:∀l:List (Nat × Nat),(∀r∈l,r.1<=r.2/\r.2<au x)->l.length<=1000->lK (cB st i x l) K:=fun l hl hn=>
  h.set i (z:= {x with pend:=l}) ⟨ho.sn,ho.ps,hl,hn⟩ (h.rx x hm) st.failed
 have hpr:=ho.pr;unfold Go.Proofs.YtbhiklnljiehiaaGreat.dK;cases hl:x.pend with
 |nil=>exact h
 |cons r rest=>
  obtain ⟨fr,e0⟩:=r;rw[hl] at hpr hpl;have hr:=hpr (fr,e0) (by simp);dsimp only at hr;have hb:=pz (eX x fr n) (e0+1-fr) fr;simp only[jh] at hpl;dsimp only;split
  ·exact (key [] (by simp) (by simp)).finish c false
  ·split
   ·exact h
   ·refine (key _ (fun q hq=> ?_) ?_).finish c false
    ·split at hq
     ·exact hpr q (by simp[hq])
     ·rcases nE.1 hq with rfl|hq
      ·dsimp only;omega
      ·exact hpr q (by simp[hq])
    ·split
     ·omega
     ·simp only[jh];omega
theorem chunk_ok {st:Sd} {K:Nat} (_h:lK st K) (hi:InvV st) (n:Int) (hne:(aJ n st).ps≠ []):zS (aJ n st):=by
 obtain ⟨⟨d,h1,h2⟩,h3,h4⟩:=sF st.queue st.taken hi.le;have hne':(l9 n ((aI st.queue st.taken).1.length+1) (aI st.queue st.taken).1 (aI st.queue st.taken).2 0 0 0 false).1≠ []:=hne;have hpos:∀s∈(aI st.queue st.taken).1,1<=s.length:=fun s hs=>hi.pos s (by rw[h1];simp[hs])
 have hv:=BH n ((aI st.queue st.taken).1.length+1) (aI st.queue st.taken).1 (aI st.queue st.taken).2 false hpos h4 hne';exact ⟨by show dM st<=1023;unfold dM;omega,hv,(by intro r hr;cases hr),by show (0:Nat)<=1000;omega⟩
theorem lK.fresh {st:Sd} {K:Nat} (h:lK st K) (hi:InvV st) (c:Cf) (n:Int):lK (bU c n st).1 (K+1):=by
 unfold bU;split
 ·exact h.mono (by omega)
 ·split
  ·exact h.mono (by omega)
  ·rename_i hne;have ho:=chunk_ok h hi n hne;have hs:=lM ho;have hx:(aJ n st).fF=0:=rfl;dsimp only;generalize aJ n st=x at*;refine lK.finish (st:=cK st x) ⟨?_,?_,?_,h.held,h.RB,h.pol,fun y hy=> ?_,fun y hy=> ?_,h.EL,h.Hl⟩ c _
   ·have:=h.done;show st.done<=_
    omega
   ·have:=h.fG;show st.fG+1<=_
    omega
   ·have:=h.bytes;show st.bytes+au x<=_
    omega
   ·simp only[cK,iH,nC] at hy;rcases hy with hy|rfl
    ·exact h.ou y hy
    ·exact ho
   ·simp only[cK,iH,nC] at hy;rcases hy with hy|rfl
    ·have:=h.rx y hy;omega
    ·omega
def Kt (F D:Nat->Prop) (A:Option Addr):Prop:=∀ad,A=some ad->F ad.block/\¬D ad.block
def sOf:Value->Option Addr
 | .slice A _ _=>A
 |_=>none
section
variable {w w':World} {B n c:Nat} {A:Option Addr} {xs vs:List Value} {ps:List (List UInt8)}
theorem Sl.stay (h:Sl w w A n c xs) (hk:∀ad,A=some ad->w'.heap[ad.block]? =w.heap[ad.block]?):Sl w' w' A n c xs:=
 ⟨h.len,h.cap,h.mx,fun hn=>by
  obtain ⟨ad,e,hb,hc⟩:=h.at_ hn;have hs:=hk ad e;refine ⟨ad,e,?_,fun j u hu=>(Ei (by rw[block_add];exact hs)).trans (hc j u hu)⟩;have:w.heap[ad.block]? =some w.heap[ad.block]:=rH hb;rw[this] at hs;exact lt_of_heap hs⟩
theorem jW.stay (h:jW w w A n c vs ps) (hk:∀ad,A=some ad->w'.heap[ad.block]? =w.heap[ad.block]?) (hv:∀(i:Nat) v ad,vs[i]? =some v->sOf v=some ad->w'.heap[ad.block]? =w.heap[ad.block]?):jW w' w' A n c vs ps:=by
 refine ⟨h.sl.stay hk,h.len,fun i p hi=> ?_⟩;obtain ⟨A',c',e,hs⟩:=h.each i p hi;exact ⟨A',c',e,hs.stay fun ad ea=>hv i _ ad e (by rw[ea];rfl)⟩
end
def fV (c:Cf) (vq vo:Value) (st:Sd):Array Value:=
 #[c.Oh,c.byte,c.timer,c.reorder,c.cu,c.fF,c.cap,vq,.int .i64 (st.done:Nat),.int .i64 (st.front:Nat),.int .i64 (st.taken:Nat),.int .i64 (st.first:Nat),vo,.int .i64 (st.fG:Nat),.int .i64 (st.bytes:Nat),.int .i64 (st.polled:Nat),.bool st.wait,st.bu,.bool st.dI,.bool st.failed,st.now]
def My (x:Ou) (vp vr:Value):Array Value:=
 #[.int .i64 (x.sn:Nat),.bool false,.bool false,.bool false,.int .i64 0,.bool x.s,.bool x.e,vp,.int .i64 (au x:Nat),.bool x.bJ,vr,.int .i64 (x.fF:Nat)]
structure fQ (w:World) (A:Option Addr) (n c:Nat) (l:List (Nat × Nat)):Prop where
 len:l.length=n
 cap:n<=c
 mx:c<=9223372036854775807
 at_:0<n->∃ad,A=some ad/\ad.block<w.heap.size/\∀j r,l[j]? =some r->w.cell? (ad.add (j*2))=some (.int .i64 (r.1:Nat))/\w.cell? (ad.add (j*2+1))=some (.int .i64 (r.2:Nat))
theorem fQ.stay {w w':World} {A:Option Addr} {n c:Nat} {l:List (Nat × Nat)} (h:fQ w A n c l) (hk:∀ad,A=some ad->w'.heap[ad.block]? =w.heap[ad.block]?):fQ w' A n c l:=
 ⟨h.len,h.cap,h.mx,fun hn=>by
  obtain ⟨ad,e,hb,hc⟩:=h.at_ hn;have hs:=hk ad e;refine ⟨ad,e,?_,fun j r hr=>⟨(Ei (by rw[block_add];exact hs)).trans (hc j r hr).1,(Ei (by rw[block_add];exact hs)).trans (hc j r hr).2⟩⟩;have:w.heap[ad.block]? =some w.heap[ad.block]:=rH hb;rw[this] at hs;exact lt_of_heap hs⟩
theorem fQ.nil (w:World):fQ w none 0 0 []:=⟨rfl,aL,by omega,fun h=>absurd h (by omega)⟩
structure jv (w:World) (D F:Nat->Prop) (p:Nat) (x:Ou) (Ap:Option Addr) (cp:Nat) (vp:List Value) (Ar:Option Addr) (cr:Nat):Prop where
 blk:av w p 152 (My x (.slice Ap x.ps.length cp) (.slice Ar x.pend.length cr))
 d:D p
 f:F p
 ps:jW w w Ap x.ps.length cp vp x.ps
 pf:Kt F D Ap
 pe:∀(i:Nat) v,vp[i]? =some v->Kt F D (sOf v)
 rs:fQ w Ar x.pend.length cr x.pend
 rf:Kt F D Ar
structure gu (w:World) (D F:Nat->Prop) (g:Nat) (c:Cf) (st:Sd) (vq:Value) (vs:List Value) (vo:Value) (os:List Value):Prop where
 blk:av w g 143 (fV c vq vo st)
 gd:D g
 sub:∀k,D k->F k
 lt:∀k,F k->k<w.heap.size
 qr:fU w 0 31 vq st.queue.length vs
 qd:∀k,bM vq=some k->D k
 qe:∀(i:Nat) (p:List UInt8),st.queue[i]? =some p->∃A cc,vs[i]? =some (.slice A p.length cc)/\Sl w w A p.length cc (dz p)/\Kt F D A
 yL:fU w 0 138 vo st.out.length os
 od:∀k,bM vo=some k->D k
 oe:∀(i:Nat) (x:Ou),st.out[i]? =some x->∃p Ap cp vp Ar cr,os[i]? =some (.pointer (some ⟨p,0,none⟩))/\jv w D F p x Ap cp vp Ar cr
 inj:∀(i j:Nat) v,os[i]? =some v->os[j]? =some v->i=j
def dU (w:World) (D D':Nat->Prop):Prop:=∀k,D' k->D k\/w.heap.size<=k
theorem dU.refl (w:World) (D:Nat->Prop):dU w D D:=fun _ h=> .inl h
theorem dU.trans {w w':World} {D D' D'':Nat->Prop} (h:dU w D D') (h':dU w' D' D'') (hs:w.heap.size<=w'.heap.size):dU w D D'':=fun k hk=>by
 rcases h' k hk with e|e
 ·exact h k e
 ·exact .inr (by omega)
section
variable {w w':World} {D F:Nat->Prop} {g:Nat} {c:Cf} {st:Sd} {vq vo:Value} {vs os:List Value}
theorem jv.stay {p:Nat} {x:Ou} {Ap Ar:Option Addr} {cp cr:Nat} {vp:List Value} (h:jv w D F p x Ap cp vp Ar cr) (hk:∀k,F k->w'.heap[k]? =w.heap[k]?):jv w' D F p x Ap cp vp Ar cr:=
 ⟨(hk p h.f).trans h.blk,h.d,h.f,h.ps.stay (fun ad e=>hk _ (h.pf ad e).1) (fun i v ad hv e=>hk _ (h.pe i v hv ad e).1),h.pf,h.pe,h.rs.stay (fun ad e=>hk _ (h.rf ad e).1),h.rf⟩
theorem gu.stay (h:gu w D F g c st vq vs vo os) (hk:∀k,F k->w'.heap[k]? =w.heap[k]?):gu w' D F g c st vq vs vo os:=by
 have hlt:∀k,F k->k<w'.heap.size:=fun k hf=>by
  have h1:=h.lt k hf;have h2:=hk k hf;rw[rH h1] at h2;exact lt_of_heap h2
 exact ⟨(hk g (h.sub g h.gd)).trans h.blk,h.gd,h.sub,hlt,h.qr.keep fun k e=>hk k (h.sub k (h.qd k e)),h.qd,
  fun i p hi=>let ⟨A,cc,e,hs,hf⟩:=h.qe i p hi;⟨A,cc,e,hs.stay fun ad ea=>hk _ (hf ad ea).1,hf⟩,
  h.yL.keep fun k e=>hk k (h.sub k (h.od k e)),h.od,
  fun i x hi=>let ⟨p,Ap,cp,vp,Ar,cr,e,ho⟩:=h.oe i x hi;⟨p,Ap,cp,vp,Ar,cr,e,ho.stay hk⟩,h.inj⟩
theorem gu.below (h:gu w D F g c st vq vs vo os) (hb:Below w w w'):gu w' D F g c st vq vs vo os:=h.stay fun k hf=>hb.block k (h.lt k hf)
theorem gu.drewN (h:gu w D F g c st vq vs vo os) (k:Nat):gu (w.drewN k) D F g c st vq vs vo os:=h.below ((bS _ w).drewN k)
theorem gu.drew (h:gu w D F g c st vq vs vo os):gu w.drew D F g c st vq vs vo os:=h.below ((bS _ w).drew)
theorem gu.alloc (h:gu w D F g c st vq vs vo os) (o:Obj):gu (w.alloc o) D F g c st vq vs vo os:=h.below ((bS _ w).alloc (aL) o)
end
theorem Au (n:Int):bits .and .i64 n 1023=n%1024:=by
 have h127:(BitVec.ofInt 64 1023).toNat=2 ^ 10-1:=by decide
 have key:(BitVec.ofInt 64 n&&& BitVec.ofInt 64 1023).toNat=(n%((2 ^ 64:Nat):Int)).toNat%2 ^ 10:=by
  rw[BitVec.toNat_and,BitVec.toNat_ofInt,h127,Nat.and_two_pow_sub_one_eq_mod]
 show IntKind.i64.wrap ((BitVec.ofInt 64 n&&& BitVec.ofInt 64 1023).toNat:Nat)=n%1024
 rw[key,vk];omega
section
variable {D F:Nat->Prop} {g:Nat} {c:Cf} {st:Sd} {vq vo:Value} {vs os:List Value} {w:World}
theorem lu (h:gu w D F g c st vq vs vo os) (ht:1<=c.timer):
 Calls prog 75 #[.pointer (some g)] w fun e w'=>e= .returned (.int .i64 (if st.failed=true then 8 else 0))/\w=w':=by
 have x2:=h.blk.cell 2;have X9:=h.blk.cell 19;simp[fV] at x2 X9;have d0:(c.timer==0)=false:=by simp;omega
 clear h;cases hf:st.failed with
 |true=>
  rw[hf] at X9;go_enter func75,ntmps75;go_wp2;go_ret;exact ⟨rfl,rfl⟩
 |false=>
  rw[hf] at X9;go_enter func75,ntmps75;go_wp2;go_ret;exact ⟨rfl,rfl⟩
theorem gu.WV (h:gu w D F g c st vq vs vo os):∃A cc,vq= .slice A st.queue.length cc/\jW w w A st.queue.length cc vs st.queue:=by
 obtain ⟨A,cc,e,hs⟩:=h.qr.sl;exact ⟨A,cc,e,hs,rfl,fun i p hi=>let ⟨A',c',e',hs',_⟩:=h.qe i p hi;⟨A',c',e',hs'⟩⟩
theorem gu.Ya (h:gu w D F g c st vq vs vo os):∃A cc,vo= .slice A st.out.length cc/\Sl w w A st.out.length cc os:=h.yL.sl
theorem Jc (h:gu w D F g c st vq vs vo os) (hsum:aH st<=1048576):
 Calls prog 102 #[.pointer (some g)] w fun e w'=>e= .returned (.int .i64 (aH st:Nat))/\w=w':=by
 have x7:=h.blk.cell 7;simp[fV] at x7;obtain ⟨A,cc,rfl,hs⟩:=h.WV;have hcap:=hs.sl.cap;have hmx:=hs.sl.mx;have HS:=ah hs;unfold aH at hsum ⊢;have zP:=ah hsum;clear h hs hsum;go_enter func102,ntmps102;go_wp2
 go_loop [2,10] (fun s i=>∃k:Nat,k<=st.queue.length/\i= .int .i64 k/\s= .int .i64 (aj (st.queue.take k):Nat)) (fun _ i=>st.queue.length-(intOf i).toNat)
 case atStart=>exact ⟨0,eH _,rfl,rfl⟩
 case round=>
  obtain ⟨k,hk,rfl,rfl⟩:=hrel;by_cases hlt:k<st.queue.length
  ·obtain ⟨ad,Ai,ci,rfl,hb,hc,hsl⟩:=HS.out.get hlt;have hs1:=jG st.queue k hlt;have hle1:=gG (fB st.queue (k+1)) zP.out;have hcap1:=hsl.cap;have akA:=hsl.mx;generalize st.queue[k]?.getD []=p at*;generalize aj (List.take k st.queue)=S at*;have hle2:S+p.length<=1048576:=by omega
   have IQ:=ah hs1;clear hs1 hle1 hsl;go_wp2
   go_round
   case rel=>exact ⟨k+1,by omega,by go_num,by rw[IQ.out];go_num⟩
   case measure=>simp[intOf];omega
  ·have e:st.queue.take k=st.queue:=kI (by omega);rw[e];clear e;go_wp2;go_ret;exact ⟨rfl,rfl⟩
theorem xw (h:gu w D F g c st vq vs vo os) (h1:st.first<1024) (h2:st.out.length<=1000000):
 Calls prog 87 #[.pointer (some g)] w fun e w'=>e= .returned (.int .i64 (dM st:Nat))/\afe w w':=by
 have Cb:=h.blk.cell 11;have MC:=h.blk.cell 12;simp[fV] at Cb MC;obtain ⟨A,cc,rfl,hs⟩:=h.Ya;have hcap:=hs.cap;have hmx:=hs.mx;have hand:bits BinOp.and IntKind.i64 ((st.first:Int)+(st.out.length:Int)) 1023=((dM st:Nat):Int):=by rw[Au];unfold dM;omega
 have hsum:IntKind.i64.wrap ((st.first:Int)+(st.out.length:Int))=(st.first:Int)+(st.out.length:Int):=iG _ (by omega);have HS:=ah hsum;have HA:=ah hand;clear h hs hsum hand;go_enter func87,ntmps87;go_wp2
 go_quiet (fail)
 go_wp2;go_ret;refine ⟨qY (by first|rw[HS.out,HA.out]|rw[HA.out]),?_⟩;exact ⟨_,rfl⟩
theorem yM (h:gu w D F g c st vq vs vo os) (h1:st.first<1024) (sn:Int) (hs:0<=sn/\sn<=1023):
 Calls prog 142 #[.pointer (some g),sn] w fun e w'=>e= .returned (.int .i64 (eP st sn))/\w=w':=by
 have Cb:=h.blk.cell 11;simp[fV] at Cb;have hand:bits BinOp.and IntKind.i64 (sn-(st.first:Int)) 1023=eP st sn:=by rw[Au];rfl
 clear h;go_enter func142,ntmps142;go_wp2;go_ret;exact ⟨rfl,rfl⟩
theorem jv.cells {p:Nat} {x:Ou} {Ap Ar:Option Addr} {cp cr:Nat} {vp:List Value} (h:jv w D F p x Ap cp vp Ar cr):
 w.cell? p=some (.int .i64 (x.sn:Nat))/\w.cell? ⟨p,7,none⟩=some (.slice Ap x.ps.length cp)/\w.cell? ⟨p,8,none⟩=some (.int .i64 (au x:Nat))/\w.cell? ⟨p,9,none⟩=some (.bool x.bJ)/\w.cell? ⟨p,10,none⟩=some (.slice Ar x.pend.length cr)/\w.cell? ⟨p,11,none⟩=some (.int .i64 (x.fF:Nat)):=
 ⟨h.blk.cell 0,h.blk.cell 7,h.blk.cell 8,h.blk.cell 9,h.blk.cell 10,h.blk.cell 11⟩
def ixI:Option Nat->Int
 |some i=>(i:Int)
 |none=> -1
theorem RL {l:List Ou} {q:Ou->Bool} {k:Nat} {x:Ou} (hx:l[k]? =some x) (hall:∀(j:Nat) (y:Ou),j<k->l[j]? =some y->q y=false) (hq:q x=true):l.findIdx? q=some k:=by
 obtain ⟨hk,rfl⟩:=pN.1 hx;exact List.findIdx?_eq_some_iff_getElem.2 ⟨hk,hq,fun j hj=>by
  have:=hall j l[j] hj (gX (by omega));simp[this]⟩
theorem RN {l:List Ou} {q:Ou->Bool} (hall:∀(j:Nat) (y:Ou),l[j]? =some y->q y=false):l.findIdx? q=none:=by
 rw[List.findIdx?_eq_none_iff];intro x hx;obtain ⟨j,hj⟩:=El.1 hx;exact hall j x hj
theorem Fj (LG:Nat) (akB:LG=126\/LG=161) (q:Ou->Bool) (h:gu w D F g c st vq vs vo os) (_hn:st.out.length<=1000000)
 (hq:∀p x Ap cp vp Ar cr,jv w D F p x Ap cp vp Ar cr->Calls prog LG #[.pointer (some ⟨p,0,none⟩)] w fun e w'=>e= .returned (.bool (q x))/\w=w'):
 Calls prog 125 #[vo,.func (.func LG) #[] #[]] w fun e w'=>e= .returned (.int .i64 (ixI (st.out.findIdx? q)))/\w=w':=by
 obtain ⟨A,cc,rfl,hs⟩:=h.Ya;have hcap:=hs.cap;have hmx:=hs.mx;have HS:=ah hs;have HOE:=ah h.oe;have HQ:=ah hq;clear h hs hq;rcases akB with rfl|rfl
 all_goals
  go_enter func125,ntmps125;go_wp2
  go_loop [8] (fun i=>∃k:Nat,k<=st.out.length/\i= .int .i64 k/\∀j y,j<k->st.out[j]? =some y->q y=false) (fun i=>st.out.length-(intOf i).toNat)
  case atStart=>exact ⟨0,eH _,rfl,fun j y hj=>by omega⟩
  case round=>
   obtain ⟨k,hk,rfl,hall⟩:=hrel;have HA:=ah hall;clear hall;by_cases hlt:k<st.out.length
   ·have hx:st.out[k]? =some st.out[k]:=gX hlt;generalize st.out[k]=x at*;obtain ⟨p,Ap,cp,vp,Ar,cr,he,ho⟩:=HOE.out k x hx;obtain ⟨ad,u,rfl,hb,hu,hc⟩:=HS.out.get hlt;rw[he] at hu;cases hu;have hcl:=HQ.out p x Ap cp vp Ar cr ho;have HX:=ah hx;clear ho he hx;cases hqx:q x with
    |false=>
     rw[hqx] at hcl;have HQX:=ah hqx;have yB:=ah hcl;clear hqx hcl;go_wp2_with fail;refine yB.out.mono ?_;rintro e1 w1 ⟨rfl,rfl⟩;go_wp2
     go_round
     case rel=>
      refine ⟨k+1,by omega,by go_num,fun j y hj hy=> ?_⟩;rcases kD j k with h1|h1
      ·exact HA.out j y h1 hy
      ·rw[show j=k by omega,HX.out] at hy;cases hy;exact HQX.out
     case measure=>simp[intOf];omega
    |true=>
     rw[hqx] at hcl;have hf:=RL HX.out HA.out hqx;have HF:=ah hf;have yB:=ah hcl;clear hqx hcl hf;go_wp2_with fail;refine yB.out.mono ?_;rintro e1 w1 ⟨rfl,rfl⟩;go_wp2;go_ret;exact ⟨by rw[HF.out];rfl,rfl⟩
   ·have hf:st.out.findIdx? q=none:=RN fun j y hy=>HA.out j y (by have:=(pN.1 hy).1;omega) hy
    have HF:=ah hf;clear hf;go_wp2;go_ret;exact ⟨by rw[HF.out];rfl,rfl⟩
theorem O0 {p:Nat} {x:Ou} {Ap Ar:Option Addr} {cp cr:Nat} {vp:List Value} (h:jv w D F p x Ap cp vp Ar cr):
 Calls prog 126 #[.pointer (some p)] w fun e w'=>e= .returned (.bool (uk x))/\w=w':=by
 obtain ⟨x0,x7,x8,x9,x10,Cb⟩:=h.cells;have hcap:=h.rs.cap;have hmx:=h.rs.mx;have hfin:decide (0<x.pend.length)=uk x:=by
  unfold uk;cases x.pend<;>simp
 have HF:=ah hfin;clear h hfin x0 x7 x8 x9 Cb;go_enter func126,ntmps126;go_wp2;go_ret;exact ⟨dm HF.out,rfl⟩
def QK (st:Sd) (os:List Value):Value:=match gZ st.out with
 |some i=>os[i]?.getD (.pointer none)
 |none=> .pointer none
theorem Aw (h:gu w D F g c st vq vs vo os) (hn:st.out.length<=1000000):
 Calls prog 84 #[.pointer (some g)] w fun e w'=>e= .returned (QK st os)/\w=w':=by
 have hix:=Fj 126 (.inl rfl) uk h hn fun p x Ap cp vp Ar cr ho=>O0 ho
 have MC:=h.blk.cell 12;simp[fV] at MC;have TF:=ah hix;have HH:=ah h;clear hix;obtain ⟨A,cc,rfl,hs⟩:=h.Ya;have hcap:=hs.cap;have hmx:=hs.mx;unfold QK;have hp:st.out.findIdx? uk=gZ st.out:=rfl;rw[hp] at TF;cases hpa:gZ st.out with
 |none=>
  rw[hpa] at TF;clear h hs hp hpa;go_enter func84,ntmps84;go_wp2_with fail;refine TF.out.mono ?_;rintro e1 w1 ⟨rfl,rfl⟩;simp only[ixI];go_wp2;go_ret;exact ⟨rfl,rfl⟩
 |some i=>
  rw[hpa] at TF;obtain ⟨x,hx,_⟩:=fH hpa;have hil:=(pN.1 hx).1;obtain ⟨ad,u,rfl,hb,hu,hc⟩:=hs.get hil;have hg:os[i]?.getD (.pointer none)=u:=by rw[hu];rfl
  obtain ⟨p,Ap,cp,vp,Ar,cr,he,ho⟩:=h.oe i x hx;rw[hu] at he;cases he;have HG:=ah hg;clear h hs hp hpa hx ho hu hg;go_enter func84,ntmps84;go_wp2_with fail;refine TF.out.mono ?_;rintro e1 w1 ⟨rfl,rfl⟩;simp only[ixI];go_wp2;go_ret;exact ⟨by simp only;rw[HG.out];rfl,rfl⟩
end
section
open Go.RowKit Go.Lib
section
variable {P:Program} (w:World)
theorem vG (t tn ty e:TypeId) (i:TypeInfo) (z:Value) (kq kn:IntKind) (ht:P.underlying t=some (.slice e)) (htn:P.underlying tn=some (.int kn)) (hi:P.info? e=some i) (hz:i.zero=some z) (hzs:z.cells.size=i.size)
 (g sLen sCap:Nat) (cur:Array Value) (hg:w.heap[g]? =some (.cells cur e (0,0))) (k:Nat) (h0:0<k) (hs:0<i.size) (h48:k*i.bytes<=281474976710656) (h63:((k:Nat):Int)<=9223372036854775807) (h1:∀u∈(Builtin.zeroCells z.cells k).toList,u.oneCell'=true)
 (hroom:sLen+k<=sCap) (hfit:sLen*i.size+k*i.size<=cur.size):
 (Builtin.append_ #[t,tn] ty #[.slice (some ⟨g,0,none⟩) sLen sCap,.int kq k]).run P w=
  .ok (.slice (some ⟨g,0,none⟩) (sLen+k) sCap) (w.setRow g (cur.toList.take (sLen*i.size)++(Builtin.zeroCells z.cells k).toList++cur.toList.drop (sLen*i.size+(Builtin.zeroCells z.cells k).toList.length)).toArray):=by
 have hl:(Builtin.zeroCells z.cells k).toList.length=k*i.size:=by rw[Array.length_toList,G9,hzs]
 have hst:=run_storeCells_at P g (sLen*i.size) e (Builtin.zeroCells z.cells k).toList 0 cur w hg (by rw[hl];simpa using hfit) h1;simp only[uf] at hst;have hw:IntKind.i64.wrap (k:Int)=k:=by rw[vk];omega
 have h48i:¬(281474976710656<(k:Int)*(i.bytes:Int)):=by
  rw[<-Int.natCast_mul];omega
 have hneg:¬((k:Int)<0):=by omega
 have hns:¬(k*i.size=0):=Nat.mul_ne_zero (by omega) (by omega);simp[Builtin.append_,run_underlying ht,run_underlying htn,sizeOf,typeInfo,zeroValue,hi,hz,asInt,asIntOf,hw,hneg,hns,h48i,hroom,Addr.add_lit,hst]
theorem wM (base:Nat) (t tn ty e:TypeId) (i:TypeInfo) (z:Value) (size bytes:Nat) (kq kn:IntKind) (ht:P.underlying t=some (.slice e)) (htn:P.underlying tn=some (.int kn)) (hi:P.info? e=some i) (hz:i.zero=some z)
 (hsize:i.size=size) (hby:i.bytes=bytes) (hzs:z.cells.size=size) (hsz:0<size)
 (v:Value) (n:Nat) (xs:List Value) (hown:w.ownsRow base e size v n xs) (k:Nat) (h0:0<k) (h1:∀u∈(Builtin.zeroCells z.cells k).toList,u.oneCell'=true)
 (h63:n+k<=maxLen) (hbytes:(n+k)*bytes<=140737488355328) (hbase:base<=w):
 ∃v' w',(Builtin.append_ #[t,tn] ty #[v,.int kq k]).run P w= .ok v' w'/\w'.ownsRow base e size v' (n+k) (xs++(Builtin.zeroCells z.cells k).toList)/\w.grownBy w' v.ownBlock/\(v'.ownBlock=v.ownBlock\/v'.ownBlock=some w.heap.size):=by
 subst hsize;subst hby;have hl:(Builtin.zeroCells z.cells k).toList.length=k*i.size:=by rw[Array.length_toList,G9,hzs]
 have hlen:(xs++(Builtin.zeroCells z.cells k).toList).length=(n+k)*i.size:=by rw[l8,hown.1,hl,Nat.add_mul]
 have hm63:((n+k:Nat):Int)<=9223372036854775807:=by simp only[maxLen] at h63;omega
 have hkb:k*i.bytes<=(n+k)*i.bytes:=Nat.mul_le_mul_right _ (by omega);have hxa:∀(c:Array Value),(xs.toArray++Builtin.zeroCells z.cells k++c).toList=(xs++(Builtin.zeroCells z.cells k).toList)++c.toList:=fun c=>by simp
 have grown:∀(old:Nat),old<n+k->∀(row:Option Nat),
  (w.drew.alloc (.cells (xs.toArray++Builtin.zeroCells z.cells k++Builtin.zeroCells z.cells (grownCap w (n+k) old e-(n+k))) e)).ownsRow base e i.size
   (.slice (some ⟨w,0,none⟩) (n+k) (grownCap w (n+k) old e)) (n+k) (xs++(Builtin.zeroCells z.cells k).toList)/\
  w.grownBy (w.drew.alloc (.cells (xs.toArray++Builtin.zeroCells z.cells k++Builtin.zeroCells z.cells (grownCap w (n+k) old e-(n+k))) e)) row:=by
  intro old ho row;have hge:=grownCap_ge w (n+k) old e;have hcm:grownCap w (n+k) old e<=maxLen:=grownCap_le_maxLen w (n+k) old e h63;refine ⟨⟨hlen,.inr ⟨w,_,_,rfl,hbase,Et w.drew _,hge,hcm,?_,?_⟩⟩,⟨rfl,rfl,rfl,by simp,fun k hk _=>yA w.drew _ k hk⟩⟩
  ·simp only[Array.size_append,vP,G9,hzs,hown.1,<-Nat.add_mul]
   congr 1
   omega
  ·rw[hxa,<-hlen];exact List.take_left
 rcases hown.2 with ⟨rfl,rfl⟩|⟨g,cap,cur,rfl,hbg,hg,hnc,hcm,hcs,htake⟩
 ·have hx:xs= []:=nV (by simpa using hown.1);subst hx;have hr:=run_append_nil_zeros (P:=P) w t tn ty e i z kq kn ht htn hi hz k h0 hsz (by simpa using hm63) (by omega);have hgr:=grown 0 (by omega) (Value.ownBlock (.slice none 0 0));simp only[jA,pY,Array.empty_append] at hgr ⊢;exact ⟨_,_,hr,hgr.1,hgr.2,.inr rfl⟩
 ·by_cases hroom:n+k<=cap
  ·have hfit:n*i.size+k*i.size<=cur.size:=by rw[hcs,<-Nat.add_mul];exact Nat.mul_le_mul_right _ hroom
   have hr:=vG (P:=P) w t tn ty e i z kq kn ht htn hi hz hzs g n cap cur hg k h0 hsz (by omega) (by omega) h1 hroom hfit;refine ⟨_,_,hr,⟨hlen,.inr ⟨g,cap,_,rfl,hbg,setRow_heap w g cur _ e _ hg,hroom,hcm,?_,?_⟩⟩,⟨rfl,rfl,rfl,by simp,fun k _ hk=>setRow_other w g k _ (fun e=>hk (by simp[Value.ownBlock,e]))⟩,.inl rfl⟩
   ·simp only[vP,l8,kz,kC,Array.length_toList,G9,hzs];omega
   ·rw[htake,<-hlen];exact List.take_left
  ·have holds:∀j u,xs[j]? =some u->w.drew.cell? ((⟨g,0,none⟩:Addr).add j)=some u:=hown.cells (g:=g) rfl
   have hfc:=run_firstCells_some (P:=P) w.drew i.size n ⟨g,0,none⟩ n cap xs hown.1 holds;have hr:=run_append_grow_zeros (P:=P) w t tn ty e i z kq kn ht htn hi hz (some ⟨g,0,none⟩) n cap xs hfc k h0 hsz (by omega) hm63 (by omega) (growslice_fits (by omega) hbytes);have hgr:=grown cap (by omega) (Value.ownBlock (.slice (some ⟨g,0,none⟩) n cap));exact ⟨_,_,hr,hgr.1,hgr.2,.inr rfl⟩
theorem uX {o:Oper} {a:Act} {K:Act->World->Prop} {Q:Exit->Act->World->Prop} (s x:Operand) (t tn:TypeId)
 (ho:o.op= .call {callee:= .builtin .append,args:= #[s,x],argTypes:= #[t,tn]})
 (base:Nat) (e:TypeId) (i:TypeInfo) (z:Value) (size bytes:Nat) (kq kn:IntKind) (ht:P.underlying t=some (.slice e)) (htn:P.underlying tn=some (.int kn)) (hi:P.info? e=some i) (hz:i.zero=some z)
 (hsize:i.size=size) (hby:i.bytes=bytes) (hzs:z.cells.size=size) (hsz:0<size)
 (v:Value) (n:Nat) (xs:List Value) (hs:a.eval s=v) (hown:w.ownsRow base e size v n xs) (k:Nat) (hx:a.eval x= .int kq k) (h0:0<k) (h1:∀u∈(Builtin.zeroCells z.cells k).toList,u.oneCell'=true)
 (h63:n+k<=maxLen) (hbytes:(n+k)*bytes<=140737488355328) (hbase:base<=w)
 (h:∀v' w',w'.ownsRow base e size v' (n+k) (xs++(Builtin.zeroCells z.cells k).toList)->w.grownBy w' v.ownBlock->(v'.ownBlock=v.ownBlock\/v'.ownBlock=some w.heap.size)->K (a.put o.dst v') w'):o.wp P a w K Q:=by
 obtain ⟨v',w',hrun,h2,h3,h4⟩:=wM (P:=P) w base t tn o.type e i z size bytes kq kn ht htn hi hz hsize hby hzs hsz v n xs hown k h0 h1 h63 hbytes hbase;unfold Oper.wp execOp;simp only[ho,resolve,invoke,builtin,Sem.run_bind,Sem.run_pure,Result.andThen_ok,List.map_toArray,vw,xS,hs,hx,hrun];exact h v' w' h2 h3 h4
end
end
section
variable {P:Program} {ops:Array Oper} {Q:Exit->Act->World->Prop} {md:Region.Mode} {S:World->Prop} {L:List Nat}
def lC (L:List Nat) (listed:Array Bool):Bool:=L.all fun d=> !listed.getD d true
def dP (P:Program) (md:Region.Mode) (ops:Array Oper) (Q:Exit->Act->World->Prop) (S:World->Prop) (L:List Nat):Nat->Array Bool->Act->World->Prop
 |0,listed,a,w=>Region.ready md ops listed= []/\Q .normal a w
 |fuel+1,listed,a,w=>
  (Region.ready md ops listed= []->Q .normal a w)/\
  ∀i∈Region.ready md ops listed,wpOp P ops Q i (fun a' w'=>(lC L (listed.setIfInBounds i true)=true->S w')/\dP P md ops Q S L fuel (listed.setIfInBounds i true) a' w') a w
theorem yR:∀(fuel:Nat) (listed:Array Bool) (a:Act) (w:World),dP P md ops Q S L fuel listed a w->wpAny P md ops Q fuel listed a w
 |0,_,_,_,h=>h
 |fuel+1,_,_,_,h=>⟨h.1,fun i hi=>wpOp_mono (fun a' w' h'=>yR fuel _ a' w' h'.2) (h.2 i hi)⟩
theorem D8 {listed:Array Bool} {k:Nat} (h3:listed.getD k true=false) (h4:listed.getD k false=true):False:=by
 rcases kD k listed.size with h'|h'
 ·simp[h'] at h3 h4;rw[h3] at h4;cases h4
 ·simp[Array.getElem?_eq_none h'] at h3
theorem qA {listed:Array Bool} {j:Nat} (hj:j∉L):lC L (listed.setIfInBounds j true)=lC L listed:=by
 unfold lC;rw[mr,Dq,Dq];constructor
 ·intro h d hd;have:=h d hd
  rwa [getD_set_ne true (fun e=>hj (by rw[e];exact hd))] at this
 ·intro h d hd;rw[getD_set_ne true (fun e=>hj (by rw[e];exact hd))];exact h d hd
def AU (md:Region.Mode) (ops:Array Oper) (W:List Nat) (listed:Array Bool) (i:Nat):Bool:=
 W.all fun j=> !listed.getD j true&&(match ops[j]? with
  |some oj=>oj.after.any fun e=>Region.binds md e&&(e.on==i||W.contains e.on)
  |none=>false)
theorem Po {W:List Nat} {listed:Array Bool} {i:Nat} (h:AU md ops W listed i=true) (hun:listed.getD i true=false):∀j∈W,j∉Region.ready md ops listed:=by
 intro j hj hr;obtain ⟨hju,oj,hoj,hall⟩:=mem_ready.1 hr;have h1:=Dq.1 h j hj;rw[hoj,gD] at h1;obtain ⟨e,he,hb⟩:=Array.any_eq_true'.1 h1.2;simp only[gD,Bool.or_eq_true,beq_iff_eq] at hb;have h2:=hall e he hb.1;rcases hb.2 with h3|h3
 ·rw[h3] at h2;exact D8 hun h2
 ·have h4:=Dq.1 h e.on (by simpa using h3);simp only[gD,Bool.not_eq_true'] at h4;exact D8 h4.1 h2
theorem R8 {W:List Nat} {listed:Array Bool} {i j:Nat} (h:AU md ops W listed i=true) (hj:j∉W):AU md ops W (listed.setIfInBounds j true) i=true:=by
 unfold AU at h ⊢;rw[Dq] at h ⊢;intro k hk;have h1:=h k hk
 rwa [getD_set_ne true (fun e=>hj (by rw[e];exact hk))]
theorem MS {W:List Nat} {listed:Array Bool} {i:Nat} (h:AU md ops W listed i=true) (hW:∀d∈L,d∈W):lC L listed=true:=by
 unfold lC;rw[Dq];intro d hd;have h1:=Dq.1 h d (hW d hd);rw[gD] at h1;exact h1.1
section
variable {i:Nat} {oi:Oper} {v:Value} (hi:ops[i]? =some oi) (hsel:∀(j:Nat) (o:Oper) cs b,ops[j]? =some o->o.op≠ .select cs b) (hQ:∀c a w,Q (.panic c) (a.put oi.dst v) w->Q (.panic c) a w)
theorem C8 {listed:Array Bool} (hfree:∀j oj,ops[j]? =some oj->j≠i->listed.getD j true=false->(∀e∈oj.after,Region.binds md e=true->e.on≠i)->oi.apart ops oj=true) (j:Nat):
 ∀k ok,ops[k]? =some ok->k≠i->(listed.setIfInBounds j true).getD k true=false->(∀e∈ok.after,Region.binds md e=true->e.on≠i)->oi.apart ops ok=true:=fun k ok hk hki hun hno=>by
 refine hfree k ok hk hki ?_ hno;by_cases hjk:j=k
 ·subst hjk;rcases kD j listed.size with h'|h'
  ·simp[h'] at hun
  ·simp at hun
 ·rw[getD_set_ne true hjk] at hun;exact hun
include hi hsel hQ in
theorem KB (W:List Nat) (hil:i∉L) (hW:∀d∈L,d∈W):∀(fuel:Nat) (listed:Array Bool) (a:Act) (w:World),
 (∀j oj,ops[j]? =some oj->j≠i->listed.getD j true=false->(∀e∈oj.after,Region.binds md e=true->e.on≠i)->oi.apart ops oj=true)->
 i∈Region.ready md ops listed->YieldsIf P ops S oi v a->S w->AU md ops W listed i=true->
 dP P md ops Q S L fuel (listed.setIfInBounds i true) (a.put oi.dst v) w->dP P md ops Q S L (fuel+1) listed a w:=by
 intro fuel
 induction fuel with
 |zero=>
  intro listed a w _ hr hy hS hc H;refine ⟨fun h=>(by rw[h] at hr;cases hr),fun j hj=> ?_⟩;by_cases hji:j=i
  ·subst hji;exact hy.wpOp hi hS ⟨fun _=>hS,H⟩
  ·have:=ready_mono hj hji;rw[H.1] at this;cases this
 |succ fuel ih=>
  intro listed a w hfree hr hy hS hc H;refine ⟨fun h=>(by rw[h] at hr;cases hr),fun j hj=> ?_⟩;by_cases hji:j=i
  ·subst hji;exact hy.wpOp hi hS ⟨fun _=>hS,H⟩
  ·have h1:=H.2 j (ready_mono hj hji);have hjw:j∉W:=fun hm=>Po hc (mem_ready.1 hr).1 j hm hj
   have hjl:j∉L:=fun hm=>hjw (hW j hm)
   have hcl:=MS hc hW;have afS:lC L ((listed.setIfInBounds i true).setIfInBounds j true)=true:=by rw[qA hjl,qA hil];exact hcl
   obtain ⟨hjun,oj,hoj,hall⟩:=mem_ready.1 hj;have hnot:∀e∈oj.after,Region.binds md e=true->e.on≠i:=fun e he hb heq=>by
    have h1:=hall e he hb;have h0:=(mem_ready.1 hr).1;rw[heq] at h1;exact D8 h0 h1
   have h2:=wpOp_putIf hoj (hfree j oj hoj hji hjun hnot) (fun cs b=>hsel i oi cs b hi) (fun cs b=>hsel j oj cs b hoj) hQ hy h1;refine wpOp_mono (fun a' w' h3=>⟨fun _=>h3.2.1 afS,ih (listed.setIfInBounds j true) a' w' (C8 hfree j) (ready_mono hr (Ne.symm hji)) h3.1 (h3.2.1 afS) (R8 hc hjw) ?_⟩) h2;rw[Array.setIfInBounds_comm _ _ hji];exact h3.2.2
include hi hsel hQ in
theorem yj (hil:i∉L):∀(fuel:Nat) (listed:Array Bool) (a:Act) (w:World),
 (∀j oj,ops[j]? =some oj->j≠i->listed.getD j true=false->(∀e∈oj.after,Region.binds md e=true->e.on≠i)->oi.apart ops oj=true)->
 i∈Region.ready md ops listed->YieldsIf P ops (fun _=>True) oi v a->(lC L listed=true->S w)->
 dP P md ops Q S L fuel (listed.setIfInBounds i true) (a.put oi.dst v) w->dP P md ops Q S L (fuel+1) listed a w:=by
 intro fuel
 induction fuel with
 |zero=>
  intro listed a w _ hr hy hS H;refine ⟨fun h=>(by rw[h] at hr;cases hr),fun j hj=> ?_⟩;by_cases hji:j=i
  ·subst hji;exact hy.wpOp hi trivial ⟨fun h=>hS (by rwa [qA hil] at h),H⟩
  ·have:=ready_mono hj hji;rw[H.1] at this;cases this
 |succ fuel ih=>
  intro listed a w hfree hr hy hS H;refine ⟨fun h=>(by rw[h] at hr;cases hr),fun j hj=> ?_⟩;by_cases hji:j=i
  ·subst hji;exact hy.wpOp hi trivial ⟨fun h=>hS (by rwa [qA hil] at h),H⟩
  ·have h1:=H.2 j (ready_mono hj hji);obtain ⟨hjun,oj,hoj,hall⟩:=mem_ready.1 hj;have hnot:∀e∈oj.after,Region.binds md e=true->e.on≠i:=fun e he hb heq=>by
    have h1:=hall e he hb;have h0:=(mem_ready.1 hr).1;rw[heq] at h1;exact D8 h0 h1
   have hcc:lC L (listed.setIfInBounds j true)=true->lC L ((listed.setIfInBounds i true).setIfInBounds j true)=true:=fun h=>by
    rw[Array.setIfInBounds_comm _ _ (Ne.symm hji),qA hil];exact h
   have h2:=wpOp_putIf hoj (hfree j oj hoj hji hjun hnot) (fun cs b=>hsel i oi cs b hi) (fun cs b=>hsel j oj cs b hoj) hQ hy h1;refine wpOp_mono (fun a' w' h3=>⟨fun h=>h3.2.1 (hcc h),ih (listed.setIfInBounds j true) a' w' (C8 hfree j) (ready_mono hr (Ne.symm hji)) h3.1 (fun h=>h3.2.1 (hcc h)) ?_⟩) h2;rw[Array.setIfInBounds_comm _ _ hji];exact h3.2.2
end
theorem C9 {i:Nat} {oi:Oper} {v:Value} {fuel:Nat} {listed:Array Bool} {a:Act} {w:World} (W:List Nat) (hi:ops[i]? =some oi)
 (hs:Region.noSelect ops=true) (hf:Region.free md ops listed i=true) (hr:(Region.ready md ops listed).contains i=true) (hl:(!L.contains i&&(AU md ops W listed i&&L.all fun d=>W.contains d))=true)
 (hQ:∀c a w,Q (.panic c) (a.put oi.dst v) w->Q (.panic c) a w) (hy:YieldsIf P ops S oi v a) (hS:S w)
 (h:dP P md ops Q S L fuel (listed.setIfInBounds i true) (a.put oi.dst v) w):dP P md ops Q S L (fuel+1) listed a w:=by
 simp only[gD,Bool.not_eq_true'] at hl;exact KB hi (Region.noSelect_spec hs) hQ W (by simpa using hl.1) (fun d hd=>by simpa using Dq.1 hl.2.2 d hd) fuel listed a w (Region.free_spec hi hf) (by simpa using hr) hy hS hl.2.1 h
theorem uE {i:Nat} {oi:Oper} {v:Value} {fuel:Nat} {listed:Array Bool} {a:Act} {w:World} (hi:ops[i]? =some oi)
 (hs:Region.noSelect ops=true) (hf:Region.free md ops listed i=true) (hr:(Region.ready md ops listed).contains i=true) (hl:(!L.contains i)=true)
 (hQ:∀c a w,Q (.panic c) (a.put oi.dst v) w->Q (.panic c) a w) (hy:YieldsIf P ops (fun _=>True) oi v a) (hS:S w)
 (h:dP P md ops Q S L fuel (listed.setIfInBounds i true) (a.put oi.dst v) w):dP P md ops Q S L (fuel+1) listed a w:=
 yj hi (Region.noSelect_spec hs) hQ (by simpa using hl) fuel listed a w (Region.free_spec hi hf) (by simpa using hr) hy (fun _=>hS) h
theorem uF {i:Nat} {oi:Oper} {v:Value} {fuel:Nat} {listed:Array Bool} {a:Act} {w:World} (hi:ops[i]? =some oi)
 (hs:Region.noSelect ops=true) (hf:Region.free md ops listed i=true) (hr:(Region.ready md ops listed).contains i=true) (hl:(!L.contains i&& !lC L listed)=true)
 (hQ:∀c a w,Q (.panic c) (a.put oi.dst v) w->Q (.panic c) a w) (hy:YieldsIf P ops (fun _=>True) oi v a)
 (h:dP P md ops Q S L fuel (listed.setIfInBounds i true) (a.put oi.dst v) w):dP P md ops Q S L (fuel+1) listed a w:=by
 simp only[gD,Bool.not_eq_true'] at hl;exact yj hi (Region.noSelect_spec hs) hQ (by simpa using hl.1) fuel listed a w (Region.free_spec hi hf) (by simpa using hr) hy (fun h=>by rw[hl.2] at h;cases h) h
theorem gJ {α:Type _}:(∀{xs:List α} {i:Nat} (h:i<xs.toArray.size),xs.toArray[i]=xs[i]'(by simpa using h))/\(∀(l:List α) (i:Nat) (a:α),l.toArray.setIfInBounds i a=(l.set i a).toArray)/\(∀{x:α} {xs:List α} {a:α},(x::xs).set 0 a=a::xs)/\(∀{x:α} {xs:List α} {n:Nat} {a:α},(x::xs).set (n+1) a=x::xs.set n a)/\(∀{a:α} {xs:List α} {h:0<(a::xs).length},(a::xs)[0]'h=a)/\(∀{a:α} {xs:List α} {i:Nat} {h:i+1<(a::xs).length},(a::xs)[i+1]'h=xs[i]'(Nat.lt_of_succ_lt_succ h)):=
 ⟨fun h=>kW h,fun l i a=>kU l i a,rfl,rfl,rfl,rfl⟩
theorem tkX (W:List Nat) (i:Nat) {oi:Oper} (v:Value) {fuel:Nat} {listed:Array Bool} {a:Act} {w:World} (hi:ops[i]? =some oi) (hy:YieldsIf P ops S oi v a) (hS:S w)
 (h:dP P md ops Q S L fuel (listed.setIfInBounds i true) (a.put oi.dst v) w)
 (hs:Region.noSelect ops=true:=by kernel_rfl) (hf:Region.free md ops listed i=true:=by kernel_rfl) (hr:(Region.ready md ops listed).contains i=true:=by kernel_rfl) (hl:(!L.contains i&&(AU md ops W listed i&&L.all fun d=>W.contains d))=true:=by kernel_rfl)
 (hQ:∀c a w,Q (.panic c) (a.put oi.dst v) w->Q (.panic c) a w:=by exact fun _ _ _ h=>h):dP P md ops Q S L (fuel+1) listed a w:=C9 W hi hs hf hr hl hQ hy hS h
theorem Da (i:Nat) {oi:Oper} (v:Value) {fuel:Nat} {listed:Array Bool} {a:Act} {w:World} (hi:ops[i]? =some oi) (hy:YieldsIf P ops (fun _=>True) oi v a) (hS:S w)
 (h:dP P md ops Q S L fuel (listed.setIfInBounds i true) (a.put oi.dst v) w)
 (hs:Region.noSelect ops=true:=by kernel_rfl) (hf:Region.free md ops listed i=true:=by kernel_rfl) (hr:(Region.ready md ops listed).contains i=true:=by kernel_rfl) (hl:(!L.contains i)=true:=by kernel_rfl)
 (hQ:∀c a w,Q (.panic c) (a.put oi.dst v) w->Q (.panic c) a w:=by exact fun _ _ _ h=>h):dP P md ops Q S L (fuel+1) listed a w:=uE hi hs hf hr hl hQ hy hS h
theorem tkZ (i:Nat) {oi:Oper} (v:Value) {fuel:Nat} {listed:Array Bool} {a:Act} {w:World} (hi:ops[i]? =some oi) (hy:YieldsIf P ops (fun _=>True) oi v a)
 (h:dP P md ops Q S L fuel (listed.setIfInBounds i true) (a.put oi.dst v) w)
 (hs:Region.noSelect ops=true:=by kernel_rfl) (hf:Region.free md ops listed i=true:=by kernel_rfl) (hr:(Region.ready md ops listed).contains i=true:=by kernel_rfl) (hl:(!L.contains i&& !lC L listed)=true:=by kernel_rfl)
 (hQ:∀c a w,Q (.panic c) (a.put oi.dst v) w->Q (.panic c) a w:=by exact fun _ _ _ h=>h):dP P md ops Q S L (fuel+1) listed a w:=uF hi hs hf hr hl hQ hy h
theorem jU (i:Nat) {oi:Oper} {fuel:Nat} {listed t:Array Bool} {a a':Act} {w:World}
 (h:dP P md ops Q S L fuel t a' w) (hi:ops[i]? =some oi:=by rfl) (hS:S w:=by assumption)
 (hs:Region.noSelect ops=true:=by kernel_rfl) (hf:Region.free md ops listed i=true:=by kernel_rfl) (hr:(Region.ready md ops listed).contains i=true:=by kernel_rfl) (hl:(!L.contains i)=true:=by kernel_rfl)
 (hQ:∀c a w,Q (.panic c) (a.put oi.dst undef) w->Q (.panic c) a w:=by exact fun _ _ _ h=>h) (hw:Region.wanted oi (yielded ops a.tmps)=false:=by rfl)
 (ht:listed.setIfInBounds i true=t:=by first|(simp only[gJ];rfl)|rfl) (ha:a.put oi.dst undef=a':=by first|(simp only[Act.put,gJ];rfl)|rfl):dP P md ops Q S L (fuel+1) listed a w:=uE hi hs hf hr hl hQ (Or.inr ⟨hw,rfl⟩) hS (by rw[ht,ha];exact h)
theorem Db (i:Nat) {oi:Oper} {fuel:Nat} {listed t:Array Bool} {a a':Act} {w:World}
 (h:dP P md ops Q S L fuel t a' w) (hi:ops[i]? =some oi:=by rfl)
 (hs:Region.noSelect ops=true:=by kernel_rfl) (hf:Region.free md ops listed i=true:=by kernel_rfl) (hr:(Region.ready md ops listed).contains i=true:=by kernel_rfl) (hl:(!L.contains i&& !lC L listed)=true:=by kernel_rfl)
 (hQ:∀c a w,Q (.panic c) (a.put oi.dst undef) w->Q (.panic c) a w:=by exact fun _ _ _ h=>h) (hw:Region.wanted oi (yielded ops a.tmps)=false:=by rfl)
 (ht:listed.setIfInBounds i true=t:=by first|(simp only[gJ];rfl)|rfl) (ha:a.put oi.dst undef=a':=by first|(simp only[Act.put,gJ];rfl)|rfl):dP P md ops Q S L (fuel+1) listed a w:=uF hi hs hf hr hl hQ (Or.inr ⟨hw,rfl⟩) (by rw[ht,ha];exact h)
theorem aW (i:Nat) {oi:Oper} {v:Value} {fuel:Nat} {listed t:Array Bool} {a a':Act} {w:World}
 (h:dP P md ops Q S L fuel t a' w) (hi:ops[i]? =some oi:=by rfl) (hS:S w:=by assumption)
 (hs:Region.noSelect ops=true:=by kernel_rfl) (hf:Region.free md ops listed i=true:=by kernel_rfl) (hr:(Region.ready md ops listed).contains i=true:=by kernel_rfl) (hl:(!L.contains i)=true:=by kernel_rfl)
 (hw:Region.wanted oi (yielded ops a.tmps)=true:=by rfl)
 (hy:∀w,True->(execOp a.eval oi).run P w= .ok (.value v) w:=by
  intro w' hSw;go_simp
  try with_reducible rfl) (hQ:∀c a w,Q (.panic c) (a.put oi.dst v) w->Q (.panic c) a w:=by exact fun _ _ _ h=>h)
 (ht:listed.setIfInBounds i true=t:=by first|(simp only[gJ];rfl)|rfl) (ha:a.put oi.dst v=a':=by first|(simp only[Act.put,gJ];rfl)|rfl):dP P md ops Q S L (fuel+1) listed a w:=uE hi hs hf hr hl hQ (Or.inl ⟨hw,hy⟩) hS (by rw[ht,ha];exact h)
theorem xL (i:Nat) {oi:Oper} {v:Value} {fuel:Nat} {listed t:Array Bool} {a a':Act} {w:World}
 (h:dP P md ops Q S L fuel t a' w) (hi:ops[i]? =some oi:=by rfl)
 (hs:Region.noSelect ops=true:=by kernel_rfl) (hf:Region.free md ops listed i=true:=by kernel_rfl) (hr:(Region.ready md ops listed).contains i=true:=by kernel_rfl) (hl:(!L.contains i&& !lC L listed)=true:=by kernel_rfl)
 (hw:Region.wanted oi (yielded ops a.tmps)=true:=by rfl)
 (hy:∀w,True->(execOp a.eval oi).run P w= .ok (.value v) w:=by
  intro w' hSw;go_simp
  try with_reducible rfl) (hQ:∀c a w,Q (.panic c) (a.put oi.dst v) w->Q (.panic c) a w:=by exact fun _ _ _ h=>h)
 (ht:listed.setIfInBounds i true=t:=by first|(simp only[gJ];rfl)|rfl) (ha:a.put oi.dst v=a':=by first|(simp only[Act.put,gJ];rfl)|rfl):dP P md ops Q S L (fuel+1) listed a w:=uF hi hs hf hr hl hQ (Or.inl ⟨hw,hy⟩) (by rw[ht,ha];exact h)
theorem jq (W:List Nat) (i:Nat) {oi:Oper} {v:Value} {fuel:Nat} {listed t:Array Bool} {a a':Act} {w:World}
 (h:dP P md ops Q S L fuel t a' w) (hi:ops[i]? =some oi:=by rfl) (hS:S w:=by assumption)
 (hs:Region.noSelect ops=true:=by kernel_rfl) (hf:Region.free md ops listed i=true:=by kernel_rfl) (hr:(Region.ready md ops listed).contains i=true:=by kernel_rfl) (hl:(!L.contains i&&(AU md ops W listed i&&L.all fun d=>W.contains d))=true:=by kernel_rfl)
 (hw:Region.wanted oi (yielded ops a.tmps)=true:=by rfl)
 (hy:∀w,S w->(execOp a.eval oi).run P w= .ok (.value v) w:=by
  intro w' hSw
  repeat (have:=hSw.1;replace hSw:=hSw.2)
  go_simp
  try with_reducible rfl) (hQ:∀c a w,Q (.panic c) (a.put oi.dst v) w->Q (.panic c) a w:=by exact fun _ _ _ h=>h)
 (ht:listed.setIfInBounds i true=t:=by first|(simp only[gJ];rfl)|rfl) (ha:a.put oi.dst v=a':=by first|(simp only[Act.put,gJ];rfl)|rfl):dP P md ops Q S L (fuel+1) listed a w:=C9 W hi hs hf hr hl hQ (Or.inl ⟨hw,hy⟩) hS (by rw[ht,ha];exact h)
theorem dB {i:Nat} {oi:Oper} {fuel:Nat} {listed:Array Bool} {a:Act} {w:World} (hi:ops[i]? =some oi) (hr:Region.ready md ops listed= [i]) (hl:lC L (listed.setIfInBounds i true)=false) (hw:Region.wanted oi (yielded ops a.tmps)=true)
 (h:∀K:Act->World->Prop,(∀a' w',dP P md ops Q S L fuel (listed.setIfInBounds i true) a' w'->K a' w')->oi.wp P a w K Q):dP P md ops Q S L (fuel+1) listed a w:=by
 refine ⟨fun h0=>(by rw[hr] at h0;cases h0),fun j hj=> ?_⟩;rw[hr] at hj;have hji:j=i:=by simpa using hj
 subst hji;unfold wpOp;simp only[hi,hw,kE];exact .inl (h _ fun a' w' h'=>⟨fun hc=>(by rw[hl] at hc;cases hc),h'⟩)
theorem aU {i:Nat} {oi:Oper} {fuel:Nat} {listed:Array Bool} {a:Act} {w:World} (hi:ops[i]? =some oi) (hr:Region.ready md ops listed= [i]) (hw:Region.wanted oi (yielded ops a.tmps)=true)
 (h:∀K:Act->World->Prop,(∀a' w',S w'->dP P md ops Q S L fuel (listed.setIfInBounds i true) a' w'->K a' w')->oi.wp P a w K Q):dP P md ops Q S L (fuel+1) listed a w:=by
 refine ⟨fun h0=>(by rw[hr] at h0;cases h0),fun j hj=> ?_⟩;rw[hr] at hj;have hji:j=i:=by simpa using hj
 subst hji;unfold wpOp;simp only[hi,hw,kE];exact .inl (h _ fun a' w' hs h'=>⟨fun _=>hs,h'⟩)
theorem bW {listed:Array Bool} {a:Act} {w:World} (hr:Region.ready md ops listed= []) (h:Q .normal a w):∀fuel,dP P md ops Q S L fuel listed a w
 |0=>⟨hr,h⟩
 |_+1=>⟨fun _=>h,by rw[hr];simp⟩
theorem bX {id:Nat} {a:Act} {w:World} (S:World->Prop) (L:List Nat) (hm:P.follows .mixedOrders=true)
 (h:dP P .any ops Q S L ops.size (Array.replicate ops.size false) a w.drew):(Code.region id ops true).wp P Q a w:=
 wp_region_any hm (yR _ _ _ _ h)
end
end Go.Proofs.YtbhiklnljiehiaaGreat
