/- law38: steps as values; few; SameList. -/
import Derived.Test.YtbhiklnljiehiaaGreatM2bu
namespace Go.Proofs.YtbhiklnljiehiaaGreat.Tm
open Go.RowKit
attribute [local go_sem] Oper.semAt_some
structure kI where
 kd:Int
 now:Int
 k:Int
 A:Option Addr
 b:List UInt8
 c:Nat
structure Nq (w:World) (B:Nat) (A:Option Addr) (n c:Nat) (l:List kI):Prop where
 len:l.length=n
 cap:n≤c
 mx:c≤9223372036854775807
 at_:0<n→∃ad,A=some ad∧ad.block<B∧∀j x,l[j]? =some x→w.cell? (ad.add (j*4))=some (.int .i64 x.kd)∧w.cell? (ad.add (j*4+1))=some (.int .i64 x.now)∧w.cell? (ad.add (j*4+2))=some (.int .i64 x.k)∧w.cell? (ad.add (j*4+3))=some (.slice x.A x.b.length x.c)∧Sl w B x.A x.b.length x.c (bO x.b)
theorem Nq.keep {w w':World} {B n c:Nat} {A:Option Addr} {l:List kI} (h:Nq w B A n c l) (hk:∀p:Addr,p.block<B→w'.cell? p=w.cell? p):Nq w' B A n c l:=
 ⟨h.len,h.cap,h.mx,fun hn=>by
  obtain ⟨ad,e,hb,hc⟩:=h.at_ hn;refine ⟨ad,e,hb,fun j x hj=> ?_⟩;obtain ⟨h1,h2,h3,h4,h5⟩:=hc j x hj;exact ⟨(hk _ (by rw[block_add];exact hb)).trans h1,(hk _ (by rw[block_add];exact hb)).trans h2,(hk _ (by rw[block_add];exact hb)).trans h3,(hk _ (by rw[block_add];exact hb)).trans h4,h5.keep hk⟩⟩
theorem Nq.below {w w':World} {B n c:Nat} {A:Option Addr} {l:List kI} (h:Nq w B A n c l) (hb:Below B w w'):Nq w' B A n c l:=h.keep fun _ hp=>hb.cell hp
theorem Nq.get {w:World} {B n c:Nat} {A:Option Addr} {l:List kI} (h:Nq w B A n c l) {j:Nat} (hj:j<n):∃ad x,A=some ad∧ad.block<B∧l[j]? =some x∧w.cell? (ad.add (j*4))=some (.int .i64 x.kd)∧w.cell? (ad.add (j*4+1))=some (.int .i64 x.now)∧w.cell? (ad.add (j*4+2))=some (.int .i64 x.k)∧w.cell? (ad.add (j*4+3))=some (.slice x.A x.b.length x.c)∧Sl w B x.A x.b.length x.c (bO x.b):=by
 obtain ⟨ad,e,hb,hc⟩:=h.at_ (by omega);have hl:j<l.length:=by have:=h.len;omega
 exact ⟨ad,l[j],e,hb,List.getElem?_eq_getElem hl,hc j _ (List.getElem?_eq_getElem hl)⟩
theorem sW (a:Addr) (m i:Nat) (hi:0<i):(⟨(a.add m).block,(a.add m).off+i,none⟩:Addr)=a.add (m+i):=by
 have hi0:¬i=0:=by omega
 by_cases hm:m=0
 ·subst hm;simp[Addr.add,hi0]
 ·have hmi:¬m+i=0:=by omega
  simp[Addr.add,hm,hi0,Nat.add_assoc]
def qG (l:List kI):Nat:=(l.map fun x=>x.b.length).sum
theorem Km (l:List kI) (x:kI):qG (l++ [x])=qG l+x.b.length:=by simp[qG]
theorem Nr {l:List kI} {x:kI} (h:x∈l):x.b.length≤qG l:=by
 induction l with
 |nil=>cases h
 |cons y r ih=>
  simp only[qG,List.map_cons,List.sum_cons];rcases List.mem_cons.1 h with rfl|h
  ·omega
  ·have:=ih h;unfold qG at this;omega
theorem QK {l:List kI} {m:Nat} (h:∀x∈l,x.b.length≤m):qG l≤m*l.length:=by
 induction l with
 |nil=>simp[qG]
 |cons x r ih=>
  have h1:=h x (by simp);have h2:=ih fun s hs=>h s (by simp[hs])
  simp only[qG,List.map_cons,List.sum_cons,List.length_cons] at h2 ⊢;rw[Nat.mul_add];omega
def acJ (n:Nat) (l:List kI) (w:World) (e:Ending) (w':World):Prop:=∃b:Bool,e= .returned (.bool b)∧(b=true→n≤40∧∀x∈l,x.b.length≤9500)∧w=w'
set_option maxRecDepth 10000 in
set_option maxHeartbeats 1000000 in
theorem Up (A:Option Addr) (n c:Nat) (l:List kI) (w:World) (h:Nq w w.heap.size A n c l) (hR:∀x∈l,x.b.length≤140737488351232):
 Calls Tryz.prog 37 #[.slice A n c] w (acJ n l w):=by
 have hn63:n≤9223372036854775807:=by have:=h.cap;have:=h.mx;omega
 have hlen:=h.len;have HR:=ah hR;have jw:=ah hlen;clear hR hlen;go_enter Tryz.func37,Tryz.ntmps37;go_wp2
 go_loop [3,4] (fun s i=>∃(k x:Nat),k≤n∧k≤41∧i= .int .i64 k∧s= .int .i64 x∧x=qG (l.take k)) (fun _ i=>n-(intOf i).toNat)
 case atStart=>exact ⟨0,0,Nat.zero_le _,by omega,rfl,rfl,rfl⟩
 case round=>
  obtain ⟨k,x,hk,anG,rfl,rfl,hx⟩:=hrel;have hxb:x≤5770237022568448512:=by
   have h1:=QK (l:=l.take k) fun y hy=>HR.out y (List.mem_of_mem_take hy)
   have h2:(l.take k).length≤41:=by rw[List.length_take];omega
   have h3:=Nat.mul_le_mul_left 140737488351232 h2;omega
  have HX:=ah hx;clear hx;by_cases hlt:k<n
  ·by_cases h40:k≤40
   ·obtain ⟨ad,y,rfl,hb,hy,h1,h2,h3,h4,h5⟩:=h.get hlt;have hcap:=h5.cap;have hmx:=h5.mx;have hyb:=HR.out y (List.mem_of_getElem? hy);have hx2:x+y.b.length=qG (l.take (k+1)):=by rw[HX.out,List.take_add_one,hy];exact (Km _ _).symm
    have PX:=ah hx2;have hd2:=h3;have hd3:=h4;rw[←sW ad (k*4) 2 (by omega)] at hd2;rw[←sW ad (k*4) 3 (by omega)] at hd3;clear hy h5 hx2;go_wp2
    all_goals first
     |(go_ret;exact ⟨false,rfl,by simp,rfl⟩)
     |(
      go_round
      case rel=>exact ⟨k+1,x+y.b.length,by omega,by omega,by go_num,by go_num,PX.out⟩
      case measure=>simp[intOf];omega)
   ·have ag1:¬(n:Int)≤40:=by omega
    go_wp2;go_ret;exact ⟨false,rfl,by simp,rfl⟩
  ·have hkn:k=n:=by omega
   by_cases h40:(n:Int)≤40
   ·have hall:x≤9500→∀y∈l,y.b.length≤9500:=fun Xl y hy=>by
     have e:l.take k=l:=List.take_of_length_le (by rw[jw.out];omega);have:=Nr hy;have:=HX.out;rw[e] at this;omega
    have mZ:=ah hall;clear hall;by_cases Xl:x≤9500
    ·go_wp2;go_ret;exact ⟨true,by simp;omega,fun _=>⟨by omega,mZ.out Xl⟩,rfl⟩
    ·go_wp2;go_ret;exact ⟨false,by simp;omega,by simp,rfl⟩
   ·go_wp2;go_ret;exact ⟨false,rfl,by simp,rfl⟩
def acK (w:World) (e:Ending) (w':World):Prop:=e= .returned (.bool true)∧pY w w'
set_option maxHeartbeats 1000000 in
theorem xg (A A':Option Addr) (n c c':Nat) (vs vs':List Value) (ps:List (List UInt8)) (w:World) (h:iO w w.heap.size A n c vs ps) (h':iO w w.heap.size A' n c' vs' ps):
 Calls Tryz.prog 36 #[.slice A n c,.slice A' n c'] w (acK w):=by
 have hcap:=h.sl.cap;have hmx:=h.sl.mx;have ajL:=h'.sl.cap;have anI:=h'.sl.mx;have d0:((n:Int) !=(n:Int))=false:=by simp
 go_enter Tryz.func36,Tryz.ntmps36;go_wp2
 go_loopw [5] (fun i wr=>∃k:Nat,k≤n∧i= .int .i64 k∧pY w wr) (fun i _=>n-(intOf i).toNat)
 case atStart=>exact ⟨0,Nat.zero_le _,rfl,pY.refl _⟩
 case round=>
  obtain ⟨k,hk,rfl,hdr⟩:=hrel;by_cases hlt:k<n
  ·obtain ⟨ad,Ai,ci,rfl,hb,hc,hsl⟩:=(h.Uw hdr).get hlt;obtain ⟨yu,Ai',O1,rfl,hb',hc',acL⟩:=(h'.Uw hdr).get hlt;generalize ps[k]?.getD []=p at*;have kc:=fun q=>tT (hsl.drewN q)
   have kc':=fun q=>tT (acL.drewN q)
   have hk0:(0:Int)≤(k:Int):=by omega
   have hk1:(k:Int)<(n:Int):=by omega
   have HDR:=ah hdr;clear hsl acL hdr;go_wp2_with fail
   go_quiet (fail)
   go_wp2_with fail
   go_roundw
   case rel=>exact ⟨k+1,by omega,by go_num,HDR.out.more _⟩
   case measure=>simp[intOf];omega
  ·go_wp2;go_ret;exact ⟨rfl,hdr⟩
end Go.Proofs.YtbhiklnljiehiaaGreat.Tm
namespace Go.Proofs.YtbhiklnljiehiaaGreat
section
open Go.RowKit Go.Shelf
attribute [local go_sem] Oper.semAt_some
def QG (k:Int) (Q:World→Prop) (e:Ending) (w':World):Prop:=e= .returned (.tuple #[.slice none 0 0,.int .i64 k])∧Q w'
theorem QH {w:World} {g u a:Nat} (h:qF w g u a) (now k:Int) (Q:World→Prop)
 (hc:Calls Tryz.prog 22 #[.pointer (some ⟨a,0,none⟩),.int .i64 now] w fun e w'=>e= .returned (.int .i64 k)∧Q w'):
 Calls Tryz.prog 39 #[.pointer (some ⟨g,0,none⟩),.int .i64 now] w (QG k Q):=by
 have hin:Calls Tryz.prog 245 #[.pointer (some ⟨u,0,none⟩),.int .i64 now] w (QG k Q):=by
  have y0:=h.un.cell 0;simp at y0;have HC:=ah hc;clear hc h;go_enter Tryz.func245,Tryz.ntmps245;go_wp2_with (go_at_call 22;refine HC.out.mono ?_;rintro e1 w1 ⟨rfl,hq⟩)
  go_ret2
  exact ⟨rfl,hq⟩
 have hno:=Tm.jD g 3 _ _ w h.ent;have x1:=h.ent.cell 1;simp at x1;have HN:=ah hno;have HC:=ah hin;have hme:=Kb ⟨u,0,none⟩;clear hno hc hin h;go_enter Tryz.func39,Tryz.ntmps39;go_wp2_with (first|(go_at_call 66;refine HN.out.mono ?_;rintro e1 w1 ⟨rfl,rfl⟩)|(go_at_call 245;refine HC.out.mono ?_;rintro e1 w1 ⟨rfl,hq⟩))
 first|exact ⟨rfl,hq⟩|(go_ret2;exact ⟨rfl,hq⟩)
end
section
open Go.RowKit Go.Shelf
structure IdA where
 g:Nat
 u:Nat
 a:Nat
 b:Nat
structure LA (w0:World) (E:Nat→Prop) (X:IdA) (c:Cf) (s1:Sd) (r1:Rc) (n1:Nat) (s2:Sd) (r2:Rc) (n2:Nat) (Fa Fb:Fp) (W:World):Prop where
 two:Two w0 X.a X.b c s1 r1 n1 s2 r2 n2 Fa Fb W
 ent:qF W X.g X.u X.a
 eg:E X.g
 eu:E X.u
 ex:∀k,E k→k<W.heap.size∧¬Fa k∧¬Fb k
section
variable {w0 W W':World} {E:Nat→Prop} {X:IdA} {c:Cf} {s1 s2 s:Sd} {r1 r2 r:Rc} {n1 n2 n K:Nat} {Fa Fb Fc:Fp}
theorem LA.below (h:LA w0 E X c s1 r1 n1 s2 r2 n2 Fa Fb W) (hb:Below W.heap.size W W'):LA w0 E X c s1 r1 n1 s2 r2 n2 Fa Fb W':=
 ⟨h.two.below hb,h.ent.below hb,h.eg,h.eu,fun k hk=>⟨Nat.lt_of_lt_of_le (h.ex k hk).1 hb.size,(h.ex k hk).2⟩⟩
theorem LA.qH (h:LA w0 E X c s1 r1 n1 s2 r2 n2 Fa Fb W) (hR:BQ W Fa Fc X.a c s r n W') {j:Nat} (hj:E j):W'.heap[j]? =W.heap[j]? :=
 iN hR.kp (h.ex j hj).1 fun _ e=>(h.ex j hj).2.1 e.1
theorem LA.xh (h:LA w0 E X c s1 r1 n1 s2 r2 n2 Fa Fb W) (hR:BQ W Fb Fc X.b c s r n W') {j:Nat} (hj:E j):W'.heap[j]? =W.heap[j]? :=
 iN hR.kp (h.ex j hj).1 fun _ e=>(h.ex j hj).2.2 e.1
theorem LA.Ll (h:LA w0 E X c s1 r1 n1 s2 r2 n2 Fa Fb W) (hR:BQ W Fa Fc X.a c s r n W'):LA w0 E X c s r n s2 r2 n2 Fc Fb W':=by
 refine ⟨h.two.call hR,h.ent.stay (h.qH hR h.eg) (h.qH hR h.eu),h.eg,h.eu,fun k hk=> ?_⟩;obtain ⟨h1,h2,h3⟩:=h.ex k hk;have e:=h.qH hR hk;rw[Array.getElem?_eq_getElem h1] at e;refine ⟨lt_of_heap e,fun e=> ?_,h3⟩;rcases hR.gr k e with e|e
 ·exact h2 e
 ·omega
theorem LA.Lm (h:LA w0 E X c s1 r1 n1 s2 r2 n2 Fa Fb W) (hR:BQ W Fb Fc X.b c s r n W'):LA w0 E X c s1 r1 n1 s r n Fa Fc W':=by
 refine ⟨(h.two.swap.call hR).swap,h.ent.stay (h.xh hR h.eg) (h.xh hR h.eu),h.eg,h.eu,fun k hk=> ?_⟩;obtain ⟨h1,h2,h3⟩:=h.ex k hk;have e:=h.xh hR hk;rw[Array.getElem?_eq_getElem h1] at e;refine ⟨lt_of_heap e,h2,fun e=> ?_⟩;rcases hR.gr k e with e|e
 ·exact h3 e
 ·omega
theorem LA.ag2 (h:LA w0 E X c s1 r1 n1 s2 r2 n2 Fa Fb W) (hb:Below W.heap.size W W') {j:Nat} (h1:W.heap.size≤j) (h2:j<W'.heap.size):LA w0 (fun k=>E k∨k=j) X c s1 r1 n1 s2 r2 n2 Fa Fb W':=by
 have h':=h.below hb;refine ⟨h'.two,h'.ent,.inl h.eg,.inl h.eu,fun k hk=>hk.elim (h'.ex k) ?_⟩;rintro rfl;exact ⟨h2,fun e=>by have:=h.two.ea.lt k e;omega,fun e=>by have:=h.two.eb.lt k e;omega⟩
theorem LA.acM {E':Nat→Prop} (h:LA w0 E X c s1 r1 n1 s2 r2 n2 Fa Fb W) (hE:∀k,E' k→E k) (hg:E' X.g) (hu:E' X.u):LA w0 E' X c s1 r1 n1 s2 r2 n2 Fa Fb W:=
 ⟨h.two,h.ent,hg,hu,fun k hk=>h.ex k (hE k hk)⟩
theorem QE.EX {v:Value} {vs:List Value} {l:List (List UInt8)} (h:QE W w0 Fa Fb v vs l):∃A cc,v= .slice A l.length cc∧iO W W.heap.size A l.length cc vs l:=by
 obtain ⟨A,cc,rfl,hs,_⟩:=bq h.1;refine ⟨A,cc,rfl,hs,rfl,fun i p hi=> ?_⟩;obtain ⟨vi,e,hq⟩:=h.2.2 i p hi;obtain ⟨Ai,ci,rfl,O3⟩:=hq.sl;exact ⟨Ai,ci,e,O3⟩
theorem Dq.EX {v:Value} {vs:List Value} {l:List (List UInt8)} {b:Nat} {B:Nat→Prop} (h:Dq W b B v l vs):∃A cc,v= .slice A l.length cc∧iO W W.heap.size A l.length cc vs l:=by
 obtain ⟨A,cc,rfl,hs,_⟩:=bq h.1;refine ⟨A,cc,rfl,hs,rfl,fun i p hi=> ?_⟩;obtain ⟨vi,e,hq,_⟩:=h.2 i p hi;obtain ⟨Ai,ci,rfl,O3,_⟩:=bq hq;exact ⟨Ai,ci,e,O3⟩
theorem Kn (h:LA w0 E X c s1 r1 n1 s2 r2 n2 Fa Fb W) (ho:dZ c s1 K) {A:Option Addr} {m cc:Nat} {x:List UInt8} (hx:Sl W W.heap.size A m cc (bO x)):
 Calls Tryz.prog 32 #[.pointer (some ⟨X.g,0,none⟩),.slice A m cc] W fun e W'=>e= .returned (.int .i64 (dw c s1 x).2)∧∃Fc,BQ W Fa Fc X.a c (dw c s1 x).1 r1 n1 W':=
 Kc h.ent A m cc _ (fun _ _ hh=>⟨_,hh.1⟩) ((Az h.two ho hx).mono fun _ _ ⟨Fc,e,hR⟩=>⟨e,Fc,hR⟩)
theorem Ko (h:LA w0 E X c s1 r1 n1 s2 r2 n2 Fa Fb W) (ho:dZ c s2 K) {A:Option Addr} {m cc:Nat} {x:List UInt8} (hx:Sl W W.heap.size A m cc (bO x)):
 Calls Tryz.prog 21 #[.pointer (some ⟨X.b,0,none⟩),.slice A m cc] W fun e W'=>e= .returned (.int .i64 (dw c s2 x).2)∧∃Fc,BQ W Fb Fc X.b c (dw c s2 x).1 r2 n2 W':=
 (Az h.two.swap ho hx).mono fun _ _ ⟨Fc,e,hR⟩=>⟨e,Fc,hR⟩
theorem Ns (h:LA w0 E X c s1 r1 n1 s2 r2 n2 Fa Fb W) (ho:dZ c s1 K) (hK:K≤80000) (hr:uU c r1) (now N:Int) (eP:now≤9223372036854775807) (hN:N≤9223372036854775807):
 Calls Tryz.prog 33 #[.pointer (some ⟨X.g,0,none⟩),.int .i64 now,.int .i64 N] W fun e W'=>∃v Fc,e= .returned (.tuple #[v,.int .i64 (dK c s1 r1 now N).2.2.2])∧BQ W Fa Fc X.a c (dK c s1 r1 now N).1 (dK c s1 r1 now N).2.1 n1 W'∧NP W' w0 Fc Fb v (dK c s1 r1 now N).2.2.1:=
 Nj h.ent now N _ (fun _ _ ⟨_,_,e,_⟩=>⟨_,_,e⟩) (Dp h.two ho hK hr now N eP hN)
theorem Nt (h:LA w0 E X c s1 r1 n1 s2 r2 n2 Fa Fb W) (ho:dZ c s2 K) (hK:K≤80000) (hr:uU c r2) (now N:Int) (eP:now≤9223372036854775807) (hN:N≤9223372036854775807):
 Calls Tryz.prog 18 #[.pointer (some ⟨X.b,0,none⟩),.int .i64 now,.int .i64 N] W fun e W'=>∃v Fc,e= .returned (.tuple #[v,.int .i64 (dK c s2 r2 now N).2.2.2])∧BQ W Fb Fc X.b c (dK c s2 r2 now N).1 (dK c s2 r2 now N).2.1 n2 W'∧NP W' w0 Fc Fa v (dK c s2 r2 now N).2.2.1:=
 Dp h.two.swap ho hK hr now N eP hN
theorem LA.ag3 (h:LA w0 E X c s1 r1 n1 s2 r2 n2 Fa Fb W) {A:Option Addr} {m cc:Nat} {bs:List UInt8} (hs:∀W2,Below w0.heap.size w0 W2→Sl W2 W2.heap.size A m cc (bO bs)):
 ∀W2,Kept (fun k o=>Fa k∧(U8 o→Fa.b k)) W W2→Sl W2 W2.heap.size A m cc (bO bs):=fun _ hk=>hs _ (h.two.xO.trans (hk.below (fun k _ e=>(h.two.fa k e.1).1) h.two.xO.size))
theorem LA.ag4 (h:LA w0 E X c s1 r1 n1 s2 r2 n2 Fa Fb W) {A:Option Addr} {m cc:Nat} {bs:List UInt8} (hs:∀W2,Below w0.heap.size w0 W2→Sl W2 W2.heap.size A m cc (bO bs)):
 ∀W2,Kept (fun k o=>Fb k∧(U8 o→Fb.b k)) W W2→Sl W2 W2.heap.size A m cc (bO bs):=fun _ hk=>hs _ (h.two.xO.trans (hk.below (fun k _ e=>h.two.fb k e.1) h.two.xO.size))
theorem Io (h:LA w0 E X c s1 r1 n1 s2 r2 n2 Fa Fb W) (ho:dZ c s1 K) (hK:K≤90000) (hr:uU c r1) (hn:n1<maxLen) (now:Int) (eP:now≤9223372036854775807) (A:Option Addr) (m cc:Nat) (bs:List UInt8)
 (hs:∀W2,Below w0.heap.size w0 W2→Sl W2 W2.heap.size A m cc (bO bs)) (hsm:m≤1000000):
 Calls Tryz.prog 35 #[.pointer (some ⟨X.g,0,none⟩),.int .i64 now,.slice A m cc] W fun e W'=>∃v vs n' Fc,e= .returned (.tuple #[v,.int .i64 (dX c s1 r1 now bs).2.2.2])∧n'≤n1+1∧BQ W Fa Fc X.a c (dX c s1 r1 now bs).1 (dX c s1 r1 now bs).2.1 n' W'∧QE W' w0 Fc Fb v vs (dX c s1 r1 now bs).2.2.1:=
 Ig h.ent now A m cc _ (fun _ _ ⟨_,_,_,_,e,_⟩=>⟨_,_,e⟩) (wX h.two ho hK hr hn now eP A m cc bs (h.ag3 hs) hsm)
theorem Ip (h:LA w0 E X c s1 r1 n1 s2 r2 n2 Fa Fb W) (ho:dZ c s2 K) (hK:K≤90000) (hr:uU c r2) (hn:n2<maxLen) (now:Int) (eP:now≤9223372036854775807) (A:Option Addr) (m cc:Nat) (bs:List UInt8)
 (hs:∀W2,Below w0.heap.size w0 W2→Sl W2 W2.heap.size A m cc (bO bs)) (hsm:m≤1000000):
 Calls Tryz.prog 19 #[.pointer (some ⟨X.b,0,none⟩),.int .i64 now,.slice A m cc] W fun e W'=>∃v vs n' Fc,e= .returned (.tuple #[v,.int .i64 (dX c s2 r2 now bs).2.2.2])∧n'≤n2+1∧BQ W Fb Fc X.b c (dX c s2 r2 now bs).1 (dX c s2 r2 now bs).2.1 n' W'∧QE W' w0 Fc Fa v vs (dX c s2 r2 now bs).2.2.1:=
 wX h.two.swap ho hK hr hn now eP A m cc bs (h.ag4 hs) hsm
theorem QL (h:LA w0 E X c s1 r1 n1 s2 r2 n2 Fa Fb W) (ho:dZ c s1 K) (hK:K≤90000) (hr:uU c r1) (now:Int) (eP:now≤9223372036854775807):
 Calls Tryz.prog 39 #[.pointer (some ⟨X.g,0,none⟩),.int .i64 now] W (QG (fF c s1 now).2 fun W'=>∃Fc,BQ W Fa Fc X.a c (fF c s1 now).1 (dI c r1 now) n1 W'):=
 QH h.ent now _ _ ((Dn h.two.ea ho hK hr now eP).mono fun _ _ ⟨e,hG⟩=>⟨e,let ⟨Fc,hR,_⟩:=hG.toR;⟨Fc,hR⟩⟩)
theorem QM (h:LA w0 E X c s1 r1 n1 s2 r2 n2 Fa Fb W) (ho:dZ c s2 K) (hK:K≤90000) (hr:uU c r2) (now:Int) (eP:now≤9223372036854775807):
 Calls Tryz.prog 22 #[.pointer (some ⟨X.b,0,none⟩),.int .i64 now] W fun e W'=>e= .returned (.int .i64 (fF c s2 now).2)∧∃Fc,BQ W Fb Fc X.b c (fF c s2 now).1 (dI c r2 now) n2 W':=
 (Dn h.two.eb ho hK hr now eP).mono fun _ _ ⟨e,hG⟩=>⟨e,let ⟨Fc,hR,_⟩:=hG.toR;⟨Fc,hR⟩⟩
theorem Iq (h:LA w0 E X c s1 r1 n1 s2 r2 n2 Fa Fb W) (now:Int):Calls Tryz.prog 40 #[.pointer (some ⟨X.g,0,none⟩),.int .i64 now] W fun e W'=>e= .returned (.bool (rG r1 now))∧Below W.heap.size W W':=
 Ih h.ent now _ (fun _ _ hh=>⟨_,hh.1⟩) (uW h.two.ea now)
theorem EU (h:LA w0 E X c s1 r1 n1 s2 r2 n2 Fa Fb W) (ho:dZ c s1 K):Calls Tryz.prog 41 #[.pointer (some ⟨X.g,0,none⟩)] W fun e W'=>e= .returned (.int .i64 (IW s1))∧Below W.heap.size W W':=
 ER h.ent _ (fun _ _ hh=>⟨_,hh.1⟩) (rP h.two.ea ho)
theorem Cb (h:LA w0 E X c s1 r1 n1 s2 r2 n2 Fa Fb W) (ho:dZ c s1 K):Calls Tryz.prog 42 #[.pointer (some ⟨X.g,0,none⟩)] W fun e W'=>e= .returned (.int .i64 (s1.done:Nat))∧Below W.heap.size W W':=
 BS h.ent _ (fun _ _ hh=>⟨_,hh.1⟩) (qE h.two.ea ho)
theorem Kq (h:LA w0 E X c s1 r1 n1 s2 r2 n2 Fa Fb W) (ho:dZ c s1 K):Calls Tryz.prog 34 #[.pointer (some ⟨X.g,0,none⟩)] W fun e W'=>e= .returned (.bool s1.failed)∧Below W.heap.size W W':=
 Kg h.ent _ (fun _ _ hh=>⟨_,hh.1⟩) (qD h.two.ea ho)
def Nu (w:World) (q:List (List UInt8)) (e:Ending) (w':World):Prop:=(∃A cc vs,e= .returned (.slice A q.length cc)∧Dq w' w.heap.size (fun _=>False) (.slice A q.length cc) q vs)∧Below w.heap.size w w'
theorem Kr (h:LA w0 E X c s1 r1 n1 s2 r2 n2 Fa Fb W) (ho:dZ c s1 K):Calls Tryz.prog 43 #[.pointer (some ⟨X.g,0,none⟩)] W (Nu W s1.queue):=
 Ke h.ent _ (fun _ _ ⟨⟨A,cc,_,e,_⟩,_⟩=>⟨A,_,cc,e⟩) (uY h.two.ea ho)
theorem Ks (h:LA w0 E X c s1 r1 n1 s2 r2 n2 Fa Fb W) (ho:dZ c s2 K):Calls Tryz.prog 26 #[.pointer (some ⟨X.b,0,none⟩)] W (Nu W s2.queue):=uY h.two.eb ho
def LAE (w0:World) (E:Nat→Prop) (X:IdA) (c:Cf) (k:Nat) (W:World):Prop:=∃s r n1 n2 Fa Fb,LA w0 E X c s r n1 s r n2 Fa Fb W∧dZ c s (6*k)∧uU c r∧n1≤k∧n2≤k
end
end
section
open Go.RowKit Go.Shelf
attribute [local go_sem] Oper.semAt_some
theorem Uq {w wr W:World} {A:Option Addr} {n c:Nat} {xs:List Value} (h:Sl wr w.heap.size A n c xs) (hb:Below w.heap.size w wr) (hb':Below w.heap.size w W):Sl W W.heap.size A n c xs:=
 (h.keep fun _ hp=>(hb'.cell hp).trans (hb.cell hp).symm).more hb'.size
theorem Yq {w w1 w2:World} {a0 a1 a2 a3 a4 a5 a6:Int} {g u a b:Nat} {F Fb:Fp} (hw1:Below w.heap.size w w1) (hN:Kh w (nL a0 a1 a2 a3 a4 a5 a6) 3 g u a F w1) (hr:dF a0 a1 a2 a3 a4 a5 a6=true)
 (hb2:Below w1.heap.size w1 w2) (hE:kY w2 Fb b (nL a0 a1 a2 a3 a4 a5 a6) dY lM 0) (hF:∀k,Fb k→w1.heap.size≤k):
 LAE w (fun k=>k=g∨k=u) ⟨g,u,a,b⟩ (nL a0 a1 a2 a3 a4 a5 a6) 0 w2:=by
 have hz:=hw1.size;refine ⟨dY,lM,0,0,F,Fb,⟨⟨hw1.trans (hb2.mono hz),hN.en.below hb2,hE,fun k hk=>⟨(hN.ge k hk).1,fun e=> ?_⟩,fun k hk=> ?_⟩,⟨hN.ent.below hb2 hN.ent.lt,hN.un.below hb2 hN.un.lt⟩,.inl rfl,.inr rfl,fun k hk=> ?_⟩,QI hr,Uo hr,aN,aN⟩
 ·have:=hN.en.lt k hk;have:=hF k e;omega
 ·have:=hF k hk;omega
 ·have l1:=hN.ent.lt;have l2:=hN.un.lt;have z2:=hb2.size;rcases hk with rfl|rfl
  ·exact ⟨by omega,fun e=>(hN.ge _ e).2.1 rfl,fun e=>by have:=hF _ e;omega⟩
  ·exact ⟨by omega,fun e=>(hN.ge _ e).2.2 rfl,fun e=>by have:=hF _ e;omega⟩
def VA (w5:World) (v:Value) (e:Ending) (W':World):Prop:=e= .returned v∧Below w5.heap.size w5 W'
def ag6 (w5 W:World) (q:List (List UInt8)) (e:Ending) (W':World):Prop:=∃A cc vs,e= .returned (.slice A q.length cc)∧Dq W' w5.heap.size (fun _=>False) (.slice A q.length cc) q vs∧Below w5.heap.size w5 W'∧Below W.heap.size W W'
theorem Nu.ans {w5 W W':World} {q:List (List UInt8)} {e:Ending} (hb:Below w5.heap.size w5 W) (h:Nu W q e W'):ag6 w5 W q e W':=by
 obtain ⟨⟨A,cc,vs,rfl,hg⟩,hb2⟩:=h;exact ⟨A,cc,vs,rfl,⟨aU hg.1 hb.size,fun i p hi=>let ⟨vi,e1,e2,e3⟩:=hg.2 i p hi;⟨vi,e1,aU e2 hb.size,e3⟩⟩,hb.trans (hb2.mono hb.size),hb2⟩
set_option maxRecDepth 100000 in
set_option maxHeartbeats 8000000 in
theorem qY (a0 a1 a2 a3 a4 a5 a6:Int) (A:Option Addr) (n c:Nat) (l:List Tm.kI) (w:World) (h:Tm.Nq w w.heap.size A n c l) (hR:∀x∈l,x.b.length≤140737488351232) (hI:∀x∈l,x.now≤9223372036854775807∧x.k≤9223372036854775807):
 Calls Tryz.prog 7 #[.agg #[.int .i64 a0,.int .i64 a1,.int .i64 a2,.int .i64 a3,.int .i64 a4,.int .i64 a5,.int .i64 a6],.slice A n c] w (Og w):=by
 obtain ⟨w0,hw0⟩:∃w0,w.alloc (.cells #[.int .i64 a0,.int .i64 a1,.int .i64 a2,.int .i64 a3,.int .i64 a4,.int .i64 a5,.int .i64 a6] 23)=w0:=⟨_,rfl⟩
 have b0:au w0 w.heap.size 23 #[.int .i64 a0,.int .i64 a1,.int .i64 a2,.int .i64 a3,.int .i64 a4,.int .i64 a5,.int .i64 a6]:=by rw[←hw0];exact au.new w 23 #[.int .i64 a0,.int .i64 a1,.int .i64 a2,.int .i64 a3,.int .i64 a4,.int .i64 a5,.int .i64 a6]
 have hB0:Below w.heap.size w w0:=by rw[←hw0];exact (Below.refl w.heap.size w).alloc (aN) _
 have hsl0:Tm.Nq w0 w0.heap.size A n c l:=by
  have h1:=h.below hB0;have hz:=hB0.size;refine ⟨h1.len,h1.cap,h1.mx,fun hn=> ?_⟩;obtain ⟨ad,e,hb,hc⟩:=h1.at_ hn;exact ⟨ad,e,Nat.lt_of_lt_of_le hb hz,fun j x hj=>let ⟨q1,q2,q3,q4,q5⟩:=hc j x hj;⟨q1,q2,q3,q4,q5.more hz⟩⟩
 have hl0:w.heap.size<w0.heap.size:=b0.lt;have hfe:=Tm.Up A n c l w0 hsl0 hR;have hne:=acF 0 0 a0 a1 a2 a3 a4 a5 a6 w0;have hae:=Dm a0 a1 a2 a3 a4 a5 a6;unfold Tm.cfg at hne;unfold vZ at hae;have hcap:=h.cap;have hmx:=h.mx;have hlen:=h.len;have x0:w0.cell? ⟨w.heap.size,0,none⟩=some (.int .i64 a0):=b0.cell 0;have x1:w0.cell? ⟨w.heap.size,1,none⟩=some (.int .i64 a1):=b0.cell 1;have x2:w0.cell? ⟨w.heap.size,2,none⟩=some (.int .i64 a2):=b0.cell 2;have x3:w0.cell? ⟨w.heap.size,3,none⟩=some (.int .i64 a3):=b0.cell 3;have x4:w0.cell? ⟨w.heap.size,4,none⟩=some (.int .i64 a4):=b0.cell 4;have x5:w0.cell? ⟨w.heap.size,5,none⟩=some (.int .i64 a5):=b0.cell 5;have x6:w0.cell? ⟨w.heap.size,6,none⟩=some (.int .i64 a6):=b0.cell 6;have HFE:=ah hfe;have HNE:=ah hne;have HAE:=ah hae;have HSL:=ah h;have jw:=ah hlen;have HI:=ah hI;have HB0:=ah hB0;clear h hfe hne hlen hR hI hae hB0 hsl0 b0;go_enter Tryz.func7,Tryz.ntmps7;go_wp2_with fail;refine HFE.out.mono ?_;rintro e1 w0' ⟨b,rfl,hok,rfl⟩;clear HFE;cases b with
 |false=>
  clear hok;go_wp2_with fail;refine (Tm.wC _).mono ?_;rintro e1 w3 ⟨rfl,hb3⟩;go_wp2;go_ret;exact ⟨rfl,HB0.out.trans (hb3.mono HB0.out.size)⟩
 |true=>
  have ag1:n≤40:=(hok rfl).1;have HXB:=ah (hok rfl).2;clear hok;go_wp2_with fail;refine HNE.out.mono ?_;rintro e1 w1 ⟨hb1,⟨g,u,a,F,rfl,hrt,hN⟩|⟨rfl,hrt⟩⟩;rotate_left
  ·have HRT:=ah hrt;have y0:=(hb1.cell (p:=⟨w.heap.size,0,none⟩) hl0).trans x0;have y1:=(hb1.cell (p:=⟨w.heap.size,1,none⟩) hl0).trans x1;have y2:=(hb1.cell (p:=⟨w.heap.size,2,none⟩) hl0).trans x2;have y3:=(hb1.cell (p:=⟨w.heap.size,3,none⟩) hl0).trans x3;have y4:=(hb1.cell (p:=⟨w.heap.size,4,none⟩) hl0).trans x4;have y5:=(hb1.cell (p:=⟨w.heap.size,5,none⟩) hl0).trans x5;have y6:=(hb1.cell (p:=⟨w.heap.size,6,none⟩) hl0).trans x6;have HB1:=ah (HB0.out.trans (hb1.mono HB0.out.size));clear HNE hb1 hrt x0 x1 x2 x3 x4 x5 x6 hw0;go_wp2_with fail;refine (HAE.out _).mono ?_;rintro e2 w2 ⟨hb2,⟨Kt,_⟩|⟨Kt,rfl⟩⟩
   ·exact absurd (HRT.out.symm.trans Kt) (by decide)
   have HB2:=ah (HB1.out.trans (hb2.mono HB1.out.size));clear hb2 Kt y0 y1 y2 y3 y4 y5 y6;go_wp2_with fail;refine (Tm.wC _).mono ?_;rintro e1 w4 ⟨rfl,hb4⟩;go_wp2;go_ret;exact ⟨rfl,HB2.out.trans (hb4.mono HB2.out.size)⟩
  have y0:=(hb1.cell (p:=⟨w.heap.size,0,none⟩) hl0).trans x0;have y1:=(hb1.cell (p:=⟨w.heap.size,1,none⟩) hl0).trans x1;have y2:=(hb1.cell (p:=⟨w.heap.size,2,none⟩) hl0).trans x2;have y3:=(hb1.cell (p:=⟨w.heap.size,3,none⟩) hl0).trans x3;have y4:=(hb1.cell (p:=⟨w.heap.size,4,none⟩) hl0).trans x4;have y5:=(hb1.cell (p:=⟨w.heap.size,5,none⟩) hl0).trans x5;have y6:=(hb1.cell (p:=⟨w.heap.size,6,none⟩) hl0).trans x6;have HB1:=ah hb1;have HN:=ah hN;have HRT:=ah hrt;clear HNE hN hb1 hrt x0 x1 x2 x3 x4 x5 x6 hw0;go_wp2_with fail;refine (HAE.out _).mono ?_;rintro e2 w2 ⟨hb2,⟨Kt,b,Fb,rfl,hE,hF⟩|⟨Kt,rfl⟩⟩;rotate_left
  ·exact absurd (HRT.out.symm.trans Kt) (by decide)
  have hN':Kh w (nL a0 a1 a2 a3 a4 a5 a6) 3 g u a F w1:=⟨HN.out.ent,HN.out.un,HN.out.en,fun k hk=>⟨Nat.le_trans HB0.out.size (HN.out.ge k hk).1,(HN.out.ge k hk).2⟩,Nat.le_trans HB0.out.size HN.out.gg,Nat.le_trans HB0.out.size HN.out.gu⟩;have hL0:=Yq (HB0.out.trans (HB1.out.mono HB0.out.size)) hN' HRT.out hb2 hE hF;obtain ⟨X,hX⟩:∃X:IdA,X=⟨g,u,a,b⟩:=⟨_,rfl⟩
  rw[←hX] at hL0;have e1:g=X.g:=by rw[hX]
  have e2:u=X.u:=by rw[hX]
  have e4:b=X.b:=by rw[hX]
  rw[e1,e2] at hL0;have U0:=ah hL0;rw[e1,e4];generalize nL a0 a1 a2 a3 a4 a5 a6=cf at*;clear hL0 hX e1 e2 e4 hb2 hE hF HN hN' HB1 Kt HRT HAE y0 y1 y2 y3 y4 y5 y6;go_wp2_with fail
  go_loopw [9] (fun i wr=>∃k:Nat,k≤n∧i= .int .i64 k∧LAE w (fun k=>k=X.g∨k=X.u) X cf k wr) (fun i _=>n-(intOf i).toNat)
  case atStart=>exact ⟨0,Nat.zero_le _,rfl,U0.out⟩
  case round=>
   obtain ⟨k,hk,rfl,s,r,m1,m2,Fa,Fb,hL,ho,hr,hm1,hm2⟩:=hrel;have HL:=ah hL;have HO:=ah ho;have HR:=ah hr;clear hL ho hr U0;by_cases hlt:k<n
   ·obtain ⟨ad,x,rfl,afw,hx,h0,h1,h2,h3,h5⟩:=(HSL.out.below HL.out.two.xO).get hlt;have hxb:=HXB.out x (List.mem_of_getElem? hx);obtain ⟨hxn,hxk⟩:=HI.out x (List.mem_of_getElem? hx);have e1:=h1;have e2:=h2;have e3:=h3;rw[←Tm.sW _ _ _ (by decide)] at e1 e2 e3;have HSW:=ah h5;clear h5 hx;go_upto_region 13 with (fail)
    have bx:=au.new wr 86 #[.int .i64 x.kd,.int .i64 x.now,.int .i64 x.k,.slice x.A x.b.length x.c];have hbx:=(Below.refl wr.heap.size wr).alloc (aN) (.cells #[.int .i64 x.kd,.int .i64 x.now,.int .i64 x.k,.slice x.A x.b.length x.c] 86);have hL5:=HL.out.ag2 hbx (j:=wr.heap.size) (aN) (by simp);have HSA:=ah (fun (W:World) (hW:Below w.heap.size w W)=>Uq HSW.out HL.out.two.xO hW);have c0:=bx.cell 0;have c1:=bx.cell 1;have c2:=bx.cell 2;have c3:=bx.cell 3;simp only[List.getElem?_toArray,List.getElem?_cons_zero,List.getElem?_cons_succ] at c0 c1 c2 c3;generalize wr.alloc (.cells #[.int .i64 x.kd,.int .i64 x.now,.int .i64 x.k,.slice x.A x.b.length x.c] 86)=w5 at*;generalize wr.heap.size=xb at*;have IC:=ah hL5;clear bx hbx h0 h1 h2 h3 e1 e2 e3 HSW HL hL5
    go_upto_block 2 with (fail)
    go_cut [11] from 57 to 199 (fun sv wx=>sv= .bool true∧wx.cell? ⟨xb,1,none⟩=some (.int .i64 x.now)∧LAE w (fun j=>(j=X.g∨j=X.u)∨j=xb) X cf (k+1) wx)
    case first=>
     by_cases k1:x.kd=1
     ·have q1:(x.kd==1)=true:=by simpa using k1
      clear k1;have Zb:=ah (IC.out.below (W':=w5.drew) ((Below.refl _ _).drew));have rU:=ah (Kn Zb.out HO.out (HSA.out _ Zb.out.two.xO));have hcd:w5.drew.cell? ⟨xb,3,none⟩=some (.slice x.A x.b.length x.c):=c3;have hcn:w5.drew.cell? ⟨xb,1,none⟩=some (.int .i64 x.now):=c1;have HCD:=ah hcd;have HCN:=ah hcn;clear hcd hcn;go_wp2_with fail
      go_region_held3 (fun w'=>w'.cell? ⟨xb,3,none⟩=some (.slice x.A x.b.length x.c))
       (first
        |exact (World.cell?_of_block (hL6.xh uQ (.inr rfl))).trans ((World.cell?_of_block (Zb.out.qH pJ (.inr rfl))).trans HCD.out)
        |exact (World.cell?_of_block (Zb.out.qH pJ (.inr rfl))).trans HCD.out
        |exact HCD.out
        |go_keep)
       (first
        |(go_at_call 32;refine rU.out.mono ?_;rintro e1 w6 ⟨rfl,F6,pJ⟩;have hL6:=Zb.out.Ll pJ)
        |(go_at_call 21;refine (Ko hL6 HO.out (HSA.out _ hL6.two.xO)).mono ?_;rintro e2 w7 ⟨rfl,F7,uQ⟩;have hL7:=hL6.Lm uQ)
        |fail)
      go_wp2_with fail;go_meet;exact ⟨by simp,(World.cell?_of_block (hL6.xh uQ (.inr rfl))).trans ((World.cell?_of_block (Zb.out.qH pJ (.inr rfl))).trans HCN.out),_,r,m1,m2,_,_,hL7,(HO.out.nZ x.b).mono (by omega),HR.out,by omega,by omega⟩
     by_cases k2:x.kd=2
     ·have q1:(x.kd==1)=false:=by simpa using k1
      have q2:(x.kd==2)=true:=by simpa using k2
      clear k1 k2;have rU:=ah (Ns IC.out HO.out (by omega) HR.out x.now x.k hxn hxk);go_wp2_with fail;refine rU.out.mono ?_;rintro e1 w6 ⟨v6,F6,rfl,pJ,hv6⟩;have hL6:=IC.out.Ll pJ;have c1':=(World.cell?_of_block (IC.out.qH pJ (.inr rfl))).trans c1;have c2':=(World.cell?_of_block (IC.out.qH pJ (.inr rfl))).trans c2;have HS2:=ah (Nt hL6 HO.out (by omega) HR.out x.now x.k hxn hxk);obtain ⟨A1,n1,rfl,-⟩:=hv6.sl;have HVB:=ah hv6;have AF:=ah hL6;clear hL6 pJ hv6 rU;go_wp2_with fail;refine HS2.out.mono ?_;rintro e2 w7 ⟨v7,F7,rfl,uQ,hv7⟩;have hv1:=HVB.out.swap.call uQ;obtain ⟨A2,n2,rfl,-⟩:=hv7.sl;have kc1:=tT (dH hv1.1);have kc2:=tT (dH hv7.1);have xA:=(World.cell?_of_block (AF.out.xh uQ (.inr rfl))).trans c1';have HU:=ah (Ki HO.out HR.out hxn x.k);have Yr:=ah (AF.out.Lm uQ);clear hv1 hv7 HVB uQ HS2;generalize dK cf s r x.now x.k=R at*;go_wp2_with fail;go_meet;exact ⟨by simp,xA,_,_,m1,m2,_,_,Yr.out,HU.out.1.mono (by omega),HU.out.2,by omega,by omega⟩
     by_cases k3:x.kd=3
     ·have q1:(x.kd==1)=false:=by simpa using k1
      have q2:(x.kd==2)=false:=by simpa using k2
      have q3:(x.kd==3)=true:=by simpa using k3
      clear k1 k2 k3;have hmm:∀m:Nat,m≤k→m<maxLen:=fun m hm=>by unfold maxLen;omega
      have rU:=ah (Io IC.out HO.out (by omega) HR.out (hmm m1 hm1) x.now hxn x.A x.b.length x.c x.b (fun W hW=>HSA.out W hW) (by omega));go_wp2_with fail;refine rU.out.mono ?_;rintro e1 w6 ⟨v6,vs6,m6,F6,rfl,hm6,pJ,hv6⟩;have hL6:=IC.out.Ll pJ;have c1':=(World.cell?_of_block (IC.out.qH pJ (.inr rfl))).trans c1;have c3':=(World.cell?_of_block (IC.out.qH pJ (.inr rfl))).trans c3;have HS2:=ah (Ip hL6 HO.out (by omega) HR.out (hmm m2 hm2) x.now hxn x.A x.b.length x.c x.b (fun W hW=>HSA.out W hW) (by omega));have OE:=ah hv6;have AF:=ah hL6;clear hL6 pJ hv6 rU;go_wp2_with fail;refine HS2.out.mono ?_;rintro e2 w7 ⟨v7,vs7,m7,F7,rfl,hm7,uQ,hv7⟩;have hv1:=OE.out.swap.call uQ;obtain ⟨A1,n1,rfl,hsl1⟩:=hv1.EX;obtain ⟨A2,n2,rfl,hsl2⟩:=hv7.EX;have pG:=ah (Tm.xg _ _ _ _ _ _ _ _ _ hsl1 hsl2);have HU:=ah (Nl HO.out HR.out hxn x.b);have JH:=ah ((World.cell?_of_block (AF.out.xh uQ (.inr rfl))).trans c1');have Yr:=ah (AF.out.Lm uQ);clear hv1 hv7 OE hsl1 hsl2 uQ HS2 AF c1' c3' hmm;generalize dX cf s r x.now x.b=R at*;go_wp2_with fail;refine pG.out.mono ?_;rintro e3 w8 ⟨rfl,hd8⟩;have HL8:=ah (Yr.out.below (hd8.below _));have HC8:=ah (((hd8.below _).cell (p:=⟨xb,1,none⟩) (Yr.out.ex xb (.inr rfl)).1).trans JH.out);clear hd8 pG Yr;go_wp2_with fail;go_meet;exact ⟨rfl,HC8.out,_,_,m6,m7,_,_,HL8.out,HU.out.1.mono (by omega),HU.out.2,by omega,by omega⟩
     by_cases k4:x.kd=4
     ·have q1:(x.kd==1)=false:=by simpa using k1
      have q2:(x.kd==2)=false:=by simpa using k2
      have q3:(x.kd==3)=false:=by simpa using k3
      have q4:(x.kd==4)=true:=by simpa using k4
      clear k1 k2 k3 k4;have rU:=ah (QL IC.out HO.out (by omega) HR.out x.now hxn);go_wp2_with fail;refine rU.out.mono ?_;rintro e1 w6 ⟨rfl,F6,pJ⟩;have hL6:=IC.out.Ll pJ;have c1':=(World.cell?_of_block (IC.out.qH pJ (.inr rfl))).trans c1;have HS2:=ah (QM hL6 HO.out (by omega) HR.out x.now hxn);have AF:=ah hL6;clear hL6 pJ rU;go_wp2_with fail;refine HS2.out.mono ?_;rintro e2 w7 ⟨rfl,F7,uQ⟩;have JH:=ah ((World.cell?_of_block (AF.out.xh uQ (.inr rfl))).trans c1');have Yr:=ah (AF.out.Lm uQ);have HT:=ah (HO.out.tick x.now hxn);have HQ:=ah (HR.out.goes hxn);clear uQ HS2 AF c1';generalize fF cf s x.now=R at*;go_wp2_with fail;go_meet;exact ⟨by simp,JH.out,_,_,m1,m2,_,_,Yr.out,HT.out.mono (by omega),HQ.out,by omega,by omega⟩
     have q1:(x.kd==1)=false:=by simpa using k1
     have q2:(x.kd==2)=false:=by simpa using k2
     have q3:(x.kd==3)=false:=by simpa using k3
     have q4:(x.kd==4)=false:=by simpa using k4
     clear k1 k2 k3 k4;have JH:=ah c1;go_wp2_with fail;go_meet;exact ⟨rfl,JH.out,s,r,m1,m2,Fa,Fb,IC.out,HO.out.mono (by omega),HR.out,by omega,by omega⟩
    case rest=>
    obtain ⟨rfl,hcx,s2,r2,n1,n2,Fa2,Fb2,hL6,ho2,hr2,hn1,hn2⟩:=hcut;have AF:=ah (hL6.below ((Below.refl _ _).drew));have HXC:=ah (show wc.drew.cell? ⟨xb,1,none⟩=some (.int .i64 x.now) from hcx);have HLT:=ah (show xb<wc.drew.heap.size from (AF.out.ex xb (.inr rfl)).1);have C8:=ah ho2;have HR2:=ah hr2;obtain ⟨B1,hB1⟩:∃B1,rG r2 x.now=B1:=⟨_,rfl⟩
    obtain ⟨B2,hB2⟩:∃B2,IW s2=B2:=⟨_,rfl⟩
    obtain ⟨B3,hB3⟩:∃B3:Int,((s2.done:Nat):Int)=B3:=⟨_,rfl⟩
    obtain ⟨B4,hB4⟩:∃B4,s2.failed=B4:=⟨_,rfl⟩
    have P1:=ah (fun (W:World) (hW:Below wc.drew.heap.size wc.drew W)=>((Iq (AF.out.below hW) x.now).mono fun e W' hh=>(⟨by rw[←hB1];exact hh.1,hW.trans (hh.2.mono hW.size)⟩:VA wc.drew (.bool B1) e W')));have Q1:=ah (fun (W:World) (hW:Below wc.drew.heap.size wc.drew W)=>((uW (AF.out.below hW).two.eb x.now).mono fun e W' hh=>(⟨by rw[←hB1];exact hh.1,hW.trans (hh.2.mono hW.size)⟩:VA wc.drew (.bool B1) e W')));have P2:=ah (fun (W:World) (hW:Below wc.drew.heap.size wc.drew W)=>((EU (AF.out.below hW) C8.out).mono fun e W' hh=>(⟨by rw[←hB2];exact hh.1,hW.trans (hh.2.mono hW.size)⟩:VA wc.drew (.int .i64 B2) e W')));have Q2:=ah (fun (W:World) (hW:Below wc.drew.heap.size wc.drew W)=>((rP (AF.out.below hW).two.eb C8.out).mono fun e W' hh=>(⟨by rw[←hB2];exact hh.1,hW.trans (hh.2.mono hW.size)⟩:VA wc.drew (.int .i64 B2) e W')));have P3:=ah (fun (W:World) (hW:Below wc.drew.heap.size wc.drew W)=>((Cb (AF.out.below hW) C8.out).mono fun e W' hh=>(⟨by rw[←hB3];exact hh.1,hW.trans (hh.2.mono hW.size)⟩:VA wc.drew (.int .i64 B3) e W')));have Q3:=ah (fun (W:World) (hW:Below wc.drew.heap.size wc.drew W)=>((qE (AF.out.below hW).two.eb C8.out).mono fun e W' hh=>(⟨by rw[←hB3];exact hh.1,hW.trans (hh.2.mono hW.size)⟩:VA wc.drew (.int .i64 B3) e W')))
    have P4:=ah (fun (W:World) (hW:Below wc.drew.heap.size wc.drew W)=>((Kq (AF.out.below hW) C8.out).mono fun e W' hh=>(⟨by rw[←hB4];exact hh.1,hW.trans (hh.2.mono hW.size)⟩:VA wc.drew (.bool B4) e W')));have Q4:=ah (fun (W:World) (hW:Below wc.drew.heap.size wc.drew W)=>((qD (AF.out.below hW).two.eb C8.out).mono fun e W' hh=>(⟨by rw[←hB4];exact hh.1,hW.trans (hh.2.mono hW.size)⟩:VA wc.drew (.bool B4) e W')));have P5:=ah (fun (W:World) (hW:Below wc.drew.heap.size wc.drew W)=>((Kr (AF.out.below hW) C8.out).mono fun e W' hh=>Nu.ans hW hh));have Q5:=ah (fun (W:World) (hW:Below wc.drew.heap.size wc.drew W)=>((Ks (AF.out.below hW) C8.out).mono fun e W' hh=>Nu.ans hW hh));obtain ⟨SQ,hSQ⟩:∃SQ,s2.queue=SQ:=⟨_,rfl⟩
    rw[hSQ] at P5 Q5;have oq:=Below.refl wc.drew.heap.size wc.drew;clear hcx ho2 hr2 hB1 hB2 hB3 hB4 hSQ c0 c1 c2 c3 IC HO HR HSA;go_wp2_with fail
    go_region_held3 (fun w'=>w'.cell? ⟨xb,1,none⟩=some (.int .i64 x.now))
     (first
      |exact (oq.cell (p:=⟨xb,1,none⟩) HLT.out).trans HXC.out
      |go_keep)
     (first
      |(go_at_call 40;refine (P1.out _ oq).mono ?_;rintro e1 w9 ⟨rfl,oq⟩)
      |(go_at_call 24;refine (Q1.out _ oq).mono ?_;rintro e1 w9 ⟨rfl,oq⟩)
      |(go_at_call 41;refine (P2.out _ oq).mono ?_;rintro e1 w9 ⟨rfl,oq⟩)
      |(go_at_call 23;refine (Q2.out _ oq).mono ?_;rintro e1 w9 ⟨rfl,oq⟩)
      |(go_at_call 42;refine (P3.out _ oq).mono ?_;rintro e1 w9 ⟨rfl,oq⟩)
      |(go_at_call 25;refine (Q3.out _ oq).mono ?_;rintro e1 w9 ⟨rfl,oq⟩)
      |(go_at_call 34;refine (P4.out _ oq).mono ?_;rintro e1 w9 ⟨rfl,oq⟩)
      |(go_at_call 16;refine (Q4.out _ oq).mono ?_;rintro e1 w9 ⟨rfl,oq⟩)
      |(go_at_call 43;refine (P5.out _ oq).mono ?_;rintro e1 w9 ⟨Au,cu,vu,rfl,hgu,oq,-⟩)
      |(go_at_call 26;refine (Q5.out _ oq).mono ?_;rintro e1 w9 ⟨Av,cv,vv,rfl,hgv,oq,hbu⟩;have hgw:=hgu.below hbu;obtain ⟨_,_,e7,hs1⟩:=hgw.EX;cases e7;obtain ⟨_,_,e8,hs2⟩:=hgv.EX;cases e8;have pG:=ah (Tm.xg _ _ _ _ _ _ _ _ _ hs1 hs2);clear hgu hgv hgw hs1 hs2 hbu)
      |(go_at_call 36;refine pG.out.mono ?_;rintro e1 OO ⟨rfl,aha⟩;have oq:=oq.trans ((aha.below _).mono oq.size))
      |fail)
    have HL9:=ah ((AF.out.below oq).acM (E':=fun k=>k=X.g∨k=X.u) (fun j hj=> .inl hj) (.inl rfl) (.inr rfl));clear P1 P2 P3 P4 P5 Q1 Q2 Q3 Q4 Q5;go_wp2_with fail;exact ⟨⟨k+1,by omega,by go_num,s2,r2,n1,n2,Fa2,Fb2,HL9.out,C8.out,HR2.out,hn1,hn2⟩,by simp[intOf];omega⟩
   ·clear HSL;have Xf:=ah HL.out.two.xO;go_wp2_with fail;refine (Tm.wC _).mono ?_;rintro e1 w4 ⟨rfl,hb4⟩;go_wp2;go_ret;exact ⟨rfl,Xf.out.trans (hb4.mono Xf.out.size)⟩
end
end Go.Proofs.YtbhiklnljiehiaaGreat
