/- law36: num, takes, gives. law36: sent walked. law36: sent walked: its loops. law36: receptions and reports of a transmitter's PDUs (plain). law36: a receiver beside what it has returned. law36: works: the examples, computed. amrecv: the methods of no receiver. law36: few, Held and over of no receiver. -/
import Derived.Test.YtiecgfahidpldaaGreatM3ae
import Derived.Test.YtiecgfahidpldaaGreatM3af
import Derived.Test.YtiecgfahidpldaaGreatM3aq
import Derived.Test.YtiecgfahidpldaaGreatM3as
import Derived.Test.YtiecgfahidpldaaGreatM3ay
import Derived.BigQuiet
import Derived.Lib.ConvBytes
import Derived.Deep.RegionHeld3
import Derived.Lib.BytesEntry
import Derived.Sort.CutIn
namespace Go.Proofs.YtiecgfahidpldaaGreat
section
open Go.RowKit Go.Shelf
attribute [local go_sem] Oper.semAt_some
theorem dQ (x:Int) (w:World):Calls Tryz.prog 11 #[.int .i64 x] w fun e w'=>e= .returned (.int .i64 x)∧w=w':=by
 go_enter Tryz.func11,Tryz.ntmps11;go_wp2;go_ret;exact ⟨rfl,rfl⟩
theorem Ez (w:World) (s:ByteArray):Below w.heap.size w (Lib.bytesWorld w 5 s):=
 ⟨rfl,rfl,rfl,by rw[Lib.bytesWorld_size];omega,fun k hk=>Lib.bytesWorld_at_old w _ s k hk⟩
theorem Mi (w:World) (p:List UInt8) (hp:p.length≤1000000):Sl (Lib.bytesWorld w 5 ⟨p.toArray⟩) (Lib.bytesWorld w 5 ⟨p.toArray⟩).heap.size (some ⟨w.heap.size,0,none⟩) p.length (grownCap w p.length 0 5) (cu p):=by
 refine ⟨by simp,grownCap_ge _ _ _ _,Nat.le_trans (grownCap_le_maxLen _ _ _ _ (by unfold maxLen;omega)) (by unfold maxLen;omega),fun _=>⟨_,rfl,lt_of_heap (Lib.bytesWorld_at_new w _ _),fun j u hu=>World.news_of_block (Lib.bytesWorld_at_new w _ _) j u ?_⟩⟩;unfold cu at hu;rw[List.getElem?_map] at hu;unfold Lib.bytesCells;simp only[Array.toList_append,Array.toList_map];rw[List.getElem?_append_left,List.getElem?_map]
 ·exact hu
 ·have:=(List.getElem?_eq_some_iff.1 (Option.map_eq_some_iff.1 hu).choose_spec.1).1;simpa using this
structure GQ (w:World) (base:Nat) (A:Option Addr) (n c:Nat) (ws:List (List UInt8)):Prop where
 len:ws.length=n
 cap:n≤c
 mx:c≤9223372036854775807
 at_:0<n→∃ad,A=some ad∧base≤ad.block∧ad.block<w.heap.size∧∀j q,ws[j]? =some q→w.cell? (ad.add j)=some (.string ⟨q.toArray⟩)
theorem GQ.keep {w w':World} {base:Nat} {A:Option Addr} {n c:Nat} {ws:List (List UInt8)} (h:GQ w base A n c ws) (hz:w.heap.size≤w'.heap.size) (hk:∀b,base≤b→b<w.heap.size→w'.heap[b]? =w.heap[b]?):GQ w' base A n c ws:=
 ⟨h.len,h.cap,h.mx,fun h0=>by
  obtain ⟨ad,e,h1,h2,h3⟩:=h.at_ h0;refine ⟨ad,e,h1,by omega,fun j q hq=> ?_⟩;have hbk:w'.heap[(ad.add j).block]? =w.heap[(ad.add j).block]? :=by rw[block_add];exact hk _ h1 h2
  exact (World.cell?_of_block (a:=ad.add j) hbk).trans (h3 j q hq)⟩
def af4 (w:World) (A:Option Addr) (n c:Nat) (outs:List (List UInt8)):Prop:=
 n≤c∧c≤9223372036854775807∧∀i q,outs[i]? =some q→∃ad A3 c3,A=some ad∧w.cell? (ad.add i)=some (.slice A3 q.length c3)∧Sl w w.heap.size A3 q.length c3 (cu q)
theorem dG.read {w:World} {base:Nat} {T:Nat→Nat} {v:Value} {outs:List (List UInt8)} (h:dG w base T v outs):∃A c,v= .slice A outs.length c∧af4 w A outs.length c outs:=by
 obtain ⟨vs,h1,_,h3⟩:=h;obtain ⟨A,c,rfl,hs,_⟩:=aP h1;refine ⟨A,c,rfl,hs.cap,hs.mx,fun i q hq=> ?_⟩;obtain ⟨vi,hv,ho,_⟩:=h3 i q hq;obtain ⟨A3,c3,rfl,hs3,_⟩:=aP ho;have hi:=(List.getElem?_eq_some_iff.1 hq).1;obtain ⟨ad,e,_,hc⟩:=hs.at_ (by omega);exact ⟨ad,A3,c3,e,hc i _ hv,hs3⟩
def kg (w:World) (base g n:Nat) (c:Cf) (st:Rc) (e:Ending) (w':World):Prop:=e= .returned (.bool true)∧qf w' base g n c st∧Below base w w'
set_option maxRecDepth 100000 in
set_option maxHeartbeats 2000000 in
theorem jv {W0 w:World} {base g n:Nat} {c:Cf} {st:Rc} (h:qf W0 base g n c st) (hB:Below W0.heap.size W0 w) (hcf:L5 c) (hn:n<maxLen) (now:Int) (iR:now≤9223372036854775807) (bs:List UInt8) (hsm:bs.length≤1000000) (hb:base≤W0.heap.size)
 (A:Option Addr) (m cw:Nat) (ws:List (List UInt8)) (hws:GQ w W0.heap.size A m cw ws) (hm:m≤1000000) (hout:(bX c st now bs).2=(ws,0)):
 Calls Tryz.prog 29 #[.pointer (some ⟨g,0,none⟩),.int .i64 now,.string ⟨bs.toArray⟩,.slice A m cw] w (kg w base g (n+1) c (bX c st now bs).1):=by
 have hbb:=Ez w ⟨bs.toArray⟩;have hsl:=Mi w bs hsm;have hzz:=hB.size;have hrc:=JM h (hB.trans (hbb.mono hzz)) hcf hn now iR _ bs.length _ bs hsl (fun ad e=>by cases e;exact hzz) hsm (by have:=hbb.size;omega);have kc:=fun (W:World)=>Lib.run_convert_string_bytes (P:=Tryz.prog) W 9 22 5 ⟨bs.toArray⟩ (u:= .string) (by kernel_rfl) und29 und5
 have hs1:(⟨bs.toArray⟩:ByteArray).size=bs.length:=by simp[ByteArray.size]
 rw[hs1] at kc;rw[hout] at hrc;dsimp only at hrc;have Ij:=Lib.hid hrc;have vC:=Lib.hid hbb;have HW:=Lib.hid hws;have hl:=hws.len;have Cq:=Lib.hid (show base≤w.heap.size by omega);have hcap:=hws.cap;have hmx:=hws.mx;clear hrc hbb hsl hout h hs1 hB hws hzz;subst hl;generalize (bX c st now bs).1=s1 at*;generalize (⟨bs.toArray⟩:ByteArray)=ba at*;go_enter Tryz.func29,Tryz.ntmps29;go_wp2_with fail;refine Ij.out.mono ?_;rintro e1 w1 ⟨v,T',rfl,hO,hE,hb1,hkp⟩;obtain ⟨A2,c2,rfl,hOR⟩:=hO.read;have aba:=(HW.out.keep vC.out.size (fun b _ hb2=>vC.out.block b hb2)).keep (by have:=hb1.size;have:=vC.out.size;have:=Cq.out;omega) (fun b h1 h2=>hkp b h1 h2);have HB1:=Lib.hid ((vC.out.mono Cq.out).trans hb1);have HE:=Lib.hid hE;have HO:=Lib.hid hOR;have HW1:=Lib.hid aba;have ho1:=hOR.1;have ho2:=hOR.2.1;clear Ij vC HW hO hE hb1 hkp hOR aba;go_wp2_with (go_at_call 11;refine (dQ _ _).mono ?_;rintro e1 w2 ⟨rfl,rfl⟩);have hl2:ws.length≤1000000:=hm;obtain ⟨N,hN⟩:∃N,ws.length=N:=⟨_,rfl⟩
 rw[hN] at hl2 ho1 HW1 HO hm hcap ⊢
 go_loopw [11] (fun i wr=>∃k q:Nat,k≤N∧i= .int .i64 k∧wr=w1.drewN q) (fun i _=>N-(intOf i).toNat)
 case atStart=>exact ⟨0,0,Nat.zero_le _,rfl,rfl⟩
 case round=>
  obtain ⟨k,q,hk,rfl,rfl⟩:=hrel;have HE2:=Lib.hid (HE.out.below ((Below.refl _ w1).drewN q));have HB2:=Lib.hid (HB1.out.drewN q);by_cases hlt:k<N
  ·obtain ⟨x,hx⟩:∃x,ws[k]? =some x:=⟨_,List.getElem?_eq_getElem (by omega)⟩
   obtain ⟨ad,A3,c3,rfl,k1,k2⟩:=HO.out.2.2 k x hx;obtain ⟨ad2,rfl,_,_,k3⟩:=HW1.out.at_ (by omega);have k4:=k3 k x hx;have kcv:=fun r=>sZ ((k2.drewN q).drewN r)
   have amD:=fun r=>sZ (k2.drewN r)
   clear k3 k2 hx;generalize (⟨x.toArray⟩:ByteArray)=xa at*;go_wp2_with fail
   go_quiet (fail)
   go_wp2_with fail
   go_roundw
   case rel=>exact ⟨k+1,q+nq,by omega,by go_num,rfl⟩
   case measure=>simp[intOf];omega
  ·go_wp2;go_ret;exact ⟨rfl,HE2.out,HB2.out⟩
set_option maxRecDepth 100000 in
set_option maxHeartbeats 2000000 in
theorem kR {w:World} {base g n:Nat} {c:Cf} {st:Rc} (h:qf w base g n c st) (hcf:L5 c) (now:Int) (iR:now≤9223372036854775807) (hb:base≤w.heap.size) (ws:List UInt8) (hout:(eG c st now 9).2=(ws,0)):
 Calls Tryz.prog 30 #[.pointer (some ⟨g,0,none⟩),.int .i64 now,.string ⟨ws.toArray⟩] w (kg w base g n c (eG c st now 9).1):=by
 have hg:=Sz h hcf now iR 9 (by omega) hb;rw[hout] at hg;dsimp only at hg;have hg2:Calls Tryz.prog 9 #[.pointer (some ⟨g,0,none⟩),.int .i64 now,.int .i64 9] w fun e w'=>∃A2 c2,e= .returned (.tuple #[.slice A2 ws.length c2,.int .i64 0])∧(convert 22 9 (.slice A2 ws.length c2)).run Tryz.prog w'= .ok (.string ⟨ws.toArray⟩) w'∧qf w' base g n c (eG c st now 9).1∧Below base w w':=by
  refine hg.mono ?_;rintro e w' ⟨v,rfl,hv,hE,hB⟩;obtain ⟨A2,c2,rfl,hs,_⟩:=aP hv;exact ⟨A2,c2,rfl,sZ hs,hE,hB⟩
 have HG:=Lib.hid hg2;clear hg hg2 h hout;generalize (eG c st now 9).1=s1 at*;generalize (⟨ws.toArray⟩:ByteArray)=wa at*;go_enter Tryz.func30,Tryz.ntmps30;go_wp2_with (first
  |(go_at_call 9;refine HG.out.mono ?_;rintro e1 w1 ⟨A2,c2,rfl,hcv,hE,hB⟩)
  |(go_at_call 11;refine (dQ _ _).mono ?_;rintro e1 w2 ⟨rfl,rfl⟩))
 go_ret;exact ⟨rfl,hE,hB⟩
end
section
open Go.RowKit Go.Shelf
attribute [local go_sem] Oper.semAt_some
section
variable {w w' W W':World} {N N':Nat→Prop} {g K:Nat} {c:Cf} {st:Sd}
theorem TD.app (h:TD w N c g st K W) {row:Option Nat} (hg:W.grownBy W' row) (hr:∀r,row=some r→N r∧w.heap.size≤r) (hn:∀k,N' k→N k∨(W.heap.size≤k∧k<W'.heap.size)):TD w N' c g st K W':=by
 have hm:=h.grown hg hr;obtain ⟨D,F,vq,vs,vo,os,h1,h2,h3⟩:=h.am;have hF:∀k,F k→W'.heap[k]? =W.heap[k]? :=fun k hk=>hg.block k (h1.lt k hk) (fun e=>h3 k (hr k e.symm).1 hk)
 refine ⟨⟨D,F,vq,vs,vo,os,h1.stay hF,fun k hk=>⟨(h2 k hk).1,fun cs fr hc=> ?_⟩,fun k hk hf=> ?_⟩,hm.ok,hm.eH,fun k hk=> ?_⟩
 ·rw[hF k (h1.sub k hk)] at hc;exact (h2 k hk).2 cs fr hc
 ·rcases hn k hk with e|e
  ·exact h3 k e hf
  ·have:=h1.lt k hf;omega
 ·rcases hn k hk with e|e
  ·exact hm.VX k e
  ·exact e.2
theorem JN {base n:Nat} {v:Value} {xs:List Value} (h:W.ownsRow base 5 1 v n xs) {j:Nat} (hj:v.ownBlock=some j):∃cs fr,W.heap[j]? =some (.cells cs 5 fr):=by
 rcases h.2 with ⟨rfl,_⟩|⟨q,cap,cur,rfl,q1,q2,_⟩
 ·cases hj
 ·have e2:q=j:=by injection hj
  subst e2;exact ⟨_,_,q2⟩
theorem dG.u8 {base:Nat} {v:Value} {outs:List (List UInt8)} (h:dG W base (fun _=>0) v outs) (hv:∀j,v.ownBlock=some j→W'.heap[j]? =W.heap[j]?) (hu:∀(k:Nat) cs fr,W.heap[k]? =some (Obj.cells cs 5 fr)→W'.heap[k]? =W.heap[k]?):dG W' base (fun _=>0) v outs:=by
 obtain ⟨vs,h1,h2,h3⟩:=h;refine ⟨vs,bT h1 hv,h2,fun i q hi=> ?_⟩;obtain ⟨vi,e,ho,ht⟩:=h3 i q hi;exact ⟨vi,e,bT ho (fun j hj=>by obtain ⟨cs,fr,hc⟩:=JN ho hj;exact hu j cs fr hc),ht⟩
theorem dG.abb {base:Nat} {v v':Value} {outs:List (List UInt8)} {vs:List Value} {vi:Value} {q:List UInt8} (h:dG W base (fun _=>0) v outs) (hvs:W.ownsRow base 22 1 v outs.length vs) (hi:W.ownsRow base 5 1 vi q.length (cu q))
 (hown:W'.ownsRow base 22 1 v' (outs.length+1) (vs++ [vi])) (hg:W.grownBy W' v.ownBlock):dG W' base (fun _=>0) v' (outs++ [q]):=by
 obtain ⟨vs2,h1,h2,h3⟩:=h;have hu:∀{b n:Nat} {x:Value} {xs:List Value},W.ownsRow b 5 1 x n xs→W'.ownsRow b 5 1 x n xs:=fun {b n x xs} ho=>bT ho (fun j hj=>hg.block j (ho.lt j hj).2 (fun e=>by
  obtain ⟨cs,fr,hc⟩:=JN ho hj;rcases hvs.2 with ⟨rfl,_⟩|⟨p,cap,cur,rfl,q1,q2,_⟩
  ·cases e
  ·have e2:j=p:=by injection e
   subst e2;rw[hc] at q2;cases q2))
 have evs:vs2=vs:=by
  have l1:=h1.1;have l2:=hvs.1;rcases h1.2 with ⟨rfl,h0⟩|⟨p,cap,cur,rfl,hb,hh,_,_,_,ht⟩
  ·exact (List.eq_nil_of_length_eq_zero (by omega)).trans (List.eq_nil_of_length_eq_zero (by omega)).symm
  ·rcases hvs.2 with ⟨e1,_⟩|⟨p',cap',cur',e1,hb',hh',_,_,_,ht'⟩
   ·cases e1
   ·cases e1;rw[hh] at hh';cases hh';exact ht.symm.trans ht'
 subst evs;refine ⟨vs2++ [vi],by rw[List.length_append];exact hown,fun k hk=>rfl,fun i p hp=> ?_⟩;have hl:vs2.length=outs.length:=by simpa using h1.1
 rcases Nat.lt_or_ge i outs.length with hlt|hge
 ·rw[List.getElem?_append_left hlt] at hp;obtain ⟨x,e,ho,_⟩:=h3 i p hp;exact ⟨x,by rw[List.getElem?_append_left (by omega)];exact e,hu ho,fun k hk=>rfl⟩
 ·rw[List.getElem?_append_right hge] at hp;have hi0:i=outs.length:=by
   have:=(List.getElem?_eq_some_iff.1 hp).1;simp at this;omega
  subst hi0;simp at hp;subst hp;exact ⟨vi,by rw[List.getElem?_append_right (by omega)];simp[hl],hu hi,fun k hk=>rfl⟩
end
def Mj (sizes:List UInt8) (aj:List (List UInt8)) (k:Nat):List (List UInt8):=(List.range k).map (kN sizes aj)
theorem Pp (sizes:List UInt8) (aj:List (List UInt8)) (k:Nat):Mj sizes aj (k+1)=Mj sizes aj k++ [kN sizes aj k]:=by simp[Mj,List.range_succ]
theorem uJ (sizes:List UInt8) (aj:List (List UInt8)) (k:Nat):(Mj sizes aj k).length=k:=by simp[Mj]
def Pq (l:List (List UInt8)):Sd:= {fF with queue:=l}
theorem Uo:∀l:List (List UInt8),(∀s∈l,s.length≤60)→au l≤60*l.length
 | [],_=>by simp[au]
 |x::r,h=>by
  have h1:=h x (by simp);have h2:=Uo r (fun s hs=>h s (by simp[hs]));rw[bW];simp only[List.length_cons];omega
theorem GR {l:List (List UInt8)} {x:List UInt8} (h:∀s∈l,s.length≤60) (hl:l.length≤8) (hx:1≤x.length∧x.length≤60):eB cS (Pq l) x=(Pq (l++ [x]),0):=by
 have hs:=Uo l h;unfold eB;rw[if_neg (by simp[Pq,fF]),if_neg (by omega),if_neg (by show ¬(100000:Int)<(au l:Int)+(x.length:Int);omega)];rfl
section
variable {sizes:List UInt8} {aj:List (List UInt8)} {N:Nat}
theorem GU:∀l:List Nat,(∀x∈l,x=0)→l.sum=0
 | [],_=>rfl
 |x::r,h=>by rw[List.sum_cons,h x (by simp),GU r (fun y hy=>h y (by simp[hy]))]
theorem Ps (hS:gM sizes aj N) {i:Nat} (hi:i≤N):(i<N→0<E9 (kM sizes aj i))∧(i=N→E9 (kM sizes aj i)=0):=by
 have h:=jI hS.hs hS.le hS.ne i hi;have ho:=lH sizes hS.hs i;obtain ⟨⟨d,e1,e2⟩,_⟩:=nQ aj (kM sizes aj i).taken h.le;rw[h.tk] at e1 e2;have e3:au aj=au d+au (bO sizes aj i).1:=by
  conv=>lhs;rw[e1]
  simp[au]
 have hp:pO (kM sizes aj i).out=0:=by
  rw[h.out];unfold pO;refine GU _ fun x hx=> ?_
  obtain ⟨y,hy,rfl⟩:=List.mem_map.1 hx;obtain ⟨j,_,rfl⟩:=List.mem_map.1 hy;rfl
 have hq:aZ (kM sizes aj i)=au aj:=by unfold aZ;rw[h.q]
 unfold E9;rw[hp,hq];refine ⟨fun hlt=> ?_,fun he=> ?_⟩
 ·have hne:=hS.ne i hlt;cases hl:(bO sizes aj i).1 with
  |nil=>exact absurd hl hne
  |cons x r=>
   have:=ho.lt x r hl;rw[hl,bW] at e3;omega
 ·subst he;rw[hS.nil] at e3;have:=ho.z hS.nil;have h0:au ([]:List (List UInt8))=0:=rfl;omega
theorem JO (sizes:List UInt8) (k j:Nat) (x:UInt8) (hj:j=min k (sizes.length-1)) (h:sizes[j]? =some x):dx sizes k=5+x.toNat%60:=by
 unfold dx;have:sizes≠ []:=by rintro rfl;simp at h
 rw[if_neg this,←hj,h];rfl
theorem qO (hS:gM sizes aj N) {i:Nat} (hi:i<N):1≤(kN sizes aj i).length∧(kN sizes aj i).length≤100000:=by
 have h:=(r9 hS.hs hS.le hS.ne i hi).2;have hv:=(kP hS.hs hS.le hS.ne i hi).1;have hva:=(iF _ _ _ _ _).1 hv;have hvp:=(fK (aH sizes aj i).ps).1 hva.vp;have hlen:=qJ i (zx sizes aj i) false false 0 (aH sizes aj i).s (aH sizes aj i).e (aH sizes aj i).ps;have h1:=hvp.hi;have h2:=hvp.sum;rw[h,hlen];unfold aV;simp only[Bool.false_eq_true,if_false];omega
end
end
section
open Go.RowKit Go.Shelf
attribute [local go_sem] Oper.semAt_some
def Pt (w:World) (g:Nat) (aj:List (List UInt8)) (n gk:Nat) (s9:Value) (wr:World):Prop:=
 ∃k:Nat,gk=n-k∧k≤n∧s9= .int .i64 (k:Nat)∧TD w (fun _=>False) cS g (Pq (aj.take k)) 0 wr
def Pv (w:World) (g:Nat) (sizes:List UInt8) (aj:List (List UInt8)) (N gk:Nat) (s10 s11:Value) (wr:World):Prop:=
 ∃(k:Nat) (v:Value),gk=200-k∧k≤N∧s11= .int .i64 (k:Nat)∧v=s10∧TD w (fun j=>v.ownBlock=some j) cS g (kM sizes aj k) (3*k) wr∧dG wr w.heap.size (fun _=>0) v (Mj sizes aj k)
def abd (w:World) (sizes:List UInt8) (aj:List (List UInt8)) (N:Nat) (e:Ending) (w':World):Prop:=
 ∃g v,e= .returned (.tuple #[.pointer (some ⟨g,0,none⟩),v,.bool true])∧TD w (fun _=>False) cS g (kM sizes aj N) (3*N) w'∧dG w' w.heap.size (fun _=>0) v (Mj sizes aj N)
theorem TD.none {w W:World} {N:Nat→Prop} {c:Cf} {g K:Nat} {st:Sd} (h:TD w N c g st K W):TD w (fun _=>False) c g st K W:=
 let ⟨D,F,vq,vs,vo,os,h1,h2,_h3⟩:=h.am
 ⟨⟨D,F,vq,vs,vo,os,h1,h2,fun _k hk=>hk.elim⟩,h.ok,h.eH,fun _k hk=>hk.elim⟩
theorem GV {ps:List (List UInt8)} {k:Nat} (h:k<ps.length):ps.take (k+1)=ps.take k++ [ps[k]?.getD []]:=by
 rw[List.take_add_one,List.getElem?_eq_getElem h];rfl
theorem Pw (W:World) (x:Value) (t:TypeId):Sl (W.alloc (.cells #[x] t)) (W.alloc (.cells #[x] t)).heap.size (some ⟨W.heap.size,0,none⟩) 1 1 [x]:=⟨(ku W x t).len,(ku W x t).cap,(ku W x t).mx,(ku W x t).at_⟩
set_option maxRecDepth 100000 in
set_option maxHeartbeats 4000000 in
theorem zQ (A:Option Addr) (n c:Nat) (vs:List Value) (aj:List (List UInt8)) (B:Option Addr) (m d:Nat) (sizes:List UInt8) (w:World) (N:Nat)
 (h:gD w w.heap.size A n c vs aj) (k:Sl w w.heap.size B m d (cu sizes)) (h8:aj.length≤8) (hS:gM sizes aj N):
 Calls Tryz.prog 18 #[.slice A n c,.slice B m d] w (abd w sizes aj N):=by
 obtain ⟨j0,hj0,hm0,hm1,hm2⟩:=info_parts lD;have hnk:=VZ 3 0 1000 0 0 64 100000 w (by decide);have hcap:=h.sl.cap;have hmx:=h.sl.mx;have V5:=k.cap;have kmx:=k.mx;have hml:sizes.length=m:=by simpa using k.len
 have HL:=Lib.hid h.len;have HH:=Lib.hid h;have HK:=Lib.hid k;have H8:=Lib.hid h8;have HS:=Lib.hid hS;have HML:=Lib.hid hml;have HNK:=Lib.hid hnk;clear h k h8 hS hml hnk;go_enter Tryz.func18,Tryz.ntmps18;go_wp2_with (first|(go_at_call 47;refine HNK.out.mono ?_;rintro e1 w1 ⟨g,rfl,ht1⟩)|(go_at_call 11;refine (dQ _ _).mono ?_;rintro e1 w2 ⟨rfl,rfl⟩));have HT1:=Lib.hid (show TD w (fun _=>False) cS g (Pq (aj.take 0)) 0 w1 from ht1);clear ht1;go_loopg [9] n (fun gk s9 wr=>Pt w g aj n gk s9 wr)
 case atStart=>exact ⟨0,by omega,Nat.zero_le _,rfl,HT1.out⟩
 case round=>
  obtain ⟨k,uQ,hkn,rfl,hT⟩:=hrel;clear HT1;have KA:=Lib.hid uQ;have HT:=Lib.hid hT;clear uQ hT;by_cases hlt:k<n
  ·obtain ⟨ad,Ai,ci,rfl,hba,hc,hsl⟩:=((HH.out.below HT.out.eH).more HT.out.eH.size).get hlt;have hts:=GV (ps:=aj) (k:=k) (by have:=HL.out;omega);have hp:=HS.out.hs (aj[k]?.getD []) (by rw[List.getElem?_eq_getElem (by have:=HL.out;omega)];exact List.getElem_mem _);have htl:(aj.take k).length≤8:=by have:=H8.out;simp;omega
   have hc1:=hsl.cap;have YF:=hsl.mx;have hsu:=LA HT.out hsl;rw[GR (fun s hs=>(HS.out.hs s (List.mem_of_mem_take hs)).2) htl hp,←hts] at hsu;dsimp only at hsu;generalize aj[k]?.getD []=p at*;have MO:=Lib.hid hsu;clear hsl hsu hts htl;go_wp2_with fail;refine MO.out.mono ?_;rintro e3 w3 ⟨rfl,hO⟩;have HT3:=Lib.hid hO.td;clear hO;go_wp2_with (go_at_call 11;refine (dQ _ _).mono ?_;rintro e1 w2 ⟨rfl,rfl⟩)
   go_roundg (n-(k+1))
   case measure=>rw[KA.out];omega
   case rel=>exact ⟨k+1,rfl,by omega,by go_num,HT3.out⟩
  ·have hkn2:k=n:=by omega
   have hT0:TD w (fun j=>(Value.slice none 0 0).ownBlock=some j) cS g (kM sizes aj 0) (3*0) wr:=by
    have hh:=HT.out;rw[List.take_of_length_le (by have:=HL.out;omega)] at hh;exact hh.add (Below.refl _ _) (fun k hk=>by simp[Value.ownBlock] at hk)
   have HT0:=Lib.hid hT0;clear hT0 HT hkn2;obtain ⟨wb,rfl⟩:∃wb:World,wb=wr:=⟨_,rfl⟩
   go_wp2_with fail;go_loopg [10,11] 200 (fun gk s10 s11 wr=>Pv w g sizes aj N gk s10 s11 wr)
   case atStart=>exact ⟨0,_,by omega,Nat.zero_le _,rfl,rfl,HT0.out,dG.nil _ _ _⟩
   case round=>
    obtain ⟨k2,v,Ep,hkN,rfl,rfl,hT2,hO2⟩:=hrel;have hkle:=HS.out.le;have hbf:=Ps HS.out hkN;have WQ:=Lib.hid Ep;have HT2:=Lib.hid hT2;have NK:=Lib.hid hO2;have Px:=Lib.hid (fun W hW=>VY (w:=w) (N:=fun j=>v.ownBlock=some j) (c:=cS) (g:=g) (st:=kM sizes aj k2) (K:=3*k2) (W:=W) hW);clear Ep hT2 hO2 HT0;generalize hT:E9 (kM sizes aj k2)=T at*;by_cases hltk:k2<N
    ·have hpos:=hbf.1 hltk;have hsz:=vK sizes k2;have hgr:=fun W (hW:TD w (fun j=>v.ownBlock=some j) cS g (kM sizes aj k2) (3*k2) W)=>OG hW (by omega) 0 (dx sizes k2) (by omega) (by omega)
     have hsb:=r9 HS.out.hs HS.out.le HS.out.ne k2 hltk;have hel:=qO HS.out hltk;have hes:=Pp sizes aj k2;have hec:=uJ sizes aj k2;rw[hsb.1,show QU (dw cS (kM sizes aj k2) 0 (dx sizes k2)).2.1=kN sizes aj k2 from rfl,show (dw cS (kM sizes aj k2) 0 (dx sizes k2)).1=kM sizes aj (k2+1) from rfl] at hgr;have HGR:=Lib.hid hgr;have HES:=Lib.hid hes;have HEC:=Lib.hid hec;clear hgr hsb hes hec hT hbf;generalize kN sizes aj k2=E at*;go_upto_if 48 with (go_at_call 49;refine (Px.out _ HT2.out).mono ?_;rintro e3 w3 ⟨rfl,hb3⟩)
     have HT3:=Lib.hid (HT2.out.more hb3);have P8:=Lib.hid (NK.out.below hb3);clear hb3 HT2 NK Px;go_cut [12] (fun s12 wx=>s12= .int .i64 (dx sizes k2:Nat)∧wx=w3)
     case first=>
      by_cases hm0:m=0
      ·have hs0:sizes= []:=List.eq_nil_of_length_eq_zero (by rw[HML.out];exact hm0);have hsz0:dx sizes k2=20:=by rw[hs0];rfl
       have Qa:=Lib.hid hsz0;clear hsz0 hs0;subst hm0;go_wp2_with fail;go_meet;exact ⟨by rw[Qa.out];rfl,rfl⟩
      ·have hmp:decide (0<m)=true:=by simp;omega
       obtain ⟨bd,rfl,hbb,hbc⟩:=(HK.out.below HT3.out.eH).at_ (by omega);have hcell:∀j,j<m→w3.cell? (bd.add j)=some (.int .u8 ((sizes[j]?.getD 0).toNat:Nat)):=fun j hj=>hbc j _ (by
        unfold cu;rw[List.getElem?_map,List.getElem?_eq_getElem (by rw[HML.out];exact hj)];rfl)
       have hget:∀j,j<m→j=min k2 (m-1)→dx sizes k2=5+(sizes[j]?.getD 0).toNat%60:=fun j hj e=>JO sizes k2 j _ (by rw[HML.out];exact e) (by rw[List.getElem?_eq_getElem (by rw[HML.out];exact hj)];rfl)
       by_cases hk1:k2≤m-1
       ·have hc:=hcell k2 (by omega);have hs:=hget k2 (by omega) (by omega);have hx:=(sizes[k2]?.getD 0).toNat_lt;generalize (sizes[k2]?.getD 0).toNat=x at*;have Qa:=Lib.hid hs;have hi1:(k2:Int)≤(m:Int)-1:=by omega
        have hbk:(bd.add k2).block<w3.heap.size:=by rw[block_add];exact Nat.lt_of_lt_of_le hbb HT3.out.eH.size
        clear hcell hget hbc hs;go_wp2_with fail;go_meet;exact ⟨by rw[Qa.out];go_num,rfl⟩
       ·have hc:=hcell (m-1) (by omega);have hs:=hget (m-1) (by omega) (by omega);have hx:=(sizes[m-1]?.getD 0).toNat_lt;generalize (sizes[m-1]?.getD 0).toNat=x at*;have Qa:=Lib.hid hs;have hi1:¬(k2:Int)≤(m:Int)-1:=by omega
        have hi2:(0:Int)≤(m:Int)-1:=by omega
        have hbk:(bd.add (m-1)).block<w3.heap.size:=by rw[block_add];exact Nat.lt_of_lt_of_le hbb HT3.out.eH.size
        clear hcell hget hbc hs;go_wp2_with fail;go_meet;exact ⟨by rw[Qa.out];go_num,rfl⟩
     case rest=>
      obtain ⟨rfl,rfl⟩:=hcut;go_wp2_with fail;refine (HGR.out _ HT3.out).mono ?_;rintro e4 w4 ⟨vb,rfl,hvb,hO4⟩;have GM:=Lib.hid hO4.td;have EJ:=Lib.hid (P8.out.u8 (fun j hj=>hO4.ns j hj) hO4.u8);have HVB:=Lib.hid (aW (base':=w.heap.size) hvb HT3.out.eH.size);obtain ⟨Ab,cb,rfl,hsb,_⟩:=aP hvb;have hcb:=hsb.cap;have hmb:=hsb.mx;have amH:((E.length:Int)==0)=false:=by simp;intro e;rw[e] at hel;simp at hel
      obtain ⟨v8,hr8,_,_⟩:=EJ.out;have MP:=Lib.hid hr8;have abf:=HEC.out;rw[abf] at hr8;clear hvb hO4 hsb HT3 P8 HGR;go_wp2_with (first|(go_at_call 11;refine (dQ _ _).mono ?_;rintro e1 w2 ⟨rfl,rfl⟩)|(at_builtin;refine dM _ rfl (.tmp 74) (.tmp 76) 34 rfl w.heap.size 22 j0 (.slice none 0 0) 24 und22 hj0 hm0 hm1 hm2 rfl _ _ v8 rfl (hr8.alloc _) _ _ 1 1 [.slice Ab E.length cb] rfl (Pw w4 _ 22) ?c1 ?c2 ?c3 ?c4 ?_))
      case c1=>simp[Value.oneCell']
      case c2=>unfold maxLen;omega
      case c3=>omega
      case c4=>have:=GM.out.eH.size;simp;omega
      intro abg w5 hown5 bF hb5;have hTa:=GM.out.more ((Below.refl _ w4).alloc (Nat.le_refl _) (.cells #[.slice Ab E.length cb] 22));have yQ:=bF.size;have Aw:TD w (fun j=>abg.ownBlock=some j) cS g (kM sizes aj (k2+1)) (3*k2+3) w5:=by
       refine hTa.app bF (fun r hr=>⟨hr,(hr8.lt r hr).1⟩) (fun k hk=> ?_);rcases hb5 with e|e
       ·exact .inl (by rw[←e];exact hk)
       ·refine .inr ?_;have hl:=(hown5.lt k hk).2;rw[e] at hk;cases hk;exact ⟨by rw[World.size_alloc];exact Nat.le_refl _,hl⟩
      have uf:dG w5 w.heap.size (fun _=>0) abg (Mj sizes aj k2++ [E]):=by
       refine dG.abb (EJ.out.below ((Below.refl _ w4).alloc (Nat.le_refl _) (.cells #[.slice Ab E.length cb] 22))) (MP.out.alloc (.cells #[.slice Ab E.length cb] 22)) (HVB.out.alloc (.cells #[.slice Ab E.length cb] 22)) ?_ bF;rw[abf];exact hown5
      have Ii:=Lib.hid Aw;have Pb:=Lib.hid uf;clear hown5 bF hb5 Aw uf hTa yQ hr8;go_wp2
      go_roundg (200-(k2+1))
      case measure=>rw[WQ.out];omega
      case rel=>exact ⟨k2+1,_,rfl,by omega,by go_num,rfl,Ii.out,by rw[HES.out];exact Pb.out⟩
    ·have abh:k2=N:=by omega
     have hz:=hbf.2 abh;subst abh;rw[hz] at Px;clear hbf hz hT;go_wp2_with (go_at_call 49;first|(refine (Px.out _ HT2.out).mono ?_;rintro e3 w3 ⟨rfl,hb3⟩)|(refine (Px.out _ (HT2.out.more hb3)).mono ?_;rintro e4 w4 ⟨rfl,hb4⟩));refine bodyPost_ret (results_tmp3 rfl _ _ _) rfl ?_;have abj:=hb3.trans (hb4.mono hb3.size);exact ⟨g,v,rfl,(HT2.out.more abj).none,NK.out.below abj⟩
end
section
section
variable {aj:List (List UInt8)} {N:Nat} {pu:Nat→Ou} {left:Nat→List (List UInt8)} {sent:Nat→Nat}
theorem GX (T:wW aj N pu left sent) {st:Rc} (h:uo aj N pu left sent st) (c:Cf) (now:Int) {k:Nat} (hk:k<N) {a:iN} (ha:Piece (pu k) a) {bs:List UInt8} (hd:oZ bs= .inr a):
 uo aj N pu left sent (bX c st now bs).1∧(bX c st now bs).2.2=0∧jN aj left (bX c st now bs).1.next=jN aj left st.next++(bX c st now bs).2.1∧(∀j,Has st j→Has (bX c st now bs).1 j)∧(a.off=0→uk a=true→Has (bX c st now bs).1 k):=by
 obtain ⟨h1,h2,h3⟩:=h.goes T c now;have hr:bX c st now bs=ul c (fQ c st now) a:=by
  unfold bX;rw[hd]
 obtain ⟨g1,g2,⟨g,g3,g4⟩,g5,g6⟩:=uo.J3 T h1 c hk ha;rw[hr];refine ⟨g1,g2,?_,fun j hj=>g5 j ?_,g6⟩
 ·rw[g4,←g3,h2]
 ·unfold Has at hj ⊢;rw[h2,h3];exact hj
theorem uo.WR {st:Rc} (h:uo aj N pu left sent st) {k:Nat} (ha:∀j,j<k→Has st j):k≤st.next:=by
 rcases Nat.lt_or_ge st.next k with hlt|hge
 ·exfalso;rcases ha st.next hlt with e|e
  ·omega
  ·rw[h.nc] at e;cases e
 ·exact hge
theorem GY (T:wW aj N pu left sent) {i:Nat} (hi:i≤N):(jN aj left i).length+(left i).length=aj.length:=by
 have:=T.done hi;have h2:=congrArg List.length this;rw[List.length_append] at h2;omega
theorem Db (T:wW aj N pu left sent):∀{i j:Nat},i≤j→j≤N→(left j).length≤(left i).length
 |i,0,hij,_=>by rw[show i=0 by omega];exact Nat.le_refl _
 |i,j+1,hij,hj=>by
  rcases Nat.lt_or_ge i (j+1) with hlt|hge
  ·have h1:=Db T (i:=i) (j:=j) (by omega) (by omega);obtain ⟨g,hg,_⟩:=T.step j (by omega);have h2:=congrArg List.length hg;rw[List.length_append] at h2;omega
  ·rw[show i=j+1 by omega];exact Nat.le_refl _
end
theorem Dc:∀(l:List (List UInt8)) (f:Nat),(gQ l f).1+(aK l f).1.length=l.length∧(gQ l f).2.2.2=(aK l f).1
 | [],f=>by simp[gQ,aK]
 |x::r,f=>by
  by_cases h:x.length≤f
  ·have ih:=Dc r (f-x.length);rw[gQ,if_pos h,aK,if_pos h];dsimp only;rw[List.length_cons];exact ⟨by omega,ih.2⟩
  ·rw[gQ,if_neg h,aK,if_neg h];simp
theorem zR:∀(l:List Ou),(aS l).1≤l.length∧(aS l).2.1=((l.take (aS l).1).map ay).sum∧(∀(i:Nat) x,i<(aS l).1→l[i]? =some x→x.bS=true)∧((∀x∈l,x.bS=true)→(aS l).1=l.length∧(aS l).2.2= [])
 | []=>by simp[aS]
 |y::r=>by
  obtain ⟨h1,h2,h3,h4⟩:=zR r;by_cases h:y.bS=true
  ·rw[aS,if_pos h];dsimp only;refine ⟨by rw[List.length_cons];omega,?_,fun i x hi hx=> ?_,fun ha=> ?_⟩
   ·rw[List.take_succ_cons,List.map_cons,List.sum_cons,h2];omega
   ·cases i with
    |zero=>simp at hx;rw[←hx];exact h
    |succ i=>exact h3 i x (by omega) (by simpa using hx)
   ·obtain ⟨h5,h6⟩:=h4 fun x hx=>ha x (by simp[hx])
    exact ⟨by rw[List.length_cons,h5],h6⟩
  ·rw[aS,if_neg h];dsimp only;exact ⟨Nat.zero_le _,rfl,fun i x hi=>by omega,fun ha=>absurd (ha y (by simp)) h⟩
section
variable {sizes:List UInt8} {aj:List (List UInt8)} {N:Nat}
theorem zS (hs:∀s∈aj,1≤s.length∧s.length≤60) (hN:N≤166) (hne:∀i,i<N→(bO sizes aj i).1≠ []):∀i,i≤N→(kM sizes aj i).taken=(((List.range i).map (aH sizes aj)).map ay).sum
 |0,_=>rfl
 |i+1,hi=>by
  have ih:=zS hs hN hne i (by omega);have h:=jI hs hN hne i (by omega);have hg:(kM sizes aj (i+1)).taken=(kM sizes aj i).taken+ay (aH sizes aj i):=by
   have hp:fV (kM sizes aj i).out=none:=by
    rw[mO,h.out];intro x hx;obtain ⟨j,_,rfl⟩:=List.mem_map.1 hx;rfl
   have hlen:(kM sizes aj i).out.length=i:=by rw[h.out];simp
   show (dw cS (kM sizes aj i) 0 (dx sizes i)).1.taken=_
   unfold dw;rw[if_neg (by rw[h.fa];simp),if_neg (by omega)];unfold kU;rw[h.tick,if_neg (by rw[h.fa];simp),hp];dsimp only;unfold iQ;rw[if_neg (by omega),h.chunk (by omega),if_neg (pz sizes hs (hne i (by omega)))];dsimp only;exact (E8 cS (dR (kM sizes aj i) (aH sizes aj i)) _).2.1
  rw[hg,ih,List.range_succ,List.map_append,List.map_append,List.sum_append];simp
theorem lu.clock {st:Sd} {i:Nat} (h:lu sizes aj i st):fu st 0=st:=by
 have hn:=h.nw;unfold fu;rw[hn];obtain ⟨⟩:=st;simp only at hn;subst hn;rfl
theorem EA (c:Cf) (mi:Ou→List (Nat × Nat)) (x:Ou):ay (bQ c mi x).1=ay x:=by
 unfold bQ;split
 ·rfl
 ·split
  ·rfl
  ·unfold gY;split<;>rfl
theorem nI (mi:Ou→List (Nat × Nat)) (x:Ou) (ha:x.bS=false) (hp:x.pend= []) (hr:x.dF=0):(bQ cS mi x).2=false∧((bQ cS mi x).1.bS=true↔mi x= []):=by
 unfold bQ;rw[if_neg (by rw[ha];simp)];split
 ·rename_i h;exact ⟨rfl,fun _=>h,fun _=>rfl⟩
 ·rename_i h;unfold gY;rw[if_pos hp];dsimp only;refine ⟨by rw[hr];decide,fun e=> ?_,fun e=>absurd e h⟩;rw[ha] at e;cases e
theorem zT (hs:∀s∈aj,1≤s.length∧s.length≤60) (hN:N≤166) (hne:∀i,i<N→(bO sizes aj i).1≠ []) (he:(bO sizes aj N).1= []) {st:Rc} (hx:uo aj N (aH sizes aj) (fun i=>(bO sizes aj i).1) (fun i=>(bO sizes aj i).2) st)
 {aI:Nat} {dz:List Nk} (hr:CU N (aH sizes aj) st aI dz) (R9:aI≤N):
 bU (aI:Int) dz=true∧(eD cS (kM sizes aj N) 0 (aI:Int) dz).2=0∧(eD cS (kM sizes aj N) 0 (aI:Int) dz).1.done≤(jN aj (fun i=>(bO sizes aj i).1) st.next).length∧
  (dz= []→aI=N→(eD cS (kM sizes aj N) 0 (aI:Int) dz).1.done=aj.length∧(eD cS (kM sizes aj N) 0 (aI:Int) dz).1.queue= []):=by
 have T:=gU hs hN hne;have h:=jI hs hN hne N (Nat.le_refl _);have hv:=OM (aI:=aI) (by omega) hr.len hr.ok hr.pw;have hlen:(kM sizes aj N).out.length=N:=by rw[h.out];simp
 have hpl:ed (kM sizes aj N) (aI:Int)=aI:=by unfold ed;rw[h.f0];omega
 refine ⟨hv,?_⟩;obtain ⟨R,hR⟩:∃R,aX cS (bK dz) aI (kM sizes aj N).out=R:=⟨_,rfl⟩
 have hfr:∀x∈(kM sizes aj N).out,x.bS=false∧x.pend= []∧x.dF=0:=by
  rw[h.out];intro x hx;obtain ⟨j,_,rfl⟩:=List.mem_map.1 hx;exact ⟨rfl,rfl,rfl⟩
 have hR2:R.2=false:=by
  rw[←hR];unfold aX;dsimp only;rw[List.any_eq_false];intro x hx;obtain ⟨e1,e2,e3⟩:=hfr x (List.mem_of_mem_take hx);rw[(nI (bK dz) x e1 e2 e3).1];simp
 have vG:R.1=((kM sizes aj N).out.take aI).map (fun x=>(bQ cS (bK dz) x).1)++(kM sizes aj N).out.drop aI:=by rw[←hR];rfl
 obtain ⟨s1,hs1⟩:∃s1:Sd,{kM sizes aj N with out:=R.1,failed:=(kM sizes aj N).failed||R.2,wait:=(kM sizes aj N).wait&&decide (aI≤lW (kM sizes aj N) (kM sizes aj N).polled)}=s1:=⟨_,rfl⟩
 have hst:eD cS (kM sizes aj N) 0 (aI:Int) dz=(fA s1,0):=by
  have e1:qm cS (bK dz) aI (kM sizes aj N)=fA s1:=by
   unfold qm;rw[hR];dsimp only;rw[hs1];have e2:(fA s1).fD=false:=by rw[←hs1];exact h.ow
   rw[if_neg (by rw[e2];simp)]
  unfold eD oO;rw[if_neg (by rw[h.fa];simp),if_neg (by rw[hv];simp),hpl,if_neg,h.clock]
  ·dsimp only;rw[Int.toNat_natCast,e1];have e3:(fA s1).failed=false:=by
    rw[←hs1];show ((kM sizes aj N).failed||R.2)=false
    rw[h.fa,hR2];rfl
   rw[if_neg (by rw[e3];simp)]
  ·rintro (hh|hh)
   ·rw[hlen] at hh;omega
   ·obtain ⟨y,hy,hd⟩:=List.any_eq_true.1 hh;have ho:=hr.ok y hy;have h0:=ho.s0;have h1:=ho.s1;have hd2:=of_decide_eq_true hd;unfold ed at hd2;rw[h.f0] at hd2;omega
 rw[hst];obtain ⟨a,ha⟩:∃a,(aS R.1).1=a:=⟨_,rfl⟩
 obtain ⟨b1,b2,b3,b4⟩:=zR R.1;rw[ha] at b1 b2 b3 b4;have hRl:R.1.length=N:=by
  rw[vG,List.length_append,List.length_map,List.length_take,List.length_drop,hlen];omega
 have hRg:∀i,i<N→R.1[i]? =some (if i<aI then (bQ cS (bK dz) (aH sizes aj i)).1 else aH sizes aj i):=by
  intro i hi;have hg:(kM sizes aj N).out[i]? =some (aH sizes aj i):=by rw[h.out];simp[hi]
  rw[vG];by_cases hia:i<aI
  ·rw[List.getElem?_append_left (by rw[List.length_map,List.length_take,hlen];omega),List.getElem?_map,List.getElem?_take,if_pos hia,hg,if_pos hia];rfl
  ·rw[List.getElem?_append_right (by rw[List.length_map,List.length_take,hlen];omega),List.length_map,List.length_take,hlen,show min aI N=aI by omega,List.getElem?_drop,show aI+(i-aI)=i by omega,hg,if_neg hia]
 have haN:a≤N:=by omega
 have hhas:∀j,j<a→Has st j:=by
  intro j hj;have h1:=hRg j (by omega);have h2:=b3 j _ hj h1;by_cases hja:j<aI
  ·rw[if_pos hja] at h2;have h3:=(nI (bK dz) (aH sizes aj j) rfl rfl rfl).2.1 h2;exact hr.truth hja rfl h3
  ·rw[if_neg hja] at h2;cases h2
 have hnx:=uo.WR hx hhas;have hsz:(aS R.1).2.1=(kM sizes aj a).taken:=by
  rw[b2,zS hs hN hne a haN]
  congr 1
  refine List.ext_getElem? fun i=> ?_
  rw[List.getElem?_map,List.getElem?_map,List.getElem?_map,List.getElem?_take];by_cases hi:i<a
  ·rw[if_pos hi,hRg i (by omega),List.getElem?_range hi];simp only[Option.map_some]
   congr 1
   split
   ·exact EA _ _ _
   ·rfl
  ·rw[if_neg hi,List.getElem?_eq_none (by simp;omega)];rfl
 have hq:(fA s1).done=(gQ aj (kM sizes aj a).taken).1∧(fA s1).queue=(gQ aj (kM sizes aj a).taken).2.2.2:=by
  rw[←hs1];unfold fA;dsimp only;rw[h.q,h.d,h.fr,hsz];simp
 obtain ⟨q1,q2⟩:=Dc aj (kM sizes aj a).taken;rw[(jI hs hN hne a haN).tk] at q1 q2;have hd:=GY T (i:=st.next) hx.nx;have hm:=Db T hnx hx.nx
 try dsimp only at hd hm
 refine ⟨rfl,?_,fun hn hk=> ?_⟩
 ·dsimp only;rw[hq.1];omega
 ·subst hn;subst hk;have hall:=b4 fun x hx=>by
   obtain ⟨i,hi⟩:=List.mem_iff_getElem?.1 hx;have hil:i<aI:=by have:=(List.getElem?_eq_some_iff.1 hi).1;omega
   have h1:=hRg i hil;rw[hi,if_pos hil] at h1;cases h1;exact (nI (bK []) (aH sizes aj i) rfl rfl rfl).2.2 rfl
  have af6:a=aI:=by omega
  subst af6;rw[he] at q1 q2;dsimp only;rw[hq.1,hq.2,q2];exact ⟨by simpa using q1,rfl⟩
end
end
section
open Go.RowKit Go.Shelf
theorem zU {w:World} {b b':Nat} {e e':TypeId} {v:Value} {n:Nat} {xs xs':List Value} (h:w.ownsRow b e 1 v n xs) (h':w.ownsRow b' e' 1 v n xs'):xs=xs':=by
 have l1:=h.1;have l2:=h'.1;rcases h.2 with ⟨rfl,h0⟩|⟨g,cap,cur,rfl,hb,hh,_,_,_,ht⟩
 ·exact (List.eq_nil_of_length_eq_zero (by omega)).trans (List.eq_nil_of_length_eq_zero (by omega)).symm
 ·rcases h'.2 with ⟨e1,_⟩|⟨g',cap',cur',e1,hb',hh',_,_,_,ht'⟩
  ·cases e1
  ·cases e1;rw[hh] at hh';cases hh';exact ht.symm.trans ht'
section
variable {w1 W W':World} {T T':Nat→Nat} {g M n n':Nat} {c:Cf} {st st':Rc} {vo kX vg v v':Value} {sizes:List UInt8} {aj:List (List UInt8)} {N:Nat} {got outs:List (List UInt8)}
theorem dG.join {base b2:Nat} {vs vs2:List Value} (h:dG W base T v outs) (h2:dG W b2 T v' got) (hvs:W.ownsRow base 22 1 v outs.length vs) (WS:W.ownsRow b2 22 1 v' got.length vs2) (hb:base≤b2) {x:Value}
 (hown:W'.ownsRow base 22 1 x (outs.length+got.length) (vs++vs2)) (hg:W.grownBy W' v.ownBlock) (hx:∀k,x.ownBlock=some k→T k=0):dG W' base T x (outs++got):=by
 obtain ⟨us,h1,_,h3⟩:=h;obtain ⟨us2,k1,_,k3⟩:=h2;have e1:=zU h1 hvs;have e2:=zU k1 WS;subst e1 e2;have hu:∀{b n:Nat} {y:Value} {xs:List Value},W.ownsRow b 5 1 y n xs→W'.ownsRow b 5 1 y n xs:=fun {b n y xs} ho=>bT ho (fun j hj=>hg.block j (ho.lt j hj).2 (fun e=>by
  obtain ⟨cs,fr,hc⟩:=JN ho hj;rcases hvs.2 with ⟨rfl,_⟩|⟨p,cap,cur,rfl,q1,q2,_⟩
  ·cases e
  ·have e2:j=p:=by injection e
   subst e2;rw[hc] at q2;cases q2))
 have hl:us.length=outs.length:=by simpa using h1.1
 refine ⟨us++us2,by rw[List.length_append];exact hown,hx,fun i p hp=> ?_⟩;rcases Nat.lt_or_ge i outs.length with hlt|hge
 ·rw[List.getElem?_append_left hlt] at hp;obtain ⟨y,e,ho,ht⟩:=h3 i p hp;exact ⟨y,by rw[List.getElem?_append_left (by omega)];exact e,hu ho,ht⟩
 ·rw[List.getElem?_append_right hge] at hp;obtain ⟨y,e,ho,ht⟩:=k3 (i-outs.length) p hp;exact ⟨y,by rw[List.getElem?_append_right (by omega),hl];exact e,hu (aW ho hb),ht⟩
structure EB (w1:World) (g M:Nat) (c:Cf) (sizes:List UInt8) (aj:List (List UInt8)) (N:Nat) (T:Nat→Nat) (n:Nat) (st:Rc) (vo vg:Value) (got outs:List (List UInt8)) (W:World):Prop where
 rc:gH W T g M n c st vo
 tb:∀j,T j≠0→w1.heap.size≤j
 ok:dL st
 sz:rF st
 rx:uo aj N (aH sizes aj) (fun i=>(bO sizes aj i).1) (fun i=>(bO sizes aj i).2) st
 gl:dG W w1.heap.size T vg got
 ge:jN aj (fun i=>(bO sizes aj i).1) st.next=got++outs
 eH:Below w1.heap.size w1 W
theorem EB.more (h:EB w1 g M c sizes aj N T n st vo vg got outs W) (hb:Below W.heap.size W W'):EB w1 g M c sizes aj N T n st vo vg got outs W':=
 ⟨h.rc.below hb,h.tb,h.ok,h.sz,h.rx,h.gl.below hb,h.ge,h.eH.trans (hb.mono h.eH.size)⟩
theorem EB.len (hS:gM sizes aj N) (h:EB w1 g M c sizes aj N T n st vo vg got outs W):got.length+outs.length≤aj.length:=by
 have h1:=GY (gU hS.hs hS.le hS.ne) (i:=st.next) h.rx.nx;rw[h.ge,List.length_append] at h1;omega
theorem JP {A:Option Addr} {l cp:Nat} {bs:List UInt8} (hA:Sl w1 w1.heap.size A l cp (cu bs)) (hb:Below w1.heap.size w1 W) (tb:∀j,T j≠0→w1.heap.size≤j) (hk:Kept (MT T) W W'):Sl W' W'.heap.size A l cp (cu bs):=by
 refine ⟨hA.len,hA.cap,hA.mx,fun h0=> ?_⟩;obtain ⟨ad,e,hl,hc⟩:=hA.at_ h0;have hs:=hb.size;have hl2:ad.block<W.heap.size:=by omega
 refine ⟨ad,e,Nat.lt_of_lt_of_le hl2 hk.size,fun j u hu=> ?_⟩;have hbk:W'.heap[(ad.add j).block]? =w1.heap[(ad.add j).block]? :=by
  rw[block_add];have e1:=Array.getElem?_eq_getElem hl2;rw[←hb.block _ hl,e1];refine hk.same _ _ e1 (fun hm=> ?_);unfold MT at hm;have:=tb _ hm;omega
 exact (World.cell?_of_block (a:=ad.add j) hbk).trans (hc j u hu)
theorem EB.recv (hS:gM sizes aj N) (h:EB w1 g M c sizes aj N T n st vo vg got [] W) (hcf:L5 c) (hn:n<maxLen) (now:Int) (iR:now≤9223372036854775807) {i:Nat} (hi:i<N) {a:iN} (ha:Piece (aH sizes aj i) a) {bs:List UInt8} (hd:oZ bs= .inr a)
 (A:Option Addr) (l cp:Nat) (hA:∀W2,Kept (MT T) W W2→Sl W2 W2.heap.size A l cp (cu bs)) (hsm:l≤1000000):
 Calls Tryz.prog 8 #[.pointer (some ⟨g,0,none⟩),.int .i64 now,.slice A l cp] W fun e W'=>∃T' kX v n',e= .returned (.tuple #[v,.int .i64 0])∧EB w1 g M c sizes aj N T' n' (bX c st now bs).1 kX vg got (bX c st now bs).2.1 W'∧
  dG W' W.heap.size T' v (bX c st now bs).2.1∧n'≤n+1∧(∀k,k<W.heap.size→T' k=T k)∧Kept (MT T) W W'∧(∀j,Has st j→Has (bX c st now bs).1 j)∧(a.off=0→uk a=true→Has (bX c st now bs).1 i):=by
 have T0:=gU hS.hs hS.le hS.ne;obtain ⟨r1,r2,r3,r4,r5⟩:=GX T0 h.rx c now hi ha hd;refine (pG h.rc h.ok hcf hn now iR A l cp bs hA hsm).mono ?_;rintro e W' ⟨T',kX,v,n',rfl,hR,hn',hT,hK,hO⟩;rw[r2];refine ⟨T',kX,v,n',rfl,⟨hR,fun j hj=> ?_,h.ok.recv c iR bs,h.sz.recv c now bs,r1,h.gl.stay hK hT,?_,?_⟩,hO,hn',hT,hK,r4,r5⟩
 ·rcases Nat.lt_or_ge j W.heap.size with hl|hl
  ·rw[hT j hl] at hj;exact h.tb j hj
  ·have:=h.eH.size;omega
 ·rw[r3,h.ge,List.append_nil]
 ·exact h.eH.trans (MT.below hK h.tb h.eH.size)
theorem EB.app {vs vs2:List Value} (h:EB w1 g M c sizes aj N T n st vo vg got outs W) {b2:Nat} (hO:dG W b2 T v outs) (hb2:w1.heap.size≤b2) (hvs:W.ownsRow w1.heap.size 22 1 vg got.length vs) (WS:W.ownsRow b2 22 1 v outs.length vs2)
 (hown:W'.ownsRow w1.heap.size 22 1 v' (got.length+outs.length) (vs++vs2)) (hg:W.grownBy W' vg.ownBlock) (hv':v'.ownBlock=vg.ownBlock∨v'.ownBlock=some W.heap.size):EB w1 g M c sizes aj N T n st vo v' (got++outs) [] W':=by
 have hgt:∀k,vg.ownBlock=some k→T k=0:=h.gl.choose_spec.2.1
 have hx:∀k,v'.ownBlock=some k→T k=0:=fun k hk=>by
  rcases hv' with e|e
  ·exact hgt k (by rw[←e];exact hk)
  ·rw[e] at hk;cases hk;exact h.rc.zero (Nat.le_refl _)
 exact ⟨h.rc.stay fun k hk=>hg.block k (h.rc.lt k hk) (fun e=>hk (hgt k e.symm)),h.tb,h.ok,h.sz,h.rx,dG.join h.gl hO hvs WS hb2 hown hg hx,by rw[h.ge,List.append_nil],h.eH.grown hg h.eH.size (fun k hk=>(hvs.lt k hk).1)⟩
theorem KG (hS:gM sizes aj N) (a0 a1 a2 a3 a4 a5 a6:Int) (w1:World) (hr:iT a0 a1 a2 a3 a4 a5 a6=true):Calls Tryz.prog 19 #[.agg (ML a0 a1 a2 a3 a4 a5 a6)] w1 fun e W=>∃g M T,e= .returned (.tuple #[.pointer (some ⟨g,0,none⟩),.int .i64 0])∧
 EB w1 g M ⟨a0,a1,a2,a3,a4,a5,a6⟩ sizes aj N T 0 lq (.slice none 0 0) (.slice none 0 0) [] [] W∧Below w1.heap.size w1 W:=by
 refine (GN a0 a1 a2 a3 a4 a5 a6 w1).mono ?_;rintro e W ⟨hB,⟨_,g,M,T,rfl,hR,hT⟩|⟨hf,_⟩⟩
 ·have T0:=gU hS.hs hS.le hS.ne;exact ⟨g,M,T,rfl,⟨hR,hT,uI.1,uI.2,uo.start T0,dG.nil _ _ _,T0.dn0,hB⟩,hB⟩
 ·rw[hr] at hf;cases hf
structure oz (w1:World) (T:Nat→Nat) (vg vr:Value) (vals:List Value) (W:World):Prop where
 row:W.ownsRow w1.heap.size 22 1 vr vals.length vals
 tz:∀k,vr.ownBlock=some k→T k=0
 ne:∀k,vr.ownBlock=some k→vg.ownBlock≠some k
theorem oz.stay {vr:Value} {vals:List Value} (h:oz w1 T vg vr vals W) (hk:Kept (MT T) W W') (hT:∀k,k<W.heap.size→T' k=T k):oz w1 T' vg vr vals W':=
 ⟨bT h.row fun j hj=>by
  have hl:=(h.row.lt j hj).2;have e1:=Array.getElem?_eq_getElem hl;rw[e1];refine hk.same _ _ e1 (fun hm=>hm (h.tz j hj)),fun k hk'=>by rw[hT k (h.row.lt k hk').2];exact h.tz k hk',h.ne⟩
theorem oz.app {vr:Value} {vals:List Value} (h:oz w1 T vg vr vals W) (hg:W.grownBy W' vg.ownBlock) (hv':v'.ownBlock=vg.ownBlock∨v'.ownBlock=some W.heap.size):oz w1 T v' vr vals W':=
 ⟨bT h.row fun j hj=>hg.block j (h.row.lt j hj).2 (fun e=>h.ne j hj e.symm),h.tz,fun k hk e=>by
  rcases hv' with e1|e1
  ·exact h.ne k hk (by rw[←e1];exact e)
  ·rw[e1] at e;cases e;have:=(h.row.lt _ hk).2;omega⟩
end
end
section
open Go.RowKit Go.Shelf
attribute [local go_sem] Oper.semAt_some
def wc:Cf:=⟨0,0,1,5,3,0,1⟩
theorem uK:L5 wc:=⟨by decide,by decide,by decide,by decide⟩
def ws0:Rc:=lq
def ws1:Rc:=(bX wc ws0 0 [136,0,104,101,108]).1
theorem wo1:(bX wc ws0 0 [136,0,104,101,108]).2=([],0):=by decide+kernel
def WT:Rc:=(bX wc ws1 1 [176,1,108,111]).1
theorem wo2:(bX wc ws1 1 [176,1,108,111]).2=([[104,101,108,108,111]],0):=by decide+kernel
theorem wo3:zP WT= #[.int .i64 2,.int .i64 2,.int .i64 2,.bool false,.int .i64 0,.int .i64 0,.bool true,.int .i64 0]:=by kernel_rfl
theorem wq3 (w:World):(binOp .neq 49 (.agg #[.int .i64 2,.int .i64 2,.int .i64 2,.bool false,.int .i64 0,.int .i64 0,.bool true,.int .i64 0]) (.agg #[.int .i64 2,.int .i64 2,.int .i64 2,.bool false,.int .i64 0,.int .i64 0,.bool true,.int .i64 0])).run Tryz.prog w= .ok (.bool false) w:=by kernel_rfl
def ws3:Rc:=(eG wc WT 1 9).1
theorem wo4:(eG wc WT 1 9).2=([0,8],0):=by decide+kernel
def ws4:Rc:=(eG wc ws3 1 9).1
theorem wo5:(eG wc ws3 1 9).2=([],0):=by decide+kernel
def WU:Rc:=(bX wc ws4 2 [160,3,120]).1
theorem wo6:(bX wc ws4 2 [160,3,120]).2=([],0):=by decide+kernel
theorem wo7:zP WU= #[.int .i64 2,.int .i64 2,.int .i64 4,.bool true,.int .i64 4,.int .i64 7,.bool true,.int .i64 4]:=by kernel_rfl
theorem wq7 (w:World):(binOp .neq 49 (.agg #[.int .i64 2,.int .i64 2,.int .i64 4,.bool true,.int .i64 4,.int .i64 7,.bool true,.int .i64 4]) (.agg #[.int .i64 2,.int .i64 2,.int .i64 4,.bool true,.int .i64 4,.int .i64 7,.bool true,.int .i64 4])).run Tryz.prog w= .ok (.bool false) w:=by kernel_rfl
def ws6:Rc:=(eG wc WU 3 9).1
theorem wo8:(eG wc WU 3 9).2=([],0):=by decide+kernel
def ws7:Rc:=(eG wc ws6 4 9).1
theorem wo9:(eG wc ws6 4 9).2=([0,8],0):=by decide+kernel
def ws8:Rc:=fQ wc ws7 7
def ws9:Rc:=(eG wc ws8 7 9).1
theorem af8:(eG wc ws8 7 9).2=([0,18,1,0],0):=by decide+kernel
def SA:Rc:=(bX wc ws9 8 [208,2,128,1,121]).1
theorem af9:(bX wc ws9 8 [208,2,128,1,121]).2=([],0):=by decide+kernel
def SB:Rc:=(bX wc SA 8 [200,2,0,0,122]).1
theorem aga:(bX wc SA 8 [200,2,0,0,122]).2=([[122,121],[120]],0):=by decide+kernel
def SC:Rc:=(bX wc SB 9 [208,4,128,1,97]).1
theorem agb:(bX wc SB 9 [208,4,128,1,97]).2=([],0):=by decide+kernel
def SE:Rc:=(bX wc SC 8 [5]).1
theorem agc:(bX wc SC 8 [5]).2=([],5):=by decide+kernel
def agd:Rc:=(bX wc SE 9 [128,4,97,98,99]).1
theorem age:(bX wc SE 9 [128,4,97,98,99]).2=([],9):=by decide+kernel
theorem Py (W:World) (ws:List (List UInt8)) (hsm:ws.length≤1000):GQ (W.alloc (.cells (ws.map (fun q=>Value.string ⟨q.toArray⟩)).toArray 9)) W.heap.size (some ⟨W.heap.size,0,none⟩) ws.length ws.length ws:=by
 have hb:=aA.new W 9 (ws.map (fun q=>Value.string ⟨q.toArray⟩)).toArray;by_cases hl:ws.length≤9223372036854775807
 ·refine ⟨rfl,Nat.le_refl _,hl,fun h0=>⟨_,rfl,Nat.le_refl _,hb.lt,fun j q hq=> ?_⟩⟩;have hg:(ws.map (fun q=>Value.string ⟨q.toArray⟩)).toArray[j]? =some (.string ⟨q.toArray⟩):=by simp[hq]
  rw[Addr.add_lit,Nat.zero_add];exact (hb.cell j).trans hg
 ·exact absurd hsm (by omega)
section
variable {W:World} {base g:Nat}
theorem ww1 (h:qf W base g 0 wc ws0) (hb:base≤W.heap.size):Calls Tryz.prog 29 #[.pointer (some ⟨g,0,none⟩),.int .i64 0,.string ⟨#[136,0,104,101,108]⟩,.slice none 0 0] W (kg W base g 1 wc ws1):=
 jv h (Below.refl _ W) uK (by unfold maxLen;omega) 0 (by omega) [136,0,104,101,108] (by decide) hb none 0 0 [] ⟨rfl,by omega,by omega,fun h0=>by omega⟩ (by omega) wo1
theorem ww2 (h:qf W base g 1 wc ws1) (hb:base≤W.heap.size):Calls Tryz.prog 29 #[.pointer (some ⟨g,0,none⟩),.int .i64 1,.string ⟨#[176,1,108,111]⟩,.slice (some ⟨W.heap.size,0,none⟩) 1 1] (W.alloc (.cells #[.string ⟨#[104,101,108,108,111]⟩] 9)) (kg W base g 2 wc WT):=
 (jv h ((Below.refl _ W).alloc (Nat.le_refl _) _) uK (by unfold maxLen;omega) 1 (by omega) [176,1,108,111] (by decide) hb _ 1 1 [[104,101,108,108,111]] (Py W [[104,101,108,108,111]] (by decide)) (by omega) wo2).mono fun e w' ⟨e1,hE,hB⟩=>⟨e1,hE,((Below.refl base W).alloc hb _).trans hB⟩
theorem ww3 (h:qf W base g 2 wc WT) (hb:base≤W.heap.size):Calls Tryz.prog 14 #[.pointer (some ⟨g,0,none⟩)] W fun e w'=>e= .returned (.agg #[.int .i64 2,.int .i64 2,.int .i64 2,.bool false,.int .i64 0,.int .i64 0,.bool true,.int .i64 0])∧qf w' base g 2 wc WT∧Below base W w':=by
 refine (KF h hb).mono fun e w' ⟨e1,hE,hB⟩=> ?_
 rw[wo3] at e1;exact ⟨e1,hE,hB⟩
theorem ww4 (h:qf W base g 2 wc WT) (hb:base≤W.heap.size):Calls Tryz.prog 30 #[.pointer (some ⟨g,0,none⟩),.int .i64 1,.string ⟨#[0,8]⟩] W (kg W base g 2 wc ws3):=
 kR h uK 1 (by omega) hb [0,8] wo4
theorem ww5 (h:qf W base g 2 wc ws3) (hb:base≤W.heap.size):Calls Tryz.prog 30 #[.pointer (some ⟨g,0,none⟩),.int .i64 1,.string ⟨#[]⟩] W (kg W base g 2 wc ws4):=
 kR h uK 1 (by omega) hb [] wo5
theorem ww6 (h:qf W base g 2 wc ws4) (hb:base≤W.heap.size):Calls Tryz.prog 29 #[.pointer (some ⟨g,0,none⟩),.int .i64 2,.string ⟨#[160,3,120]⟩,.slice none 0 0] W (kg W base g 3 wc WU):=
 jv h (Below.refl _ W) uK (by unfold maxLen;omega) 2 (by omega) [160,3,120] (by decide) hb none 0 0 [] ⟨rfl,by omega,by omega,fun h0=>by omega⟩ (by omega) wo6
theorem ww7 (h:qf W base g 3 wc WU) (hb:base≤W.heap.size):Calls Tryz.prog 14 #[.pointer (some ⟨g,0,none⟩)] W fun e w'=>e= .returned (.agg #[.int .i64 2,.int .i64 2,.int .i64 4,.bool true,.int .i64 4,.int .i64 7,.bool true,.int .i64 4])∧qf w' base g 3 wc WU∧Below base W w':=by
 refine (KF h hb).mono fun e w' ⟨e1,hE,hB⟩=> ?_
 rw[wo7] at e1;exact ⟨e1,hE,hB⟩
theorem ww8 (h:qf W base g 3 wc WU) (hb:base≤W.heap.size):Calls Tryz.prog 30 #[.pointer (some ⟨g,0,none⟩),.int .i64 3,.string ⟨#[]⟩] W (kg W base g 3 wc ws6):=
 kR h uK 3 (by omega) hb [] wo8
theorem ww9 (h:qf W base g 3 wc ws6) (hb:base≤W.heap.size):Calls Tryz.prog 30 #[.pointer (some ⟨g,0,none⟩),.int .i64 4,.string ⟨#[0,8]⟩] W (kg W base g 3 wc ws7):=
 kR h uK 4 (by omega) hb [0,8] wo9
theorem agf (h:qf W base g 3 wc ws7) (hb:base≤W.heap.size):Calls Tryz.prog 12 #[.pointer (some ⟨g,0,none⟩),.int .i64 7] W fun e w'=>e= .returned (.int .i64 0)∧qf w' base g 3 wc ws8∧Below base W w':=
 WO h uK 7 (by omega) hb
theorem agh (h:qf W base g 3 wc ws8) (hb:base≤W.heap.size):Calls Tryz.prog 30 #[.pointer (some ⟨g,0,none⟩),.int .i64 7,.string ⟨#[0,18,1,0]⟩] W (kg W base g 3 wc ws9):=
 kR h uK 7 (by omega) hb [0,18,1,0] af8
theorem agi (h:qf W base g 3 wc ws9) (hb:base≤W.heap.size):Calls Tryz.prog 29 #[.pointer (some ⟨g,0,none⟩),.int .i64 8,.string ⟨#[208,2,128,1,121]⟩,.slice none 0 0] W (kg W base g 4 wc SA):=
 jv h (Below.refl _ W) uK (by unfold maxLen;omega) 8 (by omega) [208,2,128,1,121] (by decide) hb none 0 0 [] ⟨rfl,by omega,by omega,fun h0=>by omega⟩ (by omega) af9
theorem agj (h:qf W base g 4 wc SA) (hb:base≤W.heap.size):Calls Tryz.prog 29 #[.pointer (some ⟨g,0,none⟩),.int .i64 8,.string ⟨#[200,2,0,0,122]⟩,.slice (some ⟨W.heap.size,0,none⟩) 2 2] (W.alloc (.cells #[.string ⟨#[122,121]⟩,.string ⟨#[120]⟩] 9)) (kg W base g 5 wc SB):=
 (jv h ((Below.refl _ W).alloc (Nat.le_refl _) _) uK (by unfold maxLen;omega) 8 (by omega) [200,2,0,0,122] (by decide) hb _ 2 2 [[122,121],[120]] (Py W [[122,121],[120]] (by decide)) (by omega) aga).mono fun e w' ⟨e1,hE,hB⟩=>⟨e1,hE,((Below.refl base W).alloc hb _).trans hB⟩
theorem agk (h:qf W base g 5 wc SB) (hb:base≤W.heap.size):Calls Tryz.prog 29 #[.pointer (some ⟨g,0,none⟩),.int .i64 9,.string ⟨#[208,4,128,1,97]⟩,.slice none 0 0] W (kg W base g 6 wc SC):=
 jv h (Below.refl _ W) uK (by unfold maxLen;omega) 9 (by omega) [208,4,128,1,97] (by decide) hb none 0 0 [] ⟨rfl,by omega,by omega,fun h0=>by omega⟩ (by omega) agb
theorem agl (h:qf W base g 6 wc SC) (hb:base≤W.heap.size) (fr:Nat × Nat):Calls Tryz.prog 8 #[.pointer (some ⟨g,0,none⟩),.int .i64 8,.slice (some ⟨W.heap.size,0,none⟩) 1 1] (W.alloc (.cells #[.int .u8 5] 5 fr)) fun e w'=>∃A c,e= .returned (.tuple #[.slice A 0 c,.int .i64 5])∧qf w' base g 7 wc SE∧Below base W w':=by
 have hs:Sl (W.alloc (.cells #[.int .u8 5] 5 fr)) (W.alloc (.cells #[.int .u8 5] 5 fr)).heap.size (some ⟨W.heap.size,0,none⟩) 1 1 (cu [5]):=rH (lY W _) rfl (by simp);have hr:=JM h ((Below.refl _ W).alloc (Nat.le_refl _) (.cells #[.int .u8 5] 5 fr)) uK (by unfold maxLen;omega) 8 (by omega) _ 1 1 [5] hs (fun ad e=>by cases e;exact Nat.le_refl _) (by omega) (by simp;omega);rw[agc] at hr;refine hr.mono fun e w' ⟨v,T',e1,hO,hE,hB,_⟩=> ?_
 obtain ⟨A,c,rfl,_⟩:=hO.read;exact ⟨A,c,e1,hE,((Below.refl base W).alloc hb _).trans hB⟩
theorem agm (h:qf W base g 7 wc SE) (hb:base≤W.heap.size) (fr:Nat × Nat):Calls Tryz.prog 8 #[.pointer (some ⟨g,0,none⟩),.int .i64 9,.slice (some ⟨W.heap.size,0,none⟩) 5 5] (W.alloc (.cells #[.int .u8 128,.int .u8 4,.int .u8 97,.int .u8 98,.int .u8 99] 5 fr)) fun e w'=>∃A c,e= .returned (.tuple #[.slice A 0 c,.int .i64 9])∧qf w' base g 8 wc agd∧Below base W w':=by
 have hs:Sl (W.alloc (.cells #[.int .u8 128,.int .u8 4,.int .u8 97,.int .u8 98,.int .u8 99] 5 fr)) (W.alloc (.cells #[.int .u8 128,.int .u8 4,.int .u8 97,.int .u8 98,.int .u8 99] 5 fr)).heap.size (some ⟨W.heap.size,0,none⟩) 5 5 (cu [128,4,97,98,99]):=rH (lY W _) rfl (by simp);have hr:=JM h ((Below.refl _ W).alloc (Nat.le_refl _) (.cells #[.int .u8 128,.int .u8 4,.int .u8 97,.int .u8 98,.int .u8 99] 5 fr)) uK (by unfold maxLen;omega) 9 (by omega) _ 5 5 [128,4,97,98,99] hs (fun ad e=>by cases e;exact Nat.le_refl _) (by omega) (by simp;omega);rw[age] at hr;refine hr.mono fun e w' ⟨v,T',e1,hO,hE,hB,_⟩=> ?_
 obtain ⟨A,c,rfl,_⟩:=hO.read;exact ⟨A,c,e1,hE,((Below.refl base W).alloc hb _).trans hB⟩
end
set_option maxRecDepth 100000 in
set_option maxHeartbeats 4000000 in
theorem jw (w:World):Calls Tryz.prog 7 #[] w fun e w'=>e= .returned (.bool true)∧Below w.heap.size w w':=by
 have hnew:=GN 0 0 1 5 3 0 1 w;have hnew:Calls Tryz.prog 19 #[.agg (ML 0 0 1 5 3 0 1)] w fun e w'=>∃g,e= .returned (.tuple #[.pointer (some ⟨g,0,none⟩),.int .i64 0])∧qf w' w.heap.size g 0 wc ws0∧Below w.heap.size w w':=by
  refine hnew.mono ?_;rintro e w' ⟨hB,⟨_,g,M,T,rfl,hR,hT⟩|⟨hf,_⟩⟩
  ·exact ⟨g,rfl,⟨T,M,0,_,hR,Nat.le_refl _,uI.1,uI.2,hT⟩,hB⟩
  ·exact absurd hf (by decide)
 have JQ:=Lib.hid hnew;have q3:=wq3;have q7:=wq7;have kc:=fun (w:World) (C:Array Value) (n c:Nat)=>Lib.run_convert_bytes_const (P:=Tryz.prog) w 22 5 C n c und29 und5
 clear hnew;go_enter Tryz.func7,Tryz.ntmps7;go_upto_region 2 with (go_at_call 19;refine JQ.out.mono ?_;rintro e1 w1 ⟨g,rfl,hE0,hB⟩)
 go_wp2_with (first
  |(go_at_call 11;refine (dQ _ _).mono ?_;rintro e1 w2 ⟨rfl,rfl⟩)
  |(go_at_call 29;(with_reducible refine (ww1 hE0 hB.size).mono ?_);rintro e3 w3 ⟨rfl,hE1,hb1⟩;have hB1:=hB.trans hb1)
  |(go_at_call 29;(with_reducible refine (ww2 hE1 hB1.size).mono ?_);rintro e4 w4 ⟨rfl,hE2,hb2⟩;have hB2:=hB1.trans hb2)
  |(go_at_call 14;(with_reducible refine (ww3 hE2 hB2.size).mono ?_);rintro e5 w5 ⟨rfl,hE3,hb3⟩;have hB3:=hB2.trans hb3)
  |(go_at_call 30;(with_reducible refine (ww4 hE3 hB3.size).mono ?_);rintro e6 w6 ⟨rfl,hE4,hb4⟩;have hB4:=hB3.trans hb4)
  |(go_at_call 30;(with_reducible refine (ww5 hE4 hB4.size).mono ?_);rintro e7 w7 ⟨rfl,hE5,hb5⟩;have oD:=hB4.trans hb5)
  |(go_at_call 29;(with_reducible refine (ww6 hE5 oD.size).mono ?_);rintro e8 w8 ⟨rfl,hE6,hb6⟩;have Ic:=oD.trans hb6)
  |(go_at_call 14;(with_reducible refine (ww7 hE6 Ic.size).mono ?_);rintro e9 w9 ⟨rfl,hE7,nV⟩;have II:=Ic.trans nV)
  |(go_at_call 30;(with_reducible refine (ww8 hE7 II.size).mono ?_);rintro e10 EI ⟨rfl,hE8,tC⟩;have Qb:=II.trans tC)
  |(go_at_call 30;(with_reducible refine (ww9 hE8 Qb.size).mono ?_);rintro e11 wB ⟨rfl,hE9,oQ⟩;have VP:=Qb.trans oQ)
  |(go_at_call 12;(with_reducible refine (agf hE9 VP.size).mono ?_);rintro e12 w12 ⟨rfl,agp,EC⟩;have abk:=VP.trans EC)
  |(go_at_call 30;(with_reducible refine (agh agp abk.size).mono ?_);rintro e13 X3 ⟨rfl,agq,ags⟩;have Pz:=abk.trans ags)
  |(go_at_call 29;(with_reducible refine (agi agq Pz.size).mono ?_);rintro e14 w14 ⟨rfl,agt,Ey⟩;have Mk:=Pz.trans Ey)
  |(go_at_call 29;(with_reducible refine (agj agt Mk.size).mono ?_);rintro e15 w15 ⟨rfl,agu,Ml⟩;have abl:=Mk.trans Ml)
  |(go_at_call 29;(with_reducible refine (agk agu abl.size).mono ?_);rintro e16 w16 ⟨rfl,agv,agw⟩;have PD:=abl.trans agw)
  |(go_at_call 8;(with_reducible refine (agl agv PD.size _).mono ?_);rintro e17 w17 ⟨A15,c15,rfl,agx,SF⟩;have abm:=PD.trans SF)
  |(go_at_call 8;(with_reducible refine (agm agx abm.size _).mono ?_);rintro e18 w18 ⟨A16,c16,rfl,ana,agy⟩;have agz:=abm.trans agy)
  |fail)
 go_ret;exact ⟨rfl,agz⟩
end
section
open Go.RowKit Go.Shelf
attribute [local go_sem] Oper.semAt_some
section
variable {w w':World} {v:Value}
end
end
section
open Go.RowKit Go.Shelf
attribute [local go_sem] Oper.semAt_some
section
end
def Up (w:World) (e:Ending) (w':World):Prop:=e= .returned (.bool true)∧Below w.heap.size w w'
end
end Go.Proofs.YtiecgfahidpldaaGreat
