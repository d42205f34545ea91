/- amsend: Copy. law36, plain: a segment cut from a PDU is a piece of it. law36: a receiver of a transmitter's PDUs, one reception (AmrecvOnce). law36: what AmrecvOnce hands to the receiver: a PDU or a segment of it. -/
import Derived.Test.YtiecgfahidpldaaGreatM3ag
import Derived.Test.YtiecgfahidpldaaGreatM3ai
import Derived.Test.YtiecgfahidpldaaGreatM3aq
import Derived.Test.YtiecgfahidpldaaGreatM3ar
import Derived.Test.YtiecgfahidpldaaGreatM3as
import Derived.Test.YtiecgfahidpldaaGreatM3ba
import Derived.Deep.RegionHeld3
namespace Go.Proofs.YtiecgfahidpldaaGreat
section
open Go.RowKit Go.Shelf
attribute [local go_sem] Oper.semAt_some
theorem JR (A:Option Addr) (n c:Nat) (vs:List Value) (w:World) (h:Sl w w.heap.size A n c vs) (h1:∀u∈vs,u.oneCell'=true) (hsm:n≤1000000000):
 Calls Tryz.prog 81 #[.slice A n c] w (fun e w'=>∃v,e= .returned v∧w'.ownsRow w.heap.size 22 1 v n vs∧Below w.heap.size w w'):=by
 have hnil:=fun (W:World)=>Lib.run_eql_slice_nil (P:=Tryz.prog) W 34 22 A n c 0 0 und22
 obtain ⟨i0,hi,hz0,hz1,hz2⟩:=info_parts lD;have hs1:=h.alloc (Nat.le_refl _) (.cells #[] 22);rcases A with _|ad
 ·obtain rfl:n=0:=by
   rcases Nat.eq_zero_or_pos n with h0|h0
   ·exact h0
   ·obtain ⟨_,e,_⟩:=h.at_ h0;cases e
  have hl:vs= []:=List.eq_nil_of_length_eq_zero h.len;go_enter Tryz.func81,Tryz.ntmps81;go_wp2;go_ret;exact ⟨_,rfl,by rw[hl];exact World.ownsRow_nil _ _ _ _,Below.refl _ _⟩
 ·go_enter Tryz.func81,Tryz.ntmps81;go_wp2_with (at_builtin;refine dM _ rfl _ _ 34 rfl w.heap.size 22 i0 (.slice none 0 0) 24 und22 hi hz0 hz1 hz2 rfl (.slice (some ⟨w.heap.size,0,none⟩) 0 0) 0 [] rfl ?c0 w.heap.size (some ad) n c vs rfl hs1 h1 ?c3 ?c4 ?c5 ?_)
  case c0=>exact World.ownsRow_lit w #[] 0 (Nat.le_refl _) (by unfold maxLen;omega) rfl
  case c3=>unfold maxLen;omega
  case c4=>omega
  case c5=>simp
  intro v' w1 hown' hgrow _;go_wp2;go_ret;exact ⟨_,rfl,by simpa using hown',((Below.refl _ w).alloc (Nat.le_refl _) _).grown hgrow (by simp) (by simp[Value.ownBlock])⟩
def jT (W W':World):Prop:=∀(k:Nat) cs fr t,(t=120∨t=99)→W.heap[k]? =some (.cells cs t fr)→W'.heap[k]? =some (.cells cs t fr)
section
variable {w W W' W'':World} {b:Nat} {D F:Nat→Prop} {g G:Nat} {c:Cf} {st:Sd} {vq vo:Value} {vs os:List Value}
theorem jT.below (hb:Below W.heap.size W W'):jT W W':=fun k _cs _fr _t _ h=>(hb.block k (lt_of_heap h)).trans h
theorem jT.trans (h:jT W W') (h':jT W' W''):jT W W'':=fun k cs fr t ht hk=>h' k cs fr t ht (h k cs fr t ht hk)
theorem jT.put {cs:Array Value} (hG:aA W G 113 cs) (i:Nat) (u:Value):jT W (W.setCell ⟨G,i,none⟩ u):=fun k cs' fr t ht hk=>by
 refine (Below.heap_setCell W ⟨G,i,none⟩ u k (fun e=> ?_)).trans hk;have e':k=G:=e;subst e';rw[hG] at hk;rcases ht with rfl|rfl<;>(cases hk)
theorem jT.grown {v:Value} {n:Nat} {xs:List Value} (h:dA W 0 118 v n xs) (hg:W.grownBy W' (aL v)):jT W W':=fun k cs fr t ht hk=>by
 refine (hg.block k (lt_of_heap hk) (fun e=> ?_)).trans hk;obtain ⟨cur,h1,_⟩:=h.row e.symm;rw[h1] at hk;rcases ht with rfl|rfl<;>(cases hk)
def CpE (w:World) (D F:Nat→Prop) (x:Ou) (v:Value) (W:World):Prop:=
 ∃p Ap cp vp Ar cr,v= .pointer (some ⟨p,0,none⟩)∧w.heap.size<p∧p<W.heap.size∧aA W p 120 (uN x (.slice Ap x.ps.length cp) (.slice Ar x.pend.length cr))∧gD w w.heap.size Ap x.ps.length cp vp x.ps∧Aa F D Ap∧(∀(i:Nat) v,vp[i]? =some v→Aa F D (sOf v))∧
  cZ W Ar x.pend.length cr x.pend∧∀ad,Ar=some ad→w.heap.size≤ad.block∧∃cs fr,W.heap[ad.block]? =some (.cells cs 99 fr)
theorem CpE.keep {x:Ou} {v:Value} (h:CpE w D F x v W) (hk:jT W W') (hs:W.heap.size≤W'.heap.size):CpE w D F x v W':=by
 obtain ⟨p,Ap,cp,vp,Ar,cr,e,h1,h1',h2,h3,h4,h5,h6,h7⟩:=h;refine ⟨p,Ap,cp,vp,Ar,cr,e,h1,by omega,hk _ _ _ _ (.inl rfl) h2,h3,h4,h5,h6.stay fun ad ea=> ?_,fun ad ea=> ?_⟩
 ·obtain ⟨_,cs,fr,hc⟩:=h7 ad ea;rw[hc];exact hk _ _ _ _ (.inr rfl) hc
 ·obtain ⟨hl,cs,fr,hc⟩:=h7 ad ea;exact ⟨hl,cs,fr,hk _ _ _ _ (.inr rfl) hc⟩
structure MQ (w:World) (D F:Nat→Prop) (c:Cf) (st:Sd) (vs:List Value) (k:Nat) (oG kX:Value) (os':List Value) (W:World):Prop where
 eH:Below w.heap.size w W
 blk:aA W w.heap.size 113 (dh c oG kX st)
 qr:dA W w.heap.size 22 oG st.queue.length vs
 nR:dA W w.heap.size 118 kX k os'
 ea:∀(i:Nat) (x:Ou) (v:Value),st.out[i]? =some x→os'[i]? =some v→CpE w D F x v W
 inj:∀(i j:Nat) v,os'[i]? =some v→os'[j]? =some v→i=j
theorem below_setRow {B:Nat} {w W:World} (h:Below B w W) {g:Nat} (hg:B≤g) (cs:Array Value):Below B w (W.setRow g cs):=
 ⟨h.os,h.tape,h.output,by rw[setRow_size];exact h.size,fun k hk=>by
  rw[←h.block k hk];simp only[World.setRow,Array.getElem?_modify];rw[if_neg (by omega)]⟩
theorem MQ.start {oG:Value} (hB:Below w.heap.size w W) (hG:aA W w.heap.size 113 (dh c vq vo st)) (hb:w.heap.size<b) (hr:W.ownsRow b 22 1 oG st.queue.length vs) {W5:World} (hW:W5=(W.setCell ⟨w.heap.size,7,none⟩ oG).setCell ⟨w.heap.size,12,none⟩ (.slice none 0 0)):
 MQ w D F c st vs 0 oG (.slice none 0 0) [] W5:=by
 subst hW;have hq:=(dA.cO hr).mQ (Nat.le_of_lt hb);refine ⟨(hB.setCell (p:=⟨w.heap.size,7,none⟩) (Nat.le_refl _) _).setCell (p:=⟨w.heap.size,12,none⟩) (Nat.le_refl _) _,(hG.aC 7 oG).aC 12 (.slice none 0 0),(hq.store hG (by decide) oG).store (hG.aC 7 oG) (by decide) _,yw _ _ _,fun i x v _ h=>by simp at h,fun i j v h=>by simp at h⟩
theorem MQ.next {k p:Nat} {x:Ou} {oG kX Ik:Value} {os' vp:List Value} {Ap Ar QO:Option Addr} {cp cr Vd:Nat} {W1 W2 W5:World} (o:gK w D F p x Ap cp vp Ar cr) (hc:MQ w D F c st vs k oG kX os' W) (hx:st.out[k]? =some x) (hB1:Below W.heap.size W W1) (hz1:W.heap.size<W1.heap.size)
 (hb1:aA W1 W.heap.size 120 (uN x (.slice Ap x.ps.length cp) (.slice Ar x.pend.length cr))) (hr:W2.ownsRow W1.heap.size 99 2 (.slice QO x.pend.length Vd) x.pend.length (mV x.pend)) (hB2:Below W1.heap.size W1 W2) {W4:World}
 (Nr:W4=(W2.setCell ⟨W.heap.size,10,none⟩ (.slice QO x.pend.length Vd)).alloc (.cells #[.pointer (some ⟨W.heap.size,0,none⟩)] 118)) (hown:dA W5 w.heap.size 118 Ik (k+1) (os'++ [.pointer (some ⟨W.heap.size,0,none⟩)])) (hg:W4.grownBy W5 (aL kX)):
 MQ w D F c st vs (k+1) oG Ik (os'++ [.pointer (some ⟨W.heap.size,0,none⟩)]) (W5.setCell ⟨w.heap.size,12,none⟩ Ik):=by
 have hz2:=hB2.size;have hbW:Below W.heap.size W W4:=by
  rw[Nr];exact ((hB1.trans (hB2.mono hB1.size)).setCell (p:=⟨W.heap.size,10,none⟩) (Nat.le_refl _) _).alloc (by simp[World.setCell];omega) _
 have hG4:=hc.blk.below hbW hc.blk.lt;have hq4:=hc.qr.below hbW (Nat.le_refl _);have ho4:=hc.nR.below hbW (Nat.le_refl _);have uO:=hG4.grown hg (fun e=>ho4.qw hG4 (by decide) e.symm);have QK:dA W5 w.heap.size 22 oG st.queue.length vs:=hq4.grown hg fun j e1 e2=>by
  obtain ⟨c1,h1,_⟩:=ho4.row e1;obtain ⟨c2,h2,_⟩:=hq4.row e2;rw[h1] at h2;cases h2
 have hz4:=hbW.size;have hk5:jT W (W5.setCell ⟨w.heap.size,12,none⟩ Ik):=((jT.below hbW).trans (jT.grown (ho4.mQ (Nat.zero_le _)) hg)).trans (jT.put uO 12 Ik);have hk4:jT W4 (W5.setCell ⟨w.heap.size,12,none⟩ Ik):=(jT.grown (ho4.mQ (Nat.zero_le _)) hg).trans (jT.put uO 12 Ik);have yQ:W4.heap.size≤(W5.setCell ⟨w.heap.size,12,none⟩ Ik).heap.size:=by
  have:=hg.size;simp[World.setCell];exact this
 have hl:=hc.nR.1;have hwW:=hc.eH.size;have hGl:=hc.blk.lt;refine ⟨((hc.eH.trans (hbW.mono hwW)).grown hg (by omega) (fun j e=>(ho4.lt e).1)).setCell (p:=⟨w.heap.size,12,none⟩) (Nat.le_refl _) _,uO.aC 12 Ik,QK.store uO (by decide) Ik,hown.store uO (by decide) Ik,fun i y v hy hv=> ?_,fun i j v hi hj=> ?_⟩
 ·rcases Nat.lt_or_ge i os'.length with hlt|hge
  ·rw[List.getElem?_append_left hlt] at hv;exact (hc.ea i y v hy hv).keep hk5 (by omega)
  ·rw[List.getElem?_append_right hge] at hv;have h0:i-os'.length=0:=by
    have:=(List.getElem?_eq_some_iff.1 hv).1;simp at this;omega
   rw[h0] at hv;simp at hv;have hik:i=k:=by omega
   subst hik;rw[hx] at hy;cases hy;subst hv;obtain ⟨A,cc,e,hsp,hbl⟩:=cZ.cO (l:=x.pend) hr;cases e;have hb2:aA W2 W.heap.size 120 _:=hb1.below hB2 hb1.lt;have hty:∀ad,QO=some ad→∃cs fr,W2.heap[ad.block]? =some (.cells cs 99 fr):=fun ad e=>by
    rcases hr.2 with ⟨e1,_⟩|⟨g',cap',cur',e1,hb',hh',_⟩
    ·rw[e] at e1;cases e1
    ·rw[e] at e1;cases e1;exact ⟨_,_,hh'⟩
   have yR:∀ad,QO=some ad→W4.heap[ad.block]? =W2.heap[ad.block]? :=fun ad e=>by
    have hlt:=(hbl ad e).2;have hge:=(hbl ad e).1;rw[Nr];refine (Below.heap_alloc _ _ _ (by simpa[World.setCell] using hlt)).trans (Below.heap_setCell _ _ _ _ (fun e2=> ?_));have e3:ad.block=W.heap.size:=e2;omega
   have hb4:aA W4 W.heap.size 120 (uN x (.slice Ap x.ps.length cp) (.slice QO x.pend.length Vd)):=by
    rw[Nr];exact (hb2.aC 10 (.slice QO x.pend.length Vd)).alloc _
   have hE4:CpE w D F x (.pointer (some ⟨W.heap.size,0,none⟩)) W4:=⟨W.heap.size,Ap,cp,vp,QO,Vd,rfl,hGl,hb4.lt,hb4,o.ps,o.pf,o.pe,hsp.stay yR,fun ad e=>⟨by have:=(hbl ad e).1;omega,by rw[yR ad e];exact hty ad e⟩⟩;exact hE4.keep hk4 yQ
 ·have hold:∀(i:Nat),i<os'.length→(os'++ [Value.pointer (some ⟨W.heap.size,0,none⟩)])[i]? ≠some (.pointer (some ⟨W.heap.size,0,none⟩)):=fun i hi e=>by
   rw[List.getElem?_append_left hi] at e;have hil:i<st.out.length:=by
    have:=(List.getElem?_eq_some_iff.1 hx).1;omega
   obtain ⟨p',_,_,_,_,_,e1,_,h1',_⟩:=hc.ea i _ _ (List.getElem?_eq_getElem hil) e;cases e1;omega
  have hlast:∀(i:Nat) v,os'.length≤i→(os'++ [Value.pointer (some ⟨W.heap.size,0,none⟩)])[i]? =some v→i=os'.length∧v= .pointer (some ⟨W.heap.size,0,none⟩):=fun i v hge e=>by
   rw[List.getElem?_append_right hge] at e;have h0:i-os'.length=0:=by
    have:=(List.getElem?_eq_some_iff.1 e).1;simp at this;omega
   rw[h0] at e;simp at e;exact ⟨by omega,e.symm⟩
  rcases Nat.lt_or_ge i os'.length with hlt|hge
  ·rcases Nat.lt_or_ge j os'.length with hlt'|hge'
   ·rw[List.getElem?_append_left hlt] at hi;rw[List.getElem?_append_left hlt'] at hj;exact hc.inj i j v hi hj
   ·obtain ⟨_,rfl⟩:=hlast j v hge' hj;exact absurd hi (hold i hlt)
  ·obtain ⟨e1,rfl⟩:=hlast i v hge hi;rcases Nat.lt_or_ge j os'.length with hlt'|hge'
   ·exact absurd hj (hold j hlt')
   ·obtain ⟨e2,_⟩:=hlast j _ hge' hj;omega
theorem MQ.done {k:Nat} {oG kX:Value} {os':List Value} (h:dY w D F g c st vq vs vo os) (hc:MQ w D F c st vs k oG kX os' W) (hk:k=st.out.length):
 ∃D' F',dY W D' F' w.heap.size c st oG vs kX os'∧(∀j,D' j→w.heap.size≤j∧∀cs fr,W.heap[j]? ≠some (.cells cs 5 fr))∧(∀j,F' j→F j∨w.heap.size≤j):=by
 subst hk;have hty:∀j,(w.heap.size≤j∧(j=w.heap.size∨aL oG=some j∨aL kX=some j∨∃i:Nat,os'[i]? =some (Value.pointer (some ⟨j,0,none⟩))))→∃cs t fr,W.heap[j]? =some (.cells cs t fr)∧(t=113∨t=22∨t=118∨t=120):=by
  rintro j ⟨_,rfl|e|e|⟨i,e⟩⟩
  ·exact ⟨_,_,_,hc.blk,.inl rfl⟩
  ·obtain ⟨cur,h1,_⟩:=hc.qr.row e;exact ⟨_,_,_,h1,.inr (.inl rfl)⟩
  ·obtain ⟨cur,h1,_⟩:=hc.nR.row e;exact ⟨_,_,_,h1,.inr (.inr (.inl rfl))⟩
  ·have hil:i<st.out.length:=by
    have:=(List.getElem?_eq_some_iff.1 e).1;have:=hc.nR.1;omega
   obtain ⟨p,Ap,cp,vp,Ar,cr,e1,_,_,h2,_⟩:=hc.ea i _ _ (List.getElem?_eq_getElem hil) e;cases e1;exact ⟨_,_,_,h2,.inr (.inr (.inr rfl))⟩
 refine ⟨fun j=>w.heap.size≤j∧(j=w.heap.size∨aL oG=some j∨aL kX=some j∨∃i:Nat,os'[i]? =some (Value.pointer (some ⟨j,0,none⟩))),fun j=>F j∨(w.heap.size≤j∧j<W.heap.size),⟨hc.blk,⟨Nat.le_refl _,.inl rfl⟩,fun j hj=> .inr ⟨hj.1,?_⟩,?_,hc.qr.mQ (Nat.zero_le _),fun j hj=>⟨(hc.qr.lt hj).1,.inr (.inl hj)⟩,?_,hc.nR.mQ (Nat.zero_le _),fun j hj=>⟨(hc.nR.lt hj).1,.inr (.inr (.inl hj))⟩,?_,hc.inj⟩,?_,?_⟩
 ·obtain ⟨cs,t,fr,e,_⟩:=hty j hj;exact lt_of_heap e
 ·rintro j (hj|hj)
  ·have:=h.lt j hj;have:=hc.eH.size;omega
  ·exact hj.2
 ·intro i p hp;obtain ⟨A,cc,e,hs,hf⟩:=h.qe i p hp;refine ⟨A,cc,e,(hs.below hc.eH).more hc.eH.size,fun ad ea=>⟨.inl (hf ad ea).1,fun hd=> ?_⟩⟩;have:=h.lt _ (hf ad ea).1;have:=hd.1;omega
 ·intro i x hx;have hil:i<os'.length:=by
   have:=(List.getElem?_eq_some_iff.1 hx).1;have:=hc.nR.1;omega
  obtain ⟨p,Ap,cp,vp,Ar,cr,e,h1,h1',h2,h3,h4,h5,h6,h7⟩:=hc.ea i x _ hx (List.getElem?_eq_getElem hil);have hold:∀{A:Option Addr},Aa F D A→∀ad,A=some ad→(F ad.block∨(w.heap.size≤ad.block∧ad.block<W.heap.size))∧¬(w.heap.size≤ad.block∧(ad.block=w.heap.size∨aL oG=some ad.block∨aL kX=some ad.block∨∃i:Nat,os'[i]? =some (Value.pointer (some ⟨ad.block,0,none⟩)))):=fun hf ad ea=>⟨.inl (hf ad ea).1,fun hd=>by
   have:=h.lt _ (hf ad ea).1;have:=hd.1;omega⟩
  refine ⟨p,Ap,cp,vp,Ar,cr,by rw[List.getElem?_eq_getElem hil,e],⟨h2,⟨Nat.le_of_lt h1,.inr (.inr (.inr ⟨i,by rw[List.getElem?_eq_getElem hil,e]⟩))⟩,.inr ⟨Nat.le_of_lt h1,h1'⟩,(h3.below hc.eH).more hc.eH.size,hold h4,fun i v hv=>hold (h5 i v hv),h6,fun ad ea=> ?_⟩⟩;obtain ⟨hl,cs,fr,hcc⟩:=h7 ad ea;refine ⟨.inr ⟨hl,lt_of_heap hcc⟩,fun hd=> ?_⟩;obtain ⟨cs',t,fr',e',ht⟩:=hty _ hd;rw[hcc] at e';cases e'
  revert ht
  decide
 ·intro j hj;refine ⟨hj.1,fun cs fr e=> ?_⟩;obtain ⟨cs',t,fr',e',ht⟩:=hty j hj;rw[e] at e';cases e'
  revert ht
  decide
 ·rintro j (hj|hj)
  ·exact .inl hj
  ·exact .inr hj.1
def abI (w:World) (D F:Nat→Prop) (c:Cf) (st:Sd) (vs:List Value) (oG:Value) (gk:Nat) (s25:Value) (wr:World):Prop:=
 ∃(k:Nat) (kX:Value) (os':List Value),gk=st.out.length-k∧k≤st.out.length∧s25= .int .i64 (k:Nat)∧MQ w D F c st vs k oG kX os' wr
set_option maxRecDepth 100000 in
set_option maxHeartbeats 4000000 in
theorem Mr (h:dY w D F g c st vq vs vo os) (ht:1≤c.timer) (hq:st.queue.length≤1048576) (hn:st.out.length≤1000000) (hp:∀x∈st.out,x.pend.length≤1000000):
 Calls Tryz.prog 28 #[.pointer (some ⟨g,0,none⟩)] w fun e w'=>∃oG kX os',e= .returned (.pointer (some ⟨w.heap.size,0,none⟩))∧MQ w D F c st vs st.out.length oG kX os' w':=by
 obtain ⟨j1,hj1,hq0,hq1,hq2⟩:=FH;obtain ⟨Aq,cq,hvq,Tq⟩:=h.qr.sl;obtain ⟨Ao,co,jM,hso⟩:=h.nR.sl;subst hvq jM;have x7:=h.blk.cell 7;have xc:=h.blk.cell 12;simp[dh] at x7 xc;have hall:(dh c (.slice Aq st.queue.length cq) (.slice Ao st.out.length co) st).all (·.oneCell')=true:=by simp[dh,Value.oneCell']
 obtain ⟨cs,hcs⟩:∃cs,dh c (.slice Aq st.queue.length cq) (.slice Ao st.out.length co) st=cs:=⟨_,rfl⟩
 have hsz:cs.size=21:=by rw[←hcs];rfl
 have hblk:=h.blk;rw[hcs] at hall hblk;have HB:=Lib.hid hblk;have lT:=Lib.hid hall;have Ru:=Lib.hid hcs;have wu:=Lib.hid hsz;clear hblk hall hcs hsz;have hgl:=h.blk.lt;have hone:∀u∈vs,u.oneCell'=true:=fun u hu=>by
  obtain ⟨i,hi,rfl⟩:=List.getElem_of_mem hu;have hl:i<st.queue.length:=by have:=h.qr.1;omega
  obtain ⟨Ai,ci,e,_⟩:=h.qe i _ (List.getElem?_eq_getElem hl);rw[List.getElem?_eq_getElem hi] at e;rw[Option.some.inj e];rfl
 have hck:=gL h ht;obtain ⟨r,hr⟩:∃r:Int,(if st.failed=true then 8 else 0)=r:=⟨_,rfl⟩
 have dr:(r==1)=false:=by rw[←hr];cases st.failed<;>rfl
 rw[hr] at hck;have HCK:=Lib.hid hck;have HH:=Lib.hid h;have HP:=Lib.hid hp;have HSQ:=Lib.hid Tq;have XN:=Lib.hid hso;have Mq:=Lib.hid hone;clear h hp Tq hso hone hck hr;go_enter Tryz.func28,Tryz.ntmps28;go_upto_region 4 with (first
  |(go_at_call 52;refine HCK.out.mono ?_;rintro e1 w1 ⟨rfl,rfl⟩)
  |(refine wpList_load_row rfl 113 (.tmp 11) rfl g rfl 113 cs (0,0) _ HB.out Tryz.underlying113 rfl (by rw[wu.out];kernel_rfl) ?_)
  |(refine wpList_store_row rfl 113 (.tmp 3) (.tmp 12) rfl w.heap.size cs rfl rfl 113 _ (heap_alloc_new w _) (by rw[wu.out];kernel_rfl) (by rw[wu.out];rfl) lT.out ?_))
 obtain ⟨W3,hW3⟩:∃W3:World,W3=(w.alloc (.cells #[.int .i64 0,.int .i64 0,.int .i64 0,.int .i64 0,.int .i64 0,.int .i64 0,.int .i64 0,.slice none 0 0,.int .i64 0,.int .i64 0,.int .i64 0,.int .i64 0,.slice none 0 0,.int .i64 0,.int .i64 0,.int .i64 0,.bool false,.int .i64 0,.bool false,.bool false,.int .i64 0] 113)).setRow w.heap.size cs:=⟨_,rfl⟩
 rw[←hW3];have hB3:Below w.heap.size w W3:=by rw[hW3];exact below_setRow ((Below.refl _ w).alloc (Nat.le_refl _) _) (Nat.le_refl _) cs
 have hG3:aA W3 w.heap.size 113 cs:=by rw[hW3];exact setRow_heap _ _ _ _ _ _ (heap_alloc_new w _)
 have hs3:w.heap.size<W3.heap.size:=hG3.lt;have y7:=(hB3.cell (p:=⟨g,7,none⟩) hgl).trans x7;have hcl:=JR Aq st.queue.length cq vs W3 ((HSQ.out.below hB3).more hB3.size) Mq.out (by omega);have HG3:=Lib.hid hG3;have HB3:=Lib.hid hB3;have pJ:=Lib.hid hcl;have YG:=Lib.hid xc;clear hW3 hB3 hG3 hcl x7 xc;go_wp2_with fail;refine pJ.out.mono ?_;rintro e4 W4 ⟨v1,rfl,hr4,hb4⟩;have hG4:=HG3.out.below hb4 HG3.out.lt;rw[←Ru.out] at hG4;have q7:=hG4.cell 7;have qc:=hG4.cell 12;have f7:=hG4.frozen 7;have fc:=hG4.frozen 12;simp[dh] at q7 qc;have hB4:=HB3.out.trans (hb4.mono HB3.out.size);have zc:=(hB4.cell (p:=⟨g,12,none⟩) hgl).trans YG.out;obtain ⟨A1,c1,rfl,hs1,hs2⟩:=aP hr4;have hne:g≠w.heap.size:=by omega
 have hI:=MQ.start (D:=D) (F:=F) hB4 hG4 hs3 hr4 rfl;have HI:=Lib.hid hI;have uP:=Lib.hid hB4;clear hG4 hI hB4 hs1 hs2 hr4 hb4;go_wp2_with fail;generalize (W4.setCell ⟨w.heap.size,7,none⟩ (.slice A1 st.queue.length c1)).setCell ⟨w.heap.size,12,none⟩ (.slice none 0 0)=W5 at*;clear y7 q7 qc f7 fc zc hs3 pJ HB3 HG3 HSQ Mq HCK YG HB lT Ru wu uP;go_loopg [25] st.out.length (fun gk s25 wr=>abI w D F c st vs (.slice A1 st.queue.length c1) gk s25 wr)
 case atStart=>exact ⟨0,_,[],by omega,Nat.zero_le _,rfl,HI.out⟩
 case round=>
  obtain ⟨k,kX,os',uQ,hkn,rfl,hI⟩:=hrel;clear HI;have KA:=Lib.hid uQ;have HI:=Lib.hid hI;clear uQ hI;by_cases hlt:k<st.out.length
  ·obtain ⟨x,hx⟩:∃x,st.out[k]? =some x:=⟨_,List.getElem?_eq_getElem hlt⟩
   obtain ⟨p,Ap,cp,vp,Ar,cr,hos,o⟩:=HH.out.oe k x hx;obtain ⟨ado,rfl,hba,hca⟩:=XN.out.at_ (by omega);have hcx:=(HI.out.eH.cell (p:=ado.add k) (by rw[block_add];exact hba)).trans (hca k _ hos);have hbo:=HI.out.eH.block p (HH.out.lt p o.f);have hblk:aA wr p 120 (uN x (.slice Ap x.ps.length cp) (.slice Ar x.pend.length cr)):=hbo.trans o.blk;have hpl:=o.rs;have hsp:cZ wr Ar x.pend.length cr x.pend:=o.rs.stay fun ad e=>HI.out.eH.block _ (HH.out.lt _ (o.rf ad e).1)
   have hpe:=HP.out x (List.mem_of_getElem? hx);have hall:(uN x (.slice Ap x.ps.length cp) (.slice Ar x.pend.length cr)).all (·.oneCell')=true:=by simp[uN,Value.oneCell']
   have xa:=hblk.cell 10;simp[uN] at xa;have hpz:p<w.heap.size:=HH.out.lt p o.f;have hwz:=HI.out.eH.size;have agV:=hblk.lt;obtain ⟨cs,hcs⟩:∃cs,uN x (.slice Ap x.ps.length cp) (.slice Ar x.pend.length cr)=cs:=⟨_,rfl⟩
   have hsz:cs.size=12:=by rw[←hcs];rfl
   rw[hcs] at hall hblk;have HB:=Lib.hid hblk;have lT:=Lib.hid hall;have Ru:=Lib.hid hcs;have wu:=Lib.hid hsz;have Hy:=Lib.hid hsp;have HO:=Lib.hid o;have HX:=Lib.hid hx;have Xt:=Lib.hid xa;clear hos hca hbo hblk hpl hsp hall hcs hsz o hx xa;go_upto_region 10 with (first
    |(refine wpList_load_row rfl 120 (.tmp 30) rfl p rfl 120 cs (0,0) _ HB.out Tryz.underlying120 rfl (by rw[wu.out];kernel_rfl) ?_)
    |(refine wpList_store_row rfl 120 (.tmp 6) (.tmp 31) rfl wr.heap.size cs rfl rfl 120 _ (heap_alloc_new wr _) (by rw[wu.out];kernel_rfl) (by rw[wu.out];rfl) lT.out ?_))
   obtain ⟨W1,hW1⟩:∃W1:World,W1=(wr.alloc (.cells #[.int .i64 0,.bool false,.bool false,.bool false,.int .i64 0,.bool false,.bool false,.slice none 0 0,.int .i64 0,.bool false,.slice none 0 0,.int .i64 0] 120)).setRow wr.heap.size cs:=⟨_,rfl⟩
   rw[←hW1];have hB1:Below wr.heap.size wr W1:=by rw[hW1];exact below_setRow ((Below.refl _ wr).alloc (Nat.le_refl _) _) (Nat.le_refl _) cs
   have hb1:aA W1 wr.heap.size 120 cs:=by rw[hW1];exact setRow_heap _ _ _ _ _ _ (heap_alloc_new wr _)
   have hz1:wr.heap.size<W1.heap.size:=hb1.lt;have ya:=(hB1.cell (p:=⟨p,10,none⟩) agV).trans Xt.out;have hcl:=qB Ar x.pend.length cr x.pend W1 (Hy.out.stay fun ad e=>hB1.block _ (by
    have:=HI.out.eH.size;have:=HH.out.lt _ (HO.out.rf ad e).1;omega)) hpe
   have HB1:=Lib.hid hB1;have Hb1:=Lib.hid hb1;have pJ:=Lib.hid hcl;clear hB1 hb1 hcl hW1 hcx;go_wp2_with fail;refine pJ.out.mono ?_;rintro e6 W2 ⟨v2,rfl,hr2,hB2⟩;obtain ⟨A2,c2,rfl,hsp2,_⟩:=cZ.cO hr2;have hb2:=Hb1.out.below hB2 Hb1.out.lt;rw[←Ru.out] at hb2;have qa:=hb2.cell 10;have fa:=hb2.frozen 10;simp[uN] at qa;have hb1':=Hb1.out;rw[←Ru.out] at hb1';have hbW2:=HB1.out.trans (hB2.mono HB1.out.size);have hG2:=HI.out.blk.below hbW2 HI.out.blk.lt;have ho2:=HI.out.nR.below hbW2 (Nat.le_refl _);have qc:=hG2.cell 12;have fc:=hG2.frozen 12;simp[dh] at qc;have agW:w.heap.size≠wr.heap.size:=by have:=HI.out.blk.lt;omega
   have agX:=Lib.hid hB2;have agY:=Lib.hid hr2;have agZ:=Lib.hid hb1';have ru:=Lib.hid hG2;have NK:=Lib.hid ho2;have Hb2:=Lib.hid hb2;have hsz2:(W2.setCell ⟨wr.heap.size,10,none⟩ (.slice A2 x.pend.length c2)).heap.size=W2.heap.size:=by simp[World.setCell]
   have hlit:=heap_alloc_new (W2.setCell ⟨wr.heap.size,10,none⟩ (.slice A2 x.pend.length c2)) (.cells #[.pointer (some ⟨wr.heap.size,0,none⟩)] 118);rw[hsz2] at hlit;have PK:=Lib.hid hlit;have HOA:=Lib.hid ((ho2.store hb2 (i:=10) (by decide) (.slice A2 x.pend.length c2)).alloc (.cells #[.pointer (some ⟨wr.heap.size,0,none⟩)] 118));have Nc:=Lib.hid ((hG2.far (p:=⟨wr.heap.size,10,none⟩) agW (.slice A2 x.pend.length c2)).alloc (.cells #[.pointer (some ⟨wr.heap.size,0,none⟩)] 118));have DD:=hB2.size;have anp:=HI.out.eH.size;clear hB2 hr2 hb2 hb1' hbW2 hG2 ho2 hsp2 hlit;go_wp2_with (at_builtin;refine pN rfl (.tmp 39) (.tmp 40) 111 rfl j1 (.pointer none) 8 NQ hj1 hq0 hq1 hq2 rfl rfl HOA.out ⟨W2.heap.size,0,none⟩ 1 (.pointer (some ⟨wr.heap.size,0,none⟩)) rfl ?c1 rfl ?c2 ?c3 ?c4 ?_)
   case c1=>exact World.news_of_block PK.out 0 _ rfl
   case c2=>unfold maxLen;omega
   case c3=>omega
   case c4=>rw[World.size_alloc,hsz2];omega
   intro Ik W5' hown5 bF _;have uO:=Nc.out.grown bF (fun e=>HOA.out.qw Nc.out (by decide) e.symm);have g5:=uO.cell 12;have f5:=uO.frozen 12;simp[dh] at g5;obtain ⟨A8,c8,rfl,_⟩:=hown5.sl;have HN:=Lib.hid (MQ.next HO.out HI.out HX.out HB1.out hz1 agZ.out agY.out agX.out rfl hown5 bF);clear hown5 bF uO HOA Nc PK;go_wp2
   go_roundg (st.out.length-(k+1))
   case measure=>rw[KA.out];omega
   case rel=>exact ⟨k+1,_,_,rfl,by omega,by go_num,HN.out⟩
  ·have hke:k=st.out.length:=by omega
   subst hke;go_wp2_with fail;go_ret;exact ⟨_,_,_,rfl,HI.out⟩
theorem SS {N:Nat→Prop} {K:Nat} (h:TD w N c g st K W) (hp:∀x∈st.out,x.pend.length≤1000000):Calls Tryz.prog 28 #[.pointer (some ⟨g,0,none⟩)] W fun e w'=>e= .returned (.pointer (some ⟨W.heap.size,0,none⟩))∧Below W.heap.size W w'∧TD W (fun _=>False) c W.heap.size st K w':=by
 obtain ⟨D,F,vq,vs,vo,os,h1,h2,h3⟩:=h.am;have hq:=nS fun s hs=>(h.ok.bnd.Ho s hs).1
 have hh:=Nat.le_trans hq h.ok.bnd.held;have hw:=h.ok.inv.w;refine (Mr h1 h.ok.cf.timer.1 hh (by omega) hp).mono ?_;rintro e w' ⟨oG,kX,os',rfl,hc⟩;obtain ⟨D',F',g1,g2,g3⟩:=MQ.done h1 hc rfl;exact ⟨rfl,hc.eH,⟨D',F',_,_,_,_,g1,g2,fun k hk=>hk.elim⟩,h.ok,hc.eH,fun k hk=>hk.elim⟩
end
end
section
open Go.RowKit
def nJ (e:Bool):Bool→List (List UInt8)→List (Fl × UInt8)
 |_,[]=> []
 |s,p::r=>jo p s (decide (0<r.length)||e)++nJ e true r
theorem zX (s e:Bool) (n:Nat):∀(ps:List (List UInt8)) (i:Nat),i+ps.length=n→dB s e n i ps=nJ e (decide (0<i)||s) ps
 | [],_,_=>rfl
 |p::r,i,h=>by
  rw[dB,nJ,zX s e n r (i+1) (by simp at h;omega)];simp at h;have e1:decide (i+1<n)=decide (0<r.length):=by simp;omega
  simp[e1]
theorem Df (p:List UInt8) (a b:Bool) {x y:Nat} (h:x<y) (hy:y≤p.length):jo ((p.take y).drop x) (decide (x=0)&&a) (decide (y=p.length)&&b)=((jo p a b).take y).drop x:=by
 refine List.ext_getElem? fun j=> ?_
 rw[List.getElem?_drop,List.getElem?_take];unfold jo;rw[List.getElem?_mapIdx,List.getElem?_drop,List.getElem?_take];by_cases hj:x+j<y
 ·rw[if_pos hj,if_pos hj,List.getElem?_mapIdx,List.getElem?_eq_getElem (by omega)];simp only[Option.map_some,List.length_drop,List.length_take,Option.some.injEq,Prod.mk.injEq,true_and,and_true];have e1:(decide (j=0)&&(decide (x=0)&&a))=(decide (x+j=0)&&a):=by
   by_cases h1:j=0<;>by_cases h2:x=0<;>simp[h1,h2]
  have e2:(decide (j+1=min y p.length-x)&&(decide (y=p.length)&&b))=(decide (x+j+1=p.length)&&b):=by
   by_cases h1:x+j+1=p.length
   ·have h2:y=p.length:=by omega
    have h3:j+1=min y p.length-x:=by omega
    rw[decide_eq_true h1,decide_eq_true h2,decide_eq_true h3];simp
   ·by_cases h2:y=p.length
    ·have h3:¬j+1=min y p.length-x:=by omega
     rw[decide_eq_false h1,decide_eq_false h3];simp
    ·rw[decide_eq_false h1,decide_eq_false h2];simp
  exact ⟨e1,e2⟩
 ·rw[if_neg hj,if_neg hj];rfl
theorem Hf:∀(ps:List (List UInt8)),0<ps.length→qC ps true 0=true
 | [],h=>by simp at h
 |p::ps,_=>by simp[qC]
theorem sG (e:Bool):∀(ps:List (List UInt8)) (s:Bool) (x y:Nat),(∀p∈ps,1≤p.length)→x<y→y≤au ps→
 nJ (FB ps e y) (qC ps s x) (kJ ps x y)=((nJ e s ps).take y).drop x
 | [],_,_,_,_,h,hy=>by simp[au] at hy;omega
 |p::ps,s,x,y,hp,h,hy=>by
  rw[iH] at hy;have hpl:=hp p (by simp);have hps:∀q∈ps,1≤q.length:=fun q hq=>hp q (by simp[hq])
  rw[kJ,qC,FB,nJ];by_cases hx:x<min p.length y
  ·rw[if_pos hx,show x-p.length=0 by omega];have hxl:¬p.length≤x:=by omega
   rw[decide_eq_false hxl,Bool.false_and,Bool.or_false];by_cases hyl:y≤p.length
   ·rw[show y-p.length=0 by omega,Cm,K8 ps e hps,Bool.and_false,Bool.or_false,nJ,nJ,List.append_nil];simp only[List.length_nil,Nat.lt_irrefl,decide_false,Bool.false_or];rw[Df p s (decide (0<ps.length)||e) h hyl,List.take_append_of_le_length (by rw[dU];exact hyl)]
   ·have hne:=Kh ps 0 (y-p.length) (by omega) (by omega);have hpn:0<ps.length:=by
     rcases ps with _|⟨q,r⟩
     ·simp[au] at hy;omega
     ·simp
    have ih:=sG e ps true 0 (y-p.length) hps (by omega) (by omega);rw[Hf ps hpn,List.drop_zero] at ih;have hyn:¬y=p.length:=by omega
    rw[decide_eq_false hyn,Bool.false_and,Bool.false_or,decide_eq_true (show p.length≤y by omega),Bool.true_and,nJ,ih,decide_eq_true (show 0<(kJ ps 0 (y-p.length)).length from hne),decide_eq_true hpn,Bool.true_or,Bool.true_or];have hc:=Df p s true (x:=x) (y:=p.length) (by omega) (Nat.le_refl _);rw[decide_eq_true rfl,Bool.true_and,List.take_length,show (jo p s true).take p.length=jo p s true from List.take_of_length_le (by rw[dU];exact Nat.le_refl _)] at hc;rw[List.take_of_length_le (show p.length≤y by omega),hc,List.take_append,dU,List.take_of_length_le (show (jo p s true).length≤y by rw[dU];omega),List.drop_append_of_le_length (show x≤(jo p s true).length by rw[dU];omega)]
  ·rw[if_neg hx];have hxl:p.length≤x:=by omega
   have ih:=sG e ps true (x-p.length) (y-p.length) hps (by omega) (by omega);rw[decide_eq_false (show ¬x=0 by omega),Bool.false_and,Bool.false_or,decide_eq_true hxl,Bool.true_and,decide_eq_false (show ¬y=p.length by omega),Bool.false_and,Bool.false_or,decide_eq_true (show p.length≤y by omega),Bool.true_and,ih];rw[List.take_append,dU,List.take_of_length_le (show (jo p s (decide (0<ps.length)||e)).length≤y by rw[dU];omega),List.drop_append,dU,List.drop_eq_nil_of_le (show (jo p s (decide (0<ps.length)||e)).length≤x by rw[dU];exact hxl),List.nil_append]
def zY (x:Ou) (po:Bool) (fr till:Nat):iN:=⟨x.sn,po,true,decide (till=au x.ps),fr,aM x.ps x.s 0 fr x.ps.length,bI x.ps x.e 0 till x.ps.length,aD x.ps 0 fr till x.ps.length⟩
theorem Ms (x:Ou) (po:Bool) {fr till:Nat} (hp:∀p∈x.ps,1≤p.length) (h:fr<till) (ht:till≤au x.ps):Piece x (zY x po fr till):=by
 have hs:=DN x.ps 0 fr till (Nat.zero_le _) (by omega);refine ⟨rfl,by show 1≤au (aD _ _ _ _ _);omega,by show fr+au (aD _ _ _ _ _)≤_;rw[hs];show _≤au x.ps;omega,?_,fun j z hz=> ?_⟩
 ·show (!true||decide (till=au x.ps))=true↔fr+au (aD _ _ _ _ _)=au x.ps
  rw[hs];simp;omega
 ·have e1:dB (zY x po fr till).s (zY x po fr till).e (zY x po fr till).ps.length 0 (zY x po fr till).ps=((Bu x).take till).drop fr:=by
   rw[zX _ _ _ _ 0 (by simp)];show nJ (bI x.ps x.e 0 till x.ps.length) (decide (0<0)||aM x.ps x.s 0 fr x.ps.length) (aD x.ps 0 fr till x.ps.length)=_
   rw[kz,nU,tZ];simp only[Nat.sub_zero,Nat.zero_le,decide_true,Bool.true_and,Nat.lt_irrefl,decide_false,Bool.false_or];rw[sG x.e x.ps x.s fr till hp h ht,Bu,zX _ _ _ _ 0 (by simp)];simp
  rw[e1,List.getElem?_drop,List.getElem?_take] at hz;split at hz
  ·exact hz
  ·cases hz
end
section
open Go.RowKit Go.Shelf
section
variable {w1 W W':World} {T T':Nat→Nat} {g M n n':Nat} {c:Cf} {st st':Rc} {vo kX vg v v':Value} {sizes:List UInt8} {aj:List (List UInt8)} {N:Nat} {got outs:List (List UInt8)}
structure Ux (w1:World) (g M:Nat) (c:Cf) (sizes:List UInt8) (aj:List (List UInt8)) (N:Nat) (T:Nat→Nat) (n:Nat) (st:Rc) (vo:Value) (W:World):Prop where
 rc:gH W T g M n c st vo
 tb:∀j,T j≠0→w1.heap.size≤j
 ok:dL st
 sz:rF st
 rx:uo aj N (aH sizes aj) (fun i=>(bO sizes aj i).1) (fun i=>(bO sizes aj i).2) st
 eH:Below w1.heap.size w1 W
theorem Ux.more (h:Ux w1 g M c sizes aj N T n st vo W) (hb:Below W.heap.size W W'):Ux w1 g M c sizes aj N T n st vo W':=
 ⟨h.rc.below hb,h.tb,h.ok,h.sz,h.rx,h.eH.trans (hb.mono h.eH.size)⟩
theorem EB.toR (h:EB w1 g M c sizes aj N T n st vo vg got outs W):Ux w1 g M c sizes aj N T n st vo W:=⟨h.rc,h.tb,h.ok,h.sz,h.rx,h.eH⟩
theorem Ux.recv (hS:gM sizes aj N) (h:Ux w1 g M c sizes aj N T n st vo W) (hcf:L5 c) (hn:n<maxLen) (now:Int) (iR:now≤9223372036854775807) {i:Nat} (hi:i<N) {a:iN} (ha:Piece (aH sizes aj i) a) {bs:List UInt8} (hd:oZ bs= .inr a)
 (A:Option Addr) (l cp:Nat) (hA:∀W2,Kept (MT T) W W2→Sl W2 W2.heap.size A l cp (cu bs)) (hsm:l≤1000000):
 Calls Tryz.prog 8 #[.pointer (some ⟨g,0,none⟩),.int .i64 now,.slice A l cp] W fun e W'=>∃T' kX v n',e= .returned (.tuple #[v,.int .i64 0])∧Ux w1 g M c sizes aj N T' n' (bX c st now bs).1 kX W'∧
  dG W' W.heap.size T' v (bX c st now bs).2.1∧n'≤n+1∧jN aj (fun i=>(bO sizes aj i).1) (bX c st now bs).1.next=jN aj (fun i=>(bO sizes aj i).1) st.next++(bX c st now bs).2.1∧Below w1.heap.size W W':=by
 have T0:=gU hS.hs hS.le hS.ne;obtain ⟨r1,r2,r3,_,_⟩:=GX T0 h.rx c now hi ha hd;refine (pG h.rc h.ok hcf hn now iR A l cp bs hA hsm).mono ?_;rintro e W' ⟨T',kX,v,n',rfl,hR,hn',hT,hK,hO⟩;rw[r2];refine ⟨T',kX,v,n',rfl,⟨hR,fun j hj=> ?_,h.ok.recv c iR bs,h.sz.recv c now bs,r1,?_⟩,hO,hn',r3,MT.below hK h.tb h.eH.size⟩
 ·rcases Nat.lt_or_ge j W.heap.size with hl|hl
  ·rw[hT j hl] at hj;exact h.tb j hj
  ·have:=h.eH.size;omega
 ·exact h.eH.trans (MT.below hK h.tb h.eH.size)
end
end
section
open Go.RowKit Go.Shelf
section
variable {w1 w W W':World} {T:Nat→Nat} {g M n N j:Nat} {c:Cf} {st:Rc} {vo v:Value} {sizes:List UInt8} {aj:List (List UInt8)}
def wL (sizes:List UInt8) (aj:List (List UInt8)) (T:Nat→Nat) (j:Nat) (v:Value) (W:World):Prop:=
 ∃A l cp bs a,v= .slice A l cp∧oZ bs= .inr a∧Piece (aH sizes aj j) a∧l≤1000000∧l≤cp∧cp≤9223372036854775807∧∀W2,Kept (MT T) W W2→Sl W2 W2.heap.size A l cp (cu bs)
theorem wL.row {B:Nat} {bs:List UInt8} {a:iN} (hr:W.ownsRow B 5 1 v bs.length (cu bs)) (hd:oZ bs= .inr a) (hp:Piece (aH sizes aj j) a) (hl:bs.length≤1000000) (hz:∀k,B≤k→T k=0):wL sizes aj T j v W:=by
 obtain ⟨A,cp,rfl,hs,_⟩:=aP hr;refine ⟨A,_,cp,bs,a,rfl,hd,hp,hl,hs.cap,hs.mx,fun W2 hk=> ?_⟩;exact dZ (kH hr hk fun k o _ hk2 hm=>hm (hz k (hr.lt k hk2).1))
theorem wL.old (hS:gM sizes aj N) (hj:j<N) {A:Option Addr} {cp:Nat} (hs:Sl w1 w1.heap.size A (kN sizes aj j).length cp (cu (kN sizes aj j))) (hb:Below w1.heap.size w1 W) (tb:∀k,T k≠0→w1.heap.size≤k):wL sizes aj T j (.slice A (kN sizes aj j).length cp) W:=by
 have hdc:=kP hS.hs hS.le hS.ne j hj;have hel:=qO hS hj;have T0:=gU hS.hs hS.le hS.ne;have hpi:=si (sizes:=sizes) (aj:=aj) j (T0.size_pos hj);exact ⟨A,_,cp,_,_,rfl,hdc.2,hpi,by omega,hs.cap,hs.mx,fun W2 hk=>JP hs hb tb hk⟩
theorem Mt (hS:gM sizes aj N) (hj:j<N) {A:Option Addr} {cp:Nat} (hs:Sl w1 w1.heap.size A (kN sizes aj j).length cp (cu (kN sizes aj j))) (hb:Below w1.heap.size w1 W):
 Calls Tryz.prog 24 #[.slice A (kN sizes aj j).length cp] W fun e w'=>∃A' c' vs,e= .returned (.tuple #[.agg #[.int .i64 (j:Nat),.bool (zx sizes aj j),.bool false,.bool false,.int .i64 0,.bool (aH sizes aj j).s,.bool (aH sizes aj j).e,.slice A' (aH sizes aj j).ps.length c'],.int .i64 0])∧
  gD w' w'.heap.size A' (aH sizes aj j).ps.length c' vs (aH sizes aj j).ps∧Below W.heap.size W w':=by
 have hel:=qO hS hj;have hd:=(kP hS.hs hS.le hS.ne j hj).2;refine (wE A _ cp _ W ((hs.below hb).more hb.size) (by omega)).mono ?_;rw[hd];rintro e w' ⟨hb',⟨er,h,_⟩|⟨p,A',c',h,rfl,hp⟩⟩
 ·cases h
 ·cases h;obtain ⟨A2,c2,vs,e2,hs2⟩:=hp.Nh;cases e2;exact ⟨A',c',vs,rfl,hs2,hb'⟩
theorem SV (hS:gM sizes aj N) (hj:j<N) {fr till:Nat} (h:fr<till) (ht:till≤au (aH sizes aj j).ps):
 eP (j:Nat) true (decide (till=au (aH sizes aj j).ps)) (fr:Nat) (aD (aH sizes aj j).ps 0 fr till (aH sizes aj j).ps.length)=true∧fr≤32767∧
  Piece (aH sizes aj j) (zY (aH sizes aj j) false fr till)∧
  oZ (nC j false true (decide (till=au (aH sizes aj j).ps)) fr (aM (aH sizes aj j).ps (aH sizes aj j).s 0 fr (aH sizes aj j).ps.length) (bI (aH sizes aj j).ps (aH sizes aj j).e 0 till (aH sizes aj j).ps.length) (aD (aH sizes aj j).ps 0 fr till (aH sizes aj j).ps.length))= .inr (zY (aH sizes aj j) false fr till)∧
  (nC j false true (decide (till=au (aH sizes aj j).ps)) fr (aM (aH sizes aj j).ps (aH sizes aj j).s 0 fr (aH sizes aj j).ps.length) (bI (aH sizes aj j).ps (aH sizes aj j).e 0 till (aH sizes aj j).ps.length) (aD (aH sizes aj j).ps 0 fr till (aH sizes aj j).ps.length)).length≤1000000:=by
 have hv:=(kP hS.hs hS.le hS.ne j hj).1;have hva:=(iF _ _ _ _ _).1 hv;have hvp:=(fK (aH sizes aj j).ps).1 hva.vp;have hs:=hvp.sum;have so:=DN (aH sizes aj j).ps 0 fr till (Nat.zero_le _) (by omega);have vo:=vz (aH sizes aj j).ps 0 fr till hvp (Nat.zero_le _) h (by omega);have v2:eP (j:Nat) true (decide (till=au (aH sizes aj j).ps)) (fr:Nat) (aD (aH sizes aj j).ps 0 fr till (aH sizes aj j).ps.length)=true:=
  (iF _ _ _ _ _).2 ⟨hva.sn0,hva.sn1,(fK _).2 vo,fun _=>by rw[so];omega,fun h=>by cases h⟩
 refine ⟨v2,by omega,Ms _ false (fun p hp=>hvp.pos p hp) h ht,Gn _ _ _ _ _ _ _ _ v2,?_⟩;have h1:=vo.hi;rw[qJ];unfold aV;rw[so];simp only[if_true];omega
theorem Mv (hS:gM sizes aj N) (hj:j<N) {fr till:Nat} (h:fr<till) (ht:till≤au (aH sizes aj j).ps) {A:Option Addr} {c:Nat} {vs:List Value} (hs:gD W W.heap.size A (aH sizes aj j).ps.length c vs (aH sizes aj j).ps):
 Calls Tryz.prog 25 #[.agg #[.int .i64 (j:Nat),.bool (zx sizes aj j),.bool false,.bool false,.int .i64 0,.bool (aH sizes aj j).s,.bool (aH sizes aj j).e,.slice A (aH sizes aj j).ps.length c],.int .i64 (fr:Nat),.int .i64 (till:Nat)] W fun e w'=>∃A' c',
  e= .returned (.tuple #[.agg #[.int .i64 (j:Nat),.bool false,.bool true,.bool (decide (till=au (aH sizes aj j).ps)),.int .i64 (fr:Nat),.bool (aM (aH sizes aj j).ps (aH sizes aj j).s 0 fr (aH sizes aj j).ps.length),
   .bool (bI (aH sizes aj j).ps (aH sizes aj j).e 0 till (aH sizes aj j).ps.length),.slice A' (aD (aH sizes aj j).ps 0 fr till (aH sizes aj j).ps.length).length c'],.int .i64 0])∧
  aN w' W.heap.size (.slice A' (aD (aH sizes aj j).ps 0 fr till (aH sizes aj j).ps.length).length c') (aD (aH sizes aj j).ps 0 fr till (aH sizes aj j).ps.length)∧Below W.heap.size W w':=by
 have hv:=(kP hS.hs hS.le hS.ne j hj).1;refine (Ka (j:Nat) (zx sizes aj j) false false 0 _ _ A _ c vs _ fr till W hs hv (by omega) (Nat.zero_le _) h (by omega)).mono ?_;rintro e w' ⟨hb,A',c',rfl,hp⟩;refine ⟨A',c',?_,hp,hb⟩;rw[Nat.zero_add,Bool.false_or,Bool.not_false,Bool.and_true];rfl
theorem BF (hS:gM sizes aj N) (hj:j<N) {fr till:Nat} (ht:au (aH sizes aj j).ps<till) {A:Option Addr} {c:Nat} {vs:List Value} (hs:gD W W.heap.size A (aH sizes aj j).ps.length c vs (aH sizes aj j).ps):
 Calls Tryz.prog 25 #[.agg #[.int .i64 (j:Nat),.bool (zx sizes aj j),.bool false,.bool false,.int .i64 0,.bool (aH sizes aj j).s,.bool (aH sizes aj j).e,.slice A (aH sizes aj j).ps.length c],.int .i64 (fr:Nat),.int .i64 (till:Nat)] W fun e w'=>
  e= .returned (.tuple #[.agg #[.int .i64 0,.bool false,.bool false,.bool false,.int .i64 0,.bool false,.bool false,.slice none 0 0],.int .i64 6])∧Below W.heap.size W w':=
 IR (j:Nat) (zx sizes aj j) false false 0 _ _ A _ c vs _ fr till W hs (kP hS.hs hS.le hS.ne j hj).1 (by omega) (.inr (.inr (by omega)))
theorem Mx (hS:gM sizes aj N) (hj:j<N) {fr till:Nat} (h:fr<till) (ht:till≤au (aH sizes aj j).ps) {A:Option Addr} {c:Nat} {vs:List Value}
 (hs:gD W W.heap.size A (aD (aH sizes aj j).ps 0 fr till (aH sizes aj j).ps.length).length c vs (aD (aH sizes aj j).ps 0 fr till (aH sizes aj j).ps.length)) (hz:∀k,W.heap.size≤k→T k=0):
 Calls Tryz.prog 26 #[.agg #[.int .i64 (j:Nat),.bool false,.bool true,.bool (decide (till=au (aH sizes aj j).ps)),.int .i64 (fr:Nat),.bool (aM (aH sizes aj j).ps (aH sizes aj j).s 0 fr (aH sizes aj j).ps.length),
  .bool (bI (aH sizes aj j).ps (aH sizes aj j).e 0 till (aH sizes aj j).ps.length),.slice A (aD (aH sizes aj j).ps 0 fr till (aH sizes aj j).ps.length).length c]] W fun e w'=>∃v,e= .returned (.tuple #[v,.int .i64 0])∧wL sizes aj T j v w'∧Below W.heap.size W w':=by
 obtain ⟨h1,h2,h3,h4,h5⟩:=SV hS hj h ht;refine (rO j false true (decide (till=au (aH sizes aj j).ps)) fr _ _ A _ c vs _ W hs h1 h2).mono ?_;rintro e w' ⟨v,rfl,hr,hb⟩;exact ⟨v,rfl,wL.row hr h4 h3 h5 hz,hb⟩
theorem aN.Ba {base gc:Nat} {t:TypeId} {vo:Value} {ps:List (List UInt8)} {x0 x1 x2 x3 x4 x5 x6 x7:Value} (h:aN W base vo ps) (b:aA W gc t #[x0,x1,x2,x3,x4,x5,x6,x7]) (h1:22≠t) (h2:5≠t) (u0 u1 u2 u3 u4 u5 u6 u7:Value):
 aN ((((((((W.setCell ⟨gc,0,none⟩ u0).setCell ⟨gc,1,none⟩ u1).setCell ⟨gc,2,none⟩ u2).setCell ⟨gc,3,none⟩ u3).setCell ⟨gc,4,none⟩ u4).setCell ⟨gc,5,none⟩ u5).setCell ⟨gc,6,none⟩ u6).setCell ⟨gc,7,none⟩ u7) base vo ps:=by
 have b1:=b.aC 0 u0;have b2:=b1.aC 1 u1;have b3:=b2.aC 2 u2;have b4:=b3.aC 3 u3;have b5:=b4.aC 4 u4;have b6:=b5.aC 5 u5;have b7:=b6.aC 6 u6;exact (((((((h.store b h1 h2 u0).store b1 h1 h2 u1).store b2 h1 h2 u2).store b3 h1 h2 u3).store b4 h1 h2 u4).store b5 h1 h2 u5).store b6 h1 h2 u6).store b7 h1 h2 u7
def JS (rs:List (List UInt8)) (hd:Value→Array Value) (wr:World) (v:Value) (W:World):Prop:=
 ∃gc A c,v= .pointer (some ⟨gc,0,none⟩)∧aA W gc 72 (hd (.slice A rs.length c))∧aN W 0 (.slice A rs.length c) rs∧Below wr.heap.size wr W
theorem JS.new {rs:List (List UInt8)} {wr w4 w5:World} {A:Option Addr} {c:Nat} (h4:Below wr.heap.size wr w4) (h5:Below w4.drew.heap.size w4.drew w5) (hP:aN w5 w4.drew.heap.size (.slice A rs.length c) rs) (hd:Value→Array Value):
 JS rs hd wr (.pointer (some ⟨w5.heap.size,0,none⟩)) (w5.alloc (.cells (hd (.slice A rs.length c)) 72)):=
 ⟨w5.heap.size,A,c,rfl,aA.new w5 _ _,(hP.mQ (Nat.zero_le _)).vB ((Below.refl _ w5).alloc (Nat.le_refl _) _),(h4.drew.trans (h5.mono h4.size)).alloc (Nat.le_trans h4.size h5.size) _⟩
theorem JS.put {rs:List (List UInt8)} {wr w4 wz w5:World} {A:Option Addr} {c base:Nat} {x0 x1 x2 x3 x4 x5 x6 x7:Value} (h4:Below wr.heap.size wr w4) (hz:Below wr.heap.size wr wz) (h5:Below wz.heap.size wz w5) (hP:aN w5 base (.slice A rs.length c) rs) (b:aA w5 w4.heap.size 72 #[x0,x1,x2,x3,x4,x5,x6,x7]) (u0 u1 u2 u3 u4 u5 u6:Value):
 JS rs (fun v=> #[u0,u1,u2,u3,u4,u5,u6,v]) wr (.pointer (some ⟨w4.heap.size,0,none⟩)) ((((((((w5.setCell ⟨w4.heap.size,0,none⟩ u0).setCell ⟨w4.heap.size,1,none⟩ u1).setCell ⟨w4.heap.size,2,none⟩ u2).setCell ⟨w4.heap.size,3,none⟩ u3).setCell ⟨w4.heap.size,4,none⟩ u4).setCell ⟨w4.heap.size,5,none⟩ u5).setCell ⟨w4.heap.size,6,none⟩ u6).setCell ⟨w4.heap.size,7,none⟩ (.slice A rs.length c)):=
 ⟨w4.heap.size,A,c,rfl,b.Ba _ _ _ _ _ _ _ _,(hP.mQ (Nat.zero_le _)).Ba b (by decide) (by decide) _ _ _ _ _ _ _ _,iG (hz.trans (h5.mono hz.size)) h4.size _ _ _ _ _ _ _ _⟩
theorem JU {K:Nat} {st:Sd} {N:Nat→Prop} (h:TD w N c g st K W) (hK:K≤90000) (hf:st.failed=false) (now aI:Int) (hn:now≤9223372036854775807) (A:Option Addr) (n cc:Nat) (dz:List Nk) (hN:bP W A n cc dz) (hA:∀ad,A=some ad→0<n→ad.block<w.heap.size) (hv:bU aI dz=true):
 Calls Tryz.prog 20 #[.pointer (some ⟨g,0,none⟩),.int .i64 now,.agg #[.int .i64 aI,.slice A n cc]] W fun e w'=>e= .returned (.int .i64 (eD c st now aI dz).2)∧ZN w N c g (eD c st now aI dz).1 (K+3) W w':=by
 obtain ⟨D,F,vq,vs,vo,os,h1,h2,h3⟩:=id h.am;refine (wF h1 h.ok.cf h.ok.bnd hK h.ok.inv hf now aI hn A n cc dz hN (fun ad e hn hd=>by have:=hA ad e hn;have:=(h2 _ hd).1;omega) hv).mono ?_;rintro e w' ⟨rfl,hO⟩;exact ⟨rfl,xK h h2 h3 h1.sub hO (h.ok.status now aI dz hn)⟩
theorem SX {aj D outs:List (List UInt8)} {k:Nat} (h:aj.take k=D++outs):D.length+outs.length≤aj.length∧(aj.drop D.length).take outs.length=outs:=by
 obtain ⟨r,rfl⟩:∃r,aj=D++outs++r:=⟨aj.drop k,by rw[←h,List.take_append_drop]⟩
 constructor
 ·simp only[List.length_append];omega
 ·rw[List.append_assoc,List.drop_left,List.take_left]
theorem gD.part {ad:Addr} {n c a l:Nat} {vs:List Value} {ps:List (List UInt8)} {B:Nat} (h:gD w B (some ad) n c vs ps) (hl:a+l≤n):
 gD w B (if c=a then some ad else some (ad.add a)) l (c-a) ((vs.drop a).take l) ((ps.drop a).take l):=by
 have hcap:=h.sl.cap;have hmx:=h.sl.mx;have hvl:=h.sl.len;have hpl:=h.len;refine ⟨⟨by rw[List.length_take,List.length_drop];omega,by omega,by omega,fun h0=> ?_⟩,by rw[List.length_take,List.length_drop];omega,fun i q hq=> ?_⟩
 ·obtain ⟨wM,e,hb,hc⟩:=h.sl.at_ (by omega);cases e;rw[if_neg (by omega)];refine ⟨_,rfl,by rw[block_add];exact hb,fun i u hu=> ?_⟩;rw[List.getElem?_take] at hu;split at hu
  ·rw[List.getElem?_drop] at hu;rw[add_add];exact hc _ u hu
  ·cases hu
 ·rw[List.getElem?_take] at hq;split at hq
  ·rename_i hil;rw[List.getElem?_drop] at hq;obtain ⟨Ai,ci,e,hs⟩:=h.each _ _ hq;exact ⟨Ai,ci,by rw[List.getElem?_take,if_pos hil,List.getElem?_drop];exact e,hs⟩
  ·cases hq
end
end
end Go.Proofs.YtiecgfahidpldaaGreat
