/- law37: a link of two entities in memory. -/
import Derived.Test.YtbhiklnljiehiaaGreatM3bp
namespace Go.Proofs.YtbhiklnljiehiaaGreat
open RowKit Shelf Tryz
def WC (W:World) (base:Nat) (B:Nat->Prop) (v:Value) (l:List (List UInt8)) (vs:List Value):Prop:=
 W.ownsRow base 31 1 v l.length vs/\∀(i:Nat) (q:List UInt8),l[i]? =some q->∃vi,vs[i]? =some vi/\W.ownsRow base 5 1 vi q.length (dz q)/\∀k,vi.ownBlock=some k->¬B k
def Tp (w0 W:World) (v:Value) (l:List (List UInt8)) (vs:List Value):Prop:=
 W.ownsRow w0 31 1 v l.length vs/\∀(i:Nat) (q:List UInt8),l[i]? =some q->∃(A:Option Addr) (c:Nat),vs[i]? =some (Value.slice A q.length c)/\Sl W w0 A q.length c (dz q)
def Apart (v w:Value):Prop:=∀k,v.ownBlock=some k->w.ownBlock≠some k
theorem Apart.symm {v w:Value} (h:Apart v w):Apart w v:=fun k hk hv=>h k hv hk
section
variable {w0 W W':World} {base:Nat} {B B':Nat->Prop} {v:Value} {l:List (List UInt8)} {vs:List Value}
theorem WC.nil (W:World) (base:Nat) (B:Nat->Prop):WC W base B (.slice none 0 0) [] []:=⟨jl _ _ _ _,fun i q h=>(by simp at h)⟩
theorem Tp.nil (w0 W:World):Tp w0 W (.slice none 0 0) [] []:=⟨jl _ _ _ _,fun i q h=>(by simp at h)⟩
theorem WC.stay (h:WC W base B v l vs) (hr:∀k,v.ownBlock=some k->W'.heap[k]? =W.heap[k]?) (hu:∀(k:Nat) (cs:Array Value) (fr:Nat × Nat),¬B k->W.heap[k]? =some (Obj.cells cs 5 fr)->W'.heap[k]? =W.heap[k]?) (hB:∀k,k<W.heap.size->B' k->B k):WC W' base B' v l vs:=
 ⟨dw h.1 hr,fun i q hi=>by
  obtain ⟨vi,e,ho,hb⟩:=h.2 i q hi;exact ⟨vi,e,dw ho fun k hk=>by obtain ⟨cs,fr,hc⟩:=pU ho hk;exact hu k cs fr (hb k hk) hc,fun k hk hk2=>hb k hk (hB k (ho.lt k hk).2 hk2)⟩⟩
theorem Tp.stay (h:Tp w0 W v l vs) (hr:∀k,v.ownBlock=some k->W'.heap[k]? =W.heap[k]?) (hb:Below w0 W W'):Tp w0 W' v l vs:=
 ⟨dw h.1 hr,fun i q hi=>by
  obtain ⟨A,c,e,hs⟩:=h.2 i q hi;exact ⟨A,c,e,hs.below hb⟩⟩
end
def zy (sw:Bool) (ga gb:Nat) (v0 v1 u0 u1:Value) (o0 o1:Nat) (now:Int):Array Value:=
 if sw=true then #[.pointer (some gb),.pointer (some ga),v1,v0,u1,u0,o1,o0,now]
 else #[.pointer (some ga),.pointer (some gb),v0,v1,u0,u1,o0,o1,now]
structure Bz (w0:World) (g ga gb:Nat) (c:Cf) (a b:En) (na nb:Nat) (Fa Fb:Fp) (v0 v1 u0 u1:Value) (W:World):Prop where
 oz:Below w0 w0 W
 gl:∃cs,av W g 41 cs
 gn:w0<=g
 ea:qI W Fa ga c a.s a.r na
 eb:qI W Fb gb c b.s b.r nb
 fa:∀k,Fa k->w0.heap.size<=k/\k≠g/\¬Fb k
 fb:∀k,Fb k->w0.heap.size<=k/\k≠g
 s0:∃vs,WC W w0 (fun k=>Fa.b k\/Fb.b k) v0 a.sent vs
 s1:∃vs,WC W w0 (fun k=>Fa.b k\/Fb.b k) v1 b.sent vs
 i0:∃vs,Tp w0 W u0 a.iA vs
 i1:∃vs,Tp w0 W u1 b.iA vs
 rb:∀v,v=v0\/v=v1\/v=u0\/v=u1->∀k,v.ownBlock=some k->¬Fa k/\¬Fb k
 WE:Apart v0 v1
 TR:Apart v0 u0
 WG:Apart v0 u1
 a12:Apart v1 u0
 Xv:Apart v1 u1
 a23:Apart u0 u1
section
variable {w0 W W':World} {sw:Bool} {g ga gb na nb na':Nat} {c:Cf} {a b:En} {s:Sd} {r:Rc} {Fa Fb nQ:Fp} {v0 v1 u0 u1:Value} {now:Int}
theorem Bz.swap (h:Bz w0 g ga gb c a b na nb Fa Fb v0 v1 u0 u1 W):Bz w0 g gb ga c b a nb na Fb Fa v1 v0 u1 u0 W where
 oz:=h.oz
 gl:=h.gl
 gn:=h.gn
 ea:=h.eb
 eb:=h.ea
 fa:=fun k hk=>⟨(h.fb k hk).1,(h.fb k hk).2,fun e=>(h.fa k e).2.2 hk⟩
 fb:=fun k hk=>⟨(h.fa k hk).1,(h.fa k hk).2.1⟩
 s0:=by
  obtain ⟨vs,e⟩:=h.s1;exact ⟨vs,e.1,fun i q hi=>by obtain ⟨vi,e1,e2,e3⟩:=e.2 i q hi;exact ⟨vi,e1,e2,fun k hk e=>e3 k hk e.symm⟩⟩
 s1:=by
  obtain ⟨vs,e⟩:=h.s0;exact ⟨vs,e.1,fun i q hi=>by obtain ⟨vi,e1,e2,e3⟩:=e.2 i q hi;exact ⟨vi,e1,e2,fun k hk e=>e3 k hk e.symm⟩⟩
 i0:=h.i1
 i1:=h.i0
 rb:=fun v hv k hk=>(h.rb v (by rcases hv with e|e|e|e<;>simp[e]) k hk).symm
 WE:=h.WE.symm
 TR:=h.Xv
 WG:=h.a12
 a12:=h.WG
 Xv:=h.TR
 a23:=h.a23.symm
theorem Bz.size (h:Bz w0 g ga gb c a b na nb Fa Fb v0 v1 u0 u1 W):g<W:=by obtain ⟨cs,e⟩:=h.gl;exact e.lt
theorem Bz.Tq (h:Bz w0 g ga gb c a b na nb Fa Fb v0 v1 u0 u1 W) (o0 o1:Nat):Bz w0 g ga gb c {a with out:=o0} {b with out:=o1} na nb Fa Fb v0 v1 u0 u1 W:=
 ⟨h.oz,h.gl,h.gn,h.ea,h.eb,h.fa,h.fb,h.s0,h.s1,h.i0,h.i1,h.rb,h.WE,h.TR,h.WG,h.a12,h.Xv,h.a23⟩
theorem Bz.below (h:Bz w0 g ga gb c a b na nb Fa Fb v0 v1 u0 u1 W) (hb:Below W W W'):Bz w0 g ga gb c a b na nb Fa Fb v0 v1 u0 u1 W':=
 {h with
  oz:=h.oz.trans (hb.mono h.oz.size)
  gl:=by obtain ⟨cs,e⟩:=h.gl;exact ⟨cs,e.below hb e.lt⟩
  ea:=h.ea.below hb
  eb:=h.eb.below hb
  s0:=by
   obtain ⟨vs,e⟩:=h.s0;exact ⟨vs,e.stay (fun k hk=>hb.block k (e.1.lt k hk).2) (fun k cs fr _ hc=>hb.block k (lt_of_heap hc)) (fun k _ hk=>hk)⟩
  s1:=by
   obtain ⟨vs,e⟩:=h.s1;exact ⟨vs,e.stay (fun k hk=>hb.block k (e.1.lt k hk).2) (fun k cs fr _ hc=>hb.block k (lt_of_heap hc)) (fun k _ hk=>hk)⟩
  i0:=by
   obtain ⟨vs,e⟩:=h.i0;exact ⟨vs,e.stay (fun k hk=>hb.block k (e.1.lt k hk).2) (hb.mono h.oz.size)⟩
  i1:=by
   obtain ⟨vs,e⟩:=h.i1;exact ⟨vs,e.stay (fun k hk=>hb.block k (e.1.lt k hk).2) (hb.mono h.oz.size)⟩}
theorem Bz.rows (h:Bz w0 g ga gb c a b na nb Fa Fb v0 v1 u0 u1 W):∀v,v=v0\/v=v1\/v=u0\/v=u1->∃n vs,W.ownsRow w0 31 1 v n vs:=fun v hv=>by
 obtain ⟨x0,e0⟩:=h.s0;obtain ⟨x1,e1⟩:=h.s1;obtain ⟨x2,e2⟩:=h.i0;obtain ⟨x3,e3⟩:=h.i1;rcases hv with rfl|rfl|rfl|rfl
 ·exact ⟨_,_,e0.1⟩
 ·exact ⟨_,_,e1.1⟩
 ·exact ⟨_,_,e2.1⟩
 ·exact ⟨_,_,e3.1⟩
theorem Bz.call (h:Bz w0 g ga gb c a b na nb Fa Fb v0 v1 u0 u1 W) (hR:Ww W Fa nQ ga c s r na' W'):Bz w0 g ga gb c {a with s:=s,r:=r} b na' nb nQ Fb v0 v1 u0 u1 W'/\W'.heap[g]? =W.heap[g]? :=by
 have hz:=h.oz.size;have hbW:Below w0 W W':=hR.kp.below (fun k _ e=>(h.fa k e.1).1) hz;have hst:∀k,k<W.heap.size->¬Fa k->W'.heap[k]? =W.heap[k]? :=fun k hl hn=>kg hR.kp hl fun o e=>hn e.1
 have hu8:∀(k:Nat) (cs:Array Value) (fr:Nat × Nat),¬Fa.b k->W.heap[k]? =some (Obj.cells cs 5 fr)->W'.heap[k]? =W.heap[k]? :=fun k cs fr hn hc=>(hR.kp.same _ _ hc fun e=>hn (e.2 ⟨cs,fr,rfl⟩)).trans hc.symm
 have hnew:∀k,k<W.heap.size->nQ k->Fa k:=fun k hl hk=>by
  rcases hR.gr k hk with e|e
  ·exact e
  ·omega
 have aaZ:∀k,k<W.heap.size->nQ.b k->Fa.b k:=fun k hl hk=>by
  rcases hR.gb k hk with e|e
  ·exact e
  ·omega
 have hg:¬Fa g:=fun e=>(h.fa g e).2.1 rfl
 have hgs:=hst g h.size hg;refine ⟨?_,hgs⟩;exact
 {oz:=h.oz.trans hbW
  gl:=by obtain ⟨cs,e⟩:=h.gl;exact ⟨cs,hgs.trans e⟩
  gn:=h.gn
  ea:=hR.en
  eb:=h.eb.stay fun k hk=>hst k (h.eb.lt k hk) fun e=>(h.fa k e).2.2 hk
  fa:=fun k hk=>by
   rcases hR.gr k hk with e|e
   ·exact h.fa k e
   ·exact ⟨by omega,by have:=h.size;omega,fun e2=>by have:=h.eb.lt k e2;omega⟩
  fb:=h.fb
  s0:=by
   obtain ⟨vs,e⟩:=h.s0;exact ⟨vs,e.stay (fun k hk=>hst k (e.1.lt k hk).2 (h.rb _ (.inl rfl) k hk).1) (fun k cs fr hn hc=>hu8 k cs fr (fun e2=>hn (.inl e2)) hc) (fun k hl hk=>hk.imp (aaZ k hl) id)⟩
  s1:=by
   obtain ⟨vs,e⟩:=h.s1;exact ⟨vs,e.stay (fun k hk=>hst k (e.1.lt k hk).2 (h.rb _ (.inr (.inl rfl)) k hk).1) (fun k cs fr hn hc=>hu8 k cs fr (fun e2=>hn (.inl e2)) hc) (fun k hl hk=>hk.imp (aaZ k hl) id)⟩
  i0:=by
   obtain ⟨vs,e⟩:=h.i0;exact ⟨vs,e.stay (fun k hk=>hst k (e.1.lt k hk).2 (h.rb _ (.inr (.inr (.inl rfl))) k hk).1) hbW⟩
  i1:=by
   obtain ⟨vs,e⟩:=h.i1;exact ⟨vs,e.stay (fun k hk=>hst k (e.1.lt k hk).2 (h.rb _ (.inr (.inr (.inr rfl))) k hk).1) hbW⟩
  rb:=fun v hvv k hk=>⟨fun e=>(h.rb v hvv k hk).1 (hnew k (by obtain ⟨n,vs,e⟩:=h.rows v hvv;exact (e.lt k hk).2) e),(h.rb v hvv k hk).2⟩
  WE:=h.WE
  TR:=h.TR
  WG:=h.WG
  a12:=h.a12
  Xv:=h.Xv
  a23:=h.a23}
theorem Bz.cell (h:Bz w0 g ga gb c a b na nb Fa Fb v0 v1 u0 u1 W) (i:Nat) (u:Value):Bz w0 g ga gb c a b na nb Fa Fb v0 v1 u0 u1 (W.setCell ⟨g,i,none⟩ u):=by
 obtain ⟨lc,hlc⟩:=h.gl;have hne:∀k,k≠g->(W.setCell ⟨g,i,none⟩ u).heap[k]? =W.heap[k]? :=fun k hk=>lZ W ⟨g,i,none⟩ u k hk
 have hrow:∀{base n:Nat} {v:Value} {vs:List Value},W.ownsRow base 31 1 v n vs->∀k,v.ownBlock=some k->k≠g:=fun {base n v vs} ho k hk e=>by
  subst e;exact aK ho hlc (by decide) hk
 have hby:∀(k:Nat) (cs:Array Value) (fr:Nat × Nat),W.heap[k]? =some (Obj.cells cs 5 fr)->k≠g:=fun k cs fr hc e=>by
  subst e;have h1:=hlc;unfold av at h1;rw[hc] at h1;injection h1 with h1
  injection h1 with _ h2 _
  exact absurd h2 (by decide)
 exact
 {oz:=h.oz.setCell (p:=⟨g,i,none⟩) h.gn u
  gl:=⟨_,hlc.ay i u⟩
  gn:=h.gn
  ea:=h.ea.stay fun k hk=>hne k (h.fa k hk).2.1
  eb:=h.eb.stay fun k hk=>hne k (h.fb k hk).2
  fa:=h.fa
  fb:=h.fb
  s0:=by
   obtain ⟨vs,e⟩:=h.s0;exact ⟨vs,e.stay (fun k hk=>hne k (hrow e.1 k hk)) (fun k cs fr _ hc=>hne k (hby k cs fr hc)) (fun k _ hk=>hk)⟩
  s1:=by
   obtain ⟨vs,e⟩:=h.s1;exact ⟨vs,e.stay (fun k hk=>hne k (hrow e.1 k hk)) (fun k cs fr _ hc=>hne k (hby k cs fr hc)) (fun k _ hk=>hk)⟩
  i0:=by
   obtain ⟨vs,e⟩:=h.i0;exact ⟨vs,e.stay (fun k hk=>hne k (hrow e.1 k hk)) ((bS w0 W).setCell (p:=⟨g,i,none⟩) h.gn u)⟩
  i1:=by
   obtain ⟨vs,e⟩:=h.i1;exact ⟨vs,e.stay (fun k hk=>hne k (hrow e.1 k hk)) ((bS w0 W).setCell (p:=⟨g,i,none⟩) h.gn u)⟩
  rb:=h.rb
  WE:=h.WE
  TR:=h.TR
  WG:=h.WG
  a12:=h.a12
  Xv:=h.Xv
  a23:=h.a23}
theorem Bz.grown {row:Option Nat} (h:Bz w0 g ga gb c a b na nb Fa Fb v0 v1 u0 u1 W) (hg:W.grownBy W' row) (hr:∀k,row=some k->w0.heap.size<=k/\∃(cs:Array Value) (fr:Nat × Nat),W.heap[k]? =some (Obj.cells cs 31 fr)) (hnF:∀k,row=some k->¬Fa k/\¬Fb k):
 Below w0 w0 W'/\W'.heap[g]? =W.heap[g]? /\qI W' Fa ga c a.s a.r na/\qI W' Fb gb c b.s b.r nb/\Below w0 W W'/\
  (∀v l vs,(∀k,row=some k->v.ownBlock≠some k)->WC W w0 (fun k=>Fa.b k\/Fb.b k) v l vs->WC W' w0 (fun k=>Fa.b k\/Fb.b k) v l vs)/\
  (∀v l vs,(∀k,row=some k->v.ownBlock≠some k)->Tp w0 W v l vs->Tp w0 W' v l vs)/\(∀(k:Nat) (cs:Array Value) (fr:Nat × Nat),W.heap[k]? =some (Obj.cells cs 5 fr)->W'.heap[k]? =W.heap[k]?):=by
 have hz:=h.oz.size;obtain ⟨lc,hlc⟩:=h.gl;have hb:Below w0 W W':=(bS w0 W).grown hg hz (fun j hj=>(hr j hj).1);have hst:∀k,k<W.heap.size->(∀j,row=some j->k≠j)->W'.heap[k]? =W.heap[k]? :=fun k hl hn=>hg.block k hl (fun e=>hn k e.symm rfl)
 have hby:∀(k:Nat) (cs:Array Value) (fr:Nat × Nat),W.heap[k]? =some (Obj.cells cs 5 fr)->W'.heap[k]? =W.heap[k]? :=fun k cs fr hc=>hst k (lt_of_heap hc) fun j hj e=>by
  subst e;obtain ⟨_,cs',fr',hc'⟩:=hr k hj;rw[hc] at hc';injection hc' with h1
  injection h1 with _ h2 _
  exact absurd h2 (by decide)
 refine ⟨h.oz.trans hb,hst g h.size fun j hj e=> ?_,h.ea.stay fun k hk=>hst k (h.ea.lt k hk) fun j hj e=> ?_,h.eb.stay fun k hk=>hst k (h.eb.lt k hk) fun j hj e=> ?_,hb,fun v l vs hv e=> ?_,fun v l vs hv e=> ?_,hby⟩
 ·subst e;obtain ⟨_,cs',fr',hc'⟩:=hr g hj;have h1:=hlc;unfold av at h1;rw[hc'] at h1;injection h1 with h1
  injection h1 with _ h2 _
  exact absurd h2 (by decide)
 ·subst e;exact (hnF k hj).1 hk
 ·subst e;exact (hnF k hj).2 hk
 ·exact e.stay (fun k hk=>hst k (e.1.lt k hk).2 fun j hj e2=>hv j hj (by rw[<-e2];exact hk)) (fun k cs fr _ hc=>hby k cs fr hc) (fun k _ hk=>hk)
 ·exact e.stay (fun k hk=>hst k (e.1.lt k hk).2 fun j hj e2=>hv j hj (by rw[<-e2];exact hk)) hb
theorem JX {n:Nat} {v:Value} {vs:List Value} {base:Nat} (h:W.ownsRow base 31 1 v n vs):∀k,v.ownBlock=some k->base<=k/\∃(cs:Array Value) (fr:Nat × Nat),W.heap[k]? =some (Obj.cells cs 31 fr):=fun k hk=>by
 rcases h.2 with ⟨rfl,_⟩|⟨q,cap,cur,rfl,q1,q2,_⟩
 ·cases hk
 ·have e2:q=k:=by injection hk
  subst e2;exact ⟨q1,_,_,q2⟩
theorem Bz.aa0 (h:Bz w0 g ga gb c a b na nb Fa Fb v0 v1 u0 u1 W) {vs:List Value} {vi v':Value} {q:List UInt8} (hvs:W.ownsRow w0 31 1 v0 a.sent.length vs) (hi:W.ownsRow w0 5 1 vi q.length (dz q)) (hib:∀k,vi.ownBlock=some k->¬Fa.b k/\¬Fb.b k)
 (hown:W'.ownsRow w0 31 1 v' (a.sent.length+1) (vs++ [vi])) (hg:W.grownBy W' v0.ownBlock) (hb:v'.ownBlock=v0.ownBlock\/v'.ownBlock=some W.heap.size):
 Bz w0 g ga gb c {a with sent:=a.sent++ [q]} b na nb Fa Fb v' v1 u0 u1 W'/\W'.heap[g]? =W.heap[g]? :=by
 obtain ⟨x1,x2,x3,x4,x5,x6,x7,x8⟩:=h.grown hg (JX hvs) (h.rb v0 (.inl rfl));obtain ⟨lc,hlc⟩:=h.gl;have hlt:∀v,v=v1\/v=u0\/v=u1->∀k,v.ownBlock=some k->k<W.heap.size:=fun v hv k hk=>by
  obtain ⟨n,ys,e⟩:=h.rows v (.inr hv);exact (e.lt k hk).2
 have hap:∀v,v=v1\/v=u0\/v=u1->Apart v0 v->Apart v' v:=fun v hv e k hk hk2=>by
  rcases hb with e1|e1
  ·exact e k (by rw[<-e1];exact hk) hk2
  ·rw[e1] at hk;injection hk with hk
   have:=hlt v hv k hk2;omega
 obtain ⟨ws,hws⟩:=h.s0;obtain rfl:=JS hws.1 hvs;refine ⟨⟨x1,⟨lc,x2.trans hlc⟩,h.gn,x3,x4,h.fa,h.fb,⟨ws++ [vi],by simpa using hown,fun i p hp=> ?_⟩,?_,?_,?_,fun v hv k hk=> ?_,hap _ (.inl rfl) h.WE,hap _ (.inr (.inl rfl)) h.TR,hap _ (.inr (.inr rfl)) h.WG,h.a12,h.Xv,h.a23⟩,x2⟩
 ·have hl:ws.length=a.sent.length:=by simpa using hvs.1
  have hu:∀{n:Nat} {y:Value} {xs:List Value},W.ownsRow w0 5 1 y n xs->W'.ownsRow w0 5 1 y n xs:=fun ho=>dw ho fun k hk=>by
   obtain ⟨cs,fr,hc⟩:=pU ho hk;exact x8 k cs fr hc
  rcases kD i a.sent.length with hlt|hge
  ·have hp':a.sent[i]? =some p:=by rw[<-hp];exact (mh hlt).symm
   obtain ⟨y,e,ho,ht⟩:=hws.2 i p hp';exact ⟨y,by rw[mh (by omega)];exact e,hu ho,ht⟩
  ·have hp': [q][i-a.sent.length]? =some p:=by rw[<-hp];exact (oI hge).symm
   have hi0:i=a.sent.length:=by
    have:=(pN.1 hp').1;simp at this;omega
   subst hi0;simp at hp';subst hp';exact ⟨vi,by rw[oI (by omega)];simp[hl],hu hi,fun k hk e=>e.elim (hib k hk).1 (hib k hk).2⟩
 ·obtain ⟨ys,e⟩:=h.s1;exact ⟨ys,x6 v1 b.sent ys (fun k hk=>h.WE k hk) e⟩
 ·obtain ⟨ys,e⟩:=h.i0;exact ⟨ys,x7 u0 a.iA ys (fun k hk=>h.TR k hk) e⟩
 ·obtain ⟨ys,e⟩:=h.i1;exact ⟨ys,x7 u1 b.iA ys (fun k hk=>h.WG k hk) e⟩
 ·rcases hv with rfl|hv
  ·rcases hb with e1|e1
   ·exact h.rb v0 (.inl rfl) k (by rw[<-e1];exact hk)
   ·rw[e1] at hk;injection hk with hk
    exact ⟨fun e=>by have:=h.ea.lt k e;omega,fun e=>by have:=h.eb.lt k e;omega⟩
  ·exact h.rb v (.inr hv) k hk
theorem Bz.aiD (h:Bz w0 g ga gb c a b na nb Fa Fb v0 v1 u0 u1 W) {vs:List Value} {A:Option Addr} {cc:Nat} {v':Value} {q:List UInt8} (hvs:W.ownsRow w0 31 1 u0 a.iA.length vs) (hi:Sl W w0 A q.length cc (dz q))
 (hown:W'.ownsRow w0 31 1 v' (a.iA.length+1) (vs++ [.slice A q.length cc])) (hg:W.grownBy W' u0.ownBlock) (hb:v'.ownBlock=u0.ownBlock\/v'.ownBlock=some W.heap.size):
 Bz w0 g ga gb c {a with iA:=a.iA++ [q]} b na nb Fa Fb v0 v1 v' u1 W'/\W'.heap[g]? =W.heap[g]? :=by
 obtain ⟨x1,x2,x3,x4,x5,x6,x7,x8⟩:=h.grown hg (JX hvs) (h.rb u0 (.inr (.inr (.inl rfl))));obtain ⟨lc,hlc⟩:=h.gl;have hlt:∀v,v=v0\/v=v1\/v=u1->∀k,v.ownBlock=some k->k<W.heap.size:=fun v hv k hk=>by
  obtain ⟨n,ys,e⟩:=h.rows v (by rcases hv with e|e|e<;>simp[e]);exact (e.lt k hk).2
 have hap:∀v,v=v0\/v=v1\/v=u1->Apart u0 v->Apart v' v:=fun v hv e k hk hk2=>by
  rcases hb with e1|e1
  ·exact e k (by rw[<-e1];exact hk) hk2
  ·rw[e1] at hk;injection hk with hk
   have:=hlt v hv k hk2;omega
 obtain ⟨ws,hws⟩:=h.i0;obtain rfl:=JS hws.1 hvs;refine ⟨⟨x1,⟨lc,x2.trans hlc⟩,h.gn,x3,x4,h.fa,h.fb,?_,?_,⟨ws++ [.slice A q.length cc],by simpa using hown,fun i p hp=> ?_⟩,?_,fun v hv k hk=> ?_,h.WE,(hap _ (.inl rfl) h.TR.symm).symm,h.WG,(hap _ (.inr (.inl rfl)) h.a12.symm).symm,h.Xv,hap _ (.inr (.inr rfl)) h.a23⟩,x2⟩
 ·obtain ⟨ys,e⟩:=h.s0;exact ⟨ys,x6 v0 a.sent ys (fun k hk=>h.TR.symm k hk) e⟩
 ·obtain ⟨ys,e⟩:=h.s1;exact ⟨ys,x6 v1 b.sent ys (fun k hk=>h.a12.symm k hk) e⟩
 ·have hl:ws.length=a.iA.length:=by simpa using hvs.1
  rcases kD i a.iA.length with hlt|hge
  ·have hp':a.iA[i]? =some p:=by rw[<-hp];exact (mh hlt).symm
   obtain ⟨A',c',e,ho⟩:=hws.2 i p hp';exact ⟨A',c',by rw[mh (by omega)];exact e,ho.below x5⟩
  ·have hp': [q][i-a.iA.length]? =some p:=by rw[<-hp];exact (oI hge).symm
   have hi0:i=a.iA.length:=by
    have:=(pN.1 hp').1;simp at this;omega
   subst hi0;simp at hp';subst hp';exact ⟨A,cc,by rw[oI (by omega)];simp[hl],hi.below x5⟩
 ·obtain ⟨ys,e⟩:=h.i1;exact ⟨ys,x7 u1 b.iA ys (fun k hk=>h.a23 k hk) e⟩
 ·have old:v=v0\/v=v1\/v=u1->¬Fa k/\¬Fb k:=fun e=>h.rb v (by rcases e with e|e|e<;>simp[e]) k hk
  rcases hv with e|e|e|e
  ·exact old (.inl e)
  ·exact old (.inr (.inl e))
  ·subst e;rcases hb with e1|e1
   ·exact h.rb u0 (.inr (.inr (.inl rfl))) k (by rw[<-e1];exact hk)
   ·rw[e1] at hk;injection hk with hk
    exact ⟨fun e=>by have:=h.ea.lt k e;omega,fun e=>by have:=h.eb.lt k e;omega⟩
  ·exact old (.inr (.inr e))
end
structure zn (w0:World) (sw:Bool) (g ga gb:Nat) (c:Cf) (a b:En) (na nb:Nat) (Fa Fb:Fp) (v0 v1 u0 u1:Value) (now:Int) (W:World):Prop where
 r:Bz w0 g ga gb c a b na nb Fa Fb v0 v1 u0 u1 W
 blk:av W g 41 (zy sw ga gb v0 v1 u0 u1 a.out b.out now)
section
variable {w0 W W':World} {sw:Bool} {g ga gb na nb na':Nat} {c:Cf} {a b:En} {s:Sd} {r:Rc} {Fa Fb nQ:Fp} {v0 v1 u0 u1:Value} {now:Int}
theorem zn.swap (h:zn w0 sw g ga gb c a b na nb Fa Fb v0 v1 u0 u1 now W):zn w0 (!sw) g gb ga c b a nb na Fb Fa v1 v0 u1 u0 now W where
 r:=h.r.swap
 blk:=by
  have:=h.blk;cases sw<;>exact this
theorem zn.below (h:zn w0 sw g ga gb c a b na nb Fa Fb v0 v1 u0 u1 now W) (hb:Below W W W'):zn w0 sw g ga gb c a b na nb Fa Fb v0 v1 u0 u1 now W':=⟨h.r.below hb,h.blk.below hb h.blk.lt⟩
theorem zn.call (h:zn w0 sw g ga gb c a b na nb Fa Fb v0 v1 u0 u1 now W) (hR:Ww W Fa nQ ga c s r na' W'):zn w0 sw g ga gb c {a with s:=s,r:=r} b na' nb nQ Fb v0 v1 u0 u1 now W':=
 let ⟨h1,h2⟩:=h.r.call hR
 ⟨h1,h2.trans h.blk⟩
end
end Go.Proofs.YtbhiklnljiehiaaGreat
