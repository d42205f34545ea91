/- ampdu.Cut of a range within the PDU. -/
import Derived.Test.YtbhiklnljiehiaaGreatM3ai
import Derived.Sort.CutIn
set_option maxHeartbeats 8000000
set_option maxRecDepth 100000
namespace Go.Proofs.YtbhiklnljiehiaaGreat
open RowKit Shelf Tryz
attribute [local go_sem] Oper.semAt_some
theorem Je {w w':World} {base:Nat} {e:TypeId} {n:Nat} {v:Value} {xs:List Value} {row:Option Nat} (h:w.ownsRow base e 1 v n xs) (hg:w.grownBy w' row) (hr:∀r,row=some r->∃o:Obj,w.heap[r]? =some o/\o.isCells=false):w'.ownsRow base e 1 v n xs:=by
 refine h.kept hg ?_;rcases hv:v.ownBlock with _|j
 ·exact .inl rfl
 ·refine .inr (fun e'=> ?_);obtain ⟨o,ho,⟨cs,fr',rfl⟩,_⟩:=dR h hv;obtain ⟨o',ho',hc⟩:=hr j e'.symm;rw[ho] at ho';cases ho';cases hc
theorem gM {w w':World} {g:Nat} {t:TypeId} {cs:Array Value} {row:Option Nat} (h:av w g t cs) (hg:w.grownBy w' row) (hr:∀r,row=some r->∃o:Obj,w.heap[r]? =some o/\o.isCells=false):av w' g t cs:=by
 refine h.grown hg (fun e=> ?_);obtain ⟨o',ho',hc⟩:=hr g e.symm;rw[show w.heap[g]? =_ from h] at ho';cases ho';cases hc
theorem cZ.quiet {w w':World} {base:Nat} {vo:Value} {ps:List (List UInt8)} {row:Option Nat} (h:cZ w base vo ps) (hg:w.grownBy w' row) (hr:∀r,row=some r->∃o:Obj,w.heap[r]? =some o/\o.isCells=false):cZ w' base vo ps:=by
 obtain ⟨vs,h1,h2⟩:=h;exact ⟨vs,Je h1 hg hr,fun i p hi=>let ⟨A,c,e,ho⟩:=h2 i p hi;⟨A,c,e,Je ho hg hr⟩⟩
theorem Kv {w5 W V w6 w7:World} {B Z go bi bn m L:Nat} {x0 x1 x2:Array Value} {x3 x4 x5:Array Value} {g0 g1 g2 g3 g4 g5 g6:Value} {Ao A6 A7:Option Addr} {co c6 c7:Nat} {Fe:List Value} {qs:List (List UInt8)} {pp:List UInt8}
 (c0:av V B 148 x0) (c1:av V (B+1) 3 x1) (c2:av V (B+1+1) 3 x2) (c3:av V (B+1+1+1) 148 x3) (ci:av V bi 3 x4) (cn:av V bn 3 x5) (bo:av V go 148 #[g0,g1,g2,g3,g4,g5,g6,.slice Ao m co])
 (kG:V.ownsRow Z 31 1 (.slice Ao m co) m Fe) (hm:qs.length=m)
 (hpx:∀(i:Nat) (p:List UInt8),qs[i]? =some p->∃A c,Fe[i]? =some (.slice A p.length c)/\V.ownsRow Z 5 1 (.slice A p.length c) p.length (dz p))
 (hb6:Below V V w6) (hv6:w6.ownsRow V 5 1 (.slice A6 L c6) L (dz pp)) (hpl:pp.length=L)
 (sU:w7.ownsRow Z 31 1 (.slice A7 (m+1) c7) (m+1) (Fe++ [.slice A6 L c6])) (jC:(w6.alloc (.cells #[.slice A6 L c6] 31)).grownBy w7 (Value.slice Ao m co).ownBlock)
 (hZ:Z<=V.heap.size) (_hgo:go<Z) (hB:B+1+1+1<go) (hbi:bi≠go) (hbn:bn≠go)
 (hKW:Kept (fun j _=>j=go\/j=bi\/Z<=j) w5 V) (hK2:Kept (fun j _=>j=go\/j=bi\/Z<=j) W V) (hKf:KeepsFrom Z W V):
 (av w7 B 148 x0/\av w7 bi 3 x4/\av w7 go 148 #[g0,g1,g2,g3,g4,g5,g6,.slice Ao m co]/\(∀p:Addr,p.block<Z->w7.cell? p=V.cell? p))/\
 (av (w7.setCell ⟨go,7,none⟩ (.slice A7 (m+1) c7)) B 148 x0/\av (w7.setCell ⟨go,7,none⟩ (.slice A7 (m+1) c7)) (B+1) 3 x1/\av (w7.setCell ⟨go,7,none⟩ (.slice A7 (m+1) c7)) (B+1+1) 3 x2/\av (w7.setCell ⟨go,7,none⟩ (.slice A7 (m+1) c7)) (B+1+1+1) 148 x3/\
  av (w7.setCell ⟨go,7,none⟩ (.slice A7 (m+1) c7)) bi 3 x4/\av (w7.setCell ⟨go,7,none⟩ (.slice A7 (m+1) c7)) bn 3 x5/\
  (∃A' c',av (w7.setCell ⟨go,7,none⟩ (.slice A7 (m+1) c7)) go 148 #[g0,g1,g2,g3,g4,g5,g6,.slice A' (qs++ [pp]).length c']/\cZ (w7.setCell ⟨go,7,none⟩ (.slice A7 (m+1) c7)) Z (.slice A' (qs++ [pp]).length c') (qs++ [pp]))/\
  Kept (fun j _=>j=go\/j=bi\/Z<=j) w5 (w7.setCell ⟨go,7,none⟩ (.slice A7 (m+1) c7))/\Kept (fun j _=>j=go\/j=bi\/Z<=j) W (w7.setCell ⟨go,7,none⟩ (.slice A7 (m+1) c7))/\KeepsFrom Z W (w7.setCell ⟨go,7,none⟩ (.slice A7 (m+1) c7))):=by
 have hown:∀j,(Value.slice Ao m co).ownBlock=some j->Z<=j/\j<V.heap.size:=fun j hj=>kG.lt j hj
 have key:∀{g:Nat} {t:TypeId} {cs:Array Value},av V g t cs->t≠31->av w7 g t cs:=fun {g t cs} hg ht=>
  ((hg.below hb6 hg.lt).alloc _).grown jC (fun e=>aK kG hg (fun e'=>ht e'.symm) e.symm)
 have d0:=key c0 (by decide);have d1:=key c1 (by decide);have d2:=key c2 (by decide);have d3:=key c3 (by decide);have di:=key ci (by decide);have dn:=key cn (by decide);have dg:=key bo (by decide);have hs6:=hb6.size;have abP:Below Z V w7:=((hb6.mono hZ).alloc (by omega) _).grown jC (by simp;omega) (fun j hj=>(hown j hj).1);have akG:=jC.size;rw[mZ] at akG;have UI:Kept (fun j _=>j=go\/j=bi\/Z<=j) V (w7.setCell ⟨go,7,none⟩ (.slice A7 (m+1) c7)):=by
  have h1:Kept (fun j _=>j=go\/j=bi\/Z<=j) V w6:=(Kept.of_below hb6).mono (fun j _ hj=> .inr (.inr (by omega)));exact (((h1.alloc _).grown jC (fun j hj _ _=> .inr (.inr (hown j hj).1)))).setCell (p:=⟨go,7,none⟩) (fun _ _=> .inl rfl) _
 have akH:KeepsFrom Z V (w7.setCell ⟨go,7,none⟩ (.slice A7 (m+1) c7)):=by
  refine KeepsFrom.trans (Y:=w6) ⟨hs6,fun k o _ hk _=>(hb6.block k (lt_of_heap hk)).trans hk⟩ ?_;refine ((KeepsOthers.alloc w6 _).from Z).trans (((KeepsOthers.of_grownBy jC (fun j o hj ho=> ?_)).from Z).trans ((zC _ _ _).from Z));obtain ⟨o',ho',⟨cs,fr',rfl⟩,_⟩:=dR ((own_below kG hb6 (aL)).alloc (.cells #[.slice A6 L c6] 31)) hj;rw[ho] at ho';cases ho';rfl
 refine ⟨⟨d0,di,dg,fun p hp=>abP.cell hp⟩,d0.far (by simp;omega) _,d1.far (by simp;omega) _,d2.far (by simp;omega) _,d3.far (by simp;omega) _,di.far (by simpa using hbi) _,dn.far (by simpa using hbn) _,?_,hKW.trans UI,hK2.trans UI,hKf.trans akH⟩;have hl:(qs++ [pp]).length=m+1:=by simp[hm]
 refine ⟨A7,c7,by rw[hl];simpa using dg.ay 7 (.slice A7 (m+1) c7),Fe++ [.slice A6 L c6],by rw[hl];exact aN (i:=7) sU dg (by decide) _,fun i p hi=> ?_⟩;have hvl:Fe.length=m:=by have:=(gK kG).len;exact this
 have UJ:∀{A:Option Addr} {c:Nat} {p:List UInt8} {base:Nat},w6.ownsRow base 5 1 (.slice A p.length c) p.length (dz p)->(w7.setCell ⟨go,7,none⟩ (.slice A7 (m+1) c7)).ownsRow base 5 1 (.slice A p.length c) p.length (dz p):=fun {A c p base} h5=>by
  have h6:=(h5.alloc (.cells #[.slice A6 L c6] 31)).kept jC (by
   rcases hq:(Value.slice A p.length c).ownBlock with _|j
   ·exact .inl rfl
   ·refine .inr (fun e=> ?_);obtain ⟨o1,ho1,⟨cs1,fr1,rfl⟩,_⟩:=dR h5 hq;obtain ⟨o2,ho2,⟨cs2,fr2,rfl⟩,_⟩:=dR (own_below kG hb6 (aL)) e.symm;rw[ho1] at ho2;cases ho2)
  exact aN (i:=7) h6 dg (by decide) _
 by_cases hi2:i<m
 ·rw[mh (by omega)] at hi;obtain ⟨A,c,e1,h5⟩:=hpx i p hi;exact ⟨A,c,by rw[mh (by omega)];exact e1,UJ (own_below h5 hb6 (aL))⟩
 ·rw[oI (by omega)] at hi;have hi0:i=m:=by
   have:=(pN.1 hi).1;simp at this;omega
  subst hi0;rw[hm] at hi;simp at hi;subst hi;subst hpl;refine ⟨A6,c6,?_,UJ (bF hv6 hZ)⟩;rw[oI (by omega),hvl];simp
structure O5 (B Z go bi bn:Nat) (sn:Int) (po sg la:Bool) (off:Nat) (s e:Bool) (A:Option Addr) (n c:Nat) (ps:List (List UInt8)) (jB:Bool) (fr till:Nat) (w5:World) (k:Nat) (W:World):Prop where
 b0:av W B 148 (dh sn po sg la off s e A n c)
 b1:av W (B+1) 3 #[fr]
 b2:av W (B+1+1) 3 #[till]
 b3:av W (B+1+1+1) 148 (dh 0 false false false 0 false false none 0 0)
 di:av W bi 3 #[k]
 dn:av W bn 3 #[n]
 out:∃A' c',av W go 148 (dh sn false true jB fr (bQ ps s off fr k) (dN ps e off till k) A' (aO ps off fr till k).length c')/\cZ W Z (.slice A' (aO ps off fr till k).length c') (aO ps off fr till k)
 kp:Kept (fun j _=>j=go\/j=bi\/Z<=j) w5 W
structure oN (B Z go bi bn:Nat) (sn:Int) (po sg la:Bool) (off:Nat) (s e:Bool) (A:Option Addr) (n c:Nat) (jB:Bool) (fr till:Nat) (w5 W:World) (k:Nat) (qs:List (List UInt8)) (b5 b6:Bool) (X:World):Prop where
 b0:av X B 148 #[sn,.bool po,.bool sg,.bool la,off,.bool s,.bool e,.slice A n c]
 b1:av X (B+1) 3 #[fr]
 b2:av X (B+1+1) 3 #[till]
 b3:av X (B+1+1+1) 148 (dh 0 false false false 0 false false none 0 0)
 di:av X bi 3 #[k]
 dn:av X bn 3 #[n]
 out:∃A' c',av X go 148 #[sn,.bool false,.bool true,.bool jB,fr,.bool b5,.bool b6,.slice A' qs.length c']/\cZ X Z (.slice A' qs.length c') qs
 kp:Kept (fun j _=>j=go\/j=bi\/Z<=j) w5 X
 k2:Kept (fun j _=>j=go\/j=bi\/Z<=j) W X
 kf:KeepsFrom Z W X
theorem cZ.store {w:World} {base g t i:Nat} {cs:Array Value} {vo:Value} {ps:List (List UInt8)} (h:cZ w base vo ps) (hb:av w g t cs) (h29:31≠t) (h5:5≠t) (x:Value):cZ (w.setCell ⟨g,i,none⟩ x) base vo ps:=by
 obtain ⟨vs,h1,h2⟩:=h;exact ⟨vs,aN h1 hb h29 _,fun j p hj=>let ⟨A,c,e,ho⟩:=h2 j p hj;⟨A,c,e,aN ho hb h5 _⟩⟩
section
variable {B Z go bi bn:Nat} {sn:Int} {po sg la:Bool} {off:Nat} {s e:Bool} {A:Option Addr} {n c:Nat} {jB:Bool} {fr till:Nat} {w5 W:World} {k:Nat} {qs:List (List UInt8)} {b5 b6:Bool} {X:World}
theorem oN.Yc (h:oN B Z go bi bn sn po sg la off s e A n c jB fr till w5 W k qs b5 b6 X) (hB:B+1+1+1<go) (hi:bi≠go) (hn:bn≠go) (b:Bool):
 oN B Z go bi bn sn po sg la off s e A n c jB fr till w5 W k qs b b6 (X.setCell ⟨go,5,none⟩ (.bool b)):=by
 obtain ⟨A',c',h1,h2⟩:=h.out;have hK:Kept (fun j _=>j=go\/j=bi\/Z<=j) X (X.setCell ⟨go,5,none⟩ (.bool b)):=(Kept.refl _ X).setCell (p:=⟨go,5,none⟩) (fun _ _=> .inl rfl) _;exact ⟨h.b0.far (by simp;omega) _,h.b1.far (by simp;omega) _,h.b2.far (by simp;omega) _,h.b3.far (by simp;omega) _,h.di.far (by simpa using hi) _,h.dn.far (by simpa using hn) _,
  ⟨A',c',by simpa using h1.ay 5 (.bool b),h2.store h1 (by decide) (by decide) _⟩,h.kp.trans hK,h.k2.trans hK,h.kf.trans ((zC _ _ _).from Z)⟩
theorem oN.Yd (h:oN B Z go bi bn sn po sg la off s e A n c jB fr till w5 W k qs b5 b6 X) (hB:B+1+1+1<go) (hi:bi≠go) (hn:bn≠go) (b:Bool):
 oN B Z go bi bn sn po sg la off s e A n c jB fr till w5 W k qs b5 b (X.setCell ⟨go,6,none⟩ (.bool b)):=by
 obtain ⟨A',c',h1,h2⟩:=h.out;have hK:Kept (fun j _=>j=go\/j=bi\/Z<=j) X (X.setCell ⟨go,6,none⟩ (.bool b)):=(Kept.refl _ X).setCell (p:=⟨go,6,none⟩) (fun _ _=> .inl rfl) _;exact ⟨h.b0.far (by simp;omega) _,h.b1.far (by simp;omega) _,h.b2.far (by simp;omega) _,h.b3.far (by simp;omega) _,h.di.far (by simpa using hi) _,h.dn.far (by simpa using hn) _,
  ⟨A',c',by simpa using h1.ay 6 (.bool b),h2.store h1 (by decide) (by decide) _⟩,h.kp.trans hK,h.k2.trans hK,h.kf.trans ((zC _ _ _).from Z)⟩
theorem oN.next (h:oN B Z go bi bn sn po sg la off s e A n c jB fr till w5 W k qs b5 b6 X) (hB:B+1+1+1<bi) (hi:bi≠go) (hn:bi≠bn):
 oN B Z go bi bn sn po sg la off s e A n c jB fr till w5 W (k+1) qs b5 b6 (X.setCell bi (.int .i64 ((k:Int)+1))):=by
 obtain ⟨A',c',h1,h2⟩:=h.out;have hK:Kept (fun j _=>j=go\/j=bi\/Z<=j) X (X.setCell bi (.int .i64 ((k:Int)+1))):=(Kept.refl _ X).setCell (p:=⟨bi,0,none⟩) (fun _ _=> .inr (.inl rfl)) _;refine ⟨h.b0.far (by simp;omega) _,h.b1.far (by simp;omega) _,h.b2.far (by simp;omega) _,h.b3.far (by simp;omega) _,?_,h.dn.far (by simpa using fun e=>hn e.symm) _,
  ⟨A',c',h1.far (by simpa using fun e=>hi e.symm) _,h2.store h.di (by decide) (by decide) _⟩,h.kp.trans hK,h.k2.trans hK,h.kf.trans ((zC _ _ _).from Z)⟩
 simpa using h.di.ay 0 (.int .i64 ((k:Int)+1))
end
theorem cZ.CW {w:World} {b b':Nat} {vo:Value} {ps:List (List UInt8)} (h:cZ w b vo ps) (hb:b'<=b):cZ w b' vo ps:=by
 obtain ⟨vs,h1,h2⟩:=h;exact ⟨vs,bF h1 hb,fun j p hj=>let ⟨A,c,e,ho⟩:=h2 j p hj;⟨A,c,e,bF ho hb⟩⟩
theorem Ye {W:World} {B0 B g D Z:Nat} {w:World} {x0 x1 x2 x3 x4 x5 x6 x7:Value} {vo:Value} {ps:List (List UInt8)} (b:av W g 148 #[x0,x1,x2,x3,x4,x5,x6,x7]) (hD:W.heap[D]? =some (.deferred (some []))) (hp:cZ W Z vo ps) (hb:Below B w W) (hg:B<=g) (hBD:B<=D) (hZ:B0<=Z) (u0 u1 u2 u3 u4 u5 u6:Value):
 ((((((((W.setCell g u0).setCell ⟨g,1,none⟩ u1).setCell ⟨g,2,none⟩ u2).setCell ⟨g,3,none⟩ u3).setCell ⟨g,4,none⟩ u4).setCell ⟨g,5,none⟩ u5).setCell ⟨g,6,none⟩ u6).setCell ⟨g,7,none⟩ vo).heap[D]? =some (.deferred (some []))/\
 av (((((((((W.setCell g u0).setCell ⟨g,1,none⟩ u1).setCell ⟨g,2,none⟩ u2).setCell ⟨g,3,none⟩ u3).setCell ⟨g,4,none⟩ u4).setCell ⟨g,5,none⟩ u5).setCell ⟨g,6,none⟩ u6).setCell ⟨g,7,none⟩ vo).putObj D (.deferred none)) g 148 #[u0,u1,u2,u3,u4,u5,u6,vo]/\
 cZ (((((((((W.setCell g u0).setCell ⟨g,1,none⟩ u1).setCell ⟨g,2,none⟩ u2).setCell ⟨g,3,none⟩ u3).setCell ⟨g,4,none⟩ u4).setCell ⟨g,5,none⟩ u5).setCell ⟨g,6,none⟩ u6).setCell ⟨g,7,none⟩ vo).putObj D (.deferred none)) B0 vo ps/\
 Below B w (((((((((W.setCell g u0).setCell ⟨g,1,none⟩ u1).setCell ⟨g,2,none⟩ u2).setCell ⟨g,3,none⟩ u3).setCell ⟨g,4,none⟩ u4).setCell ⟨g,5,none⟩ u5).setCell ⟨g,6,none⟩ u6).setCell ⟨g,7,none⟩ vo).putObj D (.deferred none)):=by
 have h1:=b.Us u0 u1 u2 u3 u4 u5 u6 vo;have h2:cZ ((((((((W.setCell g u0).setCell ⟨g,1,none⟩ u1).setCell ⟨g,2,none⟩ u2).setCell ⟨g,3,none⟩ u3).setCell ⟨g,4,none⟩ u4).setCell ⟨g,5,none⟩ u5).setCell ⟨g,6,none⟩ u6).setCell ⟨g,7,none⟩ vo) B0 vo ps:=by
  have k0:=hp.store (i:=0) b (by decide) (by decide) u0;have k1:=k0.store (i:=1) (b.ay 0 u0) (by decide) (by decide) u1;have k2:=k1.store (i:=2) ((b.ay 0 u0).ay 1 u1) (by decide) (by decide) u2;have k3:=k2.store (i:=3) (((b.ay 0 u0).ay 1 u1).ay 2 u2) (by decide) (by decide) u3;have k4:=k3.store (i:=4) ((((b.ay 0 u0).ay 1 u1).ay 2 u2).ay 3 u3) (by decide) (by decide) u4;have k5:=k4.store (i:=5) (((((b.ay 0 u0).ay 1 u1).ay 2 u2).ay 3 u3).ay 4 u4) (by decide) (by decide) u5;have k6:=k5.store (i:=6) ((((((b.ay 0 u0).ay 1 u1).ay 2 u2).ay 3 u3).ay 4 u4).ay 5 u5) (by decide) (by decide) u6;exact (k6.store (i:=7) (((((((b.ay 0 u0).ay 1 u1).ay 2 u2).ay 3 u3).ay 4 u4).ay 5 u5).ay 6 u6) (by decide) (by decide) vo).CW hZ
 have h3:=uw hb hg u0 u1 u2 u3 u4 u5 u6 vo;have h4:((((((((W.setCell g u0).setCell ⟨g,1,none⟩ u1).setCell ⟨g,2,none⟩ u2).setCell ⟨g,3,none⟩ u3).setCell ⟨g,4,none⟩ u4).setCell ⟨g,5,none⟩ u5).setCell ⟨g,6,none⟩ u6).setCell ⟨g,7,none⟩ vo).heap[D]? =some (.deferred (some [])):=by
  have s:=fun (X:World) (i:Nat) (v:Value) (h:X.heap[D]? =some (.deferred (some [])))=>(zC X ⟨g,i,none⟩ v).same D _ h rfl
  exact s _ 7 _ (s _ 6 _ (s _ 5 _ (s _ 4 _ (s _ 3 _ (s _ 2 _ (s _ 1 _ (s _ 0 _ hD)))))))
 generalize ((((((((W.setCell g u0).setCell ⟨g,1,none⟩ u1).setCell ⟨g,2,none⟩ u2).setCell ⟨g,3,none⟩ u3).setCell ⟨g,4,none⟩ u4).setCell ⟨g,5,none⟩ u5).setCell ⟨g,6,none⟩ u6).setCell ⟨g,7,none⟩ vo)=V at*;have hr:∀r,some D=some r->∃o:Obj,V.heap[r]? =some o/\o.isCells=false:=fun r e=>by cases e;exact ⟨_,h4,rfl⟩
 exact ⟨h4,gM h1 (nX V D (.deferred none)) hr,h2.quiet (nX V D (.deferred none)) hr,h3.grown (nX V D (.deferred none)) (by have:=lt_of_heap h4;omega) (fun j hj=>by cases hj;exact hBD)⟩
theorem O6 (B Z go bi bn:Nat) (sn:Int) (po sg la:Bool) (off:Nat) (s e:Bool) (A:Option Addr) (n c:Nat) (ps:List (List UInt8)) (jB:Bool) (fr till:Nat) (w5:World):
 OwnFrom Z (O5 B Z go bi bn sn po sg la off s e A n c ps jB fr till w5):=fun k X Y row hs hg hr=>by
 have hr':∀r,row=some r->∃o:Obj,X.heap[r]? =some o/\o.isCells=false:=fun r e=>(hr r e).2
 obtain ⟨A',c',h1,h2⟩:=hs.out;exact ⟨gM hs.b0 hg hr',gM hs.b1 hg hr',gM hs.b2 hg hr',gM hs.b3 hg hr',gM hs.di hg hr',gM hs.dn hg hr',⟨A',c',gM h1 hg hr',h2.quiet hg hr'⟩,
  hs.kp.trans ((Kept.refl _ X).grown hg (fun j e _ _=> .inr (.inr (hr j e).1)))⟩
theorem Yf (sn:Int) (po sg la:Bool) (off:Nat) (s e:Bool) (A:Option Addr) (n c:Nat) (vs:List Value) (ps:List (List UInt8)) (fr till:Nat) (w:World) (h:jW w w A n c vs ps)
 (hv:iZ sn sg la off ps=true) (hoff:off<=32767) (h1:off<=fr) (h2:fr<till) (h3:till<=off+aj ps):
 Calls prog 128 #[.agg (dh sn po sg la off s e A n c),fr,till] w (Mi w sn (decide (till=off+aj ps)&&(la|| !sg)) fr (bQ ps s off fr n) (dN ps e off till n) (aO ps off fr till n)):=by
 refine (xI (n:=5)).1 ?_;have hva:=(qo sn sg la off ps).1 hv;obtain ⟨hlo,hhi,hpos,hshort,hsum⟩:=(nI ps).1 hva.vp;have hlen:=h.len;have Dx:∀p∈ps,p.length<=1099511627776:=fun p hp=>by have:=jw hp;omega
 have hB:=((((bS w w).alloc (aL) (.cells (dh sn po sg la off s e A n c) 148)).alloc (by simp) (.cells #[fr] 3)).alloc (by simp;omega) (.cells #[till] 3)).alloc (by simp;omega) (.cells (dh 0 false false false 0 false false none 0 0) 148);have hA:=(h.below hB).more hB.size;have WW:=yC sn po sg la off s e A n c vs ps _ hA (by omega) Dx;rw[hv] at WW;have b0:=(((av.new w 148 (dh sn po sg la off s e A n c)).alloc (.cells #[fr] 3)).alloc (.cells #[till] 3)).alloc (.cells (dh 0 false false false 0 false false none 0 0) 148);have b1:=((av.new (w.alloc (.cells (dh sn po sg la off s e A n c) 148)) 3 #[fr]).alloc (.cells #[till] 3)).alloc (.cells (dh 0 false false false 0 false false none 0 0) 148);have b2:=(av.new ((w.alloc (.cells (dh sn po sg la off s e A n c) 148)).alloc (.cells #[fr] 3)) 3 #[till]).alloc (.cells (dh 0 false false false 0 false false none 0 0) 148);have b3:=av.new (((w.alloc (.cells (dh sn po sg la off s e A n c) 148)).alloc (.cells #[fr] 3)).alloc (.cells #[till] 3)) 148 (dh 0 false false false 0 false false none 0 0);simp only[mZ] at b1 b2 b3;have HB:=ah hB;have HV:=ah WW;have HLE:=ah Dx;have kH:=ah hlen;have Kj:=ah hsum;obtain ⟨jB,O7⟩:∃jB,(decide (till=off+aj ps)&&(la|| !sg))=jB:=⟨_,rfl⟩
 rw[O7];clear hB WW Dx hv hva hpos hshort hlen;unfold dh at*;refine Em func128 rfl trivial ?_ rfl;simp only[ntmps128,vP,jh,gQ,Nat.reduceAdd,Nat.reduceSub,zA,zz,zF,zB,pY,qJ];refine xW.2 ?_;go_wp2_with fail;generalize (((w.alloc (.cells #[sn,.bool po,.bool sg,.bool la,off,.bool s,.bool e,.slice A n c] 148)).alloc (.cells #[fr] 3)).alloc (.cells #[till] 3)).alloc (.cells #[.int .i64 0,.bool false,.bool false,.bool false,.int .i64 0,.bool false,.bool false,.slice none 0 0] 148)=w0 at*;refine HV.out.mono ?_;rintro e1 w1 ⟨rfl,hb1⟩
 replace b0:=b0.below hb1 b0.lt
 replace b1:=b1.below hb1 b1.lt
 replace b2:=b2.below hb1 b2.lt
 replace b3:=b3.below hb1 b3.lt
 have hA1:=(hA.below hb1).more hb1.size;have hB1:=HB.out.trans (hb1.mono HB.out.size);obtain ⟨x0,x1,x2,x3,x4,x5,x6,x7⟩:=b0.eight;clear hA hb1 HV HB;have hsz:=vX s e A n c vs ps w1.drew hA1.drew' (by have:=kH.out;omega) HLE.out;have HZ:=ah hsz;clear hsz HLE;obtain ⟨S,hS⟩:∃S,aj ps=S:=⟨_,rfl⟩
 rw[hS] at h3 hsum O7 HZ;have HS:=ah hS;have hbl:w.heap.size<w1.drew.heap.size:=b0.lt;have hwrap:IntKind.i64.wrap ((off:Int)+S)=(off:Int)+S:=iG _ (by omega);clear hS;go_wp2_with fail
 go_region_held3 (fun w'=>w'.cell? ⟨w,4,none⟩=some (.int .i64 off)/\w'.cell? ⟨w,5,none⟩=some (.bool s)/\w'.cell? ⟨w,6,none⟩=some (.bool e)/\w'.cell? ⟨w,7,none⟩=some (.slice A n c))
  (first|(refine ⟨(hb2.cell (p:=⟨w,4,none⟩) hbl).trans x4,(hb2.cell (p:=⟨w,5,none⟩) hbl).trans x5,(hb2.cell (p:=⟨w,6,none⟩) hbl).trans x6,(hb2.cell (p:=⟨w,7,none⟩) hbl).trans x7⟩)|go_keep)
  ((go_at_call 88;refine HZ.out.mono ?_;rintro e2 w2 ⟨rfl,hb2⟩))
 clear hwrap
 replace b0:=b0.drew.below hb2 b0.lt
 replace b1:=b1.drew.below hb2 b1.lt
 replace b2:=b2.drew.below hb2 b2.lt
 replace b3:=b3.drew.below hb2 b3.lt
 have hA2:=(hA1.drew'.below hb2).more hb2.size;have hB2:=(hB1.drew).trans (hb2.mono (by have:=hB1.size;simpa using this));clear x0 x1 x2 x3 x4 x5 x6 x7 hB1 hA1 HZ hb2 hbl;obtain ⟨x0,x1,x2,x3,x4,x5,x6,x7⟩:=b0.eight;have y1:=b1.cell 0;have y2:=b2.cell 0;simp at y1 y2;have hk1:¬(fr:Int)<off:=by omega
 have hk2:¬(till:Int)<=fr:=by omega
 have hk3:¬(off:Int)+S<till:=by omega
 have MG:w.heap.size+1+1+1<w2.heap.size:=b3.lt;have AF:(((till:Int)==(off:Int)+S)&&(la|| !sg))=jB:=by
  rw[<-O7]
  congr 1
  rw[mr];simp;omega
 go_upto_region 6 with (fail)
 go_cut [9] from 41 to 56 (fun s9 wx=>s9= .pointer (some w2)/\wx=w2.alloc (.cells #[sn,.bool false,.bool true,.bool jB,fr,.bool false,.bool false,.slice none 0 0] 148))
 case first=>
  by_cases hte:(till:Int)=(off:Int)+S
  ·have abQ:((till:Int)==(off:Int)+S)=true:=by simpa using hte
   rw[abQ] at AF;clear hte;cases la with
   |true=>
    obtain rfl:true=jB:=by simpa using AF
    clear O7 AF;go_wp2_with fail;go_meet;exact ⟨rfl,rfl⟩
   |false=>
    obtain rfl:(!sg)=jB:=by simpa using AF
    clear O7 AF;go_wp2_with fail;go_meet;exact ⟨rfl,rfl⟩
  ·have abQ:((till:Int)==(off:Int)+S)=false:=by simpa using hte
   rw[abQ] at AF;obtain rfl:false=jB:=by simpa using AF
   clear O7 AF hte;go_wp2_with fail;go_meet;exact ⟨rfl,rfl⟩
 case rest=>
  obtain ⟨rfl,rfl⟩:=hcut;clear O7 AF hk1 hk2 hk3;have b9:=av.new w2 148 #[sn,.bool false,.bool true,.bool jB,fr,.bool false,.bool false,.slice none 0 0]
  replace b0:=b0.alloc (.cells #[sn,.bool false,.bool true,.bool jB,fr,.bool false,.bool false,.slice none 0 0] 148)
  replace b1:=b1.alloc (.cells #[sn,.bool false,.bool true,.bool jB,fr,.bool false,.bool false,.slice none 0 0] 148)
  replace b2:=b2.alloc (.cells #[sn,.bool false,.bool true,.bool jB,fr,.bool false,.bool false,.slice none 0 0] 148)
  replace b3:=b3.alloc (.cells #[sn,.bool false,.bool true,.bool jB,fr,.bool false,.bool false,.slice none 0 0] 148)
  have hb3:=(bS w2 w2).alloc (aL) (.cells #[sn,.bool false,.bool true,.bool jB,fr,.bool false,.bool false,.slice none 0 0] 148);have hA3:=(hA2.below hb3).more hb3.size;have hB3:=hB2.trans (hb3.mono hB2.size);generalize w2.alloc (.cells #[sn,.bool false,.bool true,.bool jB,fr,.bool false,.bool false,.slice none 0 0] 148)=w3 at*;generalize w2.heap.size=go at*;have hgo:=b9.lt;clear hA2 hB2 hb3 x0 x1 x2 x3 x4 x5 x6 x7 y1 y2;obtain ⟨x0,x1,x2,x3,x4,x5,x6,x7⟩:=b0.eight;have x7':w3.drew.cell? ⟨w,7,none⟩=some (.slice A n c):=x7;have hwl:w.heap.size<w3.heap.size:=b0.lt;go_upto_region 7 with (fail)
  go_cut [10,11] from 57 to 60 (fun s10 s11 wx=>∃bi bn:Nat,s10= .pointer (some bi)/\s11= .pointer (some bn)/\w3<=bi/\w3<=bn/\bi≠bn/\av wx bi 3 #[.int .i64 0]/\av wx bn 3 #[n]/\Below w3 w3 wx)
  case first=>
   go_region
   all_goals
    go_wp2_with fail;go_meet
    first
     |exact ⟨w3,w3+1,rfl,rfl,aL,by omega,by omega,((av.new w3 3 #[.int .i64 0]).alloc _).drew,by simpa using (av.new (w3.alloc (.cells #[.int .i64 0] 3)) 3 #[n]).drew,(((bS _ w3).alloc (aL) _).alloc (by simp) _).drew⟩
     |exact ⟨w3+1,w3,rfl,rfl,by omega,aL,by omega,by simpa using (av.new (w3.alloc (.cells #[n] 3)) 3 #[.int .i64 0]).drew,((av.new w3 3 #[n]).alloc _).drew,(((bS _ w3).alloc (aL) _).alloc (by simp) _).drew⟩
  case rest=>
   obtain ⟨bi,bn,rfl,rfl,hbi,hbn,hin,d1,d2,hb4⟩:=hcut
   replace b0:=b0.below hb4 b0.lt
   replace b1:=b1.below hb4 b1.lt
   replace b2:=b2.below hb4 b2.lt
   replace b3:=b3.below hb4 b3.lt
   replace b9:=b9.below hb4 b9.lt
   have Yg:=(hA3.below hb4).more hb4.size;have hB4:=hB3.trans (hb4.mono hB3.size);clear hA3 hB3 hb4 x0 x1 x2 x3 x4 x5 x6 x7 x7' hwl;obtain ⟨x0,x1,x2,x3,x4,x5,x6,x7⟩:=b0.eight;have hbd:=E4 sn po sg la off s e A n c vs ps wc Yg (by have:=kH.out;omega) (by omega) (by have:=Kj.out;omega);unfold dh at hbd;have TG:=ah hbd;clear hbd;go_wp2_with fail;refine TG.out.mono ?_;rintro e5 w5 ⟨g,v,rfl,hg5,bg,hv5,hb5⟩
   replace b0:=b0.below hb5 b0.lt
   replace b1:=b1.below hb5 b1.lt
   replace b2:=b2.below hb5 b2.lt
   replace b3:=b3.below hb5 b3.lt
   replace b9:=b9.below hb5 b9.lt
   have d1':=d1.below hb5 d1.lt;have d2':=d2.below hb5 d2.lt;have hil:=d1.lt;have hnl:=d2.lt;have RU:=(Yg.below hb5).more hb5.size;have qw:=hB4.trans (hb5.mono hB4.size);clear TG Yg hB4 x0 x1 x2 x3 x4 x5 x6 x7 d1 d2;go_wp2_with fail;have nK:prog.follows .mixedOrders=true:=by kernel_rfl
   have hI0:O5 w w5.heap.size go bi bn sn po sg la off s e A n c ps jB fr till w5 0 w5:=
    ⟨b0,b1,b2,b3,d1',d2',⟨none,0,b9,[],jl _ _ _ _,fun i p hi=>by simp[aO] at hi⟩,Kept.refl _ _⟩
   have hgZ:=bg.lt;have anQ:g≠go:=by omega
   have anR:g≠bi:=by omega
   have hvZ:∀j,v.ownBlock=some j->j≠go/\j≠bi/\j<w5.heap.size:=fun j hj=>by have:=hv5.lt j hj;omega
   apply xW (n:=5).1;apply qp (gf:=197) (lb:= #[.pointer (some g)]) rfl (by omega) rfl trivial (enters_of func197 (by kernel_rfl) rfl)
    (CK _ (by omega) g wc v off ps (by omega) (by have:=Kj.out;omega) (by have:=kH.out;omega) (fun j _=>j=go\/j=bi\/w5.heap.size<=j) w5 bg hv5 (by omega) (fun j _ hj=>by have:=hvZ j hj;omega))
    Kept.trans (fun W l o o' hl ho hc _=>(Kept.refl _ W).grown (nX W l o') (fun j e _ _=>by cases e;exact .inr (.inr hl))) (bS _ _) (fun _=>rfl)
    (O5 w w5.heap.size go bi bn sn po sg la off s e A n c ps jB fr till w5) (O6 _ _ _ _ _ _ _ _ _ _ _ _ _ _ _ _ _ _ _ _) hI0
   case hassign=>
    intro l k W K hK;simp only[DX]
    gi_wp2
    exact hK
   case hbody=>
    intro l k W hk hI;have hBW:Below w w W:=qw.trans (hI.kp.below (B:=w.heap.size) (fun j _ hj=>by have:=qw.size;omega) qw.size);have hWs:=hI.kp.size;obtain ⟨ad,Ai,ci,rfl,hbk,hck,AJ⟩:=(h.below hBW).get (k:=k) (by have:=kH.out;omega);obtain ⟨Ao,co,bo,Fe,kG,hpx⟩:=hI.out;have c0:=hI.b0;have c1:=hI.b1;have c2:=hI.b2;have Xa:=hI.di;have cn:=hI.dn;unfold dh at c0 bo;obtain ⟨x0,x1,x2,x3,x4,x5,x6,x7⟩:=c0.eight;obtain ⟨o0,o1,o2,o3,o4,o5,o6,o7⟩:=bo.eight;have y1:=c1.cell 0;have y2:=c2.cell 0;have yi:=Xa.cell 0;have yn:=cn.cell 0;simp at y1 y2 yi yn;have hsn:=jG ps k (by omega);have hsl:=gG (fB ps (k+1)) Kj.out;obtain ⟨ka,hka⟩:∃ka,off+aj (ps.take k)=ka:=⟨_,rfl⟩
    obtain ⟨kb,hkb⟩:∃kb,off+aj (ps.take (k+1))=kb:=⟨_,rfl⟩
    rw[show (off:Int)+((aj (ps.take k):Nat):Int)=(ka:Int) by omega,show (off:Int)+((aj (ps.take (k+1)):Nat):Int)=(kb:Int) by omega];have HKA:=ah hka;have Yh:=ah hkb;have WS:=ah hsn;clear hka hkb hsn
    gi_wp2
    refine ru (S:=fun w'=>w'.cell? ⟨w+1,0,none⟩=some (.int .i64 fr)/\w'.cell? ⟨w.heap.size+1+1,0,none⟩=some (.int .i64 till)) nK (by kernel_rfl) ?hout ⟨y1,y2⟩ (fun hHeld=> ?_)
    case hout=>
     rintro ⟨a',w',hh⟩;exact hh
    refine wpAnyH_take (i:=0) (v:= ?_) rfl (by kernel_rfl) (by kernel_rfl) (by kernel_rfl) (fun _ _ _ h=>h) (Or.inl ⟨by rfl,?_⟩) hHeld ?_;rotate_left
    ·intro w' hSw;obtain ⟨hS1,hS2⟩:=hSw;go_simp
     try with_reducible rfl
    simp only[Act.put,kW,lY,kU,kX,kK];refine wpAnyH_take (i:=1) (v:= ?_) rfl (by kernel_rfl) (by kernel_rfl) (by kernel_rfl) (fun _ _ _ h=>h) (Or.inl ⟨by rfl,?_⟩) hHeld ?_;rotate_left
    ·intro w' hSw;obtain ⟨hS1,hS2⟩:=hSw;go_simp
     try with_reducible rfl
    simp only[Act.put,kW,lY,mX,kU,kX,kK];refine wpAnyH_take (i:=2) (v:= ?_) rfl (by kernel_rfl) (by kernel_rfl) (by kernel_rfl) (fun _ _ _ h=>h) (Or.inl ⟨by rfl,?_⟩) hHeld ?_;rotate_left
    ·intro w' hSw;obtain ⟨hS1,hS2⟩:=hSw;go_simp
     try with_reducible rfl
    simp only[Act.put,kW,lY,mX,kU,kX,kK];refine wpAnyH_take (i:=3) (v:= ?_) rfl (by kernel_rfl) (by kernel_rfl) (by kernel_rfl) (fun _ _ _ h=>h) (Or.inl ⟨by rfl,?_⟩) hHeld ?_;rotate_left
    ·intro w' hSw;obtain ⟨hS1,hS2⟩:=hSw;go_simp
     try with_reducible rfl
    simp only[Act.put,kW,lY,mX,kU,kX,kK];refine wpAnyH_take (i:=4) (v:= ?_) rfl (by kernel_rfl) (by kernel_rfl) (by kernel_rfl) (fun _ _ _ h=>h) (Or.inl ⟨by rfl,?_⟩) hHeld ?_;rotate_left
    ·intro w' hSw;obtain ⟨hS1,hS2⟩:=hSw;go_simp
     try with_reducible rfl
    simp only[Act.put,kW,lY,mX,kU,kX,kK];refine wpAnyH_take (i:=5) (v:= ?_) rfl (by kernel_rfl) (by kernel_rfl) (by kernel_rfl) (fun _ _ _ h=>h) (Or.inl ⟨by rfl,?_⟩) hHeld ?_;rotate_left
    ·intro w' hSw;obtain ⟨hS1,hS2⟩:=hSw;go_simp
     try with_reducible rfl
    simp only[Act.put,kW,lY,mX,kU,kX,kK];refine wpAnyH_take (i:=6) (v:= ?_) rfl (by kernel_rfl) (by kernel_rfl) (by kernel_rfl) (fun _ _ _ h=>h) (Or.inl ⟨by rfl,?_⟩) hHeld ?_;rotate_left
    ·intro w' hSw;obtain ⟨hS1,hS2⟩:=hSw;go_simp
     try with_reducible rfl
    simp only[Act.put,kW,lY,mX,kU,kX,kK];refine wpAnyH_take (i:=7) (v:= ?_) rfl (by kernel_rfl) (by kernel_rfl) (by kernel_rfl) (fun _ _ _ h=>h) (Or.inl ⟨by rfl,?_⟩) hHeld ?_;rotate_left
    ·intro w' hSw;obtain ⟨hS1,hS2⟩:=hSw;go_simp
     try with_reducible rfl
    simp only[Act.put,kW,lY,mX,kU,kX,kK];refine wpAnyH_done (by kernel_rfl) ?_ _;obtain ⟨mx,hmx⟩:∃mx,max ka fr=mx:=⟨_,rfl⟩
    obtain ⟨my,hmy⟩:∃my,min kb till=my:=⟨_,rfl⟩
    rw[show (if ka<fr then (fr:Int) else (ka:Int))=(mx:Int) by rw[<-hmx];split<;>omega,show (if till<kb then (till:Int) else (kb:Int))=(my:Int) by rw[<-hmy];split<;>omega];have abR:kb=ka+(ps[k]?.getD []).length:=by have:=HKA.out;have:=Yh.out;have:=WS.out;omega
    have hkc:aO ps off fr till (k+1)=if mx<my then aO ps off fr till k++ [((ps[k]?.getD []).drop (mx-ka)).take (my-mx)] else aO ps off fr till k:=by
     show (if o9 ps off fr till k=true then _ else _)=_
     unfold o9 um;rw[HKA.out,Yh.out,hmx,hmy];simp only[gY]
    have hKW:Kept (fun j _=>j=go\/j=bi\/w5.heap.size<=j) w5 W.drew:=hI.kp.drew;have hKf:KeepsFrom w5 W W.drew:=(KeepsOthers.drew W).from _
    have hK2:Kept (fun j _=>j=go\/j=bi\/w5.heap.size<=j) W W.drew:=(Kept.refl _ W).drew
    replace c0:=c0.drew
    replace c1:=c1.drew
    replace c2:=c2.drew
    have c3:=hI.b3.drew
    replace Xa:=Xa.drew
    replace cn:=cn.drew
    replace bo:=bo.drew
    replace kG:=kG.drew'
    replace hpx:∀(i:Nat) (p:List UInt8),(aO ps off fr till k)[i]? =some p->∃A c,Fe[i]? =some (.slice A p.length c)/\W.drew.ownsRow w5 5 1 (.slice A p.length c) p.length (dz p):=hpx
    replace hBW:=hBW.drew
    replace AJ:=AJ.drew
    have afD:W.drew.cell? (ad.add k)=some (.slice Ai (ps[k]?.getD []).length ci):=hck;have abS:w5.heap.size<=W.drew.heap.size:=hWs;clear x0 x1 x2 x3 x4 x5 x6 x7 o0 o1 o2 o3 o4 o5 o6 o7 y1 y2 yi yn hck hWs;have hck:=afD;clear afD;generalize hVV:W.drew=V at*;clear hVV;obtain ⟨p,hp⟩:∃p,ps[k]?.getD []=p:=⟨_,rfl⟩
    rw[hp] at abR hkc AJ hck;have HKC:=ah hkc;have abT:=ah abR;have HMX:=ah hmx;have HMY:=ah hmy;clear hkc hp hsl abR hmx hmy;obtain ⟨x0,x1,x2,x3,x4,x5,x6,x7⟩:=c0.eight;obtain ⟨o0,o1,o2,o3,o4,o5,o6,o7⟩:=bo.eight;have y1:=c1.cell 0;have y2:=c2.cell 0;have yi:=Xa.cell 0;have yn:=cn.cell 0;simp at y1 y2 yi yn
    gi_upto_if 73 with (fail)
    gi_cut [] from 65 (fun wx=>av wx w 148 #[sn,.bool po,.bool sg,.bool la,off,.bool s,.bool e,.slice (some ad) n c]/\av wx (w+1) 3 #[fr]/\av wx (w.heap.size+1+1) 3 #[till]/\av wx (w.heap.size+1+1+1) 148 (dh 0 false false false 0 false false none 0 0)/\av wx bi 3 #[k]/\av wx bn 3 #[n]/\
     (∃A' c',av wx go 148 #[sn,.bool false,.bool true,.bool jB,fr,.bool (bQ ps s off fr k),.bool (dN ps e off till k),.slice A' (aO ps off fr till (k+1)).length c']/\cZ wx w5 (.slice A' (aO ps off fr till (k+1)).length c') (aO ps off fr till (k+1)))/\
     Kept (fun j _=>j=go\/j=bi\/w5.heap.size<=j) w5 wx/\Kept (fun j _=>j=go\/j=bi\/w5.heap.size<=j) W wx/\KeepsFrom w5 W wx)
    case first=>
     by_cases hhit:mx<my
     ·have hkc:=HKC.out;rw[bD hhit] at hkc;have hq1:ka<=mx:=by have:=HMX.out;omega
      have hq2:my<=ka+p.length:=by have:=HMY.out;have:=abT.out;omega
      have hpl:0<p.length:=by omega
      obtain ⟨ai,hai,akI,_⟩:=AJ.at_ hpl;subst hai;have hcap:=AJ.cap;have akJ:=AJ.mx;obtain ⟨lo,hlo⟩:∃lo,mx-ka=lo:=⟨_,rfl⟩
      obtain ⟨hi,hhi⟩:∃hi,my-ka=hi:=⟨_,rfl⟩
      have hmid:=AJ.mid (a:=lo) (m:=hi-lo) (by omega);rw[aP (by omega)] at hmid;have e1:((dz p).drop lo).take (hi-lo)=dz ((p.drop lo).take (hi-lo)):=by simp[dz]
      obtain ⟨L,hL⟩:∃L,hi-lo=L:=⟨_,rfl⟩
      have hml:my-mx=L:=by omega
      rw[e1,hL] at hmid;rw[hlo,hml] at hkc;have hw1:IntKind.i64.wrap ((mx:Int)-ka)=(lo:Int):=by rw[iG _ (by omega)];omega
      have hw2:IntKind.i64.wrap ((my:Int)-ka)=(hi:Int):=by rw[iG _ (by omega)];omega
      have hq3:(lo:Int)<=hi:=by omega
      have hq4:(hi:Int)<=ci:=by omega
      have hq5:¬ci=lo:=by omega
      have hq6:(0:Int)<=lo:=by omega
      have hkn:(k:Int)<n:=by have:=kH.out;omega
      have hLs:L<=1000000:=by have:=Yh.out;have:=fB ps (k+1);have:=Kj.out;have:=abT.out;omega
      have RV:((p.drop lo).take L).length=L:=by rw[kz,kC];omega
      generalize hpp:(p.drop lo).take L=pp at*;have HKD:=ah hkc;have RX:=ah RV;clear hkc HKC e1 hlo hhi hpp hml RV;obtain ⟨j0,hj0,hm0,hm1,hm2⟩:=vz uq;have arj:=uT ps off fr till k;generalize hqs:aO ps off fr till k=qs at*;have HQS:=ah hqs;clear hqs;have hcl:=fun (X:World) (hX:Below w V X)=>pO (some (ai.add lo)) L (ci-lo) pp X ((hmid.below hX).more (gG hBW.size (by have:=hX.size;omega))) (by omega)
      have yB:=ah hcl;clear hcl;have hl0:w.heap.size<V.drew.heap.size:=c0.lt;have Jf:bi<V.drew.heap.size:=Xa.lt;have hlg:go<V.drew.heap.size:=bo.lt;have hlk:(ad.add k).block<V.drew.heap.size:=by rw[block_add];have:=hBW.size;have h2:V.drew.heap.size=V.heap.size:=rfl;omega
      gi_wp2_with fail
      refine ru (S:=fun w'=>w'.cell? ⟨w,7,none⟩=some (.slice (some ad) n c)/\w'.cell? bi=some (.int .i64 k)/\w'.cell? (ad.add k)=some (.slice (some ai) p.length ci)) nK (by kernel_rfl) ?hout2 ⟨x7,yi,hck⟩ (fun hHeld=> ?_)
      case hout2=>
       rintro ⟨a',w',hh⟩;exact hh
      refine wpAnyH_take (i:=0) (v:= ?_) rfl (by kernel_rfl) (by kernel_rfl) (by kernel_rfl) (fun _ _ _ h=>h) (Or.inl ⟨by rfl,?_⟩) hHeld ?_;rotate_left
      ·intro w' hSw;obtain ⟨hS1,hS2,DD⟩:=hSw;go_simp
       try with_reducible rfl
      simp only[Act.put,kW,lY,kU,kX,kK];refine wpAnyH_take (i:=1) (v:= ?_) rfl (by kernel_rfl) (by kernel_rfl) (by kernel_rfl) (fun _ _ _ h=>h) (Or.inl ⟨by rfl,?_⟩) hHeld ?_;rotate_left
      ·intro w' hSw;obtain ⟨hS1,hS2,DD⟩:=hSw;go_simp
       try with_reducible rfl
      simp only[Act.put,kW,lY,mX,kU,kX,kK];refine wpAnyH_take (i:=3) (v:= ?_) rfl (by kernel_rfl) (by kernel_rfl) (by kernel_rfl) (fun _ _ _ h=>h) (Or.inl ⟨by rfl,?_⟩) hHeld ?_;rotate_left
      ·intro w' hSw;obtain ⟨hS1,hS2,DD⟩:=hSw;go_simp
       try with_reducible rfl
      simp only[Act.put,kW,lY,mX,kU,kX,kK];refine wpAnyH_take (i:=4) (v:= ?_) rfl (by kernel_rfl) (by kernel_rfl) (by kernel_rfl) (fun _ _ _ h=>h) (Or.inl ⟨by rfl,?_⟩) hHeld ?_;rotate_left
      ·intro w' hSw;obtain ⟨hS1,hS2,DD⟩:=hSw;go_simp
       try with_reducible rfl
      simp only[Act.put,kW,lY,mX,kU,kX,kK];refine wpAnyH_take (i:=5) (v:= ?_) rfl (by kernel_rfl) (by kernel_rfl) (by kernel_rfl) (fun _ _ _ h=>h) (Or.inl ⟨by rfl,?_⟩) hHeld ?_;rotate_left
      ·intro w' hSw;obtain ⟨hS1,hS2,DD⟩:=hSw;go_simp
       try with_reducible rfl
      simp only[Act.put,kW,lY,mX,kU,kX,kK];refine wpAnyH_take (i:=6) (v:= ?_) rfl (by kernel_rfl) (by kernel_rfl) (by kernel_rfl) (fun _ _ _ h=>h) (Or.inl ⟨by rfl,?_⟩) hHeld ?_;rotate_left
      ·intro w' hSw;obtain ⟨hS1,hS2,DD⟩:=hSw;go_simp
       try with_reducible rfl
      simp only[Act.put,kW,lY,mX,kU,kX,kK];refine wpAnyH_take (i:=7) (v:= ?_) rfl (by kernel_rfl) (by kernel_rfl) (by kernel_rfl) (fun _ _ _ h=>h) (Or.inl ⟨by rfl,?_⟩) hHeld ?_;rotate_left
      ·intro w' hSw;obtain ⟨hS1,hS2,DD⟩:=hSw;go_simp
       try with_reducible rfl
      simp only[Act.put,kW,lY,mX,kU,kX,kK];refine wpAnyH_take (i:=8) (v:= ?_) rfl (by kernel_rfl) (by kernel_rfl) (by kernel_rfl) (fun _ _ _ h=>h) (Or.inl ⟨by rfl,?_⟩) hHeld ?_;rotate_left
      ·intro w' hSw;obtain ⟨hS1,hS2,DD⟩:=hSw;go_simp
       try with_reducible rfl
      simp only[Act.put,kW,lY,mX,kU,kX,kK];refine wpAnyH_take (i:=9) (v:= ?_) rfl (by kernel_rfl) (by kernel_rfl) (by kernel_rfl) (fun _ _ _ h=>h) (Or.inl ⟨by rfl,?_⟩) hHeld ?_;rotate_left
      ·intro w' hSw;obtain ⟨hS1,hS2,DD⟩:=hSw;go_simp
       try with_reducible rfl
      simp only[Act.put,kW,lY,mX,kU,kX,kK];refine wpAnyH_take (i:=10) (v:= ?_) rfl (by kernel_rfl) (by kernel_rfl) (by kernel_rfl) (fun _ _ _ h=>h) (Or.inl ⟨by rfl,?_⟩) hHeld ?_;rotate_left
      ·intro w' hSw;obtain ⟨hS1,hS2,DD⟩:=hSw;go_simp
       try with_reducible rfl
      simp only[Act.put,kW,lY,mX,kU,kX,kK];refine wpAnyH_take (i:=11) (v:= ?_) rfl (by kernel_rfl) (by kernel_rfl) (by kernel_rfl) (fun _ _ _ h=>h) (Or.inl ⟨by rfl,?_⟩) hHeld ?_;rotate_left
      ·intro w' hSw;obtain ⟨hS1,hS2,DD⟩:=hSw;go_simp
       try with_reducible rfl
      simp only[Act.put,kW,lY,mX,kU,kX,kK];refine wpAnyH_take (i:=12) (v:= ?_) rfl (by kernel_rfl) (by kernel_rfl) (by kernel_rfl) (fun _ _ _ h=>h) (Or.inl ⟨by rfl,?_⟩) hHeld ?_;rotate_left
      ·intro w' hSw;obtain ⟨hS1,hS2,DD⟩:=hSw;go_simp
       try with_reducible rfl
      simp only[Act.put,kW,lY,mX,kU,kX,kK];refine wpAnyH_take (i:=13) (v:= ?_) rfl (by kernel_rfl) (by kernel_rfl) (by kernel_rfl) (fun _ _ _ h=>h) (Or.inl ⟨by rfl,?_⟩) hHeld ?_;rotate_left
      ·intro w' hSw;obtain ⟨hS1,hS2,DD⟩:=hSw;go_simp
       try with_reducible rfl
      simp only[Act.put,kW,lY,mX,kU,kX,kK];refine wpAnyH_take (i:=14) (v:= ?_) rfl (by kernel_rfl) (by kernel_rfl) (by kernel_rfl) (fun _ _ _ h=>h) (Or.inl ⟨by rfl,?_⟩) hHeld ?_;rotate_left
      ·intro w' hSw;obtain ⟨hS1,hS2,DD⟩:=hSw;go_simp
       try with_reducible rfl
      simp only[Act.put,kW,lY,mX,kU,kX,kK];refine wpAnyH_take (i:=15) (v:= ?_) rfl (by kernel_rfl) (by kernel_rfl) (by kernel_rfl) (fun _ _ _ h=>h) (Or.inl ⟨by rfl,?_⟩) hHeld ?_;rotate_left
      ·intro w' hSw;obtain ⟨hS1,hS2,DD⟩:=hSw;go_simp
       try with_reducible rfl
      simp only[Act.put,kW,lY,mX,kU,kX,kK];refine wpAnyH_ready (rs:= [2,16]) (by kernel_rfl) (by simp) ?_;refine AllReadyH.cons rfl (fun K hK=> ?_) (AllReadyH.cons rfl (fun K hK=> ?_) AllReadyH.nil)
      ·go_simp;refine hK.out _ _ hHeld (fun hHeld=> ?_);clear hK K
       try simp only[Act.put,gJ]
       refine wpAnyH_ready (rs:= [16]) (by kernel_rfl) (by simp) ?_;refine AllReadyH.cons rfl (fun K hK=> ?_) AllReadyH.nil;go_simp;refine (yB.out V.drew ((bS _ V).drew)).mono ?_;rintro e6 w6 ⟨v6,rfl,hv6,hb6⟩
       replace hv6:w6.ownsRow V 5 1 v6 L (dz pp):=hv6
       have Kw:Below V V w6:=((bS _ V).drew).trans hb6;have hzz:V.heap.size<=w6.heap.size:=Kw.size;obtain ⟨A6,c6,rfl,hs6,_⟩:=aY hv6;refine hK.out _ _ ⟨(hb6.cell (p:=⟨w,7,none⟩) hl0).trans x7,(hb6.cell (p:=⟨bi,0,none⟩) Jf).trans yi,(hb6.cell (p:=ad.add k) hlk).trans hck⟩ (fun hHeld=> ?_);clear hK K
       try simp only[Act.put,gJ]
       have QM:=hb6.size;have hu0:w.heap.size<w6.heap.size:=by omega
       have hui:bi<w6:=by omega
       have hug:go<w6:=by omega
       have huk:(ad.add k).block<w6.heap.size:=by omega
       have o76:=(hb6.cell (p:=⟨go,7,none⟩) hlg).trans o7;refine wpAnyH_ready (rs:= [17]) (by kernel_rfl) (by simp) ?_;refine AllReadyH.cons rfl (fun K hK=> ?_) AllReadyH.nil;go_simp;refine hK.out _ _ ⟨(yx w6 _ ⟨w,7,none⟩ hu0).trans hHeld.1,(yx w6 _ ⟨bi,0,none⟩ hui).trans hHeld.2.1,(yx w6 _ (ad.add k) huk).trans hHeld.2.2⟩ (fun hHeld=> ?_);clear hK K
       try simp only[Act.put,gJ]
       refine wpAnyH_ready (rs:= [18]) (by kernel_rfl) (by simp) ?_;refine AllReadyH.cons rfl (fun K hK=> ?_) AllReadyH.nil;refine fA _ (by rfl) _ _ 37 (by rfl) w5 31 j0 (.slice none 0 0) 24 wE hj0 hm0 hm1 hm2 rfl (.slice Ao qs.length co) qs.length Fe (by rfl) ((own_below kG Kw (aL)).alloc (.cells #[.slice A6 L c6] 31)) (w6.alloc (.cells #[.slice A6 L c6] 31)).heap.size (some ⟨w6,0,none⟩) 1 1 [.slice A6 L c6] (by rfl) (BK (xs:= [.slice A6 L c6]) (sN w6 _) rfl (by simp)) (by simp[Value.oneCell']) (by have:=kH.out;unfold maxLen;omega) (by have:=kH.out;omega) (by simp;omega) ?_;intro v7 w7 sU jC _;obtain ⟨A7,c7,rfl,hs7,_⟩:=aY sU;obtain ⟨⟨r0,ri,rg,hrk⟩,hfin⟩:=Kv c0 c1 c2 c3 Xa cn bo kG rfl hpx Kw hv6 RX.out sU jC abS (by omega) (by omega) (by omega) (by omega) hKW hK2 hKf;have r7:=r0.cell 7;have UK:=ri.cell 0;have rg7:=rg.cell 7;have rgf:=rg.frozen 7;simp at r7 UK rg7;have MH:=(hrk (ad.add k) (by rw[block_add];have:=qw.size;omega)).trans hck;have lz:=ah hfin;clear hfin;refine hK.out _ _ ⟨r7,UK,MH⟩ (fun hHeld=> ?_);clear hK K
       try simp only[Act.put,gJ]
       refine wpAnyH_take (i:=19) (v:= ?_) rfl (by kernel_rfl) (by kernel_rfl) (by kernel_rfl) (fun _ _ _ h=>h) (Or.inl ⟨by rfl,?_⟩) hHeld ?_;rotate_left
       ·intro w' hSw;obtain ⟨hS1,hS2,DD⟩:=hSw;go_simp
        try with_reducible rfl
       simp only[Act.put,kW,lY,mX,kU,kX,kK];refine wpAnyH_take (i:=20) (v:= ?_) rfl (by kernel_rfl) (by kernel_rfl) (by kernel_rfl) (fun _ _ _ h=>h) (Or.inl ⟨by rfl,?_⟩) hHeld ?_;rotate_left
       ·intro w' hSw;obtain ⟨hS1,hS2,DD⟩:=hSw;go_simp
        try with_reducible rfl
       simp only[Act.put,kW,lY,mX,kU,kX,kK];refine wpAnyH_ready (rs:= [21]) (by kernel_rfl) (by simp) ?_;refine AllReadyH.cons rfl (fun K hK=> ?_) AllReadyH.nil;go_simp;refine hK.out _ _ ⟨(JZ w7 ⟨go,7,none⟩ ⟨w,7,none⟩ _ (by simp<;>omega)).trans r7,(JZ w7 ⟨go,7,none⟩ ⟨bi,0,none⟩ _ (by simp)).trans UK,(JZ w7 ⟨go,7,none⟩ (ad.add k) _ (fun e=>by have h9:(ad.add k).block=go:=(by rw[<-e]);rw[block_add] at h9;have:=qw.size;omega)).trans MH⟩ (fun hHeld=> ?_);clear hK K
       try simp only[Act.put,gJ]
       refine wpAnyH_done (by kernel_rfl) ?_ _
       gi_wp2_with fail
       gi_meet
       rw[HKD.out];exact lz.out
      ·go_simp;refine (yB.out V.drew ((bS _ V).drew)).mono ?_;rintro e6 w6 ⟨v6,rfl,hv6,hb6⟩
       replace hv6:w6.ownsRow V 5 1 v6 L (dz pp):=hv6
       have Kw:Below V V w6:=((bS _ V).drew).trans hb6;have hzz:V.heap.size<=w6.heap.size:=Kw.size;obtain ⟨A6,c6,rfl,hs6,_⟩:=aY hv6;refine hK.out _ _ ⟨(hb6.cell (p:=⟨w,7,none⟩) hl0).trans x7,(hb6.cell (p:=⟨bi,0,none⟩) Jf).trans yi,(hb6.cell (p:=ad.add k) hlk).trans hck⟩ (fun hHeld=> ?_);clear hK K
       try simp only[Act.put,gJ]
       have QM:=hb6.size;have hu0:w.heap.size<w6.heap.size:=by omega
       have hui:bi<w6:=by omega
       have hug:go<w6:=by omega
       have huk:(ad.add k).block<w6.heap.size:=by omega
       have o76:=(hb6.cell (p:=⟨go,7,none⟩) hlg).trans o7;refine wpAnyH_ready (rs:= [2,17]) (by kernel_rfl) (by simp) ?_;refine AllReadyH.cons rfl (fun K hK=> ?_) (AllReadyH.cons rfl (fun K hK=> ?_) AllReadyH.nil)
       ·go_simp;refine hK.out _ _ hHeld (fun hHeld=> ?_);clear hK K
        try simp only[Act.put,gJ]
        refine wpAnyH_ready (rs:= [17]) (by kernel_rfl) (by simp) ?_;refine AllReadyH.cons rfl (fun K hK=> ?_) AllReadyH.nil;go_simp;refine hK.out _ _ ⟨(yx w6 _ ⟨w,7,none⟩ hu0).trans hHeld.1,(yx w6 _ ⟨bi,0,none⟩ hui).trans hHeld.2.1,(yx w6 _ (ad.add k) huk).trans hHeld.2.2⟩ (fun hHeld=> ?_);clear hK K
        try simp only[Act.put,gJ]
        refine wpAnyH_ready (rs:= [18]) (by kernel_rfl) (by simp) ?_;refine AllReadyH.cons rfl (fun K hK=> ?_) AllReadyH.nil;refine fA _ (by rfl) _ _ 37 (by rfl) w5 31 j0 (.slice none 0 0) 24 wE hj0 hm0 hm1 hm2 rfl (.slice Ao qs.length co) qs.length Fe (by rfl) ((own_below kG Kw (aL)).alloc (.cells #[.slice A6 L c6] 31)) (w6.alloc (.cells #[.slice A6 L c6] 31)).heap.size (some ⟨w6,0,none⟩) 1 1 [.slice A6 L c6] (by rfl) (BK (xs:= [.slice A6 L c6]) (sN w6 _) rfl (by simp)) (by simp[Value.oneCell']) (by have:=kH.out;unfold maxLen;omega) (by have:=kH.out;omega) (by simp;omega) ?_;intro v7 w7 sU jC _;obtain ⟨A7,c7,rfl,hs7,_⟩:=aY sU;obtain ⟨⟨r0,ri,rg,hrk⟩,hfin⟩:=Kv c0 c1 c2 c3 Xa cn bo kG rfl hpx Kw hv6 RX.out sU jC abS (by omega) (by omega) (by omega) (by omega) hKW hK2 hKf;have r7:=r0.cell 7;have UK:=ri.cell 0;have rg7:=rg.cell 7;have rgf:=rg.frozen 7;simp at r7 UK rg7;have MH:=(hrk (ad.add k) (by rw[block_add];have:=qw.size;omega)).trans hck;have lz:=ah hfin;clear hfin;refine hK.out _ _ ⟨r7,UK,MH⟩ (fun hHeld=> ?_);clear hK K
        try simp only[Act.put,gJ]
        refine wpAnyH_take (i:=19) (v:= ?_) rfl (by kernel_rfl) (by kernel_rfl) (by kernel_rfl) (fun _ _ _ h=>h) (Or.inl ⟨by rfl,?_⟩) hHeld ?_;rotate_left
        ·intro w' hSw;obtain ⟨hS1,hS2,DD⟩:=hSw;go_simp
         try with_reducible rfl
        simp only[Act.put,kW,lY,mX,kU,kX,kK];refine wpAnyH_take (i:=20) (v:= ?_) rfl (by kernel_rfl) (by kernel_rfl) (by kernel_rfl) (fun _ _ _ h=>h) (Or.inl ⟨by rfl,?_⟩) hHeld ?_;rotate_left
        ·intro w' hSw;obtain ⟨hS1,hS2,DD⟩:=hSw;go_simp
         try with_reducible rfl
        simp only[Act.put,kW,lY,mX,kU,kX,kK];refine wpAnyH_ready (rs:= [21]) (by kernel_rfl) (by simp) ?_;refine AllReadyH.cons rfl (fun K hK=> ?_) AllReadyH.nil;go_simp;refine hK.out _ _ ⟨(JZ w7 ⟨go,7,none⟩ ⟨w,7,none⟩ _ (by simp<;>omega)).trans r7,(JZ w7 ⟨go,7,none⟩ ⟨bi,0,none⟩ _ (by simp)).trans UK,(JZ w7 ⟨go,7,none⟩ (ad.add k) _ (fun e=>by have h9:(ad.add k).block=go:=(by rw[<-e]);rw[block_add] at h9;have:=qw.size;omega)).trans MH⟩ (fun hHeld=> ?_);clear hK K
        try simp only[Act.put,gJ]
        refine wpAnyH_done (by kernel_rfl) ?_ _
        gi_wp2_with fail
        gi_meet
        rw[HKD.out];exact lz.out
       ·go_simp;refine hK.out _ _ ⟨(yx w6 _ ⟨w,7,none⟩ hu0).trans hHeld.1,(yx w6 _ ⟨bi,0,none⟩ hui).trans hHeld.2.1,(yx w6 _ (ad.add k) huk).trans hHeld.2.2⟩ (fun hHeld=> ?_);clear hK K
        try simp only[Act.put,gJ]
        have o77:=(yx w6 (.cells #[.slice A6 L c6] 31) ⟨go,7,none⟩ hug).trans o76;refine wpAnyH_ready (rs:= [2]) (by kernel_rfl) (by simp) ?_;refine AllReadyH.cons rfl (fun K hK=> ?_) AllReadyH.nil;go_simp;refine hK.out _ _ hHeld (fun hHeld=> ?_);clear hK K
        try simp only[Act.put,gJ]
        refine wpAnyH_ready (rs:= [18]) (by kernel_rfl) (by simp) ?_;refine AllReadyH.cons rfl (fun K hK=> ?_) AllReadyH.nil;refine fA _ (by rfl) _ _ 37 (by rfl) w5 31 j0 (.slice none 0 0) 24 wE hj0 hm0 hm1 hm2 rfl (.slice Ao qs.length co) qs.length Fe (by rfl) ((own_below kG Kw (aL)).alloc (.cells #[.slice A6 L c6] 31)) (w6.alloc (.cells #[.slice A6 L c6] 31)).heap.size (some ⟨w6,0,none⟩) 1 1 [.slice A6 L c6] (by rfl) (BK (xs:= [.slice A6 L c6]) (sN w6 _) rfl (by simp)) (by simp[Value.oneCell']) (by have:=kH.out;unfold maxLen;omega) (by have:=kH.out;omega) (by simp;omega) ?_;intro v7 w7 sU jC _;obtain ⟨A7,c7,rfl,hs7,_⟩:=aY sU;obtain ⟨⟨r0,ri,rg,hrk⟩,hfin⟩:=Kv c0 c1 c2 c3 Xa cn bo kG rfl hpx Kw hv6 RX.out sU jC abS (by omega) (by omega) (by omega) (by omega) hKW hK2 hKf;have r7:=r0.cell 7;have UK:=ri.cell 0;have rg7:=rg.cell 7;have rgf:=rg.frozen 7;simp at r7 UK rg7;have MH:=(hrk (ad.add k) (by rw[block_add];have:=qw.size;omega)).trans hck;have lz:=ah hfin;clear hfin;refine hK.out _ _ ⟨r7,UK,MH⟩ (fun hHeld=> ?_);clear hK K
        try simp only[Act.put,gJ]
        refine wpAnyH_take (i:=19) (v:= ?_) rfl (by kernel_rfl) (by kernel_rfl) (by kernel_rfl) (fun _ _ _ h=>h) (Or.inl ⟨by rfl,?_⟩) hHeld ?_;rotate_left
        ·intro w' hSw;obtain ⟨hS1,hS2,DD⟩:=hSw;go_simp
         try with_reducible rfl
        simp only[Act.put,kW,lY,mX,kU,kX,kK];refine wpAnyH_take (i:=20) (v:= ?_) rfl (by kernel_rfl) (by kernel_rfl) (by kernel_rfl) (fun _ _ _ h=>h) (Or.inl ⟨by rfl,?_⟩) hHeld ?_;rotate_left
        ·intro w' hSw;obtain ⟨hS1,hS2,DD⟩:=hSw;go_simp
         try with_reducible rfl
        simp only[Act.put,kW,lY,mX,kU,kX,kK];refine wpAnyH_ready (rs:= [21]) (by kernel_rfl) (by simp) ?_;refine AllReadyH.cons rfl (fun K hK=> ?_) AllReadyH.nil;go_simp;refine hK.out _ _ ⟨(JZ w7 ⟨go,7,none⟩ ⟨w,7,none⟩ _ (by simp<;>omega)).trans r7,(JZ w7 ⟨go,7,none⟩ ⟨bi,0,none⟩ _ (by simp)).trans UK,(JZ w7 ⟨go,7,none⟩ (ad.add k) _ (fun e=>by have h9:(ad.add k).block=go:=(by rw[<-e]);rw[block_add] at h9;have:=qw.size;omega)).trans MH⟩ (fun hHeld=> ?_);clear hK K
        try simp only[Act.put,gJ]
        refine wpAnyH_done (by kernel_rfl) ?_ _
        gi_wp2_with fail
        gi_meet
        rw[HKD.out];exact lz.out
     ·have hkc:=HKC.out;rw[aP hhit] at hkc;have HKD:=ah hkc;clear hkc HKC
      gi_wp2_with fail
      gi_meet
      rw[HKD.out];exact ⟨c0,c1,c2,c3,Xa,cn,⟨Ao,co,bo,Fe,kG,hpx⟩,hKW,hK2,hKf⟩
    case rest=>
     have hm:oN w w5.heap.size go bi bn sn po sg la off s e (some ad) n c jB fr till w5 W k (aO ps off fr till (k+1)) (bQ ps s off fr k) (dN ps e off till k) wc:=by
      obtain ⟨q0,q1,q2,q3,q4,q5,q6,q7,q8,q9⟩:=hcut;exact ⟨q0,q1,q2,q3,q4,q5,q6,q7,q8,q9⟩
     clear hcut x0 x1 x2 x3 x4 x5 x6 x7 o0 o1 o2 o3 o4 o5 o6 o7 y1 y2 yi yn HKC abT HMX HMY AJ hck hBW hpx kG bo cn Xa c3 c2 c1 c0 hKW hKf hK2 hHeld hvZ;have hs1:bQ ps s off fr (k+1)=(bQ ps s off fr k||(decide (ka=fr)&&(decide (0<k)||s))):=by
      show (bQ ps s off fr k||(decide (off+aj (ps.take k)=fr)&&(decide (0<k)||s)))=_
      rw[HKA.out]
     have he1:dN ps e off till (k+1)=(dN ps e off till k||(decide (kb=till)&&(decide (k+1<n)||e))):=by
      show (dN ps e off till k||(decide (off+aj (ps.take (k+1))=till)&&(decide (k+1<ps.length)||e)))=_
      rw[Yh.out,kH.out]
     generalize hst:bQ ps s off fr k=st at*;generalize hen:dN ps e off till k=en at*;generalize hst':bQ ps s off fr (k+1)=st' at*;generalize afI:dN ps e off till (k+1)=en' at*;generalize hqs:aO ps off fr till (k+1)=qs at*;have HST:=ah hst';have O8:=ah afI;have HQS:=ah hqs;have HE1:=ah he1;clear hst hen hst' afI hqs he1;have AL:bi≠go:=by omega
     have C4:bn≠go:=by omega
     gi_upto_region 14 with (fail)
     gi_cut [] from 95 (fun wx=>oN w w5.heap.size go bi bn sn po sg la off s e (some ad) n c jB fr till w5 W k qs st' en wx)
     case first=>
      obtain ⟨A',c',m1,m2⟩:=hm.out;obtain ⟨x0,x1,x2,x3,x4,x5,x6,x7⟩:=hm.b0.eight;obtain ⟨o0,o1,o2,o3,o4,o5,o6,o7⟩:=m1.eight;have of:=m1.frozen 5;have y1:=hm.b1.cell 0;have y2:=hm.b2.cell 0;have yi:=hm.di.cell 0;have yn:=hm.dn.cell 0;simp at y1 y2 yi yn;cases st with
      |true=>
       obtain rfl:st'=true:=by simpa using hs1
       clear hs1
       gi_wp2_with fail
       gi_meet
       exact hm.Yc MG AL C4 true
      |false=>
       by_cases hq:ka=fr
       ·have hq':((ka:Int)==(fr:Int))=true:=by simp;omega
        have hs2:st'=(decide (0<k)||s):=by rw[hs1,hq];simp
        clear hs1 hq;by_cases hk0:0<k
        ·have hk0':(0:Int)<k:=by omega
         obtain rfl:st'=true:=by rw[hs2];simp[hk0]
         clear hs2
         gi_wp2_with fail
         gi_meet
         exact hm.Yc MG AL C4 true
        ·have hk0':¬(0:Int)<k:=by omega
         obtain rfl:st'=s:=by rw[hs2];simp[hk0]
         clear hs2
         gi_wp2_with fail
         gi_meet
         exact hm.Yc MG AL C4 st'
       ·have hq':((ka:Int)==(fr:Int))=false:=by simp;omega
        obtain rfl:st'=false:=by rw[hs1];simp[hq]
        clear hs1 hq
        gi_wp2_with fail
        gi_meet
        exact hm.Yc MG AL C4 false
     case rest=>
      clear hm hs1 st;have hs1:=HE1.out;have hnn:n<=64:=by have:=kH.out;omega
      have hwk:IntKind.i64.wrap ((k:Int)+1)=(k:Int)+1:=iG _ (by omega)
      gi_upto_region 15 with (fail)
      gi_cut [] from 114 (fun wx=>oN w w5.heap.size go bi bn sn po sg la off s e (some ad) n c jB fr till w5 W k qs st' en' wx)
      case first=>
       obtain ⟨A',c',m1,m2⟩:=hcut.out;obtain ⟨x0,x1,x2,x3,x4,x5,x6,x7⟩:=hcut.b0.eight;obtain ⟨o0,o1,o2,o3,o4,o5,o6,o7⟩:=m1.eight;have of:=m1.frozen 6;have y1:=hcut.b1.cell 0;have y2:=hcut.b2.cell 0;have yi:=hcut.di.cell 0;have yn:=hcut.dn.cell 0;simp at y1 y2 yi yn;cases en with
       |true=>
        obtain rfl:en'=true:=by simpa using hs1
        clear hs1
        gi_wp2_with fail
        gi_meet
        exact hcut.Yd MG AL C4 true
       |false=>
        by_cases hq:kb=till
        ·have hq':((kb:Int)==(till:Int))=true:=by simp;omega
         have hs2:en'=(decide (k+1<n)||e):=by rw[hs1,hq];simp
         clear hs1 hq;by_cases hk0:k+1<n
         ·have hk0':(k:Int)+1<n:=by omega
          obtain rfl:en'=true:=by rw[hs2];simp[hk0]
          clear hs2
          gi_wp2_with fail
          gi_meet
          exact hcut.Yd MG AL C4 true
         ·have hk0':¬(k:Int)+1<n:=by omega
          obtain rfl:en'=e:=by rw[hs2];simp[hk0]
          clear hs2
          gi_wp2_with fail
          gi_meet
          exact hcut.Yd MG AL C4 en'
        ·have hq':((kb:Int)==(till:Int))=false:=by simp;omega
         obtain rfl:en'=false:=by rw[hs1];simp[hq]
         clear hs1 hq
         gi_wp2_with fail
         gi_meet
         exact hcut.Yd MG AL C4 false
      case rest=>
       have yi:=hcut.di.cell 0;have yf:=hcut.di.frozen 0;simp at yi
       gi_wp2_with fail
       have hmn:=hcut.next (by omega) AL hin
       refine ⟨hmn.kf,hmn.k2,hmn.b0,hmn.b1,hmn.b2,hmn.b3,hmn.di,hmn.dn,?_,hmn.kp⟩;rw[HST.out,O8.out,HQS.out];exact hmn.out
   case hdone=>
    intro D W hD hI MI;obtain ⟨Ao,co,bo,hpo⟩:=hI.out;have b3:=hI.b3;unfold dh at bo b3;have bl:=kH.out;rw[bl] at bo hpo;generalize hqs:aO ps off fr till n=qs at*;generalize hst:bQ ps s off fr n=st at*;generalize hen:dN ps e off till n=en at*;clear hqs hst hen;obtain ⟨o0,o1,o2,o3,o4,o5,o6,o7⟩:=bo.eight;have f0:=b3.frozen 0;have f1:=b3.frozen 1;have f2:=b3.frozen 2;have f3:=b3.frozen 3;have f4:=b3.frozen 4;have f5:=b3.frozen 5;have f6:=b3.frozen 6;have f7:=b3.frozen 7;obtain ⟨z0,z1,z2,z3,z4,z5,z6,z7⟩:=b3.eight
    gi_wp2
    go_wp2;have hBW:Below w w W:=qw.trans (hI.kp.below (B:=w.heap.size) (fun j _ hj=>by have:=qw.size;omega) qw.size);obtain ⟨r1,r2,r3,r4⟩:=Ye (B0:=w.heap.size) (D:=D) b3 MI hpo hBW (by omega) (by have:=qw.size;omega) qw.size sn (.bool false) (.bool true) (.bool jB) fr (.bool st) (.bool en);refine ⟨by simp,.inl ⟨_,_,rfl,Cx r1,?_⟩⟩;obtain ⟨q0,q1,q2,q3,q4,q5,q6,q7⟩:=r2.eight;exact ⟨.tuple #[.agg (dh sn false true jB fr st en Ao qs.length co),.int .i64 0],by simp[results,results128,go_sem,q0,q1,q2,q3,q4,q5,q6,q7,dh],r4,Ao,co,rfl,r3⟩
end Go.Proofs.YtbhiklnljiehiaaGreat
