/- ampdu.Cut of a range within the PDU. -/
import Derived.Test.YtiecgfahidpldaaGreatM3af
import Derived.Sort.CutIn
namespace Go.Proofs.YtiecgfahidpldaaGreat
section
open Go.RowKit Go.Shelf
attribute [local go_sem] Oper.semAt_some
theorem Ch {w w':World} {base:Nat} {e:TypeId} {n:Nat} {v:Value} {xs:List Value} {row:Option Nat} (h:w.ownsRow base e 1 v n xs) (hg:w.grownBy w' row) (hr:∀r,row=some r→∃o:Obj,w.heap[r]? =some o∧o.isCells=false):w'.ownsRow base e 1 v n xs:=by
 refine h.kept hg ?_;rcases hv:v.ownBlock with _|j
 ·exact .inl rfl
 ·refine .inr (fun e'=> ?_);obtain ⟨o,ho,⟨cs,fr',rfl⟩,_⟩:=bV h hv;obtain ⟨o',ho',hc⟩:=hr j e'.symm;rw[ho] at ho';cases ho';cases hc
theorem eO {w w':World} {g:Nat} {t:TypeId} {cs:Array Value} {row:Option Nat} (h:aA w g t cs) (hg:w.grownBy w' row) (hr:∀r,row=some r→∃o:Obj,w.heap[r]? =some o∧o.isCells=false):aA w' g t cs:=by
 refine h.grown hg (fun e=> ?_);obtain ⟨o',ho',hc⟩:=hr g e.symm;rw[show w.heap[g]? =_ from h] at ho';cases ho';cases hc
theorem aN.quiet {w w':World} {base:Nat} {vo:Value} {ps:List (List UInt8)} {row:Option Nat} (h:aN w base vo ps) (hg:w.grownBy w' row) (hr:∀r,row=some r→∃o:Obj,w.heap[r]? =some o∧o.isCells=false):aN w' base vo ps:=by
 obtain ⟨vs,h1,h2⟩:=h;exact ⟨vs,Ch h1 hg hr,fun i p hi=>let ⟨A,c,e,ho⟩:=h2 i p hi;⟨A,c,e,Ch ho hg hr⟩⟩
theorem Dy {w5 W V w6 w7:World} {B Z go bi bn m L:Nat} {x0 x1 x2:Array Value} {x3 x4 x5:Array Value} {g0 g1 g2 g3 g4 g5 g6:Value} {Ao A6 A7:Option Addr} {co c6 c7:Nat} {yK:List Value} {qs:List (List UInt8)} {pp:List UInt8}
 (c0:aA V B 72 x0) (c1:aA V (B+1) 3 x1) (c2:aA V (B+1+1) 3 x2) (c3:aA V (B+1+1+1) 72 x3) (ci:aA V bi 3 x4) (cn:aA V bn 3 x5) (bo:aA V go 72 #[g0,g1,g2,g3,g4,g5,g6,.slice Ao m co])
 (jM:V.ownsRow Z 22 1 (.slice Ao m co) m yK) (hm:qs.length=m)
 (hpx:∀(i:Nat) (p:List UInt8),qs[i]? =some p→∃A c,yK[i]? =some (.slice A p.length c)∧V.ownsRow Z 5 1 (.slice A p.length c) p.length (cu p))
 (hb6:Below V.heap.size V w6) (hv6:w6.ownsRow V.heap.size 5 1 (.slice A6 L c6) L (cu pp)) (hpl:pp.length=L)
 (lg:w7.ownsRow Z 22 1 (.slice A7 (m+1) c7) (m+1) (yK++ [.slice A6 L c6])) (fP:(w6.alloc (.cells #[.slice A6 L c6] 22)).grownBy w7 (Value.slice Ao m co).ownBlock)
 (hZ:Z≤V.heap.size) (_hgo:go<Z) (hB:B+1+1+1<go) (hbi:bi≠go) (hbn:bn≠go)
 (hKW:Kept (fun j _=>j=go∨j=bi∨Z≤j) w5 V) (hK2:Kept (fun j _=>j=go∨j=bi∨Z≤j) W V) (hKf:KeepsFrom Z W V):
 (aA w7 B 72 x0∧aA w7 bi 3 x4∧aA w7 go 72 #[g0,g1,g2,g3,g4,g5,g6,.slice Ao m co]∧(∀p:Addr,p.block<Z→w7.cell? p=V.cell? p))∧
 (aA (w7.setCell ⟨go,7,none⟩ (.slice A7 (m+1) c7)) B 72 x0∧aA (w7.setCell ⟨go,7,none⟩ (.slice A7 (m+1) c7)) (B+1) 3 x1∧aA (w7.setCell ⟨go,7,none⟩ (.slice A7 (m+1) c7)) (B+1+1) 3 x2∧aA (w7.setCell ⟨go,7,none⟩ (.slice A7 (m+1) c7)) (B+1+1+1) 72 x3∧
  aA (w7.setCell ⟨go,7,none⟩ (.slice A7 (m+1) c7)) bi 3 x4∧aA (w7.setCell ⟨go,7,none⟩ (.slice A7 (m+1) c7)) bn 3 x5∧
  (∃A' c',aA (w7.setCell ⟨go,7,none⟩ (.slice A7 (m+1) c7)) go 72 #[g0,g1,g2,g3,g4,g5,g6,.slice A' (qs++ [pp]).length c']∧aN (w7.setCell ⟨go,7,none⟩ (.slice A7 (m+1) c7)) Z (.slice A' (qs++ [pp]).length c') (qs++ [pp]))∧
  Kept (fun j _=>j=go∨j=bi∨Z≤j) w5 (w7.setCell ⟨go,7,none⟩ (.slice A7 (m+1) c7))∧Kept (fun j _=>j=go∨j=bi∨Z≤j) W (w7.setCell ⟨go,7,none⟩ (.slice A7 (m+1) c7))∧KeepsFrom Z W (w7.setCell ⟨go,7,none⟩ (.slice A7 (m+1) c7))):=by
 have hown:∀j,(Value.slice Ao m co).ownBlock=some j→Z≤j∧j<V.heap.size:=fun j hj=>jM.lt j hj
 have key:∀{g:Nat} {t:TypeId} {cs:Array Value},aA V g t cs→t≠22→aA w7 g t cs:=fun {g t cs} hg ht=>
  ((hg.below hb6 hg.lt).alloc _).grown fP (fun e=>aF jM hg (fun e'=>ht e'.symm) e.symm)
 have d0:=key c0 (by decide);have d1:=key c1 (by decide);have d2:=key c2 (by decide);have d3:=key c3 (by decide);have di:=key ci (by decide);have dn:=key cn (by decide);have dg:=key bo (by decide);have hs6:=hb6.size;have U1:Below Z V w7:=((hb6.mono hZ).alloc (by omega) _).grown fP (by simp;omega) (fun j hj=>(hown j hj).1);have adO:=fP.size;rw[World.size_alloc] at adO;have Nv:Kept (fun j _=>j=go∨j=bi∨Z≤j) V (w7.setCell ⟨go,7,none⟩ (.slice A7 (m+1) c7)):=by
  have h1:Kept (fun j _=>j=go∨j=bi∨Z≤j) V w6:=(Kept.of_below hb6).mono (fun j _ hj=> .inr (.inr (by omega)));exact (((h1.alloc _).grown fP (fun j hj _ _=> .inr (.inr (hown j hj).1)))).setCell (p:=⟨go,7,none⟩) (fun _ _=> .inl rfl) _
 have adP:KeepsFrom Z V (w7.setCell ⟨go,7,none⟩ (.slice A7 (m+1) c7)):=by
  refine KeepsFrom.trans (Y:=w6) ⟨hs6,fun k o _ hk _=>(hb6.block k (lt_of_heap hk)).trans hk⟩ ?_;refine ((KeepsOthers.alloc w6 _).from Z).trans (((KeepsOthers.of_grownBy fP (fun j o hj ho=> ?_)).from Z).trans ((KeepsOthers.setCell _ _ _).from Z));obtain ⟨o',ho',⟨cs,fr',rfl⟩,_⟩:=bV ((own_below jM hb6 (Nat.le_refl _)).alloc (.cells #[.slice A6 L c6] 22)) hj;rw[ho] at ho';cases ho';rfl
 refine ⟨⟨d0,di,dg,fun p hp=>U1.cell hp⟩,d0.far (by simp;omega) _,d1.far (by simp;omega) _,d2.far (by simp;omega) _,d3.far (by simp;omega) _,di.far (by simpa using hbi) _,dn.far (by simpa using hbn) _,?_,hKW.trans Nv,hK2.trans Nv,hKf.trans adP⟩;have hl:(qs++ [pp]).length=m+1:=by simp[hm]
 refine ⟨A7,c7,by rw[hl];simpa using dg.aC 7 (.slice A7 (m+1) c7),yK++ [.slice A6 L c6],by rw[hl];exact aO (i:=7) lg dg (by decide) _,fun i p hi=> ?_⟩;have hvl:yK.length=m:=by have:=(dZ jM).len;exact this
 have Nw:∀{A:Option Addr} {c:Nat} {p:List UInt8} {base:Nat},w6.ownsRow base 5 1 (.slice A p.length c) p.length (cu p)→(w7.setCell ⟨go,7,none⟩ (.slice A7 (m+1) c7)).ownsRow base 5 1 (.slice A p.length c) p.length (cu p):=fun {A c p base} h5=>by
  have h6:=(h5.alloc (.cells #[.slice A6 L c6] 22)).kept fP (by
   rcases hq:(Value.slice A p.length c).ownBlock with _|j
   ·exact .inl rfl
   ·refine .inr (fun e=> ?_);obtain ⟨o1,ho1,⟨cs1,Yh,rfl⟩,_⟩:=bV h5 hq;obtain ⟨o2,ho2,⟨cs2,Yi,rfl⟩,_⟩:=bV (own_below jM hb6 (Nat.le_refl _)) e.symm;rw[ho1] at ho2;cases ho2)
  exact aO (i:=7) h6 dg (by decide) _
 by_cases hi2:i<m
 ·rw[List.getElem?_append_left (by omega)] at hi;obtain ⟨A,c,e1,h5⟩:=hpx i p hi;exact ⟨A,c,by rw[List.getElem?_append_left (by omega)];exact e1,Nw (own_below h5 hb6 (Nat.le_refl _))⟩
 ·rw[List.getElem?_append_right (by omega)] at hi;have hi0:i=m:=by
   have:=(List.getElem?_eq_some_iff.1 hi).1;simp at this;omega
  subst hi0;rw[hm] at hi;simp at hi;subst hi;subst hpl;refine ⟨A6,c6,?_,Nw (aW hv6 hZ)⟩;rw[List.getElem?_append_right (by omega),hvl];simp
structure IU (B Z go bi bn:Nat) (sn:Int) (po sg la:Bool) (off:Nat) (s e:Bool) (A:Option Addr) (n c:Nat) (ps:List (List UInt8)) (gN:Bool) (fr till:Nat) (w5:World) (k:Nat) (W:World):Prop where
 b0:aA W B 72 (aY sn po sg la off s e A n c)
 b1:aA W (B+1) 3 #[.int .i64 fr]
 b2:aA W (B+1+1) 3 #[.int .i64 till]
 b3:aA W (B+1+1+1) 72 (aY 0 false false false 0 false false none 0 0)
 di:aA W bi 3 #[.int .i64 k]
 dn:aA W bn 3 #[.int .i64 n]
 out:∃A' c',aA W go 72 (aY sn false true gN fr (aM ps s off fr k) (bI ps e off till k) A' (aD ps off fr till k).length c')∧aN W Z (.slice A' (aD ps off fr till k).length c') (aD ps off fr till k)
 kp:Kept (fun j _=>j=go∨j=bi∨Z≤j) w5 W
structure kV (B Z go bi bn:Nat) (sn:Int) (po sg la:Bool) (off:Nat) (s e:Bool) (A:Option Addr) (n c:Nat) (gN:Bool) (fr till:Nat) (w5 W:World) (k:Nat) (qs:List (List UInt8)) (b5 b6:Bool) (X:World):Prop where
 b0:aA X B 72 #[.int .i64 sn,.bool po,.bool sg,.bool la,.int .i64 off,.bool s,.bool e,.slice A n c]
 b1:aA X (B+1) 3 #[.int .i64 fr]
 b2:aA X (B+1+1) 3 #[.int .i64 till]
 b3:aA X (B+1+1+1) 72 (aY 0 false false false 0 false false none 0 0)
 di:aA X bi 3 #[.int .i64 k]
 dn:aA X bn 3 #[.int .i64 n]
 out:∃A' c',aA X go 72 #[.int .i64 sn,.bool false,.bool true,.bool gN,.int .i64 fr,.bool b5,.bool b6,.slice A' qs.length c']∧aN X Z (.slice A' qs.length c') qs
 kp:Kept (fun j _=>j=go∨j=bi∨Z≤j) w5 X
 k2:Kept (fun j _=>j=go∨j=bi∨Z≤j) W X
 kf:KeepsFrom Z W X
theorem aN.store {w:World} {base g t i:Nat} {cs:Array Value} {vo:Value} {ps:List (List UInt8)} (h:aN w base vo ps) (hb:aA w g t cs) (h29:22≠t) (h5:5≠t) (x:Value):aN (w.setCell ⟨g,i,none⟩ x) base vo ps:=by
 obtain ⟨vs,h1,h2⟩:=h;exact ⟨vs,aO h1 hb h29 _,fun j p hj=>let ⟨A,c,e,ho⟩:=h2 j p hj;⟨A,c,e,aO ho hb h5 _⟩⟩
section
variable {B Z go bi bn:Nat} {sn:Int} {po sg la:Bool} {off:Nat} {s e:Bool} {A:Option Addr} {n c:Nat} {gN:Bool} {fr till:Nat} {w5 W:World} {k:Nat} {qs:List (List UInt8)} {b5 b6:Bool} {X:World}
theorem kV.QF (h:kV B Z go bi bn sn po sg la off s e A n c gN fr till w5 W k qs b5 b6 X) (hB:B+1+1+1<go) (hi:bi≠go) (hn:bn≠go) (b:Bool):
 kV B Z go bi bn sn po sg la off s e A n c gN fr till w5 W k qs b b6 (X.setCell ⟨go,5,none⟩ (.bool b)):=by
 obtain ⟨A',c',h1,h2⟩:=h.out;have hK:Kept (fun j _=>j=go∨j=bi∨Z≤j) X (X.setCell ⟨go,5,none⟩ (.bool b)):=(Kept.refl _ X).setCell (p:=⟨go,5,none⟩) (fun _ _=> .inl rfl) _;exact ⟨h.b0.far (by simp;omega) _,h.b1.far (by simp;omega) _,h.b2.far (by simp;omega) _,h.b3.far (by simp;omega) _,h.di.far (by simpa using hi) _,h.dn.far (by simpa using hn) _,
  ⟨A',c',by simpa using h1.aC 5 (.bool b),h2.store h1 (by decide) (by decide) _⟩,h.kp.trans hK,h.k2.trans hK,h.kf.trans ((KeepsOthers.setCell _ _ _).from Z)⟩
theorem kV.QG (h:kV B Z go bi bn sn po sg la off s e A n c gN fr till w5 W k qs b5 b6 X) (hB:B+1+1+1<go) (hi:bi≠go) (hn:bn≠go) (b:Bool):
 kV B Z go bi bn sn po sg la off s e A n c gN fr till w5 W k qs b5 b (X.setCell ⟨go,6,none⟩ (.bool b)):=by
 obtain ⟨A',c',h1,h2⟩:=h.out;have hK:Kept (fun j _=>j=go∨j=bi∨Z≤j) X (X.setCell ⟨go,6,none⟩ (.bool b)):=(Kept.refl _ X).setCell (p:=⟨go,6,none⟩) (fun _ _=> .inl rfl) _;exact ⟨h.b0.far (by simp;omega) _,h.b1.far (by simp;omega) _,h.b2.far (by simp;omega) _,h.b3.far (by simp;omega) _,h.di.far (by simpa using hi) _,h.dn.far (by simpa using hn) _,
  ⟨A',c',by simpa using h1.aC 6 (.bool b),h2.store h1 (by decide) (by decide) _⟩,h.kp.trans hK,h.k2.trans hK,h.kf.trans ((KeepsOthers.setCell _ _ _).from Z)⟩
theorem kV.next (h:kV B Z go bi bn sn po sg la off s e A n c gN fr till w5 W k qs b5 b6 X) (hB:B+1+1+1<bi) (hi:bi≠go) (hn:bi≠bn):
 kV B Z go bi bn sn po sg la off s e A n c gN fr till w5 W (k+1) qs b5 b6 (X.setCell ⟨bi,0,none⟩ (.int .i64 ((k:Int)+1))):=by
 obtain ⟨A',c',h1,h2⟩:=h.out;have hK:Kept (fun j _=>j=go∨j=bi∨Z≤j) X (X.setCell ⟨bi,0,none⟩ (.int .i64 ((k:Int)+1))):=(Kept.refl _ X).setCell (p:=⟨bi,0,none⟩) (fun _ _=> .inr (.inl rfl)) _;refine ⟨h.b0.far (by simp;omega) _,h.b1.far (by simp;omega) _,h.b2.far (by simp;omega) _,h.b3.far (by simp;omega) _,?_,h.dn.far (by simpa using fun e=>hn e.symm) _,
  ⟨A',c',h1.far (by simpa using fun e=>hi e.symm) _,h2.store h.di (by decide) (by decide) _⟩,h.kp.trans hK,h.k2.trans hK,h.kf.trans ((KeepsOthers.setCell _ _ _).from Z)⟩
 simpa using h.di.aC 0 (.int .i64 ((k:Int)+1))
end
theorem aN.mQ {w:World} {b b':Nat} {vo:Value} {ps:List (List UInt8)} (h:aN w b vo ps) (hb:b'≤b):aN w b' vo ps:=by
 obtain ⟨vs,h1,h2⟩:=h;exact ⟨vs,aW h1 hb,fun j p hj=>let ⟨A,c,e,ho⟩:=h2 j p hj;⟨A,c,e,aW ho hb⟩⟩
theorem QH {W:World} {B0 B g D Z:Nat} {w:World} {x0 x1 x2 x3 x4 x5 x6 x7:Value} {vo:Value} {ps:List (List UInt8)} (b:aA W g 72 #[x0,x1,x2,x3,x4,x5,x6,x7]) (hD:W.heap[D]? =some (.deferred (some []))) (hp:aN W Z vo ps) (hb:Below B w W) (hg:B≤g) (hBD:B≤D) (hZ:B0≤Z) (u0 u1 u2 u3 u4 u5 u6:Value):
 ((((((((W.setCell ⟨g,0,none⟩ u0).setCell ⟨g,1,none⟩ u1).setCell ⟨g,2,none⟩ u2).setCell ⟨g,3,none⟩ u3).setCell ⟨g,4,none⟩ u4).setCell ⟨g,5,none⟩ u5).setCell ⟨g,6,none⟩ u6).setCell ⟨g,7,none⟩ vo).heap[D]? =some (.deferred (some []))∧
 aA (((((((((W.setCell ⟨g,0,none⟩ u0).setCell ⟨g,1,none⟩ u1).setCell ⟨g,2,none⟩ u2).setCell ⟨g,3,none⟩ u3).setCell ⟨g,4,none⟩ u4).setCell ⟨g,5,none⟩ u5).setCell ⟨g,6,none⟩ u6).setCell ⟨g,7,none⟩ vo).putObj D (.deferred none)) g 72 #[u0,u1,u2,u3,u4,u5,u6,vo]∧
 aN (((((((((W.setCell ⟨g,0,none⟩ u0).setCell ⟨g,1,none⟩ u1).setCell ⟨g,2,none⟩ u2).setCell ⟨g,3,none⟩ u3).setCell ⟨g,4,none⟩ u4).setCell ⟨g,5,none⟩ u5).setCell ⟨g,6,none⟩ u6).setCell ⟨g,7,none⟩ vo).putObj D (.deferred none)) B0 vo ps∧
 Below B w (((((((((W.setCell ⟨g,0,none⟩ u0).setCell ⟨g,1,none⟩ u1).setCell ⟨g,2,none⟩ u2).setCell ⟨g,3,none⟩ u3).setCell ⟨g,4,none⟩ u4).setCell ⟨g,5,none⟩ u5).setCell ⟨g,6,none⟩ u6).setCell ⟨g,7,none⟩ vo).putObj D (.deferred none)):=by
 have h1:=b.Ba u0 u1 u2 u3 u4 u5 u6 vo;have h2:aN ((((((((W.setCell ⟨g,0,none⟩ u0).setCell ⟨g,1,none⟩ u1).setCell ⟨g,2,none⟩ u2).setCell ⟨g,3,none⟩ u3).setCell ⟨g,4,none⟩ u4).setCell ⟨g,5,none⟩ u5).setCell ⟨g,6,none⟩ u6).setCell ⟨g,7,none⟩ vo) B0 vo ps:=by
  have k0:=hp.store (i:=0) b (by decide) (by decide) u0;have k1:=k0.store (i:=1) (b.aC 0 u0) (by decide) (by decide) u1;have k2:=k1.store (i:=2) ((b.aC 0 u0).aC 1 u1) (by decide) (by decide) u2;have k3:=k2.store (i:=3) (((b.aC 0 u0).aC 1 u1).aC 2 u2) (by decide) (by decide) u3;have k4:=k3.store (i:=4) ((((b.aC 0 u0).aC 1 u1).aC 2 u2).aC 3 u3) (by decide) (by decide) u4;have k5:=k4.store (i:=5) (((((b.aC 0 u0).aC 1 u1).aC 2 u2).aC 3 u3).aC 4 u4) (by decide) (by decide) u5;have k6:=k5.store (i:=6) ((((((b.aC 0 u0).aC 1 u1).aC 2 u2).aC 3 u3).aC 4 u4).aC 5 u5) (by decide) (by decide) u6;exact (k6.store (i:=7) (((((((b.aC 0 u0).aC 1 u1).aC 2 u2).aC 3 u3).aC 4 u4).aC 5 u5).aC 6 u6) (by decide) (by decide) vo).mQ hZ
 have h3:=iG hb hg u0 u1 u2 u3 u4 u5 u6 vo;have h4:((((((((W.setCell ⟨g,0,none⟩ u0).setCell ⟨g,1,none⟩ u1).setCell ⟨g,2,none⟩ u2).setCell ⟨g,3,none⟩ u3).setCell ⟨g,4,none⟩ u4).setCell ⟨g,5,none⟩ u5).setCell ⟨g,6,none⟩ u6).setCell ⟨g,7,none⟩ vo).heap[D]? =some (.deferred (some [])):=by
  have s:=fun (X:World) (i:Nat) (v:Value) (h:X.heap[D]? =some (.deferred (some [])))=>(KeepsOthers.setCell X ⟨g,i,none⟩ v).same D _ h rfl
  exact s _ 7 _ (s _ 6 _ (s _ 5 _ (s _ 4 _ (s _ 3 _ (s _ 2 _ (s _ 1 _ (s _ 0 _ hD)))))))
 generalize ((((((((W.setCell ⟨g,0,none⟩ u0).setCell ⟨g,1,none⟩ u1).setCell ⟨g,2,none⟩ u2).setCell ⟨g,3,none⟩ u3).setCell ⟨g,4,none⟩ u4).setCell ⟨g,5,none⟩ u5).setCell ⟨g,6,none⟩ u6).setCell ⟨g,7,none⟩ vo)=V at*;have hr:∀r,some D=some r→∃o:Obj,V.heap[r]? =some o∧o.isCells=false:=fun r e=>by cases e;exact ⟨_,h4,rfl⟩
 exact ⟨h4,eO h1 (grownBy_putObj' V D (.deferred none)) hr,h2.quiet (grownBy_putObj' V D (.deferred none)) hr,h3.grown (grownBy_putObj' V D (.deferred none)) (by have:=lt_of_heap h4;omega) (fun j hj=>by cases hj;exact hBD)⟩
theorem IV (B Z go bi bn:Nat) (sn:Int) (po sg la:Bool) (off:Nat) (s e:Bool) (A:Option Addr) (n c:Nat) (ps:List (List UInt8)) (gN:Bool) (fr till:Nat) (w5:World):
 OwnFrom Z (IU B Z go bi bn sn po sg la off s e A n c ps gN fr till w5):=fun k X Y row hs hg hr=>by
 have hr':∀r,row=some r→∃o:Obj,X.heap[r]? =some o∧o.isCells=false:=fun r e=>(hr r e).2
 obtain ⟨A',c',h1,h2⟩:=hs.out;exact ⟨eO hs.b0 hg hr',eO hs.b1 hg hr',eO hs.b2 hg hr',eO hs.b3 hg hr',eO hs.di hg hr',eO hs.dn hg hr',⟨A',c',eO h1 hg hr',h2.quiet hg hr'⟩,
  hs.kp.trans ((Kept.refl _ X).grown hg (fun j e _ _=> .inr (.inr (hr j e).1)))⟩
set_option maxRecDepth 100000 in
set_option maxHeartbeats 8000000 in
theorem Ka (sn:Int) (po sg la:Bool) (off:Nat) (s e:Bool) (A:Option Addr) (n c:Nat) (vs:List Value) (ps:List (List UInt8)) (fr till:Nat) (w:World) (h:gD w w.heap.size A n c vs ps)
 (hv:eP sn sg la off ps=true) (hoff:off≤32767) (h1:off≤fr) (h2:fr<till) (h3:till≤off+au ps):
 Calls Tryz.prog 25 #[.agg (aY sn po sg la off s e A n c),.int .i64 fr,.int .i64 till] w (Fj w sn (decide (till=off+au ps)&&(la|| !sg)) fr (aM ps s off fr n) (bI ps e off till n) (aD ps off fr till n)):=by
 refine (callsIn_wide (n:=5)).1 ?_;have hva:=(iF sn sg la off ps).1 hv;obtain ⟨hlo,hhi,hpos,hshort,hsum⟩:=(fK ps).1 hva.vp;have hlen:=h.len;have qY:∀p∈ps,p.length≤1099511627776:=fun p hp=>by have:=fJ hp;omega
 have hB:=((((Below.refl w.heap.size w).alloc (Nat.le_refl _) (.cells (aY sn po sg la off s e A n c) 72)).alloc (by simp) (.cells #[.int .i64 fr] 3)).alloc (by simp;omega) (.cells #[.int .i64 till] 3)).alloc (by simp;omega) (.cells (aY 0 false false false 0 false false none 0 0) 72);have hA:=(h.below hB).more hB.size;have Nl:=oP sn po sg la off s e A n c vs ps _ hA (by omega) qY;rw[hv] at Nl;have b0:=(((aA.new w 72 (aY sn po sg la off s e A n c)).alloc (.cells #[.int .i64 fr] 3)).alloc (.cells #[.int .i64 till] 3)).alloc (.cells (aY 0 false false false 0 false false none 0 0) 72);have b1:=((aA.new (w.alloc (.cells (aY sn po sg la off s e A n c) 72)) 3 #[.int .i64 fr]).alloc (.cells #[.int .i64 till] 3)).alloc (.cells (aY 0 false false false 0 false false none 0 0) 72);have b2:=(aA.new ((w.alloc (.cells (aY sn po sg la off s e A n c) 72)).alloc (.cells #[.int .i64 fr] 3)) 3 #[.int .i64 till]).alloc (.cells (aY 0 false false false 0 false false none 0 0) 72);have b3:=aA.new (((w.alloc (.cells (aY sn po sg la off s e A n c) 72)).alloc (.cells #[.int .i64 fr] 3)).alloc (.cells #[.int .i64 till] 3)) 72 (aY 0 false false false 0 false false none 0 0);simp only[World.size_alloc] at b1 b2 b3;have HB:=Lib.hid hB;have HV:=Lib.hid Nl;have E4:=Lib.hid qY;have iM:=Lib.hid hlen;have Dw:=Lib.hid hsum;obtain ⟨gN,IW⟩:∃gN,(decide (till=off+au ps)&&(la|| !sg))=gN:=⟨_,rfl⟩
 rw[IW];clear hB Nl qY hv hva hpos hshort hlen;unfold aY at*;refine callsIn_of_wp_marks Tryz.func25 rfl trivial ?_ rfl;simp only[Tryz.ntmps25,List.size_toArray,List.length_cons,List.length_nil,Nat.reduceAdd,Nat.reduceSub,Array.replicate_succ,Array.replicate_zero,List.push_toArray,List.append_toArray,List.nil_append,List.cons_append];refine wpIn_wide.2 ?_;go_wp2_with fail;generalize (((w.alloc (.cells #[.int .i64 sn,.bool po,.bool sg,.bool la,.int .i64 off,.bool s,.bool e,.slice A n c] 72)).alloc (.cells #[.int .i64 fr] 3)).alloc (.cells #[.int .i64 till] 3)).alloc (.cells #[.int .i64 0,.bool false,.bool false,.bool false,.int .i64 0,.bool false,.bool false,.slice none 0 0] 72)=w0 at*;refine HV.out.mono ?_;rintro e1 w1 ⟨rfl,hb1⟩
 replace b0:=b0.below hb1 b0.lt
 replace b1:=b1.below hb1 b1.lt
 replace b2:=b2.below hb1 b2.lt
 replace b3:=b3.below hb1 b3.lt
 have hA1:=(hA.below hb1).more hb1.size;have hB1:=HB.out.trans (hb1.mono HB.out.size);obtain ⟨x0,x1,x2,x3,x4,x5,x6,x7⟩:=b0.eight;clear hA hb1 HV HB;have hsz:=nL s e A n c vs ps w1.drew hA1.drew' (by have:=iM.out;omega) E4.out;have HZ:=Lib.hid hsz;clear hsz E4;obtain ⟨S,hS⟩:∃S,au ps=S:=⟨_,rfl⟩
 rw[hS] at h3 hsum IW HZ;have HS:=Lib.hid hS;have hbl:w.heap.size<w1.drew.heap.size:=b0.lt;have hwrap:IntKind.i64.wrap ((off:Int)+S)=(off:Int)+S:=IntWalk.i64_in _ (by omega);clear hS;go_wp2_with fail
 go_region_held3 (fun w'=>w'.cell? ⟨w.heap.size,4,none⟩=some (.int .i64 off)∧w'.cell? ⟨w.heap.size,5,none⟩=some (.bool s)∧w'.cell? ⟨w.heap.size,6,none⟩=some (.bool e)∧w'.cell? ⟨w.heap.size,7,none⟩=some (.slice A n c))
  (first|(refine ⟨(hb2.cell (p:=⟨w.heap.size,4,none⟩) hbl).trans x4,(hb2.cell (p:=⟨w.heap.size,5,none⟩) hbl).trans x5,(hb2.cell (p:=⟨w.heap.size,6,none⟩) hbl).trans x6,(hb2.cell (p:=⟨w.heap.size,7,none⟩) hbl).trans x7⟩)|go_keep)
  ((go_at_call 72;refine HZ.out.mono ?_;rintro e2 w2 ⟨rfl,hb2⟩))
 clear hwrap
 replace b0:=b0.drew.below hb2 b0.lt
 replace b1:=b1.drew.below hb2 b1.lt
 replace b2:=b2.drew.below hb2 b2.lt
 replace b3:=b3.drew.below hb2 b3.lt
 have hA2:=(hA1.drew'.below hb2).more hb2.size;have hB2:=(hB1.drew).trans (hb2.mono (by have:=hB1.size;simpa using this));clear x0 x1 x2 x3 x4 x5 x6 x7 hB1 hA1 HZ hb2 hbl;obtain ⟨x0,x1,x2,x3,x4,x5,x6,x7⟩:=b0.eight;have y1:=b1.cell 0;have y2:=b2.cell 0;simp at y1 y2;have hk1:¬(fr:Int)<off:=by omega
 have hk2:¬(till:Int)≤fr:=by omega
 have hk3:¬(off:Int)+S<till:=by omega
 have Fp:w.heap.size+1+1+1<w2.heap.size:=b3.lt;have tK:(((till:Int)==(off:Int)+S)&&(la|| !sg))=gN:=by
  rw[←IW]
  congr 1
  rw[Bool.eq_iff_iff];simp;omega
 go_upto_region 6 with (fail)
 go_cut [9] from 41 to 56 (fun s9 wx=>s9= .pointer (some ⟨w2.heap.size,0,none⟩)∧wx=w2.alloc (.cells #[.int .i64 sn,.bool false,.bool true,.bool gN,.int .i64 fr,.bool false,.bool false,.slice none 0 0] 72))
 case first=>
  by_cases hte:(till:Int)=(off:Int)+S
  ·have U2:((till:Int)==(off:Int)+S)=true:=by simpa using hte
   rw[U2] at tK;clear hte;cases la with
   |true=>
    obtain rfl:true=gN:=by simpa using tK
    clear IW tK;go_wp2_with fail;go_meet;exact ⟨rfl,rfl⟩
   |false=>
    obtain rfl:(!sg)=gN:=by simpa using tK
    clear IW tK;go_wp2_with fail;go_meet;exact ⟨rfl,rfl⟩
  ·have U2:((till:Int)==(off:Int)+S)=false:=by simpa using hte
   rw[U2] at tK;obtain rfl:false=gN:=by simpa using tK
   clear IW tK hte;go_wp2_with fail;go_meet;exact ⟨rfl,rfl⟩
 case rest=>
  obtain ⟨rfl,rfl⟩:=hcut;clear IW tK hk1 hk2 hk3;have b9:=aA.new w2 72 #[.int .i64 sn,.bool false,.bool true,.bool gN,.int .i64 fr,.bool false,.bool false,.slice none 0 0]
  replace b0:=b0.alloc (.cells #[.int .i64 sn,.bool false,.bool true,.bool gN,.int .i64 fr,.bool false,.bool false,.slice none 0 0] 72)
  replace b1:=b1.alloc (.cells #[.int .i64 sn,.bool false,.bool true,.bool gN,.int .i64 fr,.bool false,.bool false,.slice none 0 0] 72)
  replace b2:=b2.alloc (.cells #[.int .i64 sn,.bool false,.bool true,.bool gN,.int .i64 fr,.bool false,.bool false,.slice none 0 0] 72)
  replace b3:=b3.alloc (.cells #[.int .i64 sn,.bool false,.bool true,.bool gN,.int .i64 fr,.bool false,.bool false,.slice none 0 0] 72)
  have hb3:=(Below.refl w2.heap.size w2).alloc (Nat.le_refl _) (.cells #[.int .i64 sn,.bool false,.bool true,.bool gN,.int .i64 fr,.bool false,.bool false,.slice none 0 0] 72);have hA3:=(hA2.below hb3).more hb3.size;have hB3:=hB2.trans (hb3.mono hB2.size);generalize w2.alloc (.cells #[.int .i64 sn,.bool false,.bool true,.bool gN,.int .i64 fr,.bool false,.bool false,.slice none 0 0] 72)=w3 at*;generalize w2.heap.size=go at*;have hgo:=b9.lt;clear hA2 hB2 hb3 x0 x1 x2 x3 x4 x5 x6 x7 y1 y2;obtain ⟨x0,x1,x2,x3,x4,x5,x6,x7⟩:=b0.eight;have x7':w3.drew.cell? ⟨w.heap.size,7,none⟩=some (.slice A n c):=x7;have hwl:w.heap.size<w3.heap.size:=b0.lt;go_upto_region 7 with (fail)
  go_cut [10,11] from 57 to 60 (fun s10 s11 wx=>∃bi bn:Nat,s10= .pointer (some ⟨bi,0,none⟩)∧s11= .pointer (some ⟨bn,0,none⟩)∧w3.heap.size≤bi∧w3.heap.size≤bn∧bi≠bn∧aA wx bi 3 #[.int .i64 0]∧aA wx bn 3 #[.int .i64 n]∧Below w3.heap.size w3 wx)
  case first=>
   go_region
   all_goals
    go_wp2_with fail;go_meet
    first
     |exact ⟨w3.heap.size,w3.heap.size+1,rfl,rfl,Nat.le_refl _,by omega,by omega,((aA.new w3 3 #[.int .i64 0]).alloc _).drew,by simpa using (aA.new (w3.alloc (.cells #[.int .i64 0] 3)) 3 #[.int .i64 n]).drew,(((Below.refl _ w3).alloc (Nat.le_refl _) _).alloc (by simp) _).drew⟩
     |exact ⟨w3.heap.size+1,w3.heap.size,rfl,rfl,by omega,Nat.le_refl _,by omega,by simpa using (aA.new (w3.alloc (.cells #[.int .i64 n] 3)) 3 #[.int .i64 0]).drew,((aA.new w3 3 #[.int .i64 n]).alloc _).drew,(((Below.refl _ w3).alloc (Nat.le_refl _) _).alloc (by simp) _).drew⟩
  case rest=>
   obtain ⟨bi,bn,rfl,rfl,hbi,hbn,hin,d1,d2,hb4⟩:=hcut
   replace b0:=b0.below hb4 b0.lt
   replace b1:=b1.below hb4 b1.lt
   replace b2:=b2.below hb4 b2.lt
   replace b3:=b3.below hb4 b3.lt
   replace b9:=b9.below hb4 b9.lt
   have QI:=(hA3.below hb4).more hb4.size;have hB4:=hB3.trans (hb4.mono hB3.size);clear hA3 hB3 hb4 x0 x1 x2 x3 x4 x5 x6 x7 x7' hwl;obtain ⟨x0,x1,x2,x3,x4,x5,x6,x7⟩:=b0.eight;have hbd:=yJ sn po sg la off s e A n c vs ps wc QI (by have:=iM.out;omega) (by omega) (by have:=Dw.out;omega);unfold aY at hbd;have Ny:=Lib.hid hbd;clear hbd;go_wp2_with fail;refine Ny.out.mono ?_;rintro e5 w5 ⟨g,v,rfl,hg5,bg,hv5,hb5⟩
   replace b0:=b0.below hb5 b0.lt
   replace b1:=b1.below hb5 b1.lt
   replace b2:=b2.below hb5 b2.lt
   replace b3:=b3.below hb5 b3.lt
   replace b9:=b9.below hb5 b9.lt
   have d1':=d1.below hb5 d1.lt;have d2':=d2.below hb5 d2.lt;have hil:=d1.lt;have hnl:=d2.lt;have Ht:=(QI.below hb5).more hb5.size;have oD:=hB4.trans (hb5.mono hB4.size);clear Ny QI hB4 x0 x1 x2 x3 x4 x5 x6 x7 d1 d2;go_wp2_with fail;have lG:Tryz.prog.follows .mixedOrders=true:=by kernel_rfl
   have hI0:IU w.heap.size w5.heap.size go bi bn sn po sg la off s e A n c ps gN fr till w5 0 w5:=
    ⟨b0,b1,b2,b3,d1',d2',⟨none,0,b9,[],World.ownsRow_nil _ _ _ _,fun i p hi=>by simp[aD] at hi⟩,Kept.refl _ _⟩
   have hgZ:=bg.lt;have ahf:g≠go:=by omega
   have ahg:g≠bi:=by omega
   have hvZ:∀j,v.ownBlock=some j→j≠go∧j≠bi∧j<w5.heap.size:=fun j hj=>by have:=hv5.lt j hj;omega
   apply wpIn_wide (n:=5).1;apply l9 (gf:=126) (lb:= #[.pointer (some ⟨g,0,none⟩)]) rfl (by omega) rfl trivial (enters_of Tryz.func126 (by kernel_rfl) rfl)
    (vV _ (by omega) g wc.heap.size v off ps (by omega) (by have:=Dw.out;omega) (by have:=iM.out;omega) (fun j _=>j=go∨j=bi∨w5.heap.size≤j) w5 bg hv5 (by omega) (fun j _ hj=>by have:=hvZ j hj;omega))
    Kept.trans (fun W l o o' hl ho hc _=>(Kept.refl _ W).grown (grownBy_putObj' W l o') (fun j e _ _=>by cases e;exact .inr (.inr hl))) (Below.refl _ _) (fun _=>rfl)
    (IU w.heap.size w5.heap.size go bi bn sn po sg la off s e A n c ps gN fr till w5) (IV _ _ _ _ _ _ _ _ _ _ _ _ _ _ _ _ _ _ _ _) hI0
   case hassign=>
    intro l k W K hK;simp only[xC]
    gi_wp2
    exact hK
   case hbody=>
    intro l k W hk hI;have hBW:Below w.heap.size w W:=oD.trans (hI.kp.below (B:=w.heap.size) (fun j _ hj=>by have:=oD.size;omega) oD.size);have hWs:=hI.kp.size;obtain ⟨ad,Ai,ci,rfl,hbk,hck,tL⟩:=(h.below hBW).get (k:=k) (by have:=iM.out;omega);obtain ⟨Ao,co,bo,yK,jM,hpx⟩:=hI.out;have c0:=hI.b0;have c1:=hI.b1;have c2:=hI.b2;have PY:=hI.di;have cn:=hI.dn;unfold aY at c0 bo;obtain ⟨x0,x1,x2,x3,x4,x5,x6,x7⟩:=c0.eight;obtain ⟨o0,o1,o2,o3,o4,o5,o6,o7⟩:=bo.eight;have y1:=c1.cell 0;have y2:=c2.cell 0;have yi:=PY.cell 0;have yn:=cn.cell 0;simp at y1 y2 yi yn;have hsn:=gF ps k (by omega);have hsl:=Nat.le_trans (cK ps (k+1)) Dw.out;obtain ⟨ka,hka⟩:∃ka,off+au (ps.take k)=ka:=⟨_,rfl⟩
    obtain ⟨kb,hkb⟩:∃kb,off+au (ps.take (k+1))=kb:=⟨_,rfl⟩
    rw[show (off:Int)+((au (ps.take k):Nat):Int)=(ka:Int) by omega,show (off:Int)+((au (ps.take (k+1)):Nat):Int)=(kb:Int) by omega];have Yy:=Lib.hid hka;have QJ:=Lib.hid hkb;have PW:=Lib.hid hsn;clear hka hkb hsn
    gi_wp2
    refine mU (S:=fun w'=>w'.cell? ⟨w.heap.size+1,0,none⟩=some (.int .i64 fr)∧w'.cell? ⟨w.heap.size+1+1,0,none⟩=some (.int .i64 till)) lG (by kernel_rfl) ?hout ⟨y1,y2⟩ (fun hHeld=> ?_)
    case hout=>
     rintro ⟨a',w',hh⟩;exact hh
    refine wpAnyH_take (i:=0) (v:= ?_) rfl (by kernel_rfl) (by kernel_rfl) (by kernel_rfl) (fun _ _ _ h=>h) (Or.inl ⟨by rfl,?_⟩) hHeld ?_;rotate_left
    ·intro w' hSw;obtain ⟨hS1,hS2⟩:=hSw;go_simp
     try with_reducible rfl
    simp only[Act.put,List.getElem_toArray,List.getElem_cons_zero,List.setIfInBounds_toArray,List.set_cons_zero,List.set_cons_succ];refine wpAnyH_take (i:=1) (v:= ?_) rfl (by kernel_rfl) (by kernel_rfl) (by kernel_rfl) (fun _ _ _ h=>h) (Or.inl ⟨by rfl,?_⟩) hHeld ?_;rotate_left
    ·intro w' hSw;obtain ⟨hS1,hS2⟩:=hSw;go_simp
     try with_reducible rfl
    simp only[Act.put,List.getElem_toArray,List.getElem_cons_zero,List.getElem_cons_succ,List.setIfInBounds_toArray,List.set_cons_zero,List.set_cons_succ];refine wpAnyH_take (i:=2) (v:= ?_) rfl (by kernel_rfl) (by kernel_rfl) (by kernel_rfl) (fun _ _ _ h=>h) (Or.inl ⟨by rfl,?_⟩) hHeld ?_;rotate_left
    ·intro w' hSw;obtain ⟨hS1,hS2⟩:=hSw;go_simp
     try with_reducible rfl
    simp only[Act.put,List.getElem_toArray,List.getElem_cons_zero,List.getElem_cons_succ,List.setIfInBounds_toArray,List.set_cons_zero,List.set_cons_succ];refine wpAnyH_take (i:=3) (v:= ?_) rfl (by kernel_rfl) (by kernel_rfl) (by kernel_rfl) (fun _ _ _ h=>h) (Or.inl ⟨by rfl,?_⟩) hHeld ?_;rotate_left
    ·intro w' hSw;obtain ⟨hS1,hS2⟩:=hSw;go_simp
     try with_reducible rfl
    simp only[Act.put,List.getElem_toArray,List.getElem_cons_zero,List.getElem_cons_succ,List.setIfInBounds_toArray,List.set_cons_zero,List.set_cons_succ];refine wpAnyH_take (i:=4) (v:= ?_) rfl (by kernel_rfl) (by kernel_rfl) (by kernel_rfl) (fun _ _ _ h=>h) (Or.inl ⟨by rfl,?_⟩) hHeld ?_;rotate_left
    ·intro w' hSw;obtain ⟨hS1,hS2⟩:=hSw;go_simp
     try with_reducible rfl
    simp only[Act.put,List.getElem_toArray,List.getElem_cons_zero,List.getElem_cons_succ,List.setIfInBounds_toArray,List.set_cons_zero,List.set_cons_succ];refine wpAnyH_take (i:=5) (v:= ?_) rfl (by kernel_rfl) (by kernel_rfl) (by kernel_rfl) (fun _ _ _ h=>h) (Or.inl ⟨by rfl,?_⟩) hHeld ?_;rotate_left
    ·intro w' hSw;obtain ⟨hS1,hS2⟩:=hSw;go_simp
     try with_reducible rfl
    simp only[Act.put,List.getElem_toArray,List.getElem_cons_zero,List.getElem_cons_succ,List.setIfInBounds_toArray,List.set_cons_zero,List.set_cons_succ];refine wpAnyH_take (i:=6) (v:= ?_) rfl (by kernel_rfl) (by kernel_rfl) (by kernel_rfl) (fun _ _ _ h=>h) (Or.inl ⟨by rfl,?_⟩) hHeld ?_;rotate_left
    ·intro w' hSw;obtain ⟨hS1,hS2⟩:=hSw;go_simp
     try with_reducible rfl
    simp only[Act.put,List.getElem_toArray,List.getElem_cons_zero,List.getElem_cons_succ,List.setIfInBounds_toArray,List.set_cons_zero,List.set_cons_succ];refine wpAnyH_take (i:=7) (v:= ?_) rfl (by kernel_rfl) (by kernel_rfl) (by kernel_rfl) (fun _ _ _ h=>h) (Or.inl ⟨by rfl,?_⟩) hHeld ?_;rotate_left
    ·intro w' hSw;obtain ⟨hS1,hS2⟩:=hSw;go_simp
     try with_reducible rfl
    simp only[Act.put,List.getElem_toArray,List.getElem_cons_zero,List.getElem_cons_succ,List.setIfInBounds_toArray,List.set_cons_zero,List.set_cons_succ];refine wpAnyH_done (by kernel_rfl) ?_ _;obtain ⟨mx,hmx⟩:∃mx,max ka fr=mx:=⟨_,rfl⟩
    obtain ⟨my,hmy⟩:∃my,min kb till=my:=⟨_,rfl⟩
    rw[show (if ka<fr then (fr:Int) else (ka:Int))=(mx:Int) by rw[←hmx];split<;>omega,show (if till<kb then (till:Int) else (kb:Int))=(my:Int) by rw[←hmy];split<;>omega];have U3:kb=ka+(ps[k]?.getD []).length:=by have:=Yy.out;have:=QJ.out;have:=PW.out;omega
    have hkc:aD ps off fr till (k+1)=if mx<my then aD ps off fr till k++ [((ps[k]?.getD []).drop (mx-ka)).take (my-mx)] else aD ps off fr till k:=by
     show (if lC ps off fr till k=true then _ else _)=_
     unfold lC oM;rw[Yy.out,QJ.out,hmx,hmy];simp only[decide_eq_true_eq]
    have hKW:Kept (fun j _=>j=go∨j=bi∨w5.heap.size≤j) w5 W.drew:=hI.kp.drew;have hKf:KeepsFrom w5.heap.size W W.drew:=(KeepsOthers.drew W).from _
    have hK2:Kept (fun j _=>j=go∨j=bi∨w5.heap.size≤j) W W.drew:=(Kept.refl _ W).drew
    replace c0:=c0.drew
    replace c1:=c1.drew
    replace c2:=c2.drew
    have c3:=hI.b3.drew
    replace PY:=PY.drew
    replace cn:=cn.drew
    replace bo:=bo.drew
    replace jM:=jM.drew'
    replace hpx:∀(i:Nat) (p:List UInt8),(aD ps off fr till k)[i]? =some p→∃A c,yK[i]? =some (.slice A p.length c)∧W.drew.ownsRow w5.heap.size 5 1 (.slice A p.length c) p.length (cu p):=hpx
    replace hBW:=hBW.drew
    replace tL:=tL.drew
    have Yz:W.drew.cell? (ad.add k)=some (.slice Ai (ps[k]?.getD []).length ci):=hck;have U4:w5.heap.size≤W.drew.heap.size:=hWs;clear x0 x1 x2 x3 x4 x5 x6 x7 o0 o1 o2 o3 o4 o5 o6 o7 y1 y2 yi yn hck hWs;have hck:=Yz;clear Yz;generalize hVV:W.drew=V at*;clear hVV;obtain ⟨p,hp⟩:∃p,ps[k]?.getD []=p:=⟨_,rfl⟩
    rw[hp] at U3 hkc tL hck;have YA:=Lib.hid hkc;have U5:=Lib.hid U3;have HMX:=Lib.hid hmx;have HMY:=Lib.hid hmy;clear hkc hp hsl U3 hmx hmy;obtain ⟨x0,x1,x2,x3,x4,x5,x6,x7⟩:=c0.eight;obtain ⟨o0,o1,o2,o3,o4,o5,o6,o7⟩:=bo.eight;have y1:=c1.cell 0;have y2:=c2.cell 0;have yi:=PY.cell 0;have yn:=cn.cell 0;simp at y1 y2 yi yn
    gi_upto_if 73 with (fail)
    gi_cut [] from 65 (fun wx=>aA wx w.heap.size 72 #[.int .i64 sn,.bool po,.bool sg,.bool la,.int .i64 off,.bool s,.bool e,.slice (some ad) n c]∧aA wx (w.heap.size+1) 3 #[.int .i64 fr]∧aA wx (w.heap.size+1+1) 3 #[.int .i64 till]∧aA wx (w.heap.size+1+1+1) 72 (aY 0 false false false 0 false false none 0 0)∧aA wx bi 3 #[.int .i64 k]∧aA wx bn 3 #[.int .i64 n]∧
     (∃A' c',aA wx go 72 #[.int .i64 sn,.bool false,.bool true,.bool gN,.int .i64 fr,.bool (aM ps s off fr k),.bool (bI ps e off till k),.slice A' (aD ps off fr till (k+1)).length c']∧aN wx w5.heap.size (.slice A' (aD ps off fr till (k+1)).length c') (aD ps off fr till (k+1)))∧
     Kept (fun j _=>j=go∨j=bi∨w5.heap.size≤j) w5 wx∧Kept (fun j _=>j=go∨j=bi∨w5.heap.size≤j) W wx∧KeepsFrom w5.heap.size W wx)
    case first=>
     by_cases hhit:mx<my
     ·have hkc:=YA.out;rw[if_pos hhit] at hkc;have hq1:ka≤mx:=by have:=HMX.out;omega
      have hq2:my≤ka+p.length:=by have:=HMY.out;have:=U5.out;omega
      have hpl:0<p.length:=by omega
      obtain ⟨ai,hai,adQ,_⟩:=tL.at_ hpl;subst hai;have hcap:=tL.cap;have adR:=tL.mx;obtain ⟨lo,hlo⟩:∃lo,mx-ka=lo:=⟨_,rfl⟩
      obtain ⟨hi,hhi⟩:∃hi,my-ka=hi:=⟨_,rfl⟩
      have hmid:=tL.mid (a:=lo) (m:=hi-lo) (by omega);rw[if_neg (by omega)] at hmid;have e1:((cu p).drop lo).take (hi-lo)=cu ((p.drop lo).take (hi-lo)):=by simp[cu]
      obtain ⟨L,hL⟩:∃L,hi-lo=L:=⟨_,rfl⟩
      have hml:my-mx=L:=by omega
      rw[e1,hL] at hmid;rw[hlo,hml] at hkc;have hw1:IntKind.i64.wrap ((mx:Int)-ka)=(lo:Int):=by rw[IntWalk.i64_in _ (by omega)];omega
      have hw2:IntKind.i64.wrap ((my:Int)-ka)=(hi:Int):=by rw[IntWalk.i64_in _ (by omega)];omega
      have hq3:(lo:Int)≤hi:=by omega
      have hq4:(hi:Int)≤ci:=by omega
      have QK:¬ci=lo:=by omega
      have Xn:(0:Int)≤lo:=by omega
      have hkn:(k:Int)<n:=by have:=iM.out;omega
      have hLs:L≤1000000:=by have:=QJ.out;have:=cK ps (k+1);have:=Dw.out;have:=U5.out;omega
      have KX:((p.drop lo).take L).length=L:=by rw[List.length_take,List.length_drop];omega
      generalize hpp:(p.drop lo).take L=pp at*;have YB:=Lib.hid hkc;have KY:=Lib.hid KX;clear hkc YA e1 hlo hhi hpp hml KX;obtain ⟨j0,hj0,hm0,hm1,hm2⟩:=info_parts lD;have ajN:=pK ps off fr till k;generalize U6:aD ps off fr till k=qs at*;have HQS:=Lib.hid U6;clear U6;have hcl:=fun (X:World) (hX:Below w.heap.size V X)=>jU (some (ai.add lo)) L (ci-lo) pp X ((hmid.below hX).more (Nat.le_trans hBW.size (by have:=hX.size;omega))) (by omega)
      have pJ:=Lib.hid hcl;clear hcl;have hl0:w.heap.size<V.drew.heap.size:=c0.lt;have Nz:bi<V.drew.heap.size:=PY.lt;have hlg:go<V.drew.heap.size:=bo.lt;have hlk:(ad.add k).block<V.drew.heap.size:=by rw[block_add];have:=hBW.size;have h2:V.drew.heap.size=V.heap.size:=rfl;omega
      gi_wp2_with fail
      refine mU (S:=fun w'=>w'.cell? ⟨w.heap.size,7,none⟩=some (.slice (some ad) n c)∧w'.cell? ⟨bi,0,none⟩=some (.int .i64 k)∧w'.cell? (ad.add k)=some (.slice (some ai) p.length ci)) lG (by kernel_rfl) ?hout2 ⟨x7,yi,hck⟩ (fun hHeld=> ?_)
      case hout2=>
       rintro ⟨a',w',hh⟩;exact hh
      refine wpAnyH_take (i:=0) (v:= ?_) rfl (by kernel_rfl) (by kernel_rfl) (by kernel_rfl) (fun _ _ _ h=>h) (Or.inl ⟨by rfl,?_⟩) hHeld ?_;rotate_left
      ·intro w' hSw;obtain ⟨hS1,hS2,ig⟩:=hSw;go_simp
       try with_reducible rfl
      simp only[Act.put,List.getElem_toArray,List.getElem_cons_zero,List.setIfInBounds_toArray,List.set_cons_zero,List.set_cons_succ];refine wpAnyH_take (i:=1) (v:= ?_) rfl (by kernel_rfl) (by kernel_rfl) (by kernel_rfl) (fun _ _ _ h=>h) (Or.inl ⟨by rfl,?_⟩) hHeld ?_;rotate_left
      ·intro w' hSw;obtain ⟨hS1,hS2,ig⟩:=hSw;go_simp
       try with_reducible rfl
      simp only[Act.put,List.getElem_toArray,List.getElem_cons_zero,List.getElem_cons_succ,List.setIfInBounds_toArray,List.set_cons_zero,List.set_cons_succ];refine wpAnyH_take (i:=3) (v:= ?_) rfl (by kernel_rfl) (by kernel_rfl) (by kernel_rfl) (fun _ _ _ h=>h) (Or.inl ⟨by rfl,?_⟩) hHeld ?_;rotate_left
      ·intro w' hSw;obtain ⟨hS1,hS2,ig⟩:=hSw;go_simp
       try with_reducible rfl
      simp only[Act.put,List.getElem_toArray,List.getElem_cons_zero,List.getElem_cons_succ,List.setIfInBounds_toArray,List.set_cons_zero,List.set_cons_succ];refine wpAnyH_take (i:=4) (v:= ?_) rfl (by kernel_rfl) (by kernel_rfl) (by kernel_rfl) (fun _ _ _ h=>h) (Or.inl ⟨by rfl,?_⟩) hHeld ?_;rotate_left
      ·intro w' hSw;obtain ⟨hS1,hS2,ig⟩:=hSw;go_simp
       try with_reducible rfl
      simp only[Act.put,List.getElem_toArray,List.getElem_cons_zero,List.getElem_cons_succ,List.setIfInBounds_toArray,List.set_cons_zero,List.set_cons_succ];refine wpAnyH_take (i:=5) (v:= ?_) rfl (by kernel_rfl) (by kernel_rfl) (by kernel_rfl) (fun _ _ _ h=>h) (Or.inl ⟨by rfl,?_⟩) hHeld ?_;rotate_left
      ·intro w' hSw;obtain ⟨hS1,hS2,ig⟩:=hSw;go_simp
       try with_reducible rfl
      simp only[Act.put,List.getElem_toArray,List.getElem_cons_zero,List.getElem_cons_succ,List.setIfInBounds_toArray,List.set_cons_zero,List.set_cons_succ];refine wpAnyH_take (i:=6) (v:= ?_) rfl (by kernel_rfl) (by kernel_rfl) (by kernel_rfl) (fun _ _ _ h=>h) (Or.inl ⟨by rfl,?_⟩) hHeld ?_;rotate_left
      ·intro w' hSw;obtain ⟨hS1,hS2,ig⟩:=hSw;go_simp
       try with_reducible rfl
      simp only[Act.put,List.getElem_toArray,List.getElem_cons_zero,List.getElem_cons_succ,List.setIfInBounds_toArray,List.set_cons_zero,List.set_cons_succ];refine wpAnyH_take (i:=7) (v:= ?_) rfl (by kernel_rfl) (by kernel_rfl) (by kernel_rfl) (fun _ _ _ h=>h) (Or.inl ⟨by rfl,?_⟩) hHeld ?_;rotate_left
      ·intro w' hSw;obtain ⟨hS1,hS2,ig⟩:=hSw;go_simp
       try with_reducible rfl
      simp only[Act.put,List.getElem_toArray,List.getElem_cons_zero,List.getElem_cons_succ,List.setIfInBounds_toArray,List.set_cons_zero,List.set_cons_succ];refine wpAnyH_take (i:=8) (v:= ?_) rfl (by kernel_rfl) (by kernel_rfl) (by kernel_rfl) (fun _ _ _ h=>h) (Or.inl ⟨by rfl,?_⟩) hHeld ?_;rotate_left
      ·intro w' hSw;obtain ⟨hS1,hS2,ig⟩:=hSw;go_simp
       try with_reducible rfl
      simp only[Act.put,List.getElem_toArray,List.getElem_cons_zero,List.getElem_cons_succ,List.setIfInBounds_toArray,List.set_cons_zero,List.set_cons_succ];refine wpAnyH_take (i:=9) (v:= ?_) rfl (by kernel_rfl) (by kernel_rfl) (by kernel_rfl) (fun _ _ _ h=>h) (Or.inl ⟨by rfl,?_⟩) hHeld ?_;rotate_left
      ·intro w' hSw;obtain ⟨hS1,hS2,ig⟩:=hSw;go_simp
       try with_reducible rfl
      simp only[Act.put,List.getElem_toArray,List.getElem_cons_zero,List.getElem_cons_succ,List.setIfInBounds_toArray,List.set_cons_zero,List.set_cons_succ];refine wpAnyH_take (i:=10) (v:= ?_) rfl (by kernel_rfl) (by kernel_rfl) (by kernel_rfl) (fun _ _ _ h=>h) (Or.inl ⟨by rfl,?_⟩) hHeld ?_;rotate_left
      ·intro w' hSw;obtain ⟨hS1,hS2,ig⟩:=hSw;go_simp
       try with_reducible rfl
      simp only[Act.put,List.getElem_toArray,List.getElem_cons_zero,List.getElem_cons_succ,List.setIfInBounds_toArray,List.set_cons_zero,List.set_cons_succ];refine wpAnyH_take (i:=11) (v:= ?_) rfl (by kernel_rfl) (by kernel_rfl) (by kernel_rfl) (fun _ _ _ h=>h) (Or.inl ⟨by rfl,?_⟩) hHeld ?_;rotate_left
      ·intro w' hSw;obtain ⟨hS1,hS2,ig⟩:=hSw;go_simp
       try with_reducible rfl
      simp only[Act.put,List.getElem_toArray,List.getElem_cons_zero,List.getElem_cons_succ,List.setIfInBounds_toArray,List.set_cons_zero,List.set_cons_succ];refine wpAnyH_take (i:=12) (v:= ?_) rfl (by kernel_rfl) (by kernel_rfl) (by kernel_rfl) (fun _ _ _ h=>h) (Or.inl ⟨by rfl,?_⟩) hHeld ?_;rotate_left
      ·intro w' hSw;obtain ⟨hS1,hS2,ig⟩:=hSw;go_simp
       try with_reducible rfl
      simp only[Act.put,List.getElem_toArray,List.getElem_cons_zero,List.getElem_cons_succ,List.setIfInBounds_toArray,List.set_cons_zero,List.set_cons_succ];refine wpAnyH_take (i:=13) (v:= ?_) rfl (by kernel_rfl) (by kernel_rfl) (by kernel_rfl) (fun _ _ _ h=>h) (Or.inl ⟨by rfl,?_⟩) hHeld ?_;rotate_left
      ·intro w' hSw;obtain ⟨hS1,hS2,ig⟩:=hSw;go_simp
       try with_reducible rfl
      simp only[Act.put,List.getElem_toArray,List.getElem_cons_zero,List.getElem_cons_succ,List.setIfInBounds_toArray,List.set_cons_zero,List.set_cons_succ];refine wpAnyH_take (i:=14) (v:= ?_) rfl (by kernel_rfl) (by kernel_rfl) (by kernel_rfl) (fun _ _ _ h=>h) (Or.inl ⟨by rfl,?_⟩) hHeld ?_;rotate_left
      ·intro w' hSw;obtain ⟨hS1,hS2,ig⟩:=hSw;go_simp
       try with_reducible rfl
      simp only[Act.put,List.getElem_toArray,List.getElem_cons_zero,List.getElem_cons_succ,List.setIfInBounds_toArray,List.set_cons_zero,List.set_cons_succ];refine wpAnyH_take (i:=15) (v:= ?_) rfl (by kernel_rfl) (by kernel_rfl) (by kernel_rfl) (fun _ _ _ h=>h) (Or.inl ⟨by rfl,?_⟩) hHeld ?_;rotate_left
      ·intro w' hSw;obtain ⟨hS1,hS2,ig⟩:=hSw;go_simp
       try with_reducible rfl
      simp only[Act.put,List.getElem_toArray,List.getElem_cons_zero,List.getElem_cons_succ,List.setIfInBounds_toArray,List.set_cons_zero,List.set_cons_succ];refine wpAnyH_ready (rs:= [2,16]) (by kernel_rfl) (by simp) ?_;refine AllReadyH.cons rfl (fun K hK=> ?_) (AllReadyH.cons rfl (fun K hK=> ?_) AllReadyH.nil)
      ·go_simp;refine hK.out _ _ hHeld (fun hHeld=> ?_);clear hK K
       try simp only[Act.put,zzA,zzE,zzF,yo,UM,zzD]
       refine wpAnyH_ready (rs:= [16]) (by kernel_rfl) (by simp) ?_;refine AllReadyH.cons rfl (fun K hK=> ?_) AllReadyH.nil;go_simp;refine (pJ.out V.drew ((Below.refl _ V).drew)).mono ?_;rintro e6 w6 ⟨v6,rfl,hv6,hb6⟩
       replace hv6:w6.ownsRow V.heap.size 5 1 v6 L (cu pp):=hv6
       have Dz:Below V.heap.size V w6:=((Below.refl _ V).drew).trans hb6;have hzz:V.heap.size≤w6.heap.size:=Dz.size;obtain ⟨A6,c6,rfl,hs6,_⟩:=aP hv6;refine hK.out _ _ ⟨(hb6.cell (p:=⟨w.heap.size,7,none⟩) hl0).trans x7,(hb6.cell (p:=⟨bi,0,none⟩) Nz).trans yi,(hb6.cell (p:=ad.add k) hlk).trans hck⟩ (fun hHeld=> ?_);clear hK K
       try simp only[Act.put,zzA,zzE,zzF,yo,UM,zzD]
       have MH:=hb6.size;have hu0:w.heap.size<w6.heap.size:=by omega
       have hui:bi<w6.heap.size:=by omega
       have hug:go<w6.heap.size:=by omega
       have huk:(ad.add k).block<w6.heap.size:=by omega
       have o76:=(hb6.cell (p:=⟨go,7,none⟩) hlg).trans o7;refine wpAnyH_ready (rs:= [17]) (by kernel_rfl) (by simp) ?_;refine AllReadyH.cons rfl (fun K hK=> ?_) AllReadyH.nil;go_simp;refine hK.out _ _ ⟨(World.cell?_alloc_lt w6 _ ⟨w.heap.size,7,none⟩ hu0).trans hHeld.1,(World.cell?_alloc_lt w6 _ ⟨bi,0,none⟩ hui).trans hHeld.2.1,(World.cell?_alloc_lt w6 _ (ad.add k) huk).trans hHeld.2.2⟩ (fun hHeld=> ?_);clear hK K
       try simp only[Act.put,zzA,zzE,zzF,yo,UM,zzD]
       refine wpAnyH_ready (rs:= [18]) (by kernel_rfl) (by simp) ?_;refine AllReadyH.cons rfl (fun K hK=> ?_) AllReadyH.nil;refine dS _ (by rfl) _ _ 34 (by rfl) w5.heap.size 22 j0 (.slice none 0 0) 24 und22 hj0 hm0 hm1 hm2 rfl (.slice Ao qs.length co) qs.length yK (by rfl) ((own_below jM Dz (Nat.le_refl _)).alloc (.cells #[.slice A6 L c6] 22)) (w6.alloc (.cells #[.slice A6 L c6] 22)).heap.size (some ⟨w6.heap.size,0,none⟩) 1 1 [.slice A6 L c6] (by rfl) (rH (xs:= [.slice A6 L c6]) (lY w6 _) rfl (by simp)) (by simp[Value.oneCell']) (by have:=iM.out;unfold maxLen;omega) (by have:=iM.out;omega) (by simp;omega) ?_;intro v7 w7 lg fP _;obtain ⟨A7,c7,rfl,hs7,_⟩:=aP lg;obtain ⟨⟨r0,ri,rg,QL⟩,hfin⟩:=Dy c0 c1 c2 c3 PY cn bo jM rfl hpx Dz hv6 KY.out lg fP U4 (by omega) (by omega) (by omega) (by omega) hKW hK2 hKf;have r7:=r0.cell 7;have NA:=ri.cell 0;have YC:=rg.cell 7;have rgf:=rg.frozen 7;simp at r7 NA YC;have Fq:=(QL (ad.add k) (by rw[block_add];have:=oD.size;omega)).trans hck;have jH:=Lib.hid hfin;clear hfin;refine hK.out _ _ ⟨r7,NA,Fq⟩ (fun hHeld=> ?_);clear hK K
       try simp only[Act.put,zzA,zzE,zzF,yo,UM,zzD]
       refine wpAnyH_take (i:=19) (v:= ?_) rfl (by kernel_rfl) (by kernel_rfl) (by kernel_rfl) (fun _ _ _ h=>h) (Or.inl ⟨by rfl,?_⟩) hHeld ?_;rotate_left
       ·intro w' hSw;obtain ⟨hS1,hS2,ig⟩:=hSw;go_simp
        try with_reducible rfl
       simp only[Act.put,List.getElem_toArray,List.getElem_cons_zero,List.getElem_cons_succ,List.setIfInBounds_toArray,List.set_cons_zero,List.set_cons_succ];refine wpAnyH_take (i:=20) (v:= ?_) rfl (by kernel_rfl) (by kernel_rfl) (by kernel_rfl) (fun _ _ _ h=>h) (Or.inl ⟨by rfl,?_⟩) hHeld ?_;rotate_left
       ·intro w' hSw;obtain ⟨hS1,hS2,ig⟩:=hSw;go_simp
        try with_reducible rfl
       simp only[Act.put,List.getElem_toArray,List.getElem_cons_zero,List.getElem_cons_succ,List.setIfInBounds_toArray,List.set_cons_zero,List.set_cons_succ];refine wpAnyH_ready (rs:= [21]) (by kernel_rfl) (by simp) ?_;refine AllReadyH.cons rfl (fun K hK=> ?_) AllReadyH.nil;go_simp;refine hK.out _ _ ⟨(World.cell?_setCell_other w7 ⟨go,7,none⟩ ⟨w.heap.size,7,none⟩ _ (by simp<;>omega)).trans r7,(World.cell?_setCell_other w7 ⟨go,7,none⟩ ⟨bi,0,none⟩ _ (by simp)).trans NA,(World.cell?_setCell_other w7 ⟨go,7,none⟩ (ad.add k) _ (fun e=>by have h9:(ad.add k).block=go:=(by rw[←e]);rw[block_add] at h9;have:=oD.size;omega)).trans Fq⟩ (fun hHeld=> ?_);clear hK K
       try simp only[Act.put,zzA,zzE,zzF,yo,UM,zzD]
       refine wpAnyH_done (by kernel_rfl) ?_ _
       gi_wp2_with fail
       gi_meet
       rw[YB.out];exact jH.out
      ·go_simp;refine (pJ.out V.drew ((Below.refl _ V).drew)).mono ?_;rintro e6 w6 ⟨v6,rfl,hv6,hb6⟩
       replace hv6:w6.ownsRow V.heap.size 5 1 v6 L (cu pp):=hv6
       have Dz:Below V.heap.size V w6:=((Below.refl _ V).drew).trans hb6;have hzz:V.heap.size≤w6.heap.size:=Dz.size;obtain ⟨A6,c6,rfl,hs6,_⟩:=aP hv6;refine hK.out _ _ ⟨(hb6.cell (p:=⟨w.heap.size,7,none⟩) hl0).trans x7,(hb6.cell (p:=⟨bi,0,none⟩) Nz).trans yi,(hb6.cell (p:=ad.add k) hlk).trans hck⟩ (fun hHeld=> ?_);clear hK K
       try simp only[Act.put,zzA,zzE,zzF,yo,UM,zzD]
       have MH:=hb6.size;have hu0:w.heap.size<w6.heap.size:=by omega
       have hui:bi<w6.heap.size:=by omega
       have hug:go<w6.heap.size:=by omega
       have huk:(ad.add k).block<w6.heap.size:=by omega
       have o76:=(hb6.cell (p:=⟨go,7,none⟩) hlg).trans o7;refine wpAnyH_ready (rs:= [2,17]) (by kernel_rfl) (by simp) ?_;refine AllReadyH.cons rfl (fun K hK=> ?_) (AllReadyH.cons rfl (fun K hK=> ?_) AllReadyH.nil)
       ·go_simp;refine hK.out _ _ hHeld (fun hHeld=> ?_);clear hK K
        try simp only[Act.put,zzA,zzE,zzF,yo,UM,zzD]
        refine wpAnyH_ready (rs:= [17]) (by kernel_rfl) (by simp) ?_;refine AllReadyH.cons rfl (fun K hK=> ?_) AllReadyH.nil;go_simp;refine hK.out _ _ ⟨(World.cell?_alloc_lt w6 _ ⟨w.heap.size,7,none⟩ hu0).trans hHeld.1,(World.cell?_alloc_lt w6 _ ⟨bi,0,none⟩ hui).trans hHeld.2.1,(World.cell?_alloc_lt w6 _ (ad.add k) huk).trans hHeld.2.2⟩ (fun hHeld=> ?_);clear hK K
        try simp only[Act.put,zzA,zzE,zzF,yo,UM,zzD]
        refine wpAnyH_ready (rs:= [18]) (by kernel_rfl) (by simp) ?_;refine AllReadyH.cons rfl (fun K hK=> ?_) AllReadyH.nil;refine dS _ (by rfl) _ _ 34 (by rfl) w5.heap.size 22 j0 (.slice none 0 0) 24 und22 hj0 hm0 hm1 hm2 rfl (.slice Ao qs.length co) qs.length yK (by rfl) ((own_below jM Dz (Nat.le_refl _)).alloc (.cells #[.slice A6 L c6] 22)) (w6.alloc (.cells #[.slice A6 L c6] 22)).heap.size (some ⟨w6.heap.size,0,none⟩) 1 1 [.slice A6 L c6] (by rfl) (rH (xs:= [.slice A6 L c6]) (lY w6 _) rfl (by simp)) (by simp[Value.oneCell']) (by have:=iM.out;unfold maxLen;omega) (by have:=iM.out;omega) (by simp;omega) ?_;intro v7 w7 lg fP _;obtain ⟨A7,c7,rfl,hs7,_⟩:=aP lg;obtain ⟨⟨r0,ri,rg,QL⟩,hfin⟩:=Dy c0 c1 c2 c3 PY cn bo jM rfl hpx Dz hv6 KY.out lg fP U4 (by omega) (by omega) (by omega) (by omega) hKW hK2 hKf;have r7:=r0.cell 7;have NA:=ri.cell 0;have YC:=rg.cell 7;have rgf:=rg.frozen 7;simp at r7 NA YC;have Fq:=(QL (ad.add k) (by rw[block_add];have:=oD.size;omega)).trans hck;have jH:=Lib.hid hfin;clear hfin;refine hK.out _ _ ⟨r7,NA,Fq⟩ (fun hHeld=> ?_);clear hK K
        try simp only[Act.put,zzA,zzE,zzF,yo,UM,zzD]
        refine wpAnyH_take (i:=19) (v:= ?_) rfl (by kernel_rfl) (by kernel_rfl) (by kernel_rfl) (fun _ _ _ h=>h) (Or.inl ⟨by rfl,?_⟩) hHeld ?_;rotate_left
        ·intro w' hSw;obtain ⟨hS1,hS2,ig⟩:=hSw;go_simp
         try with_reducible rfl
        simp only[Act.put,List.getElem_toArray,List.getElem_cons_zero,List.getElem_cons_succ,List.setIfInBounds_toArray,List.set_cons_zero,List.set_cons_succ];refine wpAnyH_take (i:=20) (v:= ?_) rfl (by kernel_rfl) (by kernel_rfl) (by kernel_rfl) (fun _ _ _ h=>h) (Or.inl ⟨by rfl,?_⟩) hHeld ?_;rotate_left
        ·intro w' hSw;obtain ⟨hS1,hS2,ig⟩:=hSw;go_simp
         try with_reducible rfl
        simp only[Act.put,List.getElem_toArray,List.getElem_cons_zero,List.getElem_cons_succ,List.setIfInBounds_toArray,List.set_cons_zero,List.set_cons_succ];refine wpAnyH_ready (rs:= [21]) (by kernel_rfl) (by simp) ?_;refine AllReadyH.cons rfl (fun K hK=> ?_) AllReadyH.nil;go_simp;refine hK.out _ _ ⟨(World.cell?_setCell_other w7 ⟨go,7,none⟩ ⟨w.heap.size,7,none⟩ _ (by simp<;>omega)).trans r7,(World.cell?_setCell_other w7 ⟨go,7,none⟩ ⟨bi,0,none⟩ _ (by simp)).trans NA,(World.cell?_setCell_other w7 ⟨go,7,none⟩ (ad.add k) _ (fun e=>by have h9:(ad.add k).block=go:=(by rw[←e]);rw[block_add] at h9;have:=oD.size;omega)).trans Fq⟩ (fun hHeld=> ?_);clear hK K
        try simp only[Act.put,zzA,zzE,zzF,yo,UM,zzD]
        refine wpAnyH_done (by kernel_rfl) ?_ _
        gi_wp2_with fail
        gi_meet
        rw[YB.out];exact jH.out
       ·go_simp;refine hK.out _ _ ⟨(World.cell?_alloc_lt w6 _ ⟨w.heap.size,7,none⟩ hu0).trans hHeld.1,(World.cell?_alloc_lt w6 _ ⟨bi,0,none⟩ hui).trans hHeld.2.1,(World.cell?_alloc_lt w6 _ (ad.add k) huk).trans hHeld.2.2⟩ (fun hHeld=> ?_);clear hK K
        try simp only[Act.put,zzA,zzE,zzF,yo,UM,zzD]
        have o77:=(World.cell?_alloc_lt w6 (.cells #[.slice A6 L c6] 22) ⟨go,7,none⟩ hug).trans o76;refine wpAnyH_ready (rs:= [2]) (by kernel_rfl) (by simp) ?_;refine AllReadyH.cons rfl (fun K hK=> ?_) AllReadyH.nil;go_simp;refine hK.out _ _ hHeld (fun hHeld=> ?_);clear hK K
        try simp only[Act.put,zzA,zzE,zzF,yo,UM,zzD]
        refine wpAnyH_ready (rs:= [18]) (by kernel_rfl) (by simp) ?_;refine AllReadyH.cons rfl (fun K hK=> ?_) AllReadyH.nil;refine dS _ (by rfl) _ _ 34 (by rfl) w5.heap.size 22 j0 (.slice none 0 0) 24 und22 hj0 hm0 hm1 hm2 rfl (.slice Ao qs.length co) qs.length yK (by rfl) ((own_below jM Dz (Nat.le_refl _)).alloc (.cells #[.slice A6 L c6] 22)) (w6.alloc (.cells #[.slice A6 L c6] 22)).heap.size (some ⟨w6.heap.size,0,none⟩) 1 1 [.slice A6 L c6] (by rfl) (rH (xs:= [.slice A6 L c6]) (lY w6 _) rfl (by simp)) (by simp[Value.oneCell']) (by have:=iM.out;unfold maxLen;omega) (by have:=iM.out;omega) (by simp;omega) ?_;intro v7 w7 lg fP _;obtain ⟨A7,c7,rfl,hs7,_⟩:=aP lg;obtain ⟨⟨r0,ri,rg,QL⟩,hfin⟩:=Dy c0 c1 c2 c3 PY cn bo jM rfl hpx Dz hv6 KY.out lg fP U4 (by omega) (by omega) (by omega) (by omega) hKW hK2 hKf;have r7:=r0.cell 7;have NA:=ri.cell 0;have YC:=rg.cell 7;have rgf:=rg.frozen 7;simp at r7 NA YC;have Fq:=(QL (ad.add k) (by rw[block_add];have:=oD.size;omega)).trans hck;have jH:=Lib.hid hfin;clear hfin;refine hK.out _ _ ⟨r7,NA,Fq⟩ (fun hHeld=> ?_);clear hK K
        try simp only[Act.put,zzA,zzE,zzF,yo,UM,zzD]
        refine wpAnyH_take (i:=19) (v:= ?_) rfl (by kernel_rfl) (by kernel_rfl) (by kernel_rfl) (fun _ _ _ h=>h) (Or.inl ⟨by rfl,?_⟩) hHeld ?_;rotate_left
        ·intro w' hSw;obtain ⟨hS1,hS2,ig⟩:=hSw;go_simp
         try with_reducible rfl
        simp only[Act.put,List.getElem_toArray,List.getElem_cons_zero,List.getElem_cons_succ,List.setIfInBounds_toArray,List.set_cons_zero,List.set_cons_succ];refine wpAnyH_take (i:=20) (v:= ?_) rfl (by kernel_rfl) (by kernel_rfl) (by kernel_rfl) (fun _ _ _ h=>h) (Or.inl ⟨by rfl,?_⟩) hHeld ?_;rotate_left
        ·intro w' hSw;obtain ⟨hS1,hS2,ig⟩:=hSw;go_simp
         try with_reducible rfl
        simp only[Act.put,List.getElem_toArray,List.getElem_cons_zero,List.getElem_cons_succ,List.setIfInBounds_toArray,List.set_cons_zero,List.set_cons_succ];refine wpAnyH_ready (rs:= [21]) (by kernel_rfl) (by simp) ?_;refine AllReadyH.cons rfl (fun K hK=> ?_) AllReadyH.nil;go_simp;refine hK.out _ _ ⟨(World.cell?_setCell_other w7 ⟨go,7,none⟩ ⟨w.heap.size,7,none⟩ _ (by simp<;>omega)).trans r7,(World.cell?_setCell_other w7 ⟨go,7,none⟩ ⟨bi,0,none⟩ _ (by simp)).trans NA,(World.cell?_setCell_other w7 ⟨go,7,none⟩ (ad.add k) _ (fun e=>by have h9:(ad.add k).block=go:=(by rw[←e]);rw[block_add] at h9;have:=oD.size;omega)).trans Fq⟩ (fun hHeld=> ?_);clear hK K
        try simp only[Act.put,zzA,zzE,zzF,yo,UM,zzD]
        refine wpAnyH_done (by kernel_rfl) ?_ _
        gi_wp2_with fail
        gi_meet
        rw[YB.out];exact jH.out
     ·have hkc:=YA.out;rw[if_neg hhit] at hkc;have YB:=Lib.hid hkc;clear hkc YA
      gi_wp2_with fail
      gi_meet
      rw[YB.out];exact ⟨c0,c1,c2,c3,PY,cn,⟨Ao,co,bo,yK,jM,hpx⟩,hKW,hK2,hKf⟩
    case rest=>
     have hm:kV w.heap.size w5.heap.size go bi bn sn po sg la off s e (some ad) n c gN fr till w5 W k (aD ps off fr till (k+1)) (aM ps s off fr k) (bI ps e off till k) wc:=by
      obtain ⟨q0,q1,q2,q3,q4,q5,q6,q7,q8,q9⟩:=hcut;exact ⟨q0,q1,q2,q3,q4,q5,q6,q7,q8,q9⟩
     clear hcut x0 x1 x2 x3 x4 x5 x6 x7 o0 o1 o2 o3 o4 o5 o6 o7 y1 y2 yi yn YA U5 HMX HMY tL hck hBW hpx jM bo cn PY c3 c2 c1 c0 hKW hKf hK2 hHeld hvZ;have hs1:aM ps s off fr (k+1)=(aM ps s off fr k||(decide (ka=fr)&&(decide (0<k)||s))):=by
      show (aM ps s off fr k||(decide (off+au (ps.take k)=fr)&&(decide (0<k)||s)))=_
      rw[Yy.out]
     have he1:bI ps e off till (k+1)=(bI ps e off till k||(decide (kb=till)&&(decide (k+1<n)||e))):=by
      show (bI ps e off till k||(decide (off+au (ps.take (k+1))=till)&&(decide (k+1<ps.length)||e)))=_
      rw[QJ.out,iM.out]
     generalize hst:aM ps s off fr k=st at*;generalize hen:bI ps e off till k=en at*;generalize hst':aM ps s off fr (k+1)=st' at*;generalize YD:bI ps e off till (k+1)=en' at*;generalize U6:aD ps off fr till (k+1)=qs at*;have HST:=Lib.hid hst';have Tm:=Lib.hid YD;have HQS:=Lib.hid U6;have U7:=Lib.hid he1;clear hst hen hst' YD U6 he1;have tN:bi≠go:=by omega
     have vW:bn≠go:=by omega
     gi_upto_region 14 with (fail)
     gi_cut [] from 95 (fun wx=>kV w.heap.size w5.heap.size go bi bn sn po sg la off s e (some ad) n c gN fr till w5 W k qs st' en wx)
     case first=>
      obtain ⟨A',c',m1,m2⟩:=hm.out;obtain ⟨x0,x1,x2,x3,x4,x5,x6,x7⟩:=hm.b0.eight;obtain ⟨o0,o1,o2,o3,o4,o5,o6,o7⟩:=m1.eight;have of:=m1.frozen 5;have y1:=hm.b1.cell 0;have y2:=hm.b2.cell 0;have yi:=hm.di.cell 0;have yn:=hm.dn.cell 0;simp at y1 y2 yi yn;cases st with
      |true=>
       obtain rfl:st'=true:=by simpa using hs1
       clear hs1
       gi_wp2_with fail
       gi_meet
       exact hm.QF Fp tN vW true
      |false=>
       by_cases hq:ka=fr
       ·have hq':((ka:Int)==(fr:Int))=true:=by simp;omega
        have hs2:st'=(decide (0<k)||s):=by rw[hs1,hq];simp
        clear hs1 hq;by_cases hk0:0<k
        ·have hk0':(0:Int)<k:=by omega
         obtain rfl:st'=true:=by rw[hs2];simp[hk0]
         clear hs2
         gi_wp2_with fail
         gi_meet
         exact hm.QF Fp tN vW true
        ·have hk0':¬(0:Int)<k:=by omega
         obtain rfl:st'=s:=by rw[hs2];simp[hk0]
         clear hs2
         gi_wp2_with fail
         gi_meet
         exact hm.QF Fp tN vW st'
       ·have hq':((ka:Int)==(fr:Int))=false:=by simp;omega
        obtain rfl:st'=false:=by rw[hs1];simp[hq]
        clear hs1 hq
        gi_wp2_with fail
        gi_meet
        exact hm.QF Fp tN vW false
     case rest=>
      clear hm hs1 st;have hs1:=U7.out;have hnn:n≤64:=by have:=iM.out;omega
      have hwk:IntKind.i64.wrap ((k:Int)+1)=(k:Int)+1:=IntWalk.i64_in _ (by omega)
      gi_upto_region 15 with (fail)
      gi_cut [] from 114 (fun wx=>kV w.heap.size w5.heap.size go bi bn sn po sg la off s e (some ad) n c gN fr till w5 W k qs st' en' wx)
      case first=>
       obtain ⟨A',c',m1,m2⟩:=hcut.out;obtain ⟨x0,x1,x2,x3,x4,x5,x6,x7⟩:=hcut.b0.eight;obtain ⟨o0,o1,o2,o3,o4,o5,o6,o7⟩:=m1.eight;have of:=m1.frozen 6;have y1:=hcut.b1.cell 0;have y2:=hcut.b2.cell 0;have yi:=hcut.di.cell 0;have yn:=hcut.dn.cell 0;simp at y1 y2 yi yn;cases en with
       |true=>
        obtain rfl:en'=true:=by simpa using hs1
        clear hs1
        gi_wp2_with fail
        gi_meet
        exact hcut.QG Fp tN vW true
       |false=>
        by_cases hq:kb=till
        ·have hq':((kb:Int)==(till:Int))=true:=by simp;omega
         have hs2:en'=(decide (k+1<n)||e):=by rw[hs1,hq];simp
         clear hs1 hq;by_cases hk0:k+1<n
         ·have hk0':(k:Int)+1<n:=by omega
          obtain rfl:en'=true:=by rw[hs2];simp[hk0]
          clear hs2
          gi_wp2_with fail
          gi_meet
          exact hcut.QG Fp tN vW true
         ·have hk0':¬(k:Int)+1<n:=by omega
          obtain rfl:en'=e:=by rw[hs2];simp[hk0]
          clear hs2
          gi_wp2_with fail
          gi_meet
          exact hcut.QG Fp tN vW en'
        ·have hq':((kb:Int)==(till:Int))=false:=by simp;omega
         obtain rfl:en'=false:=by rw[hs1];simp[hq]
         clear hs1 hq
         gi_wp2_with fail
         gi_meet
         exact hcut.QG Fp tN vW false
      case rest=>
       have yi:=hcut.di.cell 0;have yf:=hcut.di.frozen 0;simp at yi
       gi_wp2_with fail
       have hmn:=hcut.next (by omega) tN hin
       refine ⟨hmn.kf,hmn.k2,hmn.b0,hmn.b1,hmn.b2,hmn.b3,hmn.di,hmn.dn,?_,hmn.kp⟩;rw[HST.out,Tm.out,HQS.out];exact hmn.out
   case hdone=>
    intro D W hD hI Fs;obtain ⟨Ao,co,bo,hpo⟩:=hI.out;have b3:=hI.b3;unfold aY at bo b3;have bl:=iM.out;rw[bl] at bo hpo;generalize U6:aD ps off fr till n=qs at*;generalize hst:aM ps s off fr n=st at*;generalize hen:bI ps e off till n=en at*;clear U6 hst hen;obtain ⟨o0,o1,o2,o3,o4,o5,o6,o7⟩:=bo.eight;have f0:=b3.frozen 0;have f1:=b3.frozen 1;have f2:=b3.frozen 2;have f3:=b3.frozen 3;have f4:=b3.frozen 4;have f5:=b3.frozen 5;have f6:=b3.frozen 6;have f7:=b3.frozen 7;obtain ⟨z0,z1,z2,z3,z4,z5,z6,z7⟩:=b3.eight
    gi_wp2
    go_wp2;have hBW:Below w.heap.size w W:=oD.trans (hI.kp.below (B:=w.heap.size) (fun j _ hj=>by have:=oD.size;omega) oD.size);obtain ⟨r1,r2,r3,r4⟩:=QH (B0:=w.heap.size) (D:=D) b3 Fs hpo hBW (by omega) (by have:=oD.size;omega) oD.size (.int .i64 sn) (.bool false) (.bool true) (.bool gN) (.int .i64 fr) (.bool st) (.bool en);refine ⟨by simp,.inl ⟨_,_,rfl,run_takeDeferred r1,?_⟩⟩;obtain ⟨q0,q1,q2,q3,q4,q5,q6,q7⟩:=r2.eight;exact ⟨.tuple #[.agg (aY sn false true gN fr st en Ao qs.length co),.int .i64 0],by simp[results,Tryz.results25,go_sem,q0,q1,q2,q3,q4,q5,q6,q7,aY],r4,Ao,co,rfl,r3⟩
end
end Go.Proofs.YtiecgfahidpldaaGreat
