/- ampdu.Cut of a range within the PDU. -/
import Derived.Test.YtbhiklnljiehiaaGreatM2ai
import Derived.Sort.CutIn
namespace Go.Proofs.YtbhiklnljiehiaaGreat
section
open Go.RowKit Go.Shelf
attribute [local go_sem] Oper.semAt_some
theorem CF {w w':World} {base:Nat} {e:TypeId} {n:Nat} {v:Value} {xs:List Value} {row:Option Nat} (h:w.ownsRow base e 1 v n xs) (hg:w.grownBy w' row) (hr:∀r,row=some r→∃o:Obj,w.heap[r]? =some o∧o.isCells=false):w'.ownsRow base e 1 v n xs:=by
 refine h.kept hg ?_;rcases hv:v.ownBlock with _|j
 ·exact .inl rfl
 ·refine .inr (fun e'=> ?_);obtain ⟨o,ho,⟨cs,fr',rfl⟩,_⟩:=bU h hv;obtain ⟨o',ho',hc⟩:=hr j e'.symm;rw[ho] at ho';cases ho';cases hc
theorem eH {w w':World} {g:Nat} {t:TypeId} {cs:Array Value} {row:Option Nat} (h:au w g t cs) (hg:w.grownBy w' row) (hr:∀r,row=some r→∃o:Obj,w.heap[r]? =some o∧o.isCells=false):au w' g t cs:=by
 refine h.grown hg (fun e=> ?_);obtain ⟨o',ho',hc⟩:=hr g e.symm;rw[show w.heap[g]? =_ from h] at ho';cases ho';cases hc
theorem bF.quiet {w w':World} {base:Nat} {vo:Value} {ps:List (List UInt8)} {row:Option Nat} (h:bF w base vo ps) (hg:w.grownBy w' row) (hr:∀r,row=some r→∃o:Obj,w.heap[r]? =some o∧o.isCells=false):bF w' base vo ps:=by
 obtain ⟨vs,h1,h2⟩:=h;exact ⟨vs,CF h1 hg hr,fun i p hi=>let ⟨A,c,e,ho⟩:=h2 i p hi;⟨A,c,e,CF ho hg hr⟩⟩
theorem Ee {w5 W V w6 w7:World} {B Z go bi bn m L:Nat} {x0 x1 x2:Array Value} {x3 x4 x5:Array Value} {g0 g1 g2 g3 g4 g5 g6:Value} {Ao A6 A7:Option Addr} {co c6 c7:Nat} {zo:List Value} {qs:List (List UInt8)} {pp:List UInt8}
 (c0:au V B 148 x0) (c1:au V (B+1) 3 x1) (c2:au V (B+1+1) 3 x2) (c3:au V (B+1+1+1) 148 x3) (ci:au V bi 3 x4) (cn:au V bn 3 x5) (bo:au V go 148 #[g0,g1,g2,g3,g4,g5,g6,.slice Ao m co])
 (gN:V.ownsRow Z 31 1 (.slice Ao m co) m zo) (hm:qs.length=m)
 (hpx:∀(i:Nat) (p:List UInt8),qs[i]? =some p→∃A c,zo[i]? =some (.slice A p.length c)∧V.ownsRow Z 5 1 (.slice A p.length c) p.length (bO p))
 (hb6:Below V.heap.size V w6) (hv6:w6.ownsRow V.heap.size 5 1 (.slice A6 L c6) L (bO pp)) (hpl:pp.length=L)
 (nG:w7.ownsRow Z 31 1 (.slice A7 (m+1) c7) (m+1) (zo++ [.slice A6 L c6])) (ig:(w6.alloc (.cells #[.slice A6 L c6] 31)).grownBy w7 (Value.slice Ao m co).ownBlock)
 (hZ:Z≤V.heap.size) (_hgo:go<Z) (hB:B+1+1+1<go) (hbi:bi≠go) (hbn:bn≠go)
 (hKW:Kept (fun j _=>j=go∨j=bi∨Z≤j) w5 V) (hK2:Kept (fun j _=>j=go∨j=bi∨Z≤j) W V) (hKf:KeepsFrom Z W V):
 (au w7 B 148 x0∧au w7 bi 3 x4∧au w7 go 148 #[g0,g1,g2,g3,g4,g5,g6,.slice Ao m co]∧(∀p:Addr,p.block<Z→w7.cell? p=V.cell? p))∧
 (au (w7.setCell ⟨go,7,none⟩ (.slice A7 (m+1) c7)) B 148 x0∧au (w7.setCell ⟨go,7,none⟩ (.slice A7 (m+1) c7)) (B+1) 3 x1∧au (w7.setCell ⟨go,7,none⟩ (.slice A7 (m+1) c7)) (B+1+1) 3 x2∧au (w7.setCell ⟨go,7,none⟩ (.slice A7 (m+1) c7)) (B+1+1+1) 148 x3∧
  au (w7.setCell ⟨go,7,none⟩ (.slice A7 (m+1) c7)) bi 3 x4∧au (w7.setCell ⟨go,7,none⟩ (.slice A7 (m+1) c7)) bn 3 x5∧
  (∃A' c',au (w7.setCell ⟨go,7,none⟩ (.slice A7 (m+1) c7)) go 148 #[g0,g1,g2,g3,g4,g5,g6,.slice A' (qs++ [pp]).length c']∧bF (w7.setCell ⟨go,7,none⟩ (.slice A7 (m+1) c7)) Z (.slice A' (qs++ [pp]).length c') (qs++ [pp]))∧
  Kept (fun j _=>j=go∨j=bi∨Z≤j) w5 (w7.setCell ⟨go,7,none⟩ (.slice A7 (m+1) c7))∧Kept (fun j _=>j=go∨j=bi∨Z≤j) W (w7.setCell ⟨go,7,none⟩ (.slice A7 (m+1) c7))∧KeepsFrom Z W (w7.setCell ⟨go,7,none⟩ (.slice A7 (m+1) c7))):=by
 have hown:∀j,(Value.slice Ao m co).ownBlock=some j→Z≤j∧j<V.heap.size:=fun j hj=>gN.lt j hj
 have key:∀{g:Nat} {t:TypeId} {cs:Array Value},au V g t cs→t≠31→au w7 g t cs:=fun {g t cs} hg ht=>
  ((hg.below hb6 hg.lt).alloc _).grown ig (fun e=>aJ gN hg (fun e'=>ht e'.symm) e.symm)
 have d0:=key c0 (by decide);have d1:=key c1 (by decide);have d2:=key c2 (by decide);have d3:=key c3 (by decide);have di:=key ci (by decide);have dn:=key cn (by decide);have dg:=key bo (by decide);have hs6:=hb6.size;have WE:Below Z V w7:=((hb6.mono hZ).alloc (by omega) _).grown ig (by simp;omega) (fun j hj=>(hown j hj).1);have aeF:=ig.size;rw[World.size_alloc] at aeF;have OA:Kept (fun j _=>j=go∨j=bi∨Z≤j) V (w7.setCell ⟨go,7,none⟩ (.slice A7 (m+1) c7)):=by
  have h1:Kept (fun j _=>j=go∨j=bi∨Z≤j) V w6:=(Kept.of_below hb6).mono (fun j _ hj=> .inr (.inr (by omega)));exact (((h1.alloc _).grown ig (fun j hj _ _=> .inr (.inr (hown j hj).1)))).setCell (p:=⟨go,7,none⟩) (fun _ _=> .inl rfl) _
 have aeG:KeepsFrom Z V (w7.setCell ⟨go,7,none⟩ (.slice A7 (m+1) c7)):=by
  refine KeepsFrom.trans (Y:=w6) ⟨hs6,fun k o _ hk _=>(hb6.block k (lt_of_heap hk)).trans hk⟩ ?_;refine ((KeepsOthers.alloc w6 _).from Z).trans (((KeepsOthers.of_grownBy ig (fun j o hj ho=> ?_)).from Z).trans ((KeepsOthers.setCell _ _ _).from Z));obtain ⟨o',ho',⟨cs,fr',rfl⟩,_⟩:=bU ((own_below gN hb6 (aN)).alloc (.cells #[.slice A6 L c6] 31)) hj;rw[ho] at ho';cases ho';rfl
 refine ⟨⟨d0,di,dg,fun p hp=>WE.cell hp⟩,d0.far (by simp;omega) _,d1.far (by simp;omega) _,d2.far (by simp;omega) _,d3.far (by simp;omega) _,di.far (by simpa using hbi) _,dn.far (by simpa using hbn) _,?_,hKW.trans OA,hK2.trans OA,hKf.trans aeG⟩;have hl:(qs++ [pp]).length=m+1:=by simp[hm]
 refine ⟨A7,c7,by rw[hl];simpa using dg.av 7 (.slice A7 (m+1) c7),zo++ [.slice A6 L c6],by rw[hl];exact aI (i:=7) nG dg (by decide) _,fun i p hi=> ?_⟩;have hvl:zo.length=m:=by have:=(dH gN).len;exact this
 have O0:∀{A:Option Addr} {c:Nat} {p:List UInt8} {base:Nat},w6.ownsRow base 5 1 (.slice A p.length c) p.length (bO p)→(w7.setCell ⟨go,7,none⟩ (.slice A7 (m+1) c7)).ownsRow base 5 1 (.slice A p.length c) p.length (bO p):=fun {A c p base} h5=>by
  have h6:=(h5.alloc (.cells #[.slice A6 L c6] 31)).kept ig (by
   rcases hq:(Value.slice A p.length c).ownBlock with _|j
   ·exact .inl rfl
   ·refine .inr (fun e=> ?_);obtain ⟨o1,ho1,⟨cs1,Zg,rfl⟩,_⟩:=bU h5 hq;obtain ⟨o2,ho2,⟨cs2,Yu,rfl⟩,_⟩:=bU (own_below gN hb6 (aN)) e.symm;rw[ho1] at ho2;cases ho2)
  exact aI (i:=7) h6 dg (by decide) _
 by_cases hi2:i<m
 ·rw[List.getElem?_append_left (by omega)] at hi;obtain ⟨A,c,e1,h5⟩:=hpx i p hi;exact ⟨A,c,by rw[List.getElem?_append_left (by omega)];exact e1,O0 (own_below h5 hb6 (aN))⟩
 ·rw[List.getElem?_append_right (by omega)] at hi;have hi0:i=m:=by
   have:=(List.getElem?_eq_some_iff.1 hi).1;simp at this;omega
  subst hi0;rw[hm] at hi;simp at hi;subst hi;subst hpl;refine ⟨A6,c6,?_,O0 (aU hv6 hZ)⟩;rw[List.getElem?_append_right (by omega),hvl];simp
structure Jk (B Z go bi bn:Nat) (sn:Int) (po sg la:Bool) (off:Nat) (s e:Bool) (A:Option Addr) (n c:Nat) (ps:List (List UInt8)) (kJ:Bool) (fr till:Nat) (w5:World) (k:Nat) (W:World):Prop where
 b0:au W B 148 (bH sn po sg la off s e A n c)
 b1:au W (B+1) 3 #[.int .i64 fr]
 b2:au W (B+1+1) 3 #[.int .i64 till]
 b3:au W (B+1+1+1) 148 (bH 0 false false false 0 false false none 0 0)
 di:au W bi 3 #[.int .i64 k]
 dn:au W bn 3 #[.int .i64 n]
 out:∃A' c',au W go 148 (bH sn false true kJ fr (bZ ps s off fr k) (ed ps e off till k) A' (aS ps off fr till k).length c')∧bF W Z (.slice A' (aS ps off fr till k).length c') (aS ps off fr till k)
 kp:Kept (fun j _=>j=go∨j=bi∨Z≤j) w5 W
structure kQ (B Z go bi bn:Nat) (sn:Int) (po sg la:Bool) (off:Nat) (s e:Bool) (A:Option Addr) (n c:Nat) (kJ:Bool) (fr till:Nat) (w5 W:World) (k:Nat) (qs:List (List UInt8)) (b5 b6:Bool) (X:World):Prop where
 b0:au X B 148 #[.int .i64 sn,.bool po,.bool sg,.bool la,.int .i64 off,.bool s,.bool e,.slice A n c]
 b1:au X (B+1) 3 #[.int .i64 fr]
 b2:au X (B+1+1) 3 #[.int .i64 till]
 b3:au X (B+1+1+1) 148 (bH 0 false false false 0 false false none 0 0)
 di:au X bi 3 #[.int .i64 k]
 dn:au X bn 3 #[.int .i64 n]
 out:∃A' c',au X go 148 #[.int .i64 sn,.bool false,.bool true,.bool kJ,.int .i64 fr,.bool b5,.bool b6,.slice A' qs.length c']∧bF X Z (.slice A' qs.length c') qs
 kp:Kept (fun j _=>j=go∨j=bi∨Z≤j) w5 X
 k2:Kept (fun j _=>j=go∨j=bi∨Z≤j) W X
 kf:KeepsFrom Z W X
theorem bF.store {w:World} {base g t i:Nat} {cs:Array Value} {vo:Value} {ps:List (List UInt8)} (h:bF w base vo ps) (hb:au w g t cs) (h29:31≠t) (h5:5≠t) (x:Value):bF (w.setCell ⟨g,i,none⟩ x) base vo ps:=by
 obtain ⟨vs,h1,h2⟩:=h;exact ⟨vs,aI h1 hb h29 _,fun j p hj=>let ⟨A,c,e,ho⟩:=h2 j p hj;⟨A,c,e,aI ho hb h5 _⟩⟩
section
variable {B Z go bi bn:Nat} {sn:Int} {po sg la:Bool} {off:Nat} {s e:Bool} {A:Option Addr} {n c:Nat} {kJ:Bool} {fr till:Nat} {w5 W:World} {k:Nat} {qs:List (List UInt8)} {b5 b6:Bool} {X:World}
theorem kQ.Sw (h:kQ B Z go bi bn sn po sg la off s e A n c kJ fr till w5 W k qs b5 b6 X) (hB:B+1+1+1<go) (hi:bi≠go) (hn:bn≠go) (b:Bool):
 kQ B Z go bi bn sn po sg la off s e A n c kJ fr till w5 W k qs b b6 (X.setCell ⟨go,5,none⟩ (.bool b)):=by
 obtain ⟨A',c',h1,h2⟩:=h.out;have hK:Kept (fun j _=>j=go∨j=bi∨Z≤j) X (X.setCell ⟨go,5,none⟩ (.bool b)):=(Kept.refl _ X).setCell (p:=⟨go,5,none⟩) (fun _ _=> .inl rfl) _;exact ⟨h.b0.far (by simp;omega) _,h.b1.far (by simp;omega) _,h.b2.far (by simp;omega) _,h.b3.far (by simp;omega) _,h.di.far (by simpa using hi) _,h.dn.far (by simpa using hn) _,
  ⟨A',c',by simpa using h1.av 5 (.bool b),h2.store h1 (by decide) (by decide) _⟩,h.kp.trans hK,h.k2.trans hK,h.kf.trans ((KeepsOthers.setCell _ _ _).from Z)⟩
theorem kQ.Sy (h:kQ B Z go bi bn sn po sg la off s e A n c kJ fr till w5 W k qs b5 b6 X) (hB:B+1+1+1<go) (hi:bi≠go) (hn:bn≠go) (b:Bool):
 kQ B Z go bi bn sn po sg la off s e A n c kJ fr till w5 W k qs b5 b (X.setCell ⟨go,6,none⟩ (.bool b)):=by
 obtain ⟨A',c',h1,h2⟩:=h.out;have hK:Kept (fun j _=>j=go∨j=bi∨Z≤j) X (X.setCell ⟨go,6,none⟩ (.bool b)):=(Kept.refl _ X).setCell (p:=⟨go,6,none⟩) (fun _ _=> .inl rfl) _;exact ⟨h.b0.far (by simp;omega) _,h.b1.far (by simp;omega) _,h.b2.far (by simp;omega) _,h.b3.far (by simp;omega) _,h.di.far (by simpa using hi) _,h.dn.far (by simpa using hn) _,
  ⟨A',c',by simpa using h1.av 6 (.bool b),h2.store h1 (by decide) (by decide) _⟩,h.kp.trans hK,h.k2.trans hK,h.kf.trans ((KeepsOthers.setCell _ _ _).from Z)⟩
theorem kQ.next (h:kQ B Z go bi bn sn po sg la off s e A n c kJ fr till w5 W k qs b5 b6 X) (hB:B+1+1+1<bi) (hi:bi≠go) (hn:bi≠bn):
 kQ B Z go bi bn sn po sg la off s e A n c kJ fr till w5 W (k+1) qs b5 b6 (X.setCell ⟨bi,0,none⟩ (.int .i64 ((k:Int)+1))):=by
 obtain ⟨A',c',h1,h2⟩:=h.out;have hK:Kept (fun j _=>j=go∨j=bi∨Z≤j) X (X.setCell ⟨bi,0,none⟩ (.int .i64 ((k:Int)+1))):=(Kept.refl _ X).setCell (p:=⟨bi,0,none⟩) (fun _ _=> .inr (.inl rfl)) _;refine ⟨h.b0.far (by simp;omega) _,h.b1.far (by simp;omega) _,h.b2.far (by simp;omega) _,h.b3.far (by simp;omega) _,?_,h.dn.far (by simpa using fun e=>hn e.symm) _,
  ⟨A',c',h1.far (by simpa using fun e=>hi e.symm) _,h2.store h.di (by decide) (by decide) _⟩,h.kp.trans hK,h.k2.trans hK,h.kf.trans ((KeepsOthers.setCell _ _ _).from Z)⟩
 simpa using h.di.av 0 (.int .i64 ((k:Int)+1))
end
theorem bF.wD {w:World} {b b':Nat} {vo:Value} {ps:List (List UInt8)} (h:bF w b vo ps) (hb:b'≤b):bF w b' vo ps:=by
 obtain ⟨vs,h1,h2⟩:=h;exact ⟨vs,aU h1 hb,fun j p hj=>let ⟨A,c,e,ho⟩:=h2 j p hj;⟨A,c,e,aU ho hb⟩⟩
theorem Sz {W:World} {B0 B g D Z:Nat} {w:World} {x0 x1 x2 x3 x4 x5 x6 x7:Value} {vo:Value} {ps:List (List UInt8)} (b:au W g 148 #[x0,x1,x2,x3,x4,x5,x6,x7]) (hD:W.heap[D]? =some (.deferred (some []))) (hp:bF W Z vo ps) (hb:Below B w W) (hg:B≤g) (hBD:B≤D) (hZ:B0≤Z) (u0 u1 u2 u3 u4 u5 u6:Value):
 ((((((((W.setCell ⟨g,0,none⟩ u0).setCell ⟨g,1,none⟩ u1).setCell ⟨g,2,none⟩ u2).setCell ⟨g,3,none⟩ u3).setCell ⟨g,4,none⟩ u4).setCell ⟨g,5,none⟩ u5).setCell ⟨g,6,none⟩ u6).setCell ⟨g,7,none⟩ vo).heap[D]? =some (.deferred (some []))∧
 au (((((((((W.setCell ⟨g,0,none⟩ u0).setCell ⟨g,1,none⟩ u1).setCell ⟨g,2,none⟩ u2).setCell ⟨g,3,none⟩ u3).setCell ⟨g,4,none⟩ u4).setCell ⟨g,5,none⟩ u5).setCell ⟨g,6,none⟩ u6).setCell ⟨g,7,none⟩ vo).putObj D (.deferred none)) g 148 #[u0,u1,u2,u3,u4,u5,u6,vo]∧
 bF (((((((((W.setCell ⟨g,0,none⟩ u0).setCell ⟨g,1,none⟩ u1).setCell ⟨g,2,none⟩ u2).setCell ⟨g,3,none⟩ u3).setCell ⟨g,4,none⟩ u4).setCell ⟨g,5,none⟩ u5).setCell ⟨g,6,none⟩ u6).setCell ⟨g,7,none⟩ vo).putObj D (.deferred none)) B0 vo ps∧
 Below B w (((((((((W.setCell ⟨g,0,none⟩ u0).setCell ⟨g,1,none⟩ u1).setCell ⟨g,2,none⟩ u2).setCell ⟨g,3,none⟩ u3).setCell ⟨g,4,none⟩ u4).setCell ⟨g,5,none⟩ u5).setCell ⟨g,6,none⟩ u6).setCell ⟨g,7,none⟩ vo).putObj D (.deferred none)):=by
 have h1:=b.OP u0 u1 u2 u3 u4 u5 u6 vo;have h2:bF ((((((((W.setCell ⟨g,0,none⟩ u0).setCell ⟨g,1,none⟩ u1).setCell ⟨g,2,none⟩ u2).setCell ⟨g,3,none⟩ u3).setCell ⟨g,4,none⟩ u4).setCell ⟨g,5,none⟩ u5).setCell ⟨g,6,none⟩ u6).setCell ⟨g,7,none⟩ vo) B0 vo ps:=by
  have k0:=hp.store (i:=0) b (by decide) (by decide) u0;have k1:=k0.store (i:=1) (b.av 0 u0) (by decide) (by decide) u1;have k2:=k1.store (i:=2) ((b.av 0 u0).av 1 u1) (by decide) (by decide) u2;have k3:=k2.store (i:=3) (((b.av 0 u0).av 1 u1).av 2 u2) (by decide) (by decide) u3;have k4:=k3.store (i:=4) ((((b.av 0 u0).av 1 u1).av 2 u2).av 3 u3) (by decide) (by decide) u4;have k5:=k4.store (i:=5) (((((b.av 0 u0).av 1 u1).av 2 u2).av 3 u3).av 4 u4) (by decide) (by decide) u5;have k6:=k5.store (i:=6) ((((((b.av 0 u0).av 1 u1).av 2 u2).av 3 u3).av 4 u4).av 5 u5) (by decide) (by decide) u6;exact (k6.store (i:=7) (((((((b.av 0 u0).av 1 u1).av 2 u2).av 3 u3).av 4 u4).av 5 u5).av 6 u6) (by decide) (by decide) vo).wD hZ
 have h3:=oz hb hg u0 u1 u2 u3 u4 u5 u6 vo;have h4:((((((((W.setCell ⟨g,0,none⟩ u0).setCell ⟨g,1,none⟩ u1).setCell ⟨g,2,none⟩ u2).setCell ⟨g,3,none⟩ u3).setCell ⟨g,4,none⟩ u4).setCell ⟨g,5,none⟩ u5).setCell ⟨g,6,none⟩ u6).setCell ⟨g,7,none⟩ vo).heap[D]? =some (.deferred (some [])):=by
  have s:=fun (X:World) (i:Nat) (v:Value) (h:X.heap[D]? =some (.deferred (some [])))=>(KeepsOthers.setCell X ⟨g,i,none⟩ v).same D _ h rfl
  exact s _ 7 _ (s _ 6 _ (s _ 5 _ (s _ 4 _ (s _ 3 _ (s _ 2 _ (s _ 1 _ (s _ 0 _ hD)))))))
 generalize ((((((((W.setCell ⟨g,0,none⟩ u0).setCell ⟨g,1,none⟩ u1).setCell ⟨g,2,none⟩ u2).setCell ⟨g,3,none⟩ u3).setCell ⟨g,4,none⟩ u4).setCell ⟨g,5,none⟩ u5).setCell ⟨g,6,none⟩ u6).setCell ⟨g,7,none⟩ vo)=V at*;have hr:∀r,some D=some r→∃o:Obj,V.heap[r]? =some o∧o.isCells=false:=fun r e=>by cases e;exact ⟨_,h4,rfl⟩
 exact ⟨h4,eH h1 (grownBy_putObj' V D (.deferred none)) hr,h2.quiet (grownBy_putObj' V D (.deferred none)) hr,h3.grown (grownBy_putObj' V D (.deferred none)) (by have:=lt_of_heap h4;omega) (fun j hj=>by cases hj;exact hBD)⟩
theorem Jl (B Z go bi bn:Nat) (sn:Int) (po sg la:Bool) (off:Nat) (s e:Bool) (A:Option Addr) (n c:Nat) (ps:List (List UInt8)) (kJ:Bool) (fr till:Nat) (w5:World):
 OwnFrom Z (Jk B Z go bi bn sn po sg la off s e A n c ps kJ fr till w5):=fun k X Y row hs hg hr=>by
 have hr':∀r,row=some r→∃o:Obj,X.heap[r]? =some o∧o.isCells=false:=fun r e=>(hr r e).2
 obtain ⟨A',c',h1,h2⟩:=hs.out;exact ⟨eH hs.b0 hg hr',eH hs.b1 hg hr',eH hs.b2 hg hr',eH hs.b3 hg hr',eH hs.di hg hr',eH hs.dn hg hr',⟨A',c',eH h1 hg hr',h2.quiet hg hr'⟩,
  hs.kp.trans ((Kept.refl _ X).grown hg (fun j e _ _=> .inr (.inr (hr j e).1)))⟩
set_option maxRecDepth 100000 in
set_option maxHeartbeats 8000000 in
theorem SA (sn:Int) (po sg la:Bool) (off:Nat) (s e:Bool) (A:Option Addr) (n c:Nat) (vs:List Value) (ps:List (List UInt8)) (fr till:Nat) (w:World) (h:iO w w.heap.size A n c vs ps)
 (hv:gY sn sg la off ps=true) (hoff:off≤32767) (h1:off≤fr) (h2:fr<till) (h3:till≤off+aj ps):
 Calls Tryz.prog 128 #[.agg (bH sn po sg la off s e A n c),.int .i64 fr,.int .i64 till] w (FO w sn (decide (till=off+aj ps)&&(la|| !sg)) fr (bZ ps s off fr n) (ed ps e off till n) (aS ps off fr till n)):=by
 refine (callsIn_wide (n:=5)).1 ?_;have hva:=(sF sn sg la off ps).1 hv;obtain ⟨hlo,hhi,hpos,hshort,hsum⟩:=(nT ps).1 hva.vp;have hlen:=h.len;have xD:∀p∈ps,p.length≤1099511627776:=fun p hp=>by have:=gW hp;omega
 have hB:=((((Below.refl w.heap.size w).alloc (aN) (.cells (bH sn po sg la off s e A n c) 148)).alloc (by simp) (.cells #[.int .i64 fr] 3)).alloc (by simp;omega) (.cells #[.int .i64 till] 3)).alloc (by simp;omega) (.cells (bH 0 false false false 0 false false none 0 0) 148);have hA:=(h.below hB).more hB.size;have Wp:=su sn po sg la off s e A n c vs ps _ hA (by omega) xD;rw[hv] at Wp;have b0:=(((au.new w 148 (bH sn po sg la off s e A n c)).alloc (.cells #[.int .i64 fr] 3)).alloc (.cells #[.int .i64 till] 3)).alloc (.cells (bH 0 false false false 0 false false none 0 0) 148);have b1:=((au.new (w.alloc (.cells (bH sn po sg la off s e A n c) 148)) 3 #[.int .i64 fr]).alloc (.cells #[.int .i64 till] 3)).alloc (.cells (bH 0 false false false 0 false false none 0 0) 148);have b2:=(au.new ((w.alloc (.cells (bH sn po sg la off s e A n c) 148)).alloc (.cells #[.int .i64 fr] 3)) 3 #[.int .i64 till]).alloc (.cells (bH 0 false false false 0 false false none 0 0) 148);have b3:=au.new (((w.alloc (.cells (bH sn po sg la off s e A n c) 148)).alloc (.cells #[.int .i64 fr] 3)).alloc (.cells #[.int .i64 till] 3)) 148 (bH 0 false false false 0 false false none 0 0);simp only[World.size_alloc] at b1 b2 b3;have HB:=ah hB;have HV:=ah Wp;have VO:=ah xD;have jw:=ah hlen;have DY:=ah hsum;obtain ⟨kJ,Jm⟩:∃kJ,(decide (till=off+aj ps)&&(la|| !sg))=kJ:=⟨_,rfl⟩
 rw[Jm];clear hB Wp xD hv hva hpos hshort hlen;unfold bH at*;refine callsIn_of_wp_marks Tryz.func128 rfl trivial ?_ rfl;simp only[Tryz.ntmps128,List.size_toArray,List.length_cons,List.length_nil,Nat.reduceAdd,Nat.reduceSub,Array.replicate_succ,Array.replicate_zero,List.push_toArray,List.append_toArray,List.nil_append,List.cons_append];refine wpIn_wide.2 ?_;go_wp2_with fail;generalize (((w.alloc (.cells #[.int .i64 sn,.bool po,.bool sg,.bool la,.int .i64 off,.bool s,.bool e,.slice A n c] 148)).alloc (.cells #[.int .i64 fr] 3)).alloc (.cells #[.int .i64 till] 3)).alloc (.cells #[.int .i64 0,.bool false,.bool false,.bool false,.int .i64 0,.bool false,.bool false,.slice none 0 0] 148)=w0 at*;refine HV.out.mono ?_;rintro e1 w1 ⟨rfl,hb1⟩
 replace b0:=b0.below hb1 b0.lt
 replace b1:=b1.below hb1 b1.lt
 replace b2:=b2.below hb1 b2.lt
 replace b3:=b3.below hb1 b3.lt
 have hA1:=(hA.below hb1).more hb1.size;have hB1:=HB.out.trans (hb1.mono HB.out.size);obtain ⟨x0,x1,x2,x3,x4,x5,x6,x7⟩:=b0.eight;clear hA hb1 HV HB;have hsz:=pU s e A n c vs ps w1.drew hA1.drew' (by have:=jw.out;omega) VO.out;have HZ:=ah hsz;clear hsz VO;obtain ⟨S,hS⟩:∃S,aj ps=S:=⟨_,rfl⟩
 rw[hS] at h3 hsum Jm HZ;have HS:=ah hS;have hbl:w.heap.size<w1.drew.heap.size:=b0.lt;have hwrap:IntKind.i64.wrap ((off:Int)+S)=(off:Int)+S:=IntWalk.i64_in _ (by omega);clear hS;go_wp2_with fail
 go_region_held3 (fun w'=>w'.cell? ⟨w.heap.size,4,none⟩=some (.int .i64 off)∧w'.cell? ⟨w.heap.size,5,none⟩=some (.bool s)∧w'.cell? ⟨w.heap.size,6,none⟩=some (.bool e)∧w'.cell? ⟨w.heap.size,7,none⟩=some (.slice A n c))
  (first|(refine ⟨(hb2.cell (p:=⟨w.heap.size,4,none⟩) hbl).trans x4,(hb2.cell (p:=⟨w.heap.size,5,none⟩) hbl).trans x5,(hb2.cell (p:=⟨w.heap.size,6,none⟩) hbl).trans x6,(hb2.cell (p:=⟨w.heap.size,7,none⟩) hbl).trans x7⟩)|go_keep)
  ((go_at_call 88;refine HZ.out.mono ?_;rintro e2 w2 ⟨rfl,hb2⟩))
 clear hwrap
 replace b0:=b0.drew.below hb2 b0.lt
 replace b1:=b1.drew.below hb2 b1.lt
 replace b2:=b2.drew.below hb2 b2.lt
 replace b3:=b3.drew.below hb2 b3.lt
 have hA2:=(hA1.drew'.below hb2).more hb2.size;have hB2:=(hB1.drew).trans (hb2.mono (by have:=hB1.size;simpa using this));clear x0 x1 x2 x3 x4 x5 x6 x7 hB1 hA1 HZ hb2 hbl;obtain ⟨x0,x1,x2,x3,x4,x5,x6,x7⟩:=b0.eight;have y1:=b1.cell 0;have y2:=b2.cell 0;simp at y1 y2;have hk1:¬(fr:Int)<off:=by omega
 have hk2:¬(till:Int)≤fr:=by omega
 have hk3:¬(off:Int)+S<till:=by omega
 have FY:w.heap.size+1+1+1<w2.heap.size:=b3.lt;have uz:(((till:Int)==(off:Int)+S)&&(la|| !sg))=kJ:=by
  rw[←Jm]
  congr 1
  rw[Bool.eq_iff_iff];simp;omega
 go_upto_region 6 with (fail)
 go_cut [9] from 41 to 56 (fun s9 wx=>s9= .pointer (some ⟨w2.heap.size,0,none⟩)∧wx=w2.alloc (.cells #[.int .i64 sn,.bool false,.bool true,.bool kJ,.int .i64 fr,.bool false,.bool false,.slice none 0 0] 148))
 case first=>
  by_cases hte:(till:Int)=(off:Int)+S
  ·have WG:((till:Int)==(off:Int)+S)=true:=by simpa using hte
   rw[WG] at uz;clear hte;cases la with
   |true=>
    obtain rfl:true=kJ:=by simpa using uz
    clear Jm uz;go_wp2_with fail;go_meet;exact ⟨rfl,rfl⟩
   |false=>
    obtain rfl:(!sg)=kJ:=by simpa using uz
    clear Jm uz;go_wp2_with fail;go_meet;exact ⟨rfl,rfl⟩
  ·have WG:((till:Int)==(off:Int)+S)=false:=by simpa using hte
   rw[WG] at uz;obtain rfl:false=kJ:=by simpa using uz
   clear Jm uz hte;go_wp2_with fail;go_meet;exact ⟨rfl,rfl⟩
 case rest=>
  obtain ⟨rfl,rfl⟩:=hcut;clear Jm uz hk1 hk2 hk3;have b9:=au.new w2 148 #[.int .i64 sn,.bool false,.bool true,.bool kJ,.int .i64 fr,.bool false,.bool false,.slice none 0 0]
  replace b0:=b0.alloc (.cells #[.int .i64 sn,.bool false,.bool true,.bool kJ,.int .i64 fr,.bool false,.bool false,.slice none 0 0] 148)
  replace b1:=b1.alloc (.cells #[.int .i64 sn,.bool false,.bool true,.bool kJ,.int .i64 fr,.bool false,.bool false,.slice none 0 0] 148)
  replace b2:=b2.alloc (.cells #[.int .i64 sn,.bool false,.bool true,.bool kJ,.int .i64 fr,.bool false,.bool false,.slice none 0 0] 148)
  replace b3:=b3.alloc (.cells #[.int .i64 sn,.bool false,.bool true,.bool kJ,.int .i64 fr,.bool false,.bool false,.slice none 0 0] 148)
  have hb3:=(Below.refl w2.heap.size w2).alloc (aN) (.cells #[.int .i64 sn,.bool false,.bool true,.bool kJ,.int .i64 fr,.bool false,.bool false,.slice none 0 0] 148);have hA3:=(hA2.below hb3).more hb3.size;have hB3:=hB2.trans (hb3.mono hB2.size);generalize w2.alloc (.cells #[.int .i64 sn,.bool false,.bool true,.bool kJ,.int .i64 fr,.bool false,.bool false,.slice none 0 0] 148)=w3 at*;generalize w2.heap.size=go at*;have hgo:=b9.lt;clear hA2 hB2 hb3 x0 x1 x2 x3 x4 x5 x6 x7 y1 y2;obtain ⟨x0,x1,x2,x3,x4,x5,x6,x7⟩:=b0.eight;have x7':w3.drew.cell? ⟨w.heap.size,7,none⟩=some (.slice A n c):=x7;have hwl:w.heap.size<w3.heap.size:=b0.lt;go_upto_region 7 with (fail)
  go_cut [10,11] from 57 to 60 (fun s10 s11 wx=>∃bi bn:Nat,s10= .pointer (some ⟨bi,0,none⟩)∧s11= .pointer (some ⟨bn,0,none⟩)∧w3.heap.size≤bi∧w3.heap.size≤bn∧bi≠bn∧au wx bi 3 #[.int .i64 0]∧au wx bn 3 #[.int .i64 n]∧Below w3.heap.size w3 wx)
  case first=>
   go_region
   all_goals
    go_wp2_with fail;go_meet
    first
     |exact ⟨w3.heap.size,w3.heap.size+1,rfl,rfl,aN,by omega,by omega,((au.new w3 3 #[.int .i64 0]).alloc _).drew,by simpa using (au.new (w3.alloc (.cells #[.int .i64 0] 3)) 3 #[.int .i64 n]).drew,(((Below.refl _ w3).alloc (aN) _).alloc (by simp) _).drew⟩
     |exact ⟨w3.heap.size+1,w3.heap.size,rfl,rfl,by omega,aN,by omega,by simpa using (au.new (w3.alloc (.cells #[.int .i64 n] 3)) 3 #[.int .i64 0]).drew,((au.new w3 3 #[.int .i64 n]).alloc _).drew,(((Below.refl _ w3).alloc (aN) _).alloc (by simp) _).drew⟩
  case rest=>
   obtain ⟨bi,bn,rfl,rfl,hbi,hbn,hin,d1,d2,hb4⟩:=hcut
   replace b0:=b0.below hb4 b0.lt
   replace b1:=b1.below hb4 b1.lt
   replace b2:=b2.below hb4 b2.lt
   replace b3:=b3.below hb4 b3.lt
   replace b9:=b9.below hb4 b9.lt
   have SB:=(hA3.below hb4).more hb4.size;have hB4:=hB3.trans (hb4.mono hB3.size);clear hA3 hB3 hb4 x0 x1 x2 x3 x4 x5 x6 x7 x7' hwl;obtain ⟨x0,x1,x2,x3,x4,x5,x6,x7⟩:=b0.eight;have hbd:=zh sn po sg la off s e A n c vs ps wc SB (by have:=jw.out;omega) (by omega) (by have:=DY.out;omega);unfold bH at hbd;have NB:=ah hbd;clear hbd;go_wp2_with fail;refine NB.out.mono ?_;rintro e5 w5 ⟨g,v,rfl,hg5,bg,hv5,hb5⟩
   replace b0:=b0.below hb5 b0.lt
   replace b1:=b1.below hb5 b1.lt
   replace b2:=b2.below hb5 b2.lt
   replace b3:=b3.below hb5 b3.lt
   replace b9:=b9.below hb5 b9.lt
   have d1':=d1.below hb5 d1.lt;have d2':=d2.below hb5 d2.lt;have hil:=d1.lt;have hnl:=d2.lt;have Md:=(SB.below hb5).more hb5.size;have lI:=hB4.trans (hb5.mono hB4.size);clear NB SB hB4 x0 x1 x2 x3 x4 x5 x6 x7 d1 d2;go_wp2_with fail;have jZ:Tryz.prog.follows .mixedOrders=true:=by kernel_rfl
   have hI0:Jk w.heap.size w5.heap.size go bi bn sn po sg la off s e A n c ps kJ fr till w5 0 w5:=
    ⟨b0,b1,b2,b3,d1',d2',⟨none,0,b9,[],World.ownsRow_nil _ _ _ _,fun i p hi=>by simp[aS] at hi⟩,Kept.refl _ _⟩
   have hgZ:=bg.lt;have ahK:g≠go:=by omega
   have ahL:g≠bi:=by omega
   have hvZ:∀j,v.ownBlock=some j→j≠go∧j≠bi∧j<w5.heap.size:=fun j hj=>by have:=hv5.lt j hj;omega
   apply wpIn_wide (n:=5).1;apply lH (gf:=197) (lb:= #[.pointer (some ⟨g,0,none⟩)]) rfl (by omega) rfl trivial (enters_of Tryz.func197 (by kernel_rfl) rfl)
    (wO _ (by omega) g wc.heap.size v off ps (by omega) (by have:=DY.out;omega) (by have:=jw.out;omega) (fun j _=>j=go∨j=bi∨w5.heap.size≤j) w5 bg hv5 (by omega) (fun j _ hj=>by have:=hvZ j hj;omega))
    Kept.trans (fun W l o o' hl ho hc _=>(Kept.refl _ W).grown (grownBy_putObj' W l o') (fun j e _ _=>by cases e;exact .inr (.inr hl))) (Below.refl _ _) (fun _=>rfl)
    (Jk w.heap.size w5.heap.size go bi bn sn po sg la off s e A n c ps kJ fr till w5) (Jl _ _ _ _ _ _ _ _ _ _ _ _ _ _ _ _ _ _ _ _) hI0
   case hassign=>
    intro l k W K hK;simp only[xW]
    gi_wp2
    exact hK
   case hbody=>
    intro l k W hk hI;have hBW:Below w.heap.size w W:=lI.trans (hI.kp.below (B:=w.heap.size) (fun j _ hj=>by have:=lI.size;omega) lI.size);have hWs:=hI.kp.size;obtain ⟨ad,Ai,ci,rfl,hbk,hck,uD⟩:=(h.below hBW).get (k:=k) (by have:=jw.out;omega);obtain ⟨Ao,co,bo,zo,gN,hpx⟩:=hI.out;have c0:=hI.b0;have c1:=hI.b1;have c2:=hI.b2;have O1:=hI.di;have cn:=hI.dn;unfold bH at c0 bo;obtain ⟨x0,x1,x2,x3,x4,x5,x6,x7⟩:=c0.eight;obtain ⟨o0,o1,o2,o3,o4,o5,o6,o7⟩:=bo.eight;have y1:=c1.cell 0;have y2:=c2.cell 0;have yi:=O1.cell 0;have yn:=cn.cell 0;simp at y1 y2 yi yn;have hsn:=fH ps k (by omega);have hsl:=Nat.le_trans (bV ps (k+1)) DY.out;obtain ⟨ka,hka⟩:∃ka,off+aj (ps.take k)=ka:=⟨_,rfl⟩
    obtain ⟨kb,hkb⟩:∃kb,off+aj (ps.take (k+1))=kb:=⟨_,rfl⟩
    rw[show (off:Int)+((aj (ps.take k):Nat):Int)=(ka:Int) by omega,show (off:Int)+((aj (ps.take (k+1)):Nat):Int)=(kb:Int) by omega];have Z5:=ah hka;have SC:=ah hkb;have QS:=ah hsn;clear hka hkb hsn
    gi_wp2
    refine mq (S:=fun w'=>w'.cell? ⟨w.heap.size+1,0,none⟩=some (.int .i64 fr)∧w'.cell? ⟨w.heap.size+1+1,0,none⟩=some (.int .i64 till)) jZ (by kernel_rfl) ?hout ⟨y1,y2⟩ (fun hHeld=> ?_)
    case hout=>
     rintro ⟨a',w',hh⟩;exact hh
    refine wpAnyH_take (i:=0) (v:= ?_) rfl (by kernel_rfl) (by kernel_rfl) (by kernel_rfl) (fun _ _ _ h=>h) (Or.inl ⟨by rfl,?_⟩) hHeld ?_;rotate_left
    ·intro w' hSw;obtain ⟨hS1,hS2⟩:=hSw;go_simp
     try with_reducible rfl
    simp only[Act.put,List.getElem_toArray,List.getElem_cons_zero,List.setIfInBounds_toArray,List.set_cons_zero,List.set_cons_succ];refine wpAnyH_take (i:=1) (v:= ?_) rfl (by kernel_rfl) (by kernel_rfl) (by kernel_rfl) (fun _ _ _ h=>h) (Or.inl ⟨by rfl,?_⟩) hHeld ?_;rotate_left
    ·intro w' hSw;obtain ⟨hS1,hS2⟩:=hSw;go_simp
     try with_reducible rfl
    simp only[Act.put,List.getElem_toArray,List.getElem_cons_zero,List.getElem_cons_succ,List.setIfInBounds_toArray,List.set_cons_zero,List.set_cons_succ];refine wpAnyH_take (i:=2) (v:= ?_) rfl (by kernel_rfl) (by kernel_rfl) (by kernel_rfl) (fun _ _ _ h=>h) (Or.inl ⟨by rfl,?_⟩) hHeld ?_;rotate_left
    ·intro w' hSw;obtain ⟨hS1,hS2⟩:=hSw;go_simp
     try with_reducible rfl
    simp only[Act.put,List.getElem_toArray,List.getElem_cons_zero,List.getElem_cons_succ,List.setIfInBounds_toArray,List.set_cons_zero,List.set_cons_succ];refine wpAnyH_take (i:=3) (v:= ?_) rfl (by kernel_rfl) (by kernel_rfl) (by kernel_rfl) (fun _ _ _ h=>h) (Or.inl ⟨by rfl,?_⟩) hHeld ?_;rotate_left
    ·intro w' hSw;obtain ⟨hS1,hS2⟩:=hSw;go_simp
     try with_reducible rfl
    simp only[Act.put,List.getElem_toArray,List.getElem_cons_zero,List.getElem_cons_succ,List.setIfInBounds_toArray,List.set_cons_zero,List.set_cons_succ];refine wpAnyH_take (i:=4) (v:= ?_) rfl (by kernel_rfl) (by kernel_rfl) (by kernel_rfl) (fun _ _ _ h=>h) (Or.inl ⟨by rfl,?_⟩) hHeld ?_;rotate_left
    ·intro w' hSw;obtain ⟨hS1,hS2⟩:=hSw;go_simp
     try with_reducible rfl
    simp only[Act.put,List.getElem_toArray,List.getElem_cons_zero,List.getElem_cons_succ,List.setIfInBounds_toArray,List.set_cons_zero,List.set_cons_succ];refine wpAnyH_take (i:=5) (v:= ?_) rfl (by kernel_rfl) (by kernel_rfl) (by kernel_rfl) (fun _ _ _ h=>h) (Or.inl ⟨by rfl,?_⟩) hHeld ?_;rotate_left
    ·intro w' hSw;obtain ⟨hS1,hS2⟩:=hSw;go_simp
     try with_reducible rfl
    simp only[Act.put,List.getElem_toArray,List.getElem_cons_zero,List.getElem_cons_succ,List.setIfInBounds_toArray,List.set_cons_zero,List.set_cons_succ];refine wpAnyH_take (i:=6) (v:= ?_) rfl (by kernel_rfl) (by kernel_rfl) (by kernel_rfl) (fun _ _ _ h=>h) (Or.inl ⟨by rfl,?_⟩) hHeld ?_;rotate_left
    ·intro w' hSw;obtain ⟨hS1,hS2⟩:=hSw;go_simp
     try with_reducible rfl
    simp only[Act.put,List.getElem_toArray,List.getElem_cons_zero,List.getElem_cons_succ,List.setIfInBounds_toArray,List.set_cons_zero,List.set_cons_succ];refine wpAnyH_take (i:=7) (v:= ?_) rfl (by kernel_rfl) (by kernel_rfl) (by kernel_rfl) (fun _ _ _ h=>h) (Or.inl ⟨by rfl,?_⟩) hHeld ?_;rotate_left
    ·intro w' hSw;obtain ⟨hS1,hS2⟩:=hSw;go_simp
     try with_reducible rfl
    simp only[Act.put,List.getElem_toArray,List.getElem_cons_zero,List.getElem_cons_succ,List.setIfInBounds_toArray,List.set_cons_zero,List.set_cons_succ];refine wpAnyH_done (by kernel_rfl) ?_ _;obtain ⟨mx,hmx⟩:∃mx,max ka fr=mx:=⟨_,rfl⟩
    obtain ⟨my,hmy⟩:∃my,min kb till=my:=⟨_,rfl⟩
    rw[show (if ka<fr then (fr:Int) else (ka:Int))=(mx:Int) by rw[←hmx];split<;>omega,show (if till<kb then (till:Int) else (kb:Int))=(my:Int) by rw[←hmy];split<;>omega];have WH:kb=ka+(ps[k]?.getD []).length:=by have:=Z5.out;have:=SC.out;have:=QS.out;omega
    have hkc:aS ps off fr till (k+1)=if mx<my then aS ps off fr till k++ [((ps[k]?.getD []).drop (mx-ka)).take (my-mx)] else aS ps off fr till k:=by
     show (if kV ps off fr till k=true then _ else _)=_
     unfold kV og;rw[Z5.out,SC.out,hmx,hmy];simp only[decide_eq_true_eq]
    have hKW:Kept (fun j _=>j=go∨j=bi∨w5.heap.size≤j) w5 W.drew:=hI.kp.drew;have hKf:KeepsFrom w5.heap.size W W.drew:=(KeepsOthers.drew W).from _
    have hK2:Kept (fun j _=>j=go∨j=bi∨w5.heap.size≤j) W W.drew:=(Kept.refl _ W).drew
    replace c0:=c0.drew
    replace c1:=c1.drew
    replace c2:=c2.drew
    have c3:=hI.b3.drew
    replace O1:=O1.drew
    replace cn:=cn.drew
    replace bo:=bo.drew
    replace gN:=gN.drew'
    replace hpx:∀(i:Nat) (p:List UInt8),(aS ps off fr till k)[i]? =some p→∃A c,zo[i]? =some (.slice A p.length c)∧W.drew.ownsRow w5.heap.size 5 1 (.slice A p.length c) p.length (bO p):=hpx
    replace hBW:=hBW.drew
    replace uD:=uD.drew
    have Z6:W.drew.cell? (ad.add k)=some (.slice Ai (ps[k]?.getD []).length ci):=hck;have WI:w5.heap.size≤W.drew.heap.size:=hWs;clear x0 x1 x2 x3 x4 x5 x6 x7 o0 o1 o2 o3 o4 o5 o6 o7 y1 y2 yi yn hck hWs;have hck:=Z6;clear Z6;generalize hVV:W.drew=V at*;clear hVV;obtain ⟨p,hp⟩:∃p,ps[k]?.getD []=p:=⟨_,rfl⟩
    rw[hp] at WH hkc uD hck;have Z7:=ah hkc;have WJ:=ah WH;have HMX:=ah hmx;have HMY:=ah hmy;clear hkc hp hsl WH hmx hmy;obtain ⟨x0,x1,x2,x3,x4,x5,x6,x7⟩:=c0.eight;obtain ⟨o0,o1,o2,o3,o4,o5,o6,o7⟩:=bo.eight;have y1:=c1.cell 0;have y2:=c2.cell 0;have yi:=O1.cell 0;have yn:=cn.cell 0;simp at y1 y2 yi yn
    gi_upto_if 73 with (fail)
    gi_cut [] from 65 (fun wx=>au wx w.heap.size 148 #[.int .i64 sn,.bool po,.bool sg,.bool la,.int .i64 off,.bool s,.bool e,.slice (some ad) n c]∧au wx (w.heap.size+1) 3 #[.int .i64 fr]∧au wx (w.heap.size+1+1) 3 #[.int .i64 till]∧au wx (w.heap.size+1+1+1) 148 (bH 0 false false false 0 false false none 0 0)∧au wx bi 3 #[.int .i64 k]∧au wx bn 3 #[.int .i64 n]∧
     (∃A' c',au wx go 148 #[.int .i64 sn,.bool false,.bool true,.bool kJ,.int .i64 fr,.bool (bZ ps s off fr k),.bool (ed ps e off till k),.slice A' (aS ps off fr till (k+1)).length c']∧bF wx w5.heap.size (.slice A' (aS ps off fr till (k+1)).length c') (aS ps off fr till (k+1)))∧
     Kept (fun j _=>j=go∨j=bi∨w5.heap.size≤j) w5 wx∧Kept (fun j _=>j=go∨j=bi∨w5.heap.size≤j) W wx∧KeepsFrom w5.heap.size W wx)
    case first=>
     by_cases hhit:mx<my
     ·have hkc:=Z7.out;rw[if_pos hhit] at hkc;have hq1:ka≤mx:=by have:=HMX.out;omega
      have hq2:my≤ka+p.length:=by have:=HMY.out;have:=WJ.out;omega
      have hpl:0<p.length:=by omega
      obtain ⟨ai,hai,aeH,_⟩:=uD.at_ hpl;subst hai;have hcap:=uD.cap;have aeI:=uD.mx;obtain ⟨lo,hlo⟩:∃lo,mx-ka=lo:=⟨_,rfl⟩
      obtain ⟨hi,hhi⟩:∃hi,my-ka=hi:=⟨_,rfl⟩
      have hmid:=uD.mid (a:=lo) (m:=hi-lo) (by omega);rw[if_neg (by omega)] at hmid;have e1:((bO p).drop lo).take (hi-lo)=bO ((p.drop lo).take (hi-lo)):=by simp[bO]
      obtain ⟨L,hL⟩:∃L,hi-lo=L:=⟨_,rfl⟩
      have hml:my-mx=L:=by omega
      rw[e1,hL] at hmid;rw[hlo,hml] at hkc;have hw1:IntKind.i64.wrap ((mx:Int)-ka)=(lo:Int):=by rw[IntWalk.i64_in _ (by omega)];omega
      have hw2:IntKind.i64.wrap ((my:Int)-ka)=(hi:Int):=by rw[IntWalk.i64_in _ (by omega)];omega
      have hq3:(lo:Int)≤hi:=by omega
      have hq4:(hi:Int)≤ci:=by omega
      have SE:¬ci=lo:=by omega
      have US:(0:Int)≤lo:=by omega
      have hkn:(k:Int)<n:=by have:=jw.out;omega
      have hLs:L≤1000000:=by have:=SC.out;have:=bV ps (k+1);have:=DY.out;have:=WJ.out;omega
      have Me:((p.drop lo).take L).length=L:=by rw[List.length_take,List.length_drop];omega
      generalize hpp:(p.drop lo).take L=pp at*;have Z8:=ah hkc;have Mf:=ah Me;clear hkc Z7 e1 hlo hhi hpp hml Me;obtain ⟨j0,hj0,hm0,hm1,hm2⟩:=info_parts nV;have akM:=oO ps off fr till k;generalize O3:aS ps off fr till k=qs at*;have HQS:=ah O3;clear O3;have hcl:=fun (X:World) (hX:Below w.heap.size V X)=>ji (some (ai.add lo)) L (ci-lo) pp X ((hmid.below hX).more (Nat.le_trans hBW.size (by have:=hX.size;omega))) (by omega)
      have pV:=ah hcl;clear hcl;have hl0:w.heap.size<V.drew.heap.size:=c0.lt;have hli:bi<V.drew.heap.size:=O1.lt;have hlg:go<V.drew.heap.size:=bo.lt;have hlk:(ad.add k).block<V.drew.heap.size:=by rw[block_add];have:=hBW.size;have h2:V.drew.heap.size=V.heap.size:=rfl;omega
      gi_wp2_with fail
      refine mq (S:=fun w'=>w'.cell? ⟨w.heap.size,7,none⟩=some (.slice (some ad) n c)∧w'.cell? ⟨bi,0,none⟩=some (.int .i64 k)∧w'.cell? (ad.add k)=some (.slice (some ai) p.length ci)) jZ (by kernel_rfl) ?hout2 ⟨x7,yi,hck⟩ (fun hHeld=> ?_)
      case hout2=>
       rintro ⟨a',w',hh⟩;exact hh
      refine wpAnyH_take (i:=0) (v:= ?_) rfl (by kernel_rfl) (by kernel_rfl) (by kernel_rfl) (fun _ _ _ h=>h) (Or.inl ⟨by rfl,?_⟩) hHeld ?_;rotate_left
      ·intro w' hSw;obtain ⟨hS1,hS2,gH⟩:=hSw;go_simp
       try with_reducible rfl
      simp only[Act.put,List.getElem_toArray,List.getElem_cons_zero,List.setIfInBounds_toArray,List.set_cons_zero,List.set_cons_succ];refine wpAnyH_take (i:=1) (v:= ?_) rfl (by kernel_rfl) (by kernel_rfl) (by kernel_rfl) (fun _ _ _ h=>h) (Or.inl ⟨by rfl,?_⟩) hHeld ?_;rotate_left
      ·intro w' hSw;obtain ⟨hS1,hS2,gH⟩:=hSw;go_simp
       try with_reducible rfl
      simp only[Act.put,List.getElem_toArray,List.getElem_cons_zero,List.getElem_cons_succ,List.setIfInBounds_toArray,List.set_cons_zero,List.set_cons_succ];refine wpAnyH_take (i:=3) (v:= ?_) rfl (by kernel_rfl) (by kernel_rfl) (by kernel_rfl) (fun _ _ _ h=>h) (Or.inl ⟨by rfl,?_⟩) hHeld ?_;rotate_left
      ·intro w' hSw;obtain ⟨hS1,hS2,gH⟩:=hSw;go_simp
       try with_reducible rfl
      simp only[Act.put,List.getElem_toArray,List.getElem_cons_zero,List.getElem_cons_succ,List.setIfInBounds_toArray,List.set_cons_zero,List.set_cons_succ];refine wpAnyH_take (i:=4) (v:= ?_) rfl (by kernel_rfl) (by kernel_rfl) (by kernel_rfl) (fun _ _ _ h=>h) (Or.inl ⟨by rfl,?_⟩) hHeld ?_;rotate_left
      ·intro w' hSw;obtain ⟨hS1,hS2,gH⟩:=hSw;go_simp
       try with_reducible rfl
      simp only[Act.put,List.getElem_toArray,List.getElem_cons_zero,List.getElem_cons_succ,List.setIfInBounds_toArray,List.set_cons_zero,List.set_cons_succ];refine wpAnyH_take (i:=5) (v:= ?_) rfl (by kernel_rfl) (by kernel_rfl) (by kernel_rfl) (fun _ _ _ h=>h) (Or.inl ⟨by rfl,?_⟩) hHeld ?_;rotate_left
      ·intro w' hSw;obtain ⟨hS1,hS2,gH⟩:=hSw;go_simp
       try with_reducible rfl
      simp only[Act.put,List.getElem_toArray,List.getElem_cons_zero,List.getElem_cons_succ,List.setIfInBounds_toArray,List.set_cons_zero,List.set_cons_succ];refine wpAnyH_take (i:=6) (v:= ?_) rfl (by kernel_rfl) (by kernel_rfl) (by kernel_rfl) (fun _ _ _ h=>h) (Or.inl ⟨by rfl,?_⟩) hHeld ?_;rotate_left
      ·intro w' hSw;obtain ⟨hS1,hS2,gH⟩:=hSw;go_simp
       try with_reducible rfl
      simp only[Act.put,List.getElem_toArray,List.getElem_cons_zero,List.getElem_cons_succ,List.setIfInBounds_toArray,List.set_cons_zero,List.set_cons_succ];refine wpAnyH_take (i:=7) (v:= ?_) rfl (by kernel_rfl) (by kernel_rfl) (by kernel_rfl) (fun _ _ _ h=>h) (Or.inl ⟨by rfl,?_⟩) hHeld ?_;rotate_left
      ·intro w' hSw;obtain ⟨hS1,hS2,gH⟩:=hSw;go_simp
       try with_reducible rfl
      simp only[Act.put,List.getElem_toArray,List.getElem_cons_zero,List.getElem_cons_succ,List.setIfInBounds_toArray,List.set_cons_zero,List.set_cons_succ];refine wpAnyH_take (i:=8) (v:= ?_) rfl (by kernel_rfl) (by kernel_rfl) (by kernel_rfl) (fun _ _ _ h=>h) (Or.inl ⟨by rfl,?_⟩) hHeld ?_;rotate_left
      ·intro w' hSw;obtain ⟨hS1,hS2,gH⟩:=hSw;go_simp
       try with_reducible rfl
      simp only[Act.put,List.getElem_toArray,List.getElem_cons_zero,List.getElem_cons_succ,List.setIfInBounds_toArray,List.set_cons_zero,List.set_cons_succ];refine wpAnyH_take (i:=9) (v:= ?_) rfl (by kernel_rfl) (by kernel_rfl) (by kernel_rfl) (fun _ _ _ h=>h) (Or.inl ⟨by rfl,?_⟩) hHeld ?_;rotate_left
      ·intro w' hSw;obtain ⟨hS1,hS2,gH⟩:=hSw;go_simp
       try with_reducible rfl
      simp only[Act.put,List.getElem_toArray,List.getElem_cons_zero,List.getElem_cons_succ,List.setIfInBounds_toArray,List.set_cons_zero,List.set_cons_succ];refine wpAnyH_take (i:=10) (v:= ?_) rfl (by kernel_rfl) (by kernel_rfl) (by kernel_rfl) (fun _ _ _ h=>h) (Or.inl ⟨by rfl,?_⟩) hHeld ?_;rotate_left
      ·intro w' hSw;obtain ⟨hS1,hS2,gH⟩:=hSw;go_simp
       try with_reducible rfl
      simp only[Act.put,List.getElem_toArray,List.getElem_cons_zero,List.getElem_cons_succ,List.setIfInBounds_toArray,List.set_cons_zero,List.set_cons_succ];refine wpAnyH_take (i:=11) (v:= ?_) rfl (by kernel_rfl) (by kernel_rfl) (by kernel_rfl) (fun _ _ _ h=>h) (Or.inl ⟨by rfl,?_⟩) hHeld ?_;rotate_left
      ·intro w' hSw;obtain ⟨hS1,hS2,gH⟩:=hSw;go_simp
       try with_reducible rfl
      simp only[Act.put,List.getElem_toArray,List.getElem_cons_zero,List.getElem_cons_succ,List.setIfInBounds_toArray,List.set_cons_zero,List.set_cons_succ];refine wpAnyH_take (i:=12) (v:= ?_) rfl (by kernel_rfl) (by kernel_rfl) (by kernel_rfl) (fun _ _ _ h=>h) (Or.inl ⟨by rfl,?_⟩) hHeld ?_;rotate_left
      ·intro w' hSw;obtain ⟨hS1,hS2,gH⟩:=hSw;go_simp
       try with_reducible rfl
      simp only[Act.put,List.getElem_toArray,List.getElem_cons_zero,List.getElem_cons_succ,List.setIfInBounds_toArray,List.set_cons_zero,List.set_cons_succ];refine wpAnyH_take (i:=13) (v:= ?_) rfl (by kernel_rfl) (by kernel_rfl) (by kernel_rfl) (fun _ _ _ h=>h) (Or.inl ⟨by rfl,?_⟩) hHeld ?_;rotate_left
      ·intro w' hSw;obtain ⟨hS1,hS2,gH⟩:=hSw;go_simp
       try with_reducible rfl
      simp only[Act.put,List.getElem_toArray,List.getElem_cons_zero,List.getElem_cons_succ,List.setIfInBounds_toArray,List.set_cons_zero,List.set_cons_succ];refine wpAnyH_take (i:=14) (v:= ?_) rfl (by kernel_rfl) (by kernel_rfl) (by kernel_rfl) (fun _ _ _ h=>h) (Or.inl ⟨by rfl,?_⟩) hHeld ?_;rotate_left
      ·intro w' hSw;obtain ⟨hS1,hS2,gH⟩:=hSw;go_simp
       try with_reducible rfl
      simp only[Act.put,List.getElem_toArray,List.getElem_cons_zero,List.getElem_cons_succ,List.setIfInBounds_toArray,List.set_cons_zero,List.set_cons_succ];refine wpAnyH_take (i:=15) (v:= ?_) rfl (by kernel_rfl) (by kernel_rfl) (by kernel_rfl) (fun _ _ _ h=>h) (Or.inl ⟨by rfl,?_⟩) hHeld ?_;rotate_left
      ·intro w' hSw;obtain ⟨hS1,hS2,gH⟩:=hSw;go_simp
       try with_reducible rfl
      simp only[Act.put,List.getElem_toArray,List.getElem_cons_zero,List.getElem_cons_succ,List.setIfInBounds_toArray,List.set_cons_zero,List.set_cons_succ];refine wpAnyH_ready (rs:= [2,16]) (by kernel_rfl) (by simp) ?_;refine AllReadyH.cons rfl (fun K hK=> ?_) (AllReadyH.cons rfl (fun K hK=> ?_) AllReadyH.nil)
      ·go_simp;refine hK.out _ _ hHeld (fun hHeld=> ?_);clear hK K
       try simp only[Act.put,aB,aC,aD,ax,ay,aA]
       refine wpAnyH_ready (rs:= [16]) (by kernel_rfl) (by simp) ?_;refine AllReadyH.cons rfl (fun K hK=> ?_) AllReadyH.nil;go_simp;refine (pV.out V.drew ((Below.refl _ V).drew)).mono ?_;rintro e6 w6 ⟨v6,rfl,hv6,hb6⟩
       replace hv6:w6.ownsRow V.heap.size 5 1 v6 L (bO pp):=hv6
       have Ef:Below V.heap.size V w6:=((Below.refl _ V).drew).trans hb6;have hzz:V.heap.size≤w6.heap.size:=Ef.size;obtain ⟨A6,c6,rfl,hs6,_⟩:=bq hv6;refine hK.out _ _ ⟨(hb6.cell (p:=⟨w.heap.size,7,none⟩) hl0).trans x7,(hb6.cell (p:=⟨bi,0,none⟩) hli).trans yi,(hb6.cell (p:=ad.add k) hlk).trans hck⟩ (fun hHeld=> ?_);clear hK K
       try simp only[Act.put,aB,aC,aD,ax,ay,aA]
       have KG:=hb6.size;have hu0:w.heap.size<w6.heap.size:=by omega
       have hui:bi<w6.heap.size:=by omega
       have hug:go<w6.heap.size:=by omega
       have huk:(ad.add k).block<w6.heap.size:=by omega
       have o76:=(hb6.cell (p:=⟨go,7,none⟩) hlg).trans o7;refine wpAnyH_ready (rs:= [17]) (by kernel_rfl) (by simp) ?_;refine AllReadyH.cons rfl (fun K hK=> ?_) AllReadyH.nil;go_simp;refine hK.out _ _ ⟨(World.cell?_alloc_lt w6 _ ⟨w.heap.size,7,none⟩ hu0).trans hHeld.1,(World.cell?_alloc_lt w6 _ ⟨bi,0,none⟩ hui).trans hHeld.2.1,(World.cell?_alloc_lt w6 _ (ad.add k) huk).trans hHeld.2.2⟩ (fun hHeld=> ?_);clear hK K
       try simp only[Act.put,aB,aC,aD,ax,ay,aA]
       refine wpAnyH_ready (rs:= [18]) (by kernel_rfl) (by simp) ?_;refine AllReadyH.cons rfl (fun K hK=> ?_) AllReadyH.nil;refine fu _ (by rfl) _ _ 37 (by rfl) w5.heap.size 31 j0 (.slice none 0 0) 24 l7 hj0 hm0 hm1 hm2 rfl (.slice Ao qs.length co) qs.length zo (by rfl) ((own_below gN Ef (aN)).alloc (.cells #[.slice A6 L c6] 31)) (w6.alloc (.cells #[.slice A6 L c6] 31)).heap.size (some ⟨w6.heap.size,0,none⟩) 1 1 [.slice A6 L c6] (by rfl) (vB (xs:= [.slice A6 L c6]) (jC w6 _) rfl (by simp)) (by simp[Value.oneCell']) (by have:=jw.out;unfold maxLen;omega) (by have:=jw.out;omega) (by simp;omega) ?_;intro v7 w7 nG ig _;obtain ⟨A7,c7,rfl,hs7,_⟩:=bq nG;obtain ⟨⟨r0,ri,rg,Z9⟩,hfin⟩:=Ee c0 c1 c2 c3 O1 cn bo gN rfl hpx Ef hv6 Mf.out nG ig WI (by omega) (by omega) (by omega) (by omega) hKW hK2 hKf;have r7:=r0.cell 7;have O4:=ri.cell 0;have VZ:=rg.cell 7;have rgf:=rg.frozen 7;simp at r7 O4 VZ;have FZ:=(Z9 (ad.add k) (by rw[block_add];have:=lI.size;omega)).trans hck;have je:=ah hfin;clear hfin;refine hK.out _ _ ⟨r7,O4,FZ⟩ (fun hHeld=> ?_);clear hK K
       try simp only[Act.put,aB,aC,aD,ax,ay,aA]
       refine wpAnyH_take (i:=19) (v:= ?_) rfl (by kernel_rfl) (by kernel_rfl) (by kernel_rfl) (fun _ _ _ h=>h) (Or.inl ⟨by rfl,?_⟩) hHeld ?_;rotate_left
       ·intro w' hSw;obtain ⟨hS1,hS2,gH⟩:=hSw;go_simp
        try with_reducible rfl
       simp only[Act.put,List.getElem_toArray,List.getElem_cons_zero,List.getElem_cons_succ,List.setIfInBounds_toArray,List.set_cons_zero,List.set_cons_succ];refine wpAnyH_take (i:=20) (v:= ?_) rfl (by kernel_rfl) (by kernel_rfl) (by kernel_rfl) (fun _ _ _ h=>h) (Or.inl ⟨by rfl,?_⟩) hHeld ?_;rotate_left
       ·intro w' hSw;obtain ⟨hS1,hS2,gH⟩:=hSw;go_simp
        try with_reducible rfl
       simp only[Act.put,List.getElem_toArray,List.getElem_cons_zero,List.getElem_cons_succ,List.setIfInBounds_toArray,List.set_cons_zero,List.set_cons_succ];refine wpAnyH_ready (rs:= [21]) (by kernel_rfl) (by simp) ?_;refine AllReadyH.cons rfl (fun K hK=> ?_) AllReadyH.nil;go_simp;refine hK.out _ _ ⟨(World.cell?_setCell_other w7 ⟨go,7,none⟩ ⟨w.heap.size,7,none⟩ _ (by simp<;>omega)).trans r7,(World.cell?_setCell_other w7 ⟨go,7,none⟩ ⟨bi,0,none⟩ _ (by simp)).trans O4,(World.cell?_setCell_other w7 ⟨go,7,none⟩ (ad.add k) _ (fun e=>by have h9:(ad.add k).block=go:=(by rw[←e]);rw[block_add] at h9;have:=lI.size;omega)).trans FZ⟩ (fun hHeld=> ?_);clear hK K
       try simp only[Act.put,aB,aC,aD,ax,ay,aA]
       refine wpAnyH_done (by kernel_rfl) ?_ _
       gi_wp2_with fail
       gi_meet
       rw[Z8.out];exact je.out
      ·go_simp;refine (pV.out V.drew ((Below.refl _ V).drew)).mono ?_;rintro e6 w6 ⟨v6,rfl,hv6,hb6⟩
       replace hv6:w6.ownsRow V.heap.size 5 1 v6 L (bO pp):=hv6
       have Ef:Below V.heap.size V w6:=((Below.refl _ V).drew).trans hb6;have hzz:V.heap.size≤w6.heap.size:=Ef.size;obtain ⟨A6,c6,rfl,hs6,_⟩:=bq hv6;refine hK.out _ _ ⟨(hb6.cell (p:=⟨w.heap.size,7,none⟩) hl0).trans x7,(hb6.cell (p:=⟨bi,0,none⟩) hli).trans yi,(hb6.cell (p:=ad.add k) hlk).trans hck⟩ (fun hHeld=> ?_);clear hK K
       try simp only[Act.put,aB,aC,aD,ax,ay,aA]
       have KG:=hb6.size;have hu0:w.heap.size<w6.heap.size:=by omega
       have hui:bi<w6.heap.size:=by omega
       have hug:go<w6.heap.size:=by omega
       have huk:(ad.add k).block<w6.heap.size:=by omega
       have o76:=(hb6.cell (p:=⟨go,7,none⟩) hlg).trans o7;refine wpAnyH_ready (rs:= [2,17]) (by kernel_rfl) (by simp) ?_;refine AllReadyH.cons rfl (fun K hK=> ?_) (AllReadyH.cons rfl (fun K hK=> ?_) AllReadyH.nil)
       ·go_simp;refine hK.out _ _ hHeld (fun hHeld=> ?_);clear hK K
        try simp only[Act.put,aB,aC,aD,ax,ay,aA]
        refine wpAnyH_ready (rs:= [17]) (by kernel_rfl) (by simp) ?_;refine AllReadyH.cons rfl (fun K hK=> ?_) AllReadyH.nil;go_simp;refine hK.out _ _ ⟨(World.cell?_alloc_lt w6 _ ⟨w.heap.size,7,none⟩ hu0).trans hHeld.1,(World.cell?_alloc_lt w6 _ ⟨bi,0,none⟩ hui).trans hHeld.2.1,(World.cell?_alloc_lt w6 _ (ad.add k) huk).trans hHeld.2.2⟩ (fun hHeld=> ?_);clear hK K
        try simp only[Act.put,aB,aC,aD,ax,ay,aA]
        refine wpAnyH_ready (rs:= [18]) (by kernel_rfl) (by simp) ?_;refine AllReadyH.cons rfl (fun K hK=> ?_) AllReadyH.nil;refine fu _ (by rfl) _ _ 37 (by rfl) w5.heap.size 31 j0 (.slice none 0 0) 24 l7 hj0 hm0 hm1 hm2 rfl (.slice Ao qs.length co) qs.length zo (by rfl) ((own_below gN Ef (aN)).alloc (.cells #[.slice A6 L c6] 31)) (w6.alloc (.cells #[.slice A6 L c6] 31)).heap.size (some ⟨w6.heap.size,0,none⟩) 1 1 [.slice A6 L c6] (by rfl) (vB (xs:= [.slice A6 L c6]) (jC w6 _) rfl (by simp)) (by simp[Value.oneCell']) (by have:=jw.out;unfold maxLen;omega) (by have:=jw.out;omega) (by simp;omega) ?_;intro v7 w7 nG ig _;obtain ⟨A7,c7,rfl,hs7,_⟩:=bq nG;obtain ⟨⟨r0,ri,rg,Z9⟩,hfin⟩:=Ee c0 c1 c2 c3 O1 cn bo gN rfl hpx Ef hv6 Mf.out nG ig WI (by omega) (by omega) (by omega) (by omega) hKW hK2 hKf;have r7:=r0.cell 7;have O4:=ri.cell 0;have VZ:=rg.cell 7;have rgf:=rg.frozen 7;simp at r7 O4 VZ;have FZ:=(Z9 (ad.add k) (by rw[block_add];have:=lI.size;omega)).trans hck;have je:=ah hfin;clear hfin;refine hK.out _ _ ⟨r7,O4,FZ⟩ (fun hHeld=> ?_);clear hK K
        try simp only[Act.put,aB,aC,aD,ax,ay,aA]
        refine wpAnyH_take (i:=19) (v:= ?_) rfl (by kernel_rfl) (by kernel_rfl) (by kernel_rfl) (fun _ _ _ h=>h) (Or.inl ⟨by rfl,?_⟩) hHeld ?_;rotate_left
        ·intro w' hSw;obtain ⟨hS1,hS2,gH⟩:=hSw;go_simp
         try with_reducible rfl
        simp only[Act.put,List.getElem_toArray,List.getElem_cons_zero,List.getElem_cons_succ,List.setIfInBounds_toArray,List.set_cons_zero,List.set_cons_succ];refine wpAnyH_take (i:=20) (v:= ?_) rfl (by kernel_rfl) (by kernel_rfl) (by kernel_rfl) (fun _ _ _ h=>h) (Or.inl ⟨by rfl,?_⟩) hHeld ?_;rotate_left
        ·intro w' hSw;obtain ⟨hS1,hS2,gH⟩:=hSw;go_simp
         try with_reducible rfl
        simp only[Act.put,List.getElem_toArray,List.getElem_cons_zero,List.getElem_cons_succ,List.setIfInBounds_toArray,List.set_cons_zero,List.set_cons_succ];refine wpAnyH_ready (rs:= [21]) (by kernel_rfl) (by simp) ?_;refine AllReadyH.cons rfl (fun K hK=> ?_) AllReadyH.nil;go_simp;refine hK.out _ _ ⟨(World.cell?_setCell_other w7 ⟨go,7,none⟩ ⟨w.heap.size,7,none⟩ _ (by simp<;>omega)).trans r7,(World.cell?_setCell_other w7 ⟨go,7,none⟩ ⟨bi,0,none⟩ _ (by simp)).trans O4,(World.cell?_setCell_other w7 ⟨go,7,none⟩ (ad.add k) _ (fun e=>by have h9:(ad.add k).block=go:=(by rw[←e]);rw[block_add] at h9;have:=lI.size;omega)).trans FZ⟩ (fun hHeld=> ?_);clear hK K
        try simp only[Act.put,aB,aC,aD,ax,ay,aA]
        refine wpAnyH_done (by kernel_rfl) ?_ _
        gi_wp2_with fail
        gi_meet
        rw[Z8.out];exact je.out
       ·go_simp;refine hK.out _ _ ⟨(World.cell?_alloc_lt w6 _ ⟨w.heap.size,7,none⟩ hu0).trans hHeld.1,(World.cell?_alloc_lt w6 _ ⟨bi,0,none⟩ hui).trans hHeld.2.1,(World.cell?_alloc_lt w6 _ (ad.add k) huk).trans hHeld.2.2⟩ (fun hHeld=> ?_);clear hK K
        try simp only[Act.put,aB,aC,aD,ax,ay,aA]
        have o77:=(World.cell?_alloc_lt w6 (.cells #[.slice A6 L c6] 31) ⟨go,7,none⟩ hug).trans o76;refine wpAnyH_ready (rs:= [2]) (by kernel_rfl) (by simp) ?_;refine AllReadyH.cons rfl (fun K hK=> ?_) AllReadyH.nil;go_simp;refine hK.out _ _ hHeld (fun hHeld=> ?_);clear hK K
        try simp only[Act.put,aB,aC,aD,ax,ay,aA]
        refine wpAnyH_ready (rs:= [18]) (by kernel_rfl) (by simp) ?_;refine AllReadyH.cons rfl (fun K hK=> ?_) AllReadyH.nil;refine fu _ (by rfl) _ _ 37 (by rfl) w5.heap.size 31 j0 (.slice none 0 0) 24 l7 hj0 hm0 hm1 hm2 rfl (.slice Ao qs.length co) qs.length zo (by rfl) ((own_below gN Ef (aN)).alloc (.cells #[.slice A6 L c6] 31)) (w6.alloc (.cells #[.slice A6 L c6] 31)).heap.size (some ⟨w6.heap.size,0,none⟩) 1 1 [.slice A6 L c6] (by rfl) (vB (xs:= [.slice A6 L c6]) (jC w6 _) rfl (by simp)) (by simp[Value.oneCell']) (by have:=jw.out;unfold maxLen;omega) (by have:=jw.out;omega) (by simp;omega) ?_;intro v7 w7 nG ig _;obtain ⟨A7,c7,rfl,hs7,_⟩:=bq nG;obtain ⟨⟨r0,ri,rg,Z9⟩,hfin⟩:=Ee c0 c1 c2 c3 O1 cn bo gN rfl hpx Ef hv6 Mf.out nG ig WI (by omega) (by omega) (by omega) (by omega) hKW hK2 hKf;have r7:=r0.cell 7;have O4:=ri.cell 0;have VZ:=rg.cell 7;have rgf:=rg.frozen 7;simp at r7 O4 VZ;have FZ:=(Z9 (ad.add k) (by rw[block_add];have:=lI.size;omega)).trans hck;have je:=ah hfin;clear hfin;refine hK.out _ _ ⟨r7,O4,FZ⟩ (fun hHeld=> ?_);clear hK K
        try simp only[Act.put,aB,aC,aD,ax,ay,aA]
        refine wpAnyH_take (i:=19) (v:= ?_) rfl (by kernel_rfl) (by kernel_rfl) (by kernel_rfl) (fun _ _ _ h=>h) (Or.inl ⟨by rfl,?_⟩) hHeld ?_;rotate_left
        ·intro w' hSw;obtain ⟨hS1,hS2,gH⟩:=hSw;go_simp
         try with_reducible rfl
        simp only[Act.put,List.getElem_toArray,List.getElem_cons_zero,List.getElem_cons_succ,List.setIfInBounds_toArray,List.set_cons_zero,List.set_cons_succ];refine wpAnyH_take (i:=20) (v:= ?_) rfl (by kernel_rfl) (by kernel_rfl) (by kernel_rfl) (fun _ _ _ h=>h) (Or.inl ⟨by rfl,?_⟩) hHeld ?_;rotate_left
        ·intro w' hSw;obtain ⟨hS1,hS2,gH⟩:=hSw;go_simp
         try with_reducible rfl
        simp only[Act.put,List.getElem_toArray,List.getElem_cons_zero,List.getElem_cons_succ,List.setIfInBounds_toArray,List.set_cons_zero,List.set_cons_succ];refine wpAnyH_ready (rs:= [21]) (by kernel_rfl) (by simp) ?_;refine AllReadyH.cons rfl (fun K hK=> ?_) AllReadyH.nil;go_simp;refine hK.out _ _ ⟨(World.cell?_setCell_other w7 ⟨go,7,none⟩ ⟨w.heap.size,7,none⟩ _ (by simp<;>omega)).trans r7,(World.cell?_setCell_other w7 ⟨go,7,none⟩ ⟨bi,0,none⟩ _ (by simp)).trans O4,(World.cell?_setCell_other w7 ⟨go,7,none⟩ (ad.add k) _ (fun e=>by have h9:(ad.add k).block=go:=(by rw[←e]);rw[block_add] at h9;have:=lI.size;omega)).trans FZ⟩ (fun hHeld=> ?_);clear hK K
        try simp only[Act.put,aB,aC,aD,ax,ay,aA]
        refine wpAnyH_done (by kernel_rfl) ?_ _
        gi_wp2_with fail
        gi_meet
        rw[Z8.out];exact je.out
     ·have hkc:=Z7.out;rw[if_neg hhit] at hkc;have Z8:=ah hkc;clear hkc Z7
      gi_wp2_with fail
      gi_meet
      rw[Z8.out];exact ⟨c0,c1,c2,c3,O1,cn,⟨Ao,co,bo,zo,gN,hpx⟩,hKW,hK2,hKf⟩
    case rest=>
     have hm:kQ w.heap.size w5.heap.size go bi bn sn po sg la off s e (some ad) n c kJ fr till w5 W k (aS ps off fr till (k+1)) (bZ ps s off fr k) (ed ps e off till k) wc:=by
      obtain ⟨q0,q1,q2,q3,q4,q5,q6,q7,q8,q9⟩:=hcut;exact ⟨q0,q1,q2,q3,q4,q5,q6,q7,q8,q9⟩
     clear hcut x0 x1 x2 x3 x4 x5 x6 x7 o0 o1 o2 o3 o4 o5 o6 o7 y1 y2 yi yn Z7 WJ HMX HMY uD hck hBW hpx gN bo cn O1 c3 c2 c1 c0 hKW hKf hK2 hHeld hvZ;have hs1:bZ ps s off fr (k+1)=(bZ ps s off fr k||(decide (ka=fr)&&(decide (0<k)||s))):=by
      show (bZ ps s off fr k||(decide (off+aj (ps.take k)=fr)&&(decide (0<k)||s)))=_
      rw[Z5.out]
     have he1:ed ps e off till (k+1)=(ed ps e off till k||(decide (kb=till)&&(decide (k+1<n)||e))):=by
      show (ed ps e off till k||(decide (off+aj (ps.take (k+1))=till)&&(decide (k+1<ps.length)||e)))=_
      rw[SC.out,jw.out]
     generalize hst:bZ ps s off fr k=st at*;generalize hen:ed ps e off till k=en at*;generalize hst':bZ ps s off fr (k+1)=st' at*;generalize aab:ed ps e off till (k+1)=en' at*;generalize O3:aS ps off fr till (k+1)=qs at*;have HST:=ah hst';have Jn:=ah aab;have HQS:=ah O3;have WK:=ah he1;clear hst hen hst' aab O3 he1;have uE:bi≠go:=by omega
     have wQ:bn≠go:=by omega
     gi_upto_region 14 with (fail)
     gi_cut [] from 95 (fun wx=>kQ w.heap.size w5.heap.size go bi bn sn po sg la off s e (some ad) n c kJ fr till w5 W k qs st' en wx)
     case first=>
      obtain ⟨A',c',m1,m2⟩:=hm.out;obtain ⟨x0,x1,x2,x3,x4,x5,x6,x7⟩:=hm.b0.eight;obtain ⟨o0,o1,o2,o3,o4,o5,o6,o7⟩:=m1.eight;have of:=m1.frozen 5;have y1:=hm.b1.cell 0;have y2:=hm.b2.cell 0;have yi:=hm.di.cell 0;have yn:=hm.dn.cell 0;simp at y1 y2 yi yn;cases st with
      |true=>
       obtain rfl:st'=true:=by simpa using hs1
       clear hs1
       gi_wp2_with fail
       gi_meet
       exact hm.Sw FY uE wQ true
      |false=>
       by_cases hq:ka=fr
       ·have hq':((ka:Int)==(fr:Int))=true:=by simp;omega
        have hs2:st'=(decide (0<k)||s):=by rw[hs1,hq];simp
        clear hs1 hq;by_cases hk0:0<k
        ·have hk0':(0:Int)<k:=by omega
         obtain rfl:st'=true:=by rw[hs2];simp[hk0]
         clear hs2
         gi_wp2_with fail
         gi_meet
         exact hm.Sw FY uE wQ true
        ·have hk0':¬(0:Int)<k:=by omega
         obtain rfl:st'=s:=by rw[hs2];simp[hk0]
         clear hs2
         gi_wp2_with fail
         gi_meet
         exact hm.Sw FY uE wQ st'
       ·have hq':((ka:Int)==(fr:Int))=false:=by simp;omega
        obtain rfl:st'=false:=by rw[hs1];simp[hq]
        clear hs1 hq
        gi_wp2_with fail
        gi_meet
        exact hm.Sw FY uE wQ false
     case rest=>
      clear hm hs1 st;have hs1:=WK.out;have hnn:n≤64:=by have:=jw.out;omega
      have hwk:IntKind.i64.wrap ((k:Int)+1)=(k:Int)+1:=IntWalk.i64_in _ (by omega)
      gi_upto_region 15 with (fail)
      gi_cut [] from 114 (fun wx=>kQ w.heap.size w5.heap.size go bi bn sn po sg la off s e (some ad) n c kJ fr till w5 W k qs st' en' wx)
      case first=>
       obtain ⟨A',c',m1,m2⟩:=hcut.out;obtain ⟨x0,x1,x2,x3,x4,x5,x6,x7⟩:=hcut.b0.eight;obtain ⟨o0,o1,o2,o3,o4,o5,o6,o7⟩:=m1.eight;have of:=m1.frozen 6;have y1:=hcut.b1.cell 0;have y2:=hcut.b2.cell 0;have yi:=hcut.di.cell 0;have yn:=hcut.dn.cell 0;simp at y1 y2 yi yn;cases en with
       |true=>
        obtain rfl:en'=true:=by simpa using hs1
        clear hs1
        gi_wp2_with fail
        gi_meet
        exact hcut.Sy FY uE wQ true
       |false=>
        by_cases hq:kb=till
        ·have hq':((kb:Int)==(till:Int))=true:=by simp;omega
         have hs2:en'=(decide (k+1<n)||e):=by rw[hs1,hq];simp
         clear hs1 hq;by_cases hk0:k+1<n
         ·have hk0':(k:Int)+1<n:=by omega
          obtain rfl:en'=true:=by rw[hs2];simp[hk0]
          clear hs2
          gi_wp2_with fail
          gi_meet
          exact hcut.Sy FY uE wQ true
         ·have hk0':¬(k:Int)+1<n:=by omega
          obtain rfl:en'=e:=by rw[hs2];simp[hk0]
          clear hs2
          gi_wp2_with fail
          gi_meet
          exact hcut.Sy FY uE wQ en'
        ·have hq':((kb:Int)==(till:Int))=false:=by simp;omega
         obtain rfl:en'=false:=by rw[hs1];simp[hq]
         clear hs1 hq
         gi_wp2_with fail
         gi_meet
         exact hcut.Sy FY uE wQ false
      case rest=>
       have yi:=hcut.di.cell 0;have yf:=hcut.di.frozen 0;simp at yi
       gi_wp2_with fail
       have hmn:=hcut.next (by omega) uE hin
       refine ⟨hmn.kf,hmn.k2,hmn.b0,hmn.b1,hmn.b2,hmn.b3,hmn.di,hmn.dn,?_,hmn.kp⟩;rw[HST.out,Jn.out,HQS.out];exact hmn.out
   case hdone=>
    intro D W hD hI Ga;obtain ⟨Ao,co,bo,hpo⟩:=hI.out;have b3:=hI.b3;unfold bH at bo b3;have bl:=jw.out;rw[bl] at bo hpo;generalize O3:aS ps off fr till n=qs at*;generalize hst:bZ ps s off fr n=st at*;generalize hen:ed ps e off till n=en at*;clear O3 hst hen;obtain ⟨o0,o1,o2,o3,o4,o5,o6,o7⟩:=bo.eight;have f0:=b3.frozen 0;have f1:=b3.frozen 1;have f2:=b3.frozen 2;have f3:=b3.frozen 3;have f4:=b3.frozen 4;have f5:=b3.frozen 5;have f6:=b3.frozen 6;have f7:=b3.frozen 7;obtain ⟨z0,z1,z2,z3,z4,z5,z6,z7⟩:=b3.eight
    gi_wp2
    go_wp2;have hBW:Below w.heap.size w W:=lI.trans (hI.kp.below (B:=w.heap.size) (fun j _ hj=>by have:=lI.size;omega) lI.size);obtain ⟨r1,r2,r3,r4⟩:=Sz (B0:=w.heap.size) (D:=D) b3 Ga hpo hBW (by omega) (by have:=lI.size;omega) lI.size (.int .i64 sn) (.bool false) (.bool true) (.bool kJ) (.int .i64 fr) (.bool st) (.bool en);refine ⟨by simp,.inl ⟨_,_,rfl,run_takeDeferred r1,?_⟩⟩;obtain ⟨q0,q1,q2,q3,q4,q5,q6,q7⟩:=r2.eight;exact ⟨.tuple #[.agg (bH sn false true kJ fr st en Ao qs.length co),.int .i64 0],by simp[results,Tryz.results128,go_sem,q0,q1,q2,q3,q4,q5,q6,q7,bH],r4,Ao,co,rfl,r3⟩
end
end Go.Proofs.YtbhiklnljiehiaaGreat
