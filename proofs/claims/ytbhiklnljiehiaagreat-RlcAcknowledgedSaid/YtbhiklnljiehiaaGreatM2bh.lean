/- status.Fit. -/
import Derived.Test.YtbhiklnljiehiaaGreatM2ba
namespace Go.Proofs.YtbhiklnljiehiaaGreat
section
open Go.RowKit Go.Shelf
attribute [local go_sem] Oper.semAt_some
def GZ (l:List Nk) (q:Nat):Int:=(l[q]?.getD nk0).sn
def BO (l:List Nk) (N:Nat):Nat→Int × Nat→Int × Nat
 |0,y=>y
 |q+1,y=>if kN (l.take y.2)≤N then y else if 0<q∧GZ l q=GZ l (q-1) then BO l N q y else BO l N q (GZ l q,q)
def G7 (aL:Int) (l:List Nk) (N:Nat):Int × Nat:=BO l N l.length (aL,l.length)
theorem MX {l:List Nk} {N q:Nat} {y:Int × Nat} (h:kN (l.take y.2)≤N):BO l N q y=y:=by
 cases q with
 |zero=>rfl
 |succ q=>rw[BO,if_pos h]
section
variable (w:World)
set_option maxRecDepth 10000 in
set_option maxHeartbeats 2000000 in
theorem Qk (aL:Int) (A:Option Addr) (n c:Nat) (l:List Nk) (h:bM w A n c l) (hv:dm aL l=false) (N:Int):
 Calls Tryz.prog 82 #[.agg #[.int .i64 aL,.slice A n c],.int .i64 N] w fun e w'=>e= .returned (.tuple #[.agg #[.int .i64 0,.slice none 0 0],.int .i64 2])∧Below w.heap.size w w':=by
 have hB:Below w.heap.size w ((w.alloc (.cells #[.int .i64 aL,.slice A n c] 133)).alloc (.cells #[.int .i64 0,.slice none 0 0] 133)):=((Below.refl _ w).alloc (aN) _).alloc (by simp) _;have hva:=jV _ aL A n c l ((h.alloc (.cells #[.int .i64 aL,.slice A n c] 133)).alloc (.cells #[.int .i64 0,.slice none 0 0] 133));rw[hv] at hva;have hz:=au.new (w.alloc (.cells #[.int .i64 aL,.slice A n c] 133)) 133 #[.int .i64 0,.slice none 0 0];rw[World.size_alloc] at hz;have HB:=ah hB;have HV:=ah hva;have HZ:=ah hz;clear hB hva hv h hz;go_enter Tryz.func82,Tryz.ntmps82;go_wp2_with fail;refine HV.out.mono ?_;rintro e1 w1 ⟨rfl,hb1⟩;have hz1:=HZ.out.below hb1 HZ.out.lt;have c0:=hz1.cell 0;have c1:=hz1.cell 1;have f0:=hz1.frozen 0;have f1:=hz1.frozen 1;simp at c0 c1;have hB1:=HB.out.trans (hb1.mono HB.out.size);have HB1:=ah hB1;have HZ1:=ah hz1;clear hB1 hz1 HZ HV HB hb1;go_wp2_with fail;refine bodyPost_ret (v:= .tuple #[.agg #[.int .i64 0,.slice none 0 0],.int .i64 2]) ?_ rfl ?_
 ·have h1:=(HZ1.out.av 0 (.int .i64 0));have h2:=h1.av 1 (.slice none 0 0);have q0:=h2.cell 0;have q1:=h2.cell 1;simp at q0 q1;simp[results,Tryz.results82,go_sem,q0,q1]
 ·exact ⟨rfl,(HB1.out.setCell (p:=⟨w.heap.size+1,0,none⟩) (by simp) _).setCell (p:=⟨w.heap.size+1,1,none⟩) (by simp) _⟩
theorem G8 {l:List Nk} {q:Nat} {x:Nk} (h:l[q]? =some x):GZ l q=x.sn:=by unfold GZ;rw[h];rfl
set_option maxRecDepth 100000 in
set_option maxHeartbeats 4000000 in
theorem TV (aL:Int) (A:Option Addr) (n c:Nat) (l:List Nk) (h:bM w A n c l) (hv:dm aL l=true) (N:Nat) (hN:2≤N):
 Calls Tryz.prog 82 #[.agg #[.int .i64 aL,.slice A n c],.int .i64 (N:Int)] w fun e w'=>∃A' c',e= .returned (.tuple #[.agg #[.int .i64 (G7 aL l N).1,.slice A' (G7 aL l N).2 c'],.int .i64 0])∧bM w' A' (G7 aL l N).2 c' (l.take (G7 aL l N).2)∧(∀ad,A'=some ad→w.heap.size≤ad.block)∧Below w.heap.size w w':=by
 have Zu:n≤512:=by
  have hv2:=hv;unfold dm at hv2;simp only[Bool.and_eq_true,decide_eq_true_eq] at hv2;have:=h.len;omega
 obtain ⟨R,hR⟩:∃R,R=G7 aL l N:=⟨_,rfl⟩
 rw[←hR];have hB:Below w.heap.size w ((w.alloc (.cells #[.int .i64 aL,.slice A n c] 133)).alloc (.cells #[.int .i64 0,.slice none 0 0] 133)):=((Below.refl _ w).alloc (aN) _).alloc (by simp) _;have hva:=jV _ aL A n c l ((h.alloc (.cells #[.int .i64 aL,.slice A n c] 133)).alloc (.cells #[.int .i64 0,.slice none 0 0] 133));rw[hv] at hva;have hs:=(au.new w 133 #[.int .i64 aL,.slice A n c]).alloc (.cells #[.int .i64 0,.slice none 0 0] 133);have hz:=au.new (w.alloc (.cells #[.int .i64 aL,.slice A n c] 133)) 133 #[.int .i64 0,.slice none 0 0];rw[World.size_alloc] at hz;have HB:=ah hB;have HV:=ah hva;have HS:=ah hs;have HZ:=ah hz;have HN:=ah (h.below hB);have HL:=ah h.len;have HR:=ah hR;have afT:=ah (fun (ad:Addr) (e:A=some ad) (h0:0<n)=>show ad.block<w.heap.size by
  obtain ⟨yu,e',hb',_⟩:=h.at_ h0;rw[e] at e';cases e';exact hb')
 have hcap:=h.cap;have hmx:=h.mx;clear hB hva hv hz hs hR h;go_enter Tryz.func82,Tryz.ntmps82;go_wp2_with fail;refine HV.out.mono ?_;rintro e1 w1 ⟨rfl,hb1⟩;have hz1:=HZ.out.below hb1 HZ.out.lt;have hs1:=HS.out.below hb1 HS.out.lt;have hN1:=HN.out.below hb1;have hB1:=HB.out.trans (hb1.mono HB.out.size);have c0:=hs1.cell 0;have c1:=hs1.cell 1;simp at c0 c1;have HB1:=ah hB1;have HZ1:=ah hz1;have rU:=ah hs1;have HN1:=ah hN1;clear hB1 hz1 hs1 hN1 HZ HS HV HB HN hb1;have pV:=ah (fun (W:World) (hW:Below w1.heap.size w1 W)=>wU A n c l W (HN1.out.below hW) (by omega));go_upto_region 5 with (fail)
 go_cut [6] (fun s6 wx=>∃b A' c',s6= .pointer (some ⟨b,0,none⟩)∧au wx b 133 #[.int .i64 aL,.slice A' n c']∧bM wx A' n c' l∧w1.heap.size≤b∧Below w1.heap.size w1 wx∧∀ad,A'=some ad→w1.heap.size≤ad.block∧ad.block≠b)
 case first=>
  have jZ:Tryz.prog.follows .mixedOrders=true:=by kernel_rfl
  refine aZ (fun w'=>w'.cell? ⟨w.heap.size,0,none⟩=some (.int .i64 aL)∧w'.cell? ⟨w.heap.size,1,none⟩=some (.slice A n c)) [7] jZ ?_;have hHeld:=(show (fun w':World=>w'.cell? ⟨w.heap.size,0,none⟩=some (.int .i64 aL)∧w'.cell? ⟨w.heap.size,1,none⟩=some (.slice A n c)) w1.drew from ⟨c0,c1⟩);refine aY 0 rfl hHeld ?_
  try simp only[Act.put,aB,aC,ax,ay,aA]
  refine gV [5,7] 1 ?_ rfl (Or.inl ⟨by rfl,?_⟩) hHeld ?_;rotate_left
  ·intro w' hSw;obtain ⟨hS1,hS2⟩:=hSw;go_simp
   try with_reducible rfl
  try simp only[Act.put,aB,aC,aD,ax,ay,aA]
  refine aY 2 rfl hHeld ?_
  try simp only[Act.put,aB,aC,aD,ax,ay,aA]
  refine gV [4,5,7] 3 ?_ rfl (Or.inl ⟨by rfl,?_⟩) hHeld ?_;rotate_left
  ·intro w' hSw;obtain ⟨hS1,hS2⟩:=hSw;go_simp
   try with_reducible rfl
  try simp only[Act.put,aB,aC,aD,ax,ay,aA]
  refine zJ (i:=4) (k:=6) rfl rfl (by kernel_rfl) (by rfl) (by rfl) (fun K hK=> ?_) (fun K hK=> ?_)
  ·go_simp;refine (pV.out _ (Below.refl _ w1).drew).mono ?_;rintro e w5 ⟨A',c',rfl,k1,k2,k3⟩;have hb6:=rU.out.drew.below k3 rU.out.drew.lt;have q0:=hb6.cell 0;have q1:=hb6.cell 1;simp at q0 q1;refine hK _ _ (show (fun w':World=>w'.cell? ⟨w.heap.size,0,none⟩=some (.int .i64 aL)∧w'.cell? ⟨w.heap.size,1,none⟩=some (.slice A n c)) _ from ⟨q0,q1⟩) ?_;clear hK K hHeld;have hHeld:=(show (fun w':World=>w'.cell? ⟨w.heap.size,0,none⟩=some (.int .i64 aL)∧w'.cell? ⟨w.heap.size,1,none⟩=some (.slice A n c)) _ from ⟨q0,q1⟩)
   try simp only[Act.put,aB,aC,aD,ax,ay,aA]
   refine aY 5 rfl hHeld ?_
   try simp only[Act.put,aB,aC,aD,ax,ay,aA]
   refine aR (i:=6) rfl (by kernel_rfl) (by rfl) (fun K hK=> ?_);go_simp;have hb6:=rU.out.drew.below k3 rU.out.drew.lt;have pz:=hb6.alloc (.cells #[.int .i64 0,.slice none 0 0] 133);have q0:=pz.cell 0;have q1:=pz.cell 1;simp at q0 q1;refine hK _ _ (show (fun w':World=>w'.cell? ⟨w.heap.size,0,none⟩=some (.int .i64 aL)∧w'.cell? ⟨w.heap.size,1,none⟩=some (.slice A n c)) _ from ⟨q0,q1⟩) ?_;clear hK K hHeld;have hHeld:=(show (fun w':World=>w'.cell? ⟨w.heap.size,0,none⟩=some (.int .i64 aL)∧w'.cell? ⟨w.heap.size,1,none⟩=some (.slice A n c)) _ from ⟨q0,q1⟩)
   try simp only[Act.put,aB,aC,aD,ax,ay,aA]
   refine bD (i:=7) rfl (by kernel_rfl) (by kernel_rfl) (by rfl) (fun K hK=> ?_);go_simp;refine hK _ _ ?_;clear hK K
   try simp only[Act.put,aB,aC,aD,ax,ay,aA]
   refine bu (by kernel_rfl) ?_ _;have Iz:=k3.size;rw[World.size_drew] at Iz;have oq:au ((w5.alloc (.cells #[.int .i64 0,.slice none 0 0] 133))) w5.heap.size 133 #[.int .i64 0,.slice none 0 0]:=au.new w5 _ _;go_wp2_with fail;go_meet;exact ⟨w5.heap.size,A',c',rfl,au.new w5 _ _,k1.alloc _,Iz,((Below.refl w1.heap.size w1).drew.trans (k3.mono (aN))).alloc Iz _,fun ad e=>by have:=k2 ad e;rw[World.size_drew] at this;omega⟩
  ·go_simp;have hb6:=rU.out.drew.alloc (.cells #[.int .i64 0,.slice none 0 0] 133);have q0:=hb6.cell 0;have q1:=hb6.cell 1;simp at q0 q1;refine hK _ _ (show (fun w':World=>w'.cell? ⟨w.heap.size,0,none⟩=some (.int .i64 aL)∧w'.cell? ⟨w.heap.size,1,none⟩=some (.slice A n c)) _ from ⟨q0,q1⟩) ?_;clear hK K hHeld;have hHeld:=(show (fun w':World=>w'.cell? ⟨w.heap.size,0,none⟩=some (.int .i64 aL)∧w'.cell? ⟨w.heap.size,1,none⟩=some (.slice A n c)) _ from ⟨q0,q1⟩)
   try simp only[Act.put,aB,aC,aD,ax,ay,aA]
   refine aR (i:=4) rfl (by kernel_rfl) (by rfl) (fun K hK=> ?_);go_simp;refine (pV.out _ ((Below.refl _ w1).drew.alloc (by simp) _)).mono ?_;rintro e w5 ⟨A',c',rfl,k1,k2,k3⟩;have pz:=hb6.below k3 hb6.lt;have q0:=pz.cell 0;have q1:=pz.cell 1;simp at q0 q1;refine hK _ _ (show (fun w':World=>w'.cell? ⟨w.heap.size,0,none⟩=some (.int .i64 aL)∧w'.cell? ⟨w.heap.size,1,none⟩=some (.slice A n c)) _ from ⟨q0,q1⟩) ?_;clear hK K hHeld;have hHeld:=(show (fun w':World=>w'.cell? ⟨w.heap.size,0,none⟩=some (.int .i64 aL)∧w'.cell? ⟨w.heap.size,1,none⟩=some (.slice A n c)) _ from ⟨q0,q1⟩)
   try simp only[Act.put,aB,aC,aD,ax,ay,aA]
   refine aY 5 rfl hHeld ?_
   try simp only[Act.put,aB,aC,aD,ax,ay,aA]
   have Iz:=k3.size;simp only[World.size_alloc,World.size_drew] at Iz;have oq:=(au.new w1.drew 133 #[.int .i64 0,.slice none 0 0]).below k3 (by simp);rw[World.size_drew] at oq;have z0:=oq.cell 0;have z1:=oq.cell 1;have z2:=oq.frozen 0;have z3:=oq.frozen 1;simp at z0 z1;refine bD (i:=7) rfl (by kernel_rfl) (by kernel_rfl) (by rfl) (fun K hK=> ?_);go_simp;refine hK _ _ ?_;clear hK K
   try simp only[Act.put,aB,aC,aD,ax,ay,aA]
   refine bu (by kernel_rfl) ?_ _;go_wp2_with fail;go_meet;exact ⟨w1.heap.size,A',c',rfl,by simpa using (oq.av 0 (.int .i64 aL)).av 1 (.slice A' n c'),(k1.o9 (fun ad e=>by have:=(k2 ad e).1;simp at this;omega) _).o9 (fun ad e=>by have:=(k2 ad e).1;simp at this;omega) _,aN,((((Below.refl _ w1).drew.alloc (by simp) _).trans (k3.mono (by simp))).setCell (p:=⟨w1.heap.size,0,none⟩) (aN) _).setCell (p:=⟨w1.heap.size,1,none⟩) (aN) _,fun ad e=>by have:=k2 ad e;simp at this;omega⟩
 case rest=>
 obtain ⟨b,A',c',rfl,k1,k2,k3,k4,hAL⟩:=hcut;have amt:=k1.lt;have hS:=rU.out.below k4 rU.out.lt;have hZ:=HZ1.out.below k4 HZ1.out.lt;have hNs:=HN1.out.below k4;have hBc:=HB1.out.trans (k4.mono HB1.out.size);have amu:w.heap.size+1<w1.heap.size:=HZ1.out.lt;have z1:=hS.cell 1;have z2:=k1.cell 1;simp at z1 z2;have hw1:IntKind.i64.wrap ((n:Int)-1)=(n:Int)-1:=IntWalk.i64_in _ (by omega);have HS:=ah hS;have HZ:=ah hZ;have HNs:=ah hNs;have HBc:=ah hBc;have K1:=ah k1;have K2:=ah k2;clear hS hZ hNs hBc k1 k2 k4 rU HZ1 HN1 HB1 c0 c1 pV;have r9:=ah hAL;clear hAL;have hkk:c'≤9223372036854775807:=K2.out.mx;have hkc:n≤c':=K2.out.cap;go_wp2_with fail
 go_loopw [7] (fun s7 wr=>∃(q:Nat) (y:Int × Nat) (c2:Nat),s7= .int .i64 ((q:Int)-1)∧q≤n∧q≤y.2∧y.2≤n∧y.2≤c2∧c2≤9223372036854775807∧(q=0→y.2=0)∧BO l N q y=R∧au wr b 133 #[.int .i64 y.1,.slice A' y.2 c2]∧au wr w.heap.size 133 #[.int .i64 aL,.slice A n c]∧au wr (w.heap.size+1) 133 #[.int .i64 0,.slice none 0 0]∧bM wr A' n c' l∧bM wr A n c l∧Below w.heap.size w wr) (fun s7 _=>(intOf s7+1).toNat)
 case atStart=>
  refine ⟨n,(aL,n),c',rfl,aN,aN,aN,hkc,hkk,fun e=>e,?_,K1.out,HS.out,HZ.out,K2.out,HNs.out,HBc.out⟩;rw[HR.out,G7,HL.out]
 case round=>
  clear z1 z2 K1 HS HZ K2 HNs HBc;obtain ⟨q,⟨ya,yn⟩,c2,rfl,hq,hqy,hyn,hyc,hc2,hq0,hfit,h1,h2,h3,h4,h5,h6⟩:=hrel;dsimp only at hqy hyn hyc hq0 h1;have z1:=h2.cell 1;have z2:=h1.cell 1;simp at z1 z2;have hsz:=fun W (hW:Below wr.heap.size wr W)=>LP W A' yn c2 (l.take yn) ((h4.takeC hyn hyc hc2).below hW) (by omega)
  have Bz:=ah hsz;have H1:=ah h1;have H2:=ah h2;have H3:=ah h3;have H4:=ah h4;have H5:=ah h5;have H6:=ah h6;clear hsz h1 h2 h3 h4 h5 h6;by_cases hle:kN (l.take yn)≤N
  ·rw[MX (by exact hle)] at hfit;have dd:decide ((N:Int)<(kN (l.take yn):Int))=false:=decide_eq_false (by omega);have MY:=ah (Bz.out wr (Below.refl _ _));generalize kN (l.take yn)=SZ at*;clear Bz;go_wp2_with fail;refine MY.out.mono ?_;rintro e1 w2 ⟨rfl,hb2⟩;have g1:=H1.out.below hb2 H1.out.lt;have g3:=H3.out.below hb2 H3.out.lt;have g4:=(H4.out.takeC hyn hyc hc2).below hb2;have g6:=H6.out.trans (hb2.mono H6.out.size);have y0:=g1.cell 0;have y1:=g1.cell 1;have y2:=g3.cell 0;have y3:=g3.cell 1;have y4:=g3.frozen 0;have y5:=g3.frozen 1;simp at y0 y1 y2 y3;have G3:=ah g3;have G4:=ah g4;have G6:=ah g6;have HF:=ah hfit;clear g1 g3 g4 g6 hb2 MY H1 H2 H3 H4 H5 H6 hfit z1 z2;go_wp2_with fail;refine bodyPost_ret (v:= .tuple #[.agg #[.int .i64 ya,.slice A' yn c2],.int .i64 0]) ?_ rfl ?_
   ·have k1:=(G3.out.av 0 (.int .i64 ya));have k2:=k1.av 1 (.slice A' yn c2);have q0:=k2.cell 0;have q1:=k2.cell 1;simp at q0 q1;simp[results,Tryz.results82,go_sem,q0,q1]
   ·rw[←HF.out];exact ⟨A',c2,rfl,(G4.out.o9 (fun ad e=>by have:=r9.out ad e;omega) _).o9 (fun ad e=>by have:=r9.out ad e;omega) _,fun ad e=>by have:=r9.out ad e;omega,(G6.out.setCell (p:=⟨w.heap.size+1,0,none⟩) (by simp) _).setCell (p:=⟨w.heap.size+1,1,none⟩) (by simp) _⟩
  ·obtain ⟨p,rfl⟩:∃p,q=p+1:=⟨q-1,by
    rcases Nat.eq_zero_or_pos q with e|e
    ·exfalso;rw[hq0 e] at hle;have:kN (l.take 0)=2:=by simp[kN,oP]
     omega
    ·omega⟩
   rw[show (((p+1:Nat):Int)-1)=(p:Int) by omega];have hln:=HL.out;have dd:(N:Int)<(kN (l.take yn):Int):=by omega
   have MY:=ah (Bz.out wr (Below.refl _ _));have VO:=ah hle;have hstep:BO l N (p+1) (ya,yn)=if 0<p∧GZ l p=GZ l (p-1) then BO l N p (ya,yn) else BO l N p (GZ l p,p):=by
    rw[BO,if_neg (by exact hle)]
   rw[hstep] at hfit;obtain ⟨SZ,hSZ⟩:∃SZ,kN (l.take yn)=SZ:=⟨_,rfl⟩
   rw[hSZ] at dd MY;clear Bz hstep hle hSZ;go_wp2_with fail;refine MY.out.mono ?_;rintro e1 w2 ⟨rfl,hb2⟩;have g1:=H1.out.below hb2 H1.out.lt;have g2:=H2.out.below hb2 H2.out.lt;have g3:=H3.out.below hb2 H3.out.lt;have g4:=H4.out.below hb2;have g5:=H5.out.below hb2;have g6:=H6.out.trans (hb2.mono H6.out.size);obtain ⟨ad,x,rfl,hx,hbk,x0,x1,x2,x3⟩:=g5.get (k:=p) (by omega);rw[G8 hx] at hfit;have G1:=ah g1;have G2:=ah g2;have G3:=ah g3;have G4:=ah g4;have G5:=ah g5;have G6:=ah g6;have KV:=ah (fun (yu:Addr) (e:some ad=some yu)=>show yu.block≠b by have:=afT.out yu e (by omega);omega);clear MY H1 H2 H3 H4 H5 H6 hb2 x1 x2 x3 z1 z2;have y2:=g2.cell 1;simp at y2;clear g1 g2 g3 g4 g5 g6;rcases Nat.eq_zero_or_pos p with hp0|hp0
   ·subst hp0;rw[if_neg (by omega)] at hfit;rw[show (((0:Nat):Int))=0 from rfl];go_wp2_with fail
    go_quiet (fail)
    have g1:=G1.out.drewN nq;have g2:=G2.out.drewN nq;have g3:=G3.out.drewN nq;have g4:=G4.out.drewN nq;have g5:=G5.out.drewN nq;have g6:=G6.out.drewN nq;have ME:(w2.drewN nq).cell? ad=some (.int .i64 x.sn):=by rw[show ad.add (0*4)=ad by cases ad;simp[Addr.add]] at x0;exact x0
    have h0n:0<n:=by omega
    clear x0 y2 G1 G2 G3 G4 G5 G6;have x0:=ME;clear ME;generalize w2.drewN nq=w3 at*;have f0:=g1.frozen 0;have f1:=g1.frozen 1;have y0:=g1.cell 0;have y1:=g1.cell 1;have y2:=g2.cell 1;simp at y0 y1 y2;have b1':au ((w3.setCell ⟨b,0,none⟩ (.int .i64 x.sn)).setCell ⟨b,1,none⟩ (.slice A' 0 0)).drew b 133 #[.int .i64 x.sn,.slice A' 0 0]:=by
     have h9:=(g1.av 0 (.int .i64 x.sn)).av 1 (.slice A' 0 0);simp at h9;exact h9.drew
    have b2':=((g2.far (p:=⟨b,0,none⟩) (by simp;omega) (.int .i64 x.sn)).far (p:=⟨b,1,none⟩) (by simp;omega) (.slice A' 0 0)).drew;have YY:=((g3.far (p:=⟨b,0,none⟩) (by simp;omega) (.int .i64 x.sn)).far (p:=⟨b,1,none⟩) (by simp;omega) (.slice A' 0 0)).drew;have b4':=((g4.o9 (b:=b) (o:=0) (fun ad e=>by have:=r9.out ad e;omega) (.int .i64 x.sn)).o9 (b:=b) (o:=1) (fun ad e=>by have:=r9.out ad e;omega) (.slice A' 0 0)).drewN 1;have b5':=((g5.o9 (b:=b) (o:=0) (fun yu e=>KV.out yu e) (.int .i64 x.sn)).o9 (b:=b) (o:=1) (fun yu e=>KV.out yu e) (.slice A' 0 0)).drewN 1;have b6':=((g6.setCell (p:=⟨b,0,none⟩) (by simp;omega) (.int .i64 x.sn)).setCell (p:=⟨b,1,none⟩) (by simp;omega) (.slice A' 0 0)).drew;have B1:=ah b1';have B2:=ah b2';have B3:=ah YY;have B4:=ah b4';have B5:=ah b5';have B6:=ah b6';have HF:=ah hfit;clear b1' b2' YY b4' b5' b6' g1 g2 g3 g4 g5 g6 hfit;go_wp2_with fail
    go_region
    go_wp2_with fail
    go_roundw
    case rel=>exact ⟨0,(x.sn,0),0,by simp,by omega,by simp,by simp,by simp,by omega,fun _=>rfl,HF.out,B1.out,B2.out,B3.out,B4.out,B5.out,B6.out⟩
    case measure=>simp[intOf]
   ·obtain ⟨r,hr⟩:∃r,p=r+1:=⟨p-1,by omega⟩
    obtain ⟨ad2,x',e2,hx',afW,xr,_,_,_⟩:=G5.out.get (k:=r) (by omega);cases e2;have hw2:IntKind.i64.wrap ((p:Int)-1)=(r:Int):=by rw[IntWalk.i64_in _ (by omega)];omega
    have hgt:(0:Int)<(p:Int):=by omega
    have hpn:p<n:=by omega
    have hrn:r<n:=by omega
    rw[show p-1=r by omega,G8 hx'] at hfit;have KJ:=ah hr;clear hr hx hx' hbk afW;by_cases hsn:x.sn=x'.sn
    ·rw[if_pos ⟨hp0,hsn⟩] at hfit;go_wp2_with fail
     go_quiet (fail)
     have g1:=G1.out.drewN nq;have g2:=G2.out.drewN nq;have g3:=G3.out.drewN nq;have g4:=G4.out.drewN nq;have g5:=G5.out.drewN nq;have g6:=G6.out.drewN nq;have ME:(w2.drewN nq).cell? (ad.add (p*4))=some (.int .i64 x.sn):=x0;clear x0 xr y2 G1 G2 G3 G4 G5 G6;have x0:=ME;clear ME;generalize w2.drewN nq=w3 at*;have B1:=ah g1;have B2:=ah g2;have B3:=ah g3;have B4:=ah g4;have B5:=ah g5;have B6:=ah g6;have HF:=ah hfit;clear g1 g2 g3 g4 g5 g6 hfit;go_wp2_with fail
     go_roundw
     case rel=>exact ⟨p,(ya,yn),c2,by have:=KJ.out;go_num,by omega,by simp;omega,by simp;omega,by simp;omega,by omega,fun e=>by omega,HF.out,B1.out,B2.out,B3.out,B4.out,B5.out,B6.out⟩
     case measure=>have:=KJ.out;simp[intOf];omega
    ·rw[if_neg (fun h=>hsn h.2)] at hfit;have dsn:decide (x.sn=x'.sn)=false:=decide_eq_false hsn;go_wp2_with fail
     go_quiet (fail)
     have g1:=G1.out.drewN nq;have g2:=G2.out.drewN nq;have g3:=G3.out.drewN nq;have g4:=G4.out.drewN nq;have g5:=G5.out.drewN nq;have g6:=G6.out.drewN nq;have ME:(w2.drewN nq).cell? (ad.add (p*4))=some (.int .i64 x.sn):=x0;clear x0 xr y2 G1 G2 G3 G4 G5 G6;have x0:=ME;clear ME;generalize w2.drewN nq=w3 at*;have f0:=g1.frozen 0;have f1:=g1.frozen 1;have y0:=g1.cell 0;have y1:=g1.cell 1;have y2:=g2.cell 1;simp at y0 y1 y2;have b1':au ((w3.setCell ⟨b,0,none⟩ (.int .i64 x.sn)).setCell ⟨b,1,none⟩ (.slice A' p p)).drew b 133 #[.int .i64 x.sn,.slice A' p p]:=by
      have h9:=(g1.av 0 (.int .i64 x.sn)).av 1 (.slice A' p p);simp at h9;exact h9.drew
     have b2':=((g2.far (p:=⟨b,0,none⟩) (by simp;omega) (.int .i64 x.sn)).far (p:=⟨b,1,none⟩) (by simp;omega) (.slice A' p p)).drew;have YY:=((g3.far (p:=⟨b,0,none⟩) (by simp;omega) (.int .i64 x.sn)).far (p:=⟨b,1,none⟩) (by simp;omega) (.slice A' p p)).drew;have b4':=((g4.o9 (b:=b) (o:=0) (fun ad e=>by have:=r9.out ad e;omega) (.int .i64 x.sn)).o9 (b:=b) (o:=1) (fun ad e=>by have:=r9.out ad e;omega) (.slice A' p p)).drewN 1;have b5':=((g5.o9 (b:=b) (o:=0) (fun yu e=>KV.out yu e) (.int .i64 x.sn)).o9 (b:=b) (o:=1) (fun yu e=>KV.out yu e) (.slice A' p p)).drewN 1;have b6':=((g6.setCell (p:=⟨b,0,none⟩) (by simp;omega) (.int .i64 x.sn)).setCell (p:=⟨b,1,none⟩) (by simp;omega) (.slice A' p p)).drew;have B1:=ah b1';have B2:=ah b2';have B3:=ah YY;have B4:=ah b4';have B5:=ah b5';have B6:=ah b6';have HF:=ah hfit;clear b1' b2' YY b4' b5' b6' g1 g2 g3 g4 g5 g6 hfit;go_wp2_with fail
     go_region
     go_wp2_with fail
     go_roundw
     case rel=>exact ⟨p,(x.sn,p),p,by have:=KJ.out;go_num,by omega,by simp,by simp;omega,by simp,by omega,fun e=>by omega,HF.out,B1.out,B2.out,B3.out,B4.out,B5.out,B6.out⟩
     case measure=>have:=KJ.out;simp[intOf];omega
end
end
end Go.Proofs.YtbhiklnljiehiaaGreat
