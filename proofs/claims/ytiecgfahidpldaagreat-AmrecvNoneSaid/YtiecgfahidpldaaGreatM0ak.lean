/- status.Fit. amrecv: goes. amrecv: Grant. amrecv: part. amrecv: deliver: what it computes (bounds), and its memory. -/
import Derived.Test.YtiecgfahidpldaaGreatM0ab
import Derived.Test.YtiecgfahidpldaaGreatM0ag
import Derived.Test.YtiecgfahidpldaaGreatM0ah
import Derived.Test.YtiecgfahidpldaaGreatM0ai
import Derived.Test.YtiecgfahidpldaaGreatM0aj
import Derived.BigQuiet
namespace Go.Proofs.YtiecgfahidpldaaGreat
section
open Go.RowKit Go.Shelf
attribute [local go_sem] Oper.semAt_some
def rG (l:List Nk) (q:Nat):Int:=(l[q]?.getD J2).sn
def nT (l:List Nk) (N:Nat):Nat→Int × Nat→Int × Nat
 |0,y=>y
 |q+1,y=>if eG (l.take y.2)≤N then y else if 0<q∧rG l q=rG l (q-1) then nT l N q y else nT l N q (rG l q,q)
def rH (aH:Int) (l:List Nk) (N:Nat):Int × Nat:=nT l N l.length (aH,l.length)
theorem wh {l:List Nk} {N q:Nat} {y:Int × Nat} (h:eG (l.take y.2)≤N):nT l N q y=y:=by
 cases q with
 |zero=>rfl
 |succ q=>rw[nT,if_pos h]
section
variable (w:World)
set_option maxRecDepth 10000 in
set_option maxHeartbeats 2000000 in
theorem yB (aH:Int) (A:Option Addr) (n c:Nat) (l:List Nk) (h:aP w A n c l) (hv:aZ aH l=false) (N:Int):
 Calls Tryz.prog 40 #[.agg #[.int .i64 aH,.slice A n c],.int .i64 N] w fun e w'=>e= .returned (.tuple #[.agg #[.int .i64 0,.slice none 0 0],.int .i64 2])∧Below w.heap.size w w':=by
 have hB:Below w.heap.size w ((w.alloc (.cells #[.int .i64 aH,.slice A n c] 42)).alloc (.cells #[.int .i64 0,.slice none 0 0] 42)):=((Below.refl _ w).alloc (Nat.le_refl _) _).alloc (by simp) _;have hva:=gI _ aH A n c l ((h.alloc (.cells #[.int .i64 aH,.slice A n c] 42)).alloc (.cells #[.int .i64 0,.slice none 0 0] 42));rw[hv] at hva;have hz:=av.new (w.alloc (.cells #[.int .i64 aH,.slice A n c] 42)) 42 #[.int .i64 0,.slice none 0 0];rw[World.size_alloc] at hz;have HB:=Lib.hid hB;have HV:=Lib.hid hva;have HZ:=Lib.hid hz;clear hB hva hv h hz;go_enter Tryz.func40,Tryz.ntmps40;go_wp2_with fail;refine HV.out.mono ?_;rintro e1 w1 ⟨rfl,hb1⟩;have hz1:=HZ.out.below hb1 HZ.out.lt;have c0:=hz1.cell 0;have c1:=hz1.cell 1;have f0:=hz1.frozen 0;have f1:=hz1.frozen 1;simp at c0 c1;have hB1:=HB.out.trans (hb1.mono HB.out.size);have HB1:=Lib.hid hB1;have HZ1:=Lib.hid hz1;clear hB1 hz1 HZ HV HB hb1;go_wp2_with fail;refine bodyPost_ret (v:= .tuple #[.agg #[.int .i64 0,.slice none 0 0],.int .i64 2]) ?_ rfl ?_
 ·have h1:=(HZ1.out.aF 0 (.int .i64 0));have h2:=h1.aF 1 (.slice none 0 0);have q0:=h2.cell 0;have q1:=h2.cell 1;simp at q0 q1;simp[results,Tryz.results40,go_sem,q0,q1]
 ·exact ⟨rfl,(HB1.out.setCell (p:=⟨w.heap.size+1,0,none⟩) (by simp) _).setCell (p:=⟨w.heap.size+1,1,none⟩) (by simp) _⟩
theorem rJ {l:List Nk} {q:Nat} {x:Nk} (h:l[q]? =some x):rG l q=x.sn:=by unfold rG;rw[h];rfl
set_option maxRecDepth 100000 in
set_option maxHeartbeats 4000000 in
theorem Az (aH:Int) (A:Option Addr) (n c:Nat) (l:List Nk) (h:aP w A n c l) (hv:aZ aH l=true) (N:Nat) (hN:2≤N):
 Calls Tryz.prog 40 #[.agg #[.int .i64 aH,.slice A n c],.int .i64 (N:Int)] w fun e w'=>∃A' c',e= .returned (.tuple #[.agg #[.int .i64 (rH aH l N).1,.slice A' (rH aH l N).2 c'],.int .i64 0])∧aP w' A' (rH aH l N).2 c' (l.take (rH aH l N).2)∧(∀ad,A'=some ad→w.heap.size≤ad.block)∧Below w.heap.size w w':=by
 have Fg:n≤512:=by
  have hv2:=hv;unfold aZ at hv2;simp only[Bool.and_eq_true,decide_eq_true_eq] at hv2;have:=h.len;omega
 obtain ⟨R,hR⟩:∃R,R=rH aH l N:=⟨_,rfl⟩
 rw[←hR];have hB:Below w.heap.size w ((w.alloc (.cells #[.int .i64 aH,.slice A n c] 42)).alloc (.cells #[.int .i64 0,.slice none 0 0] 42)):=((Below.refl _ w).alloc (Nat.le_refl _) _).alloc (by simp) _;have hva:=gI _ aH A n c l ((h.alloc (.cells #[.int .i64 aH,.slice A n c] 42)).alloc (.cells #[.int .i64 0,.slice none 0 0] 42));rw[hv] at hva;have hs:=(av.new w 42 #[.int .i64 aH,.slice A n c]).alloc (.cells #[.int .i64 0,.slice none 0 0] 42);have hz:=av.new (w.alloc (.cells #[.int .i64 aH,.slice A n c] 42)) 42 #[.int .i64 0,.slice none 0 0];rw[World.size_alloc] at hz;have HB:=Lib.hid hB;have HV:=Lib.hid hva;have HS:=Lib.hid hs;have HZ:=Lib.hid hz;have HN:=Lib.hid (h.below hB);have HL:=Lib.hid h.len;have HR:=Lib.hid hR;have J9:=Lib.hid (fun (ad:Addr) (e:A=some ad) (h0:0<n)=>show ad.block<w.heap.size by
  obtain ⟨rX,e',hb',_⟩:=h.at_ h0;rw[e] at e';cases e';exact hb')
 have hcap:=h.cap;have hmx:=h.mx;clear hB hva hv hz hs hR h;go_enter Tryz.func40,Tryz.ntmps40;go_wp2_with fail;refine HV.out.mono ?_;rintro e1 w1 ⟨rfl,hb1⟩;have hz1:=HZ.out.below hb1 HZ.out.lt;have hs1:=HS.out.below hb1 HS.out.lt;have hN1:=HN.out.below hb1;have hB1:=HB.out.trans (hb1.mono HB.out.size);have c0:=hs1.cell 0;have c1:=hs1.cell 1;simp at c0 c1;have HB1:=Lib.hid hB1;have HZ1:=Lib.hid hz1;have rZ:=Lib.hid hs1;have Ka:=Lib.hid hN1;clear hB1 hz1 hs1 hN1 HZ HS HV HB HN hb1;have qI:=Lib.hid (fun (W:World) (hW:Below w1.heap.size w1 W)=>rA A n c l W (Ka.out.below hW) (by omega));go_upto_region 5 with (fail)
 go_cut [6] (fun s6 wx=>∃b A' c',s6= .pointer (some ⟨b,0,none⟩)∧av wx b 42 #[.int .i64 aH,.slice A' n c']∧aP wx A' n c' l∧w1.heap.size≤b∧Below w1.heap.size w1 wx∧∀ad,A'=some ad→w1.heap.size≤ad.block∧ad.block≠b)
 case first=>
  have fq:Tryz.prog.follows .mixedOrders=true:=by kernel_rfl
  refine bJ (fun w'=>w'.cell? ⟨w.heap.size,0,none⟩=some (.int .i64 aH)∧w'.cell? ⟨w.heap.size,1,none⟩=some (.slice A n c)) [7] fq ?_;have hHeld:=(show (fun w':World=>w'.cell? ⟨w.heap.size,0,none⟩=some (.int .i64 aH)∧w'.cell? ⟨w.heap.size,1,none⟩=some (.slice A n c)) w1.drew from ⟨c0,c1⟩);refine ah (i:=0) (v:= ?_) rfl (by kernel_rfl) (by kernel_rfl) (by kernel_rfl) (by kernel_rfl) (fun _ _ _ h=>h) (Or.inl ⟨by rfl,?_⟩) hHeld ?_;rotate_left
  ·intro w' hSw;go_simp
   try with_reducible rfl
  try simp only[Act.put,List.getElem_toArray,List.getElem_cons_zero,List.setIfInBounds_toArray,List.set_cons_zero,List.set_cons_succ]
  refine ax [5,7] (i:=1) (v:= ?_) rfl (by kernel_rfl) (by kernel_rfl) (by kernel_rfl) (by kernel_rfl) (fun _ _ _ h=>h) (Or.inl ⟨by rfl,?_⟩) hHeld ?_;rotate_left
  ·intro w' hSw;obtain ⟨hS1,hS2⟩:=hSw;go_simp
   try with_reducible rfl
  try simp only[Act.put,List.getElem_toArray,List.getElem_cons_zero,List.getElem_cons_succ,List.setIfInBounds_toArray,List.set_cons_zero,List.set_cons_succ]
  refine ah (i:=2) (v:= ?_) rfl (by kernel_rfl) (by kernel_rfl) (by kernel_rfl) (by kernel_rfl) (fun _ _ _ h=>h) (Or.inl ⟨by rfl,?_⟩) hHeld ?_;rotate_left
  ·intro w' hSw;go_simp
   try with_reducible rfl
  try simp only[Act.put,List.getElem_toArray,List.getElem_cons_zero,List.getElem_cons_succ,List.setIfInBounds_toArray,List.set_cons_zero,List.set_cons_succ]
  refine ax [4,5,7] (i:=3) (v:= ?_) rfl (by kernel_rfl) (by kernel_rfl) (by kernel_rfl) (by kernel_rfl) (fun _ _ _ h=>h) (Or.inl ⟨by rfl,?_⟩) hHeld ?_;rotate_left
  ·intro w' hSw;obtain ⟨hS1,hS2⟩:=hSw;go_simp
   try with_reducible rfl
  try simp only[Act.put,List.getElem_toArray,List.getElem_cons_zero,List.getElem_cons_succ,List.setIfInBounds_toArray,List.set_cons_zero,List.set_cons_succ]
  refine tT (i:=4) (k:=6) rfl rfl (by kernel_rfl) (by rfl) (by rfl) (fun K hK=> ?_) (fun K hK=> ?_)
  ·go_simp;refine (qI.out _ (Below.refl _ w1).drew).mono ?_;rintro e w5 ⟨A',c',rfl,k1,k2,k3⟩;have hb6:=rZ.out.drew.below k3 rZ.out.drew.lt;have q0:=hb6.cell 0;have q1:=hb6.cell 1;simp at q0 q1;refine hK _ _ (show (fun w':World=>w'.cell? ⟨w.heap.size,0,none⟩=some (.int .i64 aH)∧w'.cell? ⟨w.heap.size,1,none⟩=some (.slice A n c)) _ from ⟨q0,q1⟩) ?_;clear hK K hHeld;have hHeld:=(show (fun w':World=>w'.cell? ⟨w.heap.size,0,none⟩=some (.int .i64 aH)∧w'.cell? ⟨w.heap.size,1,none⟩=some (.slice A n c)) _ from ⟨q0,q1⟩)
   try simp only[Act.put,List.getElem_toArray,List.getElem_cons_zero,List.getElem_cons_succ,List.setIfInBounds_toArray,List.set_cons_zero,List.set_cons_succ]
   refine ah (i:=5) (v:= ?_) rfl (by kernel_rfl) (by kernel_rfl) (by kernel_rfl) (by kernel_rfl) (fun _ _ _ h=>h) (Or.inl ⟨by rfl,?_⟩) hHeld ?_;rotate_left
   ·intro w' hSw;go_simp
    try with_reducible rfl
   try simp only[Act.put,List.getElem_toArray,List.getElem_cons_zero,List.getElem_cons_succ,List.setIfInBounds_toArray,List.set_cons_zero,List.set_cons_succ]
   refine aO (i:=6) rfl (by kernel_rfl) (by rfl) (fun K hK=> ?_);go_simp;have hb6:=rZ.out.drew.below k3 rZ.out.drew.lt;have sw:=hb6.alloc (.cells #[.int .i64 0,.slice none 0 0] 42);have q0:=sw.cell 0;have q1:=sw.cell 1;simp at q0 q1;refine hK _ _ (show (fun w':World=>w'.cell? ⟨w.heap.size,0,none⟩=some (.int .i64 aH)∧w'.cell? ⟨w.heap.size,1,none⟩=some (.slice A n c)) _ from ⟨q0,q1⟩) ?_;clear hK K hHeld;have hHeld:=(show (fun w':World=>w'.cell? ⟨w.heap.size,0,none⟩=some (.int .i64 aH)∧w'.cell? ⟨w.heap.size,1,none⟩=some (.slice A n c)) _ from ⟨q0,q1⟩)
   try simp only[Act.put,List.getElem_toArray,List.getElem_cons_zero,List.getElem_cons_succ,List.setIfInBounds_toArray,List.set_cons_zero,List.set_cons_succ]
   refine bB (i:=7) rfl (by kernel_rfl) (by kernel_rfl) (by rfl) (fun K hK=> ?_);go_simp;refine hK _ _ ?_;clear hK K
   try simp only[Act.put,List.getElem_toArray,List.getElem_cons_zero,List.getElem_cons_succ,List.setIfInBounds_toArray,List.set_cons_zero,List.set_cons_succ]
   refine aS (by kernel_rfl) ?_ _;have Fv:=k3.size;rw[World.size_drew] at Fv;have fZ:av ((w5.alloc (.cells #[.int .i64 0,.slice none 0 0] 42))) w5.heap.size 42 #[.int .i64 0,.slice none 0 0]:=av.new w5 _ _;go_wp2_with fail;go_meet;exact ⟨w5.heap.size,A',c',rfl,av.new w5 _ _,k1.alloc _,Fv,((Below.refl w1.heap.size w1).drew.trans (k3.mono (Nat.le_refl _))).alloc Fv _,fun ad e=>by have:=k2 ad e;rw[World.size_drew] at this;omega⟩
  ·go_simp;have hb6:=rZ.out.drew.alloc (.cells #[.int .i64 0,.slice none 0 0] 42);have q0:=hb6.cell 0;have q1:=hb6.cell 1;simp at q0 q1;refine hK _ _ (show (fun w':World=>w'.cell? ⟨w.heap.size,0,none⟩=some (.int .i64 aH)∧w'.cell? ⟨w.heap.size,1,none⟩=some (.slice A n c)) _ from ⟨q0,q1⟩) ?_;clear hK K hHeld;have hHeld:=(show (fun w':World=>w'.cell? ⟨w.heap.size,0,none⟩=some (.int .i64 aH)∧w'.cell? ⟨w.heap.size,1,none⟩=some (.slice A n c)) _ from ⟨q0,q1⟩)
   try simp only[Act.put,List.getElem_toArray,List.getElem_cons_zero,List.getElem_cons_succ,List.setIfInBounds_toArray,List.set_cons_zero,List.set_cons_succ]
   refine aO (i:=4) rfl (by kernel_rfl) (by rfl) (fun K hK=> ?_);go_simp;refine (qI.out _ ((Below.refl _ w1).drew.alloc (by simp) _)).mono ?_;rintro e w5 ⟨A',c',rfl,k1,k2,k3⟩;have sw:=hb6.below k3 hb6.lt;have q0:=sw.cell 0;have q1:=sw.cell 1;simp at q0 q1;refine hK _ _ (show (fun w':World=>w'.cell? ⟨w.heap.size,0,none⟩=some (.int .i64 aH)∧w'.cell? ⟨w.heap.size,1,none⟩=some (.slice A n c)) _ from ⟨q0,q1⟩) ?_;clear hK K hHeld;have hHeld:=(show (fun w':World=>w'.cell? ⟨w.heap.size,0,none⟩=some (.int .i64 aH)∧w'.cell? ⟨w.heap.size,1,none⟩=some (.slice A n c)) _ from ⟨q0,q1⟩)
   try simp only[Act.put,List.getElem_toArray,List.getElem_cons_zero,List.getElem_cons_succ,List.setIfInBounds_toArray,List.set_cons_zero,List.set_cons_succ]
   refine ah (i:=5) (v:= ?_) rfl (by kernel_rfl) (by kernel_rfl) (by kernel_rfl) (by kernel_rfl) (fun _ _ _ h=>h) (Or.inl ⟨by rfl,?_⟩) hHeld ?_;rotate_left
   ·intro w' hSw;go_simp
    try with_reducible rfl
   try simp only[Act.put,List.getElem_toArray,List.getElem_cons_zero,List.getElem_cons_succ,List.setIfInBounds_toArray,List.set_cons_zero,List.set_cons_succ]
   have Fv:=k3.size;simp only[World.size_alloc,World.size_drew] at Fv;have fZ:=(av.new w1.drew 42 #[.int .i64 0,.slice none 0 0]).below k3 (by simp);rw[World.size_drew] at fZ;have z0:=fZ.cell 0;have z1:=fZ.cell 1;have z2:=fZ.frozen 0;have z3:=fZ.frozen 1;simp at z0 z1;refine bB (i:=7) rfl (by kernel_rfl) (by kernel_rfl) (by rfl) (fun K hK=> ?_);go_simp;refine hK _ _ ?_;clear hK K
   try simp only[Act.put,List.getElem_toArray,List.getElem_cons_zero,List.getElem_cons_succ,List.setIfInBounds_toArray,List.set_cons_zero,List.set_cons_succ]
   refine aS (by kernel_rfl) ?_ _;go_wp2_with fail;go_meet;exact ⟨w1.heap.size,A',c',rfl,by simpa using (fZ.aF 0 (.int .i64 aH)).aF 1 (.slice A' n c'),(k1.jN (fun ad e=>by have:=(k2 ad e).1;simp at this;omega) _).jN (fun ad e=>by have:=(k2 ad e).1;simp at this;omega) _,Nat.le_refl _,((((Below.refl _ w1).drew.alloc (by simp) _).trans (k3.mono (by simp))).setCell (p:=⟨w1.heap.size,0,none⟩) (Nat.le_refl _) _).setCell (p:=⟨w1.heap.size,1,none⟩) (Nat.le_refl _) _,fun ad e=>by have:=k2 ad e;simp at this;omega⟩
 case rest=>
 obtain ⟨b,A',c',rfl,k1,k2,k3,k4,Nc⟩:=hcut;have PV:=k1.lt;have hS:=rZ.out.below k4 rZ.out.lt;have hZ:=HZ1.out.below k4 HZ1.out.lt;have hNs:=Ka.out.below k4;have Nf:=HB1.out.trans (k4.mono HB1.out.size);have PW:w.heap.size+1<w1.heap.size:=HZ1.out.lt;have z1:=hS.cell 1;have z2:=k1.cell 1;simp at z1 z2;have hw1:IntKind.i64.wrap ((n:Int)-1)=(n:Int)-1:=IntWalk.i64_in _ (by omega);have HS:=Lib.hid hS;have HZ:=Lib.hid hZ;have Ng:=Lib.hid hNs;have Nh:=Lib.hid Nf;have K1:=Lib.hid k1;have K2:=Lib.hid k2;clear hS hZ hNs Nf k1 k2 k4 rZ HZ1 Ka HB1 c0 c1 qI;have pI:=Lib.hid Nc;clear Nc;have hkk:c'≤9223372036854775807:=K2.out.mx;have hkc:n≤c':=K2.out.cap;go_wp2_with fail
 go_loopw [7] (fun s7 wr=>∃(q:Nat) (y:Int × Nat) (c2:Nat),s7= .int .i64 ((q:Int)-1)∧q≤n∧q≤y.2∧y.2≤n∧y.2≤c2∧c2≤9223372036854775807∧(q=0→y.2=0)∧nT l N q y=R∧av wr b 42 #[.int .i64 y.1,.slice A' y.2 c2]∧av wr w.heap.size 42 #[.int .i64 aH,.slice A n c]∧av wr (w.heap.size+1) 42 #[.int .i64 0,.slice none 0 0]∧aP wr A' n c' l∧aP wr A n c l∧Below w.heap.size w wr) (fun s7 _=>(intOf s7+1).toNat)
 case atStart=>
  refine ⟨n,(aH,n),c',rfl,Nat.le_refl _,Nat.le_refl _,Nat.le_refl _,hkc,hkk,fun e=>e,?_,K1.out,HS.out,HZ.out,K2.out,Ng.out,Nh.out⟩;rw[HR.out,rH,HL.out]
 case round=>
  clear z1 z2 K1 HS HZ K2 Ng Nh;obtain ⟨q,⟨ya,yn⟩,c2,rfl,hq,PX,hyn,Kb,hc2,hq0,hfit,h1,h2,h3,h4,h5,h6⟩:=hrel;dsimp only at PX hyn Kb hq0 h1;have z1:=h2.cell 1;have z2:=h1.cell 1;simp at z1 z2;have hsz:=fun W (hW:Below wr.heap.size wr W)=>vZ W A' yn c2 (l.take yn) ((h4.takeC hyn Kb hc2).below hW) (by omega)
  have zY:=Lib.hid hsz;have H1:=Lib.hid h1;have H2:=Lib.hid h2;have H3:=Lib.hid h3;have H4:=Lib.hid h4;have H5:=Lib.hid h5;have H6:=Lib.hid h6;clear hsz h1 h2 h3 h4 h5 h6;by_cases hle:eG (l.take yn)≤N
  ·rw[wh (by exact hle)] at hfit;have dd:decide ((N:Int)<(eG (l.take yn):Int))=false:=decide_eq_false (by omega);have wm:=Lib.hid (zY.out wr (Below.refl _ _));generalize eG (l.take yn)=SZ at*;clear zY;go_wp2_with fail;refine wm.out.mono ?_;rintro e1 w2 ⟨rfl,hb2⟩;have g1:=H1.out.below hb2 H1.out.lt;have g3:=H3.out.below hb2 H3.out.lt;have g4:=(H4.out.takeC hyn Kb hc2).below hb2;have g6:=H6.out.trans (hb2.mono H6.out.size);have y0:=g1.cell 0;have y1:=g1.cell 1;have y2:=g3.cell 0;have y3:=g3.cell 1;have y4:=g3.frozen 0;have y5:=g3.frozen 1;simp at y0 y1 y2 y3;have G3:=Lib.hid g3;have G4:=Lib.hid g4;have G6:=Lib.hid g6;have HF:=Lib.hid hfit;clear g1 g3 g4 g6 hb2 wm H1 H2 H3 H4 H5 H6 hfit z1 z2;go_wp2_with fail;refine bodyPost_ret (v:= .tuple #[.agg #[.int .i64 ya,.slice A' yn c2],.int .i64 0]) ?_ rfl ?_
   ·have k1:=(G3.out.aF 0 (.int .i64 ya));have k2:=k1.aF 1 (.slice A' yn c2);have q0:=k2.cell 0;have q1:=k2.cell 1;simp at q0 q1;simp[results,Tryz.results40,go_sem,q0,q1]
   ·rw[←HF.out];exact ⟨A',c2,rfl,(G4.out.jN (fun ad e=>by have:=pI.out ad e;omega) _).jN (fun ad e=>by have:=pI.out ad e;omega) _,fun ad e=>by have:=pI.out ad e;omega,(G6.out.setCell (p:=⟨w.heap.size+1,0,none⟩) (by simp) _).setCell (p:=⟨w.heap.size+1,1,none⟩) (by simp) _⟩
  ·obtain ⟨p,rfl⟩:∃p,q=p+1:=⟨q-1,by
    rcases Nat.eq_zero_or_pos q with e|e
    ·exfalso;rw[hq0 e] at hle;have:eG (l.take 0)=2:=by simp[eG,gN]
     omega
    ·omega⟩
   rw[show (((p+1:Nat):Int)-1)=(p:Int) by omega];have hln:=HL.out;have dd:(N:Int)<(eG (l.take yn):Int):=by omega
   have wm:=Lib.hid (zY.out wr (Below.refl _ _));have Hr:=Lib.hid hle;have hstep:nT l N (p+1) (ya,yn)=if 0<p∧rG l p=rG l (p-1) then nT l N p (ya,yn) else nT l N p (rG l p,p):=by
    rw[nT,if_neg (by exact hle)]
   rw[hstep] at hfit;obtain ⟨SZ,hSZ⟩:∃SZ,eG (l.take yn)=SZ:=⟨_,rfl⟩
   rw[hSZ] at dd wm;clear zY hstep hle hSZ;go_wp2_with fail;refine wm.out.mono ?_;rintro e1 w2 ⟨rfl,hb2⟩;have g1:=H1.out.below hb2 H1.out.lt;have g2:=H2.out.below hb2 H2.out.lt;have g3:=H3.out.below hb2 H3.out.lt;have g4:=H4.out.below hb2;have g5:=H5.out.below hb2;have g6:=H6.out.trans (hb2.mono H6.out.size);obtain ⟨ad,x,rfl,hx,hbk,x0,x1,x2,x3⟩:=g5.get (k:=p) (by omega);rw[rJ hx] at hfit;have G1:=Lib.hid g1;have G2:=Lib.hid g2;have G3:=Lib.hid g3;have G4:=Lib.hid g4;have G5:=Lib.hid g5;have G6:=Lib.hid g6;have Ij:=Lib.hid (fun (rX:Addr) (e:some ad=some rX)=>show rX.block≠b by have:=J9.out rX e (by omega);omega);clear wm H1 H2 H3 H4 H5 H6 hb2 x1 x2 x3 z1 z2;have y2:=g2.cell 1;simp at y2;clear g1 g2 g3 g4 g5 g6;rcases Nat.eq_zero_or_pos p with hp0|hp0
   ·subst hp0;rw[if_neg (by omega)] at hfit;rw[show (((0:Nat):Int))=0 from rfl];go_wp2_with fail
    go_quiet (fail)
    have g1:=G1.out.drewN nq;have g2:=G2.out.drewN nq;have g3:=G3.out.drewN nq;have g4:=G4.out.drewN nq;have g5:=G5.out.drewN nq;have g6:=G6.out.drewN nq;have BF:(w2.drewN nq).cell? ad=some (.int .i64 x.sn):=by rw[show ad.add (0*4)=ad by cases ad;simp[Addr.add]] at x0;exact x0
    have Si:0<n:=by omega
    clear x0 y2 G1 G2 G3 G4 G5 G6;have x0:=BF;clear BF;generalize w2.drewN nq=w3 at*;have f0:=g1.frozen 0;have f1:=g1.frozen 1;have y0:=g1.cell 0;have y1:=g1.cell 1;have y2:=g2.cell 1;simp at y0 y1 y2;have b1':av ((w3.setCell ⟨b,0,none⟩ (.int .i64 x.sn)).setCell ⟨b,1,none⟩ (.slice A' 0 0)).drew b 42 #[.int .i64 x.sn,.slice A' 0 0]:=by
     have h9:=(g1.aF 0 (.int .i64 x.sn)).aF 1 (.slice A' 0 0);simp at h9;exact h9.drew
    have b2':=((g2.far (p:=⟨b,0,none⟩) (by simp;omega) (.int .i64 x.sn)).far (p:=⟨b,1,none⟩) (by simp;omega) (.slice A' 0 0)).drew;have Fw:=((g3.far (p:=⟨b,0,none⟩) (by simp;omega) (.int .i64 x.sn)).far (p:=⟨b,1,none⟩) (by simp;omega) (.slice A' 0 0)).drew;have Fx:=((g4.jN (b:=b) (o:=0) (fun ad e=>by have:=pI.out ad e;omega) (.int .i64 x.sn)).jN (b:=b) (o:=1) (fun ad e=>by have:=pI.out ad e;omega) (.slice A' 0 0)).drewN 1;have Fy:=((g5.jN (b:=b) (o:=0) (fun rX e=>Ij.out rX e) (.int .i64 x.sn)).jN (b:=b) (o:=1) (fun rX e=>Ij.out rX e) (.slice A' 0 0)).drewN 1;have Fz:=((g6.setCell (p:=⟨b,0,none⟩) (by simp;omega) (.int .i64 x.sn)).setCell (p:=⟨b,1,none⟩) (by simp;omega) (.slice A' 0 0)).drew;have B1:=Lib.hid b1';have B2:=Lib.hid b2';have B3:=Lib.hid Fw;have B4:=Lib.hid Fx;have B5:=Lib.hid Fy;have B6:=Lib.hid Fz;have HF:=Lib.hid hfit;clear b1' b2' Fw Fx Fy Fz g1 g2 g3 g4 g5 g6 hfit;go_wp2_with fail
    go_region
    go_wp2_with fail
    go_roundw
    case rel=>exact ⟨0,(x.sn,0),0,by simp,by omega,by simp,by simp,by simp,by omega,fun _=>rfl,HF.out,B1.out,B2.out,B3.out,B4.out,B5.out,B6.out⟩
    case measure=>simp[intOf]
   ·obtain ⟨r,hr⟩:∃r,p=r+1:=⟨p-1,by omega⟩
    obtain ⟨PY,x',e2,hx',Kc,xr,_,_,_⟩:=G5.out.get (k:=r) (by omega);cases e2;have hw2:IntKind.i64.wrap ((p:Int)-1)=(r:Int):=by rw[IntWalk.i64_in _ (by omega)];omega
    have hgt:(0:Int)<(p:Int):=by omega
    have hpn:p<n:=by omega
    have hrn:r<n:=by omega
    rw[show p-1=r by omega,rJ hx'] at hfit;have uz:=Lib.hid hr;clear hr hx hx' hbk Kc;by_cases hsn:x.sn=x'.sn
    ·rw[if_pos ⟨hp0,hsn⟩] at hfit;go_wp2_with fail
     go_quiet (fail)
     have g1:=G1.out.drewN nq;have g2:=G2.out.drewN nq;have g3:=G3.out.drewN nq;have g4:=G4.out.drewN nq;have g5:=G5.out.drewN nq;have g6:=G6.out.drewN nq;have BF:(w2.drewN nq).cell? (ad.add (p*4))=some (.int .i64 x.sn):=x0;clear x0 xr y2 G1 G2 G3 G4 G5 G6;have x0:=BF;clear BF;generalize w2.drewN nq=w3 at*;have B1:=Lib.hid g1;have B2:=Lib.hid g2;have B3:=Lib.hid g3;have B4:=Lib.hid g4;have B5:=Lib.hid g5;have B6:=Lib.hid g6;have HF:=Lib.hid hfit;clear g1 g2 g3 g4 g5 g6 hfit;go_wp2_with fail
     go_roundw
     case rel=>exact ⟨p,(ya,yn),c2,by have:=uz.out;go_num,by omega,by simp;omega,by simp;omega,by simp;omega,by omega,fun e=>by omega,HF.out,B1.out,B2.out,B3.out,B4.out,B5.out,B6.out⟩
     case measure=>have:=uz.out;simp[intOf];omega
    ·rw[if_neg (fun h=>hsn h.2)] at hfit;have Sj:decide (x.sn=x'.sn)=false:=decide_eq_false hsn;go_wp2_with fail
     go_quiet (fail)
     have g1:=G1.out.drewN nq;have g2:=G2.out.drewN nq;have g3:=G3.out.drewN nq;have g4:=G4.out.drewN nq;have g5:=G5.out.drewN nq;have g6:=G6.out.drewN nq;have BF:(w2.drewN nq).cell? (ad.add (p*4))=some (.int .i64 x.sn):=x0;clear x0 xr y2 G1 G2 G3 G4 G5 G6;have x0:=BF;clear BF;generalize w2.drewN nq=w3 at*;have f0:=g1.frozen 0;have f1:=g1.frozen 1;have y0:=g1.cell 0;have y1:=g1.cell 1;have y2:=g2.cell 1;simp at y0 y1 y2;have b1':av ((w3.setCell ⟨b,0,none⟩ (.int .i64 x.sn)).setCell ⟨b,1,none⟩ (.slice A' p p)).drew b 42 #[.int .i64 x.sn,.slice A' p p]:=by
      have h9:=(g1.aF 0 (.int .i64 x.sn)).aF 1 (.slice A' p p);simp at h9;exact h9.drew
     have b2':=((g2.far (p:=⟨b,0,none⟩) (by simp;omega) (.int .i64 x.sn)).far (p:=⟨b,1,none⟩) (by simp;omega) (.slice A' p p)).drew;have Fw:=((g3.far (p:=⟨b,0,none⟩) (by simp;omega) (.int .i64 x.sn)).far (p:=⟨b,1,none⟩) (by simp;omega) (.slice A' p p)).drew;have Fx:=((g4.jN (b:=b) (o:=0) (fun ad e=>by have:=pI.out ad e;omega) (.int .i64 x.sn)).jN (b:=b) (o:=1) (fun ad e=>by have:=pI.out ad e;omega) (.slice A' p p)).drewN 1;have Fy:=((g5.jN (b:=b) (o:=0) (fun rX e=>Ij.out rX e) (.int .i64 x.sn)).jN (b:=b) (o:=1) (fun rX e=>Ij.out rX e) (.slice A' p p)).drewN 1;have Fz:=((g6.setCell (p:=⟨b,0,none⟩) (by simp;omega) (.int .i64 x.sn)).setCell (p:=⟨b,1,none⟩) (by simp;omega) (.slice A' p p)).drew;have B1:=Lib.hid b1';have B2:=Lib.hid b2';have B3:=Lib.hid Fw;have B4:=Lib.hid Fx;have B5:=Lib.hid Fy;have B6:=Lib.hid Fz;have HF:=Lib.hid hfit;clear b1' b2' Fw Fx Fy Fz g1 g2 g3 g4 g5 g6 hfit;go_wp2_with fail
     go_region
     go_wp2_with fail
     go_roundw
     case rel=>exact ⟨p,(x.sn,p),p,by have:=uz.out;go_num,by omega,by simp,by simp;omega,by simp,by omega,fun e=>by omega,HF.out,B1.out,B2.out,B3.out,B4.out,B5.out,B6.out⟩
     case measure=>have:=uz.out;simp[intOf];omega
end
end
section
open Go.RowKit Go.Shelf
attribute [local go_sem] Oper.semAt_some
structure zn (c:Cf):Prop where
 r1:0≤c.reorder
 r2:c.reorder≤1048576
 p1:0≤c.bT
 p2:c.bT≤1048576
section
variable {w w':World} {T:Nat→Nat} {g M n:Nat} {c:Cf} {st:Rc} {vo:Value}
theorem aM.clock (ho:aM st) {now:Int} (hn:now≤9223372036854775807):aM (dM st now):=
 ⟨ho.n1,ho.n2,ho.n3,ho.n4,ho.m,ho.op,by have:=ho.t1;unfold dM;dsimp only;split<;>omega,by have:=ho.t2;unfold dM;dsimp only;split<;>omega⟩
theorem aM.waits (ho:aM st) (c:Cf):aM (j3 c st):=⟨ho.n1,ho.n2,ho.n3,ho.n3,ho.m,ho.op,ho.t1,ho.t2⟩
theorem aM.fires (ho:aM st) (c:Cf):aM (j4 c st):=by
 have h2:aM {st with status:=iA st.m 1024 st.bX,due:=true,ro:=false}:=⟨ho.n1,jJ _ _ _ ho.n4,ho.n3,ho.n4,ho.m,ho.op,ho.t1,ho.t2⟩;unfold j4;dsimp only;split
 ·exact h2.waits c
 ·exact h2
theorem aM.goes (ho:aM st) (c:Cf) {now:Int} (hn:now≤9223372036854775807):aM (bV c st now):=by
 unfold bV;split
 ·exact ho.clock hn
 ·exact (ho.clock hn).fires c
set_option maxHeartbeats 1000000 in
theorem kC (h:bO w T g M n c st vo) (ho:aM st) (hcf:zn c) (now:Int) (hn:now≤9223372036854775807):
 Calls Tryz.prog 33 #[.pointer (some ⟨g,0,none⟩),.int .i64 now] w fun e w'=>e= .returned (.tuple #[])∧bO w' T g M n c (bV c st now) vo∧Kept (MT T) w w':=by
 have ht:∀o:Obj,MT T g o:=fun o=>by unfold MT;rw[h.tg];omega
 have HT:=Lib.hid ht;have HO:=Lib.hid (ho.clock hn);have FB:=Lib.hid hcf;have HG:=Lib.hid (show bV c st now=if st.ro=false∨(dM st now).now<st.exp then dM st now else j4 c (dM st now) from rfl);have xN:=(h.cells).2.2.2.2.2.2.2.2.2.2.2.1;have f16:=h.blk.frozen 16;have HH:=Lib.hid h;clear h ho hcf ht;go_enter Tryz.func33,Tryz.ntmps33;go_upto_region 1 with (fail)
 have h1:=HH.out.put 16 (.int .i64 (if st.now<now then now else st.now)) (st':=dM st now) rfl rfl rfl;have hk1:Kept (MT T) w (w.setCell ⟨g,16,none⟩ (.int .i64 (if st.now<now then now else st.now))):=(Kept.refl _ w).setCell (p:=⟨g,16,none⟩) (fun o _=>HT.out o) _;generalize w.setCell ⟨g,16,none⟩ (.int .i64 (if st.now<now then now else st.now))=wc at*;generalize (if st.now<now then now else st.now)=nv at*;have hro:(dM st now).ro=st.ro:=rfl;have FC:(dM st now).exp=st.exp:=rfl;rw[←hro,←FC] at HG;clear hro FC xN f16 HH;generalize dM st now=s1 at*;obtain ⟨x3,x4,x7,x8,x9,x10,wN,wO,xM,pP,zf,xN,xO,x18⟩:=h1.cells;have H1:=Lib.hid h1;have HK:=Lib.hid hk1;clear h1 hk1 x4 x7 x8 x9 x10 pP zf xO x18;cases hro:s1.ro with
 |false=>
  rw[hro] at wN;have hg:=HG.out;rw[if_pos (.inl hro)] at hg;have Ea:=Lib.hid hg;clear hg hro;go_wp2_with fail
  go_quiet (fail)
  go_wp2_with fail;refine bodyPost_ret (results_none rfl _ _ _) rfl ?_;rw[Ea.out];exact ⟨rfl,H1.out.drewN nq,HK.out.drewN nq⟩
 |true=>
  rw[hro] at wN;by_cases hlt:s1.now<s1.exp
  ·have hg:=HG.out;rw[if_pos (.inr hlt)] at hg;have d1:decide (s1.now<s1.exp)=true:=by simpa using hlt
   have Ea:=Lib.hid hg;clear hg hro;go_wp2_with fail
   go_quiet (fail)
   go_wp2_with fail;refine bodyPost_ret (results_none rfl _ _ _) rfl ?_;rw[Ea.out];exact ⟨rfl,H1.out.drewN nq,HK.out.drewN nq⟩
  ·have hg:=HG.out;rw[if_neg (by rw[hro];simp;omega)] at hg;unfold j4 at hg;dsimp only at hg;have d1:decide (s1.now<s1.exp)=false:=by simpa using hlt
   have Ea:=Lib.hid hg;clear hg hro;go_wp2_with fail
   go_quiet (fail)
   have h2:=H1.out.drewN nq;have hk2:=HK.out.drewN nq;generalize wc.drewN nq=w2 at*;have hfr:=oz h2 HO.out s1.bX HO.out.n4;have Ik:=Lib.hid hfr;have H2:=Lib.hid h2;have xq:=Lib.hid hk2;have hfl:=jJ s1.m 1024 s1.bX HO.out.n4;clear hfr h2 hk2 x3 wN xM xN H1 HK;generalize iA s1.m 1024 s1.bX=F at*;have wO:=H2.out.cells.2.2.2.2.2.2.2.1;go_upto_region 3 with (go_at_call 37;refine Ik.out.mono ?_;rintro e3 w3 ⟨rfl,hb3⟩;have h3:=H2.out.below hb3;have f9:=h3.blk.frozen 9;have c9:=h3.cells.2.2.2.2.1;have sD:=Lib.hid (xq.out.trans (iD hb3));have H3:=Lib.hid h3;clear h3 hb3)
   have h4:=H3.out.put 9 (.int .i64 (F:Nat)) (st':= {s1 with status:=F}) rfl rfl rfl;have hk4:=sD.out.setCell (p:=⟨g,9,none⟩) (fun o _=>HT.out o) (.int .i64 (F:Nat));generalize w3.setCell ⟨g,9,none⟩ (.int .i64 (F:Nat))=w4 at*;have f14:=h4.blk.frozen 14;have f11:=h4.blk.frozen 11;have c14:=h4.cells.2.2.2.2.2.2.2.2.2.1;have c11:=h4.cells.2.2.2.2.2.2.1;have h5:=(h4.put 14 (.bool true) (st':= {s1 with status:=F,due:=true}) rfl rfl rfl).put 11 (.bool false) (st':= {s1 with status:=F,due:=true,ro:=false}) rfl rfl rfl;have hk5:=(hk4.setCell (p:=⟨g,14,none⟩) (fun o _=>HT.out o) (.bool true)).setCell (p:=⟨g,11,none⟩) (fun o _=>HT.out o) (.bool false);have H5:=Lib.hid h5;have qa:=Lib.hid hk5;clear h4 hk4 h5 hk5 H3 sD wO f9 c9;go_upto_region 4 with (fail)
   generalize (w4.setCell ⟨g,14,none⟩ (.bool true)).setCell ⟨g,11,none⟩ (.bool false)=w5 at*;obtain ⟨y3,y4,y7,y8,y9,zl,C5,C6,y13,E4,E5,E6,E7,E8⟩:=H5.out.cells;have BG:aM {s1 with status:=F,due:=true,ro:=false}:=⟨HO.out.n1,hfl,HO.out.n3,HO.out.n4,HO.out.m,HO.out.op,HO.out.t1,HO.out.t2⟩;have FD:=Lib.hid BG;clear f14 f11 c14 c11 y3 y4 y7 y8 C5 C6 y13 E4 E5 E6 E7 E8 BG
   replace y9:w5.cell? ⟨g,9,none⟩=some (.int .i64 (F:Nat)):=y9
   replace zl:w5.cell? ⟨g,10,none⟩=some (.int .i64 (s1.high:Nat)):=zl
   by_cases he:s1.high=F
   ·have hgg:=Ea.out;rw[if_neg (by simpa using he)] at hgg;have d2:((s1.high:Int) !=(F:Int))=false:=by simp;omega
    have ET:=Lib.hid hgg;clear hgg he;go_wp2_with fail
    go_quiet (fail)
    go_wp2_with fail
    go_end0
    rw[ET.out];exact ⟨rfl,H5.out.drewN _,qa.out.drewN _⟩
   ·have hgg:=Ea.out;rw[if_pos he] at hgg;have d2:((s1.high:Int) !=(F:Int))=true:=by simp;omega
    have ET:=Lib.hid hgg;clear hgg he;have hwt:=fun q=>l9 (H5.out.drewN q) FD.out FB.out.r1 (by have:=FB.out.r2;omega)
    have Ke:=Lib.hid hwt;clear hwt;go_wp2_with fail
    go_quiet (fail)
    go_wp2_with (go_at_call 39;refine (Ke.out _).mono ?_;rintro e6 w6 ⟨rfl,h6,kV⟩)
    go_end0
    rw[ET.out];exact ⟨rfl,h6,(qa.out.drewN _).trans kV⟩
end
end
section
open Go.RowKit Go.Shelf
attribute [local go_sem] Oper.semAt_some
def rM (R:Nat × List Nk) (N:Nat):Int × List Nk:=
 if aZ (R.1:Int) R.2=true then ((rH (R.1:Int) R.2 N).1,R.2.take (rH (R.1:Int) R.2 N).2) else (0,[])
def encR (x:Int × List Nk):List UInt8 × Nat:=if aZ x.1 x.2=true then (oH x.1.toNat x.2,0) else ([],2)
def aT (c:Cf) (st:Rc) (now n:Int):Rc × List UInt8 × Nat:=
 if n<0 then (st,[],2)
 else if (bV c st now).due=false∨(bV c st now).now<(bV c st now).iZ∨n<2 then (bV c st now,[],0)
 else ({bV c st now with due:=false,iZ:=IntKind.i64.wrap ((bV c st now).now+c.bT)},(encR (rM (jE (bV c st now)) n.toNat)).1,(encR (rM (jE (bV c st now)) n.toNat)).2)
theorem jO (c:Cf) (st:Rc) (now:Int):(bV c st now).m=st.m:=by
 unfold bV;split
 ·rfl
 ·unfold j4;dsimp only;split<;>rfl
section
variable (w:World)
theorem yC (R:Nat × List Nk) (A:Option Addr) (c:Nat) (h:aP w A R.2.length c R.2) (N:Nat) (hN:2≤N):
 Calls Tryz.prog 40 #[.agg #[.int .i64 (R.1:Int),.slice A R.2.length c],.int .i64 (N:Int)] w fun e w'=>∃A' c' er,e= .returned (.tuple #[.agg #[.int .i64 (rM R N).1,.slice A' (rM R N).2.length c'],.int .i64 er])∧aP w' A' (rM R N).2.length c' (rM R N).2∧(∀ad,A'=some ad→w.heap.size≤ad.block)∧Below w.heap.size w w':=by
 unfold rM;cases hv:aZ (R.1:Int) R.2 with
 |true=>
  refine (Az w (R.1:Int) A R.2.length c R.2 h hv N hN).mono ?_;rintro e w' ⟨A',c',rfl,h1,h3,h2⟩;have hl:=h1.len;rw[if_pos rfl];dsimp only;rw[hl];exact ⟨A',c',_,rfl,h1,h3,h2⟩
 |false=>
  refine (yB w (R.1:Int) A R.2.length c R.2 h hv N).mono ?_;rintro e w' ⟨rfl,h2⟩;rw[if_neg (by simp)];exact ⟨none,0,_,rfl,⟨rfl,Nat.le_refl _,by omega,fun h0=>by simp at h0⟩,fun ad e=>(by cases e),h2⟩
theorem rO (x:Int × List Nk) (A:Option Addr) (c:Nat) (h:aP w A x.2.length c x.2):
 Calls Tryz.prog 41 #[.agg #[.int .i64 x.1,.slice A x.2.length c]] w (kG w.heap.size 5 w (encR x).1.length (bE (encR x).1) ((encR x).2:Nat)):=by
 unfold encR;cases hv:aZ x.1 x.2 with
 |true=>
  obtain ⟨a,l⟩:=x;dsimp only at hv h ⊢;have h0:0≤a:=by
   have h1:=hv;unfold aZ at h1;simp only[Bool.and_eq_true,decide_eq_true_eq] at h1;exact h1.1.1
  obtain ⟨a,rfl⟩:=Int.eq_ofNat_of_zero_le h0;rw[if_pos rfl];exact tQ w a A l.length c l h hv
 |false=>
  refine (rF w x.1 A x.2.length c x.2 h hv).mono ?_;rintro e w' ⟨rfl,h2⟩;rw[if_neg (by simp)];exact ⟨_,rfl,World.ownsRow_nil _ _ _ _,h2⟩
end
section
variable {w w':World} {T:Nat→Nat} {g M n:Nat} {c:Cf} {st:Rc} {vo:Value}
def Kg (w:World) (T:Nat→Nat) (g M n:Nat) (c:Cf) (vo:Value) (R:Rc × List UInt8 × Nat) (e:Ending) (w':World):Prop:=
 ∃v,e= .returned (.tuple #[v,.int .i64 (R.2.2:Nat)])∧w'.ownsRow w.heap.size 5 1 v R.2.1.length (bE R.2.1)∧bO w' T g M n c R.1 vo∧Kept (MT T) w w'
set_option maxRecDepth 100000 in
set_option maxHeartbeats 4000000 in
theorem tV (h:bO w T g M n c st vo) (ho:aM st) (hz:jg st) (hcf:zn c) (now:Int) (gJ:now≤9223372036854775807) (N:Int) (hN:N≤9223372036854775807):
 Calls Tryz.prog 9 #[.pointer (some ⟨g,0,none⟩),.int .i64 now,.int .i64 N] w (Kg w T g M n c vo (aT c st now N)):=by
 have wP:=Lib.hid (fU h);have wQ:=Lib.hid (kC h ho hcf now gJ);have HH:=Lib.hid h;have HO:=Lib.hid (ho.goes c gJ);have HZ:=Lib.hid (show jg (bV c st now) from fun k p hp=>hz k p (by rw[←jO c st now];exact hp));obtain ⟨R,hR⟩:∃R,aT c st now N=R:=⟨_,rfl⟩
 rw[hR];unfold aT at hR;clear h ho hz;by_cases h0:N<0
 ·rw[if_pos h0] at hR;subst hR;clear HO HZ wQ;go_enter Tryz.func9,Tryz.ntmps9;go_wp2_with (go_at_call 31;refine wP.out.mono ?_;rintro e1 w1 ⟨rfl,rfl⟩)
  go_ret2
  exact ⟨_,rfl,World.ownsRow_nil _ _ _ _,HH.out,Kept.refl _ _⟩
 ·rw[if_neg h0] at hR;have d0:decide (N<0)=false:=decide_eq_false h0;clear HH;obtain ⟨s1,hs1⟩:∃s1,bV c st now=s1:=⟨_,rfl⟩
  rw[hs1] at hR wQ HO HZ;clear hs1;go_enter Tryz.func9,Tryz.ntmps9;go_wp2_with fail;refine wP.out.mono ?_;rintro e1 w1 ⟨rfl,rfl⟩;clear wP;go_wp2_with fail;refine wQ.out.mono ?_;rintro e2 w1 ⟨rfl,kU,hK1⟩;obtain ⟨x3,x4,x7,x8,x9,x10,wN,wO,xM,pP,zf,xN,xO,x18⟩:=kU.cells;clear x3 x7 x8 x9 x10 wN wO xM xO x18;cases hd:s1.due with
  |false=>
   rw[hd] at pP;rw[if_pos (.inl hd)] at hR;subst hR;clear HO HZ wQ;have HR1:=Lib.hid kU;have sF:=Lib.hid hK1;clear kU hK1;go_wp2_with fail
   go_quiet (fail)
   go_wp2_with fail
   go_ret2
   exact ⟨_,rfl,World.ownsRow_nil _ _ _ _,HR1.out.drewN nq,sF.out.drewN nq⟩
  |true=>
   rw[hd] at pP;by_cases hlt:s1.now<s1.iZ
   ·rw[if_pos (.inr (.inl hlt))] at hR;subst hR;clear HO HZ wQ;have HR1:=Lib.hid kU;have sF:=Lib.hid hK1;clear kU hK1;go_wp2_with fail
    go_quiet (fail)
    go_wp2_with fail
    go_ret2
    exact ⟨_,rfl,World.ownsRow_nil _ _ _ _,HR1.out.drewN nq,sF.out.drewN nq⟩
   ·have Sk:decide (s1.now<s1.iZ)=false:=decide_eq_false hlt;by_cases h2:N<2
    ·rw[if_pos (.inr (.inr h2))] at hR;subst hR;clear HO HZ wQ;have HR1:=Lib.hid kU;have sF:=Lib.hid hK1;clear kU hK1;go_wp2_with fail
     go_quiet (fail)
     go_wp2_with fail
     go_ret2
     exact ⟨_,rfl,World.ownsRow_nil _ _ _ _,HR1.out.drewN nq,sF.out.drewN nq⟩
    ·have d2:decide (N<2)=false:=decide_eq_false h2;rw[if_neg (by rintro (h|h|h);rw[hd] at h;cases h;exact hlt h;exact h2 h)] at hR;obtain ⟨m,rfl⟩:=Int.eq_ofNat_of_zero_le (by omega:0≤N);have HR1:=Lib.hid kU;have sF:=Lib.hid hK1;have HR:=Lib.hid hR;clear kU hK1 hR wQ x4;go_wp2_with fail
     go_quiet (fail)
     have hR2:=HR1.out.drewN nq;have hK2:=sF.out.drewN nq;clear HR1 sF pP zf xN;generalize w1.drewN nq=w2 at*;have Dg:=Lib.hid (rD hR2 HO.out HZ.out);have HR2:=Lib.hid hR2;have xq:=Lib.hid hK2;clear hR2 hK2;obtain ⟨Q,hQ⟩:∃Q,jE s1=Q:=⟨_,rfl⟩
     rw[hQ] at Dg HR;clear hQ;go_wp2_with fail;refine Dg.out.mono ?_;rintro e3 w3 ⟨A3,c3,rfl,Fj,_,hb3⟩;have hz3:=hb3.size;have Kh:=Lib.hid (Fj.alloc (.cells #[.int .i64 (Q.1:Nat),.slice A3 Q.2.length c3] 42));have HB3:=Lib.hid (hb3.alloc hb3.size (.cells #[.int .i64 (Q.1:Nat),.slice A3 Q.2.length c3] 42));have nk:=Lib.hid (av.new w3 42 #[.int .i64 (Q.1:Nat),.slice A3 Q.2.length c3]);clear Fj hb3 Dg;go_wp2_with fail;obtain ⟨w4,hw4⟩:∃w4,w3.alloc (.cells #[.int .i64 (Q.1:Nat),.slice A3 Q.2.length c3] 42)=w4:=⟨_,rfl⟩
     obtain ⟨z,hz⟩:∃z,w3.heap.size=z:=⟨_,rfl⟩
     have D8:=Lib.hid (show w2.heap.size≤z by omega);rw[hw4] at Kh HB3 nk ⊢;rw[hz] at nk ⊢;clear hz hw4 hz3;have hzl:=nk.out.lt;refine (yC w4 Q A3 c3 Kh.out m (by omega)).mono ?_;rintro e4 w5 ⟨A5,c5,er,rfl,Ki,Kj,hb5⟩;obtain ⟨X,hX⟩:∃X,rM Q m=X:=⟨_,rfl⟩
     rw[hX] at Ki ⊢;have h5:=nk.out.below hb5 nk.out.lt;have f0:=h5.frozen 0;have f1:=h5.frozen 1;have y0:=h5.cell 0;have y1:=h5.cell 1;simp at y0 y1;have Ni:=(Ki.jN (b:=z) (o:=0) (fun ad e=>by have:=Kj ad e;omega) (.int .i64 X.1)).jN (b:=z) (o:=1) (fun ad e=>by have:=Kj ad e;omega) (.slice A5 X.2.length c5);have h6:av ((w5.setCell ⟨z,0,none⟩ (.int .i64 X.1)).setCell ⟨z,1,none⟩ (.slice A5 X.2.length c5)) z 42 #[.int .i64 X.1,.slice A5 X.2.length c5]:=by simpa using (h5.aF 0 (.int .i64 X.1)).aF 1 (.slice A5 X.2.length c5)
     have hb6:Below w2.heap.size w2 ((w5.setCell ⟨z,0,none⟩ (.int .i64 X.1)).setCell ⟨z,1,none⟩ (.slice A5 X.2.length c5)):=((HB3.out.trans (hb5.mono HB3.out.size)).setCell (p:=⟨z,0,none⟩) D8.out _).setCell (p:=⟨z,1,none⟩) D8.out _;have FE:=Lib.hid (rO _ X A5 c5 Ni);have Il:=Lib.hid hb6;have c0:=h6.cell 0;have c1:=h6.cell 1;simp at c0 c1;have HQ:=Lib.hid hX;clear h5 h6 Ki Ni hb5 hb6 Kj hX nk HB3 Kh hzl;go_wp2_with fail;refine FE.out.mono ?_;rintro e7 w7 ⟨v,rfl,hv7,sw⟩;have Dh:=Il.out.trans (sw.mono Il.out.size);have yD:=HR2.out.below Dh;have BD:=xq.out.trans (iD Dh);have FF:=aW (base':=w.heap.size) hv7 (by have:=Il.out.size;have:=xq.out.size;omega);have Eb:=Lib.hid yD;have Ay:=Lib.hid BD;have Ii:=Lib.hid FF;have f14:=yD.blk.frozen 14;have f15:=yD.blk.frozen 15;obtain ⟨x3,x4,x7,x8,x9,x10,wN,wO,xM,pP,zf,xN,xO,x18⟩:=yD.cells;clear x3 x7 x8 x9 x10 wN wO xM xO x18 yD BD FF hv7 sw Dh FE Il HR2 xq c0 c1 f0 f1 y0 y1;go_wp2_with fail
     go_region
     all_goals
      go_wp2_with fail
      go_ret2
      have wM:=HR.out;rw[Int.toNat_natCast,HQ.out] at wM;rw[←wM];rw[show wrap64 (s1.now+c.bT)=IntKind.i64.wrap (s1.now+c.bT) by rw[IntKind.wrap_i64];unfold wrap64;rfl];have p1:=Eb.out.put 14 (.bool false) (st':= {s1 with due:=false}) rfl rfl rfl;have p2:=p1.put 15 (.int .i64 (IntKind.i64.wrap (s1.now+c.bT))) (st':= {s1 with due:=false,iZ:=IntKind.i64.wrap (s1.now+c.bT)}) rfl rfl rfl;have v1:=ownsRow_setCell_other (a:=⟨g,14,none⟩) Ii.out (cK Ii.out Eb.out.blk (by decide)) (.bool false);have v2:=ownsRow_setCell_other (a:=⟨g,15,none⟩) v1 (cK v1 p1.blk (by decide)) (.int .i64 (IntKind.i64.wrap (s1.now+c.bT)));have ht:∀o:Obj,MT T g o:=fun o=>by unfold MT;rw[Eb.out.tg];omega
      have k2:=((Ay.out.setCell (p:=⟨g,14,none⟩) (fun o _=>ht o) (.bool false)).setCell (p:=⟨g,15,none⟩) (fun o _=>ht o) (.int .i64 (IntKind.i64.wrap (s1.now+c.bT)))).drew;exact ⟨v,rfl,v2.drew',p2.drew,k2⟩
end
end
section
open Go.RowKit Go.Shelf
attribute [local go_sem] Oper.semAt_some
section
variable {w w':World} {T:Nat→Nat} {g M n:Nat} {c:Cf} {st:Rc} {vo:Value}
def jP (T:Nat→Nat) (v:Value):Nat→Nat:=fun k=>if v.ownBlock=some k then 3 else T k
theorem mM (T:Nat→Nat):jP T (.slice none 0 0)=T:=by
 funext k
 simp[jP,Value.ownBlock]
theorem bO.lg (h:bO w T g M n c st vo) {v2:Value} {op2:List UInt8} (hr:w.ownsRow 0 5 1 v2 op2.length (bE op2)) (hf:∀k,v2.ownBlock=some k→T k=0):bO (w.setCell ⟨g,17,none⟩ v2) (jP T v2) g M n c {st with op:=op2} v2:=by
 have hT:∀k,T k≠0→jP T v2 k=T k:=fun k hk=>by
  unfold jP;rw[if_neg (fun e=>hk (hf k e))]
 have hk:∀k,T k≠1→(w.setCell ⟨g,17,none⟩ v2).heap[k]? =w.heap[k]? :=fun k hk=>Below.heap_setCell w ⟨g,17,none⟩ v2 k (fun e=>by have e2:k=g:=e;rw[e2] at hk;exact hk h.tg)
 obtain ⟨F,h1,h2⟩:=h.mp;refine ⟨?_,(hT g (by rw[h.tg];omega)).trans h.tg,(hT M (by rw[h.tM];omega)).trans h.tM,fun k hk=> ?_,?_,fun k e=>by unfold jP;rw[if_pos e],F,h1.same (hk M (by rw[h.tM];omega)),fun k=>⟨(h2 k).1,fun p hp=> ?_⟩⟩
 ·have:=h.blk.aF 17 v2;exact this
 ·have e:(w.setCell ⟨g,17,none⟩ v2).heap.size=w.heap.size:=by simp[World.setCell]
  rw[e];unfold jP at hk;split at hk
  ·rename_i e2;exact (hr.lt k e2).2
  ·exact h.lt k hk
 ·exact aN hr fun k e=>hk k (by rw[hf k e];omega)
 ·obtain ⟨b,vf,vd,e,hs,t1,t2,t3⟩:=(h2 k).2 p hp;exact ⟨b,vf,vd,e,hs.stay (hk b (by omega)) (fun j hj=>hk j (by rw[t2 j hj];omega)) (fun j hj=>hk j (by rw[t3 j hj];omega)),(hT b (by omega)).trans t1,fun j hj=>(hT j (by rw[t2 j hj];omega)).trans (t2 j hj),fun j hj=>(hT j (by rw[t3 j hj];omega)).trans (t3 j hj)⟩
theorem bO.FH {v:Value} (h:bO w (jP T v) g M n c st (.slice none 0 0)) (hl:∀k,T k≠0→k<w.heap.size):bO w T g M n c st (.slice none 0 0):=by
 have hT:∀k,jP T v k≠3→T k=jP T v k:=fun k hk=>by
  unfold jP at hk ⊢;split
  ·rename_i e;rw[if_pos e] at hk;exact absurd rfl hk
  ·rfl
 obtain ⟨F,h1,h2⟩:=h.mp;refine ⟨h.blk,(hT g (by rw[h.tg];omega)).trans h.tg,(hT M (by rw[h.tM];omega)).trans h.tM,hl,h.CS,fun k e=>by simp[Value.ownBlock] at e,F,h1,fun k=>⟨(h2 k).1,fun p hp=> ?_⟩⟩;obtain ⟨b,vf,vd,e,hs,t1,t2,t3⟩:=(h2 k).2 p hp;exact ⟨b,vf,vd,e,hs,(hT b (by omega)).trans t1,fun j hj=>(hT j (by rw[t2 j hj];omega)).trans (t2 j hj),fun j hj=>(hT j (by rw[t3 j hj];omega)).trans (t3 j hj)⟩
def FJ (w:World) (T:Nat→Nat) (g M n:Nat) (c:Cf) (st:Rc) (R:List UInt8 × Bool × List (List UInt8)) (e:Ending) (w':World):Prop:=
 ∃T' Di vr,e= .returned (.tuple #[vr,.bool (!R.2.2.isEmpty)])∧bO w' T' g M n c {st with op:=R.1,sm:=R.2.1} Di∧(∀k,k<w.heap.size→T' k=T k)∧Kept (fun k _=>k=g) w w'∧
  (∀q,R.2.2= [q]→w'.ownsRow w.heap.size 5 1 vr q.length (bE q)∧∀k,vr.ownBlock=some k→T' k=0)
theorem yE {w w':World} {g:Nat} (h:Below w.heap.size w w'):Kept (fun k _=>k=g) w w':=(Kept.of_below h).iJ fun k o ho hm=>by have:=lt_of_heap ho;omega
theorem AA (w:World) (A1 A2:Option Addr) (n1 c1 n2 c2:Nat) (l1 l2:List UInt8) (h1:Sl w w.heap.size A1 n1 c1 (bE l1)) (h2:Sl w w.heap.size A2 n2 c2 (bE l2)) (t:TypeId):
 eH (w.alloc (.cells #[.slice A1 n1 c1,.slice A2 n2 c2] t)) (w.alloc (.cells #[.slice A1 n1 c1,.slice A2 n2 c2] t)).heap.size (some ⟨w.heap.size,0,none⟩) 2 2 [.slice A1 n1 c1,.slice A2 n2 c2] [l1,l2]:=by
 have hb:=av.new w t #[.slice A1 n1 c1,.slice A2 n2 c2];have e1:l1.length=n1:=by simpa using h1.len
 have e2:l2.length=n2:=by simpa using h2.len
 refine ⟨⟨rfl,Nat.le_refl _,by omega,fun _=>⟨_,rfl,by simp,fun j u hu=> ?_⟩⟩,rfl,fun i p hi=> ?_⟩
 ·rw[Addr.add_lit,Nat.zero_add];rw[hb.cell j];simpa using hu
 ·have hsz:w.heap.size≤(w.alloc (.cells #[.slice A1 n1 c1,.slice A2 n2 c2] t)).heap.size:=by simp
  match i,hi with
  |0,hi=>
   simp at hi;subst hi;exact ⟨A1,c1,by rw[e1];rfl,by rw[e1];exact (h1.alloc (Nat.le_refl _) _).more hsz⟩
  |1,hi=>
   simp at hi;subst hi;exact ⟨A2,c2,by rw[e2];rfl,by rw[e2];exact (h2.alloc (Nat.le_refl _) _).more hsz⟩
  |i+2,hi=>simp at hi
set_option maxRecDepth 100000 in
set_option maxHeartbeats 4000000 in
theorem wo (h:bO w T g M n c st vo) (ho:aM st) (A:Option Addr) (nb cb:Nat) (bs:List UInt8) (hnb:nb≤100000) (hs:∀W,Kept (fun k _=>k=g) w W→Sl W W.heap.size A nb cb (bE bs)) (begins last:Bool):
 Calls Tryz.prog 86 #[.pointer (some ⟨g,0,none⟩),.slice A nb cb,.bool begins,.bool last] w (FJ w T g M n c st (jC bs begins last st.op st.sm)):=by
 have hlen:bs.length=nb:=by simpa using (hs w (Kept.refl _ w)).len
 have hop:=ho.op;have HS:=Lib.hid hs;have HH:=Lib.hid h;obtain ⟨R,hR⟩:∃R,jC bs begins last st.op st.sm=R:=⟨_,rfl⟩
 rw[hR];obtain ⟨op1,FL,hop1⟩:∃(op1:List UInt8) (FL:Bool),(op1,FL)=if begins=true then (([]:List UInt8),true) else (st.op,st.sm):=⟨_,_,rfl⟩
 have kU:R=if FL=false then (op1,false,[]) else if (op1++bs).length≤9000∧last=false then (op1++bs,true,[]) else ([],false,if (op1++bs).length≤9000 then [op1++bs] else []):=by
  rw[←hR];unfold jC;cases begins with
  |true=>
   simp only[if_true,Prod.mk.injEq] at hop1;obtain ⟨rfl,rfl⟩:=hop1;rw[if_neg (show ¬(true=false∧st.sm=false) by simp),if_neg (show ¬(true=false) by simp)];dsimp only;rw[if_pos rfl]
  |false=>
   simp only[Bool.false_eq_true,if_false,Prod.mk.injEq] at hop1;obtain ⟨rfl,rfl⟩:=hop1;cases hsm:st.sm with
   |false=>rw[if_pos (by simp),if_pos rfl]
   |true=>
    rw[if_neg (show ¬(false=false∧true=false) by simp),if_neg (show ¬(true=false) by simp)];dsimp only;rw[if_neg (show ¬(false=true) by simp)]
 have hol:op1.length≤9000:=by
  split at hop1
  ·simp only[Prod.mk.injEq] at hop1;rw[hop1.1];simp
  ·simp only[Prod.mk.injEq] at hop1;rw[hop1.1];exact hop
 have FM:=Lib.hid hop1;have HR1:=Lib.hid kU;clear hs hR h ho hop1 kU;go_enter Tryz.func86,Tryz.ntmps86;go_upto_if 11 with (fail)
 go_cut [] from 12 to 17 (fun wx=>∃v1,bO wx T g M n c {st with op:=op1,sm:=FL} v1∧Kept (fun k _=>k=g) w wx)
 case first=>
  cases begins with
  |true=>
   have hop1:=FM.out;simp only[if_true,Prod.mk.injEq] at hop1;obtain ⟨rfl,rfl⟩:=hop1;have c17:=HH.out.cell 17;have c18:=HH.out.cell 18;have f17:=HH.out.blk.frozen 17;have f18:=HH.out.blk.frozen 18;simp[vM] at c17 c18;have h1:=HH.out.lg (v2:= .slice none 0 0) (op2:= []) (World.ownsRow_nil _ _ _ _) (fun k e=>by simp[Value.ownBlock] at e);rw[mM] at h1;have h2:=h1.put 18 (.bool true) (st':= {st with op:= [],sm:=true}) rfl rfl rfl;have H2:=Lib.hid h2;clear h1 h2;go_wp2;go_meet;exact ⟨_,H2.out,((Kept.refl _ w).setCell (p:=⟨g,17,none⟩) (fun _ _=>rfl) _).setCell (p:=⟨g,18,none⟩) (fun _ _=>rfl) _⟩
  |false=>
   have hop1:=FM.out;simp only[Bool.false_eq_true,if_false,Prod.mk.injEq] at hop1;obtain ⟨rfl,rfl⟩:=hop1;go_wp2;go_meet;exact ⟨vo,HH.out,Kept.refl _ w⟩
 case rest=>
 obtain ⟨v1,h1,hk1⟩:=hcut;have hsb:=HS.out wc hk1;have hkm:Kept (fun k _=>k=g) w wc:=hk1;have Im:=Lib.hid hkm;have sF:=Lib.hid hk1;have H1:=Lib.hid h1;have c17:=h1.cell 17;have c18:=h1.cell 18;simp[vM] at c17 c18;clear hk1 hkm HS FM;cases FL with
 |false=>
  have hr:=HR1.out;rw[if_pos rfl] at hr;have HR:=Lib.hid hr;clear hr HR1 hsb h1;go_wp2
  go_ret2
  rw[HR.out];exact ⟨T,v1,_,rfl,H1.out,fun _ _=>rfl,Im.out,fun q hq=>by cases hq⟩
 |true=>
  have hr:=HR1.out;rw[if_neg (by simp)] at hr;obtain ⟨A1,c1,rfl,hs1,-⟩:=aK h1.CS;have Dj:=sH (some ⟨wc.heap.size,0,none⟩) 2 2 _ _ _ (AA wc A1 A op1.length c1 nb cb op1 bs hs1 hsb 22) (by simp[aB];omega);have e1: [op1,bs].flatten=op1++bs:=by simp
  have e2:aB [op1,bs]=(op1++bs).length:=by simp[aB]
  rw[e1,e2] at Dj;have hcl:(op1++bs).length≤109000:=by rw[List.length_append];omega
  have FO:=Lib.hid Dj;have HR:=Lib.hid hr;clear Dj hr HR1 hsb h1 e1 e2 hs1;generalize op1++bs=o2 at*;go_upto_region 6 with (go_at_call 78;refine FO.out.mono ?_;rintro e3 w3 ⟨v3,rfl,hv3,hb3⟩;obtain ⟨A3,c3,rfl,hs3,-⟩:=aK hv3;have hbb:=((Below.refl wc.heap.size wc).alloc (Nat.le_refl _) (.cells #[.slice A1 op1.length c1,.slice A nb cb] 22)).trans (hb3.mono (by simp));have h3:=H1.out.below hbb;have c17:=h3.cell 17;have f17:=h3.blk.frozen 17;simp[vM] at c17)
  have hT0:∀k,T k≠0→k<wc.heap.size:=H1.out.lt
  have Dk:∀k,(Value.slice A3 o2.length c3).ownBlock=some k→wc.heap.size≤k:=fun k hk=>by have:=(hv3.lt k hk).1;simp at this;omega
  have hv0:∀k,(Value.slice A3 o2.length c3).ownBlock=some k→T k=0:=fun k hk=>by
   have h9:=Dk k hk;rcases Nat.eq_zero_or_pos (T k) with e|e
   ·exact e
   ·have:=hT0 k (by omega);omega
  have hwz:=Im.out.size;have hw3:=hbb.size;have BH:=aW hv3 (Nat.zero_le _);have h4:=h3.lg (op2:=o2) BH hv0;have hk4:Kept (fun k _=>k=g) w (w3.setCell ⟨g,17,none⟩ (.slice A3 o2.length c3)):=(Im.out.trans (yE hbb)).setCell (p:=⟨g,17,none⟩) (fun _ _=>rfl) _;have hv4:(w3.setCell ⟨g,17,none⟩ (.slice A3 o2.length c3)).ownsRow w.heap.size 5 1 (.slice A3 o2.length c3) o2.length (bE o2):=aD (aW hv3 (by simp;omega)) h3.blk (by decide) _;have Nj:∀k,k<w.heap.size→jP T (.slice A3 o2.length c3) k=T k:=fun k hk=>by
   unfold jP;rw[if_neg (fun e=>by have:=Dk k e;omega)]
  have H4:=Lib.hid h4;have Kk:=Lib.hid hk4;have EZ:=Lib.hid hv4;have FP:=Lib.hid Nj;have PZ:=Lib.hid hv0;have Nl:=hs3.cap;have P4:=hs3.mx;clear h3 hb3 hbb hv3 hT0 Dk BH h4 hk4 hv4 Nj hv0 hs3 FO H1 sF Im;generalize w3.setCell ⟨g,17,none⟩ (.slice A3 o2.length c3)=w4 at*;have c17:=H4.out.cell 17;have c18:=H4.out.cell 18;have f17:=H4.out.blk.frozen 17;have f18:=H4.out.blk.frozen 18;simp[vM] at c17 c18;by_cases hle:o2.length≤9000
  ·cases last with
   |false=>
    have hr:=HR.out;rw[if_pos ⟨hle,rfl⟩] at hr;have HR2:=Lib.hid hr;clear hr;go_wp2
    go_ret2
    rw[HR2.out];exact ⟨_,_,_,rfl,H4.out,FP.out,Kk.out,fun q hq=>by cases hq⟩
   |true=>
    have hr:=HR.out;rw[if_neg (by simp),if_pos hle] at hr;have HR2:=Lib.hid hr;have d1:decide (o2.length≤9000)=true:=decide_eq_true hle;have h5:=(H4.out.lg (v2:= .slice none 0 0) (op2:= []) (World.ownsRow_nil _ _ _ _) (fun k e=>by simp[Value.ownBlock] at e)).put 18 (.bool false) (st':= {st with op:= [],sm:=false}) rfl rfl rfl;rw[mM] at h5;have hk5:=(Kk.out.setCell (p:=⟨g,17,none⟩) (fun _ _=>rfl) (.slice none 0 0)).setCell (p:=⟨g,18,none⟩) (fun _ _=>rfl) (.bool false);have hv5:=aD (i:=18) (aD (i:=17) EZ.out H4.out.blk (by decide) (.slice none 0 0)) (H4.out.blk.aF 17 (.slice none 0 0)) (by decide) (.bool false);have H5:=Lib.hid h5;have qa:=Lib.hid hk5;have HV5:=Lib.hid hv5;clear h5 hk5 hv5 hr;go_wp2
    go_ret2
    rw[HR2.out];have hl5:=H5.out.FH (fun k hk=>by
     have h9:=H5.out.lt k;unfold jP at h9;split at h9
     ·exact h9 (by omega)
     ·exact h9 hk)
    exact ⟨T,_,_,rfl,hl5,fun _ _=>rfl,qa.out,fun q hq=>by cases hq;exact ⟨HV5.out,PZ.out⟩⟩
  ·have hr:=HR.out;rw[if_neg (fun e=>hle e.1),if_neg hle] at hr;have HR2:=Lib.hid hr;have d1:decide (o2.length≤9000)=false:=decide_eq_false hle;have h5:=(H4.out.lg (v2:= .slice none 0 0) (op2:= []) (World.ownsRow_nil _ _ _ _) (fun k e=>by simp[Value.ownBlock] at e)).put 18 (.bool false) (st':= {st with op:= [],sm:=false}) rfl rfl rfl;rw[mM] at h5;have hk5:=(Kk.out.setCell (p:=⟨g,17,none⟩) (fun _ _=>rfl) (.slice none 0 0)).setCell (p:=⟨g,18,none⟩) (fun _ _=>rfl) (.bool false);have H5:=Lib.hid h5;have qa:=Lib.hid hk5;clear h5 hk5 hr;go_wp2
   go_ret2
   rw[HR2.out];exact ⟨_,_,_,rfl,H5.out,FP.out,qa.out,fun q hq=>by cases hq⟩
end
end
section
open Go.RowKit Go.Shelf
attribute [local go_sem] Oper.semAt_some
theorem oI {b:List UInt8} {begins last:Bool} {op:List UInt8} {sm:Bool} (h:op.length≤9000):(jC b begins last op sm).1.length≤9000∧(jC b begins last op sm).2.2.length≤1:=by
 unfold jC;split
 ·exact ⟨h,by simp⟩
 ·dsimp only;generalize (if begins=true then [] else op)++b=o2;split
  ·rename_i hc;exact ⟨hc.1,by simp⟩
  ·refine ⟨by simp,?_⟩;split<;>simp
theorem mO (fl:List Fl) (da:List UInt8) (N:Nat):∀(k i fr:Nat) (op:List UInt8) (sm:Bool),op.length≤9000→(j5 fl da N k i fr op sm).1.length≤9000∧(j5 fl da N k i fr op sm).2.2.length≤k
 |0,_,_,_,_,h=>⟨h,by simp[j5]⟩
 |k+1,i,fr,op,sm,h=>by
  unfold j5;split
  ·have:=mO fl da N k (i+1) fr op sm h;exact ⟨this.1,by omega⟩
  ·have h1:=oI (b:=(da.take i).drop fr) (begins:=(bK fl fr).2.1) (last:=decide (i<N)||(bK fl (i-1)).2.2) (sm:=sm) h;have h2:=mO fl da N k (i+1) i _ (jC ((da.take i).drop fr) (bK fl fr).2.1 (decide (i<N)||(bK fl (i-1)).2.2) op sm).2.1 h1.1;refine ⟨h2.1,?_⟩;dsimp only;rw[List.length_append];omega
theorem aM.one {st:Rc} (ho:aM st) {p:Sp} (_hp:st.m st.next=some p):aM (lY st p):=by
 have h1:=mO p.fl p.da (oq p) (oq p) 1 0 st.op st.sm ho.op;refine ⟨by show bH st.next≤1023;unfold bH;omega,ho.n2,ho.n3,ho.n4,fun k q hk=> ?_,h1.1,ho.t1,ho.t2⟩;have hk2:(if k=st.next then none else st.m k)=some q:=hk;split at hk2
 ·cases hk2
 ·rename_i hne;obtain ⟨a,b,d⟩:=ho.m k q hk2;refine ⟨a,?_,d⟩;have hn:=ho.n1;show (k+1024-bH st.next)%1024<512
  unfold aI at b;unfold bH;omega
def bQ (W:World) (base:Nat) (T:Nat→Nat) (v:Value) (outs:List (List UInt8)):Prop:=
 ∃vs,W.ownsRow base 22 1 v outs.length vs∧(∀k,v.ownBlock=some k→T k=0)∧∀(i:Nat) (q:List UInt8),outs[i]? =some q→∃vi,vs[i]? =some vi∧W.ownsRow base 5 1 vi q.length (bE q)∧∀k,vi.ownBlock=some k→T k=0
section
variable {w w' W W':World} {T T':Nat→Nat} {g M n:Nat} {c:Cf} {st:Rc} {vo v:Value} {base:Nat} {outs:List (List UInt8)}
theorem bQ.nil (W:World) (base:Nat) (T:Nat→Nat):bQ W base T (.slice none 0 0) []:=⟨[],World.ownsRow_nil _ _ _ _,fun k e=>by simp[Value.ownBlock] at e,fun i q h=>by simp at h⟩
theorem bQ.stay (h:bQ W base T v outs) (hk:Kept (MT T) W W') (hT:∀k,k<W.heap.size→T' k=T k):bQ W' base T' v outs:=by
 obtain ⟨vs,h1,h2,h3⟩:=h;have key:∀k,k<W.heap.size→T k=0→W'.heap[k]? =W.heap[k]? :=fun k hlt h0=>by
  have e:W.heap[k]? =some W.heap[k]:=Array.getElem?_eq_getElem hlt;rw[e];exact hk.same k _ e (fun hm=>hm h0)
 refine ⟨vs,aN h1 fun k e=>key k (h1.lt k e).2 (h2 k e),fun k e=>(hT k (h1.lt k e).2).trans (h2 k e),fun i q hi=> ?_⟩;obtain ⟨vi,e,ho,ht⟩:=h3 i q hi;exact ⟨vi,e,aN ho fun k e=>key k (ho.lt k e).2 (ht k e),fun k e=>(hT k (ho.lt k e).2).trans (ht k e)⟩
theorem bQ.FQ (h:bQ W base T v outs) {b:Nat} (hb:b≤base):bQ W b T v outs:=by
 obtain ⟨vs,h1,h2,h3⟩:=h;exact ⟨vs,aW h1 hb,h2,fun i q hi=>let ⟨vi,e,ho,ht⟩:=h3 i q hi;⟨vi,e,aW ho hb,ht⟩⟩
theorem bQ.drew (h:bQ W base T v outs):bQ W.drew base T v outs:=h
theorem bQ.below (h:bQ W base T v outs) (hb:Below W.heap.size W W'):bQ W' base T v outs:=by
 obtain ⟨vs,h1,h2,h3⟩:=h;exact ⟨vs,aN h1 fun k e=>hb.block k (h1.lt k e).2,h2,fun i q hi=>let ⟨vi,e,ho,ht⟩:=h3 i q hi;⟨vi,e,aN ho fun k e=>hb.block k (ho.lt k e).2,ht⟩⟩
theorem bQ.push {q:List UInt8} {vq v2:Value} {vs:List Value} (hrow:W.ownsRow base 22 1 v outs.length vs) (_hv:∀k,v.ownBlock=some k→T k=0) (h3:∀(i:Nat) (q:List UInt8),outs[i]? =some q→∃vi,vs[i]? =some vi∧W.ownsRow base 5 1 vi q.length (bE q)∧∀k,vi.ownBlock=some k→T k=0)
 (hq:W.ownsRow base 5 1 vq q.length (bE q)) (Io:∀k,vq.ownBlock=some k→T k=0) (hown:W'.ownsRow base 22 1 v2 (outs.length+1) (vs++ [vq])) (hg:(W.alloc (.cells #[vq] 22)).grownBy W' v.ownBlock) (hv2:∀k,v2.ownBlock=some k→T k=0):bQ W' base T v2 (outs++ [q]):=by
 have hs:=hrow.alloc (.cells #[vq] 22);have h5:∀{k:Nat} {x:Value} {xs:List Value},W.ownsRow base 5 1 x k xs→W'.ownsRow base 5 1 x k xs:=fun hx=>(hx.alloc _).kept hg (iL (hx.alloc _) hs (by decide))
 refine ⟨vs++ [vq],by simpa using hown,hv2,fun i r hi=> ?_⟩;rcases Nat.lt_or_ge i outs.length with hlt|hge
 ·rw[List.getElem?_append_left hlt] at hi;obtain ⟨vi,e,ho,ht⟩:=h3 i r hi;have hl:=hrow.1;exact ⟨vi,by rw[List.getElem?_append_left (by omega)];exact e,h5 ho,ht⟩
 ·have hl:=hrow.1;have hi2:i=outs.length:=by
   have:=(List.getElem?_eq_some_iff.1 hi).1;simp at this;omega
  subst hi2;rw[List.getElem?_append_right (Nat.le_refl _),Nat.sub_self] at hi;simp at hi;subst hi;refine ⟨vq,?_,h5 hq,Io⟩;rw[List.getElem?_append_right (by omega),show outs.length-vs.length=0 by omega];rfl
theorem bO.grown (h:bO W T g M n c st vo) {row:Option Nat} (hg:W.grownBy W' row) (hr:∀k,row=some k→T k=0):bO W' T g M n c st vo:=
 h.stay fun k hk=>hg.block k (h.lt k hk) (fun e=>hk (hr k e.symm))
theorem bO.AB {n2:Nat} {F2:Nat→Option Value} {m2:Nat→Option Sp} (h:bO W T g M n c st vo) (hg:W.grownBy W' (some M)) (hF:bY Tryz.prog 3 W' M n2 F2)
 (hm:∀k,(m2 k=none→F2 k=none)∧∀p,m2 k=some p→∃b vf vd,F2 k=some (.pointer (some ⟨b,0,none⟩))∧gG W b p vf vd∧T b=3*k+4∧(∀j,vf.ownBlock=some j→T j=3*k+5)∧(∀j,vd.ownBlock=some j→T j=3*k+6)):bO W' T g M n2 c {st with m:=m2} vo:=by
 have hk:∀k,T k≠2→k<W.heap.size→W'.heap[k]? =W.heap[k]? :=fun k h2 hlt=>hg.block k hlt (fun e=>by cases e;exact h2 h.tM)
 have hsz:=hg.size;refine ⟨(hk g (by rw[h.tg];omega) h.blk.lt).trans h.blk,h.tg,h.tM,fun k e=>Nat.lt_of_lt_of_le (h.lt k e) hsz,aN h.CS fun k e=>hk k (by rw[h.od k e];omega) (h.CS.lt k e).2,h.od,F2,hF,fun k=>⟨(hm k).1,fun p hp=> ?_⟩⟩;obtain ⟨b,vf,vd,e,hs,t1,t2,t3⟩:=(hm k).2 p hp;exact ⟨b,vf,vd,e,hs.stay (hk b (by omega) hs.blk.lt) (fun j hj=>hk j (by rw[t2 j hj];omega) (hs.fr.lt j hj).2) (fun j hj=>hk j (by rw[t3 j hj];omega) (hs.dr.lt j hj).2),t1,t2,t3⟩
end
end
end Go.Proofs.YtiecgfahidpldaaGreat
