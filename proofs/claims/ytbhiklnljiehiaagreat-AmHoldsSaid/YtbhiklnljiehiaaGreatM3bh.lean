/- status.Fit. -/
import Derived.Test.YtbhiklnljiehiaaGreatM3bf
set_option maxHeartbeats 4000000
set_option maxRecDepth 100000
namespace Go.Proofs.YtbhiklnljiehiaaGreat
open RowKit Shelf Tryz
attribute [local go_sem] Oper.semAt_some
def xM (l:List Nk) (q:Nat):Int:=(l[q]?.getD nk0).sn
def tu (l:List Nk) (N:Nat):Nat->Int × Nat->Int × Nat
 |0,y=>y
 |q+1,y=>if oO (l.take y.2)<=N then y else if 0<q/\xM l q=xM l (q-1) then tu l N q y else tu l N q (xM l q,q)
def DK (aA:Int) (l:List Nk) (N:Nat):Int × Nat:=tu l N l.length (aA,l.length)
theorem Sw {l:List Nk} {N q:Nat} {y:Int × Nat} (h:oO (l.take y.2)<=N):tu l N q y=y:=by
 cases q with
 |zero=>rfl
 |succ q=>rw[tu,bD h]
section
variable (w:World)
theorem Vo (aA:Int) (A:Option Addr) (n c:Nat) (l:List Nk) (h:dD w A n c l) (hv:bO aA l=false) (N:Int):
 Calls prog 82 #[.agg #[aA,.slice A n c],N] w fun e w'=>e= .returned (.tuple #[.agg #[.int .i64 0,.slice none 0 0],.int .i64 2])/\Below w w w':=by
 have hB:Below w w ((w.alloc (.cells #[aA,.slice A n c] 133)).alloc (.cells #[.int .i64 0,.slice none 0 0] 133)):=((bS _ w).alloc (aL) _).alloc (by simp) _;have hva:=nL _ aA A n c l ((h.alloc (.cells #[aA,.slice A n c] 133)).alloc (.cells #[.int .i64 0,.slice none 0 0] 133));rw[hv] at hva;have hz:=av.new (w.alloc (.cells #[aA,.slice A n c] 133)) 133 #[.int .i64 0,.slice none 0 0];rw[mZ] at hz;have HB:=ah hB;have HV:=ah hva;have HZ:=ah hz;clear hB hva hv h hz;go_enter func82,ntmps82;go_wp2_with fail;refine HV.out.mono ?_;rintro e1 w1 ⟨rfl,hb1⟩;have hz1:=HZ.out.below hb1 HZ.out.lt;have c0:=hz1.cell 0;have c1:=hz1.cell 1;have f0:=hz1.frozen 0;have f1:=hz1.frozen 1;simp at c0 c1;have hB1:=HB.out.trans (hb1.mono HB.out.size);have HB1:=ah hB1;have HZ1:=ah hz1;clear hB1 hz1 HZ HV HB hb1;go_wp2_with fail;refine oZ (v:= .tuple #[.agg #[.int .i64 0,.slice none 0 0],.int .i64 2]) ?_ rfl ?_
 ·have h1:=(HZ1.out.ay 0 (.int .i64 0));have h2:=h1.ay 1 (.slice none 0 0);have q0:=h2.cell 0;have q1:=h2.cell 1;simp at q0 q1;simp[results,results82,go_sem,q0,q1]
 ·exact ⟨rfl,(HB1.out.setCell (p:=⟨w+1,0,none⟩) (by simp) _).setCell (p:=⟨w+1,1,none⟩) (by simp) _⟩
theorem Nf {l:List Nk} {q:Nat} {x:Nk} (h:l[q]? =some x):xM l q=x.sn:=by unfold xM;rw[h];rfl
theorem YM (aA:Int) (A:Option Addr) (n c:Nat) (l:List Nk) (h:dD w A n c l) (hv:bO aA l=true) (N:Nat) (hN:2<=N):
 Calls prog 82 #[.agg #[aA,.slice A n c],.int .i64 (N:Int)] w fun e w'=>∃A' c',e= .returned (.tuple #[.agg #[.int .i64 (DK aA l N).1,.slice A' (DK aA l N).2 c'],.int .i64 0])/\dD w' A' (DK aA l N).2 c' (l.take (DK aA l N).2)/\(∀ad,A'=some ad->w.heap.size<=ad.block)/\Below w w w':=by
 have afX:n<=512:=by
  have hv2:=hv;unfold bO at hv2;simp only[gD,gY] at hv2;have:=h.len;omega
 obtain ⟨R,hR⟩:∃R,R=DK aA l N:=⟨_,rfl⟩
 rw[<-hR];have hB:Below w w ((w.alloc (.cells #[aA,.slice A n c] 133)).alloc (.cells #[.int .i64 0,.slice none 0 0] 133)):=((bS _ w).alloc (aL) _).alloc (by simp) _;have hva:=nL _ aA A n c l ((h.alloc (.cells #[aA,.slice A n c] 133)).alloc (.cells #[.int .i64 0,.slice none 0 0] 133));rw[hv] at hva;have hs:=(av.new w 133 #[aA,.slice A n c]).alloc (.cells #[.int .i64 0,.slice none 0 0] 133);have hz:=av.new (w.alloc (.cells #[aA,.slice A n c] 133)) 133 #[.int .i64 0,.slice none 0 0];rw[mZ] at hz;have HB:=ah hB;have HV:=ah hva;have HS:=ah hs;have HZ:=ah hz;have HN:=ah (h.below hB);have HL:=ah h.len;have HR:=ah hR;have alb:=ah (fun (ad:Addr) (e:A=some ad) (h0:0<n)=>show ad.block<w.heap.size by
  obtain ⟨Ew,e',hb',_⟩:=h.at_ h0;rw[e] at e';cases e';exact hb')
 have hcap:=h.cap;have hmx:=h.mx;clear hB hva hv hz hs hR h;go_enter func82,ntmps82;go_wp2_with fail;refine HV.out.mono ?_;rintro e1 w1 ⟨rfl,hb1⟩;have hz1:=HZ.out.below hb1 HZ.out.lt;have hs1:=HS.out.below hb1 HS.out.lt;have hN1:=HN.out.below hb1;have hB1:=HB.out.trans (hb1.mono HB.out.size);have c0:=hs1.cell 0;have c1:=hs1.cell 1;simp at c0 c1;have HB1:=ah hB1;have HZ1:=ah hz1;have IQ:=ah hs1;have HN1:=ah hN1;clear hB1 hz1 hs1 hN1 HZ HS HV HB HN hb1;have yB:=ah (fun (W:World) (hW:Below w1 w1 W)=>Df A n c l W (HN1.out.below hW) (by omega));go_upto_region 5 with (fail)
 go_cut [6] (fun s6 wx=>∃b A' c',s6= .pointer (some ⟨b,0,none⟩)/\av wx b 133 #[aA,.slice A' n c']/\dD wx A' n c' l/\w1.heap.size<=b/\Below w1 w1 wx/\∀ad,A'=some ad->w1.heap.size<=ad.block/\ad.block≠b)
 case first=>
  have nK:prog.follows .mixedOrders=true:=by kernel_rfl
  refine bX (fun w'=>w'.cell? w=some (.int .i64 aA)/\w'.cell? ⟨w,1,none⟩=some (.slice A n c)) [7] nK ?_;have hHeld:=(show (fun w':World=>w'.cell? w=some (.int .i64 aA)/\w'.cell? ⟨w,1,none⟩=some (.slice A n c)) w1.drew from ⟨c0,c1⟩);refine aW 0 ?_;refine jq [5,7] 1 ?_;refine aW 2 ?_;refine jq [4,5,7] 3 ?_;refine FX (i:=4) (k:=6) rfl rfl (by kernel_rfl) (by rfl) (by rfl) (fun K hK=> ?_) (fun K hK=> ?_)
  ·go_simp;refine (yB.out _ (bS _ w1).drew).mono ?_;rintro e w5 ⟨A',c',rfl,k1,k2,k3⟩;have hb6:=IQ.out.drew.below k3 IQ.out.drew.lt;have q0:=hb6.cell 0;have q1:=hb6.cell 1;simp at q0 q1;refine hK _ _ (show (fun w':World=>w'.cell? w=some (.int .i64 aA)/\w'.cell? ⟨w,1,none⟩=some (.slice A n c)) _ from ⟨q0,q1⟩) ?_;clear hK K hHeld;have hHeld:=(show (fun w':World=>w'.cell? w=some (.int .i64 aA)/\w'.cell? ⟨w,1,none⟩=some (.slice A n c)) _ from ⟨q0,q1⟩)
   try simp only[Act.put,gJ]
   refine aW 5 ?_;refine aU (i:=6) rfl (by kernel_rfl) (by rfl) (fun K hK=> ?_);go_simp;have hb6:=IQ.out.drew.below k3 IQ.out.drew.lt;have qT:=hb6.alloc (.cells #[.int .i64 0,.slice none 0 0] 133);have q0:=qT.cell 0;have q1:=qT.cell 1;simp at q0 q1;refine hK _ _ (show (fun w':World=>w'.cell? w=some (.int .i64 aA)/\w'.cell? ⟨w,1,none⟩=some (.slice A n c)) _ from ⟨q0,q1⟩) ?_;clear hK K hHeld;have hHeld:=(show (fun w':World=>w'.cell? w=some (.int .i64 aA)/\w'.cell? ⟨w,1,none⟩=some (.slice A n c)) _ from ⟨q0,q1⟩)
   try simp only[Act.put,gJ]
   refine dB (i:=7) rfl (by kernel_rfl) (by kernel_rfl) (by rfl) (fun K hK=> ?_);go_simp;refine hK _ _ ?_;clear hK K
   try simp only[Act.put,gJ]
   refine bW (by kernel_rfl) ?_ _;have QO:=k3.size;rw[World.size_drew] at QO;have yF:av ((w5.alloc (.cells #[.int .i64 0,.slice none 0 0] 133))) w5 133 #[.int .i64 0,.slice none 0 0]:=av.new w5 _ _;go_wp2_with fail;go_meet;exact ⟨w5,A',c',rfl,av.new w5 _ _,k1.alloc _,QO,((bS w1 w1).drew.trans (k3.mono (aL))).alloc QO _,fun ad e=>by have:=k2 ad e;rw[World.size_drew] at this;omega⟩
  ·go_simp;have hb6:=IQ.out.drew.alloc (.cells #[.int .i64 0,.slice none 0 0] 133);have q0:=hb6.cell 0;have q1:=hb6.cell 1;simp at q0 q1;refine hK _ _ (show (fun w':World=>w'.cell? w=some (.int .i64 aA)/\w'.cell? ⟨w,1,none⟩=some (.slice A n c)) _ from ⟨q0,q1⟩) ?_;clear hK K hHeld;have hHeld:=(show (fun w':World=>w'.cell? w=some (.int .i64 aA)/\w'.cell? ⟨w,1,none⟩=some (.slice A n c)) _ from ⟨q0,q1⟩)
   try simp only[Act.put,gJ]
   refine aU (i:=4) rfl (by kernel_rfl) (by rfl) (fun K hK=> ?_);go_simp;refine (yB.out _ ((bS _ w1).drew.alloc (by simp) _)).mono ?_;rintro e w5 ⟨A',c',rfl,k1,k2,k3⟩;have qT:=hb6.below k3 hb6.lt;have q0:=qT.cell 0;have q1:=qT.cell 1;simp at q0 q1;refine hK _ _ (show (fun w':World=>w'.cell? w=some (.int .i64 aA)/\w'.cell? ⟨w,1,none⟩=some (.slice A n c)) _ from ⟨q0,q1⟩) ?_;clear hK K hHeld;have hHeld:=(show (fun w':World=>w'.cell? w=some (.int .i64 aA)/\w'.cell? ⟨w,1,none⟩=some (.slice A n c)) _ from ⟨q0,q1⟩)
   try simp only[Act.put,gJ]
   refine aW 5 ?_;have QO:=k3.size;simp only[mZ,World.size_drew] at QO;have yF:=(av.new w1.drew 133 #[.int .i64 0,.slice none 0 0]).below k3 (by simp);rw[World.size_drew] at yF;have z0:=yF.cell 0;have z1:=yF.cell 1;have z2:=yF.frozen 0;have z3:=yF.frozen 1;simp at z0 z1;refine dB (i:=7) rfl (by kernel_rfl) (by kernel_rfl) (by rfl) (fun K hK=> ?_);go_simp;refine hK _ _ ?_;clear hK K
   try simp only[Act.put,gJ]
   refine bW (by kernel_rfl) ?_ _;go_wp2_with fail;go_meet;exact ⟨w1,A',c',rfl,by simpa using (yF.ay 0 aA).ay 1 (.slice A' n c'),(k1.vE (fun ad e=>by have:=(k2 ad e).1;simp at this;omega) _).vE (fun ad e=>by have:=(k2 ad e).1;simp at this;omega) _,aL,((((bS _ w1).drew.alloc (by simp) _).trans (k3.mono (by simp))).setCell (p:=⟨w1,0,none⟩) (aL) _).setCell (p:=⟨w1,1,none⟩) (aL) _,fun ad e=>by have:=k2 ad e;simp at this;omega⟩
 case rest=>
 obtain ⟨b,A',c',rfl,k1,k2,k3,k4,hAL⟩:=hcut;have ar2:=k1.lt;have hS:=IQ.out.below k4 IQ.out.lt;have hZ:=HZ1.out.below k4 HZ1.out.lt;have hNs:=HN1.out.below k4;have hBc:=HB1.out.trans (k4.mono HB1.out.size);have ar3:w.heap.size+1<w1.heap.size:=HZ1.out.lt;have z1:=hS.cell 1;have z2:=k1.cell 1;simp at z1 z2;have hw1:IntKind.i64.wrap ((n:Int)-1)=(n:Int)-1:=iG _ (by omega);have HS:=ah hS;have HZ:=ah hZ;have HNs:=ah hNs;have HBc:=ah hBc;have K1:=ah k1;have K2:=ah k2;clear hS hZ hNs hBc k1 k2 k4 IQ HZ1 HN1 HB1 c0 c1 yB;have yE:=ah hAL;clear hAL;have hkk:c'<=9223372036854775807:=K2.out.mx;have hkc:n<=c':=K2.out.cap;go_wp2_with fail
 go_loopw [7] (fun s7 wr=>∃(q:Nat) (y:Int × Nat) (c2:Nat),s7= .int .i64 ((q:Int)-1)/\q<=n/\q<=y.2/\y.2<=n/\y.2<=c2/\c2<=9223372036854775807/\(q=0->y.2=0)/\tu l N q y=R/\av wr b 133 #[y.1,.slice A' y.2 c2]/\av wr w 133 #[aA,.slice A n c]/\av wr (w+1) 133 #[.int .i64 0,.slice none 0 0]/\dD wr A' n c' l/\dD wr A n c l/\Below w w wr) (fun s7 _=>(intOf s7+1).toNat)
 case atStart=>
  refine ⟨n,(aA,n),c',rfl,aL,aL,aL,hkc,hkk,fun e=>e,?_,K1.out,HS.out,HZ.out,K2.out,HNs.out,HBc.out⟩;rw[HR.out,DK,HL.out]
 case round=>
  clear z1 z2 K1 HS HZ K2 HNs HBc;obtain ⟨q,⟨ya,yn⟩,c2,rfl,hq,hqy,hyn,hyc,hc2,hq0,hfit,h1,h2,h3,h4,h5,h6⟩:=hrel;dsimp only at hqy hyn hyc hq0 h1;have z1:=h2.cell 1;have z2:=h1.cell 1;simp at z1 z2;have hsz:=fun W (hW:Below wr wr W)=>R9 W A' yn c2 (l.take yn) ((h4.takeC hyn hyc hc2).below hW) (by omega)
  have KI:=ah hsz;have H1:=ah h1;have H2:=ah h2;have H3:=ah h3;have H4:=ah h4;have H5:=ah h5;have H6:=ah h6;clear hsz h1 h2 h3 h4 h5 h6;by_cases hle:oO (l.take yn)<=N
  ·rw[Sw (by exact hle)] at hfit;have dd:decide ((N:Int)<(oO (l.take yn):Int))=false:=iP (by omega);have Sy:=ah (KI.out wr (bS _ _));generalize oO (l.take yn)=SZ at*;clear KI;go_wp2_with fail;refine Sy.out.mono ?_;rintro e1 w2 ⟨rfl,hb2⟩;have g1:=H1.out.below hb2 H1.out.lt;have g3:=H3.out.below hb2 H3.out.lt;have g4:=(H4.out.takeC hyn hyc hc2).below hb2;have g6:=H6.out.trans (hb2.mono H6.out.size);have y0:=g1.cell 0;have y1:=g1.cell 1;have y2:=g3.cell 0;have y3:=g3.cell 1;have y4:=g3.frozen 0;have y5:=g3.frozen 1;simp at y0 y1 y2 y3;have G3:=ah g3;have G4:=ah g4;have G6:=ah g6;have HF:=ah hfit;clear g1 g3 g4 g6 hb2 Sy H1 H2 H3 H4 H5 H6 hfit z1 z2;go_wp2_with fail;refine oZ (v:= .tuple #[.agg #[ya,.slice A' yn c2],.int .i64 0]) ?_ rfl ?_
   ·have k1:=(G3.out.ay 0 ya);have k2:=k1.ay 1 (.slice A' yn c2);have q0:=k2.cell 0;have q1:=k2.cell 1;simp at q0 q1;simp[results,results82,go_sem,q0,q1]
   ·rw[<-HF.out];exact ⟨A',c2,rfl,(G4.out.vE (fun ad e=>by have:=yE.out ad e;omega) _).vE (fun ad e=>by have:=yE.out ad e;omega) _,fun ad e=>by have:=yE.out ad e;omega,(G6.out.setCell (p:=⟨w+1,0,none⟩) (by simp) _).setCell (p:=⟨w+1,1,none⟩) (by simp) _⟩
  ·obtain ⟨p,rfl⟩:∃p,q=p+1:=⟨q-1,by
    rcases oV q with e|e
    ·exfalso;rw[hq0 e] at hle;have:oO (l.take 0)=2:=by simp[oO,uW]
     omega
    ·omega⟩
   rw[show (((p+1:Nat):Int)-1)=(p:Int) by omega];have hln:=HL.out;have dd:(N:Int)<(oO (l.take yn):Int):=by omega
   have Sy:=ah (KI.out wr (bS _ _));have HLE:=ah hle;have hstep:tu l N (p+1) (ya,yn)=if 0<p/\xM l p=xM l (p-1) then tu l N p (ya,yn) else tu l N p (xM l p,p):=by
    rw[tu,aP (by exact hle)]
   rw[hstep] at hfit;obtain ⟨SZ,hSZ⟩:∃SZ,oO (l.take yn)=SZ:=⟨_,rfl⟩
   rw[hSZ] at dd Sy;clear KI hstep hle hSZ;go_wp2_with fail;refine Sy.out.mono ?_;rintro e1 w2 ⟨rfl,hb2⟩;have g1:=H1.out.below hb2 H1.out.lt;have g2:=H2.out.below hb2 H2.out.lt;have g3:=H3.out.below hb2 H3.out.lt;have g4:=H4.out.below hb2;have g5:=H5.out.below hb2;have g6:=H6.out.trans (hb2.mono H6.out.size);obtain ⟨ad,x,rfl,hx,hbk,x0,x1,x2,x3⟩:=g5.get (k:=p) (by omega);rw[Nf hx] at hfit;have G1:=ah g1;have G2:=ah g2;have G3:=ah g3;have G4:=ah g4;have G5:=ah g5;have G6:=ah g6;have Q6:=ah (fun (Ew:Addr) (e:some ad=some Ew)=>show Ew.block≠b by have:=alb.out Ew e (by omega);omega);clear Sy H1 H2 H3 H4 H5 H6 hb2 x1 x2 x3 z1 z2;have y2:=g2.cell 1;simp at y2;clear g1 g2 g3 g4 g5 g6;rcases oV p with hp0|hp0
   ·subst hp0;rw[aP (by omega)] at hfit;rw[show (((0:Nat):Int))=0 from rfl];go_wp2_with fail
    go_quiet (fail)
    have g1:=G1.out.drewN nq;have g2:=G2.out.drewN nq;have g3:=G3.out.drewN nq;have g4:=G4.out.drewN nq;have g5:=G5.out.drewN nq;have g6:=G6.out.drewN nq;have Vp:(w2.drewN nq).cell? ad=some (.int .i64 x.sn):=by rw[show ad.add (0*4)=ad by cases ad;simp[Addr.add]] at x0;exact x0
    have h0n:0<n:=by omega
    clear x0 y2 G1 G2 G3 G4 G5 G6;have x0:=Vp;clear Vp;generalize w2.drewN nq=w3 at*;have f0:=g1.frozen 0;have f1:=g1.frozen 1;have y0:=g1.cell 0;have y1:=g1.cell 1;have y2:=g2.cell 1;simp at y0 y1 y2;have b1':av ((w3.setCell ⟨b,0,none⟩ x.sn).setCell ⟨b,1,none⟩ (.slice A' 0 0)).drew b 133 #[x.sn,.slice A' 0 0]:=by
     have h9:=(g1.ay 0 x.sn).ay 1 (.slice A' 0 0);simp at h9;exact h9.drew
    have b2':=((g2.far (p:=⟨b,0,none⟩) (by simp;omega) x.sn).far (p:=⟨b,1,none⟩) (by simp;omega) (.slice A' 0 0)).drew;have b3':=((g3.far (p:=⟨b,0,none⟩) (by simp;omega) x.sn).far (p:=⟨b,1,none⟩) (by simp;omega) (.slice A' 0 0)).drew;have b4':=((g4.vE (b:=b) (o:=0) (fun ad e=>by have:=yE.out ad e;omega) x.sn).vE (b:=b) (o:=1) (fun ad e=>by have:=yE.out ad e;omega) (.slice A' 0 0)).drewN 1;have b5':=((g5.vE (b:=b) (o:=0) (fun Ew e=>Q6.out Ew e) x.sn).vE (b:=b) (o:=1) (fun Ew e=>Q6.out Ew e) (.slice A' 0 0)).drewN 1;have b6':=((g6.setCell (p:=⟨b,0,none⟩) (by simp;omega) x.sn).setCell (p:=⟨b,1,none⟩) (by simp;omega) (.slice A' 0 0)).drew;have B1:=ah b1';have B2:=ah b2';have B3:=ah b3';have B4:=ah b4';have B5:=ah b5';have B6:=ah b6';have HF:=ah hfit;clear b1' b2' b3' b4' b5' b6' g1 g2 g3 g4 g5 g6 hfit;go_wp2_with fail
    go_region
    go_wp2_with fail
    go_roundw
    case rel=>exact ⟨0,(x.sn,0),0,by simp,by omega,by simp,by simp,by simp,by omega,fun _=>rfl,HF.out,B1.out,B2.out,B3.out,B4.out,B5.out,B6.out⟩
    case measure=>simp[intOf]
   ·obtain ⟨r,hr⟩:∃r,p=r+1:=⟨p-1,by omega⟩
    obtain ⟨ad2,x',e2,hx',ald,xr,_,_,_⟩:=G5.out.get (k:=r) (by omega);cases e2;have hw2:IntKind.i64.wrap ((p:Int)-1)=(r:Int):=by rw[iG _ (by omega)];omega
    have hgt:(0:Int)<(p:Int):=by omega
    have hpn:p<n:=by omega
    have hrn:r<n:=by omega
    rw[show p-1=r by omega,Nf hx'] at hfit;have QH:=ah hr;clear hr hx hx' hbk ald;by_cases hsn:x.sn=x'.sn
    ·rw[bD ⟨hp0,hsn⟩] at hfit;go_wp2_with fail
     go_quiet (fail)
     have g1:=G1.out.drewN nq;have g2:=G2.out.drewN nq;have g3:=G3.out.drewN nq;have g4:=G4.out.drewN nq;have g5:=G5.out.drewN nq;have g6:=G6.out.drewN nq;have Vp:(w2.drewN nq).cell? (ad.add (p*4))=some (.int .i64 x.sn):=x0;clear x0 xr y2 G1 G2 G3 G4 G5 G6;have x0:=Vp;clear Vp;generalize w2.drewN nq=w3 at*;have B1:=ah g1;have B2:=ah g2;have B3:=ah g3;have B4:=ah g4;have B5:=ah g5;have B6:=ah g6;have HF:=ah hfit;clear g1 g2 g3 g4 g5 g6 hfit;go_wp2_with fail
     go_roundw
     case rel=>exact ⟨p,(ya,yn),c2,by have:=QH.out;go_num,by omega,by simp;omega,by simp;omega,by simp;omega,by omega,fun e=>by omega,HF.out,B1.out,B2.out,B3.out,B4.out,B5.out,B6.out⟩
     case measure=>have:=QH.out;simp[intOf];omega
    ·rw[aP (fun h=>hsn h.2)] at hfit;have dsn:decide (x.sn=x'.sn)=false:=iP hsn;go_wp2_with fail
     go_quiet (fail)
     have g1:=G1.out.drewN nq;have g2:=G2.out.drewN nq;have g3:=G3.out.drewN nq;have g4:=G4.out.drewN nq;have g5:=G5.out.drewN nq;have g6:=G6.out.drewN nq;have Vp:(w2.drewN nq).cell? (ad.add (p*4))=some (.int .i64 x.sn):=x0;clear x0 xr y2 G1 G2 G3 G4 G5 G6;have x0:=Vp;clear Vp;generalize w2.drewN nq=w3 at*;have f0:=g1.frozen 0;have f1:=g1.frozen 1;have y0:=g1.cell 0;have y1:=g1.cell 1;have y2:=g2.cell 1;simp at y0 y1 y2;have b1':av ((w3.setCell ⟨b,0,none⟩ x.sn).setCell ⟨b,1,none⟩ (.slice A' p p)).drew b 133 #[x.sn,.slice A' p p]:=by
      have h9:=(g1.ay 0 x.sn).ay 1 (.slice A' p p);simp at h9;exact h9.drew
     have b2':=((g2.far (p:=⟨b,0,none⟩) (by simp;omega) x.sn).far (p:=⟨b,1,none⟩) (by simp;omega) (.slice A' p p)).drew;have b3':=((g3.far (p:=⟨b,0,none⟩) (by simp;omega) x.sn).far (p:=⟨b,1,none⟩) (by simp;omega) (.slice A' p p)).drew;have b4':=((g4.vE (b:=b) (o:=0) (fun ad e=>by have:=yE.out ad e;omega) x.sn).vE (b:=b) (o:=1) (fun ad e=>by have:=yE.out ad e;omega) (.slice A' p p)).drewN 1;have b5':=((g5.vE (b:=b) (o:=0) (fun Ew e=>Q6.out Ew e) x.sn).vE (b:=b) (o:=1) (fun Ew e=>Q6.out Ew e) (.slice A' p p)).drewN 1;have b6':=((g6.setCell (p:=⟨b,0,none⟩) (by simp;omega) x.sn).setCell (p:=⟨b,1,none⟩) (by simp;omega) (.slice A' p p)).drew;have B1:=ah b1';have B2:=ah b2';have B3:=ah b3';have B4:=ah b4';have B5:=ah b5';have B6:=ah b6';have HF:=ah hfit;clear b1' b2' b3' b4' b5' b6' g1 g2 g3 g4 g5 g6 hfit;go_wp2_with fail
     go_region
     go_wp2_with fail
     go_roundw
     case rel=>exact ⟨p,(x.sn,p),p,by have:=QH.out;go_num,by omega,by simp,by simp;omega,by simp,by omega,fun e=>by omega,HF.out,B1.out,B2.out,B3.out,B4.out,B5.out,B6.out⟩
     case measure=>have:=QH.out;simp[intOf];omega
end
section
variable {D F:Nat->Prop} {g:Nat} {c:Cf} {st:Sd} {vq vo:Value} {vs os:List Value} {w:World}
end
theorem Sj {st:Rc} {f sn:Nat} {l:List Nk} (h:sn≠st.status) (hc:dW (st.m sn)=true):pI st (f+1) sn l=pI st f (eD sn) l:=by
 rw[pI,aP h,bD hc]
theorem Sk {st:Rc} {f sn:Nat} {l:List Nk} (h:sn≠st.status) (hc:dW (st.m sn)=false) (hl:512<l.length+(jf sn (st.m sn)).length):pI st (f+1) sn l=(sn,l):=by
 rw[pI,aP h,aP (by rw[hc];simp),bD hl]
theorem Sm {st:Rc} {f sn:Nat} {l:List Nk} (h:sn≠st.status) (hc:dW (st.m sn)=false) (hl:¬512<l.length+(jf sn (st.m sn)).length):pI st (f+1) sn l=pI st f (eD sn) (l++jf sn (st.m sn)):=by
 rw[pI,aP h,aP (by rw[hc];simp),aP hl]
theorem Vj {sn:Nat} {o:Option Sp} (h:∀p,o=some p->DF p/\M9 p):(jf sn o).length<=40000:=by
 cases o with
 |none=>simp[jf]
 |some p=>
  obtain ⟨h1,h2⟩:=h p rfl;have:=tq p.fl 0 0;have:=h1.le;cases hs:p.size with
  |none=>rw[Jv hs];simp;omega
  |some k=>rw[Ju h2 hs];simp;omega
def ak5 (w:World) (R:Nat × List Nk) (e:Ending) (w':World):Prop:=
 ∃A c,e= .returned (.tuple #[.agg #[.int .i64 (R.1:Nat),.slice A R.2.length c],.int .i64 0])/\dD w' A R.2.length c R.2/\(∀ad,A=some ad->w.heap.size<=ad.block)/\Below w w w'
def zx (st:Rc):Prop:=∀k p,st.m k=some p->M9 p
section
variable {w w':World} {T:Nat->Nat} {g M n:Nat} {c:Cf} {st:Rc} {vo:Value}
theorem jo.entry (h:jo w T g M n c st vo) (ho:fM st) (hz:zx st) {k:Nat} (hk:k<=1023):∃v,(Instr.lookup 128 (.map (some M)) k false).run prog w= .ok v w/\
 Calls prog 117 #[v] w (fun e w'=>e= .returned (.bool (dW (st.m k)))/\Below w w w')/\
 ∀W,Below w w W->Calls prog 118 #[.int .i64 (k:Nat),v] W (ach W (jf k (st.m k))):=by
 obtain ⟨v,hr,⟨hm,rfl⟩|⟨p,b,vf,vd,hm,rfl,hs,_⟩⟩:=h.look hk
 ·refine ⟨_,hr,?_,?_⟩
  ·rw[hm];exact yS w
  ·intro W _;rw[hm];exact KO k W
 ·refine ⟨_,hr,?_,?_⟩
  ·rw[hm];exact yT hs (ho.m k p hm).2.2
  ·intro W hW;rw[hm];have hbl:=hs.blk.lt;refine KP k b p vf vd W (hs.stay (hW.block b hbl) (fun j hj=>hW.block j (hs.fr.lt j hj).2) (fun j hj=>hW.block j (hs.dr.lt j hj).2)) (ho.m k p hm).2.2 (hz k p hm)
theorem Sn {st:Rc} {f sn:Nat} {l:List Nk} (h:sn=st.status):pI st f sn l=(st.status,l):=by
 cases f with
 |zero=>rfl
 |succ f=>rw[pI,bD h]
theorem Q5 {wr:World} {b:Nat} {x y:Value} {A:Option Addr} {c:Nat} {l:List Nk} (hb1:av wr b 133 #[x,y]) (hv:wr.ownsRow w 197 4 (.slice A l.length c) l.length (si l)) (hB:Below w w wr) (hbl:w<=b) (u0 u1:Value):
 dD ((wr.setCell b u0).setCell ⟨b,1,none⟩ u1) A l.length c l/\(∀ad,A=some ad->w.heap.size<=ad.block)/\Below w w ((wr.setCell b u0).setCell ⟨b,1,none⟩ u1)/\av ((wr.setCell b u0).setCell ⟨b,1,none⟩ u1) b 133 #[u0,u1]:=by
 have h1:av (wr.setCell b u0) b 133 #[u0,y]:=by simpa using hb1.ay 0 u0
 have h2:av ((wr.setCell b u0).setCell ⟨b,1,none⟩ u1) b 133 #[u0,u1]:=by simpa using h1.ay 1 u1
 have v1:=GY (a:=⟨b,0,none⟩) hv (jd hv hb1 (by decide)) u0;have v2:=GY (a:=⟨b,1,none⟩) v1 (jd v1 h1 (by decide)) u1;obtain ⟨A',c',e,hN,hf⟩:=dD.eu v2;cases e;exact ⟨hN,fun ad e=>(hf ad e).1,(hB.setCell (p:=⟨b,0,none⟩) hbl u0).setCell (p:=⟨b,1,none⟩) hbl u1,h2⟩
theorem Na (h:jo w T g M n c st vo) (ho:fM st) (hz:zx st):
 Calls prog 81 #[.pointer (some g)] w (ak5 w (iR st)):=by
 obtain ⟨i0,hi,hz0,hz1,hz2⟩:=wN;obtain ⟨R,hR⟩:∃R,R=iR st:=⟨_,rfl⟩
 rw[<-hR];have hB0:=(bS w w).alloc (aL) (.cells #[.int .i64 0,.slice none 0 0] 133);have hb0:=av.new w 133 #[.int .i64 0,.slice none 0 0];have hsz0:=mZ w (.cells #[.int .i64 0,.slice none 0 0] 133);have hno:=sZ (h.alloc (.cells #[.int .i64 0,.slice none 0 0] 133));have Sq:=ah hno;have HH:=ah h;have HO:=ah ho;have HZ:=ah hz;have HR:=ah hR;have hgl:=h.blk.lt;obtain ⟨y3,y4,y7,y8,y9,KQ,Vk,Bt,y13,Jg,Oo,CZ,UH,Ku⟩:=h.cells;have hn1:=ho.n1;have hn2:=ho.n2;clear y3 y4 KQ Vk Bt y13 Jg Oo CZ UH Ku hno h ho hz hR hb0 hsz0 hB0;go_enter func81,ntmps81;go_wp2_with fail;refine Sq.out.mono ?_;rintro e1 w1 ⟨rfl,rfl⟩;go_wp2_with fail;have hb1:=(av.new w 133 #[.int .i64 0,.slice none 0 0]).alloc (.cells #[.int .i64 (st.status:Nat),.slice none 0 0] 133);have hb2:=av.new (w.alloc (.cells #[.int .i64 0,.slice none 0 0] 133)) 133 #[.int .i64 (st.status:Nat),.slice none 0 0];rw[mZ] at hb2;have Yr:Below w w ((w.alloc (.cells #[.int .i64 0,.slice none 0 0] 133)).alloc (.cells #[.int .i64 (st.status:Nat),.slice none 0 0] 133)):=((bS _ w).alloc (aL) _).alloc (by simp) _;have Sr:(st.status+1024-st.next)%1024<=1024:=by omega
 go_loopg [5] 1024 (fun gk s5 wr=>∃(sn:Nat) (l:List Nk) (v:Value),s5= .int .i64 (sn:Nat)/\sn<=1023/\R=pI st gk sn l/\l.length<=512/\(st.status+1024-sn)%1024<=gk/\av wr w 133 #[.int .i64 0,.slice none 0 0]/\
  av wr (w+1) 133 #[.int .i64 (st.status:Nat),v]/\wr.ownsRow w 197 4 v l.length (si l)/\Below w w wr)
 case atStart=>exact ⟨st.next,[],_,rfl,hn1,HR.out,by simp,Sr,hb1,hb2,jl _ _ _ _,Yr⟩
 case round=>
  clear hb1 hb2 Yr Sr y7 y8 y9;obtain ⟨sn,l,v,rfl,hsn,hr,hl,Sr,hb1,hb2,hv,hB⟩:=hrel;obtain ⟨Av,cv,rfl,hNv,jE⟩:=dD.eu hv;have hA:=HH.out.below hB;have x9:=hA.cells.2.2.2.2.1;have x7:=hA.cells.2.2.1;by_cases hs:sn=st.status
  ·subst hs;rw[Sn rfl] at hr;have c0:=hb2.cell 0;have c1:=hb2.cell 1;have d0:=hb1.frozen 0;have d1:=hb1.frozen 1;have d2:=hb1.cell 0;have d3:=hb1.cell 1;simp at c0 c1 d2 d3;obtain ⟨f1,f2,f3,f4⟩:=Q5 (w:=w) hb1 hv hB (aL) (.int .i64 (st.status:Nat)) (.slice Av l.length cv);have F1:=ah f1;have F2:=ah f2;have F3:=ah f3;have F4:=ah f4;clear f1 f2 f3 f4 hb1 hb2 hv hB hA hNv jE x7;go_wp2_with fail;have q0:=F4.out.cell 0;have q1:=F4.out.cell 1;simp at q0 q1;refine oZ (v:= .tuple #[.agg #[.int .i64 (st.status:Nat),.slice Av l.length cv],.int .i64 0]) ?_ rfl ?_
   ·simp[results,results81,go_sem,q0,q1]
   ·rw[hr];exact ⟨Av,cv,rfl,F1.out,F2.out,F3.out⟩
  ·obtain ⟨f,rfl⟩:∃f,gk=f+1:=⟨gk-1,by omega⟩
   have hne:¬((sn:Int)=(st.status:Int)):=by omega
   have acm:(st.status+1024-eD sn)%1024<=f:=by unfold eD;omega
   have hup:eD sn<=1023:=by unfold eD;omega
   have hand:bits BinOp.and IntKind.i64 ((sn:Int)+1) 1023=((eD sn:Nat):Int):=by rw[wK];unfold eD;omega
   obtain ⟨v,hlk,hcm,hent⟩:=hA.entry HO.out HZ.out hsn;have hel:(jf sn (st.m sn)).length<=40000:=Vj fun p hp=>⟨(HO.out.m sn p hp).2.2,HZ.out sn p hp⟩
   have HCM:=ah hcm;have HB:=ah hB;have HUP:=ah hup;have HGK:=ah acm;cases hcp:dW (st.m sn) with
   |true=>
    rw[hcp] at HCM;rw[Sj hs hcp] at hr;have HRR:=ah hr;have HV:=ah hv;have HB1:=ah hb1;have HB2:=ah hb2;clear hcm hent hr Sr acm hup hcp hB hA hv hb1 hb2 hel hNv jE;generalize eD sn=q at*;go_wp2_with fail;refine HCM.out.mono ?_;rintro e1 w1 ⟨rfl,hb1⟩;go_wp2
    go_roundg f
    case measure=>omega
    case rel=>exact ⟨q,l,_,rfl,HUP.out,HRR.out,hl,HGK.out,HB1.out.below hb1 HB1.out.lt,HB2.out.below hb1 HB2.out.lt,own_below HV.out hb1 (aL),HB.out.trans (hb1.mono HB.out.size)⟩
   |false=>
    rw[hcp] at HCM;have agf:=ah hent;clear hcm hent;have HV:=ah hv;have HB1:=ah hb1;have HB2:=ah hb2;have HHS:=ah hs;have HCP:=ah hcp;have HRR:=ah hr;clear hv hb1 hb2 hs hcp hr hB hA hNv jE Sr acm hup;go_wp2_with fail;refine HCM.out.mono ?_;rintro e1 w1 ⟨rfl,hb1⟩;have HBa:=ah hb1;clear hb1 HCM;go_wp2_with fail;refine (agf.out w1 HBa.out).mono ?_;rintro e2 w2 ⟨v2,rfl,hv2,hb2⟩;obtain ⟨A2,c2,rfl,Yu,_⟩:=dD.eu hv2;have hb2':Below wr wr w2:=HBa.out.trans (hb2.mono HBa.out.size);have b1:=HB1.out.below hb2' HB1.out.lt;have b2:=HB2.out.below hb2' HB2.out.lt;have v2:=own_below HV.out hb2' (aL);have BB:=HB.out.trans (hb2'.mono HB.out.size);have HRW:=ah (HH.out.below BB);have c0:=b2.cell 0;have c1:=b2.cell 1;have d0:=b2.frozen 0;have d1:=b2.frozen 1;simp at c0 c1;by_cases hfl:512<l.length+(jf sn (st.m sn)).length
    ·have hr:=HRR.out;rw[Sk HHS.out HCP.out hfl] at hr;have dd:decide ((512:Int)<(l.length:Int)+((jf sn (st.m sn)).length:Int))=true:=iK (by omega);generalize (jf sn (st.m sn)).length=N at*;have b2':av (w2.setCell ⟨w+1,0,none⟩ (.int .i64 (sn:Nat))) (w+1) 133 #[.int .i64 (sn:Nat),.slice Av l.length cv]:=by simpa using b2.ay 0 (.int .i64 (sn:Nat))
     have b1':=b1.far (p:=⟨w+1,0,none⟩) (by simp) (.int .i64 (sn:Nat));have v2':=GY (a:=⟨w+1,0,none⟩) v2 (jd v2 b2 (by decide)) (.int .i64 (sn:Nat));have BB':=BB.setCell (p:=⟨w+1,0,none⟩) (by simp) (.int .i64 (sn:Nat));obtain ⟨f1,f2,f3,f4⟩:=Q5 (w:=w) b1' v2' BB' (aL) (.int .i64 (sn:Nat)) (.slice Av l.length cv);have e0:=b2'.cell 0;have e1:=b2'.cell 1;have e2:=b1'.frozen 0;have e3:=b1'.frozen 1;have e4:=b1'.cell 0;have e5:=b1'.cell 1;simp at e0 e1 e4 e5;have F1:=ah f1;have F2:=ah f2;have F3:=ah f3;have F4:=ah f4;clear f1 f2 f3 f4 b1 b2 v2 BB b1' b2' v2' BB' hb2 hb2' hv2 Yu;go_wp2_with fail;have q0:=F4.out.cell 0;have q1:=F4.out.cell 1;simp at q0 q1;refine oZ (v:= .tuple #[.agg #[.int .i64 (sn:Nat),.slice Av l.length cv],.int .i64 0]) ?_ rfl ?_
     ·simp[results,results81,go_sem,q0,q1]
     ·rw[hr];exact ⟨Av,cv,rfl,F1.out,F2.out,F3.out⟩
    ·have hr:=HRR.out;rw[Sm HHS.out HCP.out hfl] at hr;have dd:decide ((512:Int)<(l.length:Int)+((jf sn (st.m sn)).length:Int))=false:=iP (by omega);obtain ⟨E,hE⟩:∃E,jf sn (st.m sn)=E:=⟨_,rfl⟩
     rw[hE] at hr dd Yu hfl hel ⊢;have acn:=ah hr;have Vh:=ah v2;have HN2:=ah Yu;have agi:=ah b1;have agj:=ah b2;have Om:=ah BB;clear hr b1 b2 v2 BB hb2 hb2' hv2 Yu HRR HB1 HB2 HV HBa agf;generalize eD sn=q at*;go_wp2_with (at_builtin;refine jc _ rfl _ _ 131 rfl w 197 i0 (.agg #[.int .i64 0,.bool false,.int .i64 0,.int .i64 0]) 32 yV hi hz0 hz1 hz2 rfl (.slice Av l.length cv) l.length (si l) rfl Vh.out A2 E.length c2 E rfl HN2.out ?c3 ?c4 ?c5 ?_)
     case c3=>unfold maxLen;omega
     case c4=>omega
     case c5=>exact Om.out.size
     intro v5 w5 hown5 dV;have FW:w5.ownsRow w 197 4 v5 (l++E).length (si (l++E)):=by rw[Bb,l8];exact hown5
     have hvb:∀j,(Value.slice Av l.length cv).ownBlock=some j->w.heap.size<=j:=fun j e=>(Vh.out.lt j e).1
     have b2:=agj.out.grown dV (fun e=>jd Vh.out agj.out (by decide) e.symm);have b1:=agi.out.grown dV (fun e=>jd Vh.out agi.out (by decide) e.symm);have BB:=Om.out.grown dV Om.out.size hvb;have hl5:(l++E).length<=512:=by rw[l8];omega
     obtain ⟨A5,c5,rfl,_,_⟩:=dD.eu FW;obtain ⟨NL,hNL⟩:∃NL,(l++E).length=NL:=⟨_,rfl⟩
     rw[hNL] at FW hl5 ⊢;have HNL:=ah hNL;clear hNL;have d0:=b2.frozen 0;have d1:=b2.frozen 1;have d2:=b2.cell 1;simp at d2;have b2':av (w5.setCell ⟨w+1,1,none⟩ (.slice A5 NL c5)) (w+1) 133 #[.int .i64 (st.status:Nat),.slice A5 NL c5]:=by simpa using b2.ay 1 (.slice A5 NL c5)
     have b1':=b1.far (p:=⟨w+1,1,none⟩) (by simp) (.slice A5 NL c5);have v5':=GY (a:=⟨w+1,1,none⟩) FW (jd FW b2 (by decide)) (.slice A5 NL c5);have BB':=BB.setCell (p:=⟨w+1,1,none⟩) (by simp) (.slice A5 NL c5);have G1:=ah b1';have G2:=ah b2';have G3:=ah v5';have G4:=ah BB';have G5:=ah hl5;clear b1 b2 BB b1' b2' v5' BB' hown5 FW dV hvb hl5 c0 c1;go_wp2_with fail
     go_roundg f
     case measure=>omega
     case rel=>exact ⟨q,l++E,_,rfl,HUP.out,acn.out,by rw[HNL.out];exact G5.out,HGK.out,G1.out,G2.out,by rw[HNL.out];exact G3.out,G4.out⟩
end
structure vD (aD:List (List UInt8)) (N:Nat) (pu:Nat->Ou) (left:Nat->List (List UInt8)) (sent:Nat->Nat):Prop where
 n:N<=511
 l0:left 0=aD
 s0:sent 0=0
 sn:∀i,i<N->(pu i).sn=i
 s:∀i,i<N->(pu i).s=decide (sent i=0)
 ne:∀i,i<N->(pu i).ps≠ []
 each:∀i,i<N->∀q∈(pu i).ps,1<=q.length/\q.length<=1000
 tot:∀i,i<N->au (pu i)<=32767
 len:∀s∈aD,s.length<=1000
 step:∀i,i<N->∃g,left i=g++left (i+1)/\og (((left i).headD []).take (sent i)) (decide (0<sent i)) (pu i).ps (pu i).e=(g,((left (i+1)).headD []).take (sent (i+1)),decide (0<sent (i+1)))
def BS (x:Ou):List (Fl × UInt8):=eG x.s x.e x.ps.length 0 x.ps
theorem sQ (x:Ou):(BS x).length=au x:=lq _ _ _ _ _
def rW (aD:List (List UInt8)) (left:Nat->List (List UInt8)) (i:Nat):List (List UInt8):=aD.take (aD.length-(left i).length)
structure Piece (x:Ou) (a:jY):Prop where
 sn:a.sn=x.sn
 pos:1<=aj a.ps
 le:jm a<=au x
 fin:BP a=true↔jm a=au x
 eq:∀(j:Nat) z,(eG a.s a.e a.ps.length 0 a.ps)[j]? =some z->(BS x)[a.off+j]? =some z
section
variable {aD:List (List UInt8)} {N:Nat} {pu:Nat->Ou} {left:Nat->List (List UInt8)} {sent:Nat->Nat}
theorem Fh {ps:List (List UInt8)} (h:ps≠ []) (h1:∀q∈ps,1<=q.length):1<=aj ps:=by
 cases ps with
 |nil=>exact absurd rfl h
 |cons p r=>
  have:=h1 p (by simp);simp[aj];omega
theorem vD.size_pos (h:vD aD N pu left sent) {i:Nat} (hi:i<N):1<=au (pu i):=Fh (h.ne i hi) fun q hq=>(h.each i hi q hq).1
theorem vD.suffix (h:vD aD N pu left sent):∀i,i<=N->∃d,aD=d++left i
 |0,_=>⟨[],by rw[h.l0];rfl⟩
 |i+1,hi=>by
  obtain ⟨d,hd⟩:=vD.suffix h i (by omega);obtain ⟨g,hg,_⟩:=h.step i (by omega);exact ⟨d++g,by rw[hd,hg,oJ]⟩
theorem vD.done (h:vD aD N pu left sent) {i:Nat} (hi:i<=N):aD=rW aD left i++left i:=by
 obtain ⟨d,hd⟩:=h.suffix i hi;unfold rW;rw[hd];simp
theorem vD.UA (h:vD aD N pu left sent) {i:Nat} (hi:i<N):∃g,rW aD left (i+1)=rW aD left i++g/\og (((left i).headD []).take (sent i)) (decide (0<sent i)) (pu i).ps (pu i).e=(g,((left (i+1)).headD []).take (sent (i+1)),decide (0<sent (i+1))):=by
 obtain ⟨g,hg,hj⟩:=h.step i hi;refine ⟨g,?_,hj⟩;have h1:=h.done (i:=i) (by omega);have h2:=h.done (i:=i+1) (by omega);have h3:rW aD left (i+1)++left (i+1)=rW aD left i++g++left (i+1):=by
  rw[<-h2,oJ,<-hg];exact h1
 exact List.append_cancel_right h3
theorem vD.UB (h:vD aD N pu left sent) {i:Nat} (hi:i<=N) (k:Nat):(((left i).headD []).take k).length<=1000:=by
 obtain ⟨d,hd⟩:=h.suffix i hi;rw[kz];cases hl:left i with
 |nil=>simp
 |cons x r=>
  have:=h.len x (by rw[hd,hl];simp);simp only[List.headD_cons];omega
def CV (left:Nat->List (List UInt8)) (sent:Nat->Nat) (i:Nat) (op:List UInt8) (sm:Bool):Prop:=
 sm=decide (0<sent i)/\(sm=true->op=((left i).headD []).take (sent i))
theorem vD.dlv (h:vD aD N pu left sent) {i:Nat} (hi:i<N) {op:List UInt8} {sm:Bool} (ho:CV left sent i op sm) {fl:List Fl} {da:List UInt8} (hf:fl=(BS (pu i)).map Prod.fst) (hd:da=(BS (pu i)).map Prod.snd):
 ∃g,rW aD left (i+1)=rW aD left i++g/\(rU fl da (au (pu i)) (au (pu i)) 1 0 op sm).2.2=g/\
  CV left sent (i+1) (rU fl da (au (pu i)) (au (pu i)) 1 0 op sm).1 (rU fl da (au (pu i)) (au (pu i)) 1 0 op sm).2.1:=by
 obtain ⟨g,hg,hj⟩:=h.UA hi;have aab:=Mr (pu i).s (pu i).e (pu i).ps.length fl da (au (pu i)) (pu i).ps 0 0 op sm (fun p hp=>(h.each i hi p hp).1) (by omega) (by unfold au;omega)
  (fun j=>by rw[hf,oW,jA];rfl) (by rw[hd,ny];exact Fg _ _ _ _ _)
 rw[Nat.sub_zero,jA] at aab;rw[aab];obtain ⟨o1,o2⟩:=ho;have hjn:=I8 (pu i).s (pu i).e (pu i).ps.length (pu i).ps 0 op (((left i).headD []).take (sent i)) sm (decide (0<sent i)) (h.ne i hi) (by omega)
  (fun p hp=>by have:=(h.each i hi p hp).2;have:=h.UB (Nat.le_of_lt hi) (sent i);omega)
  (by
   rw[h.s i hi];by_cases hz:sent i=0
   ·refine .inl ⟨by simp[hz],by rw[hz];rfl⟩
   ·have hsm:sm=true:=by rw[o1];simp;omega
    exact .inr ⟨by simp[hz],hsm,o2 hsm⟩)
 rw[hjn,hj];exact ⟨g,hg,rfl,rfl,fun _=>rfl⟩
theorem uz {m:Nat->Option Sp} {N:Nat} (hN:N<=511) (hm:∀k,N<=k->m k=none):∀(f sn:Nat),sn<=N->N-sn<f->sn<=lN m f sn/\lN m f sn<=N/\dW (m (lN m f sn))=false/\∀k,sn<=k->k<lN m f sn->dW (m k)=true
 |0,sn,_,h=>by omega
 |f+1,sn,h1,h2=>by
  unfold lN;by_cases hc:dW (m sn)=true
  ·rw[bD hc];have hlt:sn<N:=by
    rcases kD sn N with h|h
    ·exact h
    ·rw[hm sn h] at hc;cases hc
   have hu:eD sn=sn+1:=by unfold eD;omega
   rw[hu];obtain ⟨a,b,c,d⟩:=uz hN hm f (sn+1) (by omega) (by omega);refine ⟨by omega,b,c,fun k hk1 hk2=> ?_⟩;by_cases e:k=sn
   ·rw[e];exact hc
   ·exact d k (by omega) hk2
  ·rw[aP hc];exact ⟨aL,h1,by simpa using hc,fun k h3 h4=>by omega⟩
structure kP (x:Ou) (p:Sp):Prop where
 agr:Agr (BS x) (p.fl,p.da)
 size:(p.size=none/\p.fl.length<au x)\/(p.size=some (au x)/\p.fl.length=au x)
theorem kP.new {x:Ou} (h:1<=au x):kP x Ff:=⟨⟨rfl,eH _,fun i f b hf=>by simp[Ff] at hf⟩,.inl ⟨rfl,h⟩⟩
theorem kP.whole {x:Ou} {p:Sp} (h:kP x p) (hc:fP p=true):p.size=some (au x)/\p.fl=(BS x).map Prod.fst/\p.da=(BS x).map Prod.snd:=by
 rcases h.size with ⟨h1,_⟩|⟨h1,h2⟩
 ·unfold fP at hc;rw[h1] at hc;cases hc
 ·unfold fP at hc;rw[h1] at hc;simp only[gD,gY] at hc;exact ⟨h1,h.agr.whole (by rw[sQ];exact hc.2)⟩
theorem kP.fits {x:Ou} {p:Sp} (h:kP x p) {a:jY} (ha:Piece x a):Hy p a=false:=by
 have h1:=ha.le;unfold Hy;rcases h.size with ⟨e,hl⟩|⟨e,hl⟩
 ·rw[e];dsimp only;cases hf:BP a with
  |false=>rfl
  |true=>
   have:=ha.fin.1 hf;simp;omega
 ·rw[e];dsimp only;cases hf:BP a with
  |false=>simpa using h1
  |true=>
   have:=ha.fin.1 hf;simp[this]
theorem sS (k:Nat) (l:List Fl):(je k l).length=max l.length k:=by simp[je];omega
theorem kP.take {x:Ou} {p:Sp} (h:kP x p) {a:jY} (ha:Piece x a):kP x (eF p a):=by
 have hle:=ha.le;have hal:=h.agr.le;dsimp only at hal;rw[sQ] at hal;have hw:=pJ (eG a.s a.e a.ps.length 0 a.ps) a.off (je (jm a) p.fl,qQ (jm a) p.da);refine ⟨QJ _ _ _ (abN h.agr (by rw[sQ];exact hle)) ha.eq,?_⟩;have hlen:(eF p a).fl.length=max p.fl.length (jm a):=by
  unfold eF;dsimp only;rw[hw.1];exact sS _ _
 rw[hlen];unfold eF;dsimp only;cases hf:BP a with
 |true=>
  have:=ha.fin.1 hf;rw[bD rfl,this];exact .inr ⟨rfl,by omega⟩
 |false=>
  have hne:jm a≠au x:=fun e=>by rw[ha.fin.2 e] at hf;cases hf
  rw[aP (by simp)];rcases h.size with ⟨e,hl⟩|⟨e,hl⟩
  ·exact .inl ⟨e,by omega⟩
  ·exact .inr ⟨e,by omega⟩
theorem kP.stays {x:Ou} {p:Sp} (h:kP x p) {a:jY} (ha:Piece x a) (hc:fP p=true):fP (eF p a)=true:=by
 have hle:=ha.le;have h2:=h.take ha;obtain ⟨c1,c2,_⟩:=h.whole hc;have hfl:p.fl.length=au x:=by rw[c2,Ej,sQ]
 have hall:om p.fl=p.fl.length:=by
  unfold fP at hc;rw[c1] at hc;simp only[gD,gY] at hc;omega
 have hlen:(eF p a).fl.length=max p.fl.length (jm a):=by
  unfold eF;dsimp only;rw[(pJ (eG a.s a.e a.ps.length 0 a.ps) a.off (je (jm a) p.fl,qQ (jm a) p.da)).1];exact sS _ _
 have hg:om (eF p a).fl=(eF p a).fl.length:=oq _ fun i hi=>by
  refine Aj _ _ _ i ?_;show (dZ (je (jm a) p.fl) i).1=true
  rw[Uz];have hi2:i<p.fl.length:=by omega
  rw[jZ (gX hi2)];exact Ak p.fl hall i _ (gX hi2)
 have hpos:1<=au x:=by
  unfold fP at hc;rw[c1] at hc;simp only[gD,gY] at hc;exact hc.1
 rcases h2.size with ⟨_,hl⟩|⟨e,hl⟩
 ·omega
 ·unfold fP;rw[e];simp only[gD,gY];omega
theorem kP.full {x:Ou} {p:Sp} (h:kP x p) {a:jY} (ha:Piece x a) (h0:a.off=0) (hf:BP a=true):fP (eF p a)=true:=by
 have he:=ha.fin.1 hf;have h2:=h.take ha;have hal:=h.agr.le;dsimp only at hal;rw[sQ] at hal;have hsum:jm a=aj a.ps:=by unfold jm;omega
 have hpos:=ha.pos;have hlen:(eF p a).fl.length=max p.fl.length (jm a):=by
  unfold eF;dsimp only;rw[(pJ (eG a.s a.e a.ps.length 0 a.ps) a.off (je (jm a) p.fl,qQ (jm a) p.da)).1];exact sS _ _
 have hg:om (eF p a).fl=(eF p a).fl.length:=oq _ fun i hi=>by
  refine Kr _ _ _ (yI _ _ _ _ _) ?_ i (by omega) ?_
  ·rw[lq];show a.off+_<=(je (jm a) p.fl).length
   rw[sS];omega
  ·rw[lq];omega
 rcases h2.size with ⟨_,hl⟩|⟨e,hl⟩
 ·omega
 ·unfold fP;rw[e];simp only[gD,gY];omega
structure Rx (aD:List (List UInt8)) (N:Nat) (pu:Nat->Ou) (left:Nat->List (List UInt8)) (sent:Nat->Nat) (st:Rc):Prop where
 nx:st.next<=N
 m:∀k p,st.m k=some p->st.next<=k/\k<N/\k<st.high/\kP (pu k) p
 op:CV left sent st.next st.op st.sm
 s1:st.next<=st.status
 s2:st.status<=N
 sc:dW (st.m st.status)=false
 h1:st.next<=st.high
 h2:st.high<=N
 tr:st.ro=true->st.gW<=st.high
structure jF (aD:List (List UInt8)) (N:Nat) (pu:Nat->Ou) (left:Nat->List (List UInt8)) (sent:Nat->Nat) (st:Rc):Prop extends Rx aD N pu left sent st where
 nc:dW (st.m st.next)=false
 tn:st.ro=true->st.next<st.gW
def Has (st:Rc) (k:Nat):Prop:=k<st.next\/dW (st.m k)=true
theorem Rx.none_ {st:Rc} (h:Rx aD N pu left sent st) {k:Nat} (hk:N<=k):st.m k=none:=by
 cases hm:st.m k with
 |none=>rfl
 |some p=>have:=(h.m k p hm).2.1;omega
theorem jF.start (T:vD aD N pu left sent):jF aD N pu left sent gL:=
 {nx:=eH _,m:=fun k p h=>by simp[gL] at h,op:=⟨by simp[gL,T.s0],fun h=>by simp[gL] at h⟩,s1:=aL,s2:=eH _,sc:=rfl,h1:=aL,h2:=eH _,tr:=fun h=>by simp[gL] at h,nc:=rfl,tn:=fun h=>by simp[gL] at h}
theorem Rx.Am (T:vD aD N pu left sent):∀(f:Nat) {st:Rc},Rx aD N pu left sent st->N-st.next<f->
 Rx aD N pu left sent (bK f st).1/\dW ((bK f st).1.m (bK f st).1.next)=false/\(∃g,(bK f st).2=g/\rW aD left (bK f st).1.next=rW aD left st.next++g)/\
 (∀k,Has st k->Has (bK f st).1 k)/\(bK f st).1.ro=st.ro/\(bK f st).1.gW=st.gW/\(bK f st).1.high=st.high/\(bK f st).1.status=st.status/\(bK f st).1.due=st.due/\(bK f st).1.fJ=st.fJ/\(bK f st).1.now=st.now
 |0,st,_,hf=>by omega
 |f+1,st,h,hf=>by
  unfold bK;cases hm:st.m st.next with
  |none=>exact ⟨h,by rw[hm];rfl,⟨[],rfl,by simp⟩,fun k hk=>hk,rfl,rfl,rfl,rfl,rfl,rfl,rfl⟩
  |some p=>
   dsimp only;by_cases hc:fP p=true
   ·rw[bD hc];have hN:=T.n;obtain ⟨_,hlt,hhi,Hz⟩:=h.m _ p hm;obtain ⟨e1,e2,e3⟩:=Hz.whole hc;obtain ⟨g,hg,hg2,hg3⟩:=T.dlv hlt h.op e2 e3;have hsz:CQ p=au (pu st.next):=by unfold CQ;rw[e1];rfl
    have hup:eD st.next=st.next+1:=by unfold eD;omega
    have hns:st.next≠st.status:=fun e=>by
     have:=h.sc;rw[<-e,hm] at this;have h2:dW (some p)=fP p:=rfl;rw[h2,hc] at this;cases this
    have hs1:=h.s1;have h1:Rx aD N pu left sent (Ah st p):=by
     refine ⟨by show eD st.next<=N;omega,fun k q hk=> ?_,?_,by show eD st.next<=st.status;omega,h.s2,?_,by show eD st.next<=st.high;omega,h.h2,h.tr⟩
     ·have hk2:(if k=st.next then none else st.m k)=some q:=hk;split at hk2
      ·cases hk2
      ·obtain ⟨a,b,c,d⟩:=h.m k q hk2;refine ⟨?_,b,c,d⟩;show eD st.next<=k
       omega
     ·show CV left sent (eD st.next) (BQ st p).1 (BQ st p).2.1
      unfold BQ;rw[hsz,hup];exact hg3
     ·show dW (fK st.m st.next none st.status)=false
      unfold fK;rw[aP (fun e=>hns e.symm)];exact h.sc
    obtain ⟨i1,i2,⟨g',i3,i4⟩,i5,i6,i7,i8,i9,ia,ib,ic⟩:=Rx.Am T f h1 (by show N-eD st.next<f;omega);refine ⟨i1,i2,⟨_,rfl,?_⟩,fun k hk=>i5 k ?_,i6,i7,i8,i9,ia,ib,ic⟩
    ·rw[i4,i3];have:(BQ st p).2.2=g:=by unfold BQ;rw[hsz];exact hg2
     rw[this];show rW aD left (eD st.next)++g'=_
     rw[hup,hg,oJ]
    ·rcases hk with hk|hk
     ·exact .inl (by show k<eD st.next;omega)
     ·by_cases e:k=st.next
      ·exact .inl (by show k<eD st.next;omega)
      ·refine .inr ?_;show dW (fK st.m st.next none k)=true
       unfold fK;rw[aP e];exact hk
   ·rw[aP hc];refine ⟨h,?_,⟨[],rfl,by simp⟩,fun k hk=>hk,rfl,rfl,rfl,rfl,rfl,rfl,rfl⟩;rw[hm];simpa[dW] using hc
theorem jF.goes (T:vD aD N pu left sent) {st:Rc} (h:jF aD N pu left sent st) (c:Cf) (now:Int):jF aD N pu left sent (aM c st now)/\(aM c st now).next=st.next/\(aM c st now).m=st.m:=by
 have hc:jF aD N pu left sent (gP st now):=⟨⟨h.nx,h.m,h.op,h.s1,h.s2,h.sc,h.h1,h.h2,h.tr⟩,h.nc,h.tn⟩;unfold aM;split
 ·exact ⟨hc,rfl,rfl⟩
 ·rename_i hn;have hro:(gP st now).ro=true:=by
   cases hh:st.ro with
   |true=>exact hh
   |false=>exact absurd (.inl hh) hn
  have hN:=T.n;have ht:=hc.tn hro;have ht2:=hc.tr hro;have GJ:=hc.h2;obtain ⟨a,b,d,_⟩:=uz (m:=(gP st now).m) hN (fun k hk=>hc.none_ hk) 1024 (gP st now).gW (by omega) (by omega);have h2:jF aD N pu left sent {gP st now with status:=lN (gP st now).m 1024 (gP st now).gW,due:=true,ro:=false}:=
   ⟨⟨hc.nx,hc.m,hc.op,by dsimp only;omega,b,d,hc.h1,hc.h2,fun e=>by cases e⟩,hc.nc,fun e=>by cases e⟩
  unfold rT;dsimp only;split
  ·exact ⟨⟨⟨h2.nx,h2.m,h2.op,h2.s1,h2.s2,h2.sc,h2.h1,h2.h2,fun _=>aL⟩,h2.nc,fun _=>zD ht ht2⟩,rfl,rfl⟩
  ·exact ⟨h2,rfl,rfl⟩
theorem jF.ends {st:Rc} (h:Rx aD N pu left sent st) (hN:N<=511) (hnc:dW (st.m st.next)=false) (c:Cf):jF aD N pu left sent (rV c st)/\(rV c st).next=st.next/\(rV c st).m=st.m:=by
 have hnx:=h.nx;have hh:=h.h2;have TB:=h.h1;have key:∀s1:Rc,Rx aD N pu left sent s1->s1.m=st.m->s1.next=st.next->s1.high=st.high->(s1.ro=true->s1.next<s1.gW)->
  jF aD N pu left sent (if s1.ro=false/\s1.high≠s1.next then jO c s1 else s1)/\(if s1.ro=false/\s1.high≠s1.next then jO c s1 else s1).next=st.next/\(if s1.ro=false/\s1.high≠s1.next then jO c s1 else s1).m=st.m:=by
  intro s1 hs hm hn hg ht;split
  ·rename_i hc;refine ⟨⟨⟨hs.nx,hs.m,hs.op,hs.s1,hs.s2,hs.sc,hs.h1,hs.h2,fun _=>aL⟩,?_,fun _=> ?_⟩,hn,hm⟩
   ·show dW (s1.m s1.next)=false
    rw[hm,hn];exact hnc
   ·show s1.next<s1.high
    have:=hs.h1;have:=hc.2;omega
  ·exact ⟨⟨hs,by rw[hm,hn];exact hnc,ht⟩,hn,hm⟩
 unfold rV;dsimp only;split
 ·exact key _ ⟨h.nx,h.m,h.op,h.s1,h.s2,h.sc,h.h1,h.h2,fun e=>by cases e⟩ rfl rfl rfl (fun e=>by cases e)
 ·rename_i hc;refine key st h rfl rfl rfl fun hr=> ?_
  have ht:=h.tr hr;unfold bZ at hc;omega
theorem jF.Oh (T:vD aD N pu left sent) {st:Rc} (h:jF aD N pu left sent st) (c:Cf) {k:Nat} (hk:k<N) {a:jY} (ha:Piece (pu k) a):
 jF aD N pu left sent (iM c st a).1/\(iM c st a).2.2=0/\(∃g,(iM c st a).2.1=g/\rW aD left (iM c st a).1.next=rW aD left st.next++g)/\(∀j,Has st j->Has (iM c st a).1 j)/\(a.off=0->BP a=true->Has (iM c st a).1 k):=by
 have hN:=T.n;have hsn:a.sn=k:=by rw[ha.sn,T.sn k hk]
 have hnx:=h.nx;unfold iM;rw[hsn];by_cases hw:512<=bZ st k
 ·rw[bD hw];refine ⟨⟨⟨h.nx,h.m,h.op,h.s1,h.s2,h.sc,h.h1,h.h2,h.tr⟩,h.nc,h.tn⟩,rfl,⟨[],rfl,by simp⟩,fun j hj=>hj,fun _ _=> .inl ?_⟩;show k<st.next
  unfold bZ at hw;omega
 ·rw[aP hw];have hkn:st.next<=k:=by unfold bZ at hw;omega
  have Hz:kP (pu k) (d9 st k):=by
   unfold d9;cases hm:st.m k with
   |none=>exact kP.new (T.size_pos hk)
   |some p=>exact (h.m k p hm).2.2.2
  rw[Hz.fits ha,aP (by simp)];have htk:=Hz.take ha;have hhi:(if bZ st st.high<=bZ st k then eD k else st.high)=max st.high (k+1):=by
   have:=h.h1;have:=h.h2;unfold bZ eD;split<;>omega
  have hhas:∀j,dW (st.m j)=true->dW (fK st.m k (some (eF (d9 st k) a)) j)=true:=by
   intro j hj;unfold fK;split
   ·rename_i e;subst e;cases hm:st.m j with
    |none=>rw[hm] at hj;cases hj
    |some p=>
     rw[hm] at hj;have e2:d9 st j=p:=by unfold d9;rw[hm];rfl
     rw[e2] at Hz ⊢;exact Hz.stays ha hj
   ·exact hj
  have hs0:∀(j:Nat) (q:Sp),fK st.m k (some (eF (d9 st k) a)) j=some q->st.next<=j/\j<N/\j<max st.high (k+1)/\kP (pu j) q:=by
   intro j q hj;unfold fK at hj;split at hj
   ·rename_i e;cases hj;subst e;exact ⟨hkn,hk,by omega,htk⟩
   ·obtain ⟨p1,p2,p3,p4⟩:=h.m j q hj;exact ⟨p1,p2,by omega,p4⟩
  have hnone:∀j,N<=j->fK st.m k (some (eF (d9 st k) a)) j=none:=fun j hj=>by
   cases hm:fK st.m k (some (eF (d9 st k) a)) j with
   |none=>rfl
   |some q=>have:=(hs0 j q hm).2.1;omega
  have hs1:=h.s1;have hs2:=h.s2;have TB:=h.h1;have GJ:=h.h2;obtain ⟨f1,f2,f3,_⟩:=uz hN hnone 1024 st.status hs2 (by omega);have hst:iD st a (d9 st k)= {st with m:=fK st.m k (some (eF (d9 st k) a)),due:=st.due||a.po,high:=max st.high (k+1),status:=lN (fK st.m k (some (eF (d9 st k) a))) 1024 st.status}:=by
   unfold iD;dsimp only;rw[hsn];have:(if bZ {st with m:=fK st.m k (some (eF (d9 st k) a)),due:=st.due||a.po} st.high<=bZ {st with m:=fK st.m k (some (eF (d9 st k) a)),due:=st.due||a.po} k then eD k else st.high)=max st.high (k+1):=hhi;rw[this]
  have hR:Rx aD N pu left sent (iD st a (d9 st k)):=by
   rw[hst];exact ⟨h.nx,hs0,h.op,by dsimp only;omega,f2,f3,by dsimp only;omega,by dsimp only;omega,fun e=>Nat.le_trans (h.tr e) (by dsimp only;omega)⟩
  have hnx2:(iD st a (d9 st k)).next=st.next:=by rw[hst]
  obtain ⟨d1,d2,⟨g,d3,d4⟩,d5,_⟩:=hR.Am T 1024 (by rw[hnx2];omega);obtain ⟨e1,e2,e3⟩:=jF.ends d1 hN d2 c;dsimp only;have hH:∀j,Has (bK 1024 (iD st a (d9 st k))).1 j->Has (rV c (bK 1024 (iD st a (d9 st k))).1) j:=fun j hj=>by
   unfold Has;rw[e2,e3];exact hj
  refine ⟨e1,rfl,⟨g,d3,by rw[e2,d4,hnx2]⟩,fun j hj=>hH j (d5 j ?_),fun h0 hf=>hH k (d5 k (.inr ?_))⟩
  ·rcases hj with hj|hj
   ·exact .inl (by rw[hnx2];exact hj)
   ·refine .inr ?_;rw[hst];exact hhas j hj
  ·rw[hst];show dW (fK st.m k _ k)=true
   unfold fK;rw[bD rfl];exact Hz.full ha h0 hf
end
def H7 (a b:Nk):Prop:=a.sn<b.sn\/(a.sn=b.sn/\a.part=true/\b.part=true/\a.lt<b.fr)
structure BU (aA:Nat) (n:Nk):Prop where
 s0:0<=n.sn
 s1:n.sn<aA
 p:n.part=true->0<=n.fr/\n.fr<=n.lt/\n.lt<=32767
 q:n.part=false->n.fr=0/\n.lt=0
theorem BU.more {a b:Nat} {n:Nk} (h:BU a n) (hab:a<=b):BU b n:=⟨h.s0,by have:=h.s1;omega,h.p,h.q⟩
theorem UC {aA:Nat} (ha:aA<=512):∀l:List Nk,(∀n∈l,BU aA n)->l.Pairwise H7->oM aA l=true:=by
 have hal:∀n,BU aA n->iq aA n=true:=fun n h=>by
  have h0:=h.s0;have h1:=h.s1;unfold iq kr;simp only[gD,gY];refine ⟨⟨h0,by omega⟩,⟨by omega,by omega⟩,?_⟩;cases hp:n.part with
  |true=>
   obtain ⟨a,b,c⟩:=h.p hp;simp[a,b,c]
  |false=>
   obtain ⟨a,b⟩:=h.q hp;simp[a,b]
 intro l
 induction l with
 |nil=>intro _ _;rfl
 |cons a r ih=>
  intro hk hp;cases r with
  |nil=>exact hal a (hk a (by simp))
  |cons b t=>
   rw[List.pairwise_cons] at hp;have h1:=hk a (by simp);have h2:=hk b (by simp);have hab:=hp.1 b (by simp);have hih:=ih (fun n hn=>hk n (by simp[hn])) hp.2;have hf:jL aA a b=true:=by
    have:=h1.s0;have:=h1.s1;have:=h2.s0;have:=h2.s1;unfold jL kr;rcases hab with h|⟨e1,e2,e3,e4⟩
    ·have:(aA-b.sn)%1024<((aA:Int)-a.sn)%1024:=by omega
     simp[this]
    ·simp[e1,e2,e3,e4]
   rw[oM,hal a h1,hf,hih];rfl
theorem Ms {aA:Nat} {l:List Nk} (ha:aA<=512) (hl:l.length<=512) (h1:∀n∈l,BU aA n) (h2:l.Pairwise H7):bO aA l=true:=by
 unfold bO;rw[UC ha l h1 h2];simp;omega
theorem yJ:∀(l:List Fl) (i fr:Nat),fr<=i->(∀r∈dS l i fr,fr<=r.1/\r.1<=r.2/\r.2<i+l.length)/\(dS l i fr).Pairwise (fun a b=>a.2<b.1)
 | [],i,fr,h=>by
  unfold dS;split
  ·refine ⟨fun r hr=> ?_,by simp⟩;simp at hr;subst hr;dsimp only[List.length_nil];omega
  ·exact ⟨fun r hr=>by simp at hr,by simp⟩
 |f::t,i,fr,h=>by
  unfold dS;split
  ·obtain ⟨a,b⟩:=yJ t (i+1) fr (by omega);refine ⟨fun r hr=> ?_,b⟩;have:=a r hr;rw[jh];omega
  ·obtain ⟨a,b⟩:=yJ t (i+1) (i+1) (by omega);split
   ·refine ⟨fun r hr=> ?_,?_⟩
    ·simp only[nE] at hr;rw[jh];rcases hr with rfl|hr
     ·dsimp only;omega
     ·have:=a r hr;omega
    ·rw[List.pairwise_cons];refine ⟨fun r hr=> ?_,b⟩;have:=a r hr;dsimp only;omega
   ·refine ⟨fun r hr=> ?_,b⟩;have:=a r hr;rw[jh];omega
theorem yK:∀(l:List Fl) (i fr:Nat),(fr<i\/∃(j:Nat) (f:Fl),l[j]? =some f/\f.1=false)->fr<=i->dS l i fr≠ []
 | [],i,fr,h,hf=>by
  unfold dS;rcases h with h|⟨j,f,hj,_⟩
  ·rw[bD h];simp
  ·simp at hj
 |g::t,i,fr,h,hf=>by
  unfold dS;split
  ·exact yK t (i+1) fr (.inl (by omega)) (by omega)
  ·rename_i hg;split
   ·simp
   ·refine yK t (i+1) (i+1) ?_ (aL);rcases h with h|⟨j,f,hj,hff⟩
    ·omega
    ·cases j with
     |zero=>simp at hj;subst hj;exact absurd hff hg
     |succ j=>exact .inr ⟨j,f,by simpa using hj,hff⟩
theorem X8 {l:List Fl} (h:om l≠l.length):∃(j:Nat) (f:Fl),l[j]? =some f/\f.1=false:=by
 refine G7 fun hn=>h (oq l fun i hi=> ?_)
 rw[jZ (gX hi)];cases hf:l[i].1 with
 |true=>rfl
 |false=>exact absurd ⟨i,l[i],gX hi,hf⟩ hn
def Mt (size:Nat) (n:Nk):Prop:=(bH n).1<=min (bH n).2 (size-1)
theorem I9 {k:Nat} {l:List Fl} (h:k<=l.length):je k l=l:=by
 unfold je;rw[show k-l.length=0 by omega];simp
theorem BV {x:Ou} {sn:Nat} {o:Option Sp} (hpos:1<=au x) (hsz:au x<=32767) (ho:∀p,o=some p->kP x p) (hc:dW o=false):
 (∀n∈jf sn o,n.sn=sn/\BU (sn+1) n)/\(jf sn o).Pairwise H7/\∃n∈jf sn o,Mt (au x) n:=by
 cases o with
 |none=>
  refine ⟨fun n hn=> ?_,by simp[jf],⟨sn,false,0,0⟩,by simp[jf],by simp[Mt,bH]⟩;simp only[jf,nC] at hn;subst hn;exact ⟨rfl,by dsimp only;omega,by dsimp only;omega,(fun h=>by cases h),fun _=>⟨rfl,rfl⟩⟩
 |some p=>
  have hs:=ho p rfl;obtain ⟨g1,g2⟩:=yJ p.fl 0 0 (aL);have hlen:p.fl.length<=au x:=by rcases hs.size with ⟨_,h⟩|⟨_,h⟩<;>omega
  have m1:∀n∈(dS p.fl 0 0).map (eT sn),n.sn=sn/\BU (sn+1) n/\n.part=true/\n.lt<p.fl.length:=fun n hn=>by
   rw[List.mem_map] at hn;obtain ⟨r,hr,rfl⟩:=hn;obtain ⟨a,b,c⟩:=g1 r hr;refine ⟨rfl,⟨by simp only[eT];omega,by simp only[eT];omega,fun _=> ?_,fun h=>by cases h⟩,rfl,by simp only[eT];omega⟩;simp only[eT];omega
  have m2:((dS p.fl 0 0).map (eT sn)).Pairwise H7:=by
   rw[List.pairwise_map];refine g2.imp fun {a b} hab=> .inr ⟨rfl,rfl,rfl,?_⟩
   simp only[eT];omega
  rcases hs.size with ⟨e,hl⟩|⟨e,hl⟩
  ·have hE:jf sn (some p)=(dS p.fl 0 0).map (eT sn)++ [⟨sn,true,p.fl.length,32767⟩]:=by simp only[jf,e]
   rw[hE];refine ⟨fun n hn=> ?_,?_,⟨sn,true,p.fl.length,32767⟩,by simp,?_⟩
   ·rw[iH] at hn;rcases hn with hn|hn
    ·exact ⟨(m1 n hn).1,(m1 n hn).2.1⟩
    ·simp only[nC] at hn;subst hn;refine ⟨rfl,by dsimp only;omega,by dsimp only;omega,fun _=> ?_,fun h=>by cases h⟩;dsimp only;omega
   ·rw[List.pairwise_append];refine ⟨m2,by simp,fun a ha b hb=> ?_⟩;simp only[nC] at hb;subst hb;obtain ⟨q1,_,q3,q4⟩:=m1 a ha;exact .inr ⟨q1,q3,rfl,q4⟩
   ·simp only[Mt,bH,kE];omega
  ·have hE:jf sn (some p)=(dS (je (au x) p.fl) 0 0).map (eT sn):=by simp only[jf,e]
   rw[hE,I9 (by omega)];refine ⟨fun n hn=>⟨(m1 n hn).1,(m1 n hn).2.1⟩,m2,?_⟩;have hc2:fP p=false:=hc;unfold fP at hc2;rw[e] at hc2;dsimp only at hc2;have hne:om p.fl≠p.fl.length:=fun h=>by
    rw[iK (show 0<au x by omega),iK (show om p.fl=au x by omega)] at hc2;cases hc2
   have hex:=yK p.fl 0 0 (.inr (X8 hne)) (aL);obtain ⟨r,hr⟩:=List.exists_mem_of_ne_nil _ hex;obtain ⟨a,b,c⟩:=g1 r hr;refine ⟨eT sn r,List.mem_map.2 ⟨r,hr,rfl⟩,?_⟩;simp only[Mt,bH,eT,kE];omega
theorem Mv (l:List (Nat × Nat)) (x:Nat × Nat):gN l x≠ []:=by
 unfold gN;split
 ·simp
 ·split<;>simp
theorem Ja (size:Nat):∀(l:List Nk) (a:List (Nat × Nat)),a≠ []->l.foldl (eO size) a≠ []
 | [],a,h=>h
 |n::r,a,h=>by
  rw[List.foldl_cons];refine Ja size r _ ?_;unfold eO;split
  ·exact h
  ·exact Mv _ _
theorem Jb (size:Nat):∀(l:List Nk) (a:List (Nat × Nat)),(∃n∈l,Mt size n)->l.foldl (eO size) a≠ []
 | [],_,h=>by obtain ⟨n,hn,_⟩:=h;simp at hn
 |m::r,a,h=>by
  rw[List.foldl_cons];obtain ⟨n,hn,ha⟩:=h;rcases nE.1 hn with rfl|hn
  ·refine Ja size r _ ?_;unfold eO Mt at*;rw[aP (by omega)];exact Mv _ _
  ·exact Jb size r _ ⟨n,hn,ha⟩
section
variable {aD:List (List UInt8)} {N:Nat} {pu:Nat->Ou} {left:Nat->List (List UInt8)} {sent:Nat->Nat}
structure UD (N:Nat) (pu:Nat->Ou) (st:Rc) (aA:Nat) (l:List Nk):Prop where
 len:l.length<=512
 ok:∀n∈l,BU aA n
 pw:l.Pairwise H7
 cov:∀k,k<aA->Has st k\/∃n∈l,n.sn=(k:Int)/\Mt (au (pu k)) n
theorem BZ (T:vD aD N pu left sent) {st:Rc} (h:jF aD N pu left sent st):∀(f sn:Nat) (l:List Nk),st.next<=sn->sn<=st.status->st.status-sn<f->UD N pu st sn l->
 sn<=(pI st f sn l).1/\(pI st f sn l).1<=st.status/\UD N pu st (pI st f sn l).1 (pI st f sn l).2
 |0,sn,l,_,_,hf,_=>by omega
 |f+1,sn,l,h1,h2,hf,hl=>by
  unfold pI;by_cases he:sn=st.status
  ·rw[bD he];exact ⟨by omega,aL,he ▸ hl⟩
  ·rw[aP he];have hN:=T.n;have hs2:=h.s2;have hup:eD sn=sn+1:=by unfold eD;omega
   have hlt:sn<N:=by omega
   by_cases hc:dW (st.m sn)=true
   ·rw[bD hc,hup];obtain ⟨a,b,c⟩:=BZ T h f (sn+1) l (by omega) (by omega) (by omega) ⟨hl.len,fun n hn=>(hl.ok n hn).more (by omega),hl.pw,fun k hk=>by
     by_cases e:k=sn
     ·exact .inl (.inr (by rw[e];exact hc))
     ·exact hl.cov k (by omega)⟩
    exact ⟨by omega,b,c⟩
   ·rw[aP hc];split
    ·exact ⟨aL,by dsimp only;omega,hl⟩
    ·rename_i hroom;obtain ⟨e1,e2,e3⟩:=BV (x:=pu sn) (sn:=sn) (o:=st.m sn) (T.size_pos hlt) (T.tot sn hlt) (fun p hp=>(h.m sn p hp).2.2.2) (by simpa using hc);rw[hup];obtain ⟨a,b,c⟩:=BZ T h f (sn+1) (l++jf sn (st.m sn)) (by omega) (by omega) (by omega) ⟨by rw[l8];omega,fun n hn=>by
      rcases iH.1 hn with hn|hn
      ·exact (hl.ok n hn).more (by omega)
      ·exact (e1 n hn).2,by
      rw[List.pairwise_append];refine ⟨hl.pw,e2,fun x hx y hy=> .inl ?_⟩;have:=(hl.ok x hx).s1;have:=(e1 y hy).1;omega,fun k hk=>by
      by_cases e:k=sn
      ·subst e;obtain ⟨n,hn,ha⟩:=e3;exact .inr ⟨n,iH.2 (.inr hn),(e1 n hn).1,ha⟩
      ·rcases hl.cov k (by omega) with hh|⟨n,hn,ha⟩
       ·exact .inl hh
       ·exact .inr ⟨n,iH.2 (.inl hn),ha⟩⟩
     exact ⟨by omega,b,c⟩
theorem jF.report (T:vD aD N pu left sent) {st:Rc} (h:jF aD N pu left sent st):st.next<=(iR st).1/\(iR st).1<=st.status/\UD N pu st (iR st).1 (iR st).2:=by
 have hN:=T.n;have h1:=h.s1;have h2:=h.s2;exact BZ T h 1024 st.next [] (aL) h1 (by omega) ⟨by simp,by simp,by simp,fun k hk=> .inl (.inl hk)⟩
end
end Go.Proofs.YtbhiklnljiehiaaGreat
