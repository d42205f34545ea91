/- status.Encode. -/
import Derived.Test.YtbhiklnljiehiaaGreatM3ay
import Derived.Deep.RegionWith
set_option maxHeartbeats 4000000
set_option maxRecDepth 100000
namespace Go.Proofs.YtbhiklnljiehiaaGreat
open RowKit Shelf Tryz
attribute [local go_sem] Oper.semAt_some
theorem Ie {aA:Int} {x:Nk} (h:iq aA x=true):(0<=x.sn/\x.sn<1024)/\(0<=x.fr/\x.fr<=32767/\0<=x.lt/\x.lt<=32767):=by
 unfold iq at h;simp only[gD,gY] at h;obtain ⟨h1,_,h2⟩:=h;refine ⟨h1,?_⟩;split at h2
 ·simp only[gD,gY] at h2;omega
 ·simp only[gD,gY] at h2;omega
theorem MV {aA:Int} {l:List Nk} (h:bO aA l=true) {k:Nat} {x:Nk} (hx:l[k]? =some x):iq aA x=true:=by
 unfold bO at h;simp only[gD] at h;exact ((lD aA l).1 h.2.2 k x hx).1
theorem Ck (l:List Nk):∀k,(aC (lT l k)).length<=42*k
 |0=>by simp[lT,aC]
 |k+1=>by
  have ih:=Ck l k;rw[lT,iN,l8];have:(aC (FD (decide (k+1<l.length)) (l[k]?.getD nk0))).length<=42:=by
   unfold FD;rw[iN,l8];split<;>simp[aC]
  omega
section
variable (w:World)
theorem MW (aA:Int) (A:Option Addr) (n c:Nat) (l:List Nk) (h:dD w A n c l) (hv:bO aA l=false):
 Calls prog 83 #[.agg #[aA,.slice A n c]] w fun e w'=>e= .returned (.tuple #[.slice none 0 0,.int .i64 2])/\Below w w w':=by
 have hB:Below w w (w.alloc (.cells #[aA,.slice A n c] 133)):=(bS _ w).alloc (aL) _;have hva:=nL _ aA A n c l (h.alloc (.cells #[aA,.slice A n c] 133));rw[hv] at hva;have HB:=ah hB;have HV:=ah hva;clear hB hva hv h;go_enter func83,ntmps83;go_wp2_with (go_at_call 119;refine HV.out.mono ?_;rintro e1 w1 ⟨rfl,hb1⟩)
 go_ret2
 exact ⟨rfl,HB.out.trans (hb1.mono HB.out.size)⟩
theorem Pq (aA:Nat) (A:Option Addr) (n c:Nat) (l:List Nk) (h:dD w A n c l) (hv:bO (aA:Int) l=true):
 Calls prog 83 #[.agg #[.int .i64 (aA:Int),.slice A n c]] w (vY w 5 w (qB aA l).length (dz (qB aA l)) 0):=by
 have hlen:=h.len;have hcap:=h.cap;have hmx:=h.mx;have hva:=nL _ (aA:Int) A n c l (h.alloc (.cells #[.int .i64 (aA:Int),.slice A n c] 133));rw[hv] at hva;have hv2:=hv;unfold bO at hv2;simp only[gD,gY] at hv2;have arB:aA<=1023:=by have:=hv2.1.2;omega
 have afX:n<=512:=by have:=hv2.2.1;omega
 have hB:Below w w (w.alloc (.cells #[.int .i64 (aA:Int),.slice A n c] 133)):=(bS _ w).alloc (aL) _;have b0:=av.new w 133 #[.int .i64 (aA:Int),.slice A n c];have hN0:=h.alloc (.cells #[.int .i64 (aA:Int),.slice A n c] 133);have HB:=ah hB;have HV:=ah hva;have HL:=ah hlen;have QI:=ah hv;clear hB hva hv hv2 hlen h;go_enter func83,ntmps83;go_wp2_with fail;refine HV.out.mono ?_;rintro e1 w1 ⟨rfl,hb1⟩;have hbw:Below w w w1:=HB.out.trans (hb1.mono HB.out.size)
 replace b0:=b0.below hb1 b0.lt
 have hN1:=hN0.below hb1;have hlt1:=b0.lt;clear HV hb1 HB hN0;go_wp2_with fail;have hW2:tV (w1.alloc (.cells #[.slice none 0 0,.int .i64 0] 202)) w1 w1.heap.size []:=⟨aL,_,av.new w1 _ _,jl _ _ _ _⟩;have hbw2:=hbw.alloc hbw.size (.cells #[.slice none 0 0,.int .i64 0] 202)
 replace b0:=b0.alloc (.cells #[.slice none 0 0,.int .i64 0] 202)
 have Yu:=hN1.alloc (.cells #[.slice none 0 0,.int .i64 0] 202);obtain ⟨g,hg⟩:∃g,g=w1.heap.size:=⟨_,rfl⟩
 have hgl:w.heap.size<g:=by omega
 have hNb:∀ad,A=some ad->0<n->ad.block<g:=fun ad e h0=>by
  obtain ⟨Ew,e',hb',_⟩:=hN1.at_ h0;rw[e] at e';cases e';omega
 rw[<-hg] at hW2 ⊢;generalize w1.alloc (.cells #[.slice none 0 0,.int .i64 0] 202)=w2 at*;clear hbw hlt1 hg hN1;have c00:=b0.cell 0;have c01:=b0.cell 1;simp at c00 c01;have hwr:IntKind.u64.wrap (aA:Int)=aA:=by rw[Cz];omega
 have hdn:decide ((0:Int)<n)=decide (0<n):=by rw[mr];simp
 refine wp_region_still_tail 11 (by kernel_rfl) (by kernel_rfl) ?_;simp only[kJ,nu,pV,ny]
 still_step
 still_step
 still_step
 still_step
 still_step
 still_step
 still_step
 still_step
 still_step
 still_call (Cj _ _)
 still_step
 refine oK ?_;change wpList _ _ _ _ _ w2.drew
 replace hW2:tV w2.drew g g []:=hW2
 replace hbw2:=hbw2.drew
 replace b0:=b0.drew
 have hN3:=Yu.below ((bS _ w2).drew);generalize w2.drew=w3 at*;clear c00 c01 hwr hdn Yu;have hput:=lg g g w3 [] [(0,4),(aA,10),((decide (0<n)).toNat,1)] (w3.alloc (.cells (dA [(0,4),(aA,10),((decide (0<n)).toNat,1)]).toArray 206)) (hW2.alloc _) (by simp) (by simp) (av.new _ _ _) (by
  intro x hx;simp only[nE,Dp,uQ] at hx;have hb:∀b:Bool,b.toNat<=1:=fun b=>by cases b<;>simp
  rcases hx with rfl|rfl|rfl
  ·exact ⟨by omega,by decide,by omega⟩
  ·exact ⟨by omega,by simp;omega,by omega⟩
  ·exact ⟨by omega,by have:=hb (decide (0<n));simp;omega,by have:=hb (decide (0<n));omega⟩)
 simp only[dA,jh,gQ,jA,Nat.reduceAdd,pY] at hput;have qL:=ah hput;clear hput;go_wp2_with fail;refine qL.out.mono ?_;rintro e4 w4 ⟨rfl,hW4,hk4⟩;have hg3:g<w3.heap.size:=by obtain ⟨_,v,hb,_⟩:=hW2;exact hb.lt
 clear qL hW2;have hB4:=hk4.below (B:=g) (fun _ _ h=>h.1) (by simp;omega);have XU:=(hbw2.alloc hbw2.size _).trans (hB4.mono (by omega));have b04:=(b0.alloc (.cells #[.int .u64 0,.int .i64 4,.int .u64 aA,.int .i64 10,.int .u64 (decide (0<n)).toNat,.int .i64 1] 206)).below hB4 (by omega);have hN4:dD w4 A n c l:=by
  have h1:=hN3.alloc (.cells #[.int .u64 0,.int .i64 4,.int .u64 aA,.int .i64 10,.int .u64 (decide (0<n)).toNat,.int .i64 1] 206);exact h1.U0 hB4 hNb
 clear hB4 hbw2 hk4 b0 hN3;have c01:=b04.cell 1;simp at c01;obtain ⟨hd,hhd⟩:∃hd:List (Nat × Nat),hd= [(0,4),(aA,10),((decide (0<n)).toNat,1)]:=⟨_,rfl⟩
 rw[<-hhd] at hW4;have hlH:(aC hd).length=15:=by rw[hhd];simp[aC]
 have henc:qB aA l=pack (aC hd++aC (lT l n)):=by unfold qB;rw[HL.out,hhd,iN]
 have HLH:=ah hlH;have HE:=ah henc;have B04:=ah b04;have HN4:=ah hN4;generalize hEE:qB aA l=EE at*;clear hlH henc hhd hEE b04 hN4;go_wp2
 go_loopw [26] (fun i wr=>∃k:Nat,k<=n/\i= .int .i64 k/\tV wr g g (aC hd++aC (lT l k))/\Kept (Mw g g) w4 wr) (fun i _=>n-(intOf i).toNat)
 case atStart=>exact ⟨0,eH _,rfl,by simpa[lT,aC] using hW4,Kept.refl _ _⟩
 case round=>
  obtain ⟨k,hk,rfl,Ur,ZX⟩:=hrel;have hgr:g<wr.heap.size:=by obtain ⟨_,v,hb,_⟩:=Ur;exact hb.lt
  have hg4:g<w4.heap.size:=by obtain ⟨_,v,hb,_⟩:=hW4;exact hb.lt
  have OL:=ZX.below (B:=g) (fun _ _ h=>h.1) (by omega);have OM:=XU.trans (OL.mono (by omega));by_cases hlt:k<n
  ·obtain ⟨ad,x,rfl,hx,hbk,k0,k1,k2,k3⟩:=(HN4.out.U0 OL hNb).get hlt;obtain ⟨⟨hs0,hs1⟩,hx2,hx3,hx4,hx5⟩:=Ie (MV QI.out hx);have hsu:lT l (k+1)=lT l k++FD (decide (k+1<n)) x:=by rw[lT,hx,HL.out];rfl
   obtain ⟨xs,xp,xf,xl⟩:=x;dsimp only at k0 k1 k2 k3 hs0 hs1 hx2 hx3 hx4 hx5;obtain ⟨xs,rfl⟩:=GZ hs0;obtain ⟨xf,rfl⟩:=GZ hx2;obtain ⟨xl,rfl⟩:=GZ hx4;have hlk:(aC hd++aC (lT l k)).length<=50000:=by
    rw[l8,HLH.out];have:=Ck l k;omega
   have KC:aC hd++aC (lT l (k+1))=(aC hd++aC (lT l k))++aC ([(xs,10),((decide (k+1<n)).toNat,1),(xp.toNat,1)]++(if xp=true then [(xf,15),(xl,15)] else [])):=by
    rw[hsu,iN];simp[FD]
   obtain ⟨FN,ab7⟩:∃FN,aC hd++aC (lT l (k+1))=FN:=⟨_,rfl⟩
   rw[ab7] at KC;have afZ:=ah ab7;clear ab7;generalize aC hd++aC (lT l k)=FK at*;have hz0:av (wr.alloc (.cells #[.int .i64 (xs:Int),.bool xp,.int .i64 (xf:Int),.int .i64 (xl:Int)] 197)) wr 197 #[.int .i64 (xs:Int),.bool xp,.int .i64 (xf:Int),.int .i64 (xl:Int)]:=av.new wr _ _;have ZW:=Ur.alloc (.cells #[.int .i64 (xs:Int),.bool xp,.int .i64 (xf:Int),.int .i64 (xl:Int)] 197);have TI:=ZX.alloc (.cells #[.int .i64 (xs:Int),.bool xp,.int .i64 (xf:Int),.int .i64 (xl:Int)] 197);have hb5:=(B04.out.below OL (by omega)).alloc (.cells #[.int .i64 (xs:Int),.bool xp,.int .i64 (xf:Int),.int .i64 (xl:Int)] 197);have Xf:=ah KC;have HX:=ah hx;have HW5:=ah ZW;have zw:=ah TI;have On:=ah hb5;have HZ0:=ah hz0;have HZL:=ah (hz0.lt);clear hsu KC hx Ur ZX ZW TI hz0 hb5 OL;go_wp2_with fail;obtain ⟨bx,hbx⟩:∃b,b=wr.heap.size:=⟨_,rfl⟩
   have HZB:=ah (show wr.heap.size<=bx by omega);rw[<-hbx] at HZ0 HZL ⊢;generalize wr.alloc (.cells #[.int .i64 (xs:Int),.bool xp,.int .i64 (xf:Int),.int .i64 (xl:Int)] 197)=w5 at*;have z0:=HZ0.out.cell 0;have z1:=HZ0.out.cell 1;have z2:=HZ0.out.cell 2;have z3:=HZ0.out.cell 3;have z4:=On.out.cell 1;simp at z0 z1 z2 z3 z4;clear k0 k1 k2 k3 c01 hbx;have hwr:IntKind.u64.wrap (xs:Int)=xs:=by rw[Cz];omega
   have hw1:IntKind.i64.wrap ((k:Int)+1)=(k:Int)+1:=iG _ (by omega);have hdn:decide ((k:Int)+1<(n:Int))=decide (k+1<n):=by rw[mr];simp;omega
   refine wp_region_still_tail 16 (by kernel_rfl) (by kernel_rfl) ?_;simp only[kJ,nu,pV,ny]
   still_step
   still_step
   still_step
   still_step
   still_step
   still_step
   still_step
   still_step
   still_step
   still_step
   still_call (Cj _ _)
   still_step
   still_step
   still_step
   still_call (Cj _ _)
   still_step
   refine oK ?_;change wpList _ _ _ _ _ w5.drew;clear z0 z1 z2 z3 z4 hwr;have QM:=HZ0.out.drew;have hW6:tV w5.drew g g FK:=HW5.out;have hK6:=zw.out.drew;have Sb:=ah QM;have zu:=ah hK6;have HW6:=ah hW6;have af0:=ah (show bx<w5.drew.heap.size from HZL.out);clear HZ0 HW5 zw On HZL QM hW6 hK6;generalize w5.drew=w6 at*
   try simp only[hw1,hdn]
   obtain ⟨d,hd0⟩:∃d,d=decide (k+1<n):=⟨_,rfl⟩
   have Yv:=ah (show FN=FK++aC ([(xs,10),(d.toNat,1),(xp.toNat,1)]++(if xp=true then [(xf,15),(xl,15)] else [])) by rw[hd0];exact Xf.out);rw[<-hd0];clear hw1 hdn hd0 Xf;have hbt:∀b:Bool,b.toNat<=1:=fun b=>by cases b<;>simp
   have hput:=lg g g w6 FK [(xs,10),(d.toNat,1),(xp.toNat,1)] (w6.alloc (.cells (dA [(xs,10),(d.toNat,1),(xp.toNat,1)]).toArray 206)) (HW6.out.alloc _) (by omega) (by simp) (av.new _ _ _) (by
    intro x hx;simp only[nE,Dp,uQ] at hx;rcases hx with rfl|rfl|rfl
    ·exact ⟨by omega,by simp;omega,by omega⟩
    ·exact ⟨by omega,by have:=hbt d;simp;omega,by have:=hbt d;omega⟩
    ·exact ⟨by omega,by have:=hbt xp;simp;omega,by have:=hbt xp;omega⟩)
   simp only[dA,jh,gQ,jA,Nat.reduceAdd] at hput;have qL:=ah hput;clear hput;go_wp2_with fail;refine qL.out.mono ?_;rintro e7 w7 ⟨rfl,Uq,DW⟩;have XV:=DW.below (B:=g) (fun _ _ h=>h.1) (by have:=af0.out;have:=HZB.out;simp;omega);have UI:=(zu.out.alloc (.cells #[.int .u64 xs,.int .i64 10,.int .u64 d.toNat,.int .i64 1,.int .u64 xp.toNat,.int .i64 1] 206)).trans DW;have hz7:av w7 bx 197 #[.int .i64 (xs:Int),.bool xp,.int .i64 (xf:Int),.int .i64 (xl:Int)]:=by
    refine (Sb.out.alloc (.cells #[.int .u64 xs,.int .i64 10,.int .u64 d.toNat,.int .i64 1,.int .u64 xp.toNat,.int .i64 1] 206)).kept DW ?_;rintro ⟨_,e|⟨cs,fr,e⟩⟩
    ·have:=HZB.out;omega
    ·cases e
   have hl7:(FK++aC [(xs,10),(d.toNat,1),(xp.toNat,1)]).length<=60000:=by simp[aC];omega
   have HW7:=ah Uq;have TJ:=ah UI;have HZ7:=ah hz7;clear qL XV Uq UI DW hz7 HW6 zu Sb af0;have z1:=HZ7.out.cell 1;have z2:=HZ7.out.cell 2;have z3:=HZ7.out.cell 3;simp at z1 z2 z3;cases xp with
   |false=>
    have hfn:FN=FK++aC [(xs,10),(d.toNat,1),((false).toNat,1)]:=by rw[Yv.out];rfl
    have UF:=ah hfn;clear hfn Yv hbt;go_wp2_with fail
    go_roundw
    case rel=>exact ⟨k+1,by omega,by go_num,by rw[afZ.out,UF.out];exact HW7.out,TJ.out⟩
    case measure=>simp[intOf];omega
   |true=>
    have hfn:FN=(FK++aC [(xs,10),(d.toNat,1),((true).toNat,1)])++aC [(xf,15),(xl,15)]:=by rw[Yv.out,oJ,<-iN];rfl
    have UF:=ah hfn;have hput:=lg g g w7 _ [(xf,15),(xl,15)] (w7.alloc (.cells (dA [(xf,15),(xl,15)]).toArray 206)) (HW7.out.alloc _) (by omega) (by simp) (av.new _ _ _) (by
     intro x hx;simp only[nE,Dp,uQ] at hx;rcases hx with rfl|rfl
     ·exact ⟨by omega,by simp;omega,by omega⟩
     ·exact ⟨by omega,by simp;omega,by omega⟩)
    simp only[dA,jh,gQ,jA,Nat.reduceAdd] at hput;have qL:=ah hput;have hwf:IntKind.u64.wrap (xf:Int)=xf:=by rw[Cz];omega
    have hwl:IntKind.u64.wrap (xl:Int)=xl:=by rw[Cz];omega
    clear hput hfn Yv hbt;go_wp2_with fail;refine qL.out.mono ?_;rintro e8 w8 ⟨rfl,hW8,U1⟩;have HW8:=ah hW8;have Xg:=ah ((TJ.out.alloc (.cells #[.int .u64 xf,.int .i64 15,.int .u64 xl,.int .i64 15] 206)).trans U1);clear hW8 U1 qL;go_wp2_with fail
    go_roundw
    case rel=>exact ⟨k+1,by omega,by go_num,by rw[afZ.out,UF.out];exact HW8.out,Xg.out⟩
    case measure=>simp[intOf];omega
  ·obtain rfl:k=n:=by omega
   have hlk:(aC hd++aC (lT l k)).length<=50000:=by
    rw[l8,HLH.out];have:=Ck l k;omega
   have hby:=IK g g _ wr Ur (by omega);have HBY:=ah hby;clear hby Ur hlk;go_wp2_with fail;refine HBY.out.mono ?_;rintro e7 w7 ⟨v7,rfl,hv7,qT⟩;have XV:=OM.trans (qT.mono (by have:=OM.size;omega));rw[<-HE.out] at hv7;have HV7:=ah (bF (base':=w.heap.size) hv7 OM.size);have HB7:=ah XV;clear XV hv7 qT;go_wp2_with fail
   go_ret2
   exact ⟨v7,rfl,HV7.out,HB7.out⟩
end
theorem YO (y:Nk) (h:0<=(Ss y).1/\0<=(Ss y).2):(Ss y).1=((bH y).1:Int)/\(Ss y).2=((bH y).2:Int):=by
 unfold Ss bH at*;split
 ·rename_i hp;simp only[hp,kE] at h;dsimp only;omega
 ·dsimp only;omega
def qW (x:Ou) (fl:List Nk) (k:Nat):List (Nat × Nat):=(fl.take k).foldl (eO (au x)) []
theorem Jy (x:Ou) (fl:List Nk):qW x fl 0= []:=by simp[qW]
theorem Jz (x:Ou) (fl:List Nk) (k:Nat) (y:Nk) (h:fl[k]? =some y):qW x fl (k+1)=eO (au x) (qW x fl k) y:=by
 unfold qW;rw[pX,h];simp
theorem Vt (x:Ou) (fI:List Nk):qW x (fI.filter (gI x.sn)) (fI.filter (gI x.sn)).length=aQ fI x:=by
 unfold qW aQ gI;rw[List.take_length]
theorem PR (l:List (Nat × Nat)) (x:Nat × Nat):(gN l x).length<=l.length+1:=by
 unfold gN;cases hl:l.getLast? with
 |none=>simp
 |some y=>
  dsimp only;split
  ·simp
  ·simp
theorem Sz {l:List (Nat × Nat)} {x:Nat × Nat} {m:Nat} (h:∀r∈l,r.2<m) (hx:x.2<m):∀r∈gN l x,r.2<m:=by
 unfold gN;cases hl:l.getLast? with
 |none=>simpa using hx
 |some y=>
  dsimp only;split
  ·intro r hr;rcases iH.1 hr with hr|hr
   ·exact h r (List.dropLast_subset l hr)
   ·simp at hr;subst hr;exact hx
  ·intro r hr;rcases iH.1 hr with hr|hr
   ·exact h r hr
   ·simp at hr;subst hr;exact hx
theorem Q8 (x:Ou) (fl:List Nk) (hs:au x<=100000):∀k,(qW x fl k).length<=k/\∀r∈qW x fl k,r.2<1000000
 |0=>by rw[Jy];simp
 |k+1=>by
  obtain ⟨h1,h2⟩:=Q8 x fl hs k;cases hy:fl[k]? with
  |none=>
   have e:qW x fl (k+1)=qW x fl k:=by unfold qW;rw[pX,hy];simp
   rw[e];exact ⟨by omega,h2⟩
  |some y=>
   rw[Jz x fl k y hy];unfold eO;split
   ·exact ⟨by omega,h2⟩
   ·exact ⟨by have:=PR (qW x fl k) ((bH y).1,min (bH y).2 (au x-1));omega,Sz h2 (by dsimp only;omega)⟩
structure MsI (wc:World) (lc:Nat) (x:Ou) (fl:List Nk) (k:Nat) (W:World):Prop where
 row:∃v,W.ownsRow wc 39 2 v (qW x fl k).length (sV (qW x fl k))/\av W lc 150 #[v]
 kp:Kept (fun j _=>j=lc) wc W
theorem MsI.far {wc:World} {lc:Nat} {x:Ou} {fl:List Nk} (hlc:lc<wc):PD wc (MsI wc lc x fl):=by
 refine ⟨fun k A B row hs hg hr=> ?_,fun k A B hs hb=> ?_⟩
 ·obtain ⟨⟨v,hv,hb⟩,hk⟩:=hs;refine ⟨⟨v,hv.kept hg ?_,hb.grown hg ?_⟩,hk.grown hg (fun j e o ho=> ?_)⟩
  ·rcases hv.2 with ⟨rfl,_⟩|⟨q,cap,cur,rfl,h1,h2,_⟩
   ·exact .inl rfl
   ·refine .inr (fun e=> ?_);obtain ⟨h3,o,h4,h5⟩:=hr q e.symm;rw[h2] at h4;cases h4;cases h5
  ·intro e;have:=(hr lc e.symm).1;omega
  ·have h1:=(hr j e).1;have h2:=(uZ.1 ho).1;omega
 ·obtain ⟨⟨v,hv,hbk⟩,hk⟩:=hs;refine ⟨⟨v,hv.kept (row:=none) ⟨hb.os,hb.tape,hb.output,hb.size,fun k hk _=>hb.block k hk⟩ ?_,hbk.below hb hbk.lt⟩,hk.trans (Kept.eZ hb)⟩;cases h:v.ownBlock with
  |none=>exact .inl rfl
  |some j=>exact .inr (by simp)
section
variable {D F:Nat->Prop} {w:World}
theorem KS (aA:Int) (fI:List Nk) (A:Option Addr) (n c:Nat) (hN:dD w A n c fI) (hn:n<=1000) (p:Nat) (x:Ou) {Ap Ar:Option Addr} {cp cr:Nat} {vp:List Value} (hO:jv w D F p x Ap cp vp Ar cr)
 (hv:∀y∈fI,0<=(Ss y).1/\0<=(Ss y).2) (hsz:au x<=100000) (h1:1<=au x):
 Calls prog 145 #[.agg #[aA,.slice A n c],.pointer (some p)] w (D6 w (aQ fI x)):=by
 have hN3:=((hN.alloc (.cells #[aA,.slice A n c] 133)).alloc (.cells #[.pointer (some p)] 138)).alloc (.cells #[.slice none 0 0] 150);have hr0:=((av.new w 133 #[aA,.slice A n c]).alloc (.cells #[.pointer (some p)] 138)).alloc (.cells #[.slice none 0 0] 150);have hx0:=(av.new (w.alloc (.cells #[aA,.slice A n c] 133)) 138 #[.pointer (some p)]).alloc (.cells #[.slice none 0 0] 150);have hl0:=av.new ((w.alloc (.cells #[aA,.slice A n c] 133)).alloc (.cells #[.pointer (some p)] 138)) 150 #[.slice none 0 0];have hB0:Below w w (((w.alloc (.cells #[aA,.slice A n c] 133)).alloc (.cells #[.pointer (some p)] 138)).alloc (.cells #[.slice none 0 0] 150)):=(((bS _ w).alloc (aL) _).alloc (by simp) _).alloc (by simp;omega) _;have hs0:(((w.alloc (.cells #[aA,.slice A n c] 133)).alloc (.cells #[.pointer (some p)] 138)).alloc (.cells #[.slice none 0 0] 150)).heap.size=w.heap.size+3:=by simp
 simp only[mZ] at hx0 hl0;have HP0:=ah (hO.blk.below hB0 hO.blk.lt);have Kk:=ah hO.blk.lt;have HN:=ah hN3;have HR0:=ah hr0;have HX0:=ah hx0;have HL0:=ah hl0;have HB0:=ah hB0;have HS0:=ah hs0;clear hN3 hr0 hx0 hl0 hB0 hs0 hN hO;refine (xI (n:=5)).1 ?_;refine Em func145 rfl trivial ?_ rfl;simp only[ntmps145,vP,jh,gQ,Nat.reduceAdd,Nat.reduceSub,zA,zz,zF,zB,pY,qJ];refine (xW (n:=5)).2 ?_;go_wp2_with fail;generalize ((w.alloc (.cells #[aA,.slice A n c] 133)).alloc (.cells #[.pointer (some p)] 138)).alloc (.cells #[.slice none 0 0] 150)=w3 at*;have z0:=HR0.out.cell 0;have z1:=HR0.out.cell 1;have z2:=HX0.out.cell 0;have z3:w3.cell? p=some (.int .i64 (x.sn:Nat)):=HP0.out.cell 0;simp at z0 z1 z2;have HRG:=ah (fun (W:World) (hW:Below w3 w3 W)=>M8 aA x.sn A n c fI W (HN.out.below hW) (by omega));go_cut [13] from 7 to 14 (fun s13 wx=>∃g b A' c',s13= .func (.func 208) #[] #[.pointer (some ⟨g,0,none⟩),.pointer (some ⟨b,0,none⟩)]/\
  av wx g 131 #[.slice A' n c']/\av wx b 3 #[.int .i64 (x.sn:Nat)]/\dD wx A' n c' fI/\(∀ad,A'=some ad->w3.heap.size<=ad.block/\ad.block<wx.heap.size)/\w3.heap.size<=g/\w3.heap.size<=b/\Below w3 w3 wx)
 case first=>
  refine wp_region_noPanic ?_
  go_region_with (go_at_call 185;refine (HRG.out _ (by first|exact bS _ _|exact (bS _ _).drew|exact (bS _ _).drewN _)).mono ?_;rintro e w5 ⟨g,b,A',c',rfl,k1,k2,k3,k4,k5,k6,k7⟩)
  all_goals
   refine NoPanic.normal ?_;go_wp2_with fail;go_meet;exact ⟨g,b,A',c',rfl,k1,k2,k3,k4,k5,k6,by first|exact k7|exact (bS _ w3).drew.trans k7|exact ((bS _ w3).drewN _).trans k7⟩
 case rest=>
  obtain ⟨g,b,A',c',rfl,k1,k2,k3,k4,k5,k6,k7⟩:=hcut;have K1:=ah k1;have K2:=ah k2;have K3:=ah k3;have K4:=ah k4;have K7:=ah k7;clear k1 k2 k3 k4 k7;go_wp2_with fail;have hw3:=HS0.out;have hwc:=K7.out.size;have hgl:=K1.out.lt;have hbl:=K2.out.lt;have HL:=ah (HL0.out.below K7.out HL0.out.lt);have HX:=ah (HX0.out.below K7.out HX0.out.lt);have HPp:=ah (HP0.out.below K7.out HP0.out.lt);have hpl:=HP0.out.lt;obtain ⟨M,hM⟩:∃M:Nat->Obj->Prop,M=fun k o=>k=w.heap.size+1+1\/k=wc.heap.size+1\/(wc<=k/\∃cs r,o= .cells cs 39 r):=⟨_,rfl⟩
  have hseq:=PL 4 g b A' n c' fI x.sn M wc K1.out K2.out K3.out (fun ad e=>(K4.out ad e).2) (by rw[hM];rintro o (h|h|h)<;>omega) (by rw[hM];rintro o (h|h|h)<;>omega)
   (by rw[hM];rintro ad e o (h|h|h)<;>have:=K4.out ad e<;>omega) (by rw[hM];rintro k o hk (h|h|h);omega;omega;exact h.2)
  apply (xW (n:=5)).1;refine yo (gf:=208) (lb:= #[.pointer (some ⟨g,0,none⟩),.pointer (some ⟨b,0,none⟩)]) rfl (enters_of func208 (by kernel_rfl) rfl)
   hseq Kept.trans ?a3 (bS _ _) (fun k=>by unfold Bc;split<;>rfl)
   (MsI wc (w.heap.size+1+1) x (fI.filter (gI x.sn))) (MsI.far (by omega)) ?a5 ?a6 ?a7
  case a3=>
   intro Wk o o' ho hc;exact (Kept.refl _ Wk).grown (nX Wk _ o') (fun j e _ _=>by cases e;rw[hM];exact .inr (.inl rfl))
  case a5=>exact ⟨⟨_,by rw[Jy];exact jl _ _ _ _,HL.out⟩,Kept.refl _ _⟩
  case a7=>
   rintro D Wk hD ⟨⟨v,hv,hb⟩,hK⟩ hDk;rw[Vt] at hv;obtain ⟨Av,cv,rfl,_,_⟩:=fQ.eu (l:=aQ fI x) hv;have hlw:=zD HL.out.lt hK.size;have l0:=hb.cell 0;have lf:=hb.frozen 0;simp at l0;have hDn:D≠w.heap.size+1+1:=by omega
   have hD1:(Wk.setCell ⟨w.heap.size+1+1,0,none⟩ (.slice Av (aQ fI x).length cv)).heap[D]? =some (.deferred (some [])):=(lZ Wk ⟨w.heap.size+1+1,0,none⟩ (.slice Av (aQ fI x).length cv) D hDn).trans hDk;have hv1:(Wk.setCell ⟨w.heap.size+1+1,0,none⟩ (.slice Av (aQ fI x).length cv)).ownsRow wc.heap.size 39 2 (.slice Av (aQ fI x).length cv) (aQ fI x).length (sV (aQ fI x)):=GY hv (fun e=>by have:=(hv.lt _ e).1;have e3:(⟨w.heap.size+1+1,0,none⟩:Addr).block=w.heap.size+1+1:=rfl;omega) (.slice Av (aQ fI x).length cv);have hb1:av (Wk.setCell ⟨w.heap.size+1+1,0,none⟩ (.slice Av (aQ fI x).length cv)) (w.heap.size+1+1) 150 #[.slice Av (aQ fI x).length cv]:=by simpa using hb.ay 0 (.slice Av (aQ fI x).length cv)
   have hb2:=hb1.putObj (by omega) (k:=D) (.deferred none);have hv2:((Wk.setCell ⟨w.heap.size+1+1,0,none⟩ (.slice Av (aQ fI x).length cv)).putObj D (.deferred none)).ownsRow wc.heap.size 39 2 (.slice Av (aQ fI x).length cv) (aQ fI x).length (sV (aQ fI x)):=by
    refine hv1.kept (nX _ D _) ?_;rcases hv1.2 with ⟨e1,_⟩|⟨t,cap,cur,e1,q1,q2,_⟩
    ·exact .inl (by rw[e1];rfl)
    ·refine .inr (fun e=> ?_);rw[e1] at e;have e2:t=D:=by injection e
     subst e2;rw[hD1] at q2;cases q2
   have hB2:Below w w ((Wk.setCell ⟨w.heap.size+1+1,0,none⟩ (.slice Av (aQ fI x).length cv)).putObj D (.deferred none)):=by
    have e1:=HB0.out.trans (K7.out.mono (by omega));have e2:Below w wc Wk:=hK.below (fun j _ hj=>by omega) (by omega);exact ((e1.trans e2).setCell (p:=⟨w.heap.size+1+1,0,none⟩) (by simp;omega) (.slice Av (aQ fI x).length cv)).trans (Below.putObj (by omega) _)
   have Vh:=ah (bF (base':=w.heap.size) hv2 (by omega));have HB2:=ah hB2;have HD1:=ah hD1;have c2:=hb2.cell 0;simp at c2;clear hv hb hv1 hb1 hb2 hv2 hB2 hD1 hDk hM hseq
   gi_wp2
   go_wp2;refine ⟨by simp,.inl ⟨_,_,rfl,Cx HD1.out,?_⟩⟩;exact ⟨.slice Av (aQ fI x).length cv,by simp[results,results145,go_sem,c2],.slice Av (aQ fI x).length cv,rfl,Vh.out,HB2.out⟩
  case a6=>
   rintro l' k Wk hk ⟨⟨v,hrow,hbk⟩,hK⟩ ⟨oR,hoR,hoC⟩;obtain ⟨y,hy⟩:∃y,(fI.filter (gI x.sn))[k]? =some y:=⟨_,gX hk⟩
   have hvv:Bc (fI.filter (gI x.sn)) k= #[.int .i64 ((bH y).1:Int),.int .i64 ((bH y).2:Int)]:=by
    unfold Bc;rw[hy];obtain ⟨e1,e2⟩:=YO y (hv y (List.mem_filter.1 (iT hy)).1);simp only[e1,e2]
   rw[hvv];have hst:=Jz x _ k y hy;obtain ⟨ra,hra⟩:∃ra,(bH y).1=ra:=⟨_,rfl⟩
   obtain ⟨rb,hrb⟩:∃rb,(bH y).2=rb:=⟨_,rfl⟩
   obtain ⟨hok1,hok2⟩:=Q8 x (fI.filter (gI x.sn)) hsz k;unfold eO at hst;rw[hra,hrb] at hst ⊢;have HST:=ah hst;have ali:=ah hok2;have hrl:=(uZ.1 hoR).1;clear hvv hst hy hra hrb hok2
   gi_wp2_with fail
   refine ⟨⟨aL,fun _ _ _ h _=>h⟩,?_⟩;intro W3 o' hW3;have hXw:av W3 (w+1) 138 #[.pointer (some p)]:=by rw[hW3];exact (HX.out.kept hK (by omega)).putObj (by omega) _
   have hPw:av W3 p 152 (My x (.slice Ap x.ps.length cp) (.slice Ar x.pend.length cr)):=by rw[hW3];exact (HPp.out.kept hK (by have:=Kk.out;omega)).putObj (by have:=Kk.out;omega) _
   have hLw:av W3 (w.heap.size+1+1) 150 #[v]:=by rw[hW3];exact hbk.putObj (by omega) _
   have hrw:W3.ownsRow wc 39 2 v (qW x (fI.filter (gI x.sn)) k).length (sV (qW x (fI.filter (gI x.sn)) k)):=by
    rw[hW3];refine hrow.kept (nX Wk _ o') ?_;rcases hrow.2 with ⟨rfl,_⟩|⟨q,cap,cur,rfl,q1,q2,_⟩
    ·exact .inl rfl
    ·refine .inr (fun e=> ?_);have e2:q=wc.heap.size+1:=by injection e
     rw[e2,hoR] at q2;cases q2;cases hoC
   have hKw:Kept (fun j _=>j=w.heap.size+1+1) wc W3:=by
    rw[hW3];exact hK.grown (nX Wk _ o') (fun j e o ho=>by cases e;have:=(uZ.1 ho).1;omega)
   have hM3:Kept M Wk W3:=by
    rw[hW3];exact (Kept.refl _ Wk).grown (nX Wk _ o') (fun j e _ _=>by cases e;rw[hM];exact .inr (.inl rfl))
   have hz3:=hKw.size;have x0:=hXw.cell 0;have x8:W3.cell? ⟨p,8,none⟩=some (.int .i64 (au x:Nat)):=hPw.cell 8;have l0:=hLw.cell 0;have lf:=hLw.frozen 0;simp at x0 l0;obtain ⟨q,hq⟩:∃q,au x=q+1:=⟨au x-1,by omega⟩
   rw[hq] at x8;have x8:W3.cell? ⟨p,8,none⟩=some (.int .i64 ((q:Int)+1)):=by rw[x8];simp
   have hw1:IntKind.i64.wrap ((q:Int)+1-1)=(q:Int):=by rw[iG _ (by omega)];omega
   have hw2:IntKind.i64.wrap (q:Int)=(q:Int):=iG _ (by omega);have hst:=HST.out;rw[show au x-1=q by omega] at hst;have hvb:∀j,v.ownBlock=some j->wc.heap.size<=j:=fun j e=>(hrw.lt j e).1
   have aap:∀a',min rb q<ra->PE wc (Kept M) (MsI wc (w.heap.size+1+1) x (fI.filter (gI x.sn))) (k+1) Wk W3 .normal a' W3:=fun a' hm=>by
    rw[bD hm] at hst;exact ⟨⟨aL,fun _ _ _ h _=>h⟩,hM3,⟨⟨v,by rw[hst];exact hrw,hLw⟩,hKw⟩⟩
   have aaq:∀m:Nat,Calls prog 186 #[v,.agg #[.int .i64 (ra:Int),.int .i64 (m:Int)],.func (.func 187) #[] #[]] W3 (aao W3 wc v (qW x (fI.filter (gI x.sn)) k) (ra,m)):=fun m=>
    Nc W3 wc v _ (ra,m) hrw hz3 (by have:=(List.length_filter_le (gI x.sn) fI);have:=K3.out.len;omega) ali.out
   have agy:∀m v' w5,min rb q=m->ra<=m->w5.ownsRow wc 39 2 v' (gN (qW x (fI.filter (gI x.sn)) k) (ra,m)).length (sV (gN (qW x (fI.filter (gI x.sn)) k) (ra,m)))->Kept (fun k _=>some k=v.ownBlock) W3 w5->
    av w5 (w.heap.size+1+1) 150 #[v]/\∀a',PE wc (Kept M) (MsI wc (w.heap.size+1+1) x (fI.filter (gI x.sn))) (k+1) Wk W3 .normal a' (w5.setCell ⟨w.heap.size+1+1,0,none⟩ v'):=fun m v' w5 hm hr h5 hk5=>by
    have hL5:av w5 (w.heap.size+1+1) 150 #[v]:=hLw.kept hk5 (fun e=>by have:=hvb _ e.symm;omega);refine ⟨hL5,fun a'=> ?_⟩;rw[aP (by omega),hm] at hst;have hkM:Kept M W3 w5:=⟨hk5.os,hk5.tape,hk5.output,hk5.size,fun j o hj hn=>hk5.same j o hj (fun e=>hn (by
     rw[hM];refine .inr (.inr ⟨hvb j e.symm,?_⟩);rcases hrw.2 with ⟨rfl,_⟩|⟨t,cap,cur,rfl,q1,q2,_⟩
     ·cases e
     ·have e2:j=t:=by injection e
      rw[e2,q2] at hj;cases hj;exact ⟨_,_,rfl⟩))⟩
    have hkL:Kept (fun j (_:Obj)=>j=w.heap.size+1+1) wc w5:=⟨hk5.os.trans hKw.os,hk5.tape.trans hKw.tape,hk5.output.trans hKw.output,gG hz3 hk5.size,fun j o hj hn=>hk5.same j o (hKw.same j o hj hn) (fun e=>by
     have h1:=hvb _ e.symm;have h2:=(uZ.1 hj).1;omega)⟩
    have UM:KeepsFrom wc W3 w5:=⟨hk5.size,fun j o hj ho hc=>hk5.same j o ho (fun e=>by
     rcases hrw.2 with ⟨rfl,_⟩|⟨t,cap,cur,rfl,q1,q2,_⟩
     ·cases e
     ·have e2:j=t:=by injection e
      rw[e2,q2] at ho;cases ho;cases hc)⟩
    refine ⟨KeepsFrom.tr UM (KeepsFrom.PK hL5 v'),(hM3.trans hkM).setCell (p:=⟨w.heap.size+1+1,0,none⟩) (fun _ _=>by rw[hM];exact .inl rfl) v',⟨⟨v',?_,by simpa using hL5.ay 0 v'⟩,hkL.setCell (p:=⟨w.heap.size+1+1,0,none⟩) (fun _ _=>rfl) v'⟩⟩;rw[hst];exact GY h5 (fun e=>by have:=(h5.lt _ e).1;have e3:(⟨w.heap.size+1+1,0,none⟩:Addr).block=w.heap.size+1+1:=rfl;omega) v'
   have aar:=ah aaq;have HSK:=ah aap;have lz:=ah agy;clear hXw hPw hLw hrw hrow hbk hK hW3 hKw hM3 hoR hoC hM aap aaq agy hst hvb;by_cases hc:rb<=q
   ·by_cases hr:ra<=rb
    ·have d1:decide (rb<ra)=false:=iP (by omega)
     gi_wp2_with fail
     refine ⟨trivial,IE l' ((xI (n:=2)).2 ((aar.out rb).mono ?_))⟩;rintro e w5 ⟨v',rfl,FZ,hk5,_⟩;obtain ⟨hL5,hF5⟩:=lz.out rb v' w5 (by omega) hr FZ hk5;obtain ⟨A5,c5',rfl,_,_⟩:=fQ.eu (l:=gN (qW x (fI.filter (gI x.sn)) k) (ra,rb)) FZ;have c5:=hL5.cell 0;have f5:=hL5.frozen 0;simp at c5;have HF5:=ah hF5;clear hF5 hL5 FZ hk5
     gi_wp2_with fail
     exact HF5.out _
    ·have d1:decide (rb<ra)=true:=iK (by omega)
     gi_wp2_with fail
     exact HSK.out _ (by omega)
   ·by_cases hr:ra<=q
    ·have d1:decide (q<ra)=false:=iP (by omega)
     gi_wp2_with fail
     refine ⟨trivial,IE l' ((xI (n:=2)).2 ((aar.out q).mono ?_))⟩;rintro e w5 ⟨v',rfl,FZ,hk5,_⟩;obtain ⟨hL5,hF5⟩:=lz.out q v' w5 (by omega) hr FZ hk5;obtain ⟨A5,c5',rfl,_,_⟩:=fQ.eu (l:=gN (qW x (fI.filter (gI x.sn)) k) (ra,q)) FZ;have c5:=hL5.cell 0;have f5:=hL5.frozen 0;simp at c5;have HF5:=ah hF5;clear hF5 hL5 FZ hk5
     gi_wp2_with fail
     exact HF5.out _
    ·have d1:decide (q<ra)=true:=iK (by omega)
     gi_wp2_with fail
     exact HSK.out _ (by omega)
end
end Go.Proofs.YtbhiklnljiehiaaGreat
