/- status.Encode. -/
import Derived.Test.YtbhiklnljiehiaaGreatM2ba
import Derived.Deep.RegionWith
namespace Go.Proofs.YtbhiklnljiehiaaGreat
section
open Go.RowKit Go.Shelf
attribute [local go_sem] Oper.semAt_some
theorem Bi {aL:Int} {x:Nk} (h:iD aL x=true):(0≤x.sn∧x.sn<1024)∧(0≤x.fr∧x.fr≤32767∧0≤x.lt∧x.lt≤32767):=by
 unfold iD at h;simp only[Bool.and_eq_true,decide_eq_true_eq] at h;obtain ⟨h1,_,h2⟩:=h;refine ⟨h1,?_⟩;split at h2
 ·simp only[Bool.and_eq_true,decide_eq_true_eq] at h2;omega
 ·simp only[Bool.and_eq_true,decide_eq_true_eq] at h2;omega
theorem FH {aL:Int} {l:List Nk} (h:dm aL l=true) {k:Nat} {x:Nk} (hx:l[k]? =some x):iD aL x=true:=by
 unfold dm at h;simp only[Bool.and_eq_true] at h;exact ((jU aL l).1 h.2.2 k x hx).1
theorem vJ (l:List Nk):∀k,(aH (kE l k)).length≤42*k
 |0=>by simp[kE,aH]
 |k+1=>by
  have ih:=vJ l k;rw[kE,iU,List.length_append];have:(aH (FF (decide (k+1<l.length)) (l[k]?.getD nk0))).length≤42:=by
   unfold FF;rw[iU,List.length_append];split<;>simp[aH]
  omega
section
variable (w:World)
set_option maxRecDepth 10000 in
set_option maxHeartbeats 2000000 in
theorem FJ (aL:Int) (A:Option Addr) (n c:Nat) (l:List Nk) (h:bM w A n c l) (hv:dm aL l=false):
 Calls Tryz.prog 83 #[.agg #[.int .i64 aL,.slice A n c]] w fun e w'=>e= .returned (.tuple #[.slice none 0 0,.int .i64 2])∧Below w.heap.size w w':=by
 have hB:Below w.heap.size w (w.alloc (.cells #[.int .i64 aL,.slice A n c] 133)):=(Below.refl _ w).alloc (aN) _;have hva:=jV _ aL A n c l (h.alloc (.cells #[.int .i64 aL,.slice A n c] 133));rw[hv] at hva;have HB:=ah hB;have HV:=ah hva;clear hB hva hv h;go_enter Tryz.func83,Tryz.ntmps83;go_wp2_with (go_at_call 119;refine HV.out.mono ?_;rintro e1 w1 ⟨rfl,hb1⟩)
 go_ret2
 exact ⟨rfl,HB.out.trans (hb1.mono HB.out.size)⟩
set_option maxRecDepth 100000 in
set_option maxHeartbeats 4000000 in
theorem I1 (aL:Nat) (A:Option Addr) (n c:Nat) (l:List Nk) (h:bM w A n c l) (hv:dm (aL:Int) l=true):
 Calls Tryz.prog 83 #[.agg #[.int .i64 (aL:Int),.slice A n c]] w (pX w.heap.size 5 w (Cs aL l).length (bO (Cs aL l)) 0):=by
 have hlen:=h.len;have hcap:=h.cap;have hmx:=h.mx;have hva:=jV _ (aL:Int) A n c l (h.alloc (.cells #[.int .i64 (aL:Int),.slice A n c] 133));rw[hv] at hva;have hv2:=hv;unfold dm at hv2;simp only[Bool.and_eq_true,decide_eq_true_eq] at hv2;have aj9:aL≤1023:=by have:=hv2.1.2;omega
 have Zu:n≤512:=by have:=hv2.2.1;omega
 have hB:Below w.heap.size w (w.alloc (.cells #[.int .i64 (aL:Int),.slice A n c] 133)):=(Below.refl _ w).alloc (aN) _;have b0:=au.new w 133 #[.int .i64 (aL:Int),.slice A n c];have hN0:=h.alloc (.cells #[.int .i64 (aL:Int),.slice A n c] 133);have HB:=ah hB;have HV:=ah hva;have HL:=ah hlen;have KE:=ah hv;clear hB hva hv hv2 hlen h;go_enter Tryz.func83,Tryz.ntmps83;go_wp2_with fail;refine HV.out.mono ?_;rintro e1 w1 ⟨rfl,hb1⟩;have hbw:Below w.heap.size w w1:=HB.out.trans (hb1.mono HB.out.size)
 replace b0:=b0.below hb1 b0.lt
 have hN1:=hN0.below hb1;have hlt1:=b0.lt;clear HV hb1 HB hN0;go_wp2_with fail;have hW2:nR (w1.alloc (.cells #[.slice none 0 0,.int .i64 0] 202)) w1.heap.size w1.heap.size []:=⟨aN,_,au.new w1 _ _,World.ownsRow_nil _ _ _ _⟩;have hbw2:=hbw.alloc hbw.size (.cells #[.slice none 0 0,.int .i64 0] 202)
 replace b0:=b0.alloc (.cells #[.slice none 0 0,.int .i64 0] 202)
 have V5:=hN1.alloc (.cells #[.slice none 0 0,.int .i64 0] 202);obtain ⟨g,hg⟩:∃g,g=w1.heap.size:=⟨_,rfl⟩
 have hgl:w.heap.size<g:=by omega
 have hNb:∀ad,A=some ad→0<n→ad.block<g:=fun ad e h0=>by
  obtain ⟨yu,e',hb',_⟩:=hN1.at_ h0;rw[e] at e';cases e';omega
 rw[←hg] at hW2 ⊢;generalize w1.alloc (.cells #[.slice none 0 0,.int .i64 0] 202)=w2 at*;clear hbw hlt1 hg hN1;have c00:=b0.cell 0;have Zv:=b0.cell 1;simp at c00 Zv;have hwr:IntKind.u64.wrap (aL:Int)=aL:=by rw[IntKind.wrap_u64];omega
 have hdn:decide ((0:Int)<n)=decide (0<n):=by rw[Bool.eq_iff_iff];simp
 refine wp_region_still_tail 11 (by kernel_rfl) (by kernel_rfl) ?_;simp only[List.take_succ_cons,List.take_zero,List.drop_succ_cons,List.drop_zero]
 still_step
 still_step
 still_step
 still_step
 still_step
 still_step
 still_step
 still_step
 still_step
 still_call (vI _ _)
 still_step
 refine wpStill_nil ?_;change wpList _ _ _ _ _ w2.drew
 replace hW2:nR w2.drew g g []:=hW2
 replace hbw2:=hbw2.drew
 replace b0:=b0.drew
 have UC:=V5.below ((Below.refl _ w2).drew);generalize w2.drew=w3 at*;clear c00 Zv hwr hdn V5;have hput:=jb g g w3.heap.size [] [(0,4),(aL,10),((decide (0<n)).toNat,1)] (w3.alloc (.cells (bK [(0,4),(aL,10),((decide (0<n)).toNat,1)]).toArray 206)) (hW2.alloc _) (by simp) (by simp) (au.new _ _ _) (by
  intro x hx;simp only[List.mem_cons,List.not_mem_nil,or_false] at hx;have hb:∀b:Bool,b.toNat≤1:=fun b=>by cases b<;>simp
  rcases hx with rfl|rfl|rfl
  ·exact ⟨by omega,by decide,by omega⟩
  ·exact ⟨by omega,by simp;omega,by omega⟩
  ·exact ⟨by omega,by have:=hb (decide (0<n));simp;omega,by have:=hb (decide (0<n));omega⟩)
 simp only[bK,List.length_cons,List.length_nil,Nat.zero_add,Nat.reduceAdd,List.nil_append] at hput;have lT:=ah hput;clear hput;go_wp2_with fail;refine lT.out.mono ?_;rintro e4 w4 ⟨rfl,V6,hk4⟩;have hg3:g<w3.heap.size:=by obtain ⟨_,v,hb,_⟩:=hW2;exact hb.lt
 clear lT hW2;have hB4:=hk4.below (B:=g) (fun _ _ h=>h.1) (by simp;omega);have RZ:=(hbw2.alloc hbw2.size _).trans (hB4.mono (by omega));have b04:=(b0.alloc (.cells #[.int .u64 0,.int .i64 4,.int .u64 aL,.int .i64 10,.int .u64 (decide (0<n)).toNat,.int .i64 1] 206)).below hB4 (by omega);have hN4:bM w4 A n c l:=by
  have h1:=UC.alloc (.cells #[.int .u64 0,.int .i64 4,.int .u64 aL,.int .i64 10,.int .u64 (decide (0<n)).toNat,.int .i64 1] 206);exact h1.Ox hB4 hNb
 clear hB4 hbw2 hk4 b0 UC;have Zv:=b04.cell 1;simp at Zv;obtain ⟨hd,hhd⟩:∃hd:List (Nat × Nat),hd= [(0,4),(aL,10),((decide (0<n)).toNat,1)]:=⟨_,rfl⟩
 rw[←hhd] at V6;have Zw:(aH hd).length=15:=by rw[hhd];simp[aH]
 have henc:Cs aL l=pack (aH hd++aH (kE l n)):=by unfold Cs;rw[HL.out,hhd,iU]
 have Zx:=ah Zw;have HE:=ah henc;have B04:=ah b04;have HN4:=ah hN4;generalize hEE:Cs aL l=EE at*;clear Zw henc hhd hEE b04 hN4;go_wp2
 go_loopw [26] (fun i wr=>∃k:Nat,k≤n∧i= .int .i64 k∧nR wr g g (aH hd++aH (kE l k))∧Kept (Mw g g) w4 wr) (fun i _=>n-(intOf i).toNat)
 case atStart=>exact ⟨0,Nat.zero_le _,rfl,by simpa[kE,aH] using V6,Kept.refl _ _⟩
 case round=>
  obtain ⟨k,hk,rfl,Oy,UD⟩:=hrel;have hgr:g<wr.heap.size:=by obtain ⟨_,v,hb,_⟩:=Oy;exact hb.lt
  have hg4:g<w4.heap.size:=by obtain ⟨_,v,hb,_⟩:=V6;exact hb.lt
  have I4:=UD.below (B:=g) (fun _ _ h=>h.1) (by omega);have I5:=RZ.trans (I4.mono (by omega));by_cases hlt:k<n
  ·obtain ⟨ad,x,rfl,hx,hbk,k0,k1,k2,k3⟩:=(HN4.out.Ox I4 hNb).get hlt;obtain ⟨⟨hs0,hs1⟩,hx2,hx3,hx4,hx5⟩:=Bi (FH KE.out hx);have hsu:kE l (k+1)=kE l k++FF (decide (k+1<n)) x:=by rw[kE,hx,HL.out];rfl
   obtain ⟨xs,xp,xf,xl⟩:=x;dsimp only at k0 k1 k2 k3 hs0 hs1 hx2 hx3 hx4 hx5;obtain ⟨xs,rfl⟩:=Int.eq_ofNat_of_zero_le hs0;obtain ⟨xf,rfl⟩:=Int.eq_ofNat_of_zero_le hx2;obtain ⟨xl,rfl⟩:=Int.eq_ofNat_of_zero_le hx4;have hlk:(aH hd++aH (kE l k)).length≤50000:=by
    rw[List.length_append,Zx.out];have:=vJ l k;omega
   have DU:aH hd++aH (kE l (k+1))=(aH hd++aH (kE l k))++aH ([(xs,10),((decide (k+1<n)).toNat,1),(xp.toNat,1)]++(if xp=true then [(xf,15),(xl,15)] else [])):=by
    rw[hsu,iU];simp[FF]
   obtain ⟨FN,V7⟩:∃FN,aH hd++aH (kE l (k+1))=FN:=⟨_,rfl⟩
   rw[V7] at DU;have Zy:=ah V7;clear V7;generalize aH hd++aH (kE l k)=FK at*;have hz0:au (wr.alloc (.cells #[.int .i64 (xs:Int),.bool xp,.int .i64 (xf:Int),.int .i64 (xl:Int)] 197)) wr.heap.size 197 #[.int .i64 (xs:Int),.bool xp,.int .i64 (xf:Int),.int .i64 (xl:Int)]:=au.new wr _ _;have UE:=Oy.alloc (.cells #[.int .i64 (xs:Int),.bool xp,.int .i64 (xf:Int),.int .i64 (xl:Int)] 197);have KF:=UD.alloc (.cells #[.int .i64 (xs:Int),.bool xp,.int .i64 (xf:Int),.int .i64 (xl:Int)] 197);have hb5:=(B04.out.below I4 (by omega)).alloc (.cells #[.int .i64 (xs:Int),.bool xp,.int .i64 (xf:Int),.int .i64 (xl:Int)] 197);have QW:=ah DU;have HX:=ah hx;have HW5:=ah UE;have rD:=ah KF;have E4:=ah hb5;have HZ0:=ah hz0;have Yy:=ah (hz0.lt);clear hsu DU hx Oy UD UE KF hz0 hb5 I4;go_wp2_with fail;obtain ⟨bx,hbx⟩:∃b,b=wr.heap.size:=⟨_,rfl⟩
   have HZB:=ah (show wr.heap.size≤bx by omega);rw[←hbx] at HZ0 Yy ⊢;generalize wr.alloc (.cells #[.int .i64 (xs:Int),.bool xp,.int .i64 (xf:Int),.int .i64 (xl:Int)] 197)=w5 at*;have z0:=HZ0.out.cell 0;have z1:=HZ0.out.cell 1;have z2:=HZ0.out.cell 2;have z3:=HZ0.out.cell 3;have z4:=E4.out.cell 1;simp at z0 z1 z2 z3 z4;clear k0 k1 k2 k3 Zv hbx;have hwr:IntKind.u64.wrap (xs:Int)=xs:=by rw[IntKind.wrap_u64];omega
   have hw1:IntKind.i64.wrap ((k:Int)+1)=(k:Int)+1:=IntWalk.i64_in _ (by omega);have hdn:decide ((k:Int)+1<(n:Int))=decide (k+1<n):=by rw[Bool.eq_iff_iff];simp;omega
   refine wp_region_still_tail 16 (by kernel_rfl) (by kernel_rfl) ?_;simp only[List.take_succ_cons,List.take_zero,List.drop_succ_cons,List.drop_zero]
   still_step
   still_step
   still_step
   still_step
   still_step
   still_step
   still_step
   still_step
   still_step
   still_step
   still_call (vI _ _)
   still_step
   still_step
   still_step
   still_call (vI _ _)
   still_step
   refine wpStill_nil ?_;change wpList _ _ _ _ _ w5.drew;clear z0 z1 z2 z3 z4 hwr;have KG:=HZ0.out.drew;have hW6:nR w5.drew g g FK:=HW5.out;have QX:=rD.out.drew;have LQ:=ah KG;have tF:=ah QX;have HW6:=ah hW6;have Zz:=ah (show bx<w5.drew.heap.size from Yy.out);clear HZ0 HW5 rD E4 Yy KG hW6 QX;generalize w5.drew=w6 at*
   try simp only[hw1,hdn]
   obtain ⟨d,hd0⟩:∃d,d=decide (k+1<n):=⟨_,rfl⟩
   have R3:=ah (show FN=FK++aH ([(xs,10),(d.toNat,1),(xp.toNat,1)]++(if xp=true then [(xf,15),(xl,15)] else [])) by rw[hd0];exact QW.out);rw[←hd0];clear hw1 hdn hd0 QW;have hbt:∀b:Bool,b.toNat≤1:=fun b=>by cases b<;>simp
   have hput:=jb g g w6.heap.size FK [(xs,10),(d.toNat,1),(xp.toNat,1)] (w6.alloc (.cells (bK [(xs,10),(d.toNat,1),(xp.toNat,1)]).toArray 206)) (HW6.out.alloc _) (by omega) (by simp) (au.new _ _ _) (by
    intro x hx;simp only[List.mem_cons,List.not_mem_nil,or_false] at hx;rcases hx with rfl|rfl|rfl
    ·exact ⟨by omega,by simp;omega,by omega⟩
    ·exact ⟨by omega,by have:=hbt d;simp;omega,by have:=hbt d;omega⟩
    ·exact ⟨by omega,by have:=hbt xp;simp;omega,by have:=hbt xp;omega⟩)
   simp only[bK,List.length_cons,List.length_nil,Nat.zero_add,Nat.reduceAdd] at hput;have lT:=ah hput;clear hput;go_wp2_with fail;refine lT.out.mono ?_;rintro e7 w7 ⟨rfl,Oz,xU⟩;have R4:=xU.below (B:=g) (fun _ _ h=>h.1) (by have:=Zz.out;have:=HZB.out;simp;omega);have OA:=(tF.out.alloc (.cells #[.int .u64 xs,.int .i64 10,.int .u64 d.toNat,.int .i64 1,.int .u64 xp.toNat,.int .i64 1] 206)).trans xU;have hz7:au w7 bx 197 #[.int .i64 (xs:Int),.bool xp,.int .i64 (xf:Int),.int .i64 (xl:Int)]:=by
    refine (LQ.out.alloc (.cells #[.int .u64 xs,.int .i64 10,.int .u64 d.toNat,.int .i64 1,.int .u64 xp.toNat,.int .i64 1] 206)).kept xU ?_;rintro ⟨_,e|⟨cs,fr,e⟩⟩
    ·have:=HZB.out;omega
    ·cases e
   have hl7:(FK++aH [(xs,10),(d.toNat,1),(xp.toNat,1)]).length≤60000:=by simp[aH];omega
   have HW7:=ah Oz;have NA:=ah OA;have V8:=ah hz7;clear lT R4 Oz OA xU hz7 HW6 tF LQ Zz;have z1:=V8.out.cell 1;have z2:=V8.out.cell 2;have z3:=V8.out.cell 3;simp at z1 z2 z3;cases xp with
   |false=>
    have hfn:FN=FK++aH [(xs,10),(d.toNat,1),((false).toNat,1)]:=by rw[R3.out];rfl
    have OB:=ah hfn;clear hfn R3 hbt;go_wp2_with fail
    go_roundw
    case rel=>exact ⟨k+1,by omega,by go_num,by rw[Zy.out,OB.out];exact HW7.out,NA.out⟩
    case measure=>simp[intOf];omega
   |true=>
    have hfn:FN=(FK++aH [(xs,10),(d.toNat,1),((true).toNat,1)])++aH [(xf,15),(xl,15)]:=by rw[R3.out,List.append_assoc,←iU];rfl
    have OB:=ah hfn;have hput:=jb g g w7.heap.size _ [(xf,15),(xl,15)] (w7.alloc (.cells (bK [(xf,15),(xl,15)]).toArray 206)) (HW7.out.alloc _) (by omega) (by simp) (au.new _ _ _) (by
     intro x hx;simp only[List.mem_cons,List.not_mem_nil,or_false] at hx;rcases hx with rfl|rfl
     ·exact ⟨by omega,by simp;omega,by omega⟩
     ·exact ⟨by omega,by simp;omega,by omega⟩)
    simp only[bK,List.length_cons,List.length_nil,Nat.zero_add,Nat.reduceAdd] at hput;have lT:=ah hput;have hwf:IntKind.u64.wrap (xf:Int)=xf:=by rw[IntKind.wrap_u64];omega
    have hwl:IntKind.u64.wrap (xl:Int)=xl:=by rw[IntKind.wrap_u64];omega
    clear hput hfn R3 hbt;go_wp2_with fail;refine lT.out.mono ?_;rintro e8 w8 ⟨rfl,hW8,OC⟩;have HW8:=ah hW8;have QY:=ah ((NA.out.alloc (.cells #[.int .u64 xf,.int .i64 15,.int .u64 xl,.int .i64 15] 206)).trans OC);clear hW8 OC lT;go_wp2_with fail
    go_roundw
    case rel=>exact ⟨k+1,by omega,by go_num,by rw[Zy.out,OB.out];exact HW8.out,QY.out⟩
    case measure=>simp[intOf];omega
  ·obtain rfl:k=n:=by omega
   have hlk:(aH hd++aH (kE l k)).length≤50000:=by
    rw[List.length_append,Zx.out];have:=vJ l k;omega
   have hby:=Ce g g _ wr Oy (by omega);have HBY:=ah hby;clear hby Oy hlk;go_wp2_with fail;refine HBY.out.mono ?_;rintro e7 w7 ⟨v7,rfl,hv7,pz⟩;have R4:=I5.trans (pz.mono (by have:=I5.size;omega));rw[←HE.out] at hv7;have HV7:=ah (aU (base':=w.heap.size) hv7 I5.size);have HB7:=ah R4;clear R4 hv7 pz;go_wp2_with fail
   go_ret2
   exact ⟨v7,rfl,HV7.out,HB7.out⟩
end
end
section
open Go.RowKit Go.Shelf
attribute [local go_sem] Oper.semAt_some
theorem Ti (y:Nk) (h:0≤(Mr y).1∧0≤(Mr y).2):(Mr y).1=((gM y).1:Int)∧(Mr y).2=((gM y).2:Int):=by
 unfold Mr gM at*;split
 ·rename_i hp;simp only[hp,if_true] at h;dsimp only;omega
 ·dsimp only;omega
def lW (x:Ou) (fl:List Nk) (k:Nat):List (Nat × Nat):=(fl.take k).foldl (eX (aG x)) []
theorem CX (x:Ou) (fl:List Nk):lW x fl 0= []:=by simp[lW]
theorem CY (x:Ou) (fl:List Nk) (k:Nat) (y:Nk) (h:fl[k]? =some y):lW x fl (k+1)=eX (aG x) (lW x fl k) y:=by
 unfold lW;rw[List.take_add_one,h];simp
theorem PD (x:Ou) (dO:List Nk):lW x (dO.filter (eF x.sn)) (dO.filter (eF x.sn)).length=bT dO x:=by
 unfold lW bT eF;rw[List.take_length]
theorem JE (l:List (Nat × Nat)) (x:Nat × Nat):(fO l x).length≤l.length+1:=by
 unfold fO;cases hl:l.getLast? with
 |none=>simp
 |some y=>
  dsimp only;split
  ·simp
  ·simp
theorem Mx {l:List (Nat × Nat)} {x:Nat × Nat} {m:Nat} (h:∀r∈l,r.2<m) (hx:x.2<m):∀r∈fO l x,r.2<m:=by
 unfold fO;cases hl:l.getLast? with
 |none=>simpa using hx
 |some y=>
  dsimp only;split
  ·intro r hr;rcases List.mem_append.1 hr with hr|hr
   ·exact h r (List.dropLast_subset l hr)
   ·simp at hr;subst hr;exact hx
  ·intro r hr;rcases List.mem_append.1 hr with hr|hr
   ·exact h r hr
   ·simp at hr;subst hr;exact hx
theorem KT (x:Ou) (fl:List Nk) (hs:aG x≤100000):∀k,(lW x fl k).length≤k∧∀r∈lW x fl k,r.2<1000000
 |0=>by rw[CX];simp
 |k+1=>by
  obtain ⟨h1,h2⟩:=KT x fl hs k;cases hy:fl[k]? with
  |none=>
   have e:lW x fl (k+1)=lW x fl k:=by unfold lW;rw[List.take_add_one,hy];simp
   rw[e];exact ⟨by omega,h2⟩
  |some y=>
   rw[CY x fl k y hy];unfold eX;split
   ·exact ⟨by omega,h2⟩
   ·exact ⟨by have:=JE (lW x fl k) ((gM y).1,min (gM y).2 (aG x-1));omega,Mx h2 (by dsimp only;omega)⟩
structure YO (wc:World) (lc:Nat) (x:Ou) (fl:List Nk) (k:Nat) (W:World):Prop where
 row:∃v,W.ownsRow wc.heap.size 39 2 v (lW x fl k).length (mR (lW x fl k))∧au W lc 150 #[v]
 kp:Kept (fun j _=>j=lc) wc W
theorem YO.far {wc:World} {lc:Nat} {x:Ou} {fl:List Nk} (hlc:lc<wc.heap.size):Gg wc.heap.size (YO wc lc x fl):=by
 refine ⟨fun k A B row hs hg hr=> ?_,fun k A B hs hb=> ?_⟩
 ·obtain ⟨⟨v,hv,hb⟩,hk⟩:=hs;refine ⟨⟨v,hv.kept hg ?_,hb.grown hg ?_⟩,hk.grown hg (fun j e o ho=> ?_)⟩
  ·rcases hv.2 with ⟨rfl,_⟩|⟨q,cap,cur,rfl,h1,h2,_⟩
   ·exact .inl rfl
   ·refine .inr (fun e=> ?_);obtain ⟨h3,o,h4,h5⟩:=hr q e.symm;rw[h2] at h4;cases h4;cases h5
  ·intro e;have:=(hr lc e.symm).1;omega
  ·have h1:=(hr j e).1;have h2:=(Array.getElem?_eq_some_iff.1 ho).1;omega
 ·obtain ⟨⟨v,hv,hbk⟩,hk⟩:=hs;refine ⟨⟨v,hv.kept (row:=none) ⟨hb.os,hb.tape,hb.output,hb.size,fun k hk _=>hb.block k hk⟩ ?_,hbk.below hb hbk.lt⟩,hk.trans (Kept.dD hb)⟩;cases h:v.ownBlock with
  |none=>exact .inl rfl
  |some j=>exact .inr (by simp)
section
variable {D F:Nat→Prop} {w:World}
set_option maxRecDepth 100000 in
set_option maxHeartbeats 4000000 in
theorem Eo (aL:Int) (dO:List Nk) (A:Option Addr) (n c:Nat) (hN:bM w A n c dO) (hn:n≤1000) (p:Nat) (x:Ou) {Ap Ar:Option Addr} {cp cr:Nat} {vp:List Value} (hO:gU w D F p x Ap cp vp Ar cr)
 (hv:∀y∈dO,0≤(Mr y).1∧0≤(Mr y).2) (hsz:aG x≤100000) (h1:1≤aG x):
 Calls Tryz.prog 145 #[.agg #[.int .i64 aL,.slice A n c],.pointer (some ⟨p,0,none⟩)] w (yj w (bT dO x)):=by
 have UC:=((hN.alloc (.cells #[.int .i64 aL,.slice A n c] 133)).alloc (.cells #[.pointer (some ⟨p,0,none⟩)] 138)).alloc (.cells #[.slice none 0 0] 150);have hr0:=((au.new w 133 #[.int .i64 aL,.slice A n c]).alloc (.cells #[.pointer (some ⟨p,0,none⟩)] 138)).alloc (.cells #[.slice none 0 0] 150);have hx0:=(au.new (w.alloc (.cells #[.int .i64 aL,.slice A n c] 133)) 138 #[.pointer (some ⟨p,0,none⟩)]).alloc (.cells #[.slice none 0 0] 150);have hl0:=au.new ((w.alloc (.cells #[.int .i64 aL,.slice A n c] 133)).alloc (.cells #[.pointer (some ⟨p,0,none⟩)] 138)) 150 #[.slice none 0 0];have hB0:Below w.heap.size w (((w.alloc (.cells #[.int .i64 aL,.slice A n c] 133)).alloc (.cells #[.pointer (some ⟨p,0,none⟩)] 138)).alloc (.cells #[.slice none 0 0] 150)):=(((Below.refl _ w).alloc (aN) _).alloc (by simp) _).alloc (by simp;omega) _;have hs0:(((w.alloc (.cells #[.int .i64 aL,.slice A n c] 133)).alloc (.cells #[.pointer (some ⟨p,0,none⟩)] 138)).alloc (.cells #[.slice none 0 0] 150)).heap.size=w.heap.size+3:=by simp
 simp only[World.size_alloc] at hx0 hl0;have HP0:=ah (hO.blk.below hB0 hO.blk.lt);have Bo:=ah hO.blk.lt;have HN:=ah UC;have HR0:=ah hr0;have HX0:=ah hx0;have U0:=ah hl0;have HB0:=ah hB0;have HS0:=ah hs0;clear UC hr0 hx0 hl0 hB0 hs0 hN hO;refine (callsIn_wide (n:=5)).1 ?_;refine callsIn_of_wp_marks Tryz.func145 rfl trivial ?_ rfl;simp only[Tryz.ntmps145,List.size_toArray,List.length_cons,List.length_nil,Nat.reduceAdd,Nat.reduceSub,Array.replicate_succ,Array.replicate_zero,List.push_toArray,List.append_toArray,List.nil_append,List.cons_append];refine (wpIn_wide (n:=5)).2 ?_;go_wp2_with fail;generalize ((w.alloc (.cells #[.int .i64 aL,.slice A n c] 133)).alloc (.cells #[.pointer (some ⟨p,0,none⟩)] 138)).alloc (.cells #[.slice none 0 0] 150)=w3 at*;have z0:=HR0.out.cell 0;have z1:=HR0.out.cell 1;have z2:=HX0.out.cell 0;have z3:w3.cell? ⟨p,0,none⟩=some (.int .i64 (x.sn:Nat)):=HP0.out.cell 0;simp at z0 z1 z2;have HRG:=ah (fun (W:World) (hW:Below w3.heap.size w3 W)=>Gl aL x.sn A n c dO W (HN.out.below hW) (by omega));go_cut [13] from 7 to 14 (fun s13 wx=>∃g b A' c',s13= .func (.func 208) #[] #[.pointer (some ⟨g,0,none⟩),.pointer (some ⟨b,0,none⟩)]∧
  au wx g 131 #[.slice A' n c']∧au wx b 3 #[.int .i64 (x.sn:Nat)]∧bM wx A' n c' dO∧(∀ad,A'=some ad→w3.heap.size≤ad.block∧ad.block<wx.heap.size)∧w3.heap.size≤g∧w3.heap.size≤b∧Below w3.heap.size w3 wx)
 case first=>
  refine wp_region_noPanic ?_
  go_region_with (go_at_call 185;refine (HRG.out _ (by first|exact Below.refl _ _|exact (Below.refl _ _).drew|exact (Below.refl _ _).drewN _)).mono ?_;rintro e w5 ⟨g,b,A',c',rfl,k1,k2,k3,k4,k5,k6,k7⟩)
  all_goals
   refine NoPanic.normal ?_;go_wp2_with fail;go_meet;exact ⟨g,b,A',c',rfl,k1,k2,k3,k4,k5,k6,by first|exact k7|exact (Below.refl _ w3).drew.trans k7|exact ((Below.refl _ w3).drewN _).trans k7⟩
 case rest=>
  obtain ⟨g,b,A',c',rfl,k1,k2,k3,k4,k5,k6,k7⟩:=hcut;have K1:=ah k1;have K2:=ah k2;have K3:=ah k3;have K4:=ah k4;have K7:=ah k7;clear k1 k2 k3 k4 k7;go_wp2_with fail;have hw3:=HS0.out;have hwc:=K7.out.size;have hgl:=K1.out.lt;have hbl:=K2.out.lt;have HL:=ah (U0.out.below K7.out U0.out.lt);have HX:=ah (HX0.out.below K7.out HX0.out.lt);have HPp:=ah (HP0.out.below K7.out HP0.out.lt);have hpl:=HP0.out.lt;obtain ⟨M,hM⟩:∃M:Nat→Obj→Prop,M=fun k o=>k=w.heap.size+1+1∨k=wc.heap.size+1∨(wc.heap.size≤k∧∃cs r,o= .cells cs 39 r):=⟨_,rfl⟩
  have hseq:=JA 4 g b A' n c' dO x.sn M wc K1.out K2.out K3.out (fun ad e=>(K4.out ad e).2) (by rw[hM];rintro o (h|h|h)<;>omega) (by rw[hM];rintro o (h|h|h)<;>omega)
   (by rw[hM];rintro ad e o (h|h|h)<;>have:=K4.out ad e<;>omega) (by rw[hM];rintro k o hk (h|h|h);omega;omega;exact h.2)
  apply (wpIn_wide (n:=5)).1;refine mP (gf:=208) (lb:= #[.pointer (some ⟨g,0,none⟩),.pointer (some ⟨b,0,none⟩)]) rfl (enters_of Tryz.func208 (by kernel_rfl) rfl)
   hseq Kept.trans ?a3 (Below.refl _ _) (fun k=>by unfold uL;split<;>rfl)
   (YO wc (w.heap.size+1+1) x (dO.filter (eF x.sn))) (YO.far (by omega)) ?a5 ?a6 ?a7
  case a3=>
   intro Wk o o' ho hc;exact (Kept.refl _ Wk).grown (grownBy_putObj' Wk _ o') (fun j e _ _=>by cases e;rw[hM];exact .inr (.inl rfl))
  case a5=>exact ⟨⟨_,by rw[CX];exact World.ownsRow_nil _ _ _ _,HL.out⟩,Kept.refl _ _⟩
  case a7=>
   rintro D Wk hD ⟨⟨v,hv,hb⟩,hK⟩ UW;rw[PD] at hv;obtain ⟨Av,cv,rfl,_,_⟩:=dG.cB (l:=bT dO x) hv;have hlw:=Nat.lt_of_lt_of_le HL.out.lt hK.size;have l0:=hb.cell 0;have lf:=hb.frozen 0;simp at l0;have hDn:D≠w.heap.size+1+1:=by omega
   have hD1:(Wk.setCell ⟨w.heap.size+1+1,0,none⟩ (.slice Av (bT dO x).length cv)).heap[D]? =some (.deferred (some [])):=(Below.heap_setCell Wk ⟨w.heap.size+1+1,0,none⟩ (.slice Av (bT dO x).length cv) D hDn).trans UW;have hv1:(Wk.setCell ⟨w.heap.size+1+1,0,none⟩ (.slice Av (bT dO x).length cv)).ownsRow wc.heap.size 39 2 (.slice Av (bT dO x).length cv) (bT dO x).length (mR (bT dO x)):=ownsRow_setCell_other hv (fun e=>by have:=(hv.lt _ e).1;have e3:(⟨w.heap.size+1+1,0,none⟩:Addr).block=w.heap.size+1+1:=rfl;omega) (.slice Av (bT dO x).length cv);have hb1:au (Wk.setCell ⟨w.heap.size+1+1,0,none⟩ (.slice Av (bT dO x).length cv)) (w.heap.size+1+1) 150 #[.slice Av (bT dO x).length cv]:=by simpa using hb.av 0 (.slice Av (bT dO x).length cv)
   have hb2:=hb1.putObj (by omega) (k:=D) (.deferred none);have hv2:((Wk.setCell ⟨w.heap.size+1+1,0,none⟩ (.slice Av (bT dO x).length cv)).putObj D (.deferred none)).ownsRow wc.heap.size 39 2 (.slice Av (bT dO x).length cv) (bT dO x).length (mR (bT dO x)):=by
    refine hv1.kept (grownBy_putObj' _ D _) ?_;rcases hv1.2 with ⟨e1,_⟩|⟨t,cap,cur,e1,q1,q2,_⟩
    ·exact .inl (by rw[e1];rfl)
    ·refine .inr (fun e=> ?_);rw[e1] at e;have e2:t=D:=by injection e
     subst e2;rw[hD1] at q2;cases q2
   have hB2:Below w.heap.size w ((Wk.setCell ⟨w.heap.size+1+1,0,none⟩ (.slice Av (bT dO x).length cv)).putObj D (.deferred none)):=by
    have e1:=HB0.out.trans (K7.out.mono (by omega));have e2:Below w.heap.size wc Wk:=hK.below (fun j _ hj=>by omega) (by omega);exact ((e1.trans e2).setCell (p:=⟨w.heap.size+1+1,0,none⟩) (by simp;omega) (.slice Av (bT dO x).length cv)).trans (Below.putObj (by omega) _)
   have Pm:=ah (aU (base':=w.heap.size) hv2 (by omega));have HB2:=ah hB2;have HD1:=ah hD1;have c2:=hb2.cell 0;simp at c2;clear hv hb hv1 hb1 hb2 hv2 hB2 hD1 UW hM hseq
   gi_wp2
   go_wp2;refine ⟨by simp,.inl ⟨_,_,rfl,run_takeDeferred HD1.out,?_⟩⟩;exact ⟨.slice Av (bT dO x).length cv,by simp[results,Tryz.results145,go_sem,c2],.slice Av (bT dO x).length cv,rfl,Pm.out,HB2.out⟩
  case a6=>
   rintro l' k Wk hk ⟨⟨v,hrow,hbk⟩,hK⟩ ⟨oR,Td,YK⟩;obtain ⟨y,hy⟩:∃y,(dO.filter (eF x.sn))[k]? =some y:=⟨_,List.getElem?_eq_getElem hk⟩
   have hvv:uL (dO.filter (eF x.sn)) k= #[.int .i64 ((gM y).1:Int),.int .i64 ((gM y).2:Int)]:=by
    unfold uL;rw[hy];obtain ⟨e1,e2⟩:=Ti y (hv y (List.mem_filter.1 (List.mem_of_getElem? hy)).1);simp only[e1,e2]
   rw[hvv];have hst:=CY x _ k y hy;obtain ⟨ra,hra⟩:∃ra,(gM y).1=ra:=⟨_,rfl⟩
   obtain ⟨rb,hrb⟩:∃rb,(gM y).2=rb:=⟨_,rfl⟩
   obtain ⟨hok1,hok2⟩:=KT x (dO.filter (eF x.sn)) hsz k;unfold eX at hst;rw[hra,hrb] at hst ⊢;have HST:=ah hst;have ae5:=ah hok2;have hrl:=(Array.getElem?_eq_some_iff.1 Td).1;clear hvv hst hy hra hrb hok2
   gi_wp2_with fail
   refine ⟨⟨aN,fun _ _ _ h _=>h⟩,?_⟩;intro W3 o' hW3;have hXw:au W3 (w.heap.size+1) 138 #[.pointer (some ⟨p,0,none⟩)]:=by rw[hW3];exact (HX.out.kept hK (by omega)).putObj (by omega) _
   have hPw:au W3 p 152 (DN x (.slice Ap x.ps.length cp) (.slice Ar x.pend.length cr)):=by rw[hW3];exact (HPp.out.kept hK (by have:=Bo.out;omega)).putObj (by have:=Bo.out;omega) _
   have hLw:au W3 (w.heap.size+1+1) 150 #[v]:=by rw[hW3];exact hbk.putObj (by omega) _
   have hrw:W3.ownsRow wc.heap.size 39 2 v (lW x (dO.filter (eF x.sn)) k).length (mR (lW x (dO.filter (eF x.sn)) k)):=by
    rw[hW3];refine hrow.kept (grownBy_putObj' Wk _ o') ?_;rcases hrow.2 with ⟨rfl,_⟩|⟨q,cap,cur,rfl,q1,q2,_⟩
    ·exact .inl rfl
    ·refine .inr (fun e=> ?_);have e2:q=wc.heap.size+1:=by injection e
     rw[e2,Td] at q2;cases q2;cases YK
   have Xg:Kept (fun j _=>j=w.heap.size+1+1) wc W3:=by
    rw[hW3];exact hK.grown (grownBy_putObj' Wk _ o') (fun j e o ho=>by cases e;have:=(Array.getElem?_eq_some_iff.1 ho).1;omega)
   have YP:Kept M Wk W3:=by
    rw[hW3];exact (Kept.refl _ Wk).grown (grownBy_putObj' Wk _ o') (fun j e _ _=>by cases e;rw[hM];exact .inr (.inl rfl))
   have hz3:=Xg.size;have x0:=hXw.cell 0;have x8:W3.cell? ⟨p,8,none⟩=some (.int .i64 (aG x:Nat)):=hPw.cell 8;have l0:=hLw.cell 0;have lf:=hLw.frozen 0;simp at x0 l0;obtain ⟨q,hq⟩:∃q,aG x=q+1:=⟨aG x-1,by omega⟩
   rw[hq] at x8;have x8:W3.cell? ⟨p,8,none⟩=some (.int .i64 ((q:Int)+1)):=by rw[x8];simp
   have hw1:IntKind.i64.wrap ((q:Int)+1-1)=(q:Int):=by rw[IntWalk.i64_in _ (by omega)];omega
   have hw2:IntKind.i64.wrap (q:Int)=(q:Int):=IntWalk.i64_in _ (by omega);have hst:=HST.out;rw[show aG x-1=q by omega] at hst;have hvb:∀j,v.ownBlock=some j→wc.heap.size≤j:=fun j e=>(hrw.lt j e).1
   have U2:∀a',min rb q<ra→Jr wc.heap.size (Kept M) (YO wc (w.heap.size+1+1) x (dO.filter (eF x.sn))) (k+1) Wk W3 .normal a' W3:=fun a' hm=>by
    rw[if_pos hm] at hst;exact ⟨⟨aN,fun _ _ _ h _=>h⟩,YP,⟨⟨v,by rw[hst];exact hrw,hLw⟩,Xg⟩⟩
   have U3:∀m:Nat,Calls Tryz.prog 186 #[v,.agg #[.int .i64 (ra:Int),.int .i64 (m:Int)],.func (.func 187) #[] #[]] W3 (UZ W3 wc.heap.size v (lW x (dO.filter (eF x.sn)) k) (ra,m)):=fun m=>
    Gp W3 wc.heap.size v _ (ra,m) hrw hz3 (by have:=(List.length_filter_le (eF x.sn) dO);have:=K3.out.len;omega) ae5.out
   have aay:∀m v' w5,min rb q=m→ra≤m→w5.ownsRow wc.heap.size 39 2 v' (fO (lW x (dO.filter (eF x.sn)) k) (ra,m)).length (mR (fO (lW x (dO.filter (eF x.sn)) k) (ra,m)))→Kept (fun k _=>some k=v.ownBlock) W3 w5→
    au w5 (w.heap.size+1+1) 150 #[v]∧∀a',Jr wc.heap.size (Kept M) (YO wc (w.heap.size+1+1) x (dO.filter (eF x.sn))) (k+1) Wk W3 .normal a' (w5.setCell ⟨w.heap.size+1+1,0,none⟩ v'):=fun m v' w5 hm hr h5 hk5=>by
    have hL5:au w5 (w.heap.size+1+1) 150 #[v]:=hLw.kept hk5 (fun e=>by have:=hvb _ e.symm;omega);refine ⟨hL5,fun a'=> ?_⟩;rw[if_neg (by omega),hm] at hst;have hkM:Kept M W3 w5:=⟨hk5.os,hk5.tape,hk5.output,hk5.size,fun j o hj hn=>hk5.same j o hj (fun e=>hn (by
     rw[hM];refine .inr (.inr ⟨hvb j e.symm,?_⟩);rcases hrw.2 with ⟨rfl,_⟩|⟨t,cap,cur,rfl,q1,q2,_⟩
     ·cases e
     ·have e2:j=t:=by injection e
      rw[e2,q2] at hj;cases hj;exact ⟨_,_,rfl⟩))⟩
    have hkL:Kept (fun j (_:Obj)=>j=w.heap.size+1+1) wc w5:=⟨hk5.os.trans Xg.os,hk5.tape.trans Xg.tape,hk5.output.trans Xg.output,Nat.le_trans hz3 hk5.size,fun j o hj hn=>hk5.same j o (Xg.same j o hj hn) (fun e=>by
     have h1:=hvb _ e.symm;have h2:=(Array.getElem?_eq_some_iff.1 hj).1;omega)⟩
    have Pk:KeepsFrom wc.heap.size W3 w5:=⟨hk5.size,fun j o hj ho hc=>hk5.same j o ho (fun e=>by
     rcases hrw.2 with ⟨rfl,_⟩|⟨t,cap,cur,rfl,q1,q2,_⟩
     ·cases e
     ·have e2:j=t:=by injection e
      rw[e2,q2] at ho;cases ho;cases hc)⟩
    refine ⟨KeepsFrom.tr Pk (KeepsFrom.Em hL5 v'),(YP.trans hkM).setCell (p:=⟨w.heap.size+1+1,0,none⟩) (fun _ _=>by rw[hM];exact .inl rfl) v',⟨⟨v',?_,by simpa using hL5.av 0 v'⟩,hkL.setCell (p:=⟨w.heap.size+1+1,0,none⟩) (fun _ _=>rfl) v'⟩⟩;rw[hst];exact ownsRow_setCell_other h5 (fun e=>by have:=(h5.lt _ e).1;have e3:(⟨w.heap.size+1+1,0,none⟩:Addr).block=w.heap.size+1+1:=rfl;omega) v'
   have U4:=ah U3;have HSK:=ah U2;have je:=ah aay;clear hXw hPw hLw hrw hrow hbk hK hW3 Xg YP Td YK hM U2 U3 aay hst hvb;by_cases hc:rb≤q
   ·by_cases hr:ra≤rb
    ·have d1:decide (rb<ra)=false:=decide_eq_false (by omega)
     gi_wp2_with fail
     refine ⟨trivial,CallsIn.inRound l' ((callsIn_wide (n:=2)).2 ((U4.out rb).mono ?_))⟩;rintro e w5 ⟨v',rfl,zK,hk5,_⟩;obtain ⟨hL5,U5⟩:=je.out rb v' w5 (by omega) hr zK hk5;obtain ⟨A5,c5',rfl,_,_⟩:=dG.cB (l:=fO (lW x (dO.filter (eF x.sn)) k) (ra,rb)) zK;have c5:=hL5.cell 0;have f5:=hL5.frozen 0;simp at c5;have HF5:=ah U5;clear U5 hL5 zK hk5
     gi_wp2_with fail
     exact HF5.out _
    ·have d1:decide (rb<ra)=true:=decide_eq_true (by omega)
     gi_wp2_with fail
     exact HSK.out _ (by omega)
   ·by_cases hr:ra≤q
    ·have d1:decide (q<ra)=false:=decide_eq_false (by omega)
     gi_wp2_with fail
     refine ⟨trivial,CallsIn.inRound l' ((callsIn_wide (n:=2)).2 ((U4.out q).mono ?_))⟩;rintro e w5 ⟨v',rfl,zK,hk5,_⟩;obtain ⟨hL5,U5⟩:=je.out q v' w5 (by omega) hr zK hk5;obtain ⟨A5,c5',rfl,_,_⟩:=dG.cB (l:=fO (lW x (dO.filter (eF x.sn)) k) (ra,q)) zK;have c5:=hL5.cell 0;have f5:=hL5.frozen 0;simp at c5;have HF5:=ah U5;clear U5 hL5 zK hk5
     gi_wp2_with fail
     exact HF5.out _
    ·have d1:decide (q<ra)=true:=decide_eq_true (by omega)
     gi_wp2_with fail
     exact HSK.out _ (by omega)
end
end
section
open Go.RowKit
def vK (aL:Int) (acc:List Nk) (n:Nk):Bool:=decide (acc.length<512)&&(iD aL n&&(match acc.getLast? with|none=>true|some m=>lD aL m n))
def I6 (bs:List UInt8) (pos:Nat):Option (Nk × Bool × Nat):=
 if 8*bs.length<pos+12 then none
 else if val (aF bs (pos+11) 1)=1 then
  if 8*bs.length<pos+42 then none
  else some (⟨(val (aF bs pos 10):Nat),true,(val (aF bs (pos+12) 15):Nat),(val (aF bs (pos+27) 15):Nat)⟩,decide (val (aF bs (pos+10) 1)=1),pos+42)
 else some (⟨(val (aF bs pos 10):Nat),false,0,0⟩,decide (val (aF bs (pos+10) 1)=1),pos+12)
def oQ (bs:List UInt8) (aL:Nat):Nat→Bool→Nat→List Nk→Sum Nat (List Nk × Nat)
 |_,false,pos,acc=> .inr (acc,pos)
 |0,true,_,_=> .inl 9
 |f+1,true,pos,acc=>match I6 bs pos with
  |none=> .inl 5
  |some (n,more,p)=>if vK aL acc n=true then oQ bs aL f more p (acc++ [n]) else .inl 9
def DV (bs:List UInt8) (pos:Nat):Bool:=decide (8*bs.length-pos<8)&&decide (val (aF bs pos (mY pos))=0)
def oU (bs:List UInt8):Sum Nat (Nat × List Nk):=
 if 8*bs.length<15 then .inl 5
 else if val (aF bs 0 4)≠0 then .inl 9
 else match oQ bs (val (aF bs 4 10)) 513 (decide (val (aF bs 14 1)=1)) 15 [] with
  | .inl e=> .inl e
  | .inr (l,pos)=>if DV bs pos=true then .inr (val (aF bs 4 10),l) else .inl 9
theorem mid (a b c:List Bool) (X:List Bool) (p k:Nat) (hX:X=a++(b++c)) (hp:a.length=p) (hk:b.length=k):aF (pack X) p k=b:=by
 have:=IR a b c [] p k hp hk;rw[List.append_nil] at this;rw[hX];exact this
end
section
open Go.RowKit Go.Shelf
attribute [local go_sem] Oper.semAt_some
structure YZ (c:Cf):Prop where
 r1:0≤c.reorder
 r2:c.reorder≤1048576
 p1:0≤c.gP
 p2:c.gP≤1048576
section
variable {w w':World} {T:Nat→Nat} {g M n:Nat} {c:Cf} {st:Rc} {vo:Value}
theorem dP.clock (ho:dP st) {now:Int} (hn:now≤9223372036854775807):dP (jX st now):=
 ⟨ho.n1,ho.n2,ho.n3,ho.n4,ho.m,ho.op,by have:=ho.t1;unfold jX;dsimp only;split<;>omega,by have:=ho.t2;unfold jX;dsimp only;split<;>omega⟩
theorem dP.waits (ho:dP st) (c:Cf):dP (vQ c st):=⟨ho.n1,ho.n2,ho.n3,ho.n3,ho.m,ho.op,ho.t1,ho.t2⟩
theorem dP.fires (ho:dP st) (c:Cf):dP (vR c st):=by
 have h2:dP {st with status:=qh st.m 1024 st.jM,due:=true,ro:=false}:=⟨ho.n1,uy _ _ _ ho.n4,ho.n3,ho.n4,ho.m,ho.op,ho.t1,ho.t2⟩;unfold vR;dsimp only;split
 ·exact h2.waits c
 ·exact h2
theorem dP.goes (ho:dP st) (c:Cf) {now:Int} (hn:now≤9223372036854775807):dP (dI c st now):=by
 unfold dI;split
 ·exact ho.clock hn
 ·exact (ho.clock hn).fires c
set_option maxHeartbeats 1000000 in
theorem wm (h:gI w T g M n c st vo) (ho:dP st) (hcf:YZ c) (now:Int) (hn:now≤9223372036854775807):
 Calls Tryz.prog 80 #[.pointer (some ⟨g,0,none⟩),.int .i64 now] w fun e w'=>e= .returned (.tuple #[])∧gI w' T g M n c (dI c st now) vo∧Kept (MT T) w w':=by
 have ht:∀o:Obj,MT T g o:=fun o=>by unfold MT;rw[h.tg];omega
 have HT:=ah ht;have HO:=ah (ho.clock hn);have HCF:=ah hcf;have HG:=ah (show dI c st now=if st.ro=false∨(jX st now).now<st.exp then jX st now else vR c (jX st now) from rfl);have Q9:=(h.cells).2.2.2.2.2.2.2.2.2.2.2.1;have f16:=h.blk.frozen 16;have HH:=ah h;clear h ho hcf ht;go_enter Tryz.func80,Tryz.ntmps80;go_upto_region 1 with (fail)
 have h1:=HH.out.put 16 (.int .i64 (if st.now<now then now else st.now)) (st':=jX st now) rfl rfl rfl;have hk1:Kept (MT T) w (w.setCell ⟨g,16,none⟩ (.int .i64 (if st.now<now then now else st.now))):=(Kept.refl _ w).setCell (p:=⟨g,16,none⟩) (fun o _=>HT.out o) _;generalize w.setCell ⟨g,16,none⟩ (.int .i64 (if st.now<now then now else st.now))=wc at*;generalize (if st.now<now then now else st.now)=nv at*;have hro:(jX st now).ro=st.ro:=rfl;have abw:(jX st now).exp=st.exp:=rfl;rw[←hro,←abw] at HG;clear hro abw Q9 f16 HH;generalize jX st now=s1 at*;obtain ⟨x3,x4,x7,x8,x9,x10,vF,FB,Q8,CB,Sv,Q9,OZ,x18⟩:=h1.cells;have H1:=ah h1;have HK:=ah hk1;clear h1 hk1 x4 x7 x8 x9 x10 CB Sv OZ x18;cases hro:s1.ro with
 |false=>
  rw[hro] at vF;have hg:=HG.out;rw[if_pos (.inl hro)] at hg;have Qf:=ah hg;clear hg hro;go_wp2_with fail
  go_quiet (fail)
  go_wp2_with fail;refine bodyPost_ret (results_none rfl _ _ _) rfl ?_;rw[Qf.out];exact ⟨rfl,H1.out.drewN nq,HK.out.drewN nq⟩
 |true=>
  rw[hro] at vF;by_cases hlt:s1.now<s1.exp
  ·have hg:=HG.out;rw[if_pos (.inr hlt)] at hg;have d1:decide (s1.now<s1.exp)=true:=by simpa using hlt
   have Qf:=ah hg;clear hg hro;go_wp2_with fail
   go_quiet (fail)
   go_wp2_with fail;refine bodyPost_ret (results_none rfl _ _ _) rfl ?_;rw[Qf.out];exact ⟨rfl,H1.out.drewN nq,HK.out.drewN nq⟩
  ·have hg:=HG.out;rw[if_neg (by rw[hro];simp;omega)] at hg;unfold vR at hg;dsimp only at hg;have d1:decide (s1.now<s1.exp)=false:=by simpa using hlt
   have Qf:=ah hg;clear hg hro;go_wp2_with fail
   go_quiet (fail)
   have h2:=H1.out.drewN nq;have hk2:=HK.out.drewN nq;generalize wc.drewN nq=w2 at*;have hfr:=Cz h2 HO.out s1.jM HO.out.n4;have K8:=ah hfr;have H2:=ah h2;have wG:=ah hk2;have hfl:=uy s1.m 1024 s1.jM HO.out.n4;clear hfr h2 hk2 x3 vF Q8 Q9 H1 HK;generalize qh s1.m 1024 s1.jM=F at*;have FB:=H2.out.cells.2.2.2.2.2.2.2.1;go_upto_region 3 with (go_at_call 99;refine K8.out.mono ?_;rintro e3 w3 ⟨rfl,hb3⟩;have h3:=H2.out.below hb3;have f9:=h3.blk.frozen 9;have c9:=h3.cells.2.2.2.2.1;have lX:=ah (wG.out.trans (qm hb3));have H3:=ah h3;clear h3 hb3)
   have h4:=H3.out.put 9 (.int .i64 (F:Nat)) (st':= {s1 with status:=F}) rfl rfl rfl;have hk4:=lX.out.setCell (p:=⟨g,9,none⟩) (fun o _=>HT.out o) (.int .i64 (F:Nat));generalize w3.setCell ⟨g,9,none⟩ (.int .i64 (F:Nat))=w4 at*;have f14:=h4.blk.frozen 14;have f11:=h4.blk.frozen 11;have c14:=h4.cells.2.2.2.2.2.2.2.2.2.1;have c11:=h4.cells.2.2.2.2.2.2.1;have h5:=(h4.put 14 (.bool true) (st':= {s1 with status:=F,due:=true}) rfl rfl rfl).put 11 (.bool false) (st':= {s1 with status:=F,due:=true,ro:=false}) rfl rfl rfl;have hk5:=(hk4.setCell (p:=⟨g,14,none⟩) (fun o _=>HT.out o) (.bool true)).setCell (p:=⟨g,11,none⟩) (fun o _=>HT.out o) (.bool false);have H5:=ah h5;have rD:=ah hk5;clear h4 hk4 h5 hk5 H3 lX FB f9 c9;go_upto_region 4 with (fail)
   generalize (w4.setCell ⟨g,14,none⟩ (.bool true)).setCell ⟨g,11,none⟩ (.bool false)=w5 at*;obtain ⟨y3,y4,y7,y8,y9,AU,PU,sP,y13,CG,IA,wS,Pf,Eg⟩:=H5.out.cells;have E8:dP {s1 with status:=F,due:=true,ro:=false}:=⟨HO.out.n1,hfl,HO.out.n3,HO.out.n4,HO.out.m,HO.out.op,HO.out.t1,HO.out.t2⟩;have HO5:=ah E8;clear f14 f11 c14 c11 y3 y4 y7 y8 PU sP y13 CG IA wS Pf Eg E8
   replace y9:w5.cell? ⟨g,9,none⟩=some (.int .i64 (F:Nat)):=y9
   replace AU:w5.cell? ⟨g,10,none⟩=some (.int .i64 (s1.high:Nat)):=AU
   by_cases he:s1.high=F
   ·have hgg:=Qf.out;rw[if_neg (by simpa using he)] at hgg;have d2:((s1.high:Int) !=(F:Int))=false:=by simp;omega
    have YH:=ah hgg;clear hgg he;go_wp2_with fail
    go_quiet (fail)
    go_wp2_with fail
    go_end0
    rw[YH.out];exact ⟨rfl,H5.out.drewN _,rD.out.drewN _⟩
   ·have hgg:=Qf.out;rw[if_pos he] at hgg;have d2:((s1.high:Int) !=(F:Int))=true:=by simp;omega
    have YH:=ah hgg;clear hgg he;have hwt:=fun q=>zx (H5.out.drewN q) HO5.out HCF.out.r1 (by have:=HCF.out.r2;omega)
    have HWT:=ah hwt;clear hwt;go_wp2_with fail
    go_quiet (fail)
    go_wp2_with (go_at_call 101;refine (HWT.out _).mono ?_;rintro e6 w6 ⟨rfl,h6,lg⟩)
    go_end0
    rw[YH.out];exact ⟨rfl,h6,(rD.out.drewN _).trans lg⟩
end
end
end Go.Proofs.YtbhiklnljiehiaaGreat
