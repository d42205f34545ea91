/- status.Encode. -/
import Derived.Test.YtbhiklnljiehiaaGreatM1ba
import Derived.Deep.RegionWith
namespace Go.Proofs.YtbhiklnljiehiaaGreat
section
open Go.RowKit Go.Shelf
attribute [local go_sem] Oper.semAt_some
theorem Dk {aJ:Int} {x:Nk} (h:iB aJ x=true):(0≤x.sn∧x.sn<1024)∧(0≤x.fr∧x.fr≤32767∧0≤x.lt∧x.lt≤32767):=by
 unfold iB at h;simp only[Bool.and_eq_true,decide_eq_true_eq] at h;obtain ⟨h1,_,h2⟩:=h;refine ⟨h1,?_⟩;split at h2
 ·simp only[Bool.and_eq_true,decide_eq_true_eq] at h2;omega
 ·simp only[Bool.and_eq_true,decide_eq_true_eq] at h2;omega
theorem Hu {aJ:Int} {l:List Nk} (h:bS aJ l=true) {k:Nat} {x:Nk} (hx:l[k]? =some x):iB aJ x=true:=by
 unfold bS at h;simp only[Bool.and_eq_true] at h;exact ((jI aJ l).1 h.2.2 k x hx).1
theorem xS (l:List Nk):∀k,(aH (jQ l k)).length≤42*k
 |0=>by simp[jQ,aH]
 |k+1=>by
  have ih:=xS l k;rw[jQ,gM,List.length_append];have:(aH (Bj (decide (k+1<l.length)) (l[k]?.getD nk0))).length≤42:=by
   unfold Bj;rw[gM,List.length_append];split<;>simp[aH]
  omega
section
variable (w:World)
set_option maxRecDepth 10000 in
set_option maxHeartbeats 2000000 in
theorem Hw (aJ:Int) (A:Option Addr) (n c:Nat) (l:List Nk) (h:bX w A n c l) (hv:bS aJ l=false):
 Calls Tryz.prog 83 #[.agg #[.int .i64 aJ,.slice A n c]] w fun e w'=>e= .returned (.tuple #[.slice none 0 0,.int .i64 2])∧Below w.heap.size w w':=by
 have hB:Below w.heap.size w (w.alloc (.cells #[.int .i64 aJ,.slice A n c] 133)):=(Below.refl _ w).alloc (aN) _;have hva:=kV _ aJ A n c l (h.alloc (.cells #[.int .i64 aJ,.slice A n c] 133));rw[hv] at hva;have HB:=ah hB;have HV:=ah hva;clear hB hva hv h;go_enter Tryz.func83,Tryz.ntmps83;go_wp2_with (go_at_call 119;refine HV.out.mono ?_;rintro e1 w1 ⟨rfl,hb1⟩)
 go_ret2
 exact ⟨rfl,HB.out.trans (hb1.mono HB.out.size)⟩
set_option maxRecDepth 100000 in
set_option maxHeartbeats 4000000 in
theorem J9 (aJ:Nat) (A:Option Addr) (n c:Nat) (l:List Nk) (h:bX w A n c l) (hv:bS (aJ:Int) l=true):
 Calls Tryz.prog 83 #[.agg #[.int .i64 (aJ:Int),.slice A n c]] w (rz w.heap.size 5 w (rA aJ l).length (bQ (rA aJ l)) 0):=by
 have hlen:=h.len;have hcap:=h.cap;have hmx:=h.mx;have hva:=kV _ (aJ:Int) A n c l (h.alloc (.cells #[.int .i64 (aJ:Int),.slice A n c] 133));rw[hv] at hva;have hv2:=hv;unfold bS at hv2;simp only[Bool.and_eq_true,decide_eq_true_eq] at hv2;have ama:aJ≤1023:=by have:=hv2.1.2;omega
 have aaO:n≤512:=by have:=hv2.2.1;omega
 have hB:Below w.heap.size w (w.alloc (.cells #[.int .i64 (aJ:Int),.slice A n c] 133)):=(Below.refl _ w).alloc (aN) _;have b0:=au.new w 133 #[.int .i64 (aJ:Int),.slice A n c];have hN0:=h.alloc (.cells #[.int .i64 (aJ:Int),.slice A n c] 133);have HB:=ah hB;have HV:=ah hva;have HL:=ah hlen;have LB:=ah hv;clear hB hva hv hv2 hlen h;go_enter Tryz.func83,Tryz.ntmps83;go_wp2_with fail;refine HV.out.mono ?_;rintro e1 w1 ⟨rfl,hb1⟩;have hbw:Below w.heap.size w w1:=HB.out.trans (hb1.mono HB.out.size)
 replace b0:=b0.below hb1 b0.lt
 have hN1:=hN0.below hb1;have hlt1:=b0.lt;clear HV hb1 HB hN0;go_wp2_with fail;have hW2:pV (w1.alloc (.cells #[.slice none 0 0,.int .i64 0] 202)) w1.heap.size w1.heap.size []:=⟨aN,_,au.new w1 _ _,World.ownsRow_nil _ _ _ _⟩;have hbw2:=hbw.alloc hbw.size (.cells #[.slice none 0 0,.int .i64 0] 202)
 replace b0:=b0.alloc (.cells #[.slice none 0 0,.int .i64 0] 202)
 have Tk:=hN1.alloc (.cells #[.slice none 0 0,.int .i64 0] 202);obtain ⟨g,hg⟩:∃g,g=w1.heap.size:=⟨_,rfl⟩
 have hgl:w.heap.size<g:=by omega
 have hNb:∀ad,A=some ad→0<n→ad.block<g:=fun ad e h0=>by
  obtain ⟨zR,e',hb',_⟩:=hN1.at_ h0;rw[e] at e';cases e';omega
 rw[←hg] at hW2 ⊢;generalize w1.alloc (.cells #[.slice none 0 0,.int .i64 0] 202)=w2 at*;clear hbw hlt1 hg hN1;have c00:=b0.cell 0;have c01:=b0.cell 1;simp at c00 c01;have hwr:IntKind.u64.wrap (aJ:Int)=aJ:=by rw[IntKind.wrap_u64];omega
 have hdn:decide ((0:Int)<n)=decide (0<n):=by rw[Bool.eq_iff_iff];simp
 refine wp_region_still_tail 11 (by kernel_rfl) (by kernel_rfl) ?_;simp only[List.take_succ_cons,List.take_zero,List.drop_succ_cons,List.drop_zero]
 still_step
 still_step
 still_step
 still_step
 still_step
 still_step
 still_step
 still_step
 still_step
 still_call (xR _ _)
 still_step
 refine wpStill_nil ?_;change wpList _ _ _ _ _ w2.drew
 replace hW2:pV w2.drew g g []:=hW2
 replace hbw2:=hbw2.drew
 replace b0:=b0.drew
 have Vt:=Tk.below ((Below.refl _ w2).drew);generalize w2.drew=w3 at*;clear c00 c01 hwr hdn Tk;have hput:=jC g g w3.heap.size [] [(0,4),(aJ,10),((decide (0<n)).toNat,1)] (w3.alloc (.cells (bU [(0,4),(aJ,10),((decide (0<n)).toNat,1)]).toArray 206)) (hW2.alloc _) (by simp) (by simp) (au.new _ _ _) (by
  intro x hx;simp only[List.mem_cons,List.not_mem_nil,or_false] at hx;have hb:∀b:Bool,b.toNat≤1:=fun b=>by cases b<;>simp
  rcases hx with rfl|rfl|rfl
  ·exact ⟨by omega,by decide,by omega⟩
  ·exact ⟨by omega,by simp;omega,by omega⟩
  ·exact ⟨by omega,by have:=hb (decide (0<n));simp;omega,by have:=hb (decide (0<n));omega⟩)
 simp only[bU,List.length_cons,List.length_nil,Nat.zero_add,Nat.reduceAdd,List.nil_append] at hput;have nC:=ah hput;clear hput;go_wp2_with fail;refine nC.out.mono ?_;rintro e4 w4 ⟨rfl,WT,hk4⟩;have hg3:g<w3.heap.size:=by obtain ⟨_,v,hb,_⟩:=hW2;exact hb.lt
 clear nC hW2;have hB4:=hk4.below (B:=g) (fun _ _ h=>h.1) (by simp;omega);have SN:=(hbw2.alloc hbw2.size _).trans (hB4.mono (by omega));have b04:=(b0.alloc (.cells #[.int .u64 0,.int .i64 4,.int .u64 aJ,.int .i64 10,.int .u64 (decide (0<n)).toNat,.int .i64 1] 206)).below hB4 (by omega);have hN4:bX w4 A n c l:=by
  have h1:=Vt.alloc (.cells #[.int .u64 0,.int .i64 4,.int .u64 aJ,.int .i64 10,.int .u64 (decide (0<n)).toNat,.int .i64 1] 206);exact h1.Pp hB4 hNb
 clear hB4 hbw2 hk4 b0 Vt;have c01:=b04.cell 1;simp at c01;obtain ⟨hd,hhd⟩:∃hd:List (Nat × Nat),hd= [(0,4),(aJ,10),((decide (0<n)).toNat,1)]:=⟨_,rfl⟩
 rw[←hhd] at WT;have hlH:(aH hd).length=15:=by rw[hhd];simp[aH]
 have henc:rA aJ l=pack (aH hd++aH (jQ l n)):=by unfold rA;rw[HL.out,hhd,gM]
 have HLH:=ah hlH;have HE:=ah henc;have B04:=ah b04;have Xe:=ah hN4;generalize hEE:rA aJ l=EE at*;clear hlH henc hhd hEE b04 hN4;go_wp2
 go_loopw [26] (fun i wr=>∃k:Nat,k≤n∧i= .int .i64 k∧pV wr g g (aH hd++aH (jQ l k))∧Kept (Mw g g) w4 wr) (fun i _=>n-(intOf i).toNat)
 case atStart=>exact ⟨0,Nat.zero_le _,rfl,by simpa[jQ,aH] using WT,Kept.refl _ _⟩
 case round=>
  obtain ⟨k,hk,rfl,O4,Vh⟩:=hrel;have hgr:g<wr.heap.size:=by obtain ⟨_,v,hb,_⟩:=O4;exact hb.lt
  have hg4:g<w4.heap.size:=by obtain ⟨_,v,hb,_⟩:=WT;exact hb.lt
  have JR:=Vh.below (B:=g) (fun _ _ h=>h.1) (by omega);have JS:=SN.trans (JR.mono (by omega));by_cases hlt:k<n
  ·obtain ⟨ad,x,rfl,hx,hbk,k0,k1,k2,k3⟩:=(Xe.out.Pp JR hNb).get hlt;obtain ⟨⟨hs0,hs1⟩,hx2,hx3,hx4,hx5⟩:=Dk (Hu LB.out hx);have hsu:jQ l (k+1)=jQ l k++Bj (decide (k+1<n)) x:=by rw[jQ,hx,HL.out];rfl
   obtain ⟨xs,xp,xf,xl⟩:=x;dsimp only at k0 k1 k2 k3 hs0 hs1 hx2 hx3 hx4 hx5;obtain ⟨xs,rfl⟩:=Int.eq_ofNat_of_zero_le hs0;obtain ⟨xf,rfl⟩:=Int.eq_ofNat_of_zero_le hx2;obtain ⟨xl,rfl⟩:=Int.eq_ofNat_of_zero_le hx4;have hlk:(aH hd++aH (jQ l k)).length≤50000:=by
    rw[List.length_append,HLH.out];have:=xS l k;omega
   have Fu:aH hd++aH (jQ l (k+1))=(aH hd++aH (jQ l k))++aH ([(xs,10),((decide (k+1<n)).toNat,1),(xp.toNat,1)]++(if xp=true then [(xf,15),(xl,15)] else [])):=by
    rw[hsu,gM];simp[Bj]
   obtain ⟨FN,Xf⟩:∃FN,aH hd++aH (jQ l (k+1))=FN:=⟨_,rfl⟩
   rw[Xf] at Fu;have aaQ:=ah Xf;clear Xf;generalize aH hd++aH (jQ l k)=FK at*;have hz0:au (wr.alloc (.cells #[.int .i64 (xs:Int),.bool xp,.int .i64 (xf:Int),.int .i64 (xl:Int)] 197)) wr.heap.size 197 #[.int .i64 (xs:Int),.bool xp,.int .i64 (xf:Int),.int .i64 (xl:Int)]:=au.new wr _ _;have Vg:=O4.alloc (.cells #[.int .i64 (xs:Int),.bool xp,.int .i64 (xf:Int),.int .i64 (xl:Int)] 197);have Oi:=Vh.alloc (.cells #[.int .i64 (xs:Int),.bool xp,.int .i64 (xf:Int),.int .i64 (xl:Int)] 197);have hb5:=(B04.out.below JR (by omega)).alloc (.cells #[.int .i64 (xs:Int),.bool xp,.int .i64 (xf:Int),.int .i64 (xl:Int)] 197);have RU:=ah Fu;have HX:=ah hx;have HW5:=ah Vg;have ve:=ah Oi;have JA:=ah hb5;have HZ0:=ah hz0;have Zs:=ah (hz0.lt);clear hsu Fu hx O4 Vh Vg Oi hz0 hb5 JR;go_wp2_with fail;obtain ⟨bx,hbx⟩:∃b,b=wr.heap.size:=⟨_,rfl⟩
   have HZB:=ah (show wr.heap.size≤bx by omega);rw[←hbx] at HZ0 Zs ⊢;generalize wr.alloc (.cells #[.int .i64 (xs:Int),.bool xp,.int .i64 (xf:Int),.int .i64 (xl:Int)] 197)=w5 at*;have z0:=HZ0.out.cell 0;have z1:=HZ0.out.cell 1;have z2:=HZ0.out.cell 2;have z3:=HZ0.out.cell 3;have z4:=JA.out.cell 1;simp at z0 z1 z2 z3 z4;clear k0 k1 k2 k3 c01 hbx;have hwr:IntKind.u64.wrap (xs:Int)=xs:=by rw[IntKind.wrap_u64];omega
   have hw1:IntKind.i64.wrap ((k:Int)+1)=(k:Int)+1:=IntWalk.i64_in _ (by omega);have hdn:decide ((k:Int)+1<(n:Int))=decide (k+1<n):=by rw[Bool.eq_iff_iff];simp;omega
   refine wp_region_still_tail 16 (by kernel_rfl) (by kernel_rfl) ?_;simp only[List.take_succ_cons,List.take_zero,List.drop_succ_cons,List.drop_zero]
   still_step
   still_step
   still_step
   still_step
   still_step
   still_step
   still_step
   still_step
   still_step
   still_step
   still_call (xR _ _)
   still_step
   still_step
   still_step
   still_call (xR _ _)
   still_step
   refine wpStill_nil ?_;change wpList _ _ _ _ _ w5.drew;clear z0 z1 z2 z3 z4 hwr;have LF:=HZ0.out.drew;have hW6:pV w5.drew g g FK:=HW5.out;have Vu:=ve.out.drew;have MQ:=ah LF;have vg:=ah Vu;have HW6:=ah hW6;have aaR:=ah (show bx<w5.drew.heap.size from Zs.out);clear HZ0 HW5 ve JA Zs LF hW6 Vu;generalize w5.drew=w6 at*
   try simp only[hw1,hdn]
   obtain ⟨d,hd0⟩:∃d,d=decide (k+1<n):=⟨_,rfl⟩
   have Tm:=ah (show FN=FK++aH ([(xs,10),(d.toNat,1),(xp.toNat,1)]++(if xp=true then [(xf,15),(xl,15)] else [])) by rw[hd0];exact RU.out);rw[←hd0];clear hw1 hdn hd0 RU;have hbt:∀b:Bool,b.toNat≤1:=fun b=>by cases b<;>simp
   have hput:=jC g g w6.heap.size FK [(xs,10),(d.toNat,1),(xp.toNat,1)] (w6.alloc (.cells (bU [(xs,10),(d.toNat,1),(xp.toNat,1)]).toArray 206)) (HW6.out.alloc _) (by omega) (by simp) (au.new _ _ _) (by
    intro x hx;simp only[List.mem_cons,List.not_mem_nil,or_false] at hx;rcases hx with rfl|rfl|rfl
    ·exact ⟨by omega,by simp;omega,by omega⟩
    ·exact ⟨by omega,by have:=hbt d;simp;omega,by have:=hbt d;omega⟩
    ·exact ⟨by omega,by have:=hbt xp;simp;omega,by have:=hbt xp;omega⟩)
   simp only[bU,List.length_cons,List.length_nil,Nat.zero_add,Nat.reduceAdd] at hput;have nC:=ah hput;clear hput;go_wp2_with fail;refine nC.out.mono ?_;rintro e7 w7 ⟨rfl,O3,zA⟩;have SQ:=zA.below (B:=g) (fun _ _ h=>h.1) (by have:=aaR.out;have:=HZB.out;simp;omega);have Pq:=(vg.out.alloc (.cells #[.int .u64 xs,.int .i64 10,.int .u64 d.toNat,.int .i64 1,.int .u64 xp.toNat,.int .i64 1] 206)).trans zA;have hz7:au w7 bx 197 #[.int .i64 (xs:Int),.bool xp,.int .i64 (xf:Int),.int .i64 (xl:Int)]:=by
    refine (MQ.out.alloc (.cells #[.int .u64 xs,.int .i64 10,.int .u64 d.toNat,.int .i64 1,.int .u64 xp.toNat,.int .i64 1] 206)).kept zA ?_;rintro ⟨_,e|⟨cs,fr,e⟩⟩
    ·have:=HZB.out;omega
    ·cases e
   have hl7:(FK++aH [(xs,10),(d.toNat,1),(xp.toNat,1)]).length≤60000:=by simp[aH];omega
   have HW7:=ah O3;have Oj:=ah Pq;have Xg:=ah hz7;clear nC SQ O3 Pq zA hz7 HW6 vg MQ aaR;have z1:=Xg.out.cell 1;have z2:=Xg.out.cell 2;have z3:=Xg.out.cell 3;simp at z1 z2 z3;cases xp with
   |false=>
    have hfn:FN=FK++aH [(xs,10),(d.toNat,1),((false).toNat,1)]:=by rw[Tm.out];rfl
    have Ps:=ah hfn;clear hfn Tm hbt;go_wp2_with fail
    go_roundw
    case rel=>exact ⟨k+1,by omega,by go_num,by rw[aaQ.out,Ps.out];exact HW7.out,Oj.out⟩
    case measure=>simp[intOf];omega
   |true=>
    have hfn:FN=(FK++aH [(xs,10),(d.toNat,1),((true).toNat,1)])++aH [(xf,15),(xl,15)]:=by rw[Tm.out,List.append_assoc,←gM];rfl
    have Ps:=ah hfn;have hput:=jC g g w7.heap.size _ [(xf,15),(xl,15)] (w7.alloc (.cells (bU [(xf,15),(xl,15)]).toArray 206)) (HW7.out.alloc _) (by omega) (by simp) (au.new _ _ _) (by
     intro x hx;simp only[List.mem_cons,List.not_mem_nil,or_false] at hx;rcases hx with rfl|rfl
     ·exact ⟨by omega,by simp;omega,by omega⟩
     ·exact ⟨by omega,by simp;omega,by omega⟩)
    simp only[bU,List.length_cons,List.length_nil,Nat.zero_add,Nat.reduceAdd] at hput;have nC:=ah hput;have hwf:IntKind.u64.wrap (xf:Int)=xf:=by rw[IntKind.wrap_u64];omega
    have hwl:IntKind.u64.wrap (xl:Int)=xl:=by rw[IntKind.wrap_u64];omega
    clear hput hfn Tm hbt;go_wp2_with fail;refine nC.out.mono ?_;rintro e8 w8 ⟨rfl,hW8,Pt⟩;have HW8:=ah hW8;have RV:=ah ((Oj.out.alloc (.cells #[.int .u64 xf,.int .i64 15,.int .u64 xl,.int .i64 15] 206)).trans Pt);clear hW8 Pt nC;go_wp2_with fail
    go_roundw
    case rel=>exact ⟨k+1,by omega,by go_num,by rw[aaQ.out,Ps.out];exact HW8.out,RV.out⟩
    case measure=>simp[intOf];omega
  ·obtain rfl:k=n:=by omega
   have hlk:(aH hd++aH (jQ l k)).length≤50000:=by
    rw[List.length_append,HLH.out];have:=xS l k;omega
   have hby:=DL g g _ wr O4 (by omega);have HBY:=ah hby;clear hby O4 hlk;go_wp2_with fail;refine HBY.out.mono ?_;rintro e7 w7 ⟨v7,rfl,hv7,oZ⟩;have SQ:=JS.trans (oZ.mono (by have:=JS.size;omega));rw[←HE.out] at hv7;have HV7:=ah (aU (base':=w.heap.size) hv7 JS.size);have HB7:=ah SQ;clear SQ hv7 oZ;go_wp2_with fail
   go_ret2
   exact ⟨v7,rfl,HV7.out,HB7.out⟩
end
end
section
open Go.RowKit Go.Shelf
attribute [local go_sem] Oper.semAt_some
theorem TW (y:Nk) (h:0≤(M9 y).1∧0≤(M9 y).2):(M9 y).1=((gD y).1:Int)∧(M9 y).2=((gD y).2:Int):=by
 unfold M9 gD at*;split
 ·rename_i hp;simp only[hp,if_true] at h;dsimp only;omega
 ·dsimp only;omega
def nI (x:Ou) (fl:List Nk) (k:Nat):List (Nat × Nat):=(fl.take k).foldl (fI (aC x)) []
theorem Eu (x:Ou) (fl:List Nk):nI x fl 0= []:=by simp[nI]
theorem Ev (x:Ou) (fl:List Nk) (k:Nat) (y:Nk) (h:fl[k]? =some y):nI x fl (k+1)=fI (aC x) (nI x fl k) y:=by
 unfold nI;rw[List.take_add_one,h];simp
theorem Qf (x:Ou) (dZ:List Nk):nI x (dZ.filter (fB x.sn)) (dZ.filter (fB x.sn)).length=cO dZ x:=by
 unfold nI cO fB;rw[List.take_length]
theorem KC (l:List (Nat × Nat)) (x:Nat × Nat):(gL l x).length≤l.length+1:=by
 unfold gL;cases hl:l.getLast? with
 |none=>simp
 |some y=>
  dsimp only;split
  ·simp
  ·simp
theorem Nc {l:List (Nat × Nat)} {x:Nat × Nat} {m:Nat} (h:∀r∈l,r.2<m) (hx:x.2<m):∀r∈gL l x,r.2<m:=by
 unfold gL;cases hl:l.getLast? with
 |none=>simpa using hx
 |some y=>
  dsimp only;split
  ·intro r hr;rcases List.mem_append.1 hr with hr|hr
   ·exact h r (List.dropLast_subset l hr)
   ·simp at hr;subst hr;exact hx
  ·intro r hr;rcases List.mem_append.1 hr with hr|hr
   ·exact h r hr
   ·simp at hr;subst hr;exact hx
theorem LV (x:Ou) (fl:List Nk) (hs:aC x≤100000):∀k,(nI x fl k).length≤k∧∀r∈nI x fl k,r.2<1000000
 |0=>by rw[Eu];simp
 |k+1=>by
  obtain ⟨h1,h2⟩:=LV x fl hs k;cases hy:fl[k]? with
  |none=>
   have e:nI x fl (k+1)=nI x fl k:=by unfold nI;rw[List.take_add_one,hy];simp
   rw[e];exact ⟨by omega,h2⟩
  |some y=>
   rw[Ev x fl k y hy];unfold fI;split
   ·exact ⟨by omega,h2⟩
   ·exact ⟨by have:=KC (nI x fl k) ((gD y).1,min (gD y).2 (aC x-1));omega,Nc h2 (by dsimp only;omega)⟩
structure ZF (wc:World) (lc:Nat) (x:Ou) (fl:List Nk) (k:Nat) (W:World):Prop where
 row:∃v,W.ownsRow wc.heap.size 39 2 v (nI x fl k).length (pE (nI x fl k))∧au W lc 150 #[v]
 kp:Kept (fun j _=>j=lc) wc W
theorem ZF.far {wc:World} {lc:Nat} {x:Ou} {fl:List Nk} (hlc:lc<wc.heap.size):Kq wc.heap.size (ZF wc lc x fl):=by
 refine ⟨fun k A B row hs hg hr=> ?_,fun k A B hs hb=> ?_⟩
 ·obtain ⟨⟨v,hv,hb⟩,hk⟩:=hs;refine ⟨⟨v,hv.kept hg ?_,hb.grown hg ?_⟩,hk.grown hg (fun j e o ho=> ?_)⟩
  ·rcases hv.2 with ⟨rfl,_⟩|⟨q,cap,cur,rfl,h1,h2,_⟩
   ·exact .inl rfl
   ·refine .inr (fun e=> ?_);obtain ⟨h3,o,h4,h5⟩:=hr q e.symm;rw[h2] at h4;cases h4;cases h5
  ·intro e;have:=(hr lc e.symm).1;omega
  ·have h1:=(hr j e).1;have h2:=(Array.getElem?_eq_some_iff.1 ho).1;omega
 ·obtain ⟨⟨v,hv,hbk⟩,hk⟩:=hs;refine ⟨⟨v,hv.kept (row:=none) ⟨hb.os,hb.tape,hb.output,hb.size,fun k hk _=>hb.block k hk⟩ ?_,hbk.below hb hbk.lt⟩,hk.trans (Kept.dP hb)⟩;cases h:v.ownBlock with
  |none=>exact .inl rfl
  |some j=>exact .inr (by simp)
section
variable {D F:Nat→Prop} {w:World}
set_option maxRecDepth 100000 in
set_option maxHeartbeats 4000000 in
theorem FO (aJ:Int) (dZ:List Nk) (A:Option Addr) (n c:Nat) (hN:bX w A n c dZ) (hn:n≤1000) (p:Nat) (x:Ou) {Ap Ar:Option Addr} {cp cr:Nat} {vp:List Value} (hO:iH w D F p x Ap cp vp Ar cr)
 (hv:∀y∈dZ,0≤(M9 y).1∧0≤(M9 y).2) (hsz:aC x≤100000) (h1:1≤aC x):
 Calls Tryz.prog 145 #[.agg #[.int .i64 aJ,.slice A n c],.pointer (some ⟨p,0,none⟩)] w (zM w (cO dZ x)):=by
 have Vt:=((hN.alloc (.cells #[.int .i64 aJ,.slice A n c] 133)).alloc (.cells #[.pointer (some ⟨p,0,none⟩)] 138)).alloc (.cells #[.slice none 0 0] 150);have hr0:=((au.new w 133 #[.int .i64 aJ,.slice A n c]).alloc (.cells #[.pointer (some ⟨p,0,none⟩)] 138)).alloc (.cells #[.slice none 0 0] 150);have hx0:=(au.new (w.alloc (.cells #[.int .i64 aJ,.slice A n c] 133)) 138 #[.pointer (some ⟨p,0,none⟩)]).alloc (.cells #[.slice none 0 0] 150);have hl0:=au.new ((w.alloc (.cells #[.int .i64 aJ,.slice A n c] 133)).alloc (.cells #[.pointer (some ⟨p,0,none⟩)] 138)) 150 #[.slice none 0 0];have hB0:Below w.heap.size w (((w.alloc (.cells #[.int .i64 aJ,.slice A n c] 133)).alloc (.cells #[.pointer (some ⟨p,0,none⟩)] 138)).alloc (.cells #[.slice none 0 0] 150)):=(((Below.refl _ w).alloc (aN) _).alloc (by simp) _).alloc (by simp;omega) _;have hs0:(((w.alloc (.cells #[.int .i64 aJ,.slice A n c] 133)).alloc (.cells #[.pointer (some ⟨p,0,none⟩)] 138)).alloc (.cells #[.slice none 0 0] 150)).heap.size=w.heap.size+3:=by simp
 simp only[World.size_alloc] at hx0 hl0;have HP0:=ah (hO.blk.below hB0 hO.blk.lt);have E7:=ah hO.blk.lt;have HN:=ah Vt;have HR0:=ah hr0;have HX0:=ah hx0;have HL0:=ah hl0;have HB0:=ah hB0;have HS0:=ah hs0;clear Vt hr0 hx0 hl0 hB0 hs0 hN hO;refine (callsIn_wide (n:=5)).1 ?_;refine callsIn_of_wp_marks Tryz.func145 rfl trivial ?_ rfl;simp only[Tryz.ntmps145,List.size_toArray,List.length_cons,List.length_nil,Nat.reduceAdd,Nat.reduceSub,Array.replicate_succ,Array.replicate_zero,List.push_toArray,List.append_toArray,List.nil_append,List.cons_append];refine (wpIn_wide (n:=5)).2 ?_;go_wp2_with fail;generalize ((w.alloc (.cells #[.int .i64 aJ,.slice A n c] 133)).alloc (.cells #[.pointer (some ⟨p,0,none⟩)] 138)).alloc (.cells #[.slice none 0 0] 150)=w3 at*;have z0:=HR0.out.cell 0;have z1:=HR0.out.cell 1;have z2:=HX0.out.cell 0;have z3:w3.cell? ⟨p,0,none⟩=some (.int .i64 (x.sn:Nat)):=HP0.out.cell 0;simp at z0 z1 z2;have HRG:=ah (fun (W:World) (hW:Below w3.heap.size w3 W)=>Io aJ x.sn A n c dZ W (HN.out.below hW) (by omega));go_cut [13] from 7 to 14 (fun s13 wx=>∃g b A' c',s13= .func (.func 208) #[] #[.pointer (some ⟨g,0,none⟩),.pointer (some ⟨b,0,none⟩)]∧
  au wx g 131 #[.slice A' n c']∧au wx b 3 #[.int .i64 (x.sn:Nat)]∧bX wx A' n c' dZ∧(∀ad,A'=some ad→w3.heap.size≤ad.block∧ad.block<wx.heap.size)∧w3.heap.size≤g∧w3.heap.size≤b∧Below w3.heap.size w3 wx)
 case first=>
  refine wp_region_noPanic ?_
  go_region_with (go_at_call 185;refine (HRG.out _ (by first|exact Below.refl _ _|exact (Below.refl _ _).drew|exact (Below.refl _ _).drewN _)).mono ?_;rintro e w5 ⟨g,b,A',c',rfl,k1,k2,k3,k4,k5,k6,k7⟩)
  all_goals
   refine NoPanic.normal ?_;go_wp2_with fail;go_meet;exact ⟨g,b,A',c',rfl,k1,k2,k3,k4,k5,k6,by first|exact k7|exact (Below.refl _ w3).drew.trans k7|exact ((Below.refl _ w3).drewN _).trans k7⟩
 case rest=>
  obtain ⟨g,b,A',c',rfl,k1,k2,k3,k4,k5,k6,k7⟩:=hcut;have K1:=ah k1;have K2:=ah k2;have K3:=ah k3;have K4:=ah k4;have K7:=ah k7;clear k1 k2 k3 k4 k7;go_wp2_with fail;have hw3:=HS0.out;have hwc:=K7.out.size;have hgl:=K1.out.lt;have hbl:=K2.out.lt;have HL:=ah (HL0.out.below K7.out HL0.out.lt);have HX:=ah (HX0.out.below K7.out HX0.out.lt);have HPp:=ah (HP0.out.below K7.out HP0.out.lt);have hpl:=HP0.out.lt;obtain ⟨M,hM⟩:∃M:Nat→Obj→Prop,M=fun k o=>k=w.heap.size+1+1∨k=wc.heap.size+1∨(wc.heap.size≤k∧∃cs r,o= .cells cs 39 r):=⟨_,rfl⟩
  have hseq:=KA 4 g b A' n c' dZ x.sn M wc K1.out K2.out K3.out (fun ad e=>(K4.out ad e).2) (by rw[hM];rintro o (h|h|h)<;>omega) (by rw[hM];rintro o (h|h|h)<;>omega)
   (by rw[hM];rintro ad e o (h|h|h)<;>have:=K4.out ad e<;>omega) (by rw[hM];rintro k o hk (h|h|h);omega;omega;exact h.2)
  apply (wpIn_wide (n:=5)).1;refine tT (gf:=208) (lb:= #[.pointer (some ⟨g,0,none⟩),.pointer (some ⟨b,0,none⟩)]) rfl (enters_of Tryz.func208 (by kernel_rfl) rfl)
   hseq Kept.trans ?a3 (Below.refl _ _) (fun k=>by unfold wH;split<;>rfl)
   (ZF wc (w.heap.size+1+1) x (dZ.filter (fB x.sn))) (ZF.far (by omega)) ?a5 ?a6 ?a7
  case a3=>
   intro Wk o o' ho hc;exact (Kept.refl _ Wk).grown (grownBy_putObj' Wk _ o') (fun j e _ _=>by cases e;rw[hM];exact .inr (.inl rfl))
  case a5=>exact ⟨⟨_,by rw[Eu];exact World.ownsRow_nil _ _ _ _,HL.out⟩,Kept.refl _ _⟩
  case a7=>
   rintro D Wk hD ⟨⟨v,hv,hb⟩,hK⟩ hDk;rw[Qf] at hv;obtain ⟨Av,cv,rfl,_,_⟩:=eH.dH (l:=cO dZ x) hv;have hlw:=Nat.lt_of_lt_of_le HL.out.lt hK.size;have l0:=hb.cell 0;have lf:=hb.frozen 0;simp at l0;have hDn:D≠w.heap.size+1+1:=by omega
   have hD1:(Wk.setCell ⟨w.heap.size+1+1,0,none⟩ (.slice Av (cO dZ x).length cv)).heap[D]? =some (.deferred (some [])):=(Below.heap_setCell Wk ⟨w.heap.size+1+1,0,none⟩ (.slice Av (cO dZ x).length cv) D hDn).trans hDk;have hv1:(Wk.setCell ⟨w.heap.size+1+1,0,none⟩ (.slice Av (cO dZ x).length cv)).ownsRow wc.heap.size 39 2 (.slice Av (cO dZ x).length cv) (cO dZ x).length (pE (cO dZ x)):=ownsRow_setCell_other hv (fun e=>by have:=(hv.lt _ e).1;have e3:(⟨w.heap.size+1+1,0,none⟩:Addr).block=w.heap.size+1+1:=rfl;omega) (.slice Av (cO dZ x).length cv);have hb1:au (Wk.setCell ⟨w.heap.size+1+1,0,none⟩ (.slice Av (cO dZ x).length cv)) (w.heap.size+1+1) 150 #[.slice Av (cO dZ x).length cv]:=by simpa using hb.av 0 (.slice Av (cO dZ x).length cv)
   have hb2:=hb1.putObj (by omega) (k:=D) (.deferred none);have hv2:((Wk.setCell ⟨w.heap.size+1+1,0,none⟩ (.slice Av (cO dZ x).length cv)).putObj D (.deferred none)).ownsRow wc.heap.size 39 2 (.slice Av (cO dZ x).length cv) (cO dZ x).length (pE (cO dZ x)):=by
    refine hv1.kept (grownBy_putObj' _ D _) ?_;rcases hv1.2 with ⟨e1,_⟩|⟨t,cap,cur,e1,q1,q2,_⟩
    ·exact .inl (by rw[e1];rfl)
    ·refine .inr (fun e=> ?_);rw[e1] at e;have e2:t=D:=by injection e
     subst e2;rw[hD1] at q2;cases q2
   have hB2:Below w.heap.size w ((Wk.setCell ⟨w.heap.size+1+1,0,none⟩ (.slice Av (cO dZ x).length cv)).putObj D (.deferred none)):=by
    have e1:=HB0.out.trans (K7.out.mono (by omega));have e2:Below w.heap.size wc Wk:=hK.below (fun j _ hj=>by omega) (by omega);exact ((e1.trans e2).setCell (p:=⟨w.heap.size+1+1,0,none⟩) (by simp;omega) (.slice Av (cO dZ x).length cv)).trans (Below.putObj (by omega) _)
   have PY:=ah (aU (base':=w.heap.size) hv2 (by omega));have HB2:=ah hB2;have HD1:=ah hD1;have c2:=hb2.cell 0;simp at c2;clear hv hb hv1 hb1 hb2 hv2 hB2 hD1 hDk hM hseq
   gi_wp2
   go_wp2;refine ⟨by simp,.inl ⟨_,_,rfl,run_takeDeferred HD1.out,?_⟩⟩;exact ⟨.slice Av (cO dZ x).length cv,by simp[results,Tryz.results145,go_sem,c2],.slice Av (cO dZ x).length cv,rfl,PY.out,HB2.out⟩
  case a6=>
   rintro l' k Wk hk ⟨⟨v,hrow,hbk⟩,hK⟩ ⟨oR,ZB,hoC⟩;obtain ⟨y,hy⟩:∃y,(dZ.filter (fB x.sn))[k]? =some y:=⟨_,List.getElem?_eq_getElem hk⟩
   have hvv:wH (dZ.filter (fB x.sn)) k= #[.int .i64 ((gD y).1:Int),.int .i64 ((gD y).2:Int)]:=by
    unfold wH;rw[hy];obtain ⟨e1,e2⟩:=TW y (hv y (List.mem_filter.1 (List.mem_of_getElem? hy)).1);simp only[e1,e2]
   rw[hvv];have hst:=Ev x _ k y hy;obtain ⟨ra,hra⟩:∃ra,(gD y).1=ra:=⟨_,rfl⟩
   obtain ⟨rb,hrb⟩:∃rb,(gD y).2=rb:=⟨_,rfl⟩
   obtain ⟨hok1,hok2⟩:=LV x (dZ.filter (fB x.sn)) hsz k;unfold fI at hst;rw[hra,hrb] at hst ⊢;have HST:=ah hst;have agp:=ah hok2;have hrl:=(Array.getElem?_eq_some_iff.1 ZB).1;clear hvv hst hy hra hrb hok2
   gi_wp2_with fail
   refine ⟨⟨aN,fun _ _ _ h _=>h⟩,?_⟩;intro W3 o' hW3;have hXw:au W3 (w.heap.size+1) 138 #[.pointer (some ⟨p,0,none⟩)]:=by rw[hW3];exact (HX.out.kept hK (by omega)).putObj (by omega) _
   have hPw:au W3 p 152 (Hg x (.slice Ap x.ps.length cp) (.slice Ar x.pend.length cr)):=by rw[hW3];exact (HPp.out.kept hK (by have:=E7.out;omega)).putObj (by have:=E7.out;omega) _
   have hLw:au W3 (w.heap.size+1+1) 150 #[v]:=by rw[hW3];exact hbk.putObj (by omega) _
   have hrw:W3.ownsRow wc.heap.size 39 2 v (nI x (dZ.filter (fB x.sn)) k).length (pE (nI x (dZ.filter (fB x.sn)) k)):=by
    rw[hW3];refine hrow.kept (grownBy_putObj' Wk _ o') ?_;rcases hrow.2 with ⟨rfl,_⟩|⟨q,cap,cur,rfl,q1,q2,_⟩
    ·exact .inl rfl
    ·refine .inr (fun e=> ?_);have e2:q=wc.heap.size+1:=by injection e
     rw[e2,ZB] at q2;cases q2;cases hoC
   have XU:Kept (fun j _=>j=w.heap.size+1+1) wc W3:=by
    rw[hW3];exact hK.grown (grownBy_putObj' Wk _ o') (fun j e o ho=>by cases e;have:=(Array.getElem?_eq_some_iff.1 ho).1;omega)
   have hM3:Kept M Wk W3:=by
    rw[hW3];exact (Kept.refl _ Wk).grown (grownBy_putObj' Wk _ o') (fun j e _ _=>by cases e;rw[hM];exact .inr (.inl rfl))
   have hz3:=XU.size;have x0:=hXw.cell 0;have x8:W3.cell? ⟨p,8,none⟩=some (.int .i64 (aC x:Nat)):=hPw.cell 8;have l0:=hLw.cell 0;have lf:=hLw.frozen 0;simp at x0 l0;obtain ⟨q,hq⟩:∃q,aC x=q+1:=⟨aC x-1,by omega⟩
   rw[hq] at x8;have x8:W3.cell? ⟨p,8,none⟩=some (.int .i64 ((q:Int)+1)):=by rw[x8];simp
   have hw1:IntKind.i64.wrap ((q:Int)+1-1)=(q:Int):=by rw[IntWalk.i64_in _ (by omega)];omega
   have hw2:IntKind.i64.wrap (q:Int)=(q:Int):=IntWalk.i64_in _ (by omega);have hst:=HST.out;rw[show aC x-1=q by omega] at hst;have hvb:∀j,v.ownBlock=some j→wc.heap.size≤j:=fun j e=>(hrw.lt j e).1
   have VB:∀a',min rb q<ra→Kr wc.heap.size (Kept M) (ZF wc (w.heap.size+1+1) x (dZ.filter (fB x.sn))) (k+1) Wk W3 .normal a' W3:=fun a' hm=>by
    rw[if_pos hm] at hst;exact ⟨⟨aN,fun _ _ _ h _=>h⟩,hM3,⟨⟨v,by rw[hst];exact hrw,hLw⟩,XU⟩⟩
   have VC:∀m:Nat,Calls Tryz.prog 186 #[v,.agg #[.int .i64 (ra:Int),.int .i64 (m:Int)],.func (.func 187) #[] #[]] W3 (VA W3 wc.heap.size v (nI x (dZ.filter (fB x.sn)) k) (ra,m)):=fun m=>
    Ir W3 wc.heap.size v _ (ra,m) hrw hz3 (by have:=(List.length_filter_le (fB x.sn) dZ);have:=K3.out.len;omega) agp.out
   have abC:∀m v' w5,min rb q=m→ra≤m→w5.ownsRow wc.heap.size 39 2 v' (gL (nI x (dZ.filter (fB x.sn)) k) (ra,m)).length (pE (gL (nI x (dZ.filter (fB x.sn)) k) (ra,m)))→Kept (fun k _=>some k=v.ownBlock) W3 w5→
    au w5 (w.heap.size+1+1) 150 #[v]∧∀a',Kr wc.heap.size (Kept M) (ZF wc (w.heap.size+1+1) x (dZ.filter (fB x.sn))) (k+1) Wk W3 .normal a' (w5.setCell ⟨w.heap.size+1+1,0,none⟩ v'):=fun m v' w5 hm hr h5 hk5=>by
    have hL5:au w5 (w.heap.size+1+1) 150 #[v]:=hLw.kept hk5 (fun e=>by have:=hvb _ e.symm;omega);refine ⟨hL5,fun a'=> ?_⟩;rw[if_neg (by omega),hm] at hst;have hkM:Kept M W3 w5:=⟨hk5.os,hk5.tape,hk5.output,hk5.size,fun j o hj hn=>hk5.same j o hj (fun e=>hn (by
     rw[hM];refine .inr (.inr ⟨hvb j e.symm,?_⟩);rcases hrw.2 with ⟨rfl,_⟩|⟨t,cap,cur,rfl,q1,q2,_⟩
     ·cases e
     ·have e2:j=t:=by injection e
      rw[e2,q2] at hj;cases hj;exact ⟨_,_,rfl⟩))⟩
    have hkL:Kept (fun j (_:Obj)=>j=w.heap.size+1+1) wc w5:=⟨hk5.os.trans XU.os,hk5.tape.trans XU.tape,hk5.output.trans XU.output,Nat.le_trans hz3 hk5.size,fun j o hj hn=>hk5.same j o (XU.same j o hj hn) (fun e=>by
     have h1:=hvb _ e.symm;have h2:=(Array.getElem?_eq_some_iff.1 hj).1;omega)⟩
    have PX:KeepsFrom wc.heap.size W3 w5:=⟨hk5.size,fun j o hj ho hc=>hk5.same j o ho (fun e=>by
     rcases hrw.2 with ⟨rfl,_⟩|⟨t,cap,cur,rfl,q1,q2,_⟩
     ·cases e
     ·have e2:j=t:=by injection e
      rw[e2,q2] at ho;cases ho;cases hc)⟩
    refine ⟨KeepsFrom.tr PX (KeepsFrom.Kz hL5 v'),(hM3.trans hkM).setCell (p:=⟨w.heap.size+1+1,0,none⟩) (fun _ _=>by rw[hM];exact .inl rfl) v',⟨⟨v',?_,by simpa using hL5.av 0 v'⟩,hkL.setCell (p:=⟨w.heap.size+1+1,0,none⟩) (fun _ _=>rfl) v'⟩⟩;rw[hst];exact ownsRow_setCell_other h5 (fun e=>by have:=(h5.lt _ e).1;have e3:(⟨w.heap.size+1+1,0,none⟩:Addr).block=w.heap.size+1+1:=rfl;omega) v'
   have VD:=ah VC;have HSK:=ah VB;have jJ:=ah abC;clear hXw hPw hLw hrw hrow hbk hK hW3 XU hM3 ZB hoC hM VB VC abC hst hvb;by_cases hc:rb≤q
   ·by_cases hr:ra≤rb
    ·have d1:decide (rb<ra)=false:=decide_eq_false (by omega)
     gi_wp2_with fail
     refine ⟨trivial,CallsIn.inRound l' ((callsIn_wide (n:=2)).2 ((VD.out rb).mono ?_))⟩;rintro e w5 ⟨v',rfl,BO,hk5,_⟩;obtain ⟨hL5,VE⟩:=jJ.out rb v' w5 (by omega) hr BO hk5;obtain ⟨A5,c5',rfl,_,_⟩:=eH.dH (l:=gL (nI x (dZ.filter (fB x.sn)) k) (ra,rb)) BO;have c5:=hL5.cell 0;have f5:=hL5.frozen 0;simp at c5;have HF5:=ah VE;clear VE hL5 BO hk5
     gi_wp2_with fail
     exact HF5.out _
    ·have d1:decide (rb<ra)=true:=decide_eq_true (by omega)
     gi_wp2_with fail
     exact HSK.out _ (by omega)
   ·by_cases hr:ra≤q
    ·have d1:decide (q<ra)=false:=decide_eq_false (by omega)
     gi_wp2_with fail
     refine ⟨trivial,CallsIn.inRound l' ((callsIn_wide (n:=2)).2 ((VD.out q).mono ?_))⟩;rintro e w5 ⟨v',rfl,BO,hk5,_⟩;obtain ⟨hL5,VE⟩:=jJ.out q v' w5 (by omega) hr BO hk5;obtain ⟨A5,c5',rfl,_,_⟩:=eH.dH (l:=gL (nI x (dZ.filter (fB x.sn)) k) (ra,q)) BO;have c5:=hL5.cell 0;have f5:=hL5.frozen 0;simp at c5;have HF5:=ah VE;clear VE hL5 BO hk5
     gi_wp2_with fail
     exact HF5.out _
    ·have d1:decide (q<ra)=true:=decide_eq_true (by omega)
     gi_wp2_with fail
     exact HSK.out _ (by omega)
end
end
section
open Go.RowKit
def rC (aJ:Int) (acc:List Nk) (n:Nk):Bool:=decide (acc.length<512)&&(iB aJ n&&(match acc.getLast? with|none=>true|some m=>mO aJ m n))
def Dl (bs:List UInt8) (pos:Nat):Option (Nk × Bool × Nat):=
 if 8*bs.length<pos+12 then none
 else if val (ax bs (pos+11) 1)=1 then
  if 8*bs.length<pos+42 then none
  else some (⟨(val (ax bs pos 10):Nat),true,(val (ax bs (pos+12) 15):Nat),(val (ax bs (pos+27) 15):Nat)⟩,decide (val (ax bs (pos+10) 1)=1),pos+42)
 else some (⟨(val (ax bs pos 10):Nat),false,0,0⟩,decide (val (ax bs (pos+10) 1)=1),pos+12)
def mW (bs:List UInt8) (aJ:Nat):Nat→Bool→Nat→List Nk→Sum Nat (List Nk × Nat)
 |_,false,pos,acc=> .inr (acc,pos)
 |0,true,_,_=> .inl 9
 |f+1,true,pos,acc=>match Dl bs pos with
  |none=> .inl 5
  |some (n,more,p)=>if rC aJ acc n=true then mW bs aJ f more p (acc++ [n]) else .inl 9
def Bl (bs:List UInt8) (pos:Nat):Bool:=decide (8*bs.length-pos<8)&&decide (val (ax bs pos (kS pos))=0)
def kL (bs:List UInt8):Sum Nat (Nat × List Nk):=
 if 8*bs.length<15 then .inl 5
 else if val (ax bs 0 4)≠0 then .inl 9
 else match mW bs (val (ax bs 4 10)) 513 (decide (val (ax bs 14 1)=1)) 15 [] with
  | .inl e=> .inl e
  | .inr (l,pos)=>if Bl bs pos=true then .inr (val (ax bs 4 10),l) else .inl 9
def rD (more:Bool) (x:Nk):List Bool:=bitsOf x.sn.toNat 10++(bitsOf more.toNat 1++(bitsOf x.part.toNat 1++(if x.part=true then bitsOf x.fr.toNat 15++bitsOf x.lt.toNat 15 else [])))
def kC:List Nk→List Bool
 | []=> []
 |x::r=>rD (decide (0<r.length)) x++kC r
theorem aaS (more:Bool) (x:Nk):aH (Bj more x)=rD more x:=by
 unfold Bj rD aH;cases x.part<;>simp
theorem LG (l:List Nk):∀k,k≤l.length→aH (jQ l k)++kC (l.drop k)=kC l
 |0,_=>by simp[jQ,aH]
 |k+1,h=>by
  have ih:=LG l k (by omega);rw[←ih,jQ,gM,aaS,List.append_assoc]
  congr 1
  rw[List.drop_eq_getElem_cons (show k<l.length by omega),kC,List.getElem?_eq_getElem (show k<l.length by omega)];simp only[Option.getD_some,List.length_drop];rw[show decide (k+1<l.length)=decide (0<l.length-(k+1)) from decide_eq_decide.2 (by omega)]
theorem LH (aJ:Nat) (l:List Nk):rA aJ l=pack (bitsOf 0 4++(bitsOf aJ 10++(bitsOf (decide (0<l.length)).toNat 1++kC l))):=by
 have h:=LG l l.length (aN);rw[List.drop_length,kC,List.append_nil] at h;unfold rA;rw[gM,h];simp[aH]
theorem mid (a b c:List Bool) (X:List Bool) (p k:Nat) (hX:X=a++(b++c)) (hp:a.length=p) (hk:b.length=k):ax (pack X) p k=b:=by
 have:=fZ a b c [] p k hp hk;rw[List.append_nil] at this;rw[hX];exact this
theorem Hy (a S M Q R c:List Bool) (hS:S.length=10) (hM:M.length=1) (hQ:Q.length=1):
 ax (pack (a++(S++(M++(Q++(R++c)))))) a.length 10=S∧ax (pack (a++(S++(M++(Q++(R++c)))))) (a.length+10) 1=M∧ax (pack (a++(S++(M++(Q++(R++c)))))) (a.length+11) 1=Q:=
 ⟨mid a S _ _ _ _ rfl rfl hS,mid (a++S) M (Q++(R++c)) _ _ _ (by simp) (by simp[hS]) hM,mid (a++(S++M)) Q (R++c) _ _ _ (by simp) (by simp[hS,hM]) hQ⟩
theorem Tn {aJ:Int} (a c:List Bool) (more:Bool) (x:Nk) (h:iB aJ x=true):Dl (pack (a++(rD more x++c))) a.length=some (x,more,a.length+(rD more x).length):=by
 obtain ⟨sn,part,fr,lt⟩:=x;unfold iB at h;simp only[Bool.and_eq_true,decide_eq_true_eq] at h;obtain ⟨⟨h1,h2⟩,_,h3⟩:=h;obtain ⟨sn,rfl⟩:=Int.eq_ofNat_of_zero_le h1;have vS:val (bitsOf sn 10)=sn:=fV 10 sn (by simp;omega);have vM:decide (val (bitsOf more.toNat 1)=1)=more:=by cases more<;>rfl
 cases part with
 |false=>
  simp only[Bool.false_eq_true,if_false,Bool.and_eq_true,decide_eq_true_eq] at h3;obtain ⟨rfl,rfl⟩:=h3;obtain ⟨e1,e2,e3⟩:=Hy a (bitsOf sn 10) (bitsOf more.toNat 1) (bitsOf 0 1) [] c (by simp) (by simp) (by simp);have hX:a++(rD more ⟨(sn:Nat),false,0,0⟩++c)=a++(bitsOf sn 10++(bitsOf more.toNat 1++(bitsOf 0 1++([]++c)))):=by simp[rD]
  have hL:(rD more ⟨(sn:Nat),false,0,0⟩).length=12:=by simp[rD]
  rw[hX,hL];unfold Dl;rw[e1,e2,e3,vS,vM,if_neg (by simp[aV];omega),if_neg (by decide)]
 |true=>
  simp only[if_true,Bool.and_eq_true,decide_eq_true_eq] at h3;obtain ⟨h4,h5,h6⟩:=h3;obtain ⟨fr,rfl⟩:=Int.eq_ofNat_of_zero_le h4;obtain ⟨lt,rfl⟩:=Int.eq_ofNat_of_zero_le (show 0≤lt by omega);have vF:val (bitsOf fr 15)=fr:=fV 15 fr (by simp;omega);have vL:val (bitsOf lt 15)=lt:=fV 15 lt (by simp;omega);obtain ⟨e1,e2,e3⟩:=Hy a (bitsOf sn 10) (bitsOf more.toNat 1) (bitsOf 1 1) (bitsOf fr 15++bitsOf lt 15) c (by simp) (by simp) (by simp);have e4:=mid (a++(bitsOf sn 10++(bitsOf more.toNat 1++bitsOf 1 1))) (bitsOf fr 15) (bitsOf lt 15++c) (a++(bitsOf sn 10++(bitsOf more.toNat 1++(bitsOf 1 1++((bitsOf fr 15++bitsOf lt 15)++c))))) (a.length+12) 15 (by simp) (by simp) (by simp);have e5:=mid (a++(bitsOf sn 10++(bitsOf more.toNat 1++(bitsOf 1 1++bitsOf fr 15)))) (bitsOf lt 15) c (a++(bitsOf sn 10++(bitsOf more.toNat 1++(bitsOf 1 1++((bitsOf fr 15++bitsOf lt 15)++c))))) (a.length+27) 15 (by simp) (by simp) (by simp);have hX:a++(rD more ⟨(sn:Nat),true,(fr:Nat),(lt:Nat)⟩++c)=a++(bitsOf sn 10++(bitsOf more.toNat 1++(bitsOf 1 1++((bitsOf fr 15++bitsOf lt 15)++c)))):=by simp[rD]
  have hL:(rD more ⟨(sn:Nat),true,(fr:Nat),(lt:Nat)⟩).length=42:=by simp[rD]
  rw[hX,hL];unfold Dl;rw[e1,e2,e3,e4,e5,vS,vM,vF,vL,if_neg (by simp[aV];omega),if_pos (by decide),if_neg (by simp[aV];omega)]
theorem Hz (aJ:Nat) (c:List Bool):∀(r:List Nk) (a:List Bool) (f:Nat) (acc:List Nk),(∀k,Pn aJ (acc++r) k)→r.length≤f→acc.length+r.length≤512→
 mW (pack (a++(kC r++c))) aJ f (decide (0<r.length)) a.length acc= .inr (acc++r,a.length+(kC r).length)
 | [],a,f,acc,_,_,_=>by cases f<;>simp[mW,kC]
 |x::r,a,f,acc,hk,hf,hl=>by
  obtain ⟨f,rfl⟩:∃g,f=g+1:=⟨f-1,by simp at hf;omega⟩
  obtain ⟨ha,hfo⟩:=hk acc.length x (by simp);have e:=Tn a (kC r++c) (decide (0<r.length)) x ha;have hn:rC aJ acc x=true:=by
   unfold rC;rw[ha,decide_eq_true (show acc.length<512 by simp at hl;omega)];simp only[Bool.true_and];cases hg:acc.getLast? with
   |none=>rfl
   |some m=>
    have hp:0<acc.length:=by
     rcases acc with _|⟨y,t⟩
     ·simp at hg
     ·simp
    refine hfo m hp ?_;rw[List.getElem?_append_left (by omega),←List.getLast?_eq_getElem?];exact hg
  have ih:=Hz aJ c r (a++rD (decide (0<r.length)) x) f (acc++ [x]) (by simpa using hk) (by simp at hf;omega) (by simp at hl ⊢;omega);have hX:a++(kC (x::r)++c)=a++(rD (decide (0<r.length)) x++(kC r++c)):=by simp[kC]
  rw[hX,show decide (0<(x::r).length)=true from rfl,mW,e];dsimp only;rw[if_pos hn];simp only[List.append_assoc,List.length_append] at ih;rw[ih];simp[kC];omega
theorem MR {aJ:Nat} {l:List Nk} (hv:bS (aJ:Nat) l=true):kL (rA aJ l)= .inr (aJ,l):=by
 unfold bS at hv;simp only[Bool.and_eq_true,decide_eq_true_eq] at hv;obtain ⟨⟨_,h1⟩,h2,h3⟩:=hv;have hk:=(jI (aJ:Int) l).1 h3;have e:=Hz aJ [] l (bitsOf 0 4++(bitsOf aJ 10++bitsOf (decide (0<l.length)).toNat 1)) 513 [] (by simpa using hk) (by omega) (by simpa using h2);simp only[List.append_nil,List.append_assoc,List.length_append,og,List.nil_append] at e;have f0:=mid [] (bitsOf 0 4) (bitsOf aJ 10++(bitsOf (decide (0<l.length)).toNat 1++kC l)) _ 0 4 rfl rfl (by simp);have f1:=mid (bitsOf 0 4) (bitsOf aJ 10) (bitsOf (decide (0<l.length)).toNat 1++kC l) _ 4 10 rfl (by simp) (by simp);have f2:=mid (bitsOf 0 4++bitsOf aJ 10) (bitsOf (decide (0<l.length)).toNat 1) (kC l) (bitsOf 0 4++(bitsOf aJ 10++(bitsOf (decide (0<l.length)).toNat 1++kC l))) 14 1 (by simp) (by simp) (by simp);rw[List.nil_append] at f0;have va:val (bitsOf aJ 10)=aJ:=fV 10 aJ (by simp;omega);have v0:val (bitsOf 0 4)=0:=rfl;have vm:decide (val (bitsOf (decide (0<l.length)).toNat 1)=1)=decide (0<l.length):=by cases decide (0<l.length)<;>rfl
 rw[LH];have hp:=qG (bitsOf 0 4++(bitsOf aJ 10++(bitsOf (decide (0<l.length)).toNat 1++kC l))) [];rw[List.append_nil] at hp;have hlen:(bitsOf 0 4++(bitsOf aJ 10++(bitsOf (decide (0<l.length)).toNat 1++kC l))).length=15+(kC l).length:=by simp;omega
 rw[hlen] at hp;unfold kL;rw[f0,f1,f2,va,v0,vm,if_neg (by simp[aV];omega),if_neg (by simp),e];dsimp only;have hend:Bl (pack (bitsOf 0 4++(bitsOf aJ 10++(bitsOf (decide (0<l.length)).toNat 1++kC l)))) (15+(kC l).length)=true:=by
  unfold Bl;rw[hp,tF,iy,hlen];have hb:∀n:Nat,8*aV n-n<8:=fun n=>by unfold aV;omega
  rw[decide_eq_true (hb _)];rfl
 rw[show 4+(10+1)+(kC l).length=15+(kC l).length by omega,if_pos hend]
end
section
open Go.RowKit Go.Shelf
attribute [local go_sem] Oper.semAt_some
structure ZS (c:Cf):Prop where
 r1:0≤c.reorder
 r2:c.reorder≤1048576
 p1:0≤c.iE
 p2:c.iE≤1048576
section
variable {w w':World} {T:Nat→Nat} {g M n:Nat} {c:Cf} {st:Rc} {vo:Value}
theorem eF.clock (ho:eF st) {now:Int} (hn:now≤9223372036854775807):eF (gX st now):=
 ⟨ho.n1,ho.n2,ho.n3,ho.n4,ho.m,ho.op,by have:=ho.t1;unfold gX;dsimp only;split<;>omega,by have:=ho.t2;unfold gX;dsimp only;split<;>omega⟩
theorem eF.waits (ho:eF st) (c:Cf):eF (qj c st):=⟨ho.n1,ho.n2,ho.n3,ho.n3,ho.m,ho.op,ho.t1,ho.t2⟩
theorem eF.fires (ho:eF st) (c:Cf):eF (uy c st):=by
 have h2:eF {st with status:=kK st.m 1024 st.iO,due:=true,ro:=false}:=⟨ho.n1,wh _ _ _ ho.n4,ho.n3,ho.n4,ho.m,ho.op,ho.t1,ho.t2⟩;unfold uy;dsimp only;split
 ·exact h2.waits c
 ·exact h2
theorem eF.goes (ho:eF st) (c:Cf) {now:Int} (hn:now≤9223372036854775807):eF (cZ c st now):=by
 unfold cZ;split
 ·exact ho.clock hn
 ·exact (ho.clock hn).fires c
set_option maxHeartbeats 1000000 in
theorem yj (h:iC w T g M n c st vo) (ho:eF st) (hcf:ZS c) (now:Int) (hn:now≤9223372036854775807):
 Calls Tryz.prog 80 #[.pointer (some ⟨g,0,none⟩),.int .i64 now] w fun e w'=>e= .returned (.tuple #[])∧iC w' T g M n c (cZ c st now) vo∧Kept (MT T) w w':=by
 have ht:∀o:Obj,MT T g o:=fun o=>by unfold MT;rw[h.tg];omega
 have HT:=ah ht;have HO:=ah (ho.clock hn);have HCF:=ah hcf;have HG:=ah (show cZ c st now=if st.ro=false∨(gX st now).now<st.exp then gX st now else uy c (gX st now) from rfl);have RY:=(h.cells).2.2.2.2.2.2.2.2.2.2.2.1;have f16:=h.blk.frozen 16;have HH:=ah h;clear h ho hcf ht;go_enter Tryz.func80,Tryz.ntmps80;go_upto_region 1 with (fail)
 have h1:=HH.out.put 16 (.int .i64 (if st.now<now then now else st.now)) (st':=gX st now) rfl rfl rfl;have hk1:Kept (MT T) w (w.setCell ⟨g,16,none⟩ (.int .i64 (if st.now<now then now else st.now))):=(Kept.refl _ w).setCell (p:=⟨g,16,none⟩) (fun o _=>HT.out o) _;generalize w.setCell ⟨g,16,none⟩ (.int .i64 (if st.now<now then now else st.now))=wc at*;generalize (if st.now<now then now else st.now)=nv at*;have hro:(gX st now).ro=st.ro:=rfl;have acH:(gX st now).exp=st.exp:=rfl;rw[←hro,←acH] at HG;clear hro acH RY f16 HH;generalize gX st now=s1 at*;obtain ⟨x3,x4,x7,x8,x9,x10,xO,Hl,RX,Eg,Tx,RY,Py,x18⟩:=h1.cells;have H1:=ah h1;have HK:=ah hk1;clear h1 hk1 x4 x7 x8 x9 x10 Eg Tx Py x18;cases hro:s1.ro with
 |false=>
  rw[hro] at xO;have hg:=HG.out;rw[if_pos (.inl hro)] at hg;have QC:=ah hg;clear hg hro;go_wp2_with fail
  go_quiet (fail)
  go_wp2_with fail;refine bodyPost_ret (results_none rfl _ _ _) rfl ?_;rw[QC.out];exact ⟨rfl,H1.out.drewN nq,HK.out.drewN nq⟩
 |true=>
  rw[hro] at xO;by_cases hlt:s1.now<s1.exp
  ·have hg:=HG.out;rw[if_pos (.inr hlt)] at hg;have d1:decide (s1.now<s1.exp)=true:=by simpa using hlt
   have QC:=ah hg;clear hg hro;go_wp2_with fail
   go_quiet (fail)
   go_wp2_with fail;refine bodyPost_ret (results_none rfl _ _ _) rfl ?_;rw[QC.out];exact ⟨rfl,H1.out.drewN nq,HK.out.drewN nq⟩
  ·have hg:=HG.out;rw[if_neg (by rw[hro];simp;omega)] at hg;unfold uy at hg;dsimp only at hg;have d1:decide (s1.now<s1.exp)=false:=by simpa using hlt
   have QC:=ah hg;clear hg hro;go_wp2_with fail
   go_quiet (fail)
   have h2:=H1.out.drewN nq;have hk2:=HK.out.drewN nq;generalize wc.drewN nq=w2 at*;have hfr:=Ef h2 HO.out s1.iO HO.out.n4;have Mb:=ah hfr;have H2:=ah h2;have Ak:=ah hk2;have hfl:=wh s1.m 1024 s1.iO HO.out.n4;clear hfr h2 hk2 x3 xO RX RY H1 HK;generalize kK s1.m 1024 s1.iO=F at*;have Hl:=H2.out.cells.2.2.2.2.2.2.2.1;go_upto_region 3 with (go_at_call 99;refine Mb.out.mono ?_;rintro e3 w3 ⟨rfl,hb3⟩;have h3:=H2.out.below hb3;have f9:=h3.blk.frozen 9;have c9:=h3.cells.2.2.2.2.1;have nJ:=ah (Ak.out.trans (rG hb3));have H3:=ah h3;clear h3 hb3)
   have h4:=H3.out.put 9 (.int .i64 (F:Nat)) (st':= {s1 with status:=F}) rfl rfl rfl;have hk4:=nJ.out.setCell (p:=⟨g,9,none⟩) (fun o _=>HT.out o) (.int .i64 (F:Nat));generalize w3.setCell ⟨g,9,none⟩ (.int .i64 (F:Nat))=w4 at*;have f14:=h4.blk.frozen 14;have f11:=h4.blk.frozen 11;have c14:=h4.cells.2.2.2.2.2.2.2.2.2.1;have c11:=h4.cells.2.2.2.2.2.2.1;have h5:=(h4.put 14 (.bool true) (st':= {s1 with status:=F,due:=true}) rfl rfl rfl).put 11 (.bool false) (st':= {s1 with status:=F,due:=true,ro:=false}) rfl rfl rfl;have hk5:=(hk4.setCell (p:=⟨g,14,none⟩) (fun o _=>HT.out o) (.bool true)).setCell (p:=⟨g,11,none⟩) (fun o _=>HT.out o) (.bool false);have H5:=ah h5;have ve:=ah hk5;clear h4 hk4 h5 hk5 H3 nJ Hl f9 c9;go_upto_region 4 with (fail)
   generalize (w4.setCell ⟨g,14,none⟩ (.bool true)).setCell ⟨g,11,none⟩ (.bool false)=w5 at*;obtain ⟨y3,y4,y7,y8,y9,FU,Qo,xh,y13,Ej,JB,yP,PS,FE⟩:=H5.out.cells;have Gz:eF {s1 with status:=F,due:=true,ro:=false}:=⟨HO.out.n1,hfl,HO.out.n3,HO.out.n4,HO.out.m,HO.out.op,HO.out.t1,HO.out.t2⟩;have HO5:=ah Gz;clear f14 f11 c14 c11 y3 y4 y7 y8 Qo xh y13 Ej JB yP PS FE Gz
   replace y9:w5.cell? ⟨g,9,none⟩=some (.int .i64 (F:Nat)):=y9
   replace FU:w5.cell? ⟨g,10,none⟩=some (.int .i64 (s1.high:Nat)):=FU
   by_cases he:s1.high=F
   ·have hgg:=QC.out;rw[if_neg (by simpa using he)] at hgg;have d2:((s1.high:Int) !=(F:Int))=false:=by simp;omega
    have Zy:=ah hgg;clear hgg he;go_wp2_with fail
    go_quiet (fail)
    go_wp2_with fail
    go_end0
    rw[Zy.out];exact ⟨rfl,H5.out.drewN _,ve.out.drewN _⟩
   ·have hgg:=QC.out;rw[if_pos he] at hgg;have d2:((s1.high:Int) !=(F:Int))=true:=by simp;omega
    have Zy:=ah hgg;clear hgg he;have hwt:=fun q=>Bz (H5.out.drewN q) HO5.out HCF.out.r1 (by have:=HCF.out.r2;omega)
    have HWT:=ah hwt;clear hwt;go_wp2_with fail
    go_quiet (fail)
    go_wp2_with (go_at_call 101;refine (HWT.out _).mono ?_;rintro e6 w6 ⟨rfl,h6,nG⟩)
    go_end0
    rw[Zy.out];exact ⟨rfl,h6,(ve.out.drewN _).trans nG⟩
end
end
end Go.Proofs.YtbhiklnljiehiaaGreat
