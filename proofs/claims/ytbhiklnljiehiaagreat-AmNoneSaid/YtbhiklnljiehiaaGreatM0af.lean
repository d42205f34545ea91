/- status.Valid. A region that draws its order: loads first, then stores to cells that it loads: what the loads read is asked only as long as a load may still come up. status.Valid. -/
import Derived.Test.YtbhiklnljiehiaaGreatM0ac
import Derived.Test.YtbhiklnljiehiaaGreatM0ae
import Derived.Deep.DeepCutAuto
import Derived.Deep.RegionHeld3
import Derived.BigRegion
namespace Go.Proofs.YtbhiklnljiehiaaGreat
section
open Go.RowKit
attribute [local go_sem] Oper.semAt_some
set_option maxHeartbeats 400000 in
theorem zU (b:Nat) (jC:List Value) (bs:List Bool) (Inv:World→Prop) (w:World) (hlen:bs.length=jC.length) (hsm:jC.length≤1000) (hI:∀W,Inv W→au W b 26 jC.toArray)
 (hcall:∀(i:Nat) (fv:Value) (x:Bool) (W:World),jC[i]? =some fv→bs[i]? =some x→(∀y∈bs.take i,y=true)→Inv W→Calls Tryz.prog 207 #[fv] W fun e W'=>e= .returned (.bool (!x))∧Inv W')
 (h0:Inv w):Calls Tryz.prog 221 #[.slice (some ⟨b,0,none⟩) jC.length jC.length,.func (.func 207) #[] #[]] w (AY bs Inv):=by
 have HC:=Lib.hid hcall;have HI:=Lib.hid hI;have HL:=Lib.hid hlen;clear hcall hI hlen;obtain ⟨N,hN⟩:∃N,N=jC.length:=⟨_,rfl⟩
 rw[←hN] at hsm ⊢;have HN:=Lib.hid hN;clear hN;go_enter Tryz.func221,Tryz.ntmps221;go_wp2
 go_loopw [8] (fun i wr=>∃k:Nat,k≤N∧i= .int .i64 k∧(∀y∈bs.take k,y=true)∧Inv wr) (fun i _=>N-(intOf i).toNat)
 case atStart=>exact ⟨0,Nat.zero_le _,rfl,by simp,h0⟩
 case round=>
  clear h0;obtain ⟨k,hk,rfl,hall,hinv⟩:=hrel;have HA:=Lib.hid hall;clear hall;by_cases hlt:k<N
  ·obtain ⟨fv,gP⟩:∃fv,jC[k]? =some fv:=⟨_,List.getElem?_eq_getElem (by rw[←HN.out];exact hlt)⟩
   obtain ⟨x,hx⟩:∃x,bs[k]? =some x:=⟨_,List.getElem?_eq_getElem (by rw[HL.out,←HN.out];exact hlt)⟩
   have hcl:=HC.out k fv x wr gP hx HA.out hinv;have hcell:=(HI.out wr hinv).cell k;rw[List.getElem?_toArray,gP] at hcell;have qP:=Lib.hid hcl;have HX:=Lib.hid hx;clear hcl gP hx;cases x with
   |true=>
    go_wp2_with (go_at_call 207;refine qP.out.mono ?_;rintro e w' ⟨rfl,hi'⟩)
    go_roundw
    case rel=>exact ⟨k+1,by omega,by go_num,by
     intro y hy;rw[List.take_add_one,HX.out,List.mem_append] at hy;rcases hy with hy|hy
     ·exact HA.out y hy
     ·simpa using hy,hi'⟩
    case measure=>simp[intOf];omega
   |false=>
    go_wp2_with (go_at_call 207;refine qP.out.mono ?_;rintro e w' ⟨rfl,hi'⟩);go_ret;refine ⟨.inl ⟨k,rfl,?_⟩,hi'⟩;rw[List.all_eq_false];exact ⟨false,List.mem_of_getElem? HX.out,by simp⟩
  ·have e:bs.take k=bs:=List.take_of_length_le (by rw[HL.out,←HN.out];omega);have hA:=HA.out;rw[e] at hA;have wK:=Lib.hid hA;clear hA e;go_wp2;go_ret;exact ⟨.inr ⟨rfl,by rw[List.all_eq_true];exact wK.out⟩,hinv⟩
theorem uH (b:Nat) (jC:List Value) (bs:List Bool) (Inv:World→Prop) (w:World)
 (h:Calls Tryz.prog 221 #[.slice (some ⟨b,0,none⟩) jC.length jC.length,.func (.func 207) #[] #[]] w (AY bs Inv)):
 Calls Tryz.prog 206 #[.slice (some ⟨b,0,none⟩) jC.length jC.length,.func (.func 207) #[] #[]] w fun e w'=>e= .returned (.bool (!bs.all id))∧Inv w':=by
 have H:=Lib.hid h;clear h;go_enter Tryz.func206,Tryz.ntmps206;go_wp2_with fail;refine H.out.mono ?_;rintro e w' ⟨⟨k,rfl,ha⟩|⟨rfl,ha⟩,hi⟩
 ·have HA:=Lib.hid ha;clear ha;go_wp2;go_ret;exact ⟨bu (by rw[HA.out];rfl),hi⟩
 ·have HA:=Lib.hid ha;clear ha;go_wp2;go_ret;exact ⟨bu (by rw[HA.out];rfl),hi⟩
theorem LM (b:Nat) (jC:List Value) (bs:List Bool) (Inv:World→Prop) (w:World)
 (h:Calls Tryz.prog 206 #[.slice (some ⟨b,0,none⟩) jC.length jC.length,.func (.func 207) #[] #[]] w fun e w'=>e= .returned (.bool (!bs.all id))∧Inv w'):
 Calls Tryz.prog 178 #[.slice (some ⟨b,0,none⟩) jC.length jC.length] w fun e w'=>e= .returned (.bool (bs.all id))∧Inv w':=by
 have H:=Lib.hid h;clear h;go_enter Tryz.func178,Tryz.ntmps178;go_wp2_with fail;refine H.out.mono ?_;rintro e w' ⟨rfl,hi⟩;go_wp2;go_ret;exact ⟨bu (by simp),hi⟩
def jU (n:Nk):Array Value:= #[.int .i64 n.sn,.bool n.part,.int .i64 n.fr,.int .i64 n.lt]
theorem au.gZ {w:World} {g:Nat} {t:TypeId} {x y z u:Value} (b:au w g t #[x,y,z,u]):w.cell? ⟨g,0,none⟩=some x∧w.cell? ⟨g,1,none⟩=some y∧w.cell? ⟨g,2,none⟩=some z∧w.cell? ⟨g,3,none⟩=some u:=
 ⟨b.cell 0,b.cell 1,b.cell 2,b.cell 3⟩
theorem JM (a b:Int):bits .and .i64 (IntKind.i64.wrap (a-b)) 1023=(a-b)%1024:=by
 rw[sF,IntKind.wrap_i64];omega
section
variable (w:World)
theorem Bf (aK sn:Int):Calls Tryz.prog 181 #[.int .i64 aK,.int .i64 sn] w fun e w'=>e= .returned (.int .i64 (jE aK sn))∧w=w':=by
 go_enter Tryz.func181,Tryz.ntmps181;go_wp2;go_ret;exact ⟨lN (by rw[←IntWalk.i64_left];exact JM aK sn),rfl⟩
variable (bn ba:Nat) (aK:Int) (n:Nk)
theorem LP (hb:au w bn 197 (jU n)):Calls Tryz.prog 176 #[.pointer (some ⟨bn,0,none⟩)] w fun e w'=>e= .returned (.bool (decide (n.fr=0)&&decide (n.lt=0)))∧w=w':=by
 obtain ⟨x0,x1,x2,x3⟩:=hb.gZ;by_cases h0:n.fr=0
 ·have e0:(n.fr==0)=true:=by simp[h0]
  have e1:(n.lt==0)=decide (n.lt=0):=by rw[Bool.eq_iff_iff];simp
  rw[decide_eq_true h0];generalize decide (n.lt=0)=d at*;have H0:=Lib.hid h0;clear h0;go_enter Tryz.func176,Tryz.ntmps176;go_wp2;go_ret;exact ⟨rfl,rfl⟩
 ·have e0:(n.fr==0)=false:=by simp[h0]
  rw[decide_eq_false h0];go_enter Tryz.func176,Tryz.ntmps176;go_wp2;go_ret;exact ⟨rfl,rfl⟩
theorem LQ (hb:au w bn 197 (jU n)):Calls Tryz.prog 177 #[.pointer (some ⟨bn,0,none⟩)] w fun e w'=>e= .returned (.bool (decide (0≤n.fr)&&(decide (n.fr≤n.lt)&&decide (n.lt≤32767))))∧w=w':=by
 obtain ⟨x0,x1,x2,x3⟩:=hb.gZ;by_cases h0:0≤n.fr
 ·by_cases h1:n.fr≤n.lt
  ·rw[decide_eq_true h0,decide_eq_true h1];have d0:=decide_eq_true h0;have d1:=decide_eq_true h1;go_enter Tryz.func177,Tryz.ntmps177;go_wp2;go_ret;exact ⟨rfl,rfl⟩
  ·rw[decide_eq_true h0,decide_eq_false h1];have d0:=decide_eq_true h0;have d1:=decide_eq_false h1;go_enter Tryz.func177,Tryz.ntmps177;go_wp2;go_ret;exact ⟨rfl,rfl⟩
 ·rw[decide_eq_false h0];have d0:=decide_eq_false h0;go_enter Tryz.func177,Tryz.ntmps177;go_wp2;go_ret;exact ⟨rfl,rfl⟩
theorem LU (hb:au w bn 197 (jU n)):Calls Tryz.prog 179 #[.pointer (some ⟨bn,0,none⟩)] w fun e w'=>e= .returned (.bool (decide (0≤n.sn)&&decide (n.sn<1024)))∧w=w':=by
 obtain ⟨x0,x1,x2,x3⟩:=hb.gZ;by_cases h0:0≤n.sn
 ·rw[decide_eq_true h0];have d0:=decide_eq_true h0;go_enter Tryz.func179,Tryz.ntmps179;go_wp2;go_ret;exact ⟨rfl,rfl⟩
 ·rw[decide_eq_false h0];have d0:=decide_eq_false h0;go_enter Tryz.func179,Tryz.ntmps179;go_wp2;go_ret;exact ⟨rfl,rfl⟩
theorem LV (hb:au w bn 197 (jU n)) (ha:au w ba 3 #[.int .i64 aK]):Calls Tryz.prog 180 #[.pointer (some ⟨ba,0,none⟩),.pointer (some ⟨bn,0,none⟩)] w fun e w'=>e= .returned (.bool (decide (1≤jE aK n.sn)&&decide (jE aK n.sn≤512)))∧w=w':=by
 obtain ⟨x0,x1,x2,x3⟩:=hb.gZ;have y0:=ha.cell 0;simp at y0;have hd:=Bf w aK n.sn;have HD:=Lib.hid hd;clear hd hb ha;generalize jE aK n.sn=d at*;by_cases h0:1≤d
 ·rw[decide_eq_true h0];have d0:=decide_eq_true h0;go_enter Tryz.func180,Tryz.ntmps180;go_wp2_with (go_at_call 181;refine HD.out.mono ?_;rintro e w' ⟨rfl,rfl⟩);go_ret;exact ⟨rfl,rfl⟩
 ·rw[decide_eq_false h0];have d0:=decide_eq_false h0;go_enter Tryz.func180,Tryz.ntmps180;go_wp2_with (go_at_call 181;refine HD.out.mono ?_;rintro e w' ⟨rfl,rfl⟩);go_ret;exact ⟨rfl,rfl⟩
theorem Cv (DT:Nat) (cap:Array Value) (x:Bool) (hf:(DT=176∧cap= #[.pointer (some ⟨bn,0,none⟩)])∨(DT=177∧cap= #[.pointer (some ⟨bn,0,none⟩)])∨(DT=179∧cap= #[.pointer (some ⟨bn,0,none⟩)])∨(DT=180∧cap= #[.pointer (some ⟨ba,0,none⟩),.pointer (some ⟨bn,0,none⟩)]))
 (h:Calls Tryz.prog DT cap w fun e w'=>e= .returned (.bool x)∧w=w'):
 Calls Tryz.prog 207 #[.func (.func DT) #[] cap] w fun e w'=>e= .returned (.bool (!x))∧w=w':=by
 have H:=Lib.hid h;clear h;rcases hf with ⟨rfl,rfl⟩|⟨rfl,rfl⟩|⟨rfl,rfl⟩|⟨rfl,rfl⟩
 ·go_enter Tryz.func207,Tryz.ntmps207;go_wp2_with (go_at_call 176;refine H.out.mono ?_;rintro e w' ⟨rfl,rfl⟩);go_ret;exact ⟨rfl,rfl⟩
 ·go_enter Tryz.func207,Tryz.ntmps207;go_wp2_with (go_at_call 177;refine H.out.mono ?_;rintro e w' ⟨rfl,rfl⟩);go_ret;exact ⟨rfl,rfl⟩
 ·go_enter Tryz.func207,Tryz.ntmps207;go_wp2_with (go_at_call 179;refine H.out.mono ?_;rintro e w' ⟨rfl,rfl⟩);go_ret;exact ⟨rfl,rfl⟩
 ·go_enter Tryz.func207,Tryz.ntmps207;go_wp2_with (go_at_call 180;refine H.out.mono ?_;rintro e w' ⟨rfl,rfl⟩);go_ret;exact ⟨rfl,rfl⟩
def lS (aK:Int) (n:Nk):List Bool:=
 [decide (0≤n.sn)&&decide (n.sn<1024),decide (1≤jE aK n.sn)&&decide (jE aK n.sn≤512),if n.part=true then decide (0≤n.fr)&&(decide (n.fr≤n.lt)&&decide (n.lt≤32767)) else decide (n.fr=0)&&decide (n.lt=0)]
theorem Em:(lS aK n).all id=gY aK n:=by
 simp[lS,gY]
set_option maxHeartbeats 800000 in
theorem xV:Calls Tryz.prog 139 #[.int .i64 aK,.agg (jU n)] w fun e w'=>e= .returned (.bool (gY aK n))∧Below w.heap.size w w':=by
 obtain ⟨f3,hf3⟩:∃f3,f3=if n.part then 177 else 176:=⟨_,rfl⟩
 have bA:=((au.new w 3 #[.int .i64 aK]).alloc (.cells (jU n) 197)).alloc (.cells #[.func (.func 179) #[] #[.pointer (some ⟨w.heap.size+1,0,none⟩)],.func (.func 180) #[] #[.pointer (some ⟨w.heap.size,0,none⟩),.pointer (some ⟨w.heap.size+1,0,none⟩)],.func (.func f3) #[] #[.pointer (some ⟨w.heap.size+1,0,none⟩)]] 26);have bN:=(au.new (w.alloc (.cells #[.int .i64 aK] 3)) 197 (jU n)).alloc (.cells #[.func (.func 179) #[] #[.pointer (some ⟨w.heap.size+1,0,none⟩)],.func (.func 180) #[] #[.pointer (some ⟨w.heap.size,0,none⟩),.pointer (some ⟨w.heap.size+1,0,none⟩)],.func (.func f3) #[] #[.pointer (some ⟨w.heap.size+1,0,none⟩)]] 26);have bL:=au.new ((w.alloc (.cells #[.int .i64 aK] 3)).alloc (.cells (jU n) 197)) 26 #[.func (.func 179) #[] #[.pointer (some ⟨w.heap.size+1,0,none⟩)],.func (.func 180) #[] #[.pointer (some ⟨w.heap.size,0,none⟩),.pointer (some ⟨w.heap.size+1,0,none⟩)],.func (.func f3) #[] #[.pointer (some ⟨w.heap.size+1,0,none⟩)]];simp only[World.size_alloc] at bN bL;have hBw:Below w.heap.size w (((w.alloc (.cells #[.int .i64 aK] 3)).alloc (.cells (jU n) 197)).alloc (.cells #[.func (.func 179) #[] #[.pointer (some ⟨w.heap.size+1,0,none⟩)],.func (.func 180) #[] #[.pointer (some ⟨w.heap.size,0,none⟩),.pointer (some ⟨w.heap.size+1,0,none⟩)],.func (.func f3) #[] #[.pointer (some ⟨w.heap.size+1,0,none⟩)]] 26)):=
  (((Below.refl _ w).alloc (Nat.le_refl _) _).alloc (by simp) _).alloc (by simp;omega) _
 have hall:∀W0,au W0 w.heap.size 3 #[.int .i64 aK]→au W0 (w.heap.size+1) 197 (jU n)→au W0 (w.heap.size+1+1) 26 #[.func (.func 179) #[] #[.pointer (some ⟨w.heap.size+1,0,none⟩)],.func (.func 180) #[] #[.pointer (some ⟨w.heap.size,0,none⟩),.pointer (some ⟨w.heap.size+1,0,none⟩)],.func (.func f3) #[] #[.pointer (some ⟨w.heap.size+1,0,none⟩)]]→
  Calls Tryz.prog 178 #[.slice (some ⟨w.heap.size+1+1,0,none⟩) 3 3] W0 fun e w'=>e= .returned (.bool (gY aK n))∧W0=w':=fun W0 b0 b1 b2=>by
  rw[←Em];refine LM (w.heap.size+1+1) [.func (.func 179) #[] #[.pointer (some ⟨w.heap.size+1,0,none⟩)],.func (.func 180) #[] #[.pointer (some ⟨w.heap.size,0,none⟩),.pointer (some ⟨w.heap.size+1,0,none⟩)],.func (.func f3) #[] #[.pointer (some ⟨w.heap.size+1,0,none⟩)]] (lS aK n) (fun W=>W0=W) W0 ?_;refine uH (w.heap.size+1+1) _ (lS aK n) (fun W=>W0=W) W0 ?_;refine zU (w.heap.size+1+1) _ (lS aK n) (fun W=>W0=W) W0 rfl (by simp) (fun W hW=>by rw[←hW];exact b2) ?_ rfl;rintro i fv x W gP hx hpre rfl
  match i,gP,hx,hpre with
  |0,gP,hx,_=>
   simp only[lS,List.getElem?_cons_zero,Option.some.injEq] at gP hx;subst gP hx;exact Cv W0 (w.heap.size+1) w.heap.size 179 _ _ (.inr (.inr (.inl ⟨rfl,rfl⟩))) (LU W0 _ n b1)
  |1,gP,hx,_=>
   simp only[lS,List.getElem?_cons_zero,List.getElem?_cons_succ,Option.some.injEq] at gP hx;subst gP hx;exact Cv W0 (w.heap.size+1) w.heap.size 180 _ _ (.inr (.inr (.inr ⟨rfl,rfl⟩))) (LV W0 _ _ aK n b1 b0)
  |2,gP,hx,_=>
   simp only[lS,List.getElem?_cons_zero,List.getElem?_cons_succ,Option.some.injEq] at gP hx;subst gP hx;cases hp:n.part with
   |true=>
    simp only[hp,if_true] at hf3 ⊢;subst hf3;exact Cv W0 (w.heap.size+1) w.heap.size 177 _ _ (.inr (.inl ⟨rfl,rfl⟩)) (LQ W0 _ n b1)
   |false=>
    simp only[hp,Bool.false_eq_true,if_false] at hf3 ⊢;subst hf3;exact Cv W0 (w.heap.size+1) w.heap.size 176 _ _ (.inl ⟨rfl,rfl⟩) (LP W0 _ n b1)
  |i+3,gP,_,_=>simp at gP
 have Ru:=hall _ bA bN bL;have oK:=Lib.hid Ru;have HB:=Lib.hid hBw;have x1:=(au.new (w.alloc (.cells #[.int .i64 aK] 3)) 197 (jU n)).cell 1;clear hall Ru bA bN bL hBw;unfold jU at*;generalize gY aK n=R at*;cases hp:n.part with
 |true=>
  rw[hp] at hf3 oK HB x1;simp only[if_true] at hf3;subst hf3;have HP:=Lib.hid hp;clear hp;go_enter Tryz.func139,Tryz.ntmps139;go_wp2_with (go_at_call 178;refine oK.out.mono ?_;rintro e w' ⟨rfl,rfl⟩);go_ret;exact ⟨rfl,HB.out⟩
 |false=>
  rw[hp] at hf3 oK HB x1;simp only[Bool.false_eq_true,if_false] at hf3;subst hf3;have HP:=Lib.hid hp;clear hp;go_enter Tryz.func139,Tryz.ntmps139;go_wp2_with (go_at_call 178;refine oK.out.mono ?_;rintro e w' ⟨rfl,rfl⟩);go_ret;exact ⟨rfl,HB.out⟩
set_option maxRecDepth 10000 in
set_option maxHeartbeats 1000000 in
theorem sH (a b:Nk):Calls Tryz.prog 140 #[.int .i64 aK,.agg (jU a),.agg (jU b)] w fun e w'=>e= .returned (.bool (kW aK a b))∧Below w.heap.size w w':=by
 have hd:=fun (x:Int) (W:World)=>Bf W aK x
 have HD:=Lib.hid hd;have hB:=((Below.refl w.heap.size w).alloc (Nat.le_refl _) (.cells (jU a) 197)).alloc (by simp) (.cells (jU b) 197);have ba:=(au.new w 197 (jU a)).alloc (.cells (jU b) 197);have bb:=au.new (w.alloc (.cells (jU a) 197)) 197 (jU b);simp only[World.size_alloc] at bb;obtain ⟨x0,x1,x2,x3⟩:=ba.gZ;obtain ⟨y0,y1,y2,y3⟩:=bb.gZ;have HB:=Lib.hid hB;have hfin:kW aK a b=(decide (jE aK b.sn<jE aK a.sn)||(decide (a.sn=b.sn)&&(a.part&&(b.part&&decide (a.lt<b.fr))))):=rfl;rw[hfin];clear hd hB ba bb hfin;unfold jU at*;obtain ⟨VF,ap,af,al⟩:=a;obtain ⟨VG,bp,bf,bl⟩:=b;dsimp only at*;by_cases hA:jE aK VG<jE aK VF
 ·have d1:decide (jE aK VG<jE aK VF)=true:=decide_eq_true hA;rw[d1];go_enter Tryz.func140,Tryz.ntmps140;go_wp2_with fail
  go_quiet ((go_at_call 181;exact Calls.quiet_of_same ((HD.out _ _).mono fun _ _ hh=>⟨hh.1,hh.2.symm⟩)))
  go_wp2;go_ret;exact ⟨rfl,HB.out.drewN _⟩
 have d1:decide (jE aK VG<jE aK VF)=false:=decide_eq_false hA;rw[d1];by_cases Pd:VF=VG
 ·have e1:(VF==VG)=true:=by simp[Pd]
  rw[decide_eq_true Pd];have Gd:=Lib.hid Pd;clear Pd;cases ap with
  |false=>
   go_enter Tryz.func140,Tryz.ntmps140;go_wp2_with fail
   go_quiet ((go_at_call 181;exact Calls.quiet_of_same ((HD.out _ _).mono fun _ _ hh=>⟨hh.1,hh.2.symm⟩)))
   go_wp2;go_ret;exact ⟨rfl,HB.out.drewN _⟩
  |true=>
   cases bp with
   |false=>
    go_enter Tryz.func140,Tryz.ntmps140;go_wp2_with fail
    go_quiet ((go_at_call 181;exact Calls.quiet_of_same ((HD.out _ _).mono fun _ _ hh=>⟨hh.1,hh.2.symm⟩)))
    go_wp2;go_ret;exact ⟨rfl,HB.out.drewN _⟩
   |true=>
    go_enter Tryz.func140,Tryz.ntmps140;go_wp2_with fail
    go_quiet ((go_at_call 181;exact Calls.quiet_of_same ((HD.out _ _).mono fun _ _ hh=>⟨hh.1,hh.2.symm⟩)))
    go_wp2;go_ret;exact ⟨by simp,HB.out.drewN _⟩
 ·have e1:(VF==VG)=false:=by simp[Pd]
  rw[decide_eq_false Pd];go_enter Tryz.func140,Tryz.ntmps140;go_wp2_with fail
  go_quiet ((go_at_call 181;exact Calls.quiet_of_same ((HD.out _ _).mono fun _ _ hh=>⟨hh.1,hh.2.symm⟩)))
  go_wp2;go_ret;exact ⟨rfl,HB.out.drewN _⟩
end
end
section
open Go
section
variable {P:Program} {ops:Array Oper} {Q:Exit→Act→World→Prop} {md:Region.Mode} {S:World→Prop} {L:List Nat}
def jJ (L:List Nat) (listed:Array Bool):Bool:=L.all fun d=> !listed.getD d true
def dR (P:Program) (md:Region.Mode) (ops:Array Oper) (Q:Exit→Act→World→Prop) (S:World→Prop) (L:List Nat):Nat→Array Bool→Act→World→Prop
 |0,listed,a,w=>Region.ready md ops listed= []∧Q .normal a w
 |fuel+1,listed,a,w=>
  (Region.ready md ops listed= []→Q .normal a w)∧
  ∀i∈Region.ready md ops listed,wpOp P ops Q i (fun a' w'=>(jJ L (listed.setIfInBounds i true)=true→S w')∧dR P md ops Q S L fuel (listed.setIfInBounds i true) a' w') a w
theorem qW:∀(fuel:Nat) (listed:Array Bool) (a:Act) (w:World),dR P md ops Q S L fuel listed a w→wpAny P md ops Q fuel listed a w
 |0,_,_,_,h=>h
 |fuel+1,_,_,_,h=>⟨h.1,fun i hi=>wpOp_mono (fun a' w' h'=>qW fuel _ a' w' h'.2) (h.2 i hi)⟩
theorem wN {listed:Array Bool} {k:Nat} (h3:listed.getD k true=false) (h4:listed.getD k false=true):False:=by
 rcases Nat.lt_or_ge k listed.size with h'|h'
 ·simp[h'] at h3 h4;rw[h3] at h4;cases h4
 ·simp[Array.getElem?_eq_none h'] at h3
theorem kX {listed:Array Bool} {j:Nat} (hj:j∉L):jJ L (listed.setIfInBounds j true)=jJ L listed:=by
 unfold jJ;rw[Bool.eq_iff_iff,List.all_eq_true,List.all_eq_true];constructor
 ·intro h d hd;have:=h d hd
  rwa [getD_set_ne true (fun e=>hj (by rw[e];exact hd))] at this
 ·intro h d hd;rw[getD_set_ne true (fun e=>hj (by rw[e];exact hd))];exact h d hd
def vL (md:Region.Mode) (ops:Array Oper) (W:List Nat) (listed:Array Bool) (i:Nat):Bool:=
 W.all fun j=> !listed.getD j true&&(match ops[j]? with
  |some oj=>oj.after.any fun e=>Region.binds md e&&(e.on==i||W.contains e.on)
  |none=>false)
theorem Gz {W:List Nat} {listed:Array Bool} {i:Nat} (h:vL md ops W listed i=true) (hun:listed.getD i true=false):∀j∈W,j∉Region.ready md ops listed:=by
 intro j hj hr;obtain ⟨hju,oj,hoj,hall⟩:=mem_ready.1 hr;have h1:=List.all_eq_true.1 h j hj;rw[hoj,Bool.and_eq_true] at h1;obtain ⟨e,he,hb⟩:=Array.any_eq_true'.1 h1.2;simp only[Bool.and_eq_true,Bool.or_eq_true,beq_iff_eq] at hb;have h2:=hall e he hb.1;rcases hb.2 with h3|h3
 ·rw[h3] at h2;exact wN hun h2
 ·have h4:=List.all_eq_true.1 h e.on (by simpa using h3);simp only[Bool.and_eq_true,Bool.not_eq_true'] at h4;exact wN h4.1 h2
theorem JN {W:List Nat} {listed:Array Bool} {i j:Nat} (h:vL md ops W listed i=true) (hj:j∉W):vL md ops W (listed.setIfInBounds j true) i=true:=by
 unfold vL at h ⊢;rw[List.all_eq_true] at h ⊢;intro k hk;have h1:=h k hk
 rwa [getD_set_ne true (fun e=>hj (by rw[e];exact hk))]
theorem Eo {W:List Nat} {listed:Array Bool} {i:Nat} (h:vL md ops W listed i=true) (hW:∀d∈L,d∈W):jJ L listed=true:=by
 unfold jJ;rw[List.all_eq_true];intro d hd;have h1:=List.all_eq_true.1 h d (hW d hd);rw[Bool.and_eq_true] at h1;exact h1.1
section
variable {i:Nat} {oi:Oper} {v:Value} (hi:ops[i]? =some oi) (hsel:∀(j:Nat) (o:Oper) cs b,ops[j]? =some o→o.op≠ .select cs b) (hQ:∀c a w,Q (.panic c) (a.put oi.dst v) w→Q (.panic c) a w)
theorem vM {listed:Array Bool} (hfree:∀j oj,ops[j]? =some oj→j≠i→listed.getD j true=false→(∀e∈oj.after,Region.binds md e=true→e.on≠i)→oi.apart ops oj=true) (j:Nat):
 ∀k ok,ops[k]? =some ok→k≠i→(listed.setIfInBounds j true).getD k true=false→(∀e∈ok.after,Region.binds md e=true→e.on≠i)→oi.apart ops ok=true:=fun k ok hk hki hun hno=>by
 refine hfree k ok hk hki ?_ hno;by_cases hjk:j=k
 ·subst hjk;rcases Nat.lt_or_ge j listed.size with h'|h'
  ·simp[h'] at hun
  ·simp at hun
 ·rw[getD_set_ne true hjk] at hun;exact hun
include hi hsel hQ in
theorem Cw (W:List Nat) (hil:i∉L) (hW:∀d∈L,d∈W):∀(fuel:Nat) (listed:Array Bool) (a:Act) (w:World),
 (∀j oj,ops[j]? =some oj→j≠i→listed.getD j true=false→(∀e∈oj.after,Region.binds md e=true→e.on≠i)→oi.apart ops oj=true)→
 i∈Region.ready md ops listed→YieldsIf P ops S oi v a→S w→vL md ops W listed i=true→
 dR P md ops Q S L fuel (listed.setIfInBounds i true) (a.put oi.dst v) w→dR P md ops Q S L (fuel+1) listed a w:=by
 intro fuel
 induction fuel with
 |zero=>
  intro listed a w _ hr hy hS hc H;refine ⟨fun h=>(by rw[h] at hr;cases hr),fun j hj=> ?_⟩;by_cases hji:j=i
  ·subst hji;exact hy.wpOp hi hS ⟨fun _=>hS,H⟩
  ·have:=ready_mono hj hji;rw[H.1] at this;cases this
 |succ fuel ih=>
  intro listed a w hfree hr hy hS hc H;refine ⟨fun h=>(by rw[h] at hr;cases hr),fun j hj=> ?_⟩;by_cases hji:j=i
  ·subst hji;exact hy.wpOp hi hS ⟨fun _=>hS,H⟩
  ·have h1:=H.2 j (ready_mono hj hji);have hjw:j∉W:=fun hm=>Gz hc (mem_ready.1 hr).1 j hm hj
   have hjl:j∉L:=fun hm=>hjw (hW j hm)
   have hcl:=Eo hc hW;have WU:jJ L ((listed.setIfInBounds i true).setIfInBounds j true)=true:=by rw[kX hjl,kX hil];exact hcl
   obtain ⟨hjun,oj,hoj,hall⟩:=mem_ready.1 hj;have hnot:∀e∈oj.after,Region.binds md e=true→e.on≠i:=fun e he hb heq=>by
    have h1:=hall e he hb;have h0:=(mem_ready.1 hr).1;rw[heq] at h1;exact wN h0 h1
   have h2:=wpOp_putIf hoj (hfree j oj hoj hji hjun hnot) (fun cs b=>hsel i oi cs b hi) (fun cs b=>hsel j oj cs b hoj) hQ hy h1;refine wpOp_mono (fun a' w' h3=>⟨fun _=>h3.2.1 WU,ih (listed.setIfInBounds j true) a' w' (vM hfree j) (ready_mono hr (Ne.symm hji)) h3.1 (h3.2.1 WU) (JN hc hjw) ?_⟩) h2;rw[Array.setIfInBounds_comm _ _ hji];exact h3.2.2
include hi hsel hQ in
theorem qD (hil:i∉L):∀(fuel:Nat) (listed:Array Bool) (a:Act) (w:World),
 (∀j oj,ops[j]? =some oj→j≠i→listed.getD j true=false→(∀e∈oj.after,Region.binds md e=true→e.on≠i)→oi.apart ops oj=true)→
 i∈Region.ready md ops listed→YieldsIf P ops (fun _=>True) oi v a→(jJ L listed=true→S w)→
 dR P md ops Q S L fuel (listed.setIfInBounds i true) (a.put oi.dst v) w→dR P md ops Q S L (fuel+1) listed a w:=by
 intro fuel
 induction fuel with
 |zero=>
  intro listed a w _ hr hy hS H;refine ⟨fun h=>(by rw[h] at hr;cases hr),fun j hj=> ?_⟩;by_cases hji:j=i
  ·subst hji;exact hy.wpOp hi trivial ⟨fun h=>hS (by rwa [kX hil] at h),H⟩
  ·have:=ready_mono hj hji;rw[H.1] at this;cases this
 |succ fuel ih=>
  intro listed a w hfree hr hy hS H;refine ⟨fun h=>(by rw[h] at hr;cases hr),fun j hj=> ?_⟩;by_cases hji:j=i
  ·subst hji;exact hy.wpOp hi trivial ⟨fun h=>hS (by rwa [kX hil] at h),H⟩
  ·have h1:=H.2 j (ready_mono hj hji);obtain ⟨hjun,oj,hoj,hall⟩:=mem_ready.1 hj;have hnot:∀e∈oj.after,Region.binds md e=true→e.on≠i:=fun e he hb heq=>by
    have h1:=hall e he hb;have h0:=(mem_ready.1 hr).1;rw[heq] at h1;exact wN h0 h1
   have hcc:jJ L (listed.setIfInBounds j true)=true→jJ L ((listed.setIfInBounds i true).setIfInBounds j true)=true:=fun h=>by
    rw[Array.setIfInBounds_comm _ _ (Ne.symm hji),kX hil];exact h
   have h2:=wpOp_putIf hoj (hfree j oj hoj hji hjun hnot) (fun cs b=>hsel i oi cs b hi) (fun cs b=>hsel j oj cs b hoj) hQ hy h1;refine wpOp_mono (fun a' w' h3=>⟨fun h=>h3.2.1 (hcc h),ih (listed.setIfInBounds j true) a' w' (vM hfree j) (ready_mono hr (Ne.symm hji)) h3.1 (fun h=>h3.2.1 (hcc h)) ?_⟩) h2;rw[Array.setIfInBounds_comm _ _ hji];exact h3.2.2
end
theorem fB {i:Nat} {oi:Oper} {v:Value} {fuel:Nat} {listed:Array Bool} {a:Act} {w:World} (W:List Nat) (hi:ops[i]? =some oi)
 (hs:Region.noSelect ops=true) (hf:Region.free md ops listed i=true) (hr:(Region.ready md ops listed).contains i=true) (hl:(!L.contains i&&(vL md ops W listed i&&L.all fun d=>W.contains d))=true)
 (hQ:∀c a w,Q (.panic c) (a.put oi.dst v) w→Q (.panic c) a w) (hy:YieldsIf P ops S oi v a) (hS:S w)
 (h:dR P md ops Q S L fuel (listed.setIfInBounds i true) (a.put oi.dst v) w):dR P md ops Q S L (fuel+1) listed a w:=by
 simp only[Bool.and_eq_true,Bool.not_eq_true'] at hl;exact Cw hi (Region.noSelect_spec hs) hQ W (by simpa using hl.1) (fun d hd=>by simpa using List.all_eq_true.1 hl.2.2 d hd) fuel listed a w (Region.free_spec hi hf) (by simpa using hr) hy hS hl.2.1 h
theorem aj {i:Nat} {oi:Oper} {v:Value} {fuel:Nat} {listed:Array Bool} {a:Act} {w:World} (hi:ops[i]? =some oi)
 (hs:Region.noSelect ops=true) (hf:Region.free md ops listed i=true) (hr:(Region.ready md ops listed).contains i=true) (hl:(!L.contains i)=true)
 (hQ:∀c a w,Q (.panic c) (a.put oi.dst v) w→Q (.panic c) a w) (hy:YieldsIf P ops (fun _=>True) oi v a) (hS:S w)
 (h:dR P md ops Q S L fuel (listed.setIfInBounds i true) (a.put oi.dst v) w):dR P md ops Q S L (fuel+1) listed a w:=
 qD hi (Region.noSelect_spec hs) hQ (by simpa using hl) fuel listed a w (Region.free_spec hi hf) (by simpa using hr) hy (fun _=>hS) h
theorem Cx {i:Nat} {oi:Oper} {v:Value} {fuel:Nat} {listed:Array Bool} {a:Act} {w:World} (hi:ops[i]? =some oi)
 (hs:Region.noSelect ops=true) (hf:Region.free md ops listed i=true) (hr:(Region.ready md ops listed).contains i=true) (hl:(!L.contains i&& !jJ L listed)=true)
 (hQ:∀c a w,Q (.panic c) (a.put oi.dst v) w→Q (.panic c) a w) (hy:YieldsIf P ops (fun _=>True) oi v a)
 (h:dR P md ops Q S L fuel (listed.setIfInBounds i true) (a.put oi.dst v) w):dR P md ops Q S L (fuel+1) listed a w:=by
 simp only[Bool.and_eq_true,Bool.not_eq_true'] at hl;exact qD hi (Region.noSelect_spec hs) hQ (by simpa using hl.1) fuel listed a w (Region.free_spec hi hf) (by simpa using hr) hy (fun h=>by rw[hl.2] at h;cases h) h
theorem aB {α:Type _} {xs:List α} {i:Nat} (h:i<xs.toArray.size):xs.toArray[i]=xs[i]'(by simpa using h):=List.getElem_toArray h
theorem ax {α:Type _} (l:List α) (i:Nat) (a:α):l.toArray.setIfInBounds i a=(l.set i a).toArray:=List.setIfInBounds_toArray l i a
theorem ay {α:Type _} {x:α} {xs:List α} {a:α}:(x::xs).set 0 a=a::xs:=rfl
theorem aA {α:Type _} {x:α} {xs:List α} {n:Nat} {a:α}:(x::xs).set (n+1) a=x::xs.set n a:=rfl
theorem aC {α:Type _} {a:α} {xs:List α} {h:0<(a::xs).length}:(a::xs)[0]'h=a:=rfl
theorem aD {α:Type _} {a:α} {xs:List α} {i:Nat} {h:i+1<(a::xs).length}:(a::xs)[i+1]'h=xs[i]'(Nat.lt_of_succ_lt_succ h):=rfl
theorem iK (W:List Nat) (i:Nat) {oi:Oper} (v:Value) {fuel:Nat} {listed:Array Bool} {a:Act} {w:World} (hi:ops[i]? =some oi) (hy:YieldsIf P ops S oi v a) (hS:S w)
 (h:dR P md ops Q S L fuel (listed.setIfInBounds i true) (a.put oi.dst v) w)
 (hs:Region.noSelect ops=true:=by kernel_rfl) (hf:Region.free md ops listed i=true:=by kernel_rfl) (hr:(Region.ready md ops listed).contains i=true:=by kernel_rfl) (hl:(!L.contains i&&(vL md ops W listed i&&L.all fun d=>W.contains d))=true:=by kernel_rfl)
 (hQ:∀c a w,Q (.panic c) (a.put oi.dst v) w→Q (.panic c) a w:=by exact fun _ _ _ h=>h):dR P md ops Q S L (fuel+1) listed a w:=fB W hi hs hf hr hl hQ hy hS h
theorem aT (i:Nat) {oi:Oper} (v:Value) {fuel:Nat} {listed:Array Bool} {a:Act} {w:World} (hi:ops[i]? =some oi) (hy:YieldsIf P ops (fun _=>True) oi v a) (hS:S w)
 (h:dR P md ops Q S L fuel (listed.setIfInBounds i true) (a.put oi.dst v) w)
 (hs:Region.noSelect ops=true:=by kernel_rfl) (hf:Region.free md ops listed i=true:=by kernel_rfl) (hr:(Region.ready md ops listed).contains i=true:=by kernel_rfl) (hl:(!L.contains i)=true:=by kernel_rfl)
 (hQ:∀c a w,Q (.panic c) (a.put oi.dst v) w→Q (.panic c) a w:=by exact fun _ _ _ h=>h):dR P md ops Q S L (fuel+1) listed a w:=aj hi hs hf hr hl hQ hy hS h
theorem jo (i:Nat) {oi:Oper} (v:Value) {fuel:Nat} {listed:Array Bool} {a:Act} {w:World} (hi:ops[i]? =some oi) (hy:YieldsIf P ops (fun _=>True) oi v a)
 (h:dR P md ops Q S L fuel (listed.setIfInBounds i true) (a.put oi.dst v) w)
 (hs:Region.noSelect ops=true:=by kernel_rfl) (hf:Region.free md ops listed i=true:=by kernel_rfl) (hr:(Region.ready md ops listed).contains i=true:=by kernel_rfl) (hl:(!L.contains i&& !jJ L listed)=true:=by kernel_rfl)
 (hQ:∀c a w,Q (.panic c) (a.put oi.dst v) w→Q (.panic c) a w:=by exact fun _ _ _ h=>h):dR P md ops Q S L (fuel+1) listed a w:=Cx hi hs hf hr hl hQ hy h
theorem bH {i:Nat} {oi:Oper} {fuel:Nat} {listed:Array Bool} {a:Act} {w:World} (hi:ops[i]? =some oi) (hr:Region.ready md ops listed= [i]) (hl:jJ L (listed.setIfInBounds i true)=false) (hw:Region.wanted oi (yielded ops a.tmps)=true)
 (h:∀K:Act→World→Prop,(∀a' w',dR P md ops Q S L fuel (listed.setIfInBounds i true) a' w'→K a' w')→oi.wp P a w K Q):dR P md ops Q S L (fuel+1) listed a w:=by
 refine ⟨fun h0=>(by rw[hr] at h0;cases h0),fun j hj=> ?_⟩;rw[hr] at hj;have hji:j=i:=by simpa using hj
 subst hji;unfold wpOp;simp only[hi,hw,if_true];exact .inl (h _ fun a' w' h'=>⟨fun hc=>(by rw[hl] at hc;cases hc),h'⟩)
theorem aQ {i:Nat} {oi:Oper} {fuel:Nat} {listed:Array Bool} {a:Act} {w:World} (hi:ops[i]? =some oi) (hr:Region.ready md ops listed= [i]) (hw:Region.wanted oi (yielded ops a.tmps)=true)
 (h:∀K:Act→World→Prop,(∀a' w',S w'→dR P md ops Q S L fuel (listed.setIfInBounds i true) a' w'→K a' w')→oi.wp P a w K Q):dR P md ops Q S L (fuel+1) listed a w:=by
 refine ⟨fun h0=>(by rw[hr] at h0;cases h0),fun j hj=> ?_⟩;rw[hr] at hj;have hji:j=i:=by simpa using hj
 subst hji;unfold wpOp;simp only[hi,hw,if_true];exact .inl (h _ fun a' w' hs h'=>⟨fun _=>hs,h'⟩)
theorem aX {listed:Array Bool} {a:Act} {w:World} (hr:Region.ready md ops listed= []) (h:Q .normal a w):∀fuel,dR P md ops Q S L fuel listed a w
 |0=>⟨hr,h⟩
 |_+1=>⟨fun _=>h,by rw[hr];simp⟩
theorem aY {id:Nat} {a:Act} {w:World} (S:World→Prop) (L:List Nat) (hm:P.follows .mixedOrders=true)
 (h:dR P .any ops Q S L ops.size (Array.replicate ops.size false) a w.drew):(Code.region id ops true).wp P Q a w:=
 wp_region_any hm (qW _ _ _ _ h)
end
end
section
open Go.RowKit
attribute [local go_sem] Oper.semAt_some
structure bI (w:World) (A:Option Addr) (n c:Nat) (l:List Nk):Prop where
 len:l.length=n
 cap:n≤c
 mx:c≤9223372036854775807
 at_:0<n→∃ad,A=some ad∧ad.block<w.heap.size∧∀j r,l[j]? =some r→w.cell? (ad.add (j*4))=some (.int .i64 r.sn)∧w.cell? ⟨(ad.add (j*4)).block,(ad.add (j*4)).off+1,none⟩=some (.bool r.part)∧w.cell? ⟨(ad.add (j*4)).block,(ad.add (j*4)).off+2,none⟩=some (.int .i64 r.fr)∧w.cell? ⟨(ad.add (j*4)).block,(ad.add (j*4)).off+3,none⟩=some (.int .i64 r.lt)
theorem bI.below {w w':World} {A:Option Addr} {n c:Nat} {l:List Nk} (h:bI w A n c l) (hb:Below w.heap.size w w'):bI w' A n c l:=
 ⟨h.len,h.cap,h.mx,fun hn=>by
  obtain ⟨ad,e,hlt,hc⟩:=h.at_ hn;refine ⟨ad,e,Nat.lt_of_lt_of_le hlt hb.size,fun j r hr=> ?_⟩;obtain ⟨k0,k1,k2,k3⟩:=hc j r hr;have hbk:(ad.add (j*4)).block<w.heap.size:=by rw[block_add];exact hlt
  exact ⟨(hb.cell hbk).trans k0,(hb.cell (p:=⟨(ad.add (j*4)).block,_,none⟩) hbk).trans k1,(hb.cell (p:=⟨(ad.add (j*4)).block,_,none⟩) hbk).trans k2,(hb.cell (p:=⟨(ad.add (j*4)).block,_,none⟩) hbk).trans k3⟩⟩
theorem bI.drewN {w:World} {A:Option Addr} {n c:Nat} {l:List Nk} (h:bI w A n c l) (k:Nat):bI (w.drewN k) A n c l:=h.below ((Below.refl _ w).drewN k)
theorem bI.alloc {w:World} {A:Option Addr} {n c:Nat} {l:List Nk} (h:bI w A n c l) (o:Obj):bI (w.alloc o) A n c l:=h.below ((Below.refl _ w).alloc (Nat.le_refl _) o)
def Pe (aK:Int) (l:List Nk) (k:Nat):Prop:=∀n,l[k]? =some n→gY aK n=true∧∀m,0<k→l[k-1]? =some m→kW aK m n=true
theorem jK (aK:Int):∀l:List Nk,qT aK l=true↔∀k,Pe aK l k
 | []=>by simp[qT,Pe]
 | [n]=>by
  simp only[qT,Pe];constructor
  ·intro h k m hm;cases k with
   |zero=>simp at hm;subst hm;exact ⟨h,fun _ h0=>by omega⟩
   |succ k=>simp at hm
  ·intro h;exact (h 0 n rfl).1
 |a::b::r=>by
  have ih:=jK aK (b::r);simp only[qT,Bool.and_eq_true,ih];constructor
  ·rintro ⟨h1,h2,h3⟩ k n hn;cases k with
   |zero=>simp at hn;subst hn;exact ⟨h1,fun _ h0=>by omega⟩
   |succ k=>
    have h4:=h3 k n (by simpa using hn);refine ⟨h4.1,fun m _ hm=> ?_⟩;cases k with
    |zero=>simp at hn hm;subst hn hm;exact h2
    |succ k=>exact h4.2 m (by omega) (by simpa using hm)
  ·intro h;refine ⟨(h 0 a rfl).1,(h 1 b rfl).2 a (by omega) rfl,fun k n hn=> ?_⟩;have h4:=h (k+1) n (by simpa using hn);refine ⟨h4.1,fun m h0 hm=>h4.2 m (by omega) ?_⟩;rw[show k+1-1=(k-1)+1 by omega];simpa using hm
section
variable (w:World)
set_option maxRecDepth 10000 in
set_option maxHeartbeats 8000000 in
theorem jL (aK:Int) (A:Option Addr) (n c:Nat) (l:List Nk) (h:bI w A n c l):
 Calls Tryz.prog 119 #[.agg #[.int .i64 aK,.slice A n c]] w fun e w'=>e= .returned (.bool (cu aK l))∧Below w.heap.size w w':=by
 have hlen:=h.len;have hcap:=h.cap;have hmx:=h.mx;obtain ⟨R,hR⟩:∃R,cu aK l=R:=⟨_,rfl⟩
 rw[hR];have HR:=Lib.hid hR;clear hR;by_cases h0:0≤aK
 ·have d0:decide (aK<0)=false:=decide_eq_false (by omega);by_cases h1:aK≤1023
  ·have d1:decide (1023<aK)=false:=decide_eq_false (by omega);by_cases h5:n≤512
   ·have hR2:qT aK l=R:=by rw[←HR.out];simp[cu,hlen,h0,h1,h5]
    have HR2:=Lib.hid hR2;have HL:=Lib.hid hlen;have HN:=Lib.hid (h.alloc (.cells #[.int .i64 aK,.slice A n c] 133));have hbk:=au.new w 133 #[.int .i64 aK,.slice A n c];have HBK:=Lib.hid hbk;have Ep:=Lib.hid ((Below.refl w.heap.size w).alloc (Nat.le_refl _) (.cells #[.int .i64 aK,.slice A n c] 133));clear h hR2 hbk hlen;go_enter Tryz.func119,Tryz.ntmps119;go_wp2;have hz:=World.size_alloc w (.cells #[.int .i64 aK,.slice A n c] 133);have HZ:=Lib.hid hz;clear hz;generalize w.alloc (.cells #[.int .i64 aK,.slice A n c] 133)=w0 at*
    go_loopw [22] (fun i wr=>∃k:Nat,k≤n∧i= .int .i64 k∧Below w0.heap.size w0 wr∧∀j,j<k→Pe aK l j) (fun i _=>n-(intOf i).toNat)
    case atStart=>exact ⟨0,Nat.zero_le _,rfl,Below.refl _ _,fun j hj=>by omega⟩
    case round=>
     obtain ⟨k,hk,rfl,hb,hall⟩:=hrel;have oK:=Lib.hid hall;clear hall;by_cases hlt:k<n
     ·obtain ⟨x,hx⟩:∃x,l[k]? =some x:=⟨_,List.getElem?_eq_getElem (by have:=HL.out;omega)⟩
      obtain ⟨ad,rfl,Cy,hcl⟩:=(HN.out.below hb).at_ (by omega);obtain ⟨k0,k1,k2,k3⟩:=hcl k x hx;have HX:=Lib.hid hx;have qP:=Lib.hid hcl;have hbw:w.heap.size<w0.heap.size:=HBK.out.lt;have b0:=(HBK.out.below hb hbw).alloc (.cells (jU x) 197);have b1:=au.new wr 197 (jU x);have hbW:Below w0.heap.size w0 (wr.alloc (.cells (jU x) 197)):=hb.alloc hb.size _;have z0:(wr.alloc (.cells (jU x) 197)).cell? ⟨w.heap.size,0,none⟩=some (.int .i64 aK):=b0.cell 0;have z1:(wr.alloc (.cells (jU x) 197)).cell? ⟨w.heap.size,1,none⟩=some (.slice (some ad) n c):=b0.cell 1;have y0:(wr.alloc (.cells (jU x) 197)).cell? ⟨wr.heap.size,0,none⟩=some (.int .i64 x.sn):=b1.cell 0;have y1:(wr.alloc (.cells (jU x) 197)).cell? ⟨wr.heap.size,1,none⟩=some (.bool x.part):=b1.cell 1;have y2:(wr.alloc (.cells (jU x) 197)).cell? ⟨wr.heap.size,2,none⟩=some (.int .i64 x.fr):=b1.cell 2;have y3:(wr.alloc (.cells (jU x) 197)).cell? ⟨wr.heap.size,3,none⟩=some (.int .i64 x.lt):=b1.cell 3;have hlt1:wr.heap.size<(wr.alloc (.cells (jU x) 197)).heap.size:=by simp
      have WV:w.heap.size<(wr.alloc (.cells (jU x) 197)).heap.size:=b0.lt;have hal:=fun (W:World)=>xV W aK x
      have qX:=Lib.hid hal;have HNW:=Lib.hid ((HN.out.below hbW));clear b0 b1 hx hcl hal;unfold jU at*;go_upto_region 6 with (fail)
      generalize wr.alloc (.cells #[.int .i64 x.sn,.bool x.part,.int .i64 x.fr,.int .i64 x.lt] 197)=w1 at*;clear k0 k1 k2 k3;cases hA:gY aK x with
      |false=>
       rw[hA] at qX;have Pf:R=false:=by
        rw[←HR2.out,←Bool.not_eq_true,jK];intro hh;have:=(hh k x HX.out).1;rw[hA] at this;cases this
       subst Pf;have HA:=Lib.hid hA;clear hA;refine aY (fun w'=>w'.cell? ⟨w.heap.size,0,none⟩=some (.int .i64 aK)∧w'.cell? ⟨w.heap.size,1,none⟩=some (.slice (some ad) n c)∧w'.cell? ⟨wr.heap.size,0,none⟩=some (.int .i64 x.sn)∧w'.cell? ⟨wr.heap.size,1,none⟩=some (.bool x.part)∧w'.cell? ⟨wr.heap.size,2,none⟩=some (.int .i64 x.fr)∧w'.cell? ⟨wr.heap.size,3,none⟩=some (.int .i64 x.lt)) [3] (by kernel_rfl) ?_;have hHeld:=(show w1.drew.cell? ⟨w.heap.size,0,none⟩=some (.int .i64 aK)∧w1.drew.cell? ⟨w.heap.size,1,none⟩=some (.slice (some ad) n c)∧w1.drew.cell? ⟨wr.heap.size,0,none⟩=some (.int .i64 x.sn)∧w1.drew.cell? ⟨wr.heap.size,1,none⟩=some (.bool x.part)∧w1.drew.cell? ⟨wr.heap.size,2,none⟩=some (.int .i64 x.fr)∧w1.drew.cell? ⟨wr.heap.size,3,none⟩=some (.int .i64 x.lt) from ⟨z0,z1,y0,y1,y2,y3⟩);refine aT 0 ?_ rfl (Or.inl ⟨by rfl,?_⟩) hHeld ?_;rotate_left
       ·intro w' hSw;go_simp
        try with_reducible rfl
       try simp only[Act.put,aB,aC,ax,ay,aA]
       refine iK [3] 1 ?_ rfl (Or.inl ⟨by rfl,?_⟩) hHeld ?_;rotate_left
       ·intro w' hSw;obtain ⟨hS1,hS2,fU,kI,hS5,mU⟩:=hSw;go_simp
        try with_reducible rfl
       try simp only[Act.put,aB,aC,aD,ax,ay,aA]
       refine iK [3] 2 ?_ rfl (Or.inl ⟨by rfl,?_⟩) hHeld ?_;rotate_left
       ·intro w' hSw;obtain ⟨hS1,hS2,fU,kI,hS5,mU⟩:=hSw;go_simp
        try with_reducible rfl
       try simp only[Act.put,aB,aC,aD,ax,ay,aA]
       refine bH (i:=3) rfl (by kernel_rfl) (by kernel_rfl) (by rfl) (fun K hK=> ?_);go_simp;refine (qX.out _).mono ?_;rintro e1 w2 ⟨rfl,hb1⟩;refine hK _ _ ?_;clear hK K
       try simp only[Act.put,aB,aC,aD,ax,ay,aA]
       refine jo 4 ?_ rfl (Or.inl ⟨by rfl,?_⟩) ?_;rotate_left
       ·intro w' hSw;go_simp
        try with_reducible rfl
       try simp only[Act.put,aB,aC,aD,ax,ay,aA]
       refine jo 5 ?_ rfl (Or.inl ⟨by rfl,?_⟩) ?_;rotate_left
       ·intro w' hSw;go_simp
        try with_reducible rfl
       try simp only[Act.put,aB,aC,aD,ax,ay,aA]
       refine jo 6 undef rfl (Or.inr ⟨by rfl,rfl⟩) ?_
       try simp only[Act.put,aB,aC,aD,ax,ay,aA]
       refine jo 7 undef rfl (Or.inr ⟨by rfl,rfl⟩) ?_
       try simp only[Act.put,aB,aC,aD,ax,ay,aA]
       refine jo 8 undef rfl (Or.inr ⟨by rfl,rfl⟩) ?_
       try simp only[Act.put,aB,aC,aD,ax,ay,aA]
       refine jo 9 undef rfl (Or.inr ⟨by rfl,rfl⟩) ?_
       try simp only[Act.put,aB,aC,aD,ax,ay,aA]
       refine jo 10 undef rfl (Or.inr ⟨by rfl,rfl⟩) ?_
       try simp only[Act.put,aB,aC,aD,ax,ay,aA]
       refine jo 11 undef rfl (Or.inr ⟨by rfl,rfl⟩) ?_
       try simp only[Act.put,aB,aC,aD,ax,ay,aA]
       refine jo 12 undef rfl (Or.inr ⟨by rfl,rfl⟩) ?_
       try simp only[Act.put,aB,aC,aD,ax,ay,aA]
       refine jo 13 undef rfl (Or.inr ⟨by rfl,rfl⟩) ?_
       try simp only[Act.put,aB,aC,aD,ax,ay,aA]
       refine jo 14 undef rfl (Or.inr ⟨by rfl,rfl⟩) ?_
       try simp only[Act.put,aB,aC,aD,ax,ay,aA]
       refine jo 15 undef rfl (Or.inr ⟨by rfl,rfl⟩) ?_
       try simp only[Act.put,aB,aC,aD,ax,ay,aA]
       refine jo 16 undef rfl (Or.inr ⟨by rfl,rfl⟩) ?_
       try simp only[Act.put,aB,aC,aD,ax,ay,aA]
       refine jo 17 undef rfl (Or.inr ⟨by rfl,rfl⟩) ?_
       try simp only[Act.put,aB,aC,aD,ax,ay,aA]
       refine jo 18 undef rfl (Or.inr ⟨by rfl,rfl⟩) ?_
       try simp only[Act.put,aB,aC,aD,ax,ay,aA]
       refine jo 19 undef rfl (Or.inr ⟨by rfl,rfl⟩) ?_
       try simp only[Act.put,aB,aC,aD,ax,ay,aA]
       refine jo 20 undef rfl (Or.inr ⟨by rfl,rfl⟩) ?_
       try simp only[Act.put,aB,aC,aD,ax,ay,aA]
       refine jo 21 ?_ rfl (Or.inl ⟨by rfl,?_⟩) ?_;rotate_left
       ·intro w' hSw;go_simp
        try with_reducible rfl
       try simp only[Act.put,aB,aC,aD,ax,ay,aA]
       refine aX (by kernel_rfl) ?_ _;go_wp2;go_ret;exact ⟨rfl,Ep.out.trans (hbW.drew.trans (hb1.mono hbW.drew.size) |>.mono Ep.out.size)⟩
      |true=>
       rw[hA] at qX;have HA:=Lib.hid hA;clear hA;by_cases hk0:k=0
       ·subst hk0;refine aY (fun w'=>w'.cell? ⟨w.heap.size,0,none⟩=some (.int .i64 aK)∧w'.cell? ⟨w.heap.size,1,none⟩=some (.slice (some ad) n c)∧w'.cell? ⟨wr.heap.size,0,none⟩=some (.int .i64 x.sn)∧w'.cell? ⟨wr.heap.size,1,none⟩=some (.bool x.part)∧w'.cell? ⟨wr.heap.size,2,none⟩=some (.int .i64 x.fr)∧w'.cell? ⟨wr.heap.size,3,none⟩=some (.int .i64 x.lt)) [3] (by kernel_rfl) ?_;have hHeld:=(show w1.drew.cell? ⟨w.heap.size,0,none⟩=some (.int .i64 aK)∧w1.drew.cell? ⟨w.heap.size,1,none⟩=some (.slice (some ad) n c)∧w1.drew.cell? ⟨wr.heap.size,0,none⟩=some (.int .i64 x.sn)∧w1.drew.cell? ⟨wr.heap.size,1,none⟩=some (.bool x.part)∧w1.drew.cell? ⟨wr.heap.size,2,none⟩=some (.int .i64 x.fr)∧w1.drew.cell? ⟨wr.heap.size,3,none⟩=some (.int .i64 x.lt) from ⟨z0,z1,y0,y1,y2,y3⟩);refine aT 0 ?_ rfl (Or.inl ⟨by rfl,?_⟩) hHeld ?_;rotate_left
        ·intro w' hSw;go_simp
         try with_reducible rfl
        try simp only[Act.put,aB,aC,ax,ay,aA]
        refine iK [3] 1 ?_ rfl (Or.inl ⟨by rfl,?_⟩) hHeld ?_;rotate_left
        ·intro w' hSw;obtain ⟨hS1,hS2,fU,kI,hS5,mU⟩:=hSw;go_simp
         try with_reducible rfl
        try simp only[Act.put,aB,aC,aD,ax,ay,aA]
        refine iK [3] 2 ?_ rfl (Or.inl ⟨by rfl,?_⟩) hHeld ?_;rotate_left
        ·intro w' hSw;obtain ⟨hS1,hS2,fU,kI,hS5,mU⟩:=hSw;go_simp
         try with_reducible rfl
        try simp only[Act.put,aB,aC,aD,ax,ay,aA]
        refine bH (i:=3) rfl (by kernel_rfl) (by kernel_rfl) (by rfl) (fun K hK=> ?_);go_simp;refine (qX.out _).mono ?_;rintro e1 w2 ⟨rfl,hb1⟩;refine hK _ _ ?_;clear hK K
        try simp only[Act.put,aB,aC,aD,ax,ay,aA]
        refine jo 4 ?_ rfl (Or.inl ⟨by rfl,?_⟩) ?_;rotate_left
        ·intro w' hSw;go_simp
         try with_reducible rfl
        try simp only[Act.put,aB,aC,aD,ax,ay,aA]
        refine jo 5 ?_ rfl (Or.inl ⟨by rfl,?_⟩) ?_;rotate_left
        ·intro w' hSw;go_simp
         try with_reducible rfl
        try simp only[Act.put,aB,aC,aD,ax,ay,aA]
        refine jo 6 ?_ rfl (Or.inl ⟨by rfl,?_⟩) ?_;rotate_left
        ·intro w' hSw;go_simp
         try with_reducible rfl
        try simp only[Act.put,aB,aC,aD,ax,ay,aA]
        refine jo 7 ?_ rfl (Or.inl ⟨by rfl,?_⟩) ?_;rotate_left
        ·intro w' hSw;go_simp
         try with_reducible rfl
        try simp only[Act.put,aB,aC,aD,ax,ay,aA]
        refine jo 8 ?_ rfl (Or.inl ⟨by rfl,?_⟩) ?_;rotate_left
        ·intro w' hSw;go_simp
         try with_reducible rfl
        try simp only[Act.put,aB,aC,aD,ax,ay,aA]
        refine jo 9 undef rfl (Or.inr ⟨by rfl,rfl⟩) ?_
        try simp only[Act.put,aB,aC,aD,ax,ay,aA]
        refine jo 10 undef rfl (Or.inr ⟨by rfl,rfl⟩) ?_
        try simp only[Act.put,aB,aC,aD,ax,ay,aA]
        refine jo 11 undef rfl (Or.inr ⟨by rfl,rfl⟩) ?_
        try simp only[Act.put,aB,aC,aD,ax,ay,aA]
        refine jo 12 undef rfl (Or.inr ⟨by rfl,rfl⟩) ?_
        try simp only[Act.put,aB,aC,aD,ax,ay,aA]
        refine jo 13 undef rfl (Or.inr ⟨by rfl,rfl⟩) ?_
        try simp only[Act.put,aB,aC,aD,ax,ay,aA]
        refine jo 14 undef rfl (Or.inr ⟨by rfl,rfl⟩) ?_
        try simp only[Act.put,aB,aC,aD,ax,ay,aA]
        refine jo 15 undef rfl (Or.inr ⟨by rfl,rfl⟩) ?_
        try simp only[Act.put,aB,aC,aD,ax,ay,aA]
        refine jo 16 undef rfl (Or.inr ⟨by rfl,rfl⟩) ?_
        try simp only[Act.put,aB,aC,aD,ax,ay,aA]
        refine jo 17 undef rfl (Or.inr ⟨by rfl,rfl⟩) ?_
        try simp only[Act.put,aB,aC,aD,ax,ay,aA]
        refine jo 18 undef rfl (Or.inr ⟨by rfl,rfl⟩) ?_
        try simp only[Act.put,aB,aC,aD,ax,ay,aA]
        refine jo 19 undef rfl (Or.inr ⟨by rfl,rfl⟩) ?_
        try simp only[Act.put,aB,aC,aD,ax,ay,aA]
        refine jo 20 ?_ rfl (Or.inl ⟨by rfl,?_⟩) ?_;rotate_left
        ·intro w' hSw;go_simp
         try with_reducible rfl
        try simp only[Act.put,aB,aC,aD,ax,ay,aA]
        refine jo 21 ?_ rfl (Or.inl ⟨by rfl,?_⟩) ?_;rotate_left
        ·intro w' hSw;go_simp
         try with_reducible rfl
        try simp only[Act.put,aB,aC,aD,ax,ay,aA]
        refine aX (by kernel_rfl) ?_ _;go_wp2
        go_roundw
        case rel=>
         refine ⟨1,by omega,rfl,hbW.drew.trans (hb1.mono hbW.drew.size),fun j hj m hm=> ?_⟩;obtain rfl:j=0:=by omega
         rw[HX.out] at hm;cases hm;exact ⟨HA.out,fun _ h0=>by omega⟩
        case measure=>simp[intOf];omega
       ·obtain ⟨k,rfl⟩:∃k',k=k'+1:=⟨k-1,by omega⟩
        obtain ⟨m,hm⟩:∃m,l[k]? =some m:=⟨_,List.getElem?_eq_getElem (by have:=HL.out;omega)⟩
        obtain ⟨zC,abJ,WW,WX⟩:=HNW.out.at_ (by omega);cases abJ;obtain ⟨m0,m1,m2,m3⟩:=WX k m hm;have hS:∀W,Below w1.heap.size w1 W→W.cell? ⟨w.heap.size,0,none⟩=some (.int .i64 aK)∧W.cell? ⟨w.heap.size,1,none⟩=some (.slice (some ad) n c)∧W.cell? ⟨wr.heap.size,0,none⟩=some (.int .i64 x.sn)∧W.cell? ⟨wr.heap.size,1,none⟩=some (.bool x.part)∧W.cell? ⟨wr.heap.size,2,none⟩=some (.int .i64 x.fr)∧W.cell? ⟨wr.heap.size,3,none⟩=some (.int .i64 x.lt)∧W.cell? (ad.add (k*4))=some (.int .i64 m.sn)∧W.cell? ⟨(ad.add (k*4)).block,(ad.add (k*4)).off+1,none⟩=some (.bool m.part)∧W.cell? ⟨(ad.add (k*4)).block,(ad.add (k*4)).off+2,none⟩=some (.int .i64 m.fr)∧W.cell? ⟨(ad.add (k*4)).block,(ad.add (k*4)).off+3,none⟩=some (.int .i64 m.lt):=fun W hW=>by
         have hbk:(ad.add (k*4)).block<w1.heap.size:=by rw[block_add];exact WW
         exact ⟨(hW.cell (p:=⟨w.heap.size,0,none⟩) WV).trans z0,(hW.cell (p:=⟨w.heap.size,1,none⟩) WV).trans z1,(hW.cell (p:=⟨wr.heap.size,0,none⟩) hlt1).trans y0,(hW.cell (p:=⟨wr.heap.size,1,none⟩) hlt1).trans y1,(hW.cell (p:=⟨wr.heap.size,2,none⟩) hlt1).trans y2,(hW.cell (p:=⟨wr.heap.size,3,none⟩) hlt1).trans y3,
          (hW.cell hbk).trans m0,(hW.cell (p:=⟨(ad.add (k*4)).block,_,none⟩) hbk).trans m1,(hW.cell (p:=⟨(ad.add (k*4)).block,_,none⟩) hbk).trans m2,(hW.cell (p:=⟨(ad.add (k*4)).block,_,none⟩) hbk).trans m3⟩
        have HS:=Lib.hid hS;have hfo:=fun (W:World)=>sH W aK m x
        have Oj:=Lib.hid hfo;have HM:=Lib.hid hm;have hkn:(k:Int)<n:=by omega
        have ahV:(0:Int)≤k:=by omega
        have hwk:IntKind.i64.wrap (k:Int)=(k:Int):=IntWalk.i64_in _ (by omega);clear hS hfo hm WX m0 m1 m2 m3 z0 z1 y0 y1 y2 y3;unfold jU at Oj;cases hF:kW aK m x with
        |false=>
         rw[hF] at Oj;have Pf:R=false:=by
          rw[←HR2.out,←Bool.not_eq_true,jK];intro hh;have:=(hh (k+1) x HX.out).2 m (by omega) HM.out;rw[hF] at this;cases this
         subst Pf;have HF:=Lib.hid hF;clear hF;refine aY (fun w'=>w'.cell? ⟨w.heap.size,0,none⟩=some (.int .i64 aK)∧w'.cell? ⟨w.heap.size,1,none⟩=some (.slice (some ad) n c)∧w'.cell? ⟨wr.heap.size,0,none⟩=some (.int .i64 x.sn)∧w'.cell? ⟨wr.heap.size,1,none⟩=some (.bool x.part)∧w'.cell? ⟨wr.heap.size,2,none⟩=some (.int .i64 x.fr)∧w'.cell? ⟨wr.heap.size,3,none⟩=some (.int .i64 x.lt)∧w'.cell? (ad.add (k*4))=some (.int .i64 m.sn)∧w'.cell? ⟨(ad.add (k*4)).block,(ad.add (k*4)).off+1,none⟩=some (.bool m.part)∧w'.cell? ⟨(ad.add (k*4)).block,(ad.add (k*4)).off+2,none⟩=some (.int .i64 m.fr)∧w'.cell? ⟨(ad.add (k*4)).block,(ad.add (k*4)).off+3,none⟩=some (.int .i64 m.lt)) [18] (by kernel_rfl) ?_;have hHeld:=HS.out _ (Below.refl w1.heap.size w1).drew;refine aT 0 ?_ rfl (Or.inl ⟨by rfl,?_⟩) hHeld ?_;rotate_left
         ·intro w' hSw;go_simp
          try with_reducible rfl
         try simp only[Act.put,aB,aC,ax,ay,aA]
         refine iK [18,8,5,4,3] 1 ?_ rfl (Or.inl ⟨by rfl,?_⟩) hHeld ?_;rotate_left
         ·intro w' hSw;obtain ⟨hS1,hS2,fU,kI,hS5,mU,qE,rU,rV,ic⟩:=hSw;go_simp
          try with_reducible rfl
         try simp only[Act.put,aB,aC,aD,ax,ay,aA]
         refine iK [18,8,5,4,3] 2 ?_ rfl (Or.inl ⟨by rfl,?_⟩) hHeld ?_;rotate_left
         ·intro w' hSw;obtain ⟨hS1,hS2,fU,kI,hS5,mU,qE,rU,rV,ic⟩:=hSw;go_simp
          try with_reducible rfl
         try simp only[Act.put,aB,aC,aD,ax,ay,aA]
         refine aQ (i:=3) rfl (by kernel_rfl) (by rfl) (fun K hK=> ?_);go_simp;refine (qX.out _).mono ?_;rintro e1 w2 ⟨rfl,hb1⟩;have hbx:Below w1.heap.size w1 w2:=(Below.refl w1.heap.size w1).drew.trans hb1;refine hK _ _ (HS.out _ hbx) ?_;clear hK K hHeld;have hHeld:=(HS.out _ hbx)
         try simp only[Act.put,aB,aC,aD,ax,ay,aA]
         refine aT 4 ?_ rfl (Or.inl ⟨by rfl,?_⟩) hHeld ?_;rotate_left
         ·intro w' hSw;go_simp
          try with_reducible rfl
         try simp only[Act.put,aB,aC,aD,ax,ay,aA]
         refine aT 5 ?_ rfl (Or.inl ⟨by rfl,?_⟩) hHeld ?_;rotate_left
         ·intro w' hSw;go_simp
          try with_reducible rfl
         try simp only[Act.put,aB,aC,aD,ax,ay,aA]
         refine aT 6 ?_ rfl (Or.inl ⟨by rfl,?_⟩) hHeld ?_;rotate_left
         ·intro w' hSw;go_simp
          try with_reducible rfl
         try simp only[Act.put,aB,aC,aD,ax,ay,aA]
         refine aT 7 ?_ rfl (Or.inl ⟨by rfl,?_⟩) hHeld ?_;rotate_left
         ·intro w' hSw;go_simp
          try with_reducible rfl
         try simp only[Act.put,aB,aC,aD,ax,ay,aA]
         refine aT 8 ?_ rfl (Or.inl ⟨by rfl,?_⟩) hHeld ?_;rotate_left
         ·intro w' hSw;go_simp
          try with_reducible rfl
         try simp only[Act.put,aB,aC,aD,ax,ay,aA]
         refine aT 9 ?_ rfl (Or.inl ⟨by rfl,?_⟩) hHeld ?_;rotate_left
         ·intro w' hSw;go_simp
          try with_reducible rfl
         try simp only[Act.put,aB,aC,aD,ax,ay,aA]
         refine iK [18] 10 ?_ rfl (Or.inl ⟨by rfl,?_⟩) hHeld ?_;rotate_left
         ·intro w' hSw;obtain ⟨hS1,hS2,fU,kI,hS5,mU,qE,rU,rV,ic⟩:=hSw;go_simp
          try with_reducible rfl
         try simp only[Act.put,aB,aC,aD,ax,ay,aA]
         refine aT 11 ?_ rfl (Or.inl ⟨by rfl,?_⟩) hHeld ?_;rotate_left
         ·intro w' hSw;go_simp
          try with_reducible rfl
         try simp only[Act.put,aB,aC,aD,ax,ay,aA]
         refine iK [18,16,15] 12 ?_ rfl (Or.inl ⟨by rfl,?_⟩) hHeld ?_;rotate_left
         ·intro w' hSw;obtain ⟨hS1,hS2,fU,kI,hS5,mU,qE,rU,rV,ic⟩:=hSw;go_simp
          try with_reducible rfl
         try simp only[Act.put,aB,aC,aD,ax,ay,aA]
         refine aT 13 ?_ rfl (Or.inl ⟨by rfl,?_⟩) hHeld ?_;rotate_left
         ·intro w' hSw;go_simp
          try with_reducible rfl
         try simp only[Act.put,aB,aC,aD,ax,ay,aA]
         refine aT 14 ?_ rfl (Or.inl ⟨by rfl,?_⟩) hHeld ?_;rotate_left
         ·intro w' hSw;go_simp
          try with_reducible rfl
         try simp only[Act.put,aB,aC,aD,ax,ay,aA]
         refine aT 15 ?_ rfl (Or.inl ⟨by rfl,?_⟩) hHeld ?_;rotate_left
         ·intro w' hSw;go_simp
          try with_reducible rfl
         try simp only[Act.put,aB,aC,aD,ax,ay,aA]
         refine iK [18] 16 ?_ rfl (Or.inl ⟨by rfl,?_⟩) hHeld ?_;rotate_left
         ·intro w' hSw;obtain ⟨hS1,hS2,fU,kI,hS5,mU,qE,rU,rV,ic⟩:=hSw;go_simp
          try with_reducible rfl
         try simp only[Act.put,aB,aC,aD,ax,ay,aA]
         refine iK [18] 17 ?_ rfl (Or.inl ⟨by rfl,?_⟩) hHeld ?_;rotate_left
         ·intro w' hSw;obtain ⟨hS1,hS2,fU,kI,hS5,mU,qE,rU,rV,ic⟩:=hSw;go_simp
          try with_reducible rfl
         try simp only[Act.put,aB,aC,aD,ax,ay,aA]
         refine bH (i:=18) rfl (by kernel_rfl) (by kernel_rfl) (by rfl) (fun K hK=> ?_);go_simp;refine (Oj.out _).mono ?_;rintro e2 w3 ⟨rfl,hb2⟩;refine hK _ _ ?_;clear hK K
         try simp only[Act.put,aB,aC,aD,ax,ay,aA]
         refine jo 19 ?_ rfl (Or.inl ⟨by rfl,?_⟩) ?_;rotate_left
         ·intro w' hSw;go_simp
          try with_reducible rfl
         try simp only[Act.put,aB,aC,aD,ax,ay,aA]
         refine jo 20 ?_ rfl (Or.inl ⟨by rfl,?_⟩) ?_;rotate_left
         ·intro w' hSw;go_simp
          try with_reducible rfl
         try simp only[Act.put,aB,aC,aD,ax,ay,aA]
         refine jo 21 ?_ rfl (Or.inl ⟨by rfl,?_⟩) ?_;rotate_left
         ·intro w' hSw;go_simp
          try with_reducible rfl
         try simp only[Act.put,aB,aC,aD,ax,ay,aA]
         refine aX (by kernel_rfl) ?_ _;clear hwk;go_wp2;go_ret;have hbz:Below w1.heap.size w1 w3:=hbx.trans (hb2.mono hbx.size);exact ⟨rfl,Ep.out.trans ((hbW.trans (hbz.mono hbW.size)).mono Ep.out.size)⟩
        |true=>
         rw[hF] at Oj;have HF:=Lib.hid hF;clear hF;refine aY (fun w'=>w'.cell? ⟨w.heap.size,0,none⟩=some (.int .i64 aK)∧w'.cell? ⟨w.heap.size,1,none⟩=some (.slice (some ad) n c)∧w'.cell? ⟨wr.heap.size,0,none⟩=some (.int .i64 x.sn)∧w'.cell? ⟨wr.heap.size,1,none⟩=some (.bool x.part)∧w'.cell? ⟨wr.heap.size,2,none⟩=some (.int .i64 x.fr)∧w'.cell? ⟨wr.heap.size,3,none⟩=some (.int .i64 x.lt)∧w'.cell? (ad.add (k*4))=some (.int .i64 m.sn)∧w'.cell? ⟨(ad.add (k*4)).block,(ad.add (k*4)).off+1,none⟩=some (.bool m.part)∧w'.cell? ⟨(ad.add (k*4)).block,(ad.add (k*4)).off+2,none⟩=some (.int .i64 m.fr)∧w'.cell? ⟨(ad.add (k*4)).block,(ad.add (k*4)).off+3,none⟩=some (.int .i64 m.lt)) [18] (by kernel_rfl) ?_;have hHeld:=HS.out _ (Below.refl w1.heap.size w1).drew;refine aT 0 ?_ rfl (Or.inl ⟨by rfl,?_⟩) hHeld ?_;rotate_left
         ·intro w' hSw;go_simp
          try with_reducible rfl
         try simp only[Act.put,aB,aC,ax,ay,aA]
         refine iK [18,8,5,4,3] 1 ?_ rfl (Or.inl ⟨by rfl,?_⟩) hHeld ?_;rotate_left
         ·intro w' hSw;obtain ⟨hS1,hS2,fU,kI,hS5,mU,qE,rU,rV,ic⟩:=hSw;go_simp
          try with_reducible rfl
         try simp only[Act.put,aB,aC,aD,ax,ay,aA]
         refine iK [18,8,5,4,3] 2 ?_ rfl (Or.inl ⟨by rfl,?_⟩) hHeld ?_;rotate_left
         ·intro w' hSw;obtain ⟨hS1,hS2,fU,kI,hS5,mU,qE,rU,rV,ic⟩:=hSw;go_simp
          try with_reducible rfl
         try simp only[Act.put,aB,aC,aD,ax,ay,aA]
         refine aQ (i:=3) rfl (by kernel_rfl) (by rfl) (fun K hK=> ?_);go_simp;refine (qX.out _).mono ?_;rintro e1 w2 ⟨rfl,hb1⟩;have hbx:Below w1.heap.size w1 w2:=(Below.refl w1.heap.size w1).drew.trans hb1;refine hK _ _ (HS.out _ hbx) ?_;clear hK K hHeld;have hHeld:=(HS.out _ hbx)
         try simp only[Act.put,aB,aC,aD,ax,ay,aA]
         refine aT 4 ?_ rfl (Or.inl ⟨by rfl,?_⟩) hHeld ?_;rotate_left
         ·intro w' hSw;go_simp
          try with_reducible rfl
         try simp only[Act.put,aB,aC,aD,ax,ay,aA]
         refine aT 5 ?_ rfl (Or.inl ⟨by rfl,?_⟩) hHeld ?_;rotate_left
         ·intro w' hSw;go_simp
          try with_reducible rfl
         try simp only[Act.put,aB,aC,aD,ax,ay,aA]
         refine aT 6 ?_ rfl (Or.inl ⟨by rfl,?_⟩) hHeld ?_;rotate_left
         ·intro w' hSw;go_simp
          try with_reducible rfl
         try simp only[Act.put,aB,aC,aD,ax,ay,aA]
         refine aT 7 ?_ rfl (Or.inl ⟨by rfl,?_⟩) hHeld ?_;rotate_left
         ·intro w' hSw;go_simp
          try with_reducible rfl
         try simp only[Act.put,aB,aC,aD,ax,ay,aA]
         refine aT 8 ?_ rfl (Or.inl ⟨by rfl,?_⟩) hHeld ?_;rotate_left
         ·intro w' hSw;go_simp
          try with_reducible rfl
         try simp only[Act.put,aB,aC,aD,ax,ay,aA]
         refine aT 9 ?_ rfl (Or.inl ⟨by rfl,?_⟩) hHeld ?_;rotate_left
         ·intro w' hSw;go_simp
          try with_reducible rfl
         try simp only[Act.put,aB,aC,aD,ax,ay,aA]
         refine iK [18] 10 ?_ rfl (Or.inl ⟨by rfl,?_⟩) hHeld ?_;rotate_left
         ·intro w' hSw;obtain ⟨hS1,hS2,fU,kI,hS5,mU,qE,rU,rV,ic⟩:=hSw;go_simp
          try with_reducible rfl
         try simp only[Act.put,aB,aC,aD,ax,ay,aA]
         refine aT 11 ?_ rfl (Or.inl ⟨by rfl,?_⟩) hHeld ?_;rotate_left
         ·intro w' hSw;go_simp
          try with_reducible rfl
         try simp only[Act.put,aB,aC,aD,ax,ay,aA]
         refine iK [18,16,15] 12 ?_ rfl (Or.inl ⟨by rfl,?_⟩) hHeld ?_;rotate_left
         ·intro w' hSw;obtain ⟨hS1,hS2,fU,kI,hS5,mU,qE,rU,rV,ic⟩:=hSw;go_simp
          try with_reducible rfl
         try simp only[Act.put,aB,aC,aD,ax,ay,aA]
         refine aT 13 ?_ rfl (Or.inl ⟨by rfl,?_⟩) hHeld ?_;rotate_left
         ·intro w' hSw;go_simp
          try with_reducible rfl
         try simp only[Act.put,aB,aC,aD,ax,ay,aA]
         refine aT 14 ?_ rfl (Or.inl ⟨by rfl,?_⟩) hHeld ?_;rotate_left
         ·intro w' hSw;go_simp
          try with_reducible rfl
         try simp only[Act.put,aB,aC,aD,ax,ay,aA]
         refine aT 15 ?_ rfl (Or.inl ⟨by rfl,?_⟩) hHeld ?_;rotate_left
         ·intro w' hSw;go_simp
          try with_reducible rfl
         try simp only[Act.put,aB,aC,aD,ax,ay,aA]
         refine iK [18] 16 ?_ rfl (Or.inl ⟨by rfl,?_⟩) hHeld ?_;rotate_left
         ·intro w' hSw;obtain ⟨hS1,hS2,fU,kI,hS5,mU,qE,rU,rV,ic⟩:=hSw;go_simp
          try with_reducible rfl
         try simp only[Act.put,aB,aC,aD,ax,ay,aA]
         refine iK [18] 17 ?_ rfl (Or.inl ⟨by rfl,?_⟩) hHeld ?_;rotate_left
         ·intro w' hSw;obtain ⟨hS1,hS2,fU,kI,hS5,mU,qE,rU,rV,ic⟩:=hSw;go_simp
          try with_reducible rfl
         try simp only[Act.put,aB,aC,aD,ax,ay,aA]
         refine bH (i:=18) rfl (by kernel_rfl) (by kernel_rfl) (by rfl) (fun K hK=> ?_);go_simp;refine (Oj.out _).mono ?_;rintro e2 w3 ⟨rfl,hb2⟩;refine hK _ _ ?_;clear hK K
         try simp only[Act.put,aB,aC,aD,ax,ay,aA]
         refine jo 19 ?_ rfl (Or.inl ⟨by rfl,?_⟩) ?_;rotate_left
         ·intro w' hSw;go_simp
          try with_reducible rfl
         try simp only[Act.put,aB,aC,aD,ax,ay,aA]
         refine jo 20 ?_ rfl (Or.inl ⟨by rfl,?_⟩) ?_;rotate_left
         ·intro w' hSw;go_simp
          try with_reducible rfl
         try simp only[Act.put,aB,aC,aD,ax,ay,aA]
         refine jo 21 ?_ rfl (Or.inl ⟨by rfl,?_⟩) ?_;rotate_left
         ·intro w' hSw;go_simp
          try with_reducible rfl
         try simp only[Act.put,aB,aC,aD,ax,ay,aA]
         refine aX (by kernel_rfl) ?_ _;clear hwk;go_wp2
         go_roundw
         case rel=>
          have hbz:Below w1.heap.size w1 w3:=hbx.trans (hb2.mono hbx.size);refine ⟨k+1+1,by omega,by go_num,hbW.trans (hbz.mono hbW.size),fun j hj=> ?_⟩;rcases Nat.lt_or_ge j (k+1) with h1|h1
          ·exact oK.out j h1
          ·obtain rfl:j=k+1:=by omega
           intro y hy;rw[HX.out] at hy;cases hy;refine ⟨HA.out,fun z _ hz=> ?_⟩;rw[show k+1-1=k by omega,HM.out] at hz;cases hz;exact HF.out
         case measure=>simp[intOf];omega
     ·have hRt:R=true:=by
       rw[←HR2.out,jK];intro j m hm;have:=(List.getElem?_eq_some_iff.1 hm).1;exact oK.out j (by have:=HL.out;omega) m hm
      subst hRt;go_wp2;go_ret;exact ⟨rfl,Ep.out.trans (hb.mono Ep.out.size)⟩
   ·have Pf:R=false:=by rw[←HR.out];simp[cu,hlen];omega
    subst Pf;have d5:decide (512<n)=true:=decide_eq_true (by omega);have HL:=Lib.hid hlen;clear hlen h;go_enter Tryz.func119,Tryz.ntmps119;go_wp2;go_ret;exact ⟨rfl,(Below.refl w.heap.size w).alloc (Nat.le_refl _) _⟩
  ·have Pf:R=false:=by rw[←HR.out];simp[cu];omega
   subst Pf;have d1:decide (1023<aK)=true:=decide_eq_true (by omega);clear hlen h;go_enter Tryz.func119,Tryz.ntmps119;go_wp2;go_ret;exact ⟨rfl,(Below.refl w.heap.size w).alloc (Nat.le_refl _) _⟩
 ·have Pf:R=false:=by rw[←HR.out];simp[cu];omega
  subst Pf;have d0:decide (aK<0)=true:=decide_eq_true (by omega);clear hlen h;go_enter Tryz.func119,Tryz.ntmps119;go_wp2;go_ret;exact ⟨rfl,(Below.refl w.heap.size w).alloc (Nat.le_refl _) _⟩
end
end
end Go.Proofs.YtbhiklnljiehiaaGreat
