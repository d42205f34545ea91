/- status.Valid. -/
import Derived.Test.YtbhiklnljiehiaaGreatM2an
namespace Go.Proofs.YtbhiklnljiehiaaGreat
section
open Go.RowKit
attribute [local go_sem] Oper.semAt_some
set_option maxHeartbeats 400000 in
theorem Bf (b:Nat) (jN:List Value) (bs:List Bool) (Inv:World→Prop) (w:World) (hlen:bs.length=jN.length) (hsm:jN.length≤1000) (hI:∀W,Inv W→au W b 26 jN.toArray)
 (hcall:∀(i:Nat) (fv:Value) (x:Bool) (W:World),jN[i]? =some fv→bs[i]? =some x→(∀y∈bs.take i,y=true)→Inv W→Calls Tryz.prog 207 #[fv] W fun e W'=>e= .returned (.bool (!x))∧Inv W')
 (h0:Inv w):Calls Tryz.prog 221 #[.slice (some ⟨b,0,none⟩) jN.length jN.length,.func (.func 207) #[] #[]] w (Cj bs Inv):=by
 have HC:=ah hcall;have HI:=ah hI;have HL:=ah hlen;clear hcall hI hlen;obtain ⟨N,hN⟩:∃N,N=jN.length:=⟨_,rfl⟩
 rw[←hN] at hsm ⊢;have HN:=ah hN;clear hN;go_enter Tryz.func221,Tryz.ntmps221;go_wp2
 go_loopw [8] (fun i wr=>∃k:Nat,k≤N∧i= .int .i64 k∧(∀y∈bs.take k,y=true)∧Inv wr) (fun i _=>N-(intOf i).toNat)
 case atStart=>exact ⟨0,Nat.zero_le _,rfl,by simp,h0⟩
 case round=>
  clear h0;obtain ⟨k,hk,rfl,hall,hinv⟩:=hrel;have HA:=ah hall;clear hall;by_cases hlt:k<N
  ·obtain ⟨fv,iw⟩:∃fv,jN[k]? =some fv:=⟨_,List.getElem?_eq_getElem (by rw[←HN.out];exact hlt)⟩
   obtain ⟨x,hx⟩:∃x,bs[k]? =some x:=⟨_,List.getElem?_eq_getElem (by rw[HL.out,←HN.out];exact hlt)⟩
   have hcl:=HC.out k fv x wr iw hx HA.out hinv;have hcell:=(HI.out wr hinv).cell k;rw[List.getElem?_toArray,iw] at hcell;have pV:=ah hcl;have HX:=ah hx;clear hcl iw hx;cases x with
   |true=>
    go_wp2_with (go_at_call 207;refine pV.out.mono ?_;rintro e w' ⟨rfl,hi'⟩)
    go_roundw
    case rel=>exact ⟨k+1,by omega,by go_num,by
     intro y hy;rw[List.take_add_one,HX.out,List.mem_append] at hy;rcases hy with hy|hy
     ·exact HA.out y hy
     ·simpa using hy,hi'⟩
    case measure=>simp[intOf];omega
   |false=>
    go_wp2_with (go_at_call 207;refine pV.out.mono ?_;rintro e w' ⟨rfl,hi'⟩);go_ret;refine ⟨.inl ⟨k,rfl,?_⟩,hi'⟩;rw[List.all_eq_false];exact ⟨false,List.mem_of_getElem? HX.out,by simp⟩
  ·have e:bs.take k=bs:=List.take_of_length_le (by rw[HL.out,←HN.out];omega);have hA:=HA.out;rw[e] at hA;have xP:=ah hA;clear hA e;go_wp2;go_ret;exact ⟨.inr ⟨rfl,by rw[List.all_eq_true];exact xP.out⟩,hinv⟩
theorem vG (b:Nat) (jN:List Value) (bs:List Bool) (Inv:World→Prop) (w:World)
 (h:Calls Tryz.prog 221 #[.slice (some ⟨b,0,none⟩) jN.length jN.length,.func (.func 207) #[] #[]] w (Cj bs Inv)):
 Calls Tryz.prog 206 #[.slice (some ⟨b,0,none⟩) jN.length jN.length,.func (.func 207) #[] #[]] w fun e w'=>e= .returned (.bool (!bs.all id))∧Inv w':=by
 have H:=ah h;clear h;go_enter Tryz.func206,Tryz.ntmps206;go_wp2_with fail;refine H.out.mono ?_;rintro e w' ⟨⟨k,rfl,ha⟩|⟨rfl,ha⟩,hi⟩
 ·have HA:=ah ha;clear ha;go_wp2;go_ret;exact ⟨bI (by rw[HA.out];rfl),hi⟩
 ·have HA:=ah ha;clear ha;go_wp2;go_ret;exact ⟨bI (by rw[HA.out];rfl),hi⟩
theorem On (b:Nat) (jN:List Value) (bs:List Bool) (Inv:World→Prop) (w:World)
 (h:Calls Tryz.prog 206 #[.slice (some ⟨b,0,none⟩) jN.length jN.length,.func (.func 207) #[] #[]] w fun e w'=>e= .returned (.bool (!bs.all id))∧Inv w'):
 Calls Tryz.prog 178 #[.slice (some ⟨b,0,none⟩) jN.length jN.length] w fun e w'=>e= .returned (.bool (bs.all id))∧Inv w':=by
 have H:=ah h;clear h;go_enter Tryz.func178,Tryz.ntmps178;go_wp2_with fail;refine H.out.mono ?_;rintro e w' ⟨rfl,hi⟩;go_wp2;go_ret;exact ⟨bI (by simp),hi⟩
def j6 (n:Nk):Array Value:= #[.int .i64 n.sn,.bool n.part,.int .i64 n.fr,.int .i64 n.lt]
theorem au.iE {w:World} {g:Nat} {t:TypeId} {x y z u:Value} (b:au w g t #[x,y,z,u]):w.cell? ⟨g,0,none⟩=some x∧w.cell? ⟨g,1,none⟩=some y∧w.cell? ⟨g,2,none⟩=some z∧w.cell? ⟨g,3,none⟩=some u:=
 ⟨b.cell 0,b.cell 1,b.cell 2,b.cell 3⟩
theorem LK (a b:Int):bits .and .i64 (IntKind.i64.wrap (a-b)) 1023=(a-b)%1024:=by
 rw[tZ,IntKind.wrap_i64];omega
section
variable (w:World)
theorem Cr (aL sn:Int):Calls Tryz.prog 181 #[.int .i64 aL,.int .i64 sn] w fun e w'=>e= .returned (.int .i64 (jQ aL sn))∧w=w':=by
 go_enter Tryz.func181,Tryz.ntmps181;go_wp2;go_ret;exact ⟨lZ (by rw[←IntWalk.i64_left];exact LK aL sn),rfl⟩
variable (bn ba:Nat) (aL:Int) (n:Nk)
theorem Oo (hb:au w bn 197 (j6 n)):Calls Tryz.prog 176 #[.pointer (some ⟨bn,0,none⟩)] w fun e w'=>e= .returned (.bool (decide (n.fr=0)&&decide (n.lt=0)))∧w=w':=by
 obtain ⟨x0,x1,x2,x3⟩:=hb.iE;by_cases h0:n.fr=0
 ·have e0:(n.fr==0)=true:=by simp[h0]
  have e1:(n.lt==0)=decide (n.lt=0):=by rw[Bool.eq_iff_iff];simp
  rw[decide_eq_true h0];generalize decide (n.lt=0)=d at*;have H0:=ah h0;clear h0;go_enter Tryz.func176,Tryz.ntmps176;go_wp2;go_ret;exact ⟨rfl,rfl⟩
 ·have e0:(n.fr==0)=false:=by simp[h0]
  rw[decide_eq_false h0];go_enter Tryz.func176,Tryz.ntmps176;go_wp2;go_ret;exact ⟨rfl,rfl⟩
theorem Oq (hb:au w bn 197 (j6 n)):Calls Tryz.prog 177 #[.pointer (some ⟨bn,0,none⟩)] w fun e w'=>e= .returned (.bool (decide (0≤n.fr)&&(decide (n.fr≤n.lt)&&decide (n.lt≤32767))))∧w=w':=by
 obtain ⟨x0,x1,x2,x3⟩:=hb.iE;by_cases h0:0≤n.fr
 ·by_cases h1:n.fr≤n.lt
  ·rw[decide_eq_true h0,decide_eq_true h1];have d0:=decide_eq_true h0;have d1:=decide_eq_true h1;go_enter Tryz.func177,Tryz.ntmps177;go_wp2;go_ret;exact ⟨rfl,rfl⟩
  ·rw[decide_eq_true h0,decide_eq_false h1];have d0:=decide_eq_true h0;have d1:=decide_eq_false h1;go_enter Tryz.func177,Tryz.ntmps177;go_wp2;go_ret;exact ⟨rfl,rfl⟩
 ·rw[decide_eq_false h0];have d0:=decide_eq_false h0;go_enter Tryz.func177,Tryz.ntmps177;go_wp2;go_ret;exact ⟨rfl,rfl⟩
theorem Ot (hb:au w bn 197 (j6 n)):Calls Tryz.prog 179 #[.pointer (some ⟨bn,0,none⟩)] w fun e w'=>e= .returned (.bool (decide (0≤n.sn)&&decide (n.sn<1024)))∧w=w':=by
 obtain ⟨x0,x1,x2,x3⟩:=hb.iE;by_cases h0:0≤n.sn
 ·rw[decide_eq_true h0];have d0:=decide_eq_true h0;go_enter Tryz.func179,Tryz.ntmps179;go_wp2;go_ret;exact ⟨rfl,rfl⟩
 ·rw[decide_eq_false h0];have d0:=decide_eq_false h0;go_enter Tryz.func179,Tryz.ntmps179;go_wp2;go_ret;exact ⟨rfl,rfl⟩
theorem Ov (hb:au w bn 197 (j6 n)) (ha:au w ba 3 #[.int .i64 aL]):Calls Tryz.prog 180 #[.pointer (some ⟨ba,0,none⟩),.pointer (some ⟨bn,0,none⟩)] w fun e w'=>e= .returned (.bool (decide (1≤jQ aL n.sn)&&decide (jQ aL n.sn≤512)))∧w=w':=by
 obtain ⟨x0,x1,x2,x3⟩:=hb.iE;have y0:=ha.cell 0;simp at y0;have hd:=Cr w aL n.sn;have HD:=ah hd;clear hd hb ha;generalize jQ aL n.sn=d at*;by_cases h0:1≤d
 ·rw[decide_eq_true h0];have d0:=decide_eq_true h0;go_enter Tryz.func180,Tryz.ntmps180;go_wp2_with (go_at_call 181;refine HD.out.mono ?_;rintro e w' ⟨rfl,rfl⟩);go_ret;exact ⟨rfl,rfl⟩
 ·rw[decide_eq_false h0];have d0:=decide_eq_false h0;go_enter Tryz.func180,Tryz.ntmps180;go_wp2_with (go_at_call 181;refine HD.out.mono ?_;rintro e w' ⟨rfl,rfl⟩);go_ret;exact ⟨rfl,rfl⟩
theorem DR (EZ:Nat) (cap:Array Value) (x:Bool) (hf:(EZ=176∧cap= #[.pointer (some ⟨bn,0,none⟩)])∨(EZ=177∧cap= #[.pointer (some ⟨bn,0,none⟩)])∨(EZ=179∧cap= #[.pointer (some ⟨bn,0,none⟩)])∨(EZ=180∧cap= #[.pointer (some ⟨ba,0,none⟩),.pointer (some ⟨bn,0,none⟩)]))
 (h:Calls Tryz.prog EZ cap w fun e w'=>e= .returned (.bool x)∧w=w'):
 Calls Tryz.prog 207 #[.func (.func EZ) #[] cap] w fun e w'=>e= .returned (.bool (!x))∧w=w':=by
 have H:=ah h;clear h;rcases hf with ⟨rfl,rfl⟩|⟨rfl,rfl⟩|⟨rfl,rfl⟩|⟨rfl,rfl⟩
 ·go_enter Tryz.func207,Tryz.ntmps207;go_wp2_with (go_at_call 176;refine H.out.mono ?_;rintro e w' ⟨rfl,rfl⟩);go_ret;exact ⟨rfl,rfl⟩
 ·go_enter Tryz.func207,Tryz.ntmps207;go_wp2_with (go_at_call 177;refine H.out.mono ?_;rintro e w' ⟨rfl,rfl⟩);go_ret;exact ⟨rfl,rfl⟩
 ·go_enter Tryz.func207,Tryz.ntmps207;go_wp2_with (go_at_call 179;refine H.out.mono ?_;rintro e w' ⟨rfl,rfl⟩);go_ret;exact ⟨rfl,rfl⟩
 ·go_enter Tryz.func207,Tryz.ntmps207;go_wp2_with (go_at_call 180;refine H.out.mono ?_;rintro e w' ⟨rfl,rfl⟩);go_ret;exact ⟨rfl,rfl⟩
def l9 (aL:Int) (n:Nk):List Bool:=
 [decide (0≤n.sn)&&decide (n.sn<1024),decide (1≤jQ aL n.sn)&&decide (jQ aL n.sn≤512),if n.part=true then decide (0≤n.fr)&&(decide (n.fr≤n.lt)&&decide (n.lt≤32767)) else decide (n.fr=0)&&decide (n.lt=0)]
theorem FC:(l9 aL n).all id=iD aL n:=by
 simp[l9,iD]
set_option maxHeartbeats 800000 in
theorem yU:Calls Tryz.prog 139 #[.int .i64 aL,.agg (j6 n)] w fun e w'=>e= .returned (.bool (iD aL n))∧Below w.heap.size w w':=by
 obtain ⟨f3,hf3⟩:∃f3,f3=if n.part then 177 else 176:=⟨_,rfl⟩
 have bA:=((au.new w 3 #[.int .i64 aL]).alloc (.cells (j6 n) 197)).alloc (.cells #[.func (.func 179) #[] #[.pointer (some ⟨w.heap.size+1,0,none⟩)],.func (.func 180) #[] #[.pointer (some ⟨w.heap.size,0,none⟩),.pointer (some ⟨w.heap.size+1,0,none⟩)],.func (.func f3) #[] #[.pointer (some ⟨w.heap.size+1,0,none⟩)]] 26);have bN:=(au.new (w.alloc (.cells #[.int .i64 aL] 3)) 197 (j6 n)).alloc (.cells #[.func (.func 179) #[] #[.pointer (some ⟨w.heap.size+1,0,none⟩)],.func (.func 180) #[] #[.pointer (some ⟨w.heap.size,0,none⟩),.pointer (some ⟨w.heap.size+1,0,none⟩)],.func (.func f3) #[] #[.pointer (some ⟨w.heap.size+1,0,none⟩)]] 26);have bL:=au.new ((w.alloc (.cells #[.int .i64 aL] 3)).alloc (.cells (j6 n) 197)) 26 #[.func (.func 179) #[] #[.pointer (some ⟨w.heap.size+1,0,none⟩)],.func (.func 180) #[] #[.pointer (some ⟨w.heap.size,0,none⟩),.pointer (some ⟨w.heap.size+1,0,none⟩)],.func (.func f3) #[] #[.pointer (some ⟨w.heap.size+1,0,none⟩)]];simp only[World.size_alloc] at bN bL;have hBw:Below w.heap.size w (((w.alloc (.cells #[.int .i64 aL] 3)).alloc (.cells (j6 n) 197)).alloc (.cells #[.func (.func 179) #[] #[.pointer (some ⟨w.heap.size+1,0,none⟩)],.func (.func 180) #[] #[.pointer (some ⟨w.heap.size,0,none⟩),.pointer (some ⟨w.heap.size+1,0,none⟩)],.func (.func f3) #[] #[.pointer (some ⟨w.heap.size+1,0,none⟩)]] 26)):=
  (((Below.refl _ w).alloc (aN) _).alloc (by simp) _).alloc (by simp;omega) _
 have hall:∀W0,au W0 w.heap.size 3 #[.int .i64 aL]→au W0 (w.heap.size+1) 197 (j6 n)→au W0 (w.heap.size+1+1) 26 #[.func (.func 179) #[] #[.pointer (some ⟨w.heap.size+1,0,none⟩)],.func (.func 180) #[] #[.pointer (some ⟨w.heap.size,0,none⟩),.pointer (some ⟨w.heap.size+1,0,none⟩)],.func (.func f3) #[] #[.pointer (some ⟨w.heap.size+1,0,none⟩)]]→
  Calls Tryz.prog 178 #[.slice (some ⟨w.heap.size+1+1,0,none⟩) 3 3] W0 fun e w'=>e= .returned (.bool (iD aL n))∧W0=w':=fun W0 b0 b1 b2=>by
  rw[←FC];refine On (w.heap.size+1+1) [.func (.func 179) #[] #[.pointer (some ⟨w.heap.size+1,0,none⟩)],.func (.func 180) #[] #[.pointer (some ⟨w.heap.size,0,none⟩),.pointer (some ⟨w.heap.size+1,0,none⟩)],.func (.func f3) #[] #[.pointer (some ⟨w.heap.size+1,0,none⟩)]] (l9 aL n) (fun W=>W0=W) W0 ?_;refine vG (w.heap.size+1+1) _ (l9 aL n) (fun W=>W0=W) W0 ?_;refine Bf (w.heap.size+1+1) _ (l9 aL n) (fun W=>W0=W) W0 rfl (by simp) (fun W hW=>by rw[←hW];exact b2) ?_ rfl;rintro i fv x W iw hx hpre rfl
  match i,iw,hx,hpre with
  |0,iw,hx,_=>
   simp only[l9,List.getElem?_cons_zero,Option.some.injEq] at iw hx;subst iw hx;exact DR W0 (w.heap.size+1) w.heap.size 179 _ _ (.inr (.inr (.inl ⟨rfl,rfl⟩))) (Ot W0 _ n b1)
  |1,iw,hx,_=>
   simp only[l9,List.getElem?_cons_zero,List.getElem?_cons_succ,Option.some.injEq] at iw hx;subst iw hx;exact DR W0 (w.heap.size+1) w.heap.size 180 _ _ (.inr (.inr (.inr ⟨rfl,rfl⟩))) (Ov W0 _ _ aL n b1 b0)
  |2,iw,hx,_=>
   simp only[l9,List.getElem?_cons_zero,List.getElem?_cons_succ,Option.some.injEq] at iw hx;subst iw hx;cases hp:n.part with
   |true=>
    simp only[hp,if_true] at hf3 ⊢;subst hf3;exact DR W0 (w.heap.size+1) w.heap.size 177 _ _ (.inr (.inl ⟨rfl,rfl⟩)) (Oq W0 _ n b1)
   |false=>
    simp only[hp,Bool.false_eq_true,if_false] at hf3 ⊢;subst hf3;exact DR W0 (w.heap.size+1) w.heap.size 176 _ _ (.inl ⟨rfl,rfl⟩) (Oo W0 _ n b1)
  |i+3,iw,_,_=>simp at iw
 have UA:=hall _ bA bN bL;have mZ:=ah UA;have HB:=ah hBw;have x1:=(au.new (w.alloc (.cells #[.int .i64 aL] 3)) 197 (j6 n)).cell 1;clear hall UA bA bN bL hBw;unfold j6 at*;generalize iD aL n=R at*;cases hp:n.part with
 |true=>
  rw[hp] at hf3 mZ HB x1;simp only[if_true] at hf3;subst hf3;have HP:=ah hp;clear hp;go_enter Tryz.func139,Tryz.ntmps139;go_wp2_with (go_at_call 178;refine mZ.out.mono ?_;rintro e w' ⟨rfl,rfl⟩);go_ret;exact ⟨rfl,HB.out⟩
 |false=>
  rw[hp] at hf3 mZ HB x1;simp only[Bool.false_eq_true,if_false] at hf3;subst hf3;have HP:=ah hp;clear hp;go_enter Tryz.func139,Tryz.ntmps139;go_wp2_with (go_at_call 178;refine mZ.out.mono ?_;rintro e w' ⟨rfl,rfl⟩);go_ret;exact ⟨rfl,HB.out⟩
set_option maxRecDepth 10000 in
set_option maxHeartbeats 1000000 in
theorem ug (a b:Nk):Calls Tryz.prog 140 #[.int .i64 aL,.agg (j6 a),.agg (j6 b)] w fun e w'=>e= .returned (.bool (lD aL a b))∧Below w.heap.size w w':=by
 have hd:=fun (x:Int) (W:World)=>Cr W aL x
 have HD:=ah hd;have hB:=((Below.refl w.heap.size w).alloc (aN) (.cells (j6 a) 197)).alloc (by simp) (.cells (j6 b) 197);have ba:=(au.new w 197 (j6 a)).alloc (.cells (j6 b) 197);have bb:=au.new (w.alloc (.cells (j6 a) 197)) 197 (j6 b);simp only[World.size_alloc] at bb;obtain ⟨x0,x1,x2,x3⟩:=ba.iE;obtain ⟨y0,y1,y2,y3⟩:=bb.iE;have HB:=ah hB;have hfin:lD aL a b=(decide (jQ aL b.sn<jQ aL a.sn)||(decide (a.sn=b.sn)&&(a.part&&(b.part&&decide (a.lt<b.fr))))):=rfl;rw[hfin];clear hd hB ba bb hfin;unfold j6 at*;obtain ⟨Yw,ap,af,al⟩:=a;obtain ⟨Yx,bp,bf,bl⟩:=b;dsimp only at*;by_cases hA:jQ aL Yx<jQ aL Yw
 ·have d1:decide (jQ aL Yx<jQ aL Yw)=true:=decide_eq_true hA;rw[d1];go_enter Tryz.func140,Tryz.ntmps140;go_wp2_with fail
  go_quiet ((go_at_call 181;exact Calls.quiet_of_same ((HD.out _ _).mono fun _ _ hh=>⟨hh.1,hh.2.symm⟩)))
  go_wp2;go_ret;exact ⟨rfl,HB.out.drewN _⟩
 have d1:decide (jQ aL Yx<jQ aL Yw)=false:=decide_eq_false hA;rw[d1];by_cases RV:Yw=Yx
 ·have e1:(Yw==Yx)=true:=by simp[RV]
  rw[decide_eq_true RV];have yV:=ah RV;clear RV;cases ap with
  |false=>
   go_enter Tryz.func140,Tryz.ntmps140;go_wp2_with fail
   go_quiet ((go_at_call 181;exact Calls.quiet_of_same ((HD.out _ _).mono fun _ _ hh=>⟨hh.1,hh.2.symm⟩)))
   go_wp2;go_ret;exact ⟨rfl,HB.out.drewN _⟩
  |true=>
   cases bp with
   |false=>
    go_enter Tryz.func140,Tryz.ntmps140;go_wp2_with fail
    go_quiet ((go_at_call 181;exact Calls.quiet_of_same ((HD.out _ _).mono fun _ _ hh=>⟨hh.1,hh.2.symm⟩)))
    go_wp2;go_ret;exact ⟨rfl,HB.out.drewN _⟩
   |true=>
    go_enter Tryz.func140,Tryz.ntmps140;go_wp2_with fail
    go_quiet ((go_at_call 181;exact Calls.quiet_of_same ((HD.out _ _).mono fun _ _ hh=>⟨hh.1,hh.2.symm⟩)))
    go_wp2;go_ret;exact ⟨by simp,HB.out.drewN _⟩
 ·have e1:(Yw==Yx)=false:=by simp[RV]
  rw[decide_eq_false RV];go_enter Tryz.func140,Tryz.ntmps140;go_wp2_with fail
  go_quiet ((go_at_call 181;exact Calls.quiet_of_same ((HD.out _ _).mono fun _ _ hh=>⟨hh.1,hh.2.symm⟩)))
  go_wp2;go_ret;exact ⟨rfl,HB.out.drewN _⟩
end
end
end Go.Proofs.YtbhiklnljiehiaaGreat
