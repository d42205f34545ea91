/- status.Valid. status.Valid. Ranges over a function whose elements are known by their number, nested ones too: the iterator may itself range over another one; the variables of a round may be boxed. slices.All of a report's entries; status.Ranges. -/
import Derived.Test.YtiecgfahidpldaaGreatM3ac
import Derived.Test.YtiecgfahidpldaaGreatM3ae
import Derived.Test.YtiecgfahidpldaaGreatM3af
import Derived.Test.YtiecgfahidpldaaGreatM3aj
import Derived.Deep.DeepCutAuto
import Derived.Deep.RegionHeld3
import Derived.BigRegion
import Derived.RangeFuncNested
namespace Go.Proofs.YtiecgfahidpldaaGreat
section
open Go.RowKit
attribute [local go_sem] Oper.semAt_some
set_option maxHeartbeats 400000 in
theorem Bg (b:Nat) (jO:List Value) (bs:List Bool) (Inv:World→Prop) (w:World) (hlen:bs.length=jO.length) (hsm:jO.length≤1000) (hI:∀W,Inv W→aA W b 27 jO.toArray)
 (hcall:∀(i:Nat) (fv:Value) (x:Bool) (W:World),jO[i]? =some fv→bs[i]? =some x→(∀y∈bs.take i,y=true)→Inv W→Calls Tryz.prog 165 #[fv] W fun e W'=>e= .returned (.bool (!x))∧Inv W')
 (h0:Inv w):Calls Tryz.prog 174 #[.slice (some ⟨b,0,none⟩) jO.length jO.length,.func (.func 165) #[] #[]] w (BQ bs Inv):=by
 have HC:=Lib.hid hcall;have HI:=Lib.hid hI;have HL:=Lib.hid hlen;clear hcall hI hlen;obtain ⟨N,hN⟩:∃N,N=jO.length:=⟨_,rfl⟩
 rw[←hN] at hsm ⊢;have HN:=Lib.hid hN;clear hN;go_enter Tryz.func174,Tryz.ntmps174;go_wp2
 go_loopw [8] (fun i wr=>∃k:Nat,k≤N∧i= .int .i64 k∧(∀y∈bs.take k,y=true)∧Inv wr) (fun i _=>N-(intOf i).toNat)
 case atStart=>exact ⟨0,Nat.zero_le _,rfl,by simp,h0⟩
 case round=>
  clear h0;obtain ⟨k,hk,rfl,hall,hinv⟩:=hrel;have HA:=Lib.hid hall;clear hall;by_cases hlt:k<N
  ·obtain ⟨fv,iq⟩:∃fv,jO[k]? =some fv:=⟨_,List.getElem?_eq_getElem (by rw[←HN.out];exact hlt)⟩
   obtain ⟨x,hx⟩:∃x,bs[k]? =some x:=⟨_,List.getElem?_eq_getElem (by rw[HL.out,←HN.out];exact hlt)⟩
   have hcl:=HC.out k fv x wr iq hx HA.out hinv;have hcell:=(HI.out wr hinv).cell k;rw[List.getElem?_toArray,iq] at hcell;have pJ:=Lib.hid hcl;have HX:=Lib.hid hx;clear hcl iq hx;cases x with
   |true=>
    go_wp2_with (go_at_call 165;refine pJ.out.mono ?_;rintro e w' ⟨rfl,hi'⟩)
    go_roundw
    case rel=>exact ⟨k+1,by omega,by go_num,by
     intro y hy;rw[List.take_add_one,HX.out,List.mem_append] at hy;rcases hy with hy|hy
     ·exact HA.out y hy
     ·simpa using hy,hi'⟩
    case measure=>simp[intOf];omega
   |false=>
    go_wp2_with (go_at_call 165;refine pJ.out.mono ?_;rintro e w' ⟨rfl,hi'⟩);go_ret;refine ⟨.inl ⟨k,rfl,?_⟩,hi'⟩;rw[List.all_eq_false];exact ⟨false,List.mem_of_getElem? HX.out,by simp⟩
  ·have e:bs.take k=bs:=List.take_of_length_le (by rw[HL.out,←HN.out];omega);have hA:=HA.out;rw[e] at hA;have xu:=Lib.hid hA;clear hA e;go_wp2;go_ret;exact ⟨.inr ⟨rfl,by rw[List.all_eq_true];exact xu.out⟩,hinv⟩
theorem vE (b:Nat) (jO:List Value) (bs:List Bool) (Inv:World→Prop) (w:World)
 (h:Calls Tryz.prog 174 #[.slice (some ⟨b,0,none⟩) jO.length jO.length,.func (.func 165) #[] #[]] w (BQ bs Inv)):
 Calls Tryz.prog 152 #[.slice (some ⟨b,0,none⟩) jO.length jO.length,.func (.func 165) #[] #[]] w fun e w'=>e= .returned (.bool (!bs.all id))∧Inv w':=by
 have H:=Lib.hid h;clear h;go_enter Tryz.func152,Tryz.ntmps152;go_wp2_with fail;refine H.out.mono ?_;rintro e w' ⟨⟨k,rfl,ha⟩|⟨rfl,ha⟩,hi⟩
 ·have HA:=Lib.hid ha;clear ha;go_wp2;go_ret;exact ⟨bH (by rw[HA.out];rfl),hi⟩
 ·have HA:=Lib.hid ha;clear ha;go_wp2;go_ret;exact ⟨bH (by rw[HA.out];rfl),hi⟩
theorem N7 (b:Nat) (jO:List Value) (bs:List Bool) (Inv:World→Prop) (w:World)
 (h:Calls Tryz.prog 152 #[.slice (some ⟨b,0,none⟩) jO.length jO.length,.func (.func 165) #[] #[]] w fun e w'=>e= .returned (.bool (!bs.all id))∧Inv w'):
 Calls Tryz.prog 132 #[.slice (some ⟨b,0,none⟩) jO.length jO.length] w fun e w'=>e= .returned (.bool (bs.all id))∧Inv w':=by
 have H:=Lib.hid h;clear h;go_enter Tryz.func132,Tryz.ntmps132;go_wp2_with fail;refine H.out.mono ?_;rintro e w' ⟨rfl,hi⟩;go_wp2;go_ret;exact ⟨bH (by simp),hi⟩
def lm (n:Nk):Array Value:= #[.int .i64 n.sn,.bool n.part,.int .i64 n.fr,.int .i64 n.lt]
theorem aA.wC {w:World} {g:Nat} {t:TypeId} {x y z u:Value} (b:aA w g t #[x,y,z,u]):w.cell? ⟨g,0,none⟩=some x∧w.cell? ⟨g,1,none⟩=some y∧w.cell? ⟨g,2,none⟩=some z∧w.cell? ⟨g,3,none⟩=some u:=
 ⟨b.cell 0,b.cell 1,b.cell 2,b.cell 3⟩
theorem Lg (a b:Int):bits .and .i64 (IntKind.i64.wrap (a-b)) 1023=(a-b)%1024:=by
 rw[tq,IntKind.wrap_i64];omega
section
variable (w:World)
theorem Ct (aI sn:Int):Calls Tryz.prog 135 #[.int .i64 aI,.int .i64 sn] w fun e w'=>e= .returned (.int .i64 (jl aI sn))∧w=w':=by
 go_enter Tryz.func135,Tryz.ntmps135;go_wp2;go_ret;exact ⟨mM (by rw[←IntWalk.i64_left];exact Lg aI sn),rfl⟩
variable (bn ba:Nat) (aI:Int) (n:Nk)
theorem N8 (hb:aA w bn 116 (lm n)):Calls Tryz.prog 130 #[.pointer (some ⟨bn,0,none⟩)] w fun e w'=>e= .returned (.bool (decide (n.fr=0)&&decide (n.lt=0)))∧w=w':=by
 obtain ⟨x0,x1,x2,x3⟩:=hb.wC;by_cases h0:n.fr=0
 ·have e0:(n.fr==0)=true:=by simp[h0]
  have e1:(n.lt==0)=decide (n.lt=0):=by rw[Bool.eq_iff_iff];simp
  rw[decide_eq_true h0];generalize decide (n.lt=0)=d at*;have H0:=Lib.hid h0;clear h0;go_enter Tryz.func130,Tryz.ntmps130;go_wp2;go_ret;exact ⟨rfl,rfl⟩
 ·have e0:(n.fr==0)=false:=by simp[h0]
  rw[decide_eq_false h0];go_enter Tryz.func130,Tryz.ntmps130;go_wp2;go_ret;exact ⟨rfl,rfl⟩
theorem N9 (hb:aA w bn 116 (lm n)):Calls Tryz.prog 131 #[.pointer (some ⟨bn,0,none⟩)] w fun e w'=>e= .returned (.bool (decide (0≤n.fr)&&(decide (n.fr≤n.lt)&&decide (n.lt≤32767))))∧w=w':=by
 obtain ⟨x0,x1,x2,x3⟩:=hb.wC;by_cases h0:0≤n.fr
 ·by_cases h1:n.fr≤n.lt
  ·rw[decide_eq_true h0,decide_eq_true h1];have d0:=decide_eq_true h0;have d1:=decide_eq_true h1;go_enter Tryz.func131,Tryz.ntmps131;go_wp2;go_ret;exact ⟨rfl,rfl⟩
  ·rw[decide_eq_true h0,decide_eq_false h1];have d0:=decide_eq_true h0;have d1:=decide_eq_false h1;go_enter Tryz.func131,Tryz.ntmps131;go_wp2;go_ret;exact ⟨rfl,rfl⟩
 ·rw[decide_eq_false h0];have d0:=decide_eq_false h0;go_enter Tryz.func131,Tryz.ntmps131;go_wp2;go_ret;exact ⟨rfl,rfl⟩
theorem Oa (hb:aA w bn 116 (lm n)):Calls Tryz.prog 133 #[.pointer (some ⟨bn,0,none⟩)] w fun e w'=>e= .returned (.bool (decide (0≤n.sn)&&decide (n.sn<1024)))∧w=w':=by
 obtain ⟨x0,x1,x2,x3⟩:=hb.wC;by_cases h0:0≤n.sn
 ·rw[decide_eq_true h0];have d0:=decide_eq_true h0;go_enter Tryz.func133,Tryz.ntmps133;go_wp2;go_ret;exact ⟨rfl,rfl⟩
 ·rw[decide_eq_false h0];have d0:=decide_eq_false h0;go_enter Tryz.func133,Tryz.ntmps133;go_wp2;go_ret;exact ⟨rfl,rfl⟩
theorem Ob (hb:aA w bn 116 (lm n)) (ha:aA w ba 3 #[.int .i64 aI]):Calls Tryz.prog 134 #[.pointer (some ⟨ba,0,none⟩),.pointer (some ⟨bn,0,none⟩)] w fun e w'=>e= .returned (.bool (decide (1≤jl aI n.sn)&&decide (jl aI n.sn≤512)))∧w=w':=by
 obtain ⟨x0,x1,x2,x3⟩:=hb.wC;have y0:=ha.cell 0;simp at y0;have hd:=Ct w aI n.sn;have HD:=Lib.hid hd;clear hd hb ha;generalize jl aI n.sn=d at*;by_cases h0:1≤d
 ·rw[decide_eq_true h0];have d0:=decide_eq_true h0;go_enter Tryz.func134,Tryz.ntmps134;go_wp2_with (go_at_call 135;refine HD.out.mono ?_;rintro e w' ⟨rfl,rfl⟩);go_ret;exact ⟨rfl,rfl⟩
 ·rw[decide_eq_false h0];have d0:=decide_eq_false h0;go_enter Tryz.func134,Tryz.ntmps134;go_wp2_with (go_at_call 135;refine HD.out.mono ?_;rintro e w' ⟨rfl,rfl⟩);go_ret;exact ⟨rfl,rfl⟩
theorem DX (EH:Nat) (cap:Array Value) (x:Bool) (hf:(EH=130∧cap= #[.pointer (some ⟨bn,0,none⟩)])∨(EH=131∧cap= #[.pointer (some ⟨bn,0,none⟩)])∨(EH=133∧cap= #[.pointer (some ⟨bn,0,none⟩)])∨(EH=134∧cap= #[.pointer (some ⟨ba,0,none⟩),.pointer (some ⟨bn,0,none⟩)]))
 (h:Calls Tryz.prog EH cap w fun e w'=>e= .returned (.bool x)∧w=w'):
 Calls Tryz.prog 165 #[.func (.func EH) #[] cap] w fun e w'=>e= .returned (.bool (!x))∧w=w':=by
 have H:=Lib.hid h;clear h;rcases hf with ⟨rfl,rfl⟩|⟨rfl,rfl⟩|⟨rfl,rfl⟩|⟨rfl,rfl⟩
 ·go_enter Tryz.func165,Tryz.ntmps165;go_wp2_with (go_at_call 130;refine H.out.mono ?_;rintro e w' ⟨rfl,rfl⟩);go_ret;exact ⟨rfl,rfl⟩
 ·go_enter Tryz.func165,Tryz.ntmps165;go_wp2_with (go_at_call 131;refine H.out.mono ?_;rintro e w' ⟨rfl,rfl⟩);go_ret;exact ⟨rfl,rfl⟩
 ·go_enter Tryz.func165,Tryz.ntmps165;go_wp2_with (go_at_call 133;refine H.out.mono ?_;rintro e w' ⟨rfl,rfl⟩);go_ret;exact ⟨rfl,rfl⟩
 ·go_enter Tryz.func165,Tryz.ntmps165;go_wp2_with (go_at_call 134;refine H.out.mono ?_;rintro e w' ⟨rfl,rfl⟩);go_ret;exact ⟨rfl,rfl⟩
def mX (aI:Int) (n:Nk):List Bool:=
 [decide (0≤n.sn)&&decide (n.sn<1024),decide (1≤jl aI n.sn)&&decide (jl aI n.sn≤512),if n.part=true then decide (0≤n.fr)&&(decide (n.fr≤n.lt)&&decide (n.lt≤32767)) else decide (n.fr=0)&&decide (n.lt=0)]
theorem FR:(mX aI n).all id=iE aI n:=by
 simp[mX,iE]
set_option maxHeartbeats 800000 in
theorem Jg:Calls Tryz.prog 79 #[.int .i64 aI,.agg (lm n)] w fun e w'=>e= .returned (.bool (iE aI n))∧Below w.heap.size w w':=by
 obtain ⟨f3,hf3⟩:∃f3,f3=if n.part then 131 else 130:=⟨_,rfl⟩
 have bA:=((aA.new w 3 #[.int .i64 aI]).alloc (.cells (lm n) 116)).alloc (.cells #[.func (.func 133) #[] #[.pointer (some ⟨w.heap.size+1,0,none⟩)],.func (.func 134) #[] #[.pointer (some ⟨w.heap.size,0,none⟩),.pointer (some ⟨w.heap.size+1,0,none⟩)],.func (.func f3) #[] #[.pointer (some ⟨w.heap.size+1,0,none⟩)]] 27);have bN:=(aA.new (w.alloc (.cells #[.int .i64 aI] 3)) 116 (lm n)).alloc (.cells #[.func (.func 133) #[] #[.pointer (some ⟨w.heap.size+1,0,none⟩)],.func (.func 134) #[] #[.pointer (some ⟨w.heap.size,0,none⟩),.pointer (some ⟨w.heap.size+1,0,none⟩)],.func (.func f3) #[] #[.pointer (some ⟨w.heap.size+1,0,none⟩)]] 27);have bL:=aA.new ((w.alloc (.cells #[.int .i64 aI] 3)).alloc (.cells (lm n) 116)) 27 #[.func (.func 133) #[] #[.pointer (some ⟨w.heap.size+1,0,none⟩)],.func (.func 134) #[] #[.pointer (some ⟨w.heap.size,0,none⟩),.pointer (some ⟨w.heap.size+1,0,none⟩)],.func (.func f3) #[] #[.pointer (some ⟨w.heap.size+1,0,none⟩)]];simp only[World.size_alloc] at bN bL;have hBw:Below w.heap.size w (((w.alloc (.cells #[.int .i64 aI] 3)).alloc (.cells (lm n) 116)).alloc (.cells #[.func (.func 133) #[] #[.pointer (some ⟨w.heap.size+1,0,none⟩)],.func (.func 134) #[] #[.pointer (some ⟨w.heap.size,0,none⟩),.pointer (some ⟨w.heap.size+1,0,none⟩)],.func (.func f3) #[] #[.pointer (some ⟨w.heap.size+1,0,none⟩)]] 27)):=
  (((Below.refl _ w).alloc (Nat.le_refl _) _).alloc (by simp) _).alloc (by simp;omega) _
 have hall:∀W0,aA W0 w.heap.size 3 #[.int .i64 aI]→aA W0 (w.heap.size+1) 116 (lm n)→aA W0 (w.heap.size+1+1) 27 #[.func (.func 133) #[] #[.pointer (some ⟨w.heap.size+1,0,none⟩)],.func (.func 134) #[] #[.pointer (some ⟨w.heap.size,0,none⟩),.pointer (some ⟨w.heap.size+1,0,none⟩)],.func (.func f3) #[] #[.pointer (some ⟨w.heap.size+1,0,none⟩)]]→
  Calls Tryz.prog 132 #[.slice (some ⟨w.heap.size+1+1,0,none⟩) 3 3] W0 fun e w'=>e= .returned (.bool (iE aI n))∧W0=w':=fun W0 b0 b1 b2=>by
  rw[←FR];refine N7 (w.heap.size+1+1) [.func (.func 133) #[] #[.pointer (some ⟨w.heap.size+1,0,none⟩)],.func (.func 134) #[] #[.pointer (some ⟨w.heap.size,0,none⟩),.pointer (some ⟨w.heap.size+1,0,none⟩)],.func (.func f3) #[] #[.pointer (some ⟨w.heap.size+1,0,none⟩)]] (mX aI n) (fun W=>W0=W) W0 ?_;refine vE (w.heap.size+1+1) _ (mX aI n) (fun W=>W0=W) W0 ?_;refine Bg (w.heap.size+1+1) _ (mX aI n) (fun W=>W0=W) W0 rfl (by simp) (fun W hW=>by rw[←hW];exact b2) ?_ rfl;rintro i fv x W iq hx hpre rfl
  match i,iq,hx,hpre with
  |0,iq,hx,_=>
   simp only[mX,List.getElem?_cons_zero,Option.some.injEq] at iq hx;subst iq hx;exact DX W0 (w.heap.size+1) w.heap.size 133 _ _ (.inr (.inr (.inl ⟨rfl,rfl⟩))) (Oa W0 _ n b1)
  |1,iq,hx,_=>
   simp only[mX,List.getElem?_cons_zero,List.getElem?_cons_succ,Option.some.injEq] at iq hx;subst iq hx;exact DX W0 (w.heap.size+1) w.heap.size 134 _ _ (.inr (.inr (.inr ⟨rfl,rfl⟩))) (Ob W0 _ _ aI n b1 b0)
  |2,iq,hx,_=>
   simp only[mX,List.getElem?_cons_zero,List.getElem?_cons_succ,Option.some.injEq] at iq hx;subst iq hx;cases hp:n.part with
   |true=>
    simp only[hp,if_true] at hf3 ⊢;subst hf3;exact DX W0 (w.heap.size+1) w.heap.size 131 _ _ (.inr (.inl ⟨rfl,rfl⟩)) (N9 W0 _ n b1)
   |false=>
    simp only[hp,Bool.false_eq_true,if_false] at hf3 ⊢;subst hf3;exact DX W0 (w.heap.size+1) w.heap.size 130 _ _ (.inl ⟨rfl,rfl⟩) (N8 W0 _ n b1)
  |i+3,iq,_,_=>simp at iq
 have TE:=hall _ bA bN bL;have lT:=Lib.hid TE;have HB:=Lib.hid hBw;have x1:=(aA.new (w.alloc (.cells #[.int .i64 aI] 3)) 116 (lm n)).cell 1;clear hall TE bA bN bL hBw;unfold lm at*;generalize iE aI n=R at*;cases hp:n.part with
 |true=>
  rw[hp] at hf3 lT HB x1;simp only[if_true] at hf3;subst hf3;have HP:=Lib.hid hp;clear hp;go_enter Tryz.func79,Tryz.ntmps79;go_wp2_with (go_at_call 132;refine lT.out.mono ?_;rintro e w' ⟨rfl,rfl⟩);go_ret;exact ⟨rfl,HB.out⟩
 |false=>
  rw[hp] at hf3 lT HB x1;simp only[Bool.false_eq_true,if_false] at hf3;subst hf3;have HP:=Lib.hid hp;clear hp;go_enter Tryz.func79,Tryz.ntmps79;go_wp2_with (go_at_call 132;refine lT.out.mono ?_;rintro e w' ⟨rfl,rfl⟩);go_ret;exact ⟨rfl,HB.out⟩
set_option maxRecDepth 10000 in
set_option maxHeartbeats 1000000 in
theorem DY (a b:Nk):Calls Tryz.prog 80 #[.int .i64 aI,.agg (lm a),.agg (lm b)] w fun e w'=>e= .returned (.bool (lX aI a b))∧Below w.heap.size w w':=by
 have hd:=fun (x:Int) (W:World)=>Ct W aI x
 have HD:=Lib.hid hd;have hB:=((Below.refl w.heap.size w).alloc (Nat.le_refl _) (.cells (lm a) 116)).alloc (by simp) (.cells (lm b) 116);have ba:=(aA.new w 116 (lm a)).alloc (.cells (lm b) 116);have bb:=aA.new (w.alloc (.cells (lm a) 116)) 116 (lm b);simp only[World.size_alloc] at bb;obtain ⟨x0,x1,x2,x3⟩:=ba.wC;obtain ⟨y0,y1,y2,y3⟩:=bb.wC;have HB:=Lib.hid hB;have hfin:lX aI a b=(decide (jl aI b.sn<jl aI a.sn)||(decide (a.sn=b.sn)&&(a.part&&(b.part&&decide (a.lt<b.fr))))):=rfl;rw[hfin];clear hd hB ba bb hfin;unfold lm at*;obtain ⟨Xy,ap,af,al⟩:=a;obtain ⟨Xz,bp,bf,bl⟩:=b;dsimp only at*;by_cases hA:jl aI Xz<jl aI Xy
 ·have d1:decide (jl aI Xz<jl aI Xy)=true:=decide_eq_true hA;rw[d1];go_enter Tryz.func80,Tryz.ntmps80;go_wp2_with fail
  go_quiet ((go_at_call 135;exact Calls.quiet_of_same ((HD.out _ _).mono fun _ _ hh=>⟨hh.1,hh.2.symm⟩)))
  go_wp2;go_ret;exact ⟨rfl,HB.out.drewN _⟩
 have d1:decide (jl aI Xz<jl aI Xy)=false:=decide_eq_false hA;rw[d1];by_cases Rj:Xy=Xz
 ·have e1:(Xy==Xz)=true:=by simp[Rj]
  rw[decide_eq_true Rj];have vC:=Lib.hid Rj;clear Rj;cases ap with
  |false=>
   go_enter Tryz.func80,Tryz.ntmps80;go_wp2_with fail
   go_quiet ((go_at_call 135;exact Calls.quiet_of_same ((HD.out _ _).mono fun _ _ hh=>⟨hh.1,hh.2.symm⟩)))
   go_wp2;go_ret;exact ⟨rfl,HB.out.drewN _⟩
  |true=>
   cases bp with
   |false=>
    go_enter Tryz.func80,Tryz.ntmps80;go_wp2_with fail
    go_quiet ((go_at_call 135;exact Calls.quiet_of_same ((HD.out _ _).mono fun _ _ hh=>⟨hh.1,hh.2.symm⟩)))
    go_wp2;go_ret;exact ⟨rfl,HB.out.drewN _⟩
   |true=>
    go_enter Tryz.func80,Tryz.ntmps80;go_wp2_with fail
    go_quiet ((go_at_call 135;exact Calls.quiet_of_same ((HD.out _ _).mono fun _ _ hh=>⟨hh.1,hh.2.symm⟩)))
    go_wp2;go_ret;exact ⟨by simp,HB.out.drewN _⟩
 ·have e1:(Xy==Xz)=false:=by simp[Rj]
  rw[decide_eq_false Rj];go_enter Tryz.func80,Tryz.ntmps80;go_wp2_with fail
  go_quiet ((go_at_call 135;exact Calls.quiet_of_same ((HD.out _ _).mono fun _ _ hh=>⟨hh.1,hh.2.symm⟩)))
  go_wp2;go_ret;exact ⟨rfl,HB.out.drewN _⟩
end
end
section
open Go.RowKit
attribute [local go_sem] Oper.semAt_some
structure bP (w:World) (A:Option Addr) (n c:Nat) (l:List Nk):Prop where
 len:l.length=n
 cap:n≤c
 mx:c≤9223372036854775807
 at_:0<n→∃ad,A=some ad∧ad.block<w.heap.size∧∀j r,l[j]? =some r→w.cell? (ad.add (j*4))=some (.int .i64 r.sn)∧w.cell? ⟨(ad.add (j*4)).block,(ad.add (j*4)).off+1,none⟩=some (.bool r.part)∧w.cell? ⟨(ad.add (j*4)).block,(ad.add (j*4)).off+2,none⟩=some (.int .i64 r.fr)∧w.cell? ⟨(ad.add (j*4)).block,(ad.add (j*4)).off+3,none⟩=some (.int .i64 r.lt)
theorem bP.below {w w':World} {A:Option Addr} {n c:Nat} {l:List Nk} (h:bP w A n c l) (hb:Below w.heap.size w w'):bP w' A n c l:=
 ⟨h.len,h.cap,h.mx,fun hn=>by
  obtain ⟨ad,e,hlt,hc⟩:=h.at_ hn;refine ⟨ad,e,Nat.lt_of_lt_of_le hlt hb.size,fun j r hr=> ?_⟩;obtain ⟨k0,k1,k2,k3⟩:=hc j r hr;have hbk:(ad.add (j*4)).block<w.heap.size:=by rw[block_add];exact hlt
  exact ⟨(hb.cell hbk).trans k0,(hb.cell (p:=⟨(ad.add (j*4)).block,_,none⟩) hbk).trans k1,(hb.cell (p:=⟨(ad.add (j*4)).block,_,none⟩) hbk).trans k2,(hb.cell (p:=⟨(ad.add (j*4)).block,_,none⟩) hbk).trans k3⟩⟩
theorem bP.drewN {w:World} {A:Option Addr} {n c:Nat} {l:List Nk} (h:bP w A n c l) (k:Nat):bP (w.drewN k) A n c l:=h.below ((Below.refl _ w).drewN k)
theorem bP.alloc {w:World} {A:Option Addr} {n c:Nat} {l:List Nk} (h:bP w A n c l) (o:Obj):bP (w.alloc o) A n c l:=h.below ((Below.refl _ w).alloc (Nat.le_refl _) o)
def Rk (aI:Int) (l:List Nk) (k:Nat):Prop:=∀n,l[k]? =some n→iE aI n=true∧∀m,0<k→l[k-1]? =some m→lX aI m n=true
theorem jX (aI:Int):∀l:List Nk,oN aI l=true↔∀k,Rk aI l k
 | []=>by simp[oN,Rk]
 | [n]=>by
  simp only[oN,Rk];constructor
  ·intro h k m hm;cases k with
   |zero=>simp at hm;subst hm;exact ⟨h,fun _ h0=>by omega⟩
   |succ k=>simp at hm
  ·intro h;exact (h 0 n rfl).1
 |a::b::r=>by
  have ih:=jX aI (b::r);simp only[oN,Bool.and_eq_true,ih];constructor
  ·rintro ⟨h1,h2,h3⟩ k n hn;cases k with
   |zero=>simp at hn;subst hn;exact ⟨h1,fun _ h0=>by omega⟩
   |succ k=>
    have h4:=h3 k n (by simpa using hn);refine ⟨h4.1,fun m _ hm=> ?_⟩;cases k with
    |zero=>simp at hn hm;subst hn hm;exact h2
    |succ k=>exact h4.2 m (by omega) (by simpa using hm)
  ·intro h;refine ⟨(h 0 a rfl).1,(h 1 b rfl).2 a (by omega) rfl,fun k n hn=> ?_⟩;have h4:=h (k+1) n (by simpa using hn);refine ⟨h4.1,fun m h0 hm=>h4.2 m (by omega) ?_⟩;rw[show k+1-1=(k-1)+1 by omega];simpa using hm
section
variable (w:World)
set_option maxRecDepth 10000 in
set_option maxHeartbeats 8000000 in
theorem jY (aI:Int) (A:Option Addr) (n c:Nat) (l:List Nk) (h:bP w A n c l):
 Calls Tryz.prog 27 #[.agg #[.int .i64 aI,.slice A n c]] w fun e w'=>e= .returned (.bool (bU aI l))∧Below w.heap.size w w':=by
 have hlen:=h.len;have hcap:=h.cap;have hmx:=h.mx;obtain ⟨R,hR⟩:∃R,bU aI l=R:=⟨_,rfl⟩
 rw[hR];have HR:=Lib.hid hR;clear hR;by_cases h0:0≤aI
 ·have d0:decide (aI<0)=false:=decide_eq_false (by omega);by_cases h1:aI≤1023
  ·have d1:decide (1023<aI)=false:=decide_eq_false (by omega);by_cases h5:n≤512
   ·have hR2:oN aI l=R:=by rw[←HR.out];simp[bU,hlen,h0,h1,h5]
    have HR2:=Lib.hid hR2;have HL:=Lib.hid hlen;have HN:=Lib.hid (h.alloc (.cells #[.int .i64 aI,.slice A n c] 42));have hbk:=aA.new w 42 #[.int .i64 aI,.slice A n c];have Oc:=Lib.hid hbk;have Cq:=Lib.hid ((Below.refl w.heap.size w).alloc (Nat.le_refl _) (.cells #[.int .i64 aI,.slice A n c] 42));clear h hR2 hbk hlen;go_enter Tryz.func27,Tryz.ntmps27;go_wp2;have hz:=World.size_alloc w (.cells #[.int .i64 aI,.slice A n c] 42);have HZ:=Lib.hid hz;clear hz;generalize w.alloc (.cells #[.int .i64 aI,.slice A n c] 42)=w0 at*
    go_loopw [22] (fun i wr=>∃k:Nat,k≤n∧i= .int .i64 k∧Below w0.heap.size w0 wr∧∀j,j<k→Rk aI l j) (fun i _=>n-(intOf i).toNat)
    case atStart=>exact ⟨0,Nat.zero_le _,rfl,Below.refl _ _,fun j hj=>by omega⟩
    case round=>
     obtain ⟨k,hk,rfl,hb,hall⟩:=hrel;have lT:=Lib.hid hall;clear hall;by_cases hlt:k<n
     ·obtain ⟨x,hx⟩:∃x,l[k]? =some x:=⟨_,List.getElem?_eq_getElem (by have:=HL.out;omega)⟩
      obtain ⟨ad,rfl,ND,hcl⟩:=(HN.out.below hb).at_ (by omega);obtain ⟨k0,k1,k2,k3⟩:=hcl k x hx;have HX:=Lib.hid hx;have pJ:=Lib.hid hcl;have hbw:w.heap.size<w0.heap.size:=Oc.out.lt;have b0:=(Oc.out.below hb hbw).alloc (.cells (lm x) 116);have b1:=aA.new wr 116 (lm x);have hbW:Below w0.heap.size w0 (wr.alloc (.cells (lm x) 116)):=hb.alloc hb.size _;have z0:(wr.alloc (.cells (lm x) 116)).cell? ⟨w.heap.size,0,none⟩=some (.int .i64 aI):=b0.cell 0;have z1:(wr.alloc (.cells (lm x) 116)).cell? ⟨w.heap.size,1,none⟩=some (.slice (some ad) n c):=b0.cell 1;have y0:(wr.alloc (.cells (lm x) 116)).cell? ⟨wr.heap.size,0,none⟩=some (.int .i64 x.sn):=b1.cell 0;have y1:(wr.alloc (.cells (lm x) 116)).cell? ⟨wr.heap.size,1,none⟩=some (.bool x.part):=b1.cell 1;have y2:(wr.alloc (.cells (lm x) 116)).cell? ⟨wr.heap.size,2,none⟩=some (.int .i64 x.fr):=b1.cell 2;have y3:(wr.alloc (.cells (lm x) 116)).cell? ⟨wr.heap.size,3,none⟩=some (.int .i64 x.lt):=b1.cell 3;have hlt1:wr.heap.size<(wr.alloc (.cells (lm x) 116)).heap.size:=by simp
      have Za:w.heap.size<(wr.alloc (.cells (lm x) 116)).heap.size:=b0.lt;have hal:=fun (W:World)=>Jg W aI x
      have xB:=Lib.hid hal;have HNW:=Lib.hid ((HN.out.below hbW));clear b0 b1 hx hcl hal;unfold lm at*;go_upto_region 6 with (fail)
      generalize wr.alloc (.cells #[.int .i64 x.sn,.bool x.part,.int .i64 x.fr,.int .i64 x.lt] 116)=w1 at*;clear k0 k1 k2 k3;cases hA:iE aI x with
      |false=>
       rw[hA] at xB;have Rl:R=false:=by
        rw[←HR2.out,←Bool.not_eq_true,jX];intro hh;have:=(hh k x HX.out).1;rw[hA] at this;cases this
       subst Rl;have HA:=Lib.hid hA;clear hA;refine bM (fun w'=>w'.cell? ⟨w.heap.size,0,none⟩=some (.int .i64 aI)∧w'.cell? ⟨w.heap.size,1,none⟩=some (.slice (some ad) n c)∧w'.cell? ⟨wr.heap.size,0,none⟩=some (.int .i64 x.sn)∧w'.cell? ⟨wr.heap.size,1,none⟩=some (.bool x.part)∧w'.cell? ⟨wr.heap.size,2,none⟩=some (.int .i64 x.fr)∧w'.cell? ⟨wr.heap.size,3,none⟩=some (.int .i64 x.lt)) [3] (by kernel_rfl) ?_;have hHeld:=(show w1.drew.cell? ⟨w.heap.size,0,none⟩=some (.int .i64 aI)∧w1.drew.cell? ⟨w.heap.size,1,none⟩=some (.slice (some ad) n c)∧w1.drew.cell? ⟨wr.heap.size,0,none⟩=some (.int .i64 x.sn)∧w1.drew.cell? ⟨wr.heap.size,1,none⟩=some (.bool x.part)∧w1.drew.cell? ⟨wr.heap.size,2,none⟩=some (.int .i64 x.fr)∧w1.drew.cell? ⟨wr.heap.size,3,none⟩=some (.int .i64 x.lt) from ⟨z0,z1,y0,y1,y2,y3⟩);refine tkY 0 ?_ rfl (Or.inl ⟨by rfl,?_⟩) hHeld ?_;rotate_left
       ·intro w' hSw;go_simp
        try with_reducible rfl
       try simp only[Act.put,zzA,zzE,yo,UM,zzD]
       refine tkX [3] 1 ?_ rfl (Or.inl ⟨by rfl,?_⟩) hHeld ?_;rotate_left
       ·intro w' hSw;obtain ⟨hS1,hS2,ig,pW,hS5,wT⟩:=hSw;go_simp
        try with_reducible rfl
       try simp only[Act.put,zzA,zzE,zzF,yo,UM,zzD]
       refine tkX [3] 2 ?_ rfl (Or.inl ⟨by rfl,?_⟩) hHeld ?_;rotate_left
       ·intro w' hSw;obtain ⟨hS1,hS2,ig,pW,hS5,wT⟩:=hSw;go_simp
        try with_reducible rfl
       try simp only[Act.put,zzA,zzE,zzF,yo,UM,zzD]
       refine aQ (i:=3) rfl (by kernel_rfl) (by kernel_rfl) (by rfl) (fun K hK=> ?_);go_simp;refine (xB.out _).mono ?_;rintro e1 w2 ⟨rfl,hb1⟩;refine hK _ _ ?_;clear hK K
       try simp only[Act.put,zzA,zzE,zzF,yo,UM,zzD]
       refine tkZ 4 ?_ rfl (Or.inl ⟨by rfl,?_⟩) ?_;rotate_left
       ·intro w' hSw;go_simp
        try with_reducible rfl
       try simp only[Act.put,zzA,zzE,zzF,yo,UM,zzD]
       refine tkZ 5 ?_ rfl (Or.inl ⟨by rfl,?_⟩) ?_;rotate_left
       ·intro w' hSw;go_simp
        try with_reducible rfl
       try simp only[Act.put,zzA,zzE,zzF,yo,UM,zzD]
       refine tkZ 6 undef rfl (Or.inr ⟨by rfl,rfl⟩) ?_
       try simp only[Act.put,zzA,zzE,zzF,yo,UM,zzD]
       refine tkZ 7 undef rfl (Or.inr ⟨by rfl,rfl⟩) ?_
       try simp only[Act.put,zzA,zzE,zzF,yo,UM,zzD]
       refine tkZ 8 undef rfl (Or.inr ⟨by rfl,rfl⟩) ?_
       try simp only[Act.put,zzA,zzE,zzF,yo,UM,zzD]
       refine tkZ 9 undef rfl (Or.inr ⟨by rfl,rfl⟩) ?_
       try simp only[Act.put,zzA,zzE,zzF,yo,UM,zzD]
       refine tkZ 10 undef rfl (Or.inr ⟨by rfl,rfl⟩) ?_
       try simp only[Act.put,zzA,zzE,zzF,yo,UM,zzD]
       refine tkZ 11 undef rfl (Or.inr ⟨by rfl,rfl⟩) ?_
       try simp only[Act.put,zzA,zzE,zzF,yo,UM,zzD]
       refine tkZ 12 undef rfl (Or.inr ⟨by rfl,rfl⟩) ?_
       try simp only[Act.put,zzA,zzE,zzF,yo,UM,zzD]
       refine tkZ 13 undef rfl (Or.inr ⟨by rfl,rfl⟩) ?_
       try simp only[Act.put,zzA,zzE,zzF,yo,UM,zzD]
       refine tkZ 14 undef rfl (Or.inr ⟨by rfl,rfl⟩) ?_
       try simp only[Act.put,zzA,zzE,zzF,yo,UM,zzD]
       refine tkZ 15 undef rfl (Or.inr ⟨by rfl,rfl⟩) ?_
       try simp only[Act.put,zzA,zzE,zzF,yo,UM,zzD]
       refine tkZ 16 undef rfl (Or.inr ⟨by rfl,rfl⟩) ?_
       try simp only[Act.put,zzA,zzE,zzF,yo,UM,zzD]
       refine tkZ 17 undef rfl (Or.inr ⟨by rfl,rfl⟩) ?_
       try simp only[Act.put,zzA,zzE,zzF,yo,UM,zzD]
       refine tkZ 18 undef rfl (Or.inr ⟨by rfl,rfl⟩) ?_
       try simp only[Act.put,zzA,zzE,zzF,yo,UM,zzD]
       refine tkZ 19 undef rfl (Or.inr ⟨by rfl,rfl⟩) ?_
       try simp only[Act.put,zzA,zzE,zzF,yo,UM,zzD]
       refine tkZ 20 undef rfl (Or.inr ⟨by rfl,rfl⟩) ?_
       try simp only[Act.put,zzA,zzE,zzF,yo,UM,zzD]
       refine tkZ 21 ?_ rfl (Or.inl ⟨by rfl,?_⟩) ?_;rotate_left
       ·intro w' hSw;go_simp
        try with_reducible rfl
       try simp only[Act.put,zzA,zzE,zzF,yo,UM,zzD]
       refine aU (by kernel_rfl) ?_ _;go_wp2;go_ret;exact ⟨rfl,Cq.out.trans (hbW.drew.trans (hb1.mono hbW.drew.size) |>.mono Cq.out.size)⟩
      |true=>
       rw[hA] at xB;have HA:=Lib.hid hA;clear hA;by_cases hk0:k=0
       ·subst hk0;refine bM (fun w'=>w'.cell? ⟨w.heap.size,0,none⟩=some (.int .i64 aI)∧w'.cell? ⟨w.heap.size,1,none⟩=some (.slice (some ad) n c)∧w'.cell? ⟨wr.heap.size,0,none⟩=some (.int .i64 x.sn)∧w'.cell? ⟨wr.heap.size,1,none⟩=some (.bool x.part)∧w'.cell? ⟨wr.heap.size,2,none⟩=some (.int .i64 x.fr)∧w'.cell? ⟨wr.heap.size,3,none⟩=some (.int .i64 x.lt)) [3] (by kernel_rfl) ?_;have hHeld:=(show w1.drew.cell? ⟨w.heap.size,0,none⟩=some (.int .i64 aI)∧w1.drew.cell? ⟨w.heap.size,1,none⟩=some (.slice (some ad) n c)∧w1.drew.cell? ⟨wr.heap.size,0,none⟩=some (.int .i64 x.sn)∧w1.drew.cell? ⟨wr.heap.size,1,none⟩=some (.bool x.part)∧w1.drew.cell? ⟨wr.heap.size,2,none⟩=some (.int .i64 x.fr)∧w1.drew.cell? ⟨wr.heap.size,3,none⟩=some (.int .i64 x.lt) from ⟨z0,z1,y0,y1,y2,y3⟩);refine tkY 0 ?_ rfl (Or.inl ⟨by rfl,?_⟩) hHeld ?_;rotate_left
        ·intro w' hSw;go_simp
         try with_reducible rfl
        try simp only[Act.put,zzA,zzE,yo,UM,zzD]
        refine tkX [3] 1 ?_ rfl (Or.inl ⟨by rfl,?_⟩) hHeld ?_;rotate_left
        ·intro w' hSw;obtain ⟨hS1,hS2,ig,pW,hS5,wT⟩:=hSw;go_simp
         try with_reducible rfl
        try simp only[Act.put,zzA,zzE,zzF,yo,UM,zzD]
        refine tkX [3] 2 ?_ rfl (Or.inl ⟨by rfl,?_⟩) hHeld ?_;rotate_left
        ·intro w' hSw;obtain ⟨hS1,hS2,ig,pW,hS5,wT⟩:=hSw;go_simp
         try with_reducible rfl
        try simp only[Act.put,zzA,zzE,zzF,yo,UM,zzD]
        refine aQ (i:=3) rfl (by kernel_rfl) (by kernel_rfl) (by rfl) (fun K hK=> ?_);go_simp;refine (xB.out _).mono ?_;rintro e1 w2 ⟨rfl,hb1⟩;refine hK _ _ ?_;clear hK K
        try simp only[Act.put,zzA,zzE,zzF,yo,UM,zzD]
        refine tkZ 4 ?_ rfl (Or.inl ⟨by rfl,?_⟩) ?_;rotate_left
        ·intro w' hSw;go_simp
         try with_reducible rfl
        try simp only[Act.put,zzA,zzE,zzF,yo,UM,zzD]
        refine tkZ 5 ?_ rfl (Or.inl ⟨by rfl,?_⟩) ?_;rotate_left
        ·intro w' hSw;go_simp
         try with_reducible rfl
        try simp only[Act.put,zzA,zzE,zzF,yo,UM,zzD]
        refine tkZ 6 ?_ rfl (Or.inl ⟨by rfl,?_⟩) ?_;rotate_left
        ·intro w' hSw;go_simp
         try with_reducible rfl
        try simp only[Act.put,zzA,zzE,zzF,yo,UM,zzD]
        refine tkZ 7 ?_ rfl (Or.inl ⟨by rfl,?_⟩) ?_;rotate_left
        ·intro w' hSw;go_simp
         try with_reducible rfl
        try simp only[Act.put,zzA,zzE,zzF,yo,UM,zzD]
        refine tkZ 8 ?_ rfl (Or.inl ⟨by rfl,?_⟩) ?_;rotate_left
        ·intro w' hSw;go_simp
         try with_reducible rfl
        try simp only[Act.put,zzA,zzE,zzF,yo,UM,zzD]
        refine tkZ 9 undef rfl (Or.inr ⟨by rfl,rfl⟩) ?_
        try simp only[Act.put,zzA,zzE,zzF,yo,UM,zzD]
        refine tkZ 10 undef rfl (Or.inr ⟨by rfl,rfl⟩) ?_
        try simp only[Act.put,zzA,zzE,zzF,yo,UM,zzD]
        refine tkZ 11 undef rfl (Or.inr ⟨by rfl,rfl⟩) ?_
        try simp only[Act.put,zzA,zzE,zzF,yo,UM,zzD]
        refine tkZ 12 undef rfl (Or.inr ⟨by rfl,rfl⟩) ?_
        try simp only[Act.put,zzA,zzE,zzF,yo,UM,zzD]
        refine tkZ 13 undef rfl (Or.inr ⟨by rfl,rfl⟩) ?_
        try simp only[Act.put,zzA,zzE,zzF,yo,UM,zzD]
        refine tkZ 14 undef rfl (Or.inr ⟨by rfl,rfl⟩) ?_
        try simp only[Act.put,zzA,zzE,zzF,yo,UM,zzD]
        refine tkZ 15 undef rfl (Or.inr ⟨by rfl,rfl⟩) ?_
        try simp only[Act.put,zzA,zzE,zzF,yo,UM,zzD]
        refine tkZ 16 undef rfl (Or.inr ⟨by rfl,rfl⟩) ?_
        try simp only[Act.put,zzA,zzE,zzF,yo,UM,zzD]
        refine tkZ 17 undef rfl (Or.inr ⟨by rfl,rfl⟩) ?_
        try simp only[Act.put,zzA,zzE,zzF,yo,UM,zzD]
        refine tkZ 18 undef rfl (Or.inr ⟨by rfl,rfl⟩) ?_
        try simp only[Act.put,zzA,zzE,zzF,yo,UM,zzD]
        refine tkZ 19 undef rfl (Or.inr ⟨by rfl,rfl⟩) ?_
        try simp only[Act.put,zzA,zzE,zzF,yo,UM,zzD]
        refine tkZ 20 ?_ rfl (Or.inl ⟨by rfl,?_⟩) ?_;rotate_left
        ·intro w' hSw;go_simp
         try with_reducible rfl
        try simp only[Act.put,zzA,zzE,zzF,yo,UM,zzD]
        refine tkZ 21 ?_ rfl (Or.inl ⟨by rfl,?_⟩) ?_;rotate_left
        ·intro w' hSw;go_simp
         try with_reducible rfl
        try simp only[Act.put,zzA,zzE,zzF,yo,UM,zzD]
        refine aU (by kernel_rfl) ?_ _;go_wp2
        go_roundw
        case rel=>
         refine ⟨1,by omega,rfl,hbW.drew.trans (hb1.mono hbW.drew.size),fun j hj m hm=> ?_⟩;obtain rfl:j=0:=by omega
         rw[HX.out] at hm;cases hm;exact ⟨HA.out,fun _ h0=>by omega⟩
        case measure=>simp[intOf];omega
       ·obtain ⟨k,rfl⟩:∃k',k=k'+1:=⟨k-1,by omega⟩
        obtain ⟨m,hm⟩:∃m,l[k]? =some m:=⟨_,List.getElem?_eq_getElem (by have:=HL.out;omega)⟩
        obtain ⟨wM,aen,Zb,Zc⟩:=HNW.out.at_ (by omega);cases aen;obtain ⟨m0,m1,m2,m3⟩:=Zc k m hm;have hS:∀W,Below w1.heap.size w1 W→W.cell? ⟨w.heap.size,0,none⟩=some (.int .i64 aI)∧W.cell? ⟨w.heap.size,1,none⟩=some (.slice (some ad) n c)∧W.cell? ⟨wr.heap.size,0,none⟩=some (.int .i64 x.sn)∧W.cell? ⟨wr.heap.size,1,none⟩=some (.bool x.part)∧W.cell? ⟨wr.heap.size,2,none⟩=some (.int .i64 x.fr)∧W.cell? ⟨wr.heap.size,3,none⟩=some (.int .i64 x.lt)∧W.cell? (ad.add (k*4))=some (.int .i64 m.sn)∧W.cell? ⟨(ad.add (k*4)).block,(ad.add (k*4)).off+1,none⟩=some (.bool m.part)∧W.cell? ⟨(ad.add (k*4)).block,(ad.add (k*4)).off+2,none⟩=some (.int .i64 m.fr)∧W.cell? ⟨(ad.add (k*4)).block,(ad.add (k*4)).off+3,none⟩=some (.int .i64 m.lt):=fun W hW=>by
         have hbk:(ad.add (k*4)).block<w1.heap.size:=by rw[block_add];exact Zb
         exact ⟨(hW.cell (p:=⟨w.heap.size,0,none⟩) Za).trans z0,(hW.cell (p:=⟨w.heap.size,1,none⟩) Za).trans z1,(hW.cell (p:=⟨wr.heap.size,0,none⟩) hlt1).trans y0,(hW.cell (p:=⟨wr.heap.size,1,none⟩) hlt1).trans y1,(hW.cell (p:=⟨wr.heap.size,2,none⟩) hlt1).trans y2,(hW.cell (p:=⟨wr.heap.size,3,none⟩) hlt1).trans y3,
          (hW.cell hbk).trans m0,(hW.cell (p:=⟨(ad.add (k*4)).block,_,none⟩) hbk).trans m1,(hW.cell (p:=⟨(ad.add (k*4)).block,_,none⟩) hbk).trans m2,(hW.cell (p:=⟨(ad.add (k*4)).block,_,none⟩) hbk).trans m3⟩
        have HS:=Lib.hid hS;have hfo:=fun (W:World)=>DY W aI m x
        have Zd:=Lib.hid hfo;have HM:=Lib.hid hm;have hkn:(k:Int)<n:=by omega
        have akt:(0:Int)≤k:=by omega
        have hwk:IntKind.i64.wrap (k:Int)=(k:Int):=IntWalk.i64_in _ (by omega);clear hS hfo hm Zc m0 m1 m2 m3 z0 z1 y0 y1 y2 y3;unfold lm at Zd;cases hF:lX aI m x with
        |false=>
         rw[hF] at Zd;have Rl:R=false:=by
          rw[←HR2.out,←Bool.not_eq_true,jX];intro hh;have:=(hh (k+1) x HX.out).2 m (by omega) HM.out;rw[hF] at this;cases this
         subst Rl;have HF:=Lib.hid hF;clear hF;refine bM (fun w'=>w'.cell? ⟨w.heap.size,0,none⟩=some (.int .i64 aI)∧w'.cell? ⟨w.heap.size,1,none⟩=some (.slice (some ad) n c)∧w'.cell? ⟨wr.heap.size,0,none⟩=some (.int .i64 x.sn)∧w'.cell? ⟨wr.heap.size,1,none⟩=some (.bool x.part)∧w'.cell? ⟨wr.heap.size,2,none⟩=some (.int .i64 x.fr)∧w'.cell? ⟨wr.heap.size,3,none⟩=some (.int .i64 x.lt)∧w'.cell? (ad.add (k*4))=some (.int .i64 m.sn)∧w'.cell? ⟨(ad.add (k*4)).block,(ad.add (k*4)).off+1,none⟩=some (.bool m.part)∧w'.cell? ⟨(ad.add (k*4)).block,(ad.add (k*4)).off+2,none⟩=some (.int .i64 m.fr)∧w'.cell? ⟨(ad.add (k*4)).block,(ad.add (k*4)).off+3,none⟩=some (.int .i64 m.lt)) [18] (by kernel_rfl) ?_;have hHeld:=HS.out _ (Below.refl w1.heap.size w1).drew;refine tkY 0 ?_ rfl (Or.inl ⟨by rfl,?_⟩) hHeld ?_;rotate_left
         ·intro w' hSw;go_simp
          try with_reducible rfl
         try simp only[Act.put,zzA,zzE,yo,UM,zzD]
         refine tkX [18,8,5,4,3] 1 ?_ rfl (Or.inl ⟨by rfl,?_⟩) hHeld ?_;rotate_left
         ·intro w' hSw;obtain ⟨hS1,hS2,ig,pW,hS5,wT,Ce,EK,EL,pX⟩:=hSw;go_simp
          try with_reducible rfl
         try simp only[Act.put,zzA,zzE,zzF,yo,UM,zzD]
         refine tkX [18,8,5,4,3] 2 ?_ rfl (Or.inl ⟨by rfl,?_⟩) hHeld ?_;rotate_left
         ·intro w' hSw;obtain ⟨hS1,hS2,ig,pW,hS5,wT,Ce,EK,EL,pX⟩:=hSw;go_simp
          try with_reducible rfl
         try simp only[Act.put,zzA,zzE,zzF,yo,UM,zzD]
         refine bu (i:=3) rfl (by kernel_rfl) (by rfl) (fun K hK=> ?_);go_simp;refine (xB.out _).mono ?_;rintro e1 w2 ⟨rfl,hb1⟩;have hbx:Below w1.heap.size w1 w2:=(Below.refl w1.heap.size w1).drew.trans hb1;refine hK _ _ (HS.out _ hbx) ?_;clear hK K hHeld;have hHeld:=(HS.out _ hbx)
         try simp only[Act.put,zzA,zzE,zzF,yo,UM,zzD]
         refine tkY 4 ?_ rfl (Or.inl ⟨by rfl,?_⟩) hHeld ?_;rotate_left
         ·intro w' hSw;go_simp
          try with_reducible rfl
         try simp only[Act.put,zzA,zzE,zzF,yo,UM,zzD]
         refine tkY 5 ?_ rfl (Or.inl ⟨by rfl,?_⟩) hHeld ?_;rotate_left
         ·intro w' hSw;go_simp
          try with_reducible rfl
         try simp only[Act.put,zzA,zzE,zzF,yo,UM,zzD]
         refine tkY 6 ?_ rfl (Or.inl ⟨by rfl,?_⟩) hHeld ?_;rotate_left
         ·intro w' hSw;go_simp
          try with_reducible rfl
         try simp only[Act.put,zzA,zzE,zzF,yo,UM,zzD]
         refine tkY 7 ?_ rfl (Or.inl ⟨by rfl,?_⟩) hHeld ?_;rotate_left
         ·intro w' hSw;go_simp
          try with_reducible rfl
         try simp only[Act.put,zzA,zzE,zzF,yo,UM,zzD]
         refine tkY 8 ?_ rfl (Or.inl ⟨by rfl,?_⟩) hHeld ?_;rotate_left
         ·intro w' hSw;go_simp
          try with_reducible rfl
         try simp only[Act.put,zzA,zzE,zzF,yo,UM,zzD]
         refine tkY 9 ?_ rfl (Or.inl ⟨by rfl,?_⟩) hHeld ?_;rotate_left
         ·intro w' hSw;go_simp
          try with_reducible rfl
         try simp only[Act.put,zzA,zzE,zzF,yo,UM,zzD]
         refine tkX [18] 10 ?_ rfl (Or.inl ⟨by rfl,?_⟩) hHeld ?_;rotate_left
         ·intro w' hSw;obtain ⟨hS1,hS2,ig,pW,hS5,wT,Ce,EK,EL,pX⟩:=hSw;go_simp
          try with_reducible rfl
         try simp only[Act.put,zzA,zzE,zzF,yo,UM,zzD]
         refine tkY 11 ?_ rfl (Or.inl ⟨by rfl,?_⟩) hHeld ?_;rotate_left
         ·intro w' hSw;go_simp
          try with_reducible rfl
         try simp only[Act.put,zzA,zzE,zzF,yo,UM,zzD]
         refine tkX [18,16,15] 12 ?_ rfl (Or.inl ⟨by rfl,?_⟩) hHeld ?_;rotate_left
         ·intro w' hSw;obtain ⟨hS1,hS2,ig,pW,hS5,wT,Ce,EK,EL,pX⟩:=hSw;go_simp
          try with_reducible rfl
         try simp only[Act.put,zzA,zzE,zzF,yo,UM,zzD]
         refine tkY 13 ?_ rfl (Or.inl ⟨by rfl,?_⟩) hHeld ?_;rotate_left
         ·intro w' hSw;go_simp
          try with_reducible rfl
         try simp only[Act.put,zzA,zzE,zzF,yo,UM,zzD]
         refine tkY 14 ?_ rfl (Or.inl ⟨by rfl,?_⟩) hHeld ?_;rotate_left
         ·intro w' hSw;go_simp
          try with_reducible rfl
         try simp only[Act.put,zzA,zzE,zzF,yo,UM,zzD]
         refine tkY 15 ?_ rfl (Or.inl ⟨by rfl,?_⟩) hHeld ?_;rotate_left
         ·intro w' hSw;go_simp
          try with_reducible rfl
         try simp only[Act.put,zzA,zzE,zzF,yo,UM,zzD]
         refine tkX [18] 16 ?_ rfl (Or.inl ⟨by rfl,?_⟩) hHeld ?_;rotate_left
         ·intro w' hSw;obtain ⟨hS1,hS2,ig,pW,hS5,wT,Ce,EK,EL,pX⟩:=hSw;go_simp
          try with_reducible rfl
         try simp only[Act.put,zzA,zzE,zzF,yo,UM,zzD]
         refine tkX [18] 17 ?_ rfl (Or.inl ⟨by rfl,?_⟩) hHeld ?_;rotate_left
         ·intro w' hSw;obtain ⟨hS1,hS2,ig,pW,hS5,wT,Ce,EK,EL,pX⟩:=hSw;go_simp
          try with_reducible rfl
         try simp only[Act.put,zzA,zzE,zzF,yo,UM,zzD]
         refine aQ (i:=18) rfl (by kernel_rfl) (by kernel_rfl) (by rfl) (fun K hK=> ?_);go_simp;refine (Zd.out _).mono ?_;rintro e2 w3 ⟨rfl,hb2⟩;refine hK _ _ ?_;clear hK K
         try simp only[Act.put,zzA,zzE,zzF,yo,UM,zzD]
         refine tkZ 19 ?_ rfl (Or.inl ⟨by rfl,?_⟩) ?_;rotate_left
         ·intro w' hSw;go_simp
          try with_reducible rfl
         try simp only[Act.put,zzA,zzE,zzF,yo,UM,zzD]
         refine tkZ 20 ?_ rfl (Or.inl ⟨by rfl,?_⟩) ?_;rotate_left
         ·intro w' hSw;go_simp
          try with_reducible rfl
         try simp only[Act.put,zzA,zzE,zzF,yo,UM,zzD]
         refine tkZ 21 ?_ rfl (Or.inl ⟨by rfl,?_⟩) ?_;rotate_left
         ·intro w' hSw;go_simp
          try with_reducible rfl
         try simp only[Act.put,zzA,zzE,zzF,yo,UM,zzD]
         refine aU (by kernel_rfl) ?_ _;clear hwk;go_wp2;go_ret;have hbz:Below w1.heap.size w1 w3:=hbx.trans (hb2.mono hbx.size);exact ⟨rfl,Cq.out.trans ((hbW.trans (hbz.mono hbW.size)).mono Cq.out.size)⟩
        |true=>
         rw[hF] at Zd;have HF:=Lib.hid hF;clear hF;refine bM (fun w'=>w'.cell? ⟨w.heap.size,0,none⟩=some (.int .i64 aI)∧w'.cell? ⟨w.heap.size,1,none⟩=some (.slice (some ad) n c)∧w'.cell? ⟨wr.heap.size,0,none⟩=some (.int .i64 x.sn)∧w'.cell? ⟨wr.heap.size,1,none⟩=some (.bool x.part)∧w'.cell? ⟨wr.heap.size,2,none⟩=some (.int .i64 x.fr)∧w'.cell? ⟨wr.heap.size,3,none⟩=some (.int .i64 x.lt)∧w'.cell? (ad.add (k*4))=some (.int .i64 m.sn)∧w'.cell? ⟨(ad.add (k*4)).block,(ad.add (k*4)).off+1,none⟩=some (.bool m.part)∧w'.cell? ⟨(ad.add (k*4)).block,(ad.add (k*4)).off+2,none⟩=some (.int .i64 m.fr)∧w'.cell? ⟨(ad.add (k*4)).block,(ad.add (k*4)).off+3,none⟩=some (.int .i64 m.lt)) [18] (by kernel_rfl) ?_;have hHeld:=HS.out _ (Below.refl w1.heap.size w1).drew;refine tkY 0 ?_ rfl (Or.inl ⟨by rfl,?_⟩) hHeld ?_;rotate_left
         ·intro w' hSw;go_simp
          try with_reducible rfl
         try simp only[Act.put,zzA,zzE,yo,UM,zzD]
         refine tkX [18,8,5,4,3] 1 ?_ rfl (Or.inl ⟨by rfl,?_⟩) hHeld ?_;rotate_left
         ·intro w' hSw;obtain ⟨hS1,hS2,ig,pW,hS5,wT,Ce,EK,EL,pX⟩:=hSw;go_simp
          try with_reducible rfl
         try simp only[Act.put,zzA,zzE,zzF,yo,UM,zzD]
         refine tkX [18,8,5,4,3] 2 ?_ rfl (Or.inl ⟨by rfl,?_⟩) hHeld ?_;rotate_left
         ·intro w' hSw;obtain ⟨hS1,hS2,ig,pW,hS5,wT,Ce,EK,EL,pX⟩:=hSw;go_simp
          try with_reducible rfl
         try simp only[Act.put,zzA,zzE,zzF,yo,UM,zzD]
         refine bu (i:=3) rfl (by kernel_rfl) (by rfl) (fun K hK=> ?_);go_simp;refine (xB.out _).mono ?_;rintro e1 w2 ⟨rfl,hb1⟩;have hbx:Below w1.heap.size w1 w2:=(Below.refl w1.heap.size w1).drew.trans hb1;refine hK _ _ (HS.out _ hbx) ?_;clear hK K hHeld;have hHeld:=(HS.out _ hbx)
         try simp only[Act.put,zzA,zzE,zzF,yo,UM,zzD]
         refine tkY 4 ?_ rfl (Or.inl ⟨by rfl,?_⟩) hHeld ?_;rotate_left
         ·intro w' hSw;go_simp
          try with_reducible rfl
         try simp only[Act.put,zzA,zzE,zzF,yo,UM,zzD]
         refine tkY 5 ?_ rfl (Or.inl ⟨by rfl,?_⟩) hHeld ?_;rotate_left
         ·intro w' hSw;go_simp
          try with_reducible rfl
         try simp only[Act.put,zzA,zzE,zzF,yo,UM,zzD]
         refine tkY 6 ?_ rfl (Or.inl ⟨by rfl,?_⟩) hHeld ?_;rotate_left
         ·intro w' hSw;go_simp
          try with_reducible rfl
         try simp only[Act.put,zzA,zzE,zzF,yo,UM,zzD]
         refine tkY 7 ?_ rfl (Or.inl ⟨by rfl,?_⟩) hHeld ?_;rotate_left
         ·intro w' hSw;go_simp
          try with_reducible rfl
         try simp only[Act.put,zzA,zzE,zzF,yo,UM,zzD]
         refine tkY 8 ?_ rfl (Or.inl ⟨by rfl,?_⟩) hHeld ?_;rotate_left
         ·intro w' hSw;go_simp
          try with_reducible rfl
         try simp only[Act.put,zzA,zzE,zzF,yo,UM,zzD]
         refine tkY 9 ?_ rfl (Or.inl ⟨by rfl,?_⟩) hHeld ?_;rotate_left
         ·intro w' hSw;go_simp
          try with_reducible rfl
         try simp only[Act.put,zzA,zzE,zzF,yo,UM,zzD]
         refine tkX [18] 10 ?_ rfl (Or.inl ⟨by rfl,?_⟩) hHeld ?_;rotate_left
         ·intro w' hSw;obtain ⟨hS1,hS2,ig,pW,hS5,wT,Ce,EK,EL,pX⟩:=hSw;go_simp
          try with_reducible rfl
         try simp only[Act.put,zzA,zzE,zzF,yo,UM,zzD]
         refine tkY 11 ?_ rfl (Or.inl ⟨by rfl,?_⟩) hHeld ?_;rotate_left
         ·intro w' hSw;go_simp
          try with_reducible rfl
         try simp only[Act.put,zzA,zzE,zzF,yo,UM,zzD]
         refine tkX [18,16,15] 12 ?_ rfl (Or.inl ⟨by rfl,?_⟩) hHeld ?_;rotate_left
         ·intro w' hSw;obtain ⟨hS1,hS2,ig,pW,hS5,wT,Ce,EK,EL,pX⟩:=hSw;go_simp
          try with_reducible rfl
         try simp only[Act.put,zzA,zzE,zzF,yo,UM,zzD]
         refine tkY 13 ?_ rfl (Or.inl ⟨by rfl,?_⟩) hHeld ?_;rotate_left
         ·intro w' hSw;go_simp
          try with_reducible rfl
         try simp only[Act.put,zzA,zzE,zzF,yo,UM,zzD]
         refine tkY 14 ?_ rfl (Or.inl ⟨by rfl,?_⟩) hHeld ?_;rotate_left
         ·intro w' hSw;go_simp
          try with_reducible rfl
         try simp only[Act.put,zzA,zzE,zzF,yo,UM,zzD]
         refine tkY 15 ?_ rfl (Or.inl ⟨by rfl,?_⟩) hHeld ?_;rotate_left
         ·intro w' hSw;go_simp
          try with_reducible rfl
         try simp only[Act.put,zzA,zzE,zzF,yo,UM,zzD]
         refine tkX [18] 16 ?_ rfl (Or.inl ⟨by rfl,?_⟩) hHeld ?_;rotate_left
         ·intro w' hSw;obtain ⟨hS1,hS2,ig,pW,hS5,wT,Ce,EK,EL,pX⟩:=hSw;go_simp
          try with_reducible rfl
         try simp only[Act.put,zzA,zzE,zzF,yo,UM,zzD]
         refine tkX [18] 17 ?_ rfl (Or.inl ⟨by rfl,?_⟩) hHeld ?_;rotate_left
         ·intro w' hSw;obtain ⟨hS1,hS2,ig,pW,hS5,wT,Ce,EK,EL,pX⟩:=hSw;go_simp
          try with_reducible rfl
         try simp only[Act.put,zzA,zzE,zzF,yo,UM,zzD]
         refine aQ (i:=18) rfl (by kernel_rfl) (by kernel_rfl) (by rfl) (fun K hK=> ?_);go_simp;refine (Zd.out _).mono ?_;rintro e2 w3 ⟨rfl,hb2⟩;refine hK _ _ ?_;clear hK K
         try simp only[Act.put,zzA,zzE,zzF,yo,UM,zzD]
         refine tkZ 19 ?_ rfl (Or.inl ⟨by rfl,?_⟩) ?_;rotate_left
         ·intro w' hSw;go_simp
          try with_reducible rfl
         try simp only[Act.put,zzA,zzE,zzF,yo,UM,zzD]
         refine tkZ 20 ?_ rfl (Or.inl ⟨by rfl,?_⟩) ?_;rotate_left
         ·intro w' hSw;go_simp
          try with_reducible rfl
         try simp only[Act.put,zzA,zzE,zzF,yo,UM,zzD]
         refine tkZ 21 ?_ rfl (Or.inl ⟨by rfl,?_⟩) ?_;rotate_left
         ·intro w' hSw;go_simp
          try with_reducible rfl
         try simp only[Act.put,zzA,zzE,zzF,yo,UM,zzD]
         refine aU (by kernel_rfl) ?_ _;clear hwk;go_wp2
         go_roundw
         case rel=>
          have hbz:Below w1.heap.size w1 w3:=hbx.trans (hb2.mono hbx.size);refine ⟨k+1+1,by omega,by go_num,hbW.trans (hbz.mono hbW.size),fun j hj=> ?_⟩;rcases Nat.lt_or_ge j (k+1) with h1|h1
          ·exact lT.out j h1
          ·obtain rfl:j=k+1:=by omega
           intro y hy;rw[HX.out] at hy;cases hy;refine ⟨HA.out,fun z _ hz=> ?_⟩;rw[show k+1-1=k by omega,HM.out] at hz;cases hz;exact HF.out
         case measure=>simp[intOf];omega
     ·have hRt:R=true:=by
       rw[←HR2.out,jX];intro j m hm;have:=(List.getElem?_eq_some_iff.1 hm).1;exact lT.out j (by have:=HL.out;omega) m hm
      subst hRt;go_wp2;go_ret;exact ⟨rfl,Cq.out.trans (hb.mono Cq.out.size)⟩
   ·have Rl:R=false:=by rw[←HR.out];simp[bU,hlen];omega
    subst Rl;have d5:decide (512<n)=true:=decide_eq_true (by omega);have HL:=Lib.hid hlen;clear hlen h;go_enter Tryz.func27,Tryz.ntmps27;go_wp2;go_ret;exact ⟨rfl,(Below.refl w.heap.size w).alloc (Nat.le_refl _) _⟩
  ·have Rl:R=false:=by rw[←HR.out];simp[bU];omega
   subst Rl;have d1:decide (1023<aI)=true:=decide_eq_true (by omega);clear hlen h;go_enter Tryz.func27,Tryz.ntmps27;go_wp2;go_ret;exact ⟨rfl,(Below.refl w.heap.size w).alloc (Nat.le_refl _) _⟩
 ·have Rl:R=false:=by rw[←HR.out];simp[bU];omega
  subst Rl;have d0:decide (aI<0)=true:=decide_eq_true (by omega);clear hlen h;go_enter Tryz.func27,Tryz.ntmps27;go_wp2;go_ret;exact ⟨rfl,(Below.refl w.heap.size w).alloc (Nat.le_refl _) _⟩
end
end
section
open Go.RowKit Go.Shelf
structure FT (B:Nat) (J:Nat→World→Prop):Prop where
 own:OwnFrom B J
 fresh:∀k A A',J k A→Below A.heap.size A A'→J k A'
theorem FT.mono {B B':Nat} {J:Nat→World→Prop} (h:FT B J) (hB:B≤B'):FT B' J:=
 ⟨fun s A A' row hs hg hr=>h.own s A A' row hs hg (fun r e=>⟨Nat.le_trans hB (hr r e).1,(hr r e).2⟩),h.fresh⟩
def Kl (n:Nat) (P:Program) (g:Nat) (lb:Array Value) (vals:Nat→Array Value) (N:Nat) (Kp:World→World→Prop) (w:World):Prop:=
 ∀(l:Nat) (J:Nat→World→Prop) (W:World),Below w.heap.size w W→w.heap.size+2≤W.heap.size→FT W.heap.size J→
  (∀k W1,k<N→J k W1→YieldAt Fence.wide (n-1) P l (vals k) W1 fun e W'=>e= .returned (.bool true)∧J (k+1) W'∧Kp W1 W')→J 0 W→
  CallsIn Fence.wide n P g (#[.func (.yield l) #[] #[]]++lb) W fun e W'=>(∃v,e= .returned v)∧J N W'
def Jh (B:Nat) (Kp:World→World→Prop) (I:Nat→World→Prop) (k:Nat) (W0 W:World):Exit→Act→World→Prop
 | .normal,_,W'=>KeepsFrom B W W'∧Kp W0 W'∧I k W'
 |_,_,_=>False
theorem Rm (k:Nat):Fence.wide.room k:=fun d h=>by cases h
variable {n:Nat} {P:Program}
theorem RoundIn.ix {m m':Nat} {P:Program} {l l':Nat} {f:FuncId} {tmps:Array Value} {assign body:Code} {w:World} {R:Ending→World→Prop}
 (h:RoundIn Fence.wide m P l f tmps assign body w R):RoundIn (Fence.wide.inRound l') m' P l f tmps assign body w R:=⟨h.1,fun c cs _=>h.2 c cs (Rm _)⟩
theorem nD {g:Operand} {ps:Array Tmp} {assign body:Code} {Q:Exit→Act→World→Prop} {a:Act} {w:World}
 {gf:Nat} {lb:Array Value} (hg:a.eval g= .func (.func gf) #[] lb) (eg:∀args w,(callFunc gf args).run P w= .ok (.enter gf args) w)
 {vals:Nat→Array Value} {N:Nat} {Kp:World→World→Prop} {w0:World} (hseq:Kl (n-1) P gf lb vals N Kp w0)
 (hKt:∀{A B C:World},Kp A B→Kp B C→Kp A C) (hKb:∀(W:World) (o o':Obj),W.heap[w.heap.size+1]? =some o→o.isCells=false→Kp W (W.putObj (w.heap.size+1) o')) (hb0:Below w0.heap.size w0 w)
 (hps:∀k,(vals k).size=ps.size) (I:Nat→World→Prop) (hI:FT w.heap.size I) (h0:I 0 w)
 (VA:∀(l k:Nat) (W:World),k<N→I k W→(∃o,W.heap[w.heap.size+1]? =some o∧o.isCells=false)→
  assign.wpIn (Fence.wide.inRound l) (n-1-1) P (Exit.then (fun a' W'=>KeepsFrom w.heap.size W W'∧
   ∀W2 o',W2=W'.putObj (w.heap.size+1) o'→body.wpIn (Fence.wide.inRound l) (n-1-1) P (Jh w.heap.size Kp I (k+1) W W2) a' W2) (fun _ _ _=>False))
   {tmps:=(ps.zip (vals k)).foldl (fun t (p,v)=>t.setIfInBounds p v) a.tmps,defers:= []} W)
 (hdone:∀(D:Nat) (W:World),w.heap.size≤D→I N W→W.heap[D]? =some (.deferred (some []))→Q .normal {a with defers:= {target:= .collected D,args:= #[]}::a.defers} W):
 (Code.rangeFunc g ps assign body).wpIn Fence.wide n P Q a w:=by
 refine wpIn_rangeFunc fun fn hfn=> ?_
 rw[show Fence.wide.round=none from rfl]
 let R:LoopState→Loop:=fun st=> {state:=st,pending:=none,fn,tmps:=a.tmps,params:=ps,assign,body,defers:=w.heap.size}
 let W1:=(w.alloc (.deferred (some []))).alloc (.loop (R .ready))
 have hsz:W1.heap.size=w.heap.size+2:=by simp[W1]
 have hL1:W1.heap[w.heap.size+1]? =some (.loop (R .ready)):=by
  have:=World.alloc_heap_new (w.alloc (.deferred (some []))) (.loop (R .ready));rwa [World.size_alloc] at this
 have hD1:W1.heap[w.heap.size]? =some (.deferred (some [])):=(Below.heap_alloc _ _ _ (by simp)).trans (World.alloc_heap_new w _);have hBW:Below w0.heap.size w0 W1:=hb0.trans ((((Below.refl _ w).alloc (Nat.le_refl _) _).alloc (by simp) _).mono hb0.size)
 let J:Nat→World→Prop:=fun k W=>I k W∧W.heap[w.heap.size+1]? =some (.loop (R .ready))∧W.heap[w.heap.size]? =some (.deferred (some []))
 have hJ:FT W1.heap.size J:=by
  refine ⟨fun k A B row hs hgr hr=> ?_,fun k A A' hs hb=> ?_⟩
  ·refine ⟨hI.own k A B row hs.1 hgr (fun r e=>⟨by have:=(hr r e).1;omega,(hr r e).2⟩),?_,?_⟩
   ·exact (hgr.block _ (Array.getElem?_eq_some_iff.1 hs.2.1).1 (fun e=>by have:=(hr _ e.symm).1;omega)).trans hs.2.1
   ·exact (hgr.block _ (Array.getElem?_eq_some_iff.1 hs.2.2).1 (fun e=>by have:=(hr _ e.symm).1;omega)).trans hs.2.2
  ·exact ⟨hI.fresh k A A' hs.1 hb,(hb.block _ (Array.getElem?_eq_some_iff.1 hs.2.1).1).trans hs.2.1,(hb.block _ (Array.getElem?_eq_some_iff.1 hs.2.2).1).trans hs.2.2⟩
 refine ⟨w.heap.size+1,[{target:= .collected w.heap.size,args:= #[]}],W1,{target:= .fn (.func gf) lb,args:= #[.func (.yield (w.heap.size+1)) #[] #[]]},W1,gf,
  #[.func (.yield (w.heap.size+1)) #[] #[]]++lb,W1,run_enterLoop_outer _ _ _ _ _,?_,?_,?_,(fun hh=>(by cases hh)),?_⟩
 ·simp only[resolve,hg];simp[go_sem]
 ·intro f' hf';simp[Target.leads] at hf';subst hf';exact trivial
 ·simp[invoke,go_sem,eg]
 refine (hseq (w.heap.size+1) J W1 hBW (by have:=hb0.size;omega) hJ (fun k W hk hjk=> ?_) ⟨hI.fresh _ _ _ h0 (((Below.refl _ w).alloc (Nat.le_refl _) _).alloc (by simp) _),hL1,hD1⟩).mono ?_
 ·
  obtain ⟨hi,hl,hd⟩:=hjk;refine ⟨fn,_,assign,body,run_yield (P:=P) (args:=vals k) hl (hps k),roundIn_of_wpIn hfn ?_⟩;refine wpIn_mono (VA _ k W hk hi ⟨_,hl,rfl⟩) ?_;rintro ex a2 W2 hp;cases ex with
  |normal=>
   obtain ⟨hk2,hbd⟩:=hp;have hl2:=hk2.same _ _ (by omega) hl rfl;have hd2:=hk2.same _ _ (Nat.le_refl _) hd rfl;refine ⟨_,run_beginRound hl2 rfl,?_⟩;have hlb:(W2.putObj (w.heap.size+1) (.loop (R .busy))).heap[w.heap.size+1]? =some (.loop (R .busy)):=World.putObj_heap_same (Array.getElem?_eq_some_iff.1 hl2).1;have hdb:(W2.putObj (w.heap.size+1) (.loop (R .busy))).heap[w.heap.size]? =some (.deferred (some [])):=(World.putObj_heap_other (by omega)).trans hd2;refine wpIn_mono (hbd _ _ rfl) ?_;rintro ex a3 W3 hp;cases ex with
   |normal=>
    obtain ⟨hk3,hkp,hi3⟩:=hp;have hl3:=hk3.same _ _ (by omega) hlb rfl;have hd3:=hk3.same _ _ (Nat.le_refl _) hdb rfl;refine ⟨_,_,run_endRound (P:=P) none hl3,rfl,⟨hI.own.putObj _ hi3 (by omega) hl3 rfl,World.putObj_heap_same (Array.getElem?_eq_some_iff.1 hl3).1,(World.putObj_heap_other (by omega)).trans hd3⟩,?_⟩;exact hKt hkp (hKb _ _ _ hl3 rfl)
   |ret=>exact hp.elim
   |exit id=>exact hp.elim
   |goto t=>exact hp.elim
   |panic ch=>exact hp.elim
   |outgrown=>exact hp.elim
  |ret=>exact hp.elim
  |exit id=>exact hp.elim
  |goto t=>exact hp.elim
  |panic ch=>exact hp.elim
  |outgrown=>exact hp.elim
 ·rintro e W2 ⟨⟨v,rfl⟩,hi,hl,hd⟩;exact ⟨none,_,run_endLoop (P:=P) hl (by simp[R]),hdone _ _ (Nat.le_refl _) (hI.own.putObj _ hi (by omega) hl rfl) ((World.putObj_heap_other (by omega)).trans hd)⟩
end
section
open Go.RowKit Go.Shelf
attribute [local go_sem] Oper.semAt_some
theorem cell_of_heap {w w':World} {b:Nat} (h:w'.heap[b]? =w.heap[b]?) (off:Nat) (x:Option Nat):w'.cell? ⟨b,off,x⟩=w.cell? ⟨b,off,x⟩:=World.cell?_of_block (a:=⟨b,off,x⟩) h
theorem bP.same {w w':World} {A:Option Addr} {n c:Nat} {l:List Nk} (h:bP w A n c l) (hs:w.heap.size≤w'.heap.size) (hb:∀ad,A=some ad→w'.heap[ad.block]? =w.heap[ad.block]?):bP w' A n c l:=
 ⟨h.len,h.cap,h.mx,fun hn=>by
  obtain ⟨ad,e,hlt,hc⟩:=h.at_ hn;refine ⟨ad,e,Nat.lt_of_lt_of_le hlt hs,fun j r hr=> ?_⟩;obtain ⟨k0,k1,k2,k3⟩:=hc j r hr;have hbk:w'.heap[(ad.add (j*4)).block]? =w.heap[(ad.add (j*4)).block]? :=by rw[block_add];exact hb ad e
  exact ⟨(World.cell?_of_block (a:=ad.add (j*4)) hbk).trans k0,(cell_of_heap hbk _ _).trans k1,(cell_of_heap hbk _ _).trans k2,(cell_of_heap hbk _ _).trans k3⟩⟩
theorem bP.kept {w w':World} {A:Option Addr} {n c:Nat} {l:List Nk} {M:Nat→Obj→Prop} (h:bP w A n c l) (hk:Kept M w w') (hM:∀ad,A=some ad→∀o,¬M ad.block o) (hlt:∀ad,A=some ad→ad.block<w.heap.size):bP w' A n c l:=
 h.same hk.size fun ad e=>by
  have hl:=hlt ad e;have h1:=Array.getElem?_eq_getElem hl;rw[hk.same _ _ h1 (hM ad e _),h1]
theorem Kept.fq {M:Nat→Obj→Prop} {w w':World} (h:Below w.heap.size w w'):Kept M w w':=
 ⟨h.os,h.tape,h.output,h.size,fun k _o hk _=>(h.block k (Array.getElem?_eq_some_iff.1 hk).1).trans hk⟩
def xI (l:List Nk) (k:Nat):Array Value:= #[.int .i64 (k:Int),match l[k]? with
 |some x=> .agg (lm x)
 |none=>undef]
set_option maxRecDepth 100000 in
set_option maxHeartbeats 2000000 in
theorem Rn (n:Nat) (g:Nat) (A:Option Addr) (N c:Nat) (l:List Nk) (M:Nat→Obj→Prop) (w:World)
 (hg:aA w g 40 #[.slice A N c]) (hv:bP w A N c l) (hlo:∀ad,A=some ad→ad.block<w.heap.size) (hMg:¬M g (.cells #[.slice A N c] 40 (0,0))) (MZ:∀ad,A=some ad→∀o,¬M ad.block o):
 Kl n Tryz.prog 173 #[.pointer (some ⟨g,0,none⟩)] (xI l) N (Kept M) w:=fun p J W hW _ hJ hY h0=>by
 have hg':=hg.below hW hg.lt;have hv':=hv.below hW;have hlt':∀ad,A=some ad→ad.block<W.heap.size:=fun ad e=>Nat.lt_of_lt_of_le (hlo ad e) hW.size
 have hvk:∀wr,Kept M W wr→bP wr A N c l:=fun wr hk=>hv'.kept hk MZ hlt'
 have UD:=Lib.hid hvk;have HY:=Lib.hid hY;have HJ:=Lib.hid hJ;have hlen:=hv.len;have hcap:=hv.cap;have hmx:=hv.mx;have HL:=Lib.hid hlen;clear hvk hY hJ hlen;refine callsIn_of_wp Tryz.func173 rfl trivial ?_ rfl;simp only[Tryz.ntmps173,List.size_toArray,List.length_cons,List.length_nil,Nat.reduceAdd,Nat.reduceSub,Array.replicate_succ,Array.replicate_zero,List.push_toArray,List.append_toArray,List.nil_append,List.cons_append];have hcw:=hg'.cell 0;simp at hcw
 gi_wp2
 gi_loopw [7] (fun i wr=>∃k:Nat,k≤N∧i= .int .i64 k∧J k wr∧Kept M W wr) (fun i _=>N-(intOf i).toNat)
 case atStart=>exact ⟨0,Nat.zero_le _,by simp,h0,Kept.refl _ _⟩
 case round=>
  obtain ⟨k,hk,rfl,hJs,hnx⟩:=hrel;by_cases hlt:k<N
  ·obtain ⟨x,hx⟩:∃x,l[k]? =some x:=⟨_,List.getElem?_eq_getElem (by have:=HL.out;omega)⟩
   have M0:=UD.out wr hnx;obtain ⟨ad,rfl,ND,hcl⟩:=M0.at_ (by omega);obtain ⟨k0,k1,k2,k3⟩:=hcl k x hx;clear hcl M0;have b1:=aA.new wr 116 (lm x);have y0:(wr.alloc (.cells (lm x) 116)).cell? ⟨wr.heap.size,0,none⟩=some (.int .i64 x.sn):=b1.cell 0;have y1:(wr.alloc (.cells (lm x) 116)).cell? ⟨wr.heap.size,1,none⟩=some (.bool x.part):=b1.cell 1;have y2:(wr.alloc (.cells (lm x) 116)).cell? ⟨wr.heap.size,2,none⟩=some (.int .i64 x.fr):=b1.cell 2;have y3:(wr.alloc (.cells (lm x) 116)).cell? ⟨wr.heap.size,3,none⟩=some (.int .i64 x.lt):=b1.cell 3;have hbw:Below wr.heap.size wr (wr.alloc (.cells (lm x) 116)):=(Below.refl _ wr).alloc (Nat.le_refl _) _;have EF:=HY.out k _ hlt (HJ.out.fresh k wr _ hJs hbw);have hnx2:Kept M W (wr.alloc (.cells (lm x) 116)):=hnx.trans (Kept.fq hbw);have Ak:=Lib.hid hnx2;have HX:=Lib.hid hx;unfold xI at EF;rw[hx] at EF;unfold lm at*;obtain ⟨fn,tmps,assign,body,hy,hR⟩:=EF;simp only[] at hy;clear b1 hx hnx2 hbw hnx
   gi_wp2
   refine ⟨fun hh=>(by cases hh),hR.mono ?_⟩;rintro e W3 ⟨rfl,hJ3,hk3⟩
   gi_wp2
   go_roundw
   case rel=>exact ⟨k+1,by omega,by go_num,hJ3,Ak.out.trans hk3⟩
   case measure=>simp[intOf];omega
  ·have e:k=N:=by omega
   have Dl:J N wr:=by rw[e] at hJs;exact hJs
   clear e hJs
   gi_wp2
   go_end0
   exact ⟨⟨_,rfl⟩,Dl⟩
end
end Go.Proofs.YtiecgfahidpldaaGreat
