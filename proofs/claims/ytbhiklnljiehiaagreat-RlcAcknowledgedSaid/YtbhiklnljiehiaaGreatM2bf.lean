/- amrecv: State, Pending, Tick; the method. -/
import Derived.Test.YtbhiklnljiehiaaGreatM2bb
namespace Go.Proofs.YtbhiklnljiehiaaGreat
section
open Go.RowKit Go.Shelf
attribute [local go_sem] Oper.semAt_some
section
variable {w w':World} {T:Nat→Nat} {g M n:Nat} {c:Cf} {st:Rc} {vo:Value}
set_option maxRecDepth 100000 in
set_option maxHeartbeats 1000000 in
theorem EK (h:gI w T g M n c st vo) (now:Int):
 Calls Tryz.prog 53 #[.pointer (some ⟨g,0,none⟩),.int .i64 now] w fun e w'=>e= .returned (.bool (rG st now))∧Below w.heap.size w w':=by
 have hno:Calls Tryz.prog 79 #[.pointer (some ⟨g,0,none⟩)] w.drew fun e w'=>e= .returned (.bool false)∧w'=w.drew:=(nE h.drew).mono fun _ _ hh=>⟨hh.1,hh.2.symm⟩
 have J2:=ah hno;have jZ:Tryz.prog.follows .mixedOrders=true:=by kernel_rfl
 obtain ⟨x3,x4,x7,x8,x9,x10,vF,FB,Q8,CB,Sv,Q9,OZ,x18⟩:=h.cells;clear h hno x3 x4 x7 x8 x9 x10 vF FB Q8 OZ x18;have hfin:rG st now=(st.due&&decide (st.D8≤(if st.now<now then now else st.now))):=by
  unfold rG
  congr 2
  split<;>split<;>simp<;>omega
 rw[hfin];have HF:=ah hfin;clear hfin HF;cases hd:st.due with
 |false=>
  rw[hd] at CB;clear hd;go_enter Tryz.func53,Tryz.ntmps53;go_wp2_with fail;refine wp_region_still_lit jZ (by kernel_rfl) ?_
  still_step
  still_call J2.out
  repeat (with_reducible refine wpStill_step (fun K hK=> ?_);go_simp;with_reducible refine hK _ ?_;clear hK K)
  with_reducible refine wpStill_nil ?_
  go_wp2
  all_goals
   go_ret;exact ⟨rfl,(Below.refl _ w).drew⟩
 |true=>
  rw[hd] at CB;clear hd;go_enter Tryz.func53,Tryz.ntmps53;go_wp2_with fail;refine wp_region_still_lit jZ (by kernel_rfl) ?_
  still_step
  still_call J2.out
  repeat (with_reducible refine wpStill_step (fun K hK=> ?_);go_simp;with_reducible refine hK _ ?_;clear hK K)
  with_reducible refine wpStill_nil ?_
  go_wp2
  all_goals
   go_ret;refine ⟨congrArg (fun b=>Ending.returned (.bool b)) ?_,(Below.refl _ w).drew⟩
   first
   |rfl
   |(refine decide_eq_decide.2 ?_;omega)
set_option maxHeartbeats 1000000 in
theorem Na (h:gI w T g M n c st vo) (ho:dP st) (hcf:YZ c) (now:Int) (hn:now≤9223372036854775807):
 Calls Tryz.prog 52 #[.pointer (some ⟨g,0,none⟩),.int .i64 now] w fun e w'=>e= .returned (.int .i64 0)∧gI w' T g M n c (dI c st now) vo∧Kept (MT T) w w':=by
 have J2:=ah (nE h);have rH:=ah (wm h ho hcf now hn);clear h ho hcf;go_enter Tryz.func52,Tryz.ntmps52;go_wp2_with (first
  |(go_at_call 79;refine J2.out.mono ?_;rintro e1 w1 ⟨rfl,rfl⟩)
  |(go_at_call 80;refine rH.out.mono ?_;rintro e2 w2 ⟨rfl,hR,hK⟩))
 go_ret;exact ⟨rfl,hR,hK⟩
end
end
section
open Go.RowKit Go.Shelf
attribute [local go_sem] Oper.semAt_some
def outside (lo hi x:Int):Bool:=decide (x<lo)||decide (hi<x)
def ints (xs:List Int):List Value:=xs.map (Value.int .i64)
def U9 (b:Bool) (w:World) (e:Ending) (w':World):Prop:=((∃k:Nat,e= .returned (.int .i64 k)∧b=true)∨(e= .returned (.int .i64 (-1))∧b=false))∧w=w'
theorem Ep (lo hi x:Int) (a b:Nat) (w:World) (ha:w.cell? ⟨a,0,none⟩=some (.int .i64 lo)) (hb:w.cell? ⟨b,0,none⟩=some (.int .i64 hi)):Calls Tryz.prog 199 #[.int .i64 x,.pointer (some ⟨a,0,none⟩),.pointer (some ⟨b,0,none⟩)] w fun e w'=>e= .returned (.bool (outside lo hi x))∧w=w':=by
 by_cases h1:x<lo
 ·have e1:outside lo hi x=true:=by simp[outside,h1]
  have H1:=ah e1;clear e1;go_enter Tryz.func199,Tryz.ntmps199;go_wp2;go_ret;exact ⟨bI H1.out.symm,rfl⟩
 ·have h1':decide (x<lo)=false:=by simpa using h1
  have e1:decide (hi<x)=outside lo hi x:=by simp[outside,h1']
  have H1:=ah e1;clear e1;go_enter Tryz.func199,Tryz.ntmps199;go_wp2;go_ret;exact ⟨bI H1.out,rfl⟩
theorem Er (lo hi:Int) (a b r n:Nat) (xs:List Int) (w:World) (hn:xs.length=n) (hsm:n≤1000) (hr:au w r 3 (ints xs).toArray) (ha:w.cell? ⟨a,0,none⟩=some (.int .i64 lo)) (hb:w.cell? ⟨b,0,none⟩=some (.int .i64 hi)):
 Calls Tryz.prog 219 #[.slice (some ⟨r,0,none⟩) n n,.func (.func 199) #[] #[.pointer (some ⟨a,0,none⟩),.pointer (some ⟨b,0,none⟩)]] w (U9 (xs.any (outside lo hi)) w):=by
 have HC:=ah fun x=>Ep lo hi x a b w ha hb
 have HL:=ah hn;clear hn ha hb;go_enter Tryz.func219,Tryz.ntmps219;go_wp2
 go_loop [8] (fun i=>∃k:Nat,k≤n∧i= .int .i64 k∧(xs.take k).any (outside lo hi)=false) (fun i=>n-(intOf i).toNat)
 case atStart=>exact ⟨0,Nat.zero_le _,rfl,by simp⟩
 case round=>
  obtain ⟨k,hk,rfl,hall⟩:=hrel;have HA:=ah hall;clear hall;by_cases hlt:k<n
  ·have hkl:k<xs.length:=by rw[HL.out];exact hlt
   obtain ⟨x,hx⟩:∃x,xs[k]? =some x:=⟨_,List.getElem?_eq_getElem hkl⟩
   have hcell:=hr.cell k;rw[List.getElem?_toArray,ints,List.getElem?_map,hx] at hcell;simp at hcell;have htk:xs.take (k+1)=xs.take k++ [x]:=by rw[List.take_add_one,hx];rfl
   have hin:x∈xs:=List.mem_of_getElem? hx;have HT:=ah htk;have HI:=ah hin;have hcx:=HC.out x;clear htk hin hkl hx;cases hq:outside lo hi x with
   |false=>
    rw[hq] at hcx;have HQ:=ah hq;have HX:=ah hcx;clear hq hcx;go_wp2_with (go_at_call 199;refine HX.out.mono ?_;rintro e w' ⟨rfl,rfl⟩)
    go_round
    case rel=>exact ⟨k+1,by omega,by go_num,by rw[HT.out,List.any_append,HA.out];simp[HQ.out]⟩
    case measure=>simp[intOf];omega
   |true=>
    rw[hq] at hcx;have HQ:=ah hq;have HX:=ah hcx;clear hq hcx;go_wp2_with (go_at_call 199;refine HX.out.mono ?_;rintro e w' ⟨rfl,rfl⟩);go_ret;exact ⟨.inl ⟨k,rfl,by rw[List.any_eq_true];exact ⟨x,HI.out,HQ.out⟩⟩,rfl⟩
  ·have e:xs.take k=xs:=List.take_of_length_le (by rw[HL.out];omega);have hA:=HA.out;rw[e] at hA;have xP:=ah hA;clear hA e;go_wp2;go_ret;exact ⟨.inr ⟨rfl,xP.out⟩,rfl⟩
theorem sQ (lo hi:Int) (a b r n:Nat) (xs:List Int) (w:World) (hn:xs.length=n) (hsm:n≤1000) (hr:au w r 3 (ints xs).toArray) (ha:w.cell? ⟨a,0,none⟩=some (.int .i64 lo)) (hb:w.cell? ⟨b,0,none⟩=some (.int .i64 hi)):
 Calls Tryz.prog 198 #[.slice (some ⟨r,0,none⟩) n n,.func (.func 199) #[] #[.pointer (some ⟨a,0,none⟩),.pointer (some ⟨b,0,none⟩)]] w fun e w'=>e= .returned (.bool (xs.any (outside lo hi)))∧w=w':=by
 have H:=ah (Er lo hi a b r n xs w hn hsm hr ha hb);clear hr ha hb;go_enter Tryz.func198,Tryz.ntmps198;go_wp2_with fail;refine H.out.mono ?_;rintro e w' ⟨⟨k,rfl,he⟩|⟨rfl,he⟩,rfl⟩
 ·have HE:=ah he;clear he;go_wp2;go_ret;exact ⟨bI (by rw[HE.out]),rfl⟩
 ·have HE:=ah he;clear he;go_wp2;go_ret;exact ⟨bI (by rw[HE.out]),rfl⟩
theorem Xj (lo hi:Int) (r n:Nat) (xs:List Int) (w:World) (hn:xs.length=n) (hsm:n≤1000) (hr:au w r 3 (ints xs).toArray):
 Calls Tryz.prog 159 #[.int .i64 lo,.int .i64 hi,.slice (some ⟨r,0,none⟩) n n] w fun e w'=>e= .returned (.bool (!xs.any (outside lo hi)))∧Below w.heap.size w w':=by
 have ba:=(au.new w 3 #[.int .i64 lo]).alloc (.cells #[.int .i64 hi] 3);have bb:=au.new (w.alloc (.cells #[.int .i64 lo] 3)) 3 #[.int .i64 hi];have br:=(hr.alloc (.cells #[.int .i64 lo] 3)).alloc (.cells #[.int .i64 hi] 3);simp only[World.size_alloc] at bb;have ca:=ba.cell 0;have cb:=bb.cell 0;rw[List.getElem?_toArray] at ca cb;simp only[List.getElem?_cons_zero] at ca cb;have hc:=sQ lo hi w.heap.size (w.heap.size+1) r n xs ((w.alloc (.cells #[.int .i64 lo] 3)).alloc (.cells #[.int .i64 hi] 3)) hn hsm br ca cb;have H:=ah hc;clear ba bb br ca cb hc hr;go_enter Tryz.func159,Tryz.ntmps159;go_wp2_with (go_at_call 198;refine H.out.mono ?_;rintro e w' ⟨rfl,rfl⟩);go_ret;exact ⟨rfl,((Below.refl _ _).alloc (aN) _).alloc (by simp) _⟩
def within (lo hi:Int) (xs:List Int):Bool:= !xs.any (outside lo hi)
def dF (a0 a1 a2 a3 a4 a5 a6:Int):Bool:=within 0 1024 [a0]&&(within 0 1048576 [a1]&&(within 1 1048576 [a2]&&(within 0 1048576 [a3,a4]&&(within 0 64 [a5]&&within 1 1048576 [a6]))))
def vZ (a0 a1 a2 a3 a4 a5 a6:Int):Array Value:= #[.int .i64 a0,.int .i64 a1,.int .i64 a2,.int .i64 a3,.int .i64 a4,.int .i64 a5,.int .i64 a6]
def qR (w:World) (g:Nat) (a0 a1 a2 a3 a4 a5 a6:Int) (W:World):Prop:=au W g 23 (vZ a0 a1 a2 a3 a4 a5 a6)∧Below w.heap.size w W
theorem qR.seven {w W:World} {g:Nat} {a0 a1 a2 a3 a4 a5 a6:Int} (h:qR w g a0 a1 a2 a3 a4 a5 a6 W):W.cell? ⟨g,0,none⟩=some (.int .i64 a0)∧W.cell? ⟨g,1,none⟩=some (.int .i64 a1)∧W.cell? ⟨g,2,none⟩=some (.int .i64 a2)∧W.cell? ⟨g,3,none⟩=some (.int .i64 a3)∧W.cell? ⟨g,4,none⟩=some (.int .i64 a4)∧W.cell? ⟨g,5,none⟩=some (.int .i64 a5)∧W.cell? ⟨g,6,none⟩=some (.int .i64 a6):=
 ⟨h.1.cell 0,h.1.cell 1,h.1.cell 2,h.1.cell 3,h.1.cell 4,h.1.cell 5,h.1.cell 6⟩
theorem qR.new (w:World) (a0 a1 a2 a3 a4 a5 a6:Int):qR w w.heap.size a0 a1 a2 a3 a4 a5 a6 (w.alloc (.cells #[.int .i64 a0,.int .i64 a1,.int .i64 a2,.int .i64 a3,.int .i64 a4,.int .i64 a5,.int .i64 a6] 23)):=⟨au.new w 23 _,(Below.refl _ _).alloc (aN) _⟩
def aaE (a0 a1 a2 a3 a4 a5 a6:Int):Array Value:= #[.int .i64 a0,.int .i64 a1,.int .i64 a2,.int .i64 a3,.int .i64 a4,.int .i64 a5,.int .i64 a6,.slice none 0 0,.int .i64 0,.int .i64 0,.int .i64 0,.int .i64 0,.slice none 0 0,.int .i64 0,.int .i64 0,.int .i64 0,.bool false,.int .i64 0,.bool false,.bool false,.int .i64 0]
def A32 (w:World) (a0 a1 a2 a3 a4 a5 a6:Int) (e:Ending) (w':World):Prop:=
 Below w.heap.size w w'∧
  ((dF a0 a1 a2 a3 a4 a5 a6=true∧∃s,e= .returned (.tuple #[.pointer (some ⟨s,0,none⟩),.int .i64 0])∧w.heap.size≤s∧au w' s 143 (aaE a0 a1 a2 a3 a4 a5 a6))∨(dF a0 a1 a2 a3 a4 a5 a6=false∧e= .returned (.tuple #[.pointer none,.int .i64 2])))
theorem qx (lo hi:Int) (xs:List Int) (cs:Array Value) (hcs:cs=(ints xs).toArray) (n r:Nat) (hn:xs.length=n) (hsm:n≤1000) {w W:World} {g:Nat} {a0 a1 a2 a3 a4 a5 a6:Int} (h:qR w g a0 a1 a2 a3 a4 a5 a6 W) (hr:W.heap.size=r):
 Calls Tryz.prog 159 #[.int .i64 lo,.int .i64 hi,.slice (some ⟨r,0,none⟩) n n] (W.alloc (.cells cs 3)) fun e w'=>e= .returned (.bool (within lo hi xs))∧qR w g a0 a1 a2 a3 a4 a5 a6 w':=by
 subst hcs hr;refine (Xj lo hi W.heap.size n xs _ hn hsm (au.new W 3 _)).mono ?_;rintro e w' ⟨rfl,hk⟩;have hk2:=hk.mono (B':=w.heap.size) (by have:=h.2.size;simp;omega);have h0:=h.2.alloc h.2.size (.cells (ints xs).toArray 3);exact ⟨rfl,(h.1.alloc _).below hk (by have:=h.1.lt;simp;omega),h0.trans hk2⟩
theorem j3 (lo hi x:Int) (r:Nat) {w W:World} {g:Nat} {a0 a1 a2 a3 a4 a5 a6:Int} (h:qR w g a0 a1 a2 a3 a4 a5 a6 W) (hr:W.heap.size=r):
 Calls Tryz.prog 159 #[.int .i64 lo,.int .i64 hi,.slice (some ⟨r,0,none⟩) 1 1] (W.alloc (.cells #[.int .i64 x] 3)) fun e w'=>e= .returned (.bool (within lo hi [x]))∧qR w g a0 a1 a2 a3 a4 a5 a6 w':=
 qx lo hi [x] _ rfl 1 r rfl (by decide) h hr
theorem j4 (lo hi x y:Int) (r:Nat) {w W:World} {g:Nat} {a0 a1 a2 a3 a4 a5 a6:Int} (h:qR w g a0 a1 a2 a3 a4 a5 a6 W) (hr:W.heap.size=r):
 Calls Tryz.prog 159 #[.int .i64 lo,.int .i64 hi,.slice (some ⟨r,0,none⟩) 2 2] (W.alloc (.cells #[.int .i64 x,.int .i64 y] 3)) fun e w'=>e= .returned (.bool (within lo hi [x,y]))∧qR w g a0 a1 a2 a3 a4 a5 a6 w':=
 qx lo hi [x,y] _ rfl 2 r rfl (by decide) h hr
set_option maxRecDepth 100000 in
set_option maxHeartbeats 1000000 in
theorem Es (a0 a1 a2 a3 a4 a5 a6:Int) (w:World):Calls Tryz.prog 113 #[.agg (vZ a0 a1 a2 a3 a4 a5 a6)] w fun e w'=>e= .returned (.bool (dF a0 a1 a2 a3 a4 a5 a6))∧Below w.heap.size w w':=by
 have hc:=qR.new w a0 a1 a2 a3 a4 a5 a6;obtain ⟨b,hb⟩:∃b,dF a0 a1 a2 a3 a4 a5 a6=b:=⟨_,rfl⟩
 rw[hb];unfold dF at hb;unfold vZ;go_enter Tryz.func113,Tryz.ntmps113;go_wp2_with fail;have hz:=World.size_alloc w (.cells #[.int .i64 a0,.int .i64 a1,.int .i64 a2,.int .i64 a3,.int .i64 a4,.int .i64 a5,.int .i64 a6] 23);generalize w.alloc (.cells #[.int .i64 a0,.int .i64 a1,.int .i64 a2,.int .i64 a3,.int .i64 a4,.int .i64 a5,.int .i64 a6] 23)=w0 at*;obtain ⟨x0,x1,x2,x3,x4,x5,x6⟩:=hc.seven;cases h1:within 0 1024 [a0] with
 |false=>
  simp[h1] at hb;subst hb;go_wp2_with (go_at_call 159;first
   |((with_reducible refine (j4 _ _ _ _ _ (by assumption) (by first|assumption|exact rfl)).mono ?_);rintro e w9 ⟨rfl,hc⟩;obtain ⟨x0,x1,x2,x3,x4,x5,x6⟩:=hc.seven)
   |((with_reducible refine (j3 _ _ _ _ (by assumption) (by first|assumption|exact rfl)).mono ?_);rintro e w9 ⟨rfl,hc⟩;obtain ⟨x0,x1,x2,x3,x4,x5,x6⟩:=hc.seven))
  go_ret;exact ⟨rfl,(by assumption:qR w _ a0 a1 a2 a3 a4 a5 a6 _).2⟩
 |true=>
 cases h2:within 0 1048576 [a1] with
 |false=>
  simp[h1,h2] at hb;subst hb;go_wp2_with (go_at_call 159;first
   |((with_reducible refine (j4 _ _ _ _ _ (by assumption) (by first|assumption|exact rfl)).mono ?_);rintro e w9 ⟨rfl,hc⟩;obtain ⟨x0,x1,x2,x3,x4,x5,x6⟩:=hc.seven)
   |((with_reducible refine (j3 _ _ _ _ (by assumption) (by first|assumption|exact rfl)).mono ?_);rintro e w9 ⟨rfl,hc⟩;obtain ⟨x0,x1,x2,x3,x4,x5,x6⟩:=hc.seven))
  go_ret;exact ⟨rfl,(by assumption:qR w _ a0 a1 a2 a3 a4 a5 a6 _).2⟩
 |true=>
 cases h3:within 1 1048576 [a2] with
 |false=>
  simp[h1,h2,h3] at hb;subst hb;go_wp2_with (go_at_call 159;first
   |((with_reducible refine (j4 _ _ _ _ _ (by assumption) (by first|assumption|exact rfl)).mono ?_);rintro e w9 ⟨rfl,hc⟩;obtain ⟨x0,x1,x2,x3,x4,x5,x6⟩:=hc.seven)
   |((with_reducible refine (j3 _ _ _ _ (by assumption) (by first|assumption|exact rfl)).mono ?_);rintro e w9 ⟨rfl,hc⟩;obtain ⟨x0,x1,x2,x3,x4,x5,x6⟩:=hc.seven))
  go_ret;exact ⟨rfl,(by assumption:qR w _ a0 a1 a2 a3 a4 a5 a6 _).2⟩
 |true=>
 cases h4:within 0 1048576 [a3,a4] with
 |false=>
  simp[h1,h2,h3,h4] at hb;subst hb;go_wp2_with (go_at_call 159;first
   |((with_reducible refine (j4 _ _ _ _ _ (by assumption) (by first|assumption|exact rfl)).mono ?_);rintro e w9 ⟨rfl,hc⟩;obtain ⟨x0,x1,x2,x3,x4,x5,x6⟩:=hc.seven)
   |((with_reducible refine (j3 _ _ _ _ (by assumption) (by first|assumption|exact rfl)).mono ?_);rintro e w9 ⟨rfl,hc⟩;obtain ⟨x0,x1,x2,x3,x4,x5,x6⟩:=hc.seven))
  go_ret;exact ⟨rfl,(by assumption:qR w _ a0 a1 a2 a3 a4 a5 a6 _).2⟩
 |true=>
 cases h5:within 0 64 [a5] with
 |false=>
  simp[h1,h2,h3,h4,h5] at hb;subst hb;go_wp2_with (go_at_call 159;first
   |((with_reducible refine (j4 _ _ _ _ _ (by assumption) (by first|assumption|exact rfl)).mono ?_);rintro e w9 ⟨rfl,hc⟩;obtain ⟨x0,x1,x2,x3,x4,x5,x6⟩:=hc.seven)
   |((with_reducible refine (j3 _ _ _ _ (by assumption) (by first|assumption|exact rfl)).mono ?_);rintro e w9 ⟨rfl,hc⟩;obtain ⟨x0,x1,x2,x3,x4,x5,x6⟩:=hc.seven))
  go_ret;exact ⟨rfl,(by assumption:qR w _ a0 a1 a2 a3 a4 a5 a6 _).2⟩
 |true=>
 have h6:within 1 1048576 [a6]=b:=by simpa[h1,h2,h3,h4,h5] using hb
 clear hb;go_wp2_with (go_at_call 159;first
  |((with_reducible refine (j4 _ _ _ _ _ (by assumption) (by first|assumption|exact rfl)).mono ?_);rintro e w9 ⟨rfl,hc⟩;obtain ⟨x0,x1,x2,x3,x4,x5,x6⟩:=hc.seven)
  |((with_reducible refine (j3 _ _ _ _ (by assumption) (by first|assumption|exact rfl)).mono ?_);rintro e w9 ⟨rfl,hc⟩;obtain ⟨x0,x1,x2,x3,x4,x5,x6⟩:=hc.seven))
 go_ret;exact ⟨rfl,(by assumption:qR w _ a0 a1 a2 a3 a4 a5 a6 _).2⟩
set_option maxRecDepth 100000 in
theorem aaF (a0 a1 a2 a3 a4 a5 a6:Int) (w:World):Calls Tryz.prog 70 #[.agg (vZ a0 a1 a2 a3 a4 a5 a6)] w (A32 w a0 a1 a2 a3 a4 a5 a6):=by
 have hc:=qR.new w a0 a1 a2 a3 a4 a5 a6;have hcall:=fun W=>Es a0 a1 a2 a3 a4 a5 a6 W
 obtain ⟨b,hb⟩:∃b,dF a0 a1 a2 a3 a4 a5 a6=b:=⟨_,rfl⟩
 simp only[hb] at hcall;have HB:=ah hb;clear hb;unfold vZ at*;have hz:=World.size_alloc w (.cells #[.int .i64 a0,.int .i64 a1,.int .i64 a2,.int .i64 a3,.int .i64 a4,.int .i64 a5,.int .i64 a6] 23);have x:=hc.seven;obtain ⟨x0,x1,x2,x3,x4,x5,x6⟩:=x;have HC:=ah hc;have Gy:=ah hcall;clear hc hcall;go_enter Tryz.func70,Tryz.ntmps70;go_wp2_with fail;generalize w.alloc (.cells #[.int .i64 a0,.int .i64 a1,.int .i64 a2,.int .i64 a3,.int .i64 a4,.int .i64 a5,.int .i64 a6] 23)=w0 at*;refine (Gy.out _).mono ?_;rintro e1 w1 ⟨rfl,hb1⟩;have hc1:qR w w.heap.size a0 a1 a2 a3 a4 a5 a6 w1:=⟨HC.out.1.below hb1 HC.out.1.lt,HC.out.2.trans (hb1.mono HC.out.2.size)⟩;obtain ⟨y0,y1,y2,y3,y4,y5,y6⟩:=hc1.seven;have JH:=ah hc1;clear x0 x1 x2 x3 x4 x5 x6 hb1 hc1;cases b with
 |true=>
  go_wp2
  go_ret2
  exact ⟨JH.out.2.alloc JH.out.2.size _,.inl ⟨HB.out,_,rfl,JH.out.2.size,au.new _ _ _⟩⟩
 |false=>
  go_wp2
  go_ret2
  exact ⟨JH.out.2,.inr ⟨HB.out,rfl⟩⟩
end
end Go.Proofs.YtbhiklnljiehiaaGreat
