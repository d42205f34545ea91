/- New: the check of a configuration, the c. -/
import Derived.Test.YtbhiklnljiehiaaGreatM3an
set_option maxHeartbeats 1000000
set_option maxRecDepth 100000
namespace Go.Proofs.YtbhiklnljiehiaaGreat
open RowKit Shelf Tryz
attribute [local go_sem] Oper.semAt_some
def outside (lo hi x:Int):Bool:=decide (x<lo)||decide (hi<x)
def ints (xs:List Int):List Value:=xs.map (Value.int .i64)
def aau (b:Bool) (w:World) (e:Ending) (w':World):Prop:=((∃k:Nat,e= .returned k/\b=true)\/(e= .returned (.int .i64 (-1))/\b=false))/\w=w'
theorem KT (lo hi x:Int) (a b:Nat) (w:World) (ha:w.cell? a=some (.int .i64 lo)) (hb:w.cell? b=some (.int .i64 hi)):Calls prog 199 #[x,.pointer (some a),.pointer (some b)] w fun e w'=>e= .returned (.bool (outside lo hi x))/\w=w':=by
 by_cases h1:x<lo
 ·have e1:outside lo hi x=true:=by simp[outside,h1]
  have H1:=ah e1;clear e1;go_enter func199,ntmps199;go_wp2;go_ret;exact ⟨dm H1.out.symm,rfl⟩
 ·have h1':decide (x<lo)=false:=by simpa using h1
  have e1:decide (hi<x)=outside lo hi x:=by simp[outside,h1']
  have H1:=ah e1;clear e1;go_enter func199,ntmps199;go_wp2;go_ret;exact ⟨dm H1.out,rfl⟩
theorem KU (lo hi:Int) (a b r n:Nat) (xs:List Int) (w:World) (hn:xs.length=n) (hsm:n<=1000) (hr:av w r 3 (ints xs).toArray) (ha:w.cell? a=some (.int .i64 lo)) (hb:w.cell? b=some (.int .i64 hi)):
 Calls prog 219 #[.slice (some ⟨r,0,none⟩) n n,.func (.func 199) #[] #[.pointer (some a),.pointer (some b)]] w (aau (xs.any (outside lo hi)) w):=by
 have HC:=ah fun x=>KT lo hi x a b w ha hb
 have HL:=ah hn;clear hn ha hb;go_enter func219,ntmps219;go_wp2
 go_loop [8] (fun i=>∃k:Nat,k<=n/\i= .int .i64 k/\(xs.take k).any (outside lo hi)=false) (fun i=>n-(intOf i).toNat)
 case atStart=>exact ⟨0,eH _,rfl,by simp⟩
 case round=>
  obtain ⟨k,hk,rfl,hall⟩:=hrel;have HA:=ah hall;clear hall;by_cases hlt:k<n
  ·have hkl:k<xs.length:=by rw[HL.out];exact hlt
   obtain ⟨x,hx⟩:∃x,xs[k]? =some x:=⟨_,gX hkl⟩
   have hcell:=hr.cell k;rw[nW,ints,oW,hx] at hcell;simp at hcell;have htk:xs.take (k+1)=xs.take k++ [x]:=by rw[pX,hx];rfl
   have hin:x∈xs:=iT hx;have HT:=ah htk;have HI:=ah hin;have hcx:=HC.out x;clear htk hin hkl hx;cases hq:outside lo hi x with
   |false=>
    rw[hq] at hcx;have HQ:=ah hq;have HX:=ah hcx;clear hq hcx;go_wp2_with (go_at_call 199;refine HX.out.mono ?_;rintro e w' ⟨rfl,rfl⟩)
    go_round
    case rel=>exact ⟨k+1,by omega,by go_num,by rw[HT.out,List.any_append,HA.out];simp[HQ.out]⟩
    case measure=>simp[intOf];omega
   |true=>
    rw[hq] at hcx;have HQ:=ah hq;have HX:=ah hcx;clear hq hcx;go_wp2_with (go_at_call 199;refine HX.out.mono ?_;rintro e w' ⟨rfl,rfl⟩);go_ret;exact ⟨.inl ⟨k,rfl,by rw[Eu];exact ⟨x,HI.out,HQ.out⟩⟩,rfl⟩
  ·have e:xs.take k=xs:=kI (by rw[HL.out];omega);have hA:=HA.out;rw[e] at hA;have DU:=ah hA;clear hA e;go_wp2;go_ret;exact ⟨.inr ⟨rfl,DU.out⟩,rfl⟩
theorem yY (lo hi:Int) (a b r n:Nat) (xs:List Int) (w:World) (hn:xs.length=n) (hsm:n<=1000) (hr:av w r 3 (ints xs).toArray) (ha:w.cell? a=some (.int .i64 lo)) (hb:w.cell? b=some (.int .i64 hi)):
 Calls prog 198 #[.slice (some ⟨r,0,none⟩) n n,.func (.func 199) #[] #[.pointer (some a),.pointer (some b)]] w fun e w'=>e= .returned (.bool (xs.any (outside lo hi)))/\w=w':=by
 have H:=ah (KU lo hi a b r n xs w hn hsm hr ha hb);clear hr ha hb;go_enter func198,ntmps198;go_wp2_with fail;refine H.out.mono ?_;rintro e w' ⟨⟨k,rfl,he⟩|⟨rfl,he⟩,rfl⟩
 ·have HE:=ah he;clear he;go_wp2;go_ret;exact ⟨dm (by rw[HE.out]),rfl⟩
 ·have HE:=ah he;clear he;go_wp2;go_ret;exact ⟨dm (by rw[HE.out]),rfl⟩
theorem acw (lo hi:Int) (r n:Nat) (xs:List Int) (w:World) (hn:xs.length=n) (hsm:n<=1000) (hr:av w r 3 (ints xs).toArray):
 Calls prog 159 #[lo,hi,.slice (some ⟨r,0,none⟩) n n] w fun e w'=>e= .returned (.bool (!xs.any (outside lo hi)))/\Below w w w':=by
 have ba:=(av.new w 3 #[lo]).alloc (.cells #[hi] 3);have bb:=av.new (w.alloc (.cells #[lo] 3)) 3 #[hi];have br:=(hr.alloc (.cells #[lo] 3)).alloc (.cells #[hi] 3);simp only[mZ] at bb;have ca:=ba.cell 0;have cb:=bb.cell 0;rw[nW] at ca cb;simp only[oH] at ca cb;have hc:=yY lo hi w (w+1) r n xs ((w.alloc (.cells #[lo] 3)).alloc (.cells #[hi] 3)) hn hsm br ca cb;have H:=ah hc;clear ba bb br ca cb hc hr;go_enter func159,ntmps159;go_wp2_with (go_at_call 198;refine H.out.mono ?_;rintro e w' ⟨rfl,rfl⟩);go_ret;exact ⟨rfl,((bS _ _).alloc (aL) _).alloc (by simp) _⟩
def within (lo hi:Int) (xs:List Int):Bool:= !xs.any (outside lo hi)
def eU (a0 a1 a2 a3 a4 a5 a6:Int):Bool:=within 0 1024 [a0]&&(within 0 1048576 [a1]&&(within 1 1048576 [a2]&&(within 0 1048576 [a3,a4]&&(within 0 64 [a5]&&within 1 1048576 [a6]))))
def Be (a0 a1 a2 a3 a4 a5 a6:Int):Array Value:= #[a0,a1,a2,a3,a4,a5,a6]
def xE (w:World) (g:Nat) (a0 a1 a2 a3 a4 a5 a6:Int) (W:World):Prop:=av W g 23 (Be a0 a1 a2 a3 a4 a5 a6)/\Below w w W
theorem xE.seven {w W:World} {g:Nat} {a0 a1 a2 a3 a4 a5 a6:Int} (h:xE w g a0 a1 a2 a3 a4 a5 a6 W):W.cell? g=some (.int .i64 a0)/\W.cell? ⟨g,1,none⟩=some (.int .i64 a1)/\W.cell? ⟨g,2,none⟩=some (.int .i64 a2)/\W.cell? ⟨g,3,none⟩=some (.int .i64 a3)/\W.cell? ⟨g,4,none⟩=some (.int .i64 a4)/\W.cell? ⟨g,5,none⟩=some (.int .i64 a5)/\W.cell? ⟨g,6,none⟩=some (.int .i64 a6):=
 ⟨h.1.cell 0,h.1.cell 1,h.1.cell 2,h.1.cell 3,h.1.cell 4,h.1.cell 5,h.1.cell 6⟩
theorem xE.new (w:World) (a0 a1 a2 a3 a4 a5 a6:Int):xE w w a0 a1 a2 a3 a4 a5 a6 (w.alloc (.cells #[a0,a1,a2,a3,a4,a5,a6] 23)):=⟨av.new w 23 _,(bS _ _).alloc (aL) _⟩
def agA (a0 a1 a2 a3 a4 a5 a6:Int):Array Value:= #[a0,a1,a2,a3,a4,a5,a6,.slice none 0 0,.int .i64 0,.int .i64 0,.int .i64 0,.int .i64 0,.slice none 0 0,.int .i64 0,.int .i64 0,.int .i64 0,.bool false,.int .i64 0,.bool false,.bool false,.int .i64 0]
def A32 (w:World) (a0 a1 a2 a3 a4 a5 a6:Int) (e:Ending) (w':World):Prop:=
 Below w w w'/\
  ((eU a0 a1 a2 a3 a4 a5 a6=true/\∃s,e= .returned (.tuple #[.pointer (some ⟨s,0,none⟩),.int .i64 0])/\w.heap.size<=s/\av w' s 143 (agA a0 a1 a2 a3 a4 a5 a6))\/(eU a0 a1 a2 a3 a4 a5 a6=false/\e= .returned (.tuple #[.pointer none,.int .i64 2])))
theorem wO (lo hi:Int) (xs:List Int) (cs:Array Value) (hcs:cs=(ints xs).toArray) (n r:Nat) (hn:xs.length=n) (hsm:n<=1000) {w W:World} {g:Nat} {a0 a1 a2 a3 a4 a5 a6:Int} (h:xE w g a0 a1 a2 a3 a4 a5 a6 W) (hr:W.heap.size=r):
 Calls prog 159 #[lo,hi,.slice (some ⟨r,0,none⟩) n n] (W.alloc (.cells cs 3)) fun e w'=>e= .returned (.bool (within lo hi xs))/\xE w g a0 a1 a2 a3 a4 a5 a6 w':=by
 subst hcs hr;refine (acw lo hi W n xs _ hn hsm (av.new W 3 _)).mono ?_;rintro e w' ⟨rfl,hk⟩;have hk2:=hk.mono (B':=w.heap.size) (by have:=h.2.size;simp;omega);have h0:=h.2.alloc h.2.size (.cells (ints xs).toArray 3);exact ⟨rfl,(h.1.alloc _).below hk (by have:=h.1.lt;simp;omega),h0.trans hk2⟩
theorem nO (lo hi x:Int) (r:Nat) {w W:World} {g:Nat} {a0 a1 a2 a3 a4 a5 a6:Int} (h:xE w g a0 a1 a2 a3 a4 a5 a6 W) (hr:W.heap.size=r):
 Calls prog 159 #[lo,hi,.slice (some ⟨r,0,none⟩) 1 1] (W.alloc (.cells #[x] 3)) fun e w'=>e= .returned (.bool (within lo hi [x]))/\xE w g a0 a1 a2 a3 a4 a5 a6 w':=
 wO lo hi [x] _ rfl 1 r rfl (by decide) h hr
theorem nP (lo hi x y:Int) (r:Nat) {w W:World} {g:Nat} {a0 a1 a2 a3 a4 a5 a6:Int} (h:xE w g a0 a1 a2 a3 a4 a5 a6 W) (hr:W.heap.size=r):
 Calls prog 159 #[lo,hi,.slice (some ⟨r,0,none⟩) 2 2] (W.alloc (.cells #[x,y] 3)) fun e w'=>e= .returned (.bool (within lo hi [x,y]))/\xE w g a0 a1 a2 a3 a4 a5 a6 w':=
 wO lo hi [x,y] _ rfl 2 r rfl (by decide) h hr
theorem KV (a0 a1 a2 a3 a4 a5 a6:Int) (w:World):Calls prog 113 #[.agg (Be a0 a1 a2 a3 a4 a5 a6)] w fun e w'=>e= .returned (.bool (eU a0 a1 a2 a3 a4 a5 a6))/\Below w w w':=by
 have hc:=xE.new w a0 a1 a2 a3 a4 a5 a6;obtain ⟨b,hb⟩:∃b,eU a0 a1 a2 a3 a4 a5 a6=b:=⟨_,rfl⟩
 rw[hb];unfold eU at hb;unfold Be;go_enter func113,ntmps113;go_wp2_with fail;have hz:=mZ w (.cells #[a0,a1,a2,a3,a4,a5,a6] 23);generalize w.alloc (.cells #[a0,a1,a2,a3,a4,a5,a6] 23)=w0 at*;obtain ⟨x0,x1,x2,x3,x4,x5,x6⟩:=hc.seven;cases h1:within 0 1024 [a0] with
 |false=>
  simp[h1] at hb;subst hb;go_wp2_with (go_at_call 159;first
   |((with_reducible refine (nP _ _ _ _ _ (by assumption) (by first|assumption|exact rfl)).mono ?_);rintro e w9 ⟨rfl,hc⟩;obtain ⟨x0,x1,x2,x3,x4,x5,x6⟩:=hc.seven)
   |((with_reducible refine (nO _ _ _ _ (by assumption) (by first|assumption|exact rfl)).mono ?_);rintro e w9 ⟨rfl,hc⟩;obtain ⟨x0,x1,x2,x3,x4,x5,x6⟩:=hc.seven))
  go_ret;exact ⟨rfl,(by assumption:xE w _ a0 a1 a2 a3 a4 a5 a6 _).2⟩
 |true=>
 cases h2:within 0 1048576 [a1] with
 |false=>
  simp[h1,h2] at hb;subst hb;go_wp2_with (go_at_call 159;first
   |((with_reducible refine (nP _ _ _ _ _ (by assumption) (by first|assumption|exact rfl)).mono ?_);rintro e w9 ⟨rfl,hc⟩;obtain ⟨x0,x1,x2,x3,x4,x5,x6⟩:=hc.seven)
   |((with_reducible refine (nO _ _ _ _ (by assumption) (by first|assumption|exact rfl)).mono ?_);rintro e w9 ⟨rfl,hc⟩;obtain ⟨x0,x1,x2,x3,x4,x5,x6⟩:=hc.seven))
  go_ret;exact ⟨rfl,(by assumption:xE w _ a0 a1 a2 a3 a4 a5 a6 _).2⟩
 |true=>
 cases h3:within 1 1048576 [a2] with
 |false=>
  simp[h1,h2,h3] at hb;subst hb;go_wp2_with (go_at_call 159;first
   |((with_reducible refine (nP _ _ _ _ _ (by assumption) (by first|assumption|exact rfl)).mono ?_);rintro e w9 ⟨rfl,hc⟩;obtain ⟨x0,x1,x2,x3,x4,x5,x6⟩:=hc.seven)
   |((with_reducible refine (nO _ _ _ _ (by assumption) (by first|assumption|exact rfl)).mono ?_);rintro e w9 ⟨rfl,hc⟩;obtain ⟨x0,x1,x2,x3,x4,x5,x6⟩:=hc.seven))
  go_ret;exact ⟨rfl,(by assumption:xE w _ a0 a1 a2 a3 a4 a5 a6 _).2⟩
 |true=>
 cases h4:within 0 1048576 [a3,a4] with
 |false=>
  simp[h1,h2,h3,h4] at hb;subst hb;go_wp2_with (go_at_call 159;first
   |((with_reducible refine (nP _ _ _ _ _ (by assumption) (by first|assumption|exact rfl)).mono ?_);rintro e w9 ⟨rfl,hc⟩;obtain ⟨x0,x1,x2,x3,x4,x5,x6⟩:=hc.seven)
   |((with_reducible refine (nO _ _ _ _ (by assumption) (by first|assumption|exact rfl)).mono ?_);rintro e w9 ⟨rfl,hc⟩;obtain ⟨x0,x1,x2,x3,x4,x5,x6⟩:=hc.seven))
  go_ret;exact ⟨rfl,(by assumption:xE w _ a0 a1 a2 a3 a4 a5 a6 _).2⟩
 |true=>
 cases h5:within 0 64 [a5] with
 |false=>
  simp[h1,h2,h3,h4,h5] at hb;subst hb;go_wp2_with (go_at_call 159;first
   |((with_reducible refine (nP _ _ _ _ _ (by assumption) (by first|assumption|exact rfl)).mono ?_);rintro e w9 ⟨rfl,hc⟩;obtain ⟨x0,x1,x2,x3,x4,x5,x6⟩:=hc.seven)
   |((with_reducible refine (nO _ _ _ _ (by assumption) (by first|assumption|exact rfl)).mono ?_);rintro e w9 ⟨rfl,hc⟩;obtain ⟨x0,x1,x2,x3,x4,x5,x6⟩:=hc.seven))
  go_ret;exact ⟨rfl,(by assumption:xE w _ a0 a1 a2 a3 a4 a5 a6 _).2⟩
 |true=>
 have h6:within 1 1048576 [a6]=b:=by simpa[h1,h2,h3,h4,h5] using hb
 clear hb;go_wp2_with (go_at_call 159;first
  |((with_reducible refine (nP _ _ _ _ _ (by assumption) (by first|assumption|exact rfl)).mono ?_);rintro e w9 ⟨rfl,hc⟩;obtain ⟨x0,x1,x2,x3,x4,x5,x6⟩:=hc.seven)
  |((with_reducible refine (nO _ _ _ _ (by assumption) (by first|assumption|exact rfl)).mono ?_);rintro e w9 ⟨rfl,hc⟩;obtain ⟨x0,x1,x2,x3,x4,x5,x6⟩:=hc.seven))
 go_ret;exact ⟨rfl,(by assumption:xE w _ a0 a1 a2 a3 a4 a5 a6 _).2⟩
theorem agB (a0 a1 a2 a3 a4 a5 a6:Int) (w:World):Calls prog 70 #[.agg (Be a0 a1 a2 a3 a4 a5 a6)] w (A32 w a0 a1 a2 a3 a4 a5 a6):=by
 have hc:=xE.new w a0 a1 a2 a3 a4 a5 a6;have hcall:=fun W=>KV a0 a1 a2 a3 a4 a5 a6 W
 obtain ⟨b,hb⟩:∃b,eU a0 a1 a2 a3 a4 a5 a6=b:=⟨_,rfl⟩
 simp only[hb] at hcall;have HB:=ah hb;clear hb;unfold Be at*;have hz:=mZ w (.cells #[a0,a1,a2,a3,a4,a5,a6] 23);have x:=hc.seven;obtain ⟨x0,x1,x2,x3,x4,x5,x6⟩:=x;have HC:=ah hc;have DL:=ah hcall;clear hc hcall;go_enter func70,ntmps70;go_wp2_with fail;generalize w.alloc (.cells #[a0,a1,a2,a3,a4,a5,a6] 23)=w0 at*;refine (DL.out _).mono ?_;rintro e1 w1 ⟨rfl,hb1⟩;have hc1:xE w w a0 a1 a2 a3 a4 a5 a6 w1:=⟨HC.out.1.below hb1 HC.out.1.lt,HC.out.2.trans (hb1.mono HC.out.2.size)⟩;obtain ⟨y0,y1,y2,y3,y4,y5,y6⟩:=hc1.seven;have TL:=ah hc1;clear x0 x1 x2 x3 x4 x5 x6 hb1 hc1;cases b with
 |true=>
  go_wp2
  go_ret2
  exact ⟨TL.out.2.alloc TL.out.2.size _,.inl ⟨HB.out,_,rfl,TL.out.2.size,av.new _ _ _⟩⟩
 |false=>
  go_wp2
  go_ret2
  exact ⟨TL.out.2,.inr ⟨HB.out,rfl⟩⟩
end Go.Proofs.YtbhiklnljiehiaaGreat
