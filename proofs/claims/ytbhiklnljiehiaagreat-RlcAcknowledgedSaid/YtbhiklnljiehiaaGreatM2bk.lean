/- amrecv: New: its configuration. -/
import Derived.Test.YtbhiklnljiehiaaGreatM2bf
import Derived.Test.YtbhiklnljiehiaaGreatM2bh
import Derived.Test.YtbhiklnljiehiaaGreatM2bi
namespace Go.Proofs.YtbhiklnljiehiaaGreat.Rq
open Go.RowKit Go.Shelf
attribute [local go_sem] Oper.semAt_some
theorem Ep (lo hi x:Int) (a b:Nat) (w:World) (ha:w.cell? ⟨a,0,none⟩=some (.int .i64 lo)) (hb:w.cell? ⟨b,0,none⟩=some (.int .i64 hi)):Calls Tryz.prog 200 #[.int .i64 x,.pointer (some ⟨a,0,none⟩),.pointer (some ⟨b,0,none⟩)] w fun e w'=>e= .returned (.bool (outside lo hi x))∧w=w':=by
 by_cases h1:x<lo
 ·have e1:outside lo hi x=true:=by simp[outside,h1]
  have H1:=ah e1;clear e1;go_enter Tryz.func200,Tryz.ntmps200;go_wp2;go_ret;exact ⟨bI H1.out.symm,rfl⟩
 ·have h1':decide (x<lo)=false:=by simpa using h1
  have e1:decide (hi<x)=outside lo hi x:=by simp[outside,h1']
  have H1:=ah e1;clear e1;go_enter Tryz.func200,Tryz.ntmps200;go_wp2;go_ret;exact ⟨bI H1.out,rfl⟩
theorem Er (lo hi:Int) (a b r n:Nat) (xs:List Int) (w:World) (hn:xs.length=n) (hsm:n≤1000) (hr:au w r 3 (ints xs).toArray) (ha:w.cell? ⟨a,0,none⟩=some (.int .i64 lo)) (hb:w.cell? ⟨b,0,none⟩=some (.int .i64 hi)):
 Calls Tryz.prog 219 #[.slice (some ⟨r,0,none⟩) n n,.func (.func 200) #[] #[.pointer (some ⟨a,0,none⟩),.pointer (some ⟨b,0,none⟩)]] w (U9 (xs.any (outside lo hi)) w):=by
 have HC:=ah fun x=>Ep lo hi x a b w ha hb
 have HL:=ah hn;clear hn ha hb;go_enter Tryz.func219,Tryz.ntmps219;go_wp2
 go_loop [8] (fun i=>∃k:Nat,k≤n∧i= .int .i64 k∧(xs.take k).any (outside lo hi)=false) (fun i=>n-(intOf i).toNat)
 case atStart=>exact ⟨0,Nat.zero_le _,rfl,by simp⟩
 case round=>
  obtain ⟨k,hk,rfl,hall⟩:=hrel;have HA:=ah hall;clear hall;by_cases hlt:k<n
  ·have hkl:k<xs.length:=by rw[HL.out];exact hlt
   obtain ⟨x,hx⟩:∃x,xs[k]? =some x:=⟨_,List.getElem?_eq_getElem hkl⟩
   have hcell:=hr.cell k;rw[List.getElem?_toArray,ints,List.getElem?_map,hx] at hcell;simp at hcell;have htk:xs.take (k+1)=xs.take k++ [x]:=by rw[List.take_add_one,hx];rfl
   have hin:x∈xs:=List.mem_of_getElem? hx;have HT:=ah htk;have HI:=ah hin;have hcx:=HC.out x;clear htk hin hkl hx;cases hq:outside lo hi x with
   |false=>
    rw[hq] at hcx;have HQ:=ah hq;have HX:=ah hcx;clear hq hcx;go_wp2_with (go_at_call 200;refine HX.out.mono ?_;rintro e w' ⟨rfl,rfl⟩)
    go_round
    case rel=>exact ⟨k+1,by omega,by go_num,by rw[HT.out,List.any_append,HA.out];simp[HQ.out]⟩
    case measure=>simp[intOf];omega
   |true=>
    rw[hq] at hcx;have HQ:=ah hq;have HX:=ah hcx;clear hq hcx;go_wp2_with (go_at_call 200;refine HX.out.mono ?_;rintro e w' ⟨rfl,rfl⟩);go_ret;exact ⟨.inl ⟨k,rfl,by rw[List.any_eq_true];exact ⟨x,HI.out,HQ.out⟩⟩,rfl⟩
  ·have e:xs.take k=xs:=List.take_of_length_le (by rw[HL.out];omega);have hA:=HA.out;rw[e] at hA;have xP:=ah hA;clear hA e;go_wp2;go_ret;exact ⟨.inr ⟨rfl,xP.out⟩,rfl⟩
theorem sQ (lo hi:Int) (a b r n:Nat) (xs:List Int) (w:World) (hn:xs.length=n) (hsm:n≤1000) (hr:au w r 3 (ints xs).toArray) (ha:w.cell? ⟨a,0,none⟩=some (.int .i64 lo)) (hb:w.cell? ⟨b,0,none⟩=some (.int .i64 hi)):
 Calls Tryz.prog 198 #[.slice (some ⟨r,0,none⟩) n n,.func (.func 200) #[] #[.pointer (some ⟨a,0,none⟩),.pointer (some ⟨b,0,none⟩)]] w fun e w'=>e= .returned (.bool (xs.any (outside lo hi)))∧w=w':=by
 have H:=ah (Er lo hi a b r n xs w hn hsm hr ha hb);clear hr ha hb;go_enter Tryz.func198,Tryz.ntmps198;go_wp2_with fail;refine H.out.mono ?_;rintro e w' ⟨⟨k,rfl,he⟩|⟨rfl,he⟩,rfl⟩
 ·have HE:=ah he;clear he;go_wp2;go_ret;exact ⟨bI (by rw[HE.out]),rfl⟩
 ·have HE:=ah he;clear he;go_wp2;go_ret;exact ⟨bI (by rw[HE.out]),rfl⟩
theorem Xj (lo hi:Int) (r n:Nat) (xs:List Int) (w:World) (hn:xs.length=n) (hsm:n≤1000) (hr:au w r 3 (ints xs).toArray):
 Calls Tryz.prog 160 #[.int .i64 lo,.int .i64 hi,.slice (some ⟨r,0,none⟩) n n] w fun e w'=>e= .returned (.bool (!xs.any (outside lo hi)))∧Below w.heap.size w w':=by
 have ba:=(au.new w 3 #[.int .i64 lo]).alloc (.cells #[.int .i64 hi] 3);have bb:=au.new (w.alloc (.cells #[.int .i64 lo] 3)) 3 #[.int .i64 hi];have br:=(hr.alloc (.cells #[.int .i64 lo] 3)).alloc (.cells #[.int .i64 hi] 3);simp only[World.size_alloc] at bb;have ca:=ba.cell 0;have cb:=bb.cell 0;rw[List.getElem?_toArray] at ca cb;simp only[List.getElem?_cons_zero] at ca cb;have hc:=sQ lo hi w.heap.size (w.heap.size+1) r n xs ((w.alloc (.cells #[.int .i64 lo] 3)).alloc (.cells #[.int .i64 hi] 3)) hn hsm br ca cb;have H:=ah hc;clear ba bb br ca cb hc hr;go_enter Tryz.func160,Tryz.ntmps160;go_wp2_with (go_at_call 198;refine H.out.mono ?_;rintro e w' ⟨rfl,rfl⟩);go_ret;exact ⟨rfl,((Below.refl _ _).alloc (aN) _).alloc (by simp) _⟩
theorem qx (lo hi:Int) (xs:List Int) (cs:Array Value) (hcs:cs=(ints xs).toArray) (n r:Nat) (hn:xs.length=n) (hsm:n≤1000) {w W:World} {g:Nat} {a0 a1 a2 a3 a4 a5 a6:Int} (h:qR w g a0 a1 a2 a3 a4 a5 a6 W) (hr:W.heap.size=r):
 Calls Tryz.prog 160 #[.int .i64 lo,.int .i64 hi,.slice (some ⟨r,0,none⟩) n n] (W.alloc (.cells cs 3)) fun e w'=>e= .returned (.bool (within lo hi xs))∧qR w g a0 a1 a2 a3 a4 a5 a6 w':=by
 subst hcs hr;refine (Xj lo hi W.heap.size n xs _ hn hsm (au.new W 3 _)).mono ?_;rintro e w' ⟨rfl,hk⟩;have hk2:=hk.mono (B':=w.heap.size) (by have:=h.2.size;simp;omega);have h0:=h.2.alloc h.2.size (.cells (ints xs).toArray 3);exact ⟨rfl,(h.1.alloc _).below hk (by have:=h.1.lt;simp;omega),h0.trans hk2⟩
theorem j3 (lo hi x:Int) (r:Nat) {w W:World} {g:Nat} {a0 a1 a2 a3 a4 a5 a6:Int} (h:qR w g a0 a1 a2 a3 a4 a5 a6 W) (hr:W.heap.size=r):
 Calls Tryz.prog 160 #[.int .i64 lo,.int .i64 hi,.slice (some ⟨r,0,none⟩) 1 1] (W.alloc (.cells #[.int .i64 x] 3)) fun e w'=>e= .returned (.bool (within lo hi [x]))∧qR w g a0 a1 a2 a3 a4 a5 a6 w':=
 qx lo hi [x] _ rfl 1 r rfl (by decide) h hr
theorem j4 (lo hi x y:Int) (r:Nat) {w W:World} {g:Nat} {a0 a1 a2 a3 a4 a5 a6:Int} (h:qR w g a0 a1 a2 a3 a4 a5 a6 W) (hr:W.heap.size=r):
 Calls Tryz.prog 160 #[.int .i64 lo,.int .i64 hi,.slice (some ⟨r,0,none⟩) 2 2] (W.alloc (.cells #[.int .i64 x,.int .i64 y] 3)) fun e w'=>e= .returned (.bool (within lo hi [x,y]))∧qR w g a0 a1 a2 a3 a4 a5 a6 w':=
 qx lo hi [x,y] _ rfl 2 r rfl (by decide) h hr
set_option maxRecDepth 100000 in
set_option maxHeartbeats 1000000 in
theorem Es (a0 a1 a2 a3 a4 a5 a6:Int) (w:World):Calls Tryz.prog 114 #[.agg (vZ a0 a1 a2 a3 a4 a5 a6)] w fun e w'=>e= .returned (.bool (dF a0 a1 a2 a3 a4 a5 a6))∧Below w.heap.size w w':=by
 have hc:=qR.new w a0 a1 a2 a3 a4 a5 a6;obtain ⟨b,hb⟩:∃b,dF a0 a1 a2 a3 a4 a5 a6=b:=⟨_,rfl⟩
 rw[hb];unfold dF at hb;unfold vZ;go_enter Tryz.func114,Tryz.ntmps114;go_wp2_with fail;have hz:=World.size_alloc w (.cells #[.int .i64 a0,.int .i64 a1,.int .i64 a2,.int .i64 a3,.int .i64 a4,.int .i64 a5,.int .i64 a6] 23);generalize w.alloc (.cells #[.int .i64 a0,.int .i64 a1,.int .i64 a2,.int .i64 a3,.int .i64 a4,.int .i64 a5,.int .i64 a6] 23)=w0 at*;obtain ⟨x0,x1,x2,x3,x4,x5,x6⟩:=hc.seven;cases h1:within 0 1024 [a0] with
 |false=>
  simp[h1] at hb;subst hb;go_wp2_with (go_at_call 160;first
   |((with_reducible refine (j4 _ _ _ _ _ (by assumption) (by first|assumption|exact rfl)).mono ?_);rintro e w9 ⟨rfl,hc⟩;obtain ⟨x0,x1,x2,x3,x4,x5,x6⟩:=hc.seven)
   |((with_reducible refine (j3 _ _ _ _ (by assumption) (by first|assumption|exact rfl)).mono ?_);rintro e w9 ⟨rfl,hc⟩;obtain ⟨x0,x1,x2,x3,x4,x5,x6⟩:=hc.seven))
  go_ret;exact ⟨rfl,(by assumption:qR w _ a0 a1 a2 a3 a4 a5 a6 _).2⟩
 |true=>
 cases h2:within 0 1048576 [a1] with
 |false=>
  simp[h1,h2] at hb;subst hb;go_wp2_with (go_at_call 160;first
   |((with_reducible refine (j4 _ _ _ _ _ (by assumption) (by first|assumption|exact rfl)).mono ?_);rintro e w9 ⟨rfl,hc⟩;obtain ⟨x0,x1,x2,x3,x4,x5,x6⟩:=hc.seven)
   |((with_reducible refine (j3 _ _ _ _ (by assumption) (by first|assumption|exact rfl)).mono ?_);rintro e w9 ⟨rfl,hc⟩;obtain ⟨x0,x1,x2,x3,x4,x5,x6⟩:=hc.seven))
  go_ret;exact ⟨rfl,(by assumption:qR w _ a0 a1 a2 a3 a4 a5 a6 _).2⟩
 |true=>
 cases h3:within 1 1048576 [a2] with
 |false=>
  simp[h1,h2,h3] at hb;subst hb;go_wp2_with (go_at_call 160;first
   |((with_reducible refine (j4 _ _ _ _ _ (by assumption) (by first|assumption|exact rfl)).mono ?_);rintro e w9 ⟨rfl,hc⟩;obtain ⟨x0,x1,x2,x3,x4,x5,x6⟩:=hc.seven)
   |((with_reducible refine (j3 _ _ _ _ (by assumption) (by first|assumption|exact rfl)).mono ?_);rintro e w9 ⟨rfl,hc⟩;obtain ⟨x0,x1,x2,x3,x4,x5,x6⟩:=hc.seven))
  go_ret;exact ⟨rfl,(by assumption:qR w _ a0 a1 a2 a3 a4 a5 a6 _).2⟩
 |true=>
 cases h4:within 0 1048576 [a3,a4] with
 |false=>
  simp[h1,h2,h3,h4] at hb;subst hb;go_wp2_with (go_at_call 160;first
   |((with_reducible refine (j4 _ _ _ _ _ (by assumption) (by first|assumption|exact rfl)).mono ?_);rintro e w9 ⟨rfl,hc⟩;obtain ⟨x0,x1,x2,x3,x4,x5,x6⟩:=hc.seven)
   |((with_reducible refine (j3 _ _ _ _ (by assumption) (by first|assumption|exact rfl)).mono ?_);rintro e w9 ⟨rfl,hc⟩;obtain ⟨x0,x1,x2,x3,x4,x5,x6⟩:=hc.seven))
  go_ret;exact ⟨rfl,(by assumption:qR w _ a0 a1 a2 a3 a4 a5 a6 _).2⟩
 |true=>
 cases h5:within 0 64 [a5] with
 |false=>
  simp[h1,h2,h3,h4,h5] at hb;subst hb;go_wp2_with (go_at_call 160;first
   |((with_reducible refine (j4 _ _ _ _ _ (by assumption) (by first|assumption|exact rfl)).mono ?_);rintro e w9 ⟨rfl,hc⟩;obtain ⟨x0,x1,x2,x3,x4,x5,x6⟩:=hc.seven)
   |((with_reducible refine (j3 _ _ _ _ (by assumption) (by first|assumption|exact rfl)).mono ?_);rintro e w9 ⟨rfl,hc⟩;obtain ⟨x0,x1,x2,x3,x4,x5,x6⟩:=hc.seven))
  go_ret;exact ⟨rfl,(by assumption:qR w _ a0 a1 a2 a3 a4 a5 a6 _).2⟩
 |true=>
 have h6:within 1 1048576 [a6]=b:=by simpa[h1,h2,h3,h4,h5] using hb
 clear hb;go_wp2_with (go_at_call 160;first
  |((with_reducible refine (j4 _ _ _ _ _ (by assumption) (by first|assumption|exact rfl)).mono ?_);rintro e w9 ⟨rfl,hc⟩;obtain ⟨x0,x1,x2,x3,x4,x5,x6⟩:=hc.seven)
  |((with_reducible refine (j3 _ _ _ _ (by assumption) (by first|assumption|exact rfl)).mono ?_);rintro e w9 ⟨rfl,hc⟩;obtain ⟨x0,x1,x2,x3,x4,x5,x6⟩:=hc.seven))
 go_ret;exact ⟨rfl,(by assumption:qR w _ a0 a1 a2 a3 a4 a5 a6 _).2⟩
end Go.Proofs.YtbhiklnljiehiaaGreat.Rq
namespace Go.Proofs.YtbhiklnljiehiaaGreat
open Go.RowKit Go.Shelf
attribute [local go_sem] Oper.semAt_some
def agF (w:World) (a0 a1 a2 a3 a4 a5 a6:Int) (e:Ending) (w':World):Prop:=
 Below w.heap.size w w'∧
  (
   (dF a0 a1 a2 a3 a4 a5 a6=true∧∃g M T,e= .returned (.tuple #[.pointer (some ⟨g,0,none⟩),.int .i64 0])∧gI w' T g M 0 ⟨a0,a1,a2,a3,a4,a5,a6⟩ lM (.slice none 0 0)∧∀k,T k≠0→w.heap.size≤k)∨
   (dF a0 a1 a2 a3 a4 a5 a6=false∧e= .returned (.tuple #[.pointer none,.int .i64 2])))
set_option maxRecDepth 100000 in
theorem Qv (a0 a1 a2 a3 a4 a5 a6:Int) (w:World):Calls Tryz.prog 73 #[.agg (vZ a0 a1 a2 a3 a4 a5 a6)] w (agF w a0 a1 a2 a3 a4 a5 a6):=by
 have hmm:= @run_makeMap Tryz.prog;have hc:=qR.new w a0 a1 a2 a3 a4 a5 a6;have hcall:=fun W=>Rq.Es a0 a1 a2 a3 a4 a5 a6 W
 obtain ⟨b,hb⟩:∃b,dF a0 a1 a2 a3 a4 a5 a6=b:=⟨_,rfl⟩
 simp only[hb] at hcall;have HB:=ah hb;clear hb;unfold vZ at*;have hz:=World.size_alloc w (.cells #[.int .i64 a0,.int .i64 a1,.int .i64 a2,.int .i64 a3,.int .i64 a4,.int .i64 a5,.int .i64 a6] 23);have x:=hc.seven;obtain ⟨x0,x1,x2,x3,x4,x5,x6⟩:=x;have HC:=ah hc;have Gy:=ah hcall;clear hc hcall;go_enter Tryz.func73,Tryz.ntmps73;go_wp2_with fail;generalize w.alloc (.cells #[.int .i64 a0,.int .i64 a1,.int .i64 a2,.int .i64 a3,.int .i64 a4,.int .i64 a5,.int .i64 a6] 23)=w0 at*;refine (Gy.out _).mono ?_;rintro e1 w1 ⟨rfl,hb1⟩;have hc1:qR w w.heap.size a0 a1 a2 a3 a4 a5 a6 w1:=⟨HC.out.1.below hb1 HC.out.1.lt,HC.out.2.trans (hb1.mono HC.out.2.size)⟩;obtain ⟨y0,y1,y2,y3,y4,y5,y6⟩:=hc1.seven;have JH:=ah hc1;clear x0 x1 x2 x3 x4 x5 x6 hb1 hc1;cases b with
 |true=>
  go_wp2
  go_ret2
  have hsz:=JH.out.2.size;have agG:=(iq.made Tryz.prog 3 w1);refine ⟨((JH.out.2.alloc JH.out.2.size _).alloc (by simp;omega) _),.inl ⟨HB.out,w1.heap.size+1,w1.heap.size,fun k=>if k=w1.heap.size+1 then 1 else if k=w1.heap.size then 2 else 0,by simp,?_,fun k hk=> ?_⟩⟩
  ·have hb:=au.new (w1.alloc (.map #[] 0)) 130 (Mb ⟨a0,a1,a2,a3,a4,a5,a6⟩ w1.heap.size (.slice none 0 0) lM);rw[World.size_alloc] at hb;refine ⟨hb,if_pos rfl,?_,fun k hk=> ?_,World.ownsRow_nil _ _ _ _,fun k e=>by simp[Value.ownBlock] at e,fun _=>none,?_,fun k=>⟨fun _=>rfl,fun p hp=>by simp[lM] at hp⟩⟩
   ·show (if _ then _ else _)=_
    rw[if_neg (by omega),if_pos rfl]
   ·simp only[World.size_alloc];split at hk
    ·omega
    ·split at hk
     ·omega
     ·exact absurd rfl hk
   ·exact agG.same (Below.heap_alloc _ _ _ (by simp))
  ·dsimp only at hk;split at hk
   ·omega
   ·split at hk
    ·omega
    ·exact absurd rfl hk
 |false=>
  go_wp2
  go_ret2
  exact ⟨JH.out.2,.inr ⟨HB.out,rfl⟩⟩
end Go.Proofs.YtbhiklnljiehiaaGreat
namespace Go.Proofs.YtbhiklnljiehiaaGreat
section
def agH (a b:Nk):Prop:=a.sn<b.sn∨(a.sn=b.sn∧a.part=true∧b.part=true∧a.lt<b.fr)
structure Uh (aL:Nat) (n:Nk):Prop where
 s0:0≤n.sn
 s1:n.sn<aL
 p:n.part=true→0≤n.fr∧n.fr≤n.lt∧n.lt≤32767
 q:n.part=false→n.fr=0∧n.lt=0
theorem Uh.more {a b:Nat} {n:Nk} (h:Uh a n) (hab:a≤b):Uh b n:=⟨h.s0,by have:=h.s1;omega,h.p,h.q⟩
def Ui (size:Nat) (n:Nk):Prop:=(gM n).1≤min (gM n).2 (size-1)
theorem Hq (l:List (Nat × Nat)) (x:Nat × Nat):fO l x≠ []:=by
 unfold fO;split
 ·simp
 ·split<;>simp
theorem Di (size:Nat):∀(l:List Nk) (a:List (Nat × Nat)),a≠ []→l.foldl (eX size) a≠ []
 | [],a,h=>h
 |n::r,a,h=>by
  rw[List.foldl_cons];refine Di size r _ ?_;unfold eX;split
  ·exact h
  ·exact Hq _ _
theorem wo (size:Nat):∀(l:List Nk) (a:List (Nat × Nat)),(∃n∈l,Ui size n)→l.foldl (eX size) a≠ []
 | [],_,h=>by obtain ⟨n,hn,_⟩:=h;simp at hn
 |m::r,a,h=>by
  rw[List.foldl_cons];obtain ⟨n,hn,ha⟩:=h;rcases List.mem_cons.1 hn with rfl|hn
  ·refine Di size r _ ?_;unfold eX Ui at*;rw[if_neg (by omega)];exact Hq _ _
  ·exact wo size r _ ⟨n,hn,ha⟩
section
variable {aK:List (List UInt8)} {N:Nat} {pu:Nat→Ou} {left:Nat→List (List UInt8)} {sent:Nat→Nat}
structure Vr (N:Nat) (pu:Nat→Ou) (st:Rc) (aL:Nat) (l:List Nk):Prop where
 len:l.length≤512
 ok:∀n∈l,Uh aL n
 pw:l.Pairwise agH
 cov:∀k,k<aL→Has st k∨∃n∈l,n.sn=(k:Int)∧Ui (aG (pu k)) n
theorem Vr.truth {st:Rc} {aL:Nat} {l:List Nk} (h:Vr N pu st aL l) {k:Nat} (hk:k<aL) (hsn:(pu k).sn=k) (hm:bT l (pu k)= []):Has st k:=by
 rcases h.cov k hk with hh|⟨n,hn,e,ha⟩
 ·exact hh
 ·exfalso;refine wo (aG (pu k)) (l.filter (fun n=>decide (n.sn=((pu k).sn:Int)))) [] ⟨n,?_,ha⟩ hm;rw[List.mem_filter];refine ⟨hn,?_⟩;rw[hsn];simpa using e
end
end
section
open Go.RowKit Go.Shelf
attribute [local go_sem] Oper.semAt_some
def G9 (R:Nat × List Nk) (N:Nat):Int × List Nk:=
 if dm (R.1:Int) R.2=true then ((G7 (R.1:Int) R.2 N).1,R.2.take (G7 (R.1:Int) R.2 N).2) else (0,[])
def encR (x:Int × List Nk):List UInt8 × Nat:=if dm x.1 x.2=true then (Cs x.1.toNat x.2,0) else ([],2)
def fG (c:Cf) (st:Rc) (now n:Int):Rc × List UInt8 × Nat:=
 if n<0 then (st,[],2)
 else if (dI c st now).due=false∨(dI c st now).now<(dI c st now).D8∨n<2 then (dI c st now,[],0)
 else ({dI c st now with due:=false,D8:=IntKind.i64.wrap ((dI c st now).now+c.gP)},(encR (G9 (uo (dI c st now)) n.toNat)).1,(encR (G9 (uo (dI c st now)) n.toNat)).2)
theorem uP (c:Cf) (st:Rc) (now:Int):(dI c st now).m=st.m:=by
 unfold dI;split
 ·rfl
 ·unfold vR;dsimp only;split<;>rfl
section
variable (w:World)
theorem Ql (R:Nat × List Nk) (A:Option Addr) (c:Nat) (h:bM w A R.2.length c R.2) (N:Nat) (hN:2≤N):
 Calls Tryz.prog 82 #[.agg #[.int .i64 (R.1:Int),.slice A R.2.length c],.int .i64 (N:Int)] w fun e w'=>∃A' c' er,e= .returned (.tuple #[.agg #[.int .i64 (G9 R N).1,.slice A' (G9 R N).2.length c'],.int .i64 er])∧bM w' A' (G9 R N).2.length c' (G9 R N).2∧(∀ad,A'=some ad→w.heap.size≤ad.block)∧Below w.heap.size w w':=by
 unfold G9;cases hv:dm (R.1:Int) R.2 with
 |true=>
  refine (TV w (R.1:Int) A R.2.length c R.2 h hv N hN).mono ?_;rintro e w' ⟨A',c',rfl,h1,h3,h2⟩;have hl:=h1.len;rw[if_pos rfl];dsimp only;rw[hl];exact ⟨A',c',_,rfl,h1,h3,h2⟩
 |false=>
  refine (Qk w (R.1:Int) A R.2.length c R.2 h hv N).mono ?_;rintro e w' ⟨rfl,h2⟩;rw[if_neg (by simp)];exact ⟨none,0,_,rfl,⟨rfl,aN,by omega,fun h0=>by simp at h0⟩,fun ad e=>(by cases e),h2⟩
theorem He (x:Int × List Nk) (A:Option Addr) (c:Nat) (h:bM w A x.2.length c x.2):
 Calls Tryz.prog 83 #[.agg #[.int .i64 x.1,.slice A x.2.length c]] w (pX w.heap.size 5 w (encR x).1.length (bO (encR x).1) ((encR x).2:Nat)):=by
 unfold encR;cases hv:dm x.1 x.2 with
 |true=>
  obtain ⟨a,l⟩:=x;dsimp only at hv h ⊢;have h0:0≤a:=by
   have h1:=hv;unfold dm at h1;simp only[Bool.and_eq_true,decide_eq_true_eq] at h1;exact h1.1.1
  obtain ⟨a,rfl⟩:=Int.eq_ofNat_of_zero_le h0;rw[if_pos rfl];exact I1 w a A l.length c l h hv
 |false=>
  refine (FJ w x.1 A x.2.length c x.2 h hv).mono ?_;rintro e w' ⟨rfl,h2⟩;rw[if_neg (by simp)];exact ⟨_,rfl,World.ownsRow_nil _ _ _ _,h2⟩
end
section
variable {w w':World} {T:Nat→Nat} {g M n:Nat} {c:Cf} {st:Rc} {vo:Value}
def afY (w:World) (T:Nat→Nat) (g M n:Nat) (c:Cf) (vo:Value) (R:Rc × List UInt8 × Nat) (e:Ending) (w':World):Prop:=
 ∃v,e= .returned (.tuple #[v,.int .i64 (R.2.2:Nat)])∧w'.ownsRow w.heap.size 5 1 v R.2.1.length (bO R.2.1)∧gI w' T g M n c R.1 vo∧Kept (MT T) w w'
set_option maxRecDepth 100000 in
set_option maxHeartbeats 4000000 in
theorem J3 (h:gI w T g M n c st vo) (ho:dP st) (hz:sU st) (hcf:YZ c) (now:Int) (eP:now≤9223372036854775807) (N:Int) (hN:N≤9223372036854775807):
 Calls Tryz.prog 54 #[.pointer (some ⟨g,0,none⟩),.int .i64 now,.int .i64 N] w (afY w T g M n c vo (fG c st now N)):=by
 have J2:=ah (nE h);have rH:=ah (wm h ho hcf now eP);have HH:=ah h;have HO:=ah (ho.goes c eP);have HZ:=ah (show sU (dI c st now) from fun k p hp=>hz k p (by rw[←uP c st now];exact hp));obtain ⟨R,hR⟩:∃R,fG c st now N=R:=⟨_,rfl⟩
 rw[hR];unfold fG at hR;clear h ho hz;by_cases h0:N<0
 ·rw[if_pos h0] at hR;subst hR;clear HO HZ rH;go_enter Tryz.func54,Tryz.ntmps54;go_wp2_with (go_at_call 79;refine J2.out.mono ?_;rintro e1 w1 ⟨rfl,rfl⟩)
  go_ret2
  exact ⟨_,rfl,World.ownsRow_nil _ _ _ _,HH.out,Kept.refl _ _⟩
 ·rw[if_neg h0] at hR;have d0:decide (N<0)=false:=decide_eq_false h0;clear HH;obtain ⟨s1,hs1⟩:∃s1,dI c st now=s1:=⟨_,rfl⟩
  rw[hs1] at hR rH HO HZ;clear hs1;go_enter Tryz.func54,Tryz.ntmps54;go_wp2_with fail;refine J2.out.mono ?_;rintro e1 w1 ⟨rfl,rfl⟩;clear J2;go_wp2_with fail;refine rH.out.mono ?_;rintro e2 w1 ⟨rfl,oV,hK1⟩;obtain ⟨x3,x4,x7,x8,x9,x10,vF,FB,Q8,CB,Sv,Q9,OZ,x18⟩:=oV.cells;clear x3 x7 x8 x9 x10 vF FB Q8 OZ x18;cases hd:s1.due with
  |false=>
   rw[hd] at CB;rw[if_pos (.inl hd)] at hR;subst hR;clear HO HZ rH;have HR1:=ah oV;have tJ:=ah hK1;clear oV hK1;go_wp2_with fail
   go_quiet (fail)
   go_wp2_with fail
   go_ret2
   exact ⟨_,rfl,World.ownsRow_nil _ _ _ _,HR1.out.drewN nq,tJ.out.drewN nq⟩
  |true=>
   rw[hd] at CB;by_cases hlt:s1.now<s1.D8
   ·rw[if_pos (.inr (.inl hlt))] at hR;subst hR;clear HO HZ rH;have HR1:=ah oV;have tJ:=ah hK1;clear oV hK1;go_wp2_with fail
    go_quiet (fail)
    go_wp2_with fail
    go_ret2
    exact ⟨_,rfl,World.ownsRow_nil _ _ _ _,HR1.out.drewN nq,tJ.out.drewN nq⟩
   ·have dlt:decide (s1.now<s1.D8)=false:=decide_eq_false hlt;by_cases h2:N<2
    ·rw[if_pos (.inr (.inr h2))] at hR;subst hR;clear HO HZ rH;have HR1:=ah oV;have tJ:=ah hK1;clear oV hK1;go_wp2_with fail
     go_quiet (fail)
     go_wp2_with fail
     go_ret2
     exact ⟨_,rfl,World.ownsRow_nil _ _ _ _,HR1.out.drewN nq,tJ.out.drewN nq⟩
    ·have d2:decide (N<2)=false:=decide_eq_false h2;rw[if_neg (by rintro (h|h|h);rw[hd] at h;cases h;exact hlt h;exact h2 h)] at hR;obtain ⟨m,rfl⟩:=Int.eq_ofNat_of_zero_le (by omega:0≤N);have HR1:=ah oV;have tJ:=ah hK1;have HR:=ah hR;clear oV hK1 hR rH x4;go_wp2_with fail
     go_quiet (fail)
     have hR2:=HR1.out.drewN nq;have hK2:=tJ.out.drewN nq;clear HR1 tJ CB Sv Q9;generalize w1.drewN nq=w2 at*;have Qm:=ah (GY hR2 HO.out HZ.out);have HR2:=ah hR2;have wG:=ah hK2;clear hR2 hK2;obtain ⟨Q,hQ⟩:∃Q,uo s1=Q:=⟨_,rfl⟩
     rw[hQ] at Qm HR;clear hQ;go_wp2_with fail;refine Qm.out.mono ?_;rintro e3 w3 ⟨A3,c3,rfl,UC,_,hb3⟩;have hz3:=hb3.size;have HN3:=ah (UC.alloc (.cells #[.int .i64 (Q.1:Nat),.slice A3 Q.2.length c3] 133));have HB3:=ah (hb3.alloc hb3.size (.cells #[.int .i64 (Q.1:Nat),.slice A3 Q.2.length c3] 133));have xM:=ah (au.new w3 133 #[.int .i64 (Q.1:Nat),.slice A3 Q.2.length c3]);clear UC hb3 Qm;go_wp2_with fail;obtain ⟨w4,hw4⟩:∃w4,w3.alloc (.cells #[.int .i64 (Q.1:Nat),.slice A3 Q.2.length c3] 133)=w4:=⟨_,rfl⟩
     obtain ⟨z,hz⟩:∃z,w3.heap.size=z:=⟨_,rfl⟩
     have Yy:=ah (show w2.heap.size≤z by omega);rw[hw4] at HN3 HB3 xM ⊢;rw[hz] at xM ⊢;clear hz hw4 hz3;have hzl:=xM.out.lt;refine (Ql w4 Q A3 c3 HN3.out m (by omega)).mono ?_;rintro e4 w5 ⟨A5,c5,er,rfl,hN5,Md,hb5⟩;obtain ⟨X,hX⟩:∃X,G9 Q m=X:=⟨_,rfl⟩
     rw[hX] at hN5 ⊢;have h5:=xM.out.below hb5 xM.out.lt;have f0:=h5.frozen 0;have f1:=h5.frozen 1;have y0:=h5.cell 0;have y1:=h5.cell 1;simp at y0 y1;have hN6:=(hN5.o9 (b:=z) (o:=0) (fun ad e=>by have:=Md ad e;omega) (.int .i64 X.1)).o9 (b:=z) (o:=1) (fun ad e=>by have:=Md ad e;omega) (.slice A5 X.2.length c5);have h6:au ((w5.setCell ⟨z,0,none⟩ (.int .i64 X.1)).setCell ⟨z,1,none⟩ (.slice A5 X.2.length c5)) z 133 #[.int .i64 X.1,.slice A5 X.2.length c5]:=by simpa using (h5.av 0 (.int .i64 X.1)).av 1 (.slice A5 X.2.length c5)
     have hb6:Below w2.heap.size w2 ((w5.setCell ⟨z,0,none⟩ (.int .i64 X.1)).setCell ⟨z,1,none⟩ (.slice A5 X.2.length c5)):=((HB3.out.trans (hb5.mono HB3.out.size)).setCell (p:=⟨z,0,none⟩) Yy.out _).setCell (p:=⟨z,1,none⟩) Yy.out _;have aby:=ah (He _ X A5 c5 hN6);have Jw:=ah hb6;have c0:=h6.cell 0;have c1:=h6.cell 1;simp at c0 c1;have HQ:=ah hX;clear h5 h6 hN5 hN6 hb5 hb6 Md hX xM HB3 HN3 hzl;go_wp2_with fail;refine aby.out.mono ?_;rintro e7 w7 ⟨v,rfl,hv7,pz⟩;have XR:=Jw.out.trans (pz.mono Jw.out.size);have uQ:=HR2.out.below XR;have OA:=wG.out.trans (qm XR);have abz:=aU (base':=w.heap.size) hv7 (by have:=Jw.out.size;have:=wG.out.size;omega);have Y0:=ah uQ;have NA:=ah OA;have HV7:=ah abz;have f14:=uQ.blk.frozen 14;have f15:=uQ.blk.frozen 15;obtain ⟨x3,x4,x7,x8,x9,x10,vF,FB,Q8,CB,Sv,Q9,OZ,x18⟩:=uQ.cells;clear x3 x7 x8 x9 x10 vF FB Q8 OZ x18 uQ OA abz hv7 pz XR aby Jw HR2 wG c0 c1 f0 f1 y0 y1;go_wp2_with fail
     go_region
     all_goals
      go_wp2_with fail
      go_ret2
      have Bp:=HR.out;rw[Int.toNat_natCast,HQ.out] at Bp;rw[←Bp];rw[show wrap64 (s1.now+c.gP)=IntKind.i64.wrap (s1.now+c.gP) by rw[IntKind.wrap_i64];unfold wrap64;rfl];have p1:=Y0.out.put 14 (.bool false) (st':= {s1 with due:=false}) rfl rfl rfl;have p2:=p1.put 15 (.int .i64 (IntKind.i64.wrap (s1.now+c.gP))) (st':= {s1 with due:=false,D8:=IntKind.i64.wrap (s1.now+c.gP)}) rfl rfl rfl;have v1:=ownsRow_setCell_other (a:=⟨g,14,none⟩) HV7.out (gG HV7.out Y0.out.blk (by decide)) (.bool false);have v2:=ownsRow_setCell_other (a:=⟨g,15,none⟩) v1 (gG v1 p1.blk (by decide)) (.int .i64 (IntKind.i64.wrap (s1.now+c.gP)));have ht:∀o:Obj,MT T g o:=fun o=>by unfold MT;rw[Y0.out.tg];omega
      have k2:=((NA.out.setCell (p:=⟨g,14,none⟩) (fun o _=>ht o) (.bool false)).setCell (p:=⟨g,15,none⟩) (fun o _=>ht o) (.int .i64 (IntKind.i64.wrap (s1.now+c.gP)))).drew;exact ⟨v,rfl,v2.drew',p2.drew,k2⟩
end
end
end Go.Proofs.YtbhiklnljiehiaaGreat
