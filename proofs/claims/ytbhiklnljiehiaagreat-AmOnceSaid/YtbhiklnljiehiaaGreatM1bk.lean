/- amrecv: New: its configuration. -/
import Derived.Test.YtbhiklnljiehiaaGreatM1be
import Derived.Test.YtbhiklnljiehiaaGreatM1bj
namespace Go.Proofs.YtbhiklnljiehiaaGreat.Rq
open Go.RowKit Go.Shelf
attribute [local go_sem] Oper.semAt_some
theorem FP (lo hi x:Int) (a b:Nat) (w:World) (ha:w.cell? ⟨a,0,none⟩=some (.int .i64 lo)) (hb:w.cell? ⟨b,0,none⟩=some (.int .i64 hi)):Calls Tryz.prog 200 #[.int .i64 x,.pointer (some ⟨a,0,none⟩),.pointer (some ⟨b,0,none⟩)] w fun e w'=>e= .returned (.bool (outside lo hi x))∧w=w':=by
 by_cases h1:x<lo
 ·have e1:outside lo hi x=true:=by simp[outside,h1]
  have H1:=ah e1;clear e1;go_enter Tryz.func200,Tryz.ntmps200;go_wp2;go_ret;exact ⟨bR H1.out.symm,rfl⟩
 ·have h1':decide (x<lo)=false:=by simpa using h1
  have e1:decide (hi<x)=outside lo hi x:=by simp[outside,h1']
  have H1:=ah e1;clear e1;go_enter Tryz.func200,Tryz.ntmps200;go_wp2;go_ret;exact ⟨bR H1.out,rfl⟩
theorem FQ (lo hi:Int) (a b r n:Nat) (xs:List Int) (w:World) (hn:xs.length=n) (hsm:n≤1000) (hr:au w r 3 (ints xs).toArray) (ha:w.cell? ⟨a,0,none⟩=some (.int .i64 lo)) (hb:w.cell? ⟨b,0,none⟩=some (.int .i64 hi)):
 Calls Tryz.prog 219 #[.slice (some ⟨r,0,none⟩) n n,.func (.func 200) #[] #[.pointer (some ⟨a,0,none⟩),.pointer (some ⟨b,0,none⟩)]] w (VF (xs.any (outside lo hi)) w):=by
 have HC:=ah fun x=>FP lo hi x a b w ha hb
 have HL:=ah hn;clear hn ha hb;go_enter Tryz.func219,Tryz.ntmps219;go_wp2
 go_loop [8] (fun i=>∃k:Nat,k≤n∧i= .int .i64 k∧(xs.take k).any (outside lo hi)=false) (fun i=>n-(intOf i).toNat)
 case atStart=>exact ⟨0,Nat.zero_le _,rfl,by simp⟩
 case round=>
  obtain ⟨k,hk,rfl,hall⟩:=hrel;have HA:=ah hall;clear hall;by_cases hlt:k<n
  ·have hkl:k<xs.length:=by rw[HL.out];exact hlt
   obtain ⟨x,hx⟩:∃x,xs[k]? =some x:=⟨_,List.getElem?_eq_getElem hkl⟩
   have hcell:=hr.cell k;rw[List.getElem?_toArray,ints,List.getElem?_map,hx] at hcell;simp at hcell;have htk:xs.take (k+1)=xs.take k++ [x]:=by rw[List.take_add_one,hx];rfl
   have hin:x∈xs:=List.mem_of_getElem? hx;have HT:=ah htk;have HI:=ah hin;have hcx:=HC.out x;clear htk hin hkl hx;cases hq:outside lo hi x with
   |false=>
    rw[hq] at hcx;have HQ:=ah hq;have HX:=ah hcx;clear hq hcx;go_wp2_with (go_at_call 200;refine HX.out.mono ?_;rintro e w' ⟨rfl,rfl⟩)
    go_round
    case rel=>exact ⟨k+1,by omega,by go_num,by rw[HT.out,List.any_append,HA.out];simp[HQ.out]⟩
    case measure=>simp[intOf];omega
   |true=>
    rw[hq] at hcx;have HQ:=ah hq;have HX:=ah hcx;clear hq hcx;go_wp2_with (go_at_call 200;refine HX.out.mono ?_;rintro e w' ⟨rfl,rfl⟩);go_ret;exact ⟨.inl ⟨k,rfl,by rw[List.any_eq_true];exact ⟨x,HI.out,HQ.out⟩⟩,rfl⟩
  ·have e:xs.take k=xs:=List.take_of_length_le (by rw[HL.out];omega);have hA:=HA.out;rw[e] at hA;have zy:=ah hA;clear hA e;go_wp2;go_ret;exact ⟨.inr ⟨rfl,zy.out⟩,rfl⟩
theorem uN (lo hi:Int) (a b r n:Nat) (xs:List Int) (w:World) (hn:xs.length=n) (hsm:n≤1000) (hr:au w r 3 (ints xs).toArray) (ha:w.cell? ⟨a,0,none⟩=some (.int .i64 lo)) (hb:w.cell? ⟨b,0,none⟩=some (.int .i64 hi)):
 Calls Tryz.prog 198 #[.slice (some ⟨r,0,none⟩) n n,.func (.func 200) #[] #[.pointer (some ⟨a,0,none⟩),.pointer (some ⟨b,0,none⟩)]] w fun e w'=>e= .returned (.bool (xs.any (outside lo hi)))∧w=w':=by
 have H:=ah (FQ lo hi a b r n xs w hn hsm hr ha hb);clear hr ha hb;go_enter Tryz.func198,Tryz.ntmps198;go_wp2_with fail;refine H.out.mono ?_;rintro e w' ⟨⟨k,rfl,he⟩|⟨rfl,he⟩,rfl⟩
 ·have HE:=ah he;clear he;go_wp2;go_ret;exact ⟨bR (by rw[HE.out]),rfl⟩
 ·have HE:=ah he;clear he;go_wp2;go_ret;exact ⟨bR (by rw[HE.out]),rfl⟩
theorem XZ (lo hi:Int) (r n:Nat) (xs:List Int) (w:World) (hn:xs.length=n) (hsm:n≤1000) (hr:au w r 3 (ints xs).toArray):
 Calls Tryz.prog 160 #[.int .i64 lo,.int .i64 hi,.slice (some ⟨r,0,none⟩) n n] w fun e w'=>e= .returned (.bool (!xs.any (outside lo hi)))∧Below w.heap.size w w':=by
 have ba:=(au.new w 3 #[.int .i64 lo]).alloc (.cells #[.int .i64 hi] 3);have bb:=au.new (w.alloc (.cells #[.int .i64 lo] 3)) 3 #[.int .i64 hi];have br:=(hr.alloc (.cells #[.int .i64 lo] 3)).alloc (.cells #[.int .i64 hi] 3);simp only[World.size_alloc] at bb;have ca:=ba.cell 0;have cb:=bb.cell 0;rw[List.getElem?_toArray] at ca cb;simp only[List.getElem?_cons_zero] at ca cb;have hc:=uN lo hi w.heap.size (w.heap.size+1) r n xs ((w.alloc (.cells #[.int .i64 lo] 3)).alloc (.cells #[.int .i64 hi] 3)) hn hsm br ca cb;have H:=ah hc;clear ba bb br ca cb hc hr;go_enter Tryz.func160,Tryz.ntmps160;go_wp2_with (go_at_call 198;refine H.out.mono ?_;rintro e w' ⟨rfl,rfl⟩);go_ret;exact ⟨rfl,((Below.refl _ _).alloc (aN) _).alloc (by simp) _⟩
theorem rO (lo hi:Int) (xs:List Int) (cs:Array Value) (hcs:cs=(ints xs).toArray) (n r:Nat) (hn:xs.length=n) (hsm:n≤1000) {w W:World} {g:Nat} {a0 a1 a2 a3 a4 a5 a6:Int} (h:sJ w g a0 a1 a2 a3 a4 a5 a6 W) (hr:W.heap.size=r):
 Calls Tryz.prog 160 #[.int .i64 lo,.int .i64 hi,.slice (some ⟨r,0,none⟩) n n] (W.alloc (.cells cs 3)) fun e w'=>e= .returned (.bool (within lo hi xs))∧sJ w g a0 a1 a2 a3 a4 a5 a6 w':=by
 subst hcs hr;refine (XZ lo hi W.heap.size n xs _ hn hsm (au.new W 3 _)).mono ?_;rintro e w' ⟨rfl,hk⟩;have hk2:=hk.mono (B':=w.heap.size) (by have:=h.2.size;simp;omega);have h0:=h.2.alloc h.2.size (.cells (ints xs).toArray 3);exact ⟨rfl,(h.1.alloc _).below hk (by have:=h.1.lt;simp;omega),h0.trans hk2⟩
theorem kX (lo hi x:Int) (r:Nat) {w W:World} {g:Nat} {a0 a1 a2 a3 a4 a5 a6:Int} (h:sJ w g a0 a1 a2 a3 a4 a5 a6 W) (hr:W.heap.size=r):
 Calls Tryz.prog 160 #[.int .i64 lo,.int .i64 hi,.slice (some ⟨r,0,none⟩) 1 1] (W.alloc (.cells #[.int .i64 x] 3)) fun e w'=>e= .returned (.bool (within lo hi [x]))∧sJ w g a0 a1 a2 a3 a4 a5 a6 w':=
 rO lo hi [x] _ rfl 1 r rfl (by decide) h hr
theorem kY (lo hi x y:Int) (r:Nat) {w W:World} {g:Nat} {a0 a1 a2 a3 a4 a5 a6:Int} (h:sJ w g a0 a1 a2 a3 a4 a5 a6 W) (hr:W.heap.size=r):
 Calls Tryz.prog 160 #[.int .i64 lo,.int .i64 hi,.slice (some ⟨r,0,none⟩) 2 2] (W.alloc (.cells #[.int .i64 x,.int .i64 y] 3)) fun e w'=>e= .returned (.bool (within lo hi [x,y]))∧sJ w g a0 a1 a2 a3 a4 a5 a6 w':=
 rO lo hi [x,y] _ rfl 2 r rfl (by decide) h hr
set_option maxRecDepth 100000 in
set_option maxHeartbeats 1000000 in
theorem FR (a0 a1 a2 a3 a4 a5 a6:Int) (w:World):Calls Tryz.prog 114 #[.agg (wK a0 a1 a2 a3 a4 a5 a6)] w fun e w'=>e= .returned (.bool (dR a0 a1 a2 a3 a4 a5 a6))∧Below w.heap.size w w':=by
 have hc:=sJ.new w a0 a1 a2 a3 a4 a5 a6;obtain ⟨b,hb⟩:∃b,dR a0 a1 a2 a3 a4 a5 a6=b:=⟨_,rfl⟩
 rw[hb];unfold dR at hb;unfold wK;go_enter Tryz.func114,Tryz.ntmps114;go_wp2_with fail;have hz:=World.size_alloc w (.cells #[.int .i64 a0,.int .i64 a1,.int .i64 a2,.int .i64 a3,.int .i64 a4,.int .i64 a5,.int .i64 a6] 23);generalize w.alloc (.cells #[.int .i64 a0,.int .i64 a1,.int .i64 a2,.int .i64 a3,.int .i64 a4,.int .i64 a5,.int .i64 a6] 23)=w0 at*;obtain ⟨x0,x1,x2,x3,x4,x5,x6⟩:=hc.seven;cases h1:within 0 1024 [a0] with
 |false=>
  simp[h1] at hb;subst hb;go_wp2_with (go_at_call 160;first
   |((with_reducible refine (kY _ _ _ _ _ (by assumption) (by first|assumption|exact rfl)).mono ?_);rintro e w9 ⟨rfl,hc⟩;obtain ⟨x0,x1,x2,x3,x4,x5,x6⟩:=hc.seven)
   |((with_reducible refine (kX _ _ _ _ (by assumption) (by first|assumption|exact rfl)).mono ?_);rintro e w9 ⟨rfl,hc⟩;obtain ⟨x0,x1,x2,x3,x4,x5,x6⟩:=hc.seven))
  go_ret;exact ⟨rfl,(by assumption:sJ w _ a0 a1 a2 a3 a4 a5 a6 _).2⟩
 |true=>
 cases h2:within 0 1048576 [a1] with
 |false=>
  simp[h1,h2] at hb;subst hb;go_wp2_with (go_at_call 160;first
   |((with_reducible refine (kY _ _ _ _ _ (by assumption) (by first|assumption|exact rfl)).mono ?_);rintro e w9 ⟨rfl,hc⟩;obtain ⟨x0,x1,x2,x3,x4,x5,x6⟩:=hc.seven)
   |((with_reducible refine (kX _ _ _ _ (by assumption) (by first|assumption|exact rfl)).mono ?_);rintro e w9 ⟨rfl,hc⟩;obtain ⟨x0,x1,x2,x3,x4,x5,x6⟩:=hc.seven))
  go_ret;exact ⟨rfl,(by assumption:sJ w _ a0 a1 a2 a3 a4 a5 a6 _).2⟩
 |true=>
 cases h3:within 1 1048576 [a2] with
 |false=>
  simp[h1,h2,h3] at hb;subst hb;go_wp2_with (go_at_call 160;first
   |((with_reducible refine (kY _ _ _ _ _ (by assumption) (by first|assumption|exact rfl)).mono ?_);rintro e w9 ⟨rfl,hc⟩;obtain ⟨x0,x1,x2,x3,x4,x5,x6⟩:=hc.seven)
   |((with_reducible refine (kX _ _ _ _ (by assumption) (by first|assumption|exact rfl)).mono ?_);rintro e w9 ⟨rfl,hc⟩;obtain ⟨x0,x1,x2,x3,x4,x5,x6⟩:=hc.seven))
  go_ret;exact ⟨rfl,(by assumption:sJ w _ a0 a1 a2 a3 a4 a5 a6 _).2⟩
 |true=>
 cases h4:within 0 1048576 [a3,a4] with
 |false=>
  simp[h1,h2,h3,h4] at hb;subst hb;go_wp2_with (go_at_call 160;first
   |((with_reducible refine (kY _ _ _ _ _ (by assumption) (by first|assumption|exact rfl)).mono ?_);rintro e w9 ⟨rfl,hc⟩;obtain ⟨x0,x1,x2,x3,x4,x5,x6⟩:=hc.seven)
   |((with_reducible refine (kX _ _ _ _ (by assumption) (by first|assumption|exact rfl)).mono ?_);rintro e w9 ⟨rfl,hc⟩;obtain ⟨x0,x1,x2,x3,x4,x5,x6⟩:=hc.seven))
  go_ret;exact ⟨rfl,(by assumption:sJ w _ a0 a1 a2 a3 a4 a5 a6 _).2⟩
 |true=>
 cases h5:within 0 64 [a5] with
 |false=>
  simp[h1,h2,h3,h4,h5] at hb;subst hb;go_wp2_with (go_at_call 160;first
   |((with_reducible refine (kY _ _ _ _ _ (by assumption) (by first|assumption|exact rfl)).mono ?_);rintro e w9 ⟨rfl,hc⟩;obtain ⟨x0,x1,x2,x3,x4,x5,x6⟩:=hc.seven)
   |((with_reducible refine (kX _ _ _ _ (by assumption) (by first|assumption|exact rfl)).mono ?_);rintro e w9 ⟨rfl,hc⟩;obtain ⟨x0,x1,x2,x3,x4,x5,x6⟩:=hc.seven))
  go_ret;exact ⟨rfl,(by assumption:sJ w _ a0 a1 a2 a3 a4 a5 a6 _).2⟩
 |true=>
 have h6:within 1 1048576 [a6]=b:=by simpa[h1,h2,h3,h4,h5] using hb
 clear hb;go_wp2_with (go_at_call 160;first
  |((with_reducible refine (kY _ _ _ _ _ (by assumption) (by first|assumption|exact rfl)).mono ?_);rintro e w9 ⟨rfl,hc⟩;obtain ⟨x0,x1,x2,x3,x4,x5,x6⟩:=hc.seven)
  |((with_reducible refine (kX _ _ _ _ (by assumption) (by first|assumption|exact rfl)).mono ?_);rintro e w9 ⟨rfl,hc⟩;obtain ⟨x0,x1,x2,x3,x4,x5,x6⟩:=hc.seven))
 go_ret;exact ⟨rfl,(by assumption:sJ w _ a0 a1 a2 a3 a4 a5 a6 _).2⟩
end Go.Proofs.YtbhiklnljiehiaaGreat.Rq
namespace Go.Proofs.YtbhiklnljiehiaaGreat
open Go.RowKit Go.Shelf
attribute [local go_sem] Oper.semAt_some
def ahY (w:World) (a0 a1 a2 a3 a4 a5 a6:Int) (e:Ending) (w':World):Prop:=
 Below w.heap.size w w'∧
  (
   (dR a0 a1 a2 a3 a4 a5 a6=true∧∃g M T,e= .returned (.tuple #[.pointer (some ⟨g,0,none⟩),.int .i64 0])∧iC w' T g M 0 ⟨a0,a1,a2,a3,a4,a5,a6⟩ gq (.slice none 0 0)∧∀k,T k≠0→w.heap.size≤k)∨
   (dR a0 a1 a2 a3 a4 a5 a6=false∧e= .returned (.tuple #[.pointer none,.int .i64 2])))
set_option maxRecDepth 100000 in
theorem QV (a0 a1 a2 a3 a4 a5 a6:Int) (w:World):Calls Tryz.prog 73 #[.agg (wK a0 a1 a2 a3 a4 a5 a6)] w (ahY w a0 a1 a2 a3 a4 a5 a6):=by
 have hmm:= @run_makeMap Tryz.prog;have hc:=sJ.new w a0 a1 a2 a3 a4 a5 a6;have hcall:=fun W=>Rq.FR a0 a1 a2 a3 a4 a5 a6 W
 obtain ⟨b,hb⟩:∃b,dR a0 a1 a2 a3 a4 a5 a6=b:=⟨_,rfl⟩
 simp only[hb] at hcall;have HB:=ah hb;clear hb;unfold wK at*;have hz:=World.size_alloc w (.cells #[.int .i64 a0,.int .i64 a1,.int .i64 a2,.int .i64 a3,.int .i64 a4,.int .i64 a5,.int .i64 a6] 23);have x:=hc.seven;obtain ⟨x0,x1,x2,x3,x4,x5,x6⟩:=x;have HC:=ah hc;have zN:=ah hcall;clear hc hcall;go_enter Tryz.func73,Tryz.ntmps73;go_wp2_with fail;generalize w.alloc (.cells #[.int .i64 a0,.int .i64 a1,.int .i64 a2,.int .i64 a3,.int .i64 a4,.int .i64 a5,.int .i64 a6] 23)=w0 at*;refine (zN.out _).mono ?_;rintro e1 w1 ⟨rfl,hb1⟩;have hc1:sJ w w.heap.size a0 a1 a2 a3 a4 a5 a6 w1:=⟨HC.out.1.below hb1 HC.out.1.lt,HC.out.2.trans (hb1.mono HC.out.2.size)⟩;obtain ⟨y0,y1,y2,y3,y4,y5,y6⟩:=hc1.seven;have Ot:=ah hc1;clear x0 x1 x2 x3 x4 x5 x6 hb1 hc1;cases b with
 |true=>
  go_wp2
  go_ret2
  have hsz:=Ot.out.2.size;have ahZ:=(jk.made Tryz.prog 3 w1);refine ⟨((Ot.out.2.alloc Ot.out.2.size _).alloc (by simp;omega) _),.inl ⟨HB.out,w1.heap.size+1,w1.heap.size,fun k=>if k=w1.heap.size+1 then 1 else if k=w1.heap.size then 2 else 0,by simp,?_,fun k hk=> ?_⟩⟩
  ·have hb:=au.new (w1.alloc (.map #[] 0)) 130 (MV ⟨a0,a1,a2,a3,a4,a5,a6⟩ w1.heap.size (.slice none 0 0) gq);rw[World.size_alloc] at hb;refine ⟨hb,if_pos rfl,?_,fun k hk=> ?_,World.ownsRow_nil _ _ _ _,fun k e=>by simp[Value.ownBlock] at e,fun _=>none,?_,fun k=>⟨fun _=>rfl,fun p hp=>by simp[gq] at hp⟩⟩
   ·show (if _ then _ else _)=_
    rw[if_neg (by omega),if_pos rfl]
   ·simp only[World.size_alloc];split at hk
    ·omega
    ·split at hk
     ·omega
     ·exact absurd rfl hk
   ·exact ahZ.same (Below.heap_alloc _ _ _ (by simp))
  ·dsimp only at hk;split at hk
   ·omega
   ·split at hk
    ·omega
    ·exact absurd rfl hk
 |false=>
  go_wp2
  go_ret2
  exact ⟨Ot.out.2,.inr ⟨HB.out,rfl⟩⟩
end Go.Proofs.YtbhiklnljiehiaaGreat
namespace Go.Proofs.YtbhiklnljiehiaaGreat
section
open Go.RowKit Go.Shelf
attribute [local go_sem] Oper.semAt_some
section
variable {w w':World} {v:Value}
end
end
section
theorem iJ (x:List UInt8) (r:List (List UInt8)):aj (x::r)=x.length+aj r:=by simp[aj]
structure K9 (left:List (List UInt8)) (sent:Nat):Prop where
 lt:∀x r,left=x::r→sent<x.length
 z:left= []→sent=0
 len:∀s∈left,1≤s.length∧s.length≤60
theorem K9.step {left:List (List UInt8)} {sent:Nat} (h:K9 left sent) (n:Int) (f:Nat):K9 (kG n f left sent 0 0 0 false).2.2.1 (kG n f left sent 0 0 0 false).2.2.2:=by
 have hk:=EZ n f left sent 0 0 0 false (fun s hs=>(h.len s hs).1) h.lt h.z;refine ⟨hk.lt_,hk.z_,fun s hs=> ?_⟩;by_cases hne:(kG n f left sent 0 0 0 false).1= []
 ·have:=hk.none_ hne;rw[this] at hs;exact h.len s hs
 ·obtain ⟨g,hg,_⟩:=hk.some_ hne;exact h.len s (by rw[hg];simp[hs])
theorem EJ (n:Int):∀(f:Nat) (left:List (List UInt8)) (sent cnt ji size:Nat) (e:Bool),(∀s∈left,s.length≤60)→∀q∈(kG n f left sent cnt ji size e).1,q.length≤60
 |0,left,sent,cnt,ji,size,e,_=>by rw[kG];simp
 |f+1,[],sent,cnt,ji,size,e,_=>by rw[kG];simp
 |f+1,x::rest,sent,cnt,ji,size,e,h=>by
  have hx:=h x (by simp);rw[kG];split
  ·simp
  split
  ·simp
  split
  ·intro q hq;simp only[List.mem_cons,List.not_mem_nil,or_false] at hq;rw[hq,List.length_take,List.length_drop];omega
  ·intro q hq;simp only[List.mem_cons] at hq;rcases hq with rfl|hq
   ·rw[List.length_drop];omega
   ·exact EJ n f rest 0 _ _ _ true (fun s hs=>h s (by simp[hs])) q hq
theorem sM:∀(l:List (List UInt8)) (t k:Nat),aI l (t+k)=aI (aI l t).1 ((aI l t).2+k)
 | [],t,k=>by simp[aI]
 |x::r,t,k=>by
  by_cases h:x.length≤t
  ·have e:aI (x::r) t=aI r (t-x.length):=by rw[aI,if_pos h]
   rw[e,←sM r (t-x.length) k,aI,if_pos (by omega),show t+k-x.length=t-x.length+k by omega]
  ·have e:aI (x::r) t=(x::r,t):=by rw[aI,if_neg h]
   rw[e]
theorem sN {l:List (List UInt8)} {s:Nat} (h:∀x r,l=x::r→s<x.length):aI l s=(l,s):=by
 cases l with
 |nil=>rfl
 |cons x r=>rw[aI,if_neg (by have:=h x r rfl;omega)]
theorem Je (n:Int):∀(f:Nat) (left:List (List UInt8)) (sent cnt ji size:Nat) (e:Bool),(∀x r,left=x::r→sent<x.length)→(∀s∈left,1≤s.length)→
 aI left (sent+aj (kG n f left sent cnt ji size e).1)=(kG n f left sent cnt ji size e).2.2
 |0,left,sent,cnt,ji,size,e,h1,_=>by rw[kG];exact sN h1
 |f+1,[],sent,cnt,ji,size,e,h1,_=>by rw[kG];exact sN h1
 |f+1,x::rest,sent,cnt,ji,size,e,h1,h2=>by
  have hs:=h1 x rest rfl;rw[kG];split
  ·exact sN h1
  split
  ·exact sN h1
  generalize (min (n-iT ((cnt:Int)+1)) 32767-(size:Int)).toNat=room;split
  ·rename_i hlt;have hl:((x.drop sent).take room).length=room:=by rw[List.length_take,List.length_drop];omega
   simp only[aj,List.map_cons,List.map_nil,List.sum_cons,List.sum_nil,hl,Nat.add_zero];rw[aI,if_neg (by omega)]
  ·have ih:=Je n f rest 0 (cnt+1) (x.length-sent) (size+(x.length-sent)) true (fun y r hy=>by have:=h2 y (by simp[hy]);omega) (fun s hm=>h2 s (by simp[hm]));dsimp only;rw[←ih,aI,if_pos (by rw[iJ,List.length_drop];omega)];rw[iJ,List.length_drop]
   congr 1
   omega
theorem Mg (n:Int):∀(f:Nat) (left:List (List UInt8)) (sent cnt ji size:Nat) (e:Bool),(∀x r,left=x::r→sent<x.length)→(left= []→sent=0)→(∀s∈left,1≤s.length)→
 sent+aj (kG n f left sent cnt ji size e).1≤aj left
 |0,left,sent,cnt,ji,size,e,h1,h2,_=>by
  rw[kG];cases left with
  |nil=>have:=h2 rfl;simp[aj];omega
  |cons x r=>have:=h1 x r rfl;rw[iJ];simp[aj];omega
 |f+1,[],sent,cnt,ji,size,e,_,h2,_=>by rw[kG];have:=h2 rfl;simp[aj];omega
 |f+1,x::rest,sent,cnt,ji,size,e,h1,h2,h3=>by
  have hs:=h1 x rest rfl;have hr:aj (x::rest)=x.length+aj rest:=iJ x rest;have h0:aj ([]:List (List UInt8))=0:=rfl;rw[kG];split
  ·dsimp only;omega
  split
  ·dsimp only;omega
  generalize (min (n-iT ((cnt:Int)+1)) 32767-(size:Int)).toNat=room;split
  ·rename_i hlt;have hl:((x.drop sent).take room).length=room:=by rw[List.length_take,List.length_drop];omega
   simp only[iJ,hl];omega
  ·have ih:=Mg n f rest 0 (cnt+1) (x.length-sent) (size+(x.length-sent)) true (fun y r hy=>by have:=h3 y (by simp[hy]);omega) (fun _=>rfl) (fun s hm=>h3 s (by simp[hm]));dsimp only;rw[iJ,List.length_drop];omega
section
variable {sizes:List UInt8} {aO:List (List UInt8)} {i:Nat} {st:Sd}
end
end
section
open Go.RowKit Go.Shelf
attribute [local go_sem] Oper.semAt_some
section
variable {D F:Nat→Prop} {g:Nat} {c:Cf} {st:Sd} {vq vo:Value} {vs os:List Value} {w:World}
end
end
end Go.Proofs.YtbhiklnljiehiaaGreat
