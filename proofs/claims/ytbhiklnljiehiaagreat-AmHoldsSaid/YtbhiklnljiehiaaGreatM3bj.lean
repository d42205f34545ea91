/- amrecv: New: its configuration. -/
import Derived.Test.YtbhiklnljiehiaaGreatM3bd
import Derived.Test.YtbhiklnljiehiaaGreatM3bg
import Derived.Test.YtbhiklnljiehiaaGreatM3bh
set_option maxHeartbeats 1000000
set_option maxRecDepth 100000
namespace Go.Proofs.YtbhiklnljiehiaaGreat
open RowKit Shelf Tryz
attribute [local go_sem] Oper.semAt_some
namespace Rq
theorem KT (lo hi x:Int) (a b:Nat) (w:World) (ha:w.cell? a=some (.int .i64 lo)) (hb:w.cell? b=some (.int .i64 hi)):Calls prog 200 #[x,.pointer (some a),.pointer (some b)] w fun e w'=>e= .returned (.bool (outside lo hi x))/\w=w':=by
 by_cases h1:x<lo
 ·have e1:outside lo hi x=true:=by simp[outside,h1]
  have H1:=ah e1;clear e1;go_enter func200,ntmps200;go_wp2;go_ret;exact ⟨dm H1.out.symm,rfl⟩
 ·have h1':decide (x<lo)=false:=by simpa using h1
  have e1:decide (hi<x)=outside lo hi x:=by simp[outside,h1']
  have H1:=ah e1;clear e1;go_enter func200,ntmps200;go_wp2;go_ret;exact ⟨dm H1.out,rfl⟩
theorem KU (lo hi:Int) (a b r n:Nat) (xs:List Int) (w:World) (hn:xs.length=n) (hsm:n<=1000) (hr:av w r 3 (ints xs).toArray) (ha:w.cell? a=some (.int .i64 lo)) (hb:w.cell? b=some (.int .i64 hi)):
 Calls prog 219 #[.slice (some ⟨r,0,none⟩) n n,.func (.func 200) #[] #[.pointer (some a),.pointer (some b)]] w (aau (xs.any (outside lo hi)) w):=by
 have HC:=ah fun x=>KT lo hi x a b w ha hb
 have HL:=ah hn;clear hn ha hb;go_enter func219,ntmps219;go_wp2
 go_loop [8] (fun i=>∃k:Nat,k<=n/\i= .int .i64 k/\(xs.take k).any (outside lo hi)=false) (fun i=>n-(intOf i).toNat)
 case atStart=>exact ⟨0,eH _,rfl,by simp⟩
 case round=>
  obtain ⟨k,hk,rfl,hall⟩:=hrel;have HA:=ah hall;clear hall;by_cases hlt:k<n
  ·have hkl:k<xs.length:=by rw[HL.out];exact hlt
   obtain ⟨x,hx⟩:∃x,xs[k]? =some x:=⟨_,gX hkl⟩
   have hcell:=hr.cell k;rw[nW,ints,oW,hx] at hcell;simp at hcell;have htk:xs.take (k+1)=xs.take k++ [x]:=by rw[pX,hx];rfl
   have hin:x∈xs:=iT hx;have HT:=ah htk;have HI:=ah hin;have hcx:=HC.out x;clear htk hin hkl hx;cases hq:outside lo hi x with
   |false=>
    rw[hq] at hcx;have HQ:=ah hq;have HX:=ah hcx;clear hq hcx;go_wp2_with (go_at_call 200;refine HX.out.mono ?_;rintro e w' ⟨rfl,rfl⟩)
    go_round
    case rel=>exact ⟨k+1,by omega,by go_num,by rw[HT.out,List.any_append,HA.out];simp[HQ.out]⟩
    case measure=>simp[intOf];omega
   |true=>
    rw[hq] at hcx;have HQ:=ah hq;have HX:=ah hcx;clear hq hcx;go_wp2_with (go_at_call 200;refine HX.out.mono ?_;rintro e w' ⟨rfl,rfl⟩);go_ret;exact ⟨.inl ⟨k,rfl,by rw[Eu];exact ⟨x,HI.out,HQ.out⟩⟩,rfl⟩
  ·have e:xs.take k=xs:=kI (by rw[HL.out];omega);have hA:=HA.out;rw[e] at hA;have DU:=ah hA;clear hA e;go_wp2;go_ret;exact ⟨.inr ⟨rfl,DU.out⟩,rfl⟩
theorem yY (lo hi:Int) (a b r n:Nat) (xs:List Int) (w:World) (hn:xs.length=n) (hsm:n<=1000) (hr:av w r 3 (ints xs).toArray) (ha:w.cell? a=some (.int .i64 lo)) (hb:w.cell? b=some (.int .i64 hi)):
 Calls prog 198 #[.slice (some ⟨r,0,none⟩) n n,.func (.func 200) #[] #[.pointer (some a),.pointer (some b)]] w fun e w'=>e= .returned (.bool (xs.any (outside lo hi)))/\w=w':=by
 have H:=ah (KU lo hi a b r n xs w hn hsm hr ha hb);clear hr ha hb;go_enter func198,ntmps198;go_wp2_with fail;refine H.out.mono ?_;rintro e w' ⟨⟨k,rfl,he⟩|⟨rfl,he⟩,rfl⟩
 ·have HE:=ah he;clear he;go_wp2;go_ret;exact ⟨dm (by rw[HE.out]),rfl⟩
 ·have HE:=ah he;clear he;go_wp2;go_ret;exact ⟨dm (by rw[HE.out]),rfl⟩
theorem acw (lo hi:Int) (r n:Nat) (xs:List Int) (w:World) (hn:xs.length=n) (hsm:n<=1000) (hr:av w r 3 (ints xs).toArray):
 Calls prog 160 #[lo,hi,.slice (some ⟨r,0,none⟩) n n] w fun e w'=>e= .returned (.bool (!xs.any (outside lo hi)))/\Below w w w':=by
 have ba:=(av.new w 3 #[lo]).alloc (.cells #[hi] 3);have bb:=av.new (w.alloc (.cells #[lo] 3)) 3 #[hi];have br:=(hr.alloc (.cells #[lo] 3)).alloc (.cells #[hi] 3);simp only[mZ] at bb;have ca:=ba.cell 0;have cb:=bb.cell 0;rw[nW] at ca cb;simp only[oH] at ca cb;have hc:=yY lo hi w (w+1) r n xs ((w.alloc (.cells #[lo] 3)).alloc (.cells #[hi] 3)) hn hsm br ca cb;have H:=ah hc;clear ba bb br ca cb hc hr;go_enter func160,ntmps160;go_wp2_with (go_at_call 198;refine H.out.mono ?_;rintro e w' ⟨rfl,rfl⟩);go_ret;exact ⟨rfl,((bS _ _).alloc (aL) _).alloc (by simp) _⟩
theorem wO (lo hi:Int) (xs:List Int) (cs:Array Value) (hcs:cs=(ints xs).toArray) (n r:Nat) (hn:xs.length=n) (hsm:n<=1000) {w W:World} {g:Nat} {a0 a1 a2 a3 a4 a5 a6:Int} (h:xE w g a0 a1 a2 a3 a4 a5 a6 W) (hr:W.heap.size=r):
 Calls prog 160 #[lo,hi,.slice (some ⟨r,0,none⟩) n n] (W.alloc (.cells cs 3)) fun e w'=>e= .returned (.bool (within lo hi xs))/\xE w g a0 a1 a2 a3 a4 a5 a6 w':=by
 subst hcs hr;refine (acw lo hi W n xs _ hn hsm (av.new W 3 _)).mono ?_;rintro e w' ⟨rfl,hk⟩;have hk2:=hk.mono (B':=w.heap.size) (by have:=h.2.size;simp;omega);have h0:=h.2.alloc h.2.size (.cells (ints xs).toArray 3);exact ⟨rfl,(h.1.alloc _).below hk (by have:=h.1.lt;simp;omega),h0.trans hk2⟩
theorem nO (lo hi x:Int) (r:Nat) {w W:World} {g:Nat} {a0 a1 a2 a3 a4 a5 a6:Int} (h:xE w g a0 a1 a2 a3 a4 a5 a6 W) (hr:W.heap.size=r):
 Calls prog 160 #[lo,hi,.slice (some ⟨r,0,none⟩) 1 1] (W.alloc (.cells #[x] 3)) fun e w'=>e= .returned (.bool (within lo hi [x]))/\xE w g a0 a1 a2 a3 a4 a5 a6 w':=
 wO lo hi [x] _ rfl 1 r rfl (by decide) h hr
theorem nP (lo hi x y:Int) (r:Nat) {w W:World} {g:Nat} {a0 a1 a2 a3 a4 a5 a6:Int} (h:xE w g a0 a1 a2 a3 a4 a5 a6 W) (hr:W.heap.size=r):
 Calls prog 160 #[lo,hi,.slice (some ⟨r,0,none⟩) 2 2] (W.alloc (.cells #[x,y] 3)) fun e w'=>e= .returned (.bool (within lo hi [x,y]))/\xE w g a0 a1 a2 a3 a4 a5 a6 w':=
 wO lo hi [x,y] _ rfl 2 r rfl (by decide) h hr
theorem KV (a0 a1 a2 a3 a4 a5 a6:Int) (w:World):Calls prog 114 #[.agg (Be a0 a1 a2 a3 a4 a5 a6)] w fun e w'=>e= .returned (.bool (eU a0 a1 a2 a3 a4 a5 a6))/\Below w w w':=by
 have hc:=xE.new w a0 a1 a2 a3 a4 a5 a6;obtain ⟨b,hb⟩:∃b,eU a0 a1 a2 a3 a4 a5 a6=b:=⟨_,rfl⟩
 rw[hb];unfold eU at hb;unfold Be;go_enter func114,ntmps114;go_wp2_with fail;have hz:=mZ w (.cells #[a0,a1,a2,a3,a4,a5,a6] 23);generalize w.alloc (.cells #[a0,a1,a2,a3,a4,a5,a6] 23)=w0 at*;obtain ⟨x0,x1,x2,x3,x4,x5,x6⟩:=hc.seven;cases h1:within 0 1024 [a0] with
 |false=>
  simp[h1] at hb;subst hb;go_wp2_with (go_at_call 160;first
   |((with_reducible refine (nP _ _ _ _ _ (by assumption) (by first|assumption|exact rfl)).mono ?_);rintro e w9 ⟨rfl,hc⟩;obtain ⟨x0,x1,x2,x3,x4,x5,x6⟩:=hc.seven)
   |((with_reducible refine (nO _ _ _ _ (by assumption) (by first|assumption|exact rfl)).mono ?_);rintro e w9 ⟨rfl,hc⟩;obtain ⟨x0,x1,x2,x3,x4,x5,x6⟩:=hc.seven))
  go_ret;exact ⟨rfl,(by assumption:xE w _ a0 a1 a2 a3 a4 a5 a6 _).2⟩
 |true=>
 cases h2:within 0 1048576 [a1] with
 |false=>
  simp[h1,h2] at hb;subst hb;go_wp2_with (go_at_call 160;first
   |((with_reducible refine (nP _ _ _ _ _ (by assumption) (by first|assumption|exact rfl)).mono ?_);rintro e w9 ⟨rfl,hc⟩;obtain ⟨x0,x1,x2,x3,x4,x5,x6⟩:=hc.seven)
   |((with_reducible refine (nO _ _ _ _ (by assumption) (by first|assumption|exact rfl)).mono ?_);rintro e w9 ⟨rfl,hc⟩;obtain ⟨x0,x1,x2,x3,x4,x5,x6⟩:=hc.seven))
  go_ret;exact ⟨rfl,(by assumption:xE w _ a0 a1 a2 a3 a4 a5 a6 _).2⟩
 |true=>
 cases h3:within 1 1048576 [a2] with
 |false=>
  simp[h1,h2,h3] at hb;subst hb;go_wp2_with (go_at_call 160;first
   |((with_reducible refine (nP _ _ _ _ _ (by assumption) (by first|assumption|exact rfl)).mono ?_);rintro e w9 ⟨rfl,hc⟩;obtain ⟨x0,x1,x2,x3,x4,x5,x6⟩:=hc.seven)
   |((with_reducible refine (nO _ _ _ _ (by assumption) (by first|assumption|exact rfl)).mono ?_);rintro e w9 ⟨rfl,hc⟩;obtain ⟨x0,x1,x2,x3,x4,x5,x6⟩:=hc.seven))
  go_ret;exact ⟨rfl,(by assumption:xE w _ a0 a1 a2 a3 a4 a5 a6 _).2⟩
 |true=>
 cases h4:within 0 1048576 [a3,a4] with
 |false=>
  simp[h1,h2,h3,h4] at hb;subst hb;go_wp2_with (go_at_call 160;first
   |((with_reducible refine (nP _ _ _ _ _ (by assumption) (by first|assumption|exact rfl)).mono ?_);rintro e w9 ⟨rfl,hc⟩;obtain ⟨x0,x1,x2,x3,x4,x5,x6⟩:=hc.seven)
   |((with_reducible refine (nO _ _ _ _ (by assumption) (by first|assumption|exact rfl)).mono ?_);rintro e w9 ⟨rfl,hc⟩;obtain ⟨x0,x1,x2,x3,x4,x5,x6⟩:=hc.seven))
  go_ret;exact ⟨rfl,(by assumption:xE w _ a0 a1 a2 a3 a4 a5 a6 _).2⟩
 |true=>
 cases h5:within 0 64 [a5] with
 |false=>
  simp[h1,h2,h3,h4,h5] at hb;subst hb;go_wp2_with (go_at_call 160;first
   |((with_reducible refine (nP _ _ _ _ _ (by assumption) (by first|assumption|exact rfl)).mono ?_);rintro e w9 ⟨rfl,hc⟩;obtain ⟨x0,x1,x2,x3,x4,x5,x6⟩:=hc.seven)
   |((with_reducible refine (nO _ _ _ _ (by assumption) (by first|assumption|exact rfl)).mono ?_);rintro e w9 ⟨rfl,hc⟩;obtain ⟨x0,x1,x2,x3,x4,x5,x6⟩:=hc.seven))
  go_ret;exact ⟨rfl,(by assumption:xE w _ a0 a1 a2 a3 a4 a5 a6 _).2⟩
 |true=>
 have h6:within 1 1048576 [a6]=b:=by simpa[h1,h2,h3,h4,h5] using hb
 clear hb;go_wp2_with (go_at_call 160;first
  |((with_reducible refine (nP _ _ _ _ _ (by assumption) (by first|assumption|exact rfl)).mono ?_);rintro e w9 ⟨rfl,hc⟩;obtain ⟨x0,x1,x2,x3,x4,x5,x6⟩:=hc.seven)
  |((with_reducible refine (nO _ _ _ _ (by assumption) (by first|assumption|exact rfl)).mono ?_);rintro e w9 ⟨rfl,hc⟩;obtain ⟨x0,x1,x2,x3,x4,x5,x6⟩:=hc.seven))
 go_ret;exact ⟨rfl,(by assumption:xE w _ a0 a1 a2 a3 a4 a5 a6 _).2⟩
end Rq
def amP (w:World) (a0 a1 a2 a3 a4 a5 a6:Int) (e:Ending) (w':World):Prop:=
 Below w w w'/\
  (
   (eU a0 a1 a2 a3 a4 a5 a6=true/\∃g M T,e= .returned (.tuple #[.pointer (some ⟨g,0,none⟩),.int .i64 0])/\jo w' T g M 0 ⟨a0,a1,a2,a3,a4,a5,a6⟩ gL (.slice none 0 0)/\∀k,T k≠0->w.heap.size<=k)\/
   (eU a0 a1 a2 a3 a4 a5 a6=false/\e= .returned (.tuple #[.pointer none,.int .i64 2])))
theorem Wj (a0 a1 a2 a3 a4 a5 a6:Int) (w:World):Calls prog 73 #[.agg (Be a0 a1 a2 a3 a4 a5 a6)] w (amP w a0 a1 a2 a3 a4 a5 a6):=by
 have hmm:= @run_makeMap prog;have hc:=xE.new w a0 a1 a2 a3 a4 a5 a6;have hcall:=fun W=>Rq.KV a0 a1 a2 a3 a4 a5 a6 W
 obtain ⟨b,hb⟩:∃b,eU a0 a1 a2 a3 a4 a5 a6=b:=⟨_,rfl⟩
 simp only[hb] at hcall;have HB:=ah hb;clear hb;unfold Be at*;have hz:=mZ w (.cells #[a0,a1,a2,a3,a4,a5,a6] 23);have x:=hc.seven;obtain ⟨x0,x1,x2,x3,x4,x5,x6⟩:=x;have HC:=ah hc;have DL:=ah hcall;clear hc hcall;go_enter func73,ntmps73;go_wp2_with fail;generalize w.alloc (.cells #[a0,a1,a2,a3,a4,a5,a6] 23)=w0 at*;refine (DL.out _).mono ?_;rintro e1 w1 ⟨rfl,hb1⟩;have hc1:xE w w a0 a1 a2 a3 a4 a5 a6 w1:=⟨HC.out.1.below hb1 HC.out.1.lt,HC.out.2.trans (hb1.mono HC.out.2.size)⟩;obtain ⟨y0,y1,y2,y3,y4,y5,y6⟩:=hc1.seven;have TL:=ah hc1;clear x0 x1 x2 x3 x4 x5 x6 hb1 hc1;cases b with
 |true=>
  go_wp2
  go_ret2
  have hsz:=TL.out.2.size;have amQ:=(ku.made prog 3 w1);refine ⟨((TL.out.2.alloc TL.out.2.size _).alloc (by simp;omega) _),.inl ⟨HB.out,w1+1,w1,fun k=>if k=w1.heap.size+1 then 1 else if k=w1.heap.size then 2 else 0,by simp,?_,fun k hk=> ?_⟩⟩
  ·have hb:=av.new (w1.alloc (.map #[] 0)) 130 (Sc ⟨a0,a1,a2,a3,a4,a5,a6⟩ w1 (.slice none 0 0) gL);rw[mZ] at hb;refine ⟨hb,bD rfl,?_,fun k hk=> ?_,jl _ _ _ _,fun k e=>by simp[Value.ownBlock] at e,fun _=>none,?_,fun k=>⟨fun _=>rfl,fun p hp=>by simp[gL] at hp⟩⟩
   ·show (if _ then _ else _)=_
    rw[aP (by omega),bD rfl]
   ·simp only[mZ];split at hk
    ·omega
    ·split at hk
     ·omega
     ·exact absurd rfl hk
   ·exact amQ.same (yA _ _ _ (by simp))
  ·dsimp only at hk;split at hk
   ·omega
   ·split at hk
    ·omega
    ·exact absurd rfl hk
 |false=>
  go_wp2
  go_ret2
  exact ⟨TL.out.2,.inr ⟨HB.out,rfl⟩⟩
section
variable {w w':World} {v:Value}
end
theorem jy (x:List UInt8) (r:List (List UInt8)):aj (x::r)=x.length+aj r:=by simp[aj]
structure Pn (left:List (List UInt8)) (sent:Nat):Prop where
 lt:∀x r,left=x::r->sent<x.length
 z:left= []->sent=0
 len:∀s∈left,1<=s.length/\s.length<=60
theorem Pn.step {left:List (List UInt8)} {sent:Nat} (h:Pn left sent) (n:Int) (f:Nat):Pn (l9 n f left sent 0 0 0 false).2.2.1 (l9 n f left sent 0 0 0 false).2.2.2:=by
 have hk:=J8 n f left sent 0 0 0 false (fun s hs=>(h.len s hs).1) h.lt h.z;refine ⟨hk.lt_,hk.z_,fun s hs=> ?_⟩;by_cases hne:(l9 n f left sent 0 0 0 false).1= []
 ·have:=hk.none_ hne;rw[this] at hs;exact h.len s hs
 ·obtain ⟨g,hg,_⟩:=hk.some_ hne;exact h.len s (by rw[hg];simp[hs])
theorem Jl (n:Int):∀(f:Nat) (left:List (List UInt8)) (sent cnt jB size:Nat) (e:Bool),(∀s∈left,s.length<=60)->∀q∈(l9 n f left sent cnt jB size e).1,q.length<=60
 |0,left,sent,cnt,jB,size,e,_=>by rw[l9];simp
 |f+1,[],sent,cnt,jB,size,e,_=>by rw[l9];simp
 |f+1,x::rest,sent,cnt,jB,size,e,h=>by
  have hx:=h x (by simp);rw[l9];split
  ·simp
  split
  ·simp
  split
  ·intro q hq;simp only[nE,Dp,uQ] at hq;rw[hq,kz,kC];omega
  ·intro q hq;simp only[nE] at hq;rcases hq with rfl|hq
   ·rw[kC];omega
   ·exact Jl n f rest 0 _ _ _ true (fun s hs=>h s (by simp[hs])) q hq
theorem xB:∀(l:List (List UInt8)) (t k:Nat),aI l (t+k)=aI (aI l t).1 ((aI l t).2+k)
 | [],t,k=>by simp[aI]
 |x::r,t,k=>by
  by_cases h:x.length<=t
  ·have e:aI (x::r) t=aI r (t-x.length):=by rw[aI,bD h]
   rw[e,<-xB r (t-x.length) k,aI,bD (by omega),show t+k-x.length=t-x.length+k by omega]
  ·have e:aI (x::r) t=(x::r,t):=by rw[aI,aP h]
   rw[e]
theorem xC {l:List (List UInt8)} {s:Nat} (h:∀x r,l=x::r->s<x.length):aI l s=(l,s):=by
 cases l with
 |nil=>rfl
 |cons x r=>rw[aI,aP (by have:=h x r rfl;omega)]
theorem MP (n:Int):∀(f:Nat) (left:List (List UInt8)) (sent cnt jB size:Nat) (e:Bool),(∀x r,left=x::r->sent<x.length)->(∀s∈left,1<=s.length)->
 aI left (sent+aj (l9 n f left sent cnt jB size e).1)=(l9 n f left sent cnt jB size e).2.2
 |0,left,sent,cnt,jB,size,e,h1,_=>by rw[l9];exact xC h1
 |f+1,[],sent,cnt,jB,size,e,h1,_=>by rw[l9];exact xC h1
 |f+1,x::rest,sent,cnt,jB,size,e,h1,h2=>by
  have hs:=h1 x rest rfl;rw[l9];split
  ·exact xC h1
  split
  ·exact xC h1
  generalize (min (n-iV ((cnt:Int)+1)) 32767-(size:Int)).toNat=room;split
  ·rename_i hlt;have hl:((x.drop sent).take room).length=room:=by rw[kz,kC];omega
   simp only[aj,vw,xS,zK,List.sum_nil,hl,uf];rw[aI,aP (by omega)]
  ·have ih:=MP n f rest 0 (cnt+1) (x.length-sent) (size+(x.length-sent)) true (fun y r hy=>by have:=h2 y (by simp[hy]);omega) (fun s hm=>h2 s (by simp[hm]));dsimp only;rw[<-ih,aI,bD (by rw[jy,kC];omega)];rw[jy,kC]
   congr 1
   omega
theorem QU (n:Int):∀(f:Nat) (left:List (List UInt8)) (sent cnt jB size:Nat) (e:Bool),(∀x r,left=x::r->sent<x.length)->(left= []->sent=0)->(∀s∈left,1<=s.length)->
 sent+aj (l9 n f left sent cnt jB size e).1<=aj left
 |0,left,sent,cnt,jB,size,e,h1,h2,_=>by
  rw[l9];cases left with
  |nil=>have:=h2 rfl;simp[aj];omega
  |cons x r=>have:=h1 x r rfl;rw[jy];simp[aj];omega
 |f+1,[],sent,cnt,jB,size,e,_,h2,_=>by rw[l9];have:=h2 rfl;simp[aj];omega
 |f+1,x::rest,sent,cnt,jB,size,e,h1,h2,h3=>by
  have hs:=h1 x rest rfl;have hr:aj (x::rest)=x.length+aj rest:=jy x rest;have h0:aj ([]:List (List UInt8))=0:=rfl;rw[l9];split
  ·dsimp only;omega
  split
  ·dsimp only;omega
  generalize (min (n-iV ((cnt:Int)+1)) 32767-(size:Int)).toNat=room;split
  ·rename_i hlt;have hl:((x.drop sent).take room).length=room:=by rw[kz,kC];omega
   simp only[jy,hl];omega
  ·have ih:=QU n f rest 0 (cnt+1) (x.length-sent) (size+(x.length-sent)) true (fun y r hy=>by have:=h3 y (by simp[hy]);omega) (fun _=>rfl) (fun s hm=>h3 s (by simp[hm]));dsimp only;rw[jy,kC];omega
section
variable {sizes:List UInt8} {aD:List (List UInt8)} {i:Nat} {st:Sd}
end
section
variable {D F:Nat->Prop} {g:Nat} {c:Cf} {st:Sd} {vq vo:Value} {vs os:List Value} {w:World}
end
end Go.Proofs.YtbhiklnljiehiaaGreat
