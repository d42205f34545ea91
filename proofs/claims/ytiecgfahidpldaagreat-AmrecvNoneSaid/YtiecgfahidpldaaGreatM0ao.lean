/- amrecv: New: its configuration. amrecv: sizes of what is stored; a receiver whose memory lies from base on. law36: num, takes, gives. law36: works: the examples, computed. amrecv: the methods of no receiver. law36: few, Held and over of no receiver. -/
import Derived.Test.YtiecgfahidpldaaGreatM0ae
import Derived.Test.YtiecgfahidpldaaGreatM0ak
import Derived.Test.YtiecgfahidpldaaGreatM0an
import Derived.BigQuiet
import Derived.Lib.ConvBytes
import Derived.Lib.BytesEntry
import Derived.Sort.CutIn
namespace Go.Proofs.YtiecgfahidpldaaGreat.Rq
open Go.RowKit Go.Shelf
attribute [local go_sem] Oper.semAt_some
theorem qh (lo hi x:Int) (a b:Nat) (w:World) (ha:w.cell? ⟨a,0,none⟩=some (.int .i64 lo)) (hb:w.cell? ⟨b,0,none⟩=some (.int .i64 hi)):Calls Tryz.prog 147 #[.int .i64 x,.pointer (some ⟨a,0,none⟩),.pointer (some ⟨b,0,none⟩)] w fun e w'=>e= .returned (.bool (outside lo hi x))∧w=w':=by
 by_cases h1:x<lo
 ·have e1:outside lo hi x=true:=by simp[outside,h1]
  have H1:=Lib.hid e1;clear e1;go_enter Tryz.func147,Tryz.ntmps147;go_wp2;go_ret;exact ⟨aG H1.out.symm,rfl⟩
 ·have h1':decide (x<lo)=false:=by simpa using h1
  have e1:decide (hi<x)=outside lo hi x:=by simp[outside,h1']
  have H1:=Lib.hid e1;clear e1;go_enter Tryz.func147,Tryz.ntmps147;go_wp2;go_ret;exact ⟨aG H1.out,rfl⟩
theorem qi (lo hi:Int) (a b r n:Nat) (xs:List Int) (w:World) (hn:xs.length=n) (hsm:n≤1000) (hr:av w r 3 (ints xs).toArray) (ha:w.cell? ⟨a,0,none⟩=some (.int .i64 lo)) (hb:w.cell? ⟨b,0,none⟩=some (.int .i64 hi)):
 Calls Tryz.prog 172 #[.slice (some ⟨r,0,none⟩) n n,.func (.func 147) #[] #[.pointer (some ⟨a,0,none⟩),.pointer (some ⟨b,0,none⟩)]] w (BR (xs.any (outside lo hi)) w):=by
 have HC:=Lib.hid fun x=>qh lo hi x a b w ha hb
 have HL:=Lib.hid hn;clear hn ha hb;go_enter Tryz.func172,Tryz.ntmps172;go_wp2
 go_loop [8] (fun i=>∃k:Nat,k≤n∧i= .int .i64 k∧(xs.take k).any (outside lo hi)=false) (fun i=>n-(intOf i).toNat)
 case atStart=>exact ⟨0,Nat.zero_le _,rfl,by simp⟩
 case round=>
  obtain ⟨k,hk,rfl,hall⟩:=hrel;have HA:=Lib.hid hall;clear hall;by_cases hlt:k<n
  ·have hkl:k<xs.length:=by rw[HL.out];exact hlt
   obtain ⟨x,hx⟩:∃x,xs[k]? =some x:=⟨_,List.getElem?_eq_getElem hkl⟩
   have hcell:=hr.cell k;rw[List.getElem?_toArray,ints,List.getElem?_map,hx] at hcell;simp at hcell;have htk:xs.take (k+1)=xs.take k++ [x]:=by rw[List.take_add_one,hx];rfl
   have hin:x∈xs:=List.mem_of_getElem? hx;have HT:=Lib.hid htk;have HI:=Lib.hid hin;have hcx:=HC.out x;clear htk hin hkl hx;cases hq:outside lo hi x with
   |false=>
    rw[hq] at hcx;have HQ:=Lib.hid hq;have HX:=Lib.hid hcx;clear hq hcx;go_wp2_with (go_at_call 147;refine HX.out.mono ?_;rintro e w' ⟨rfl,rfl⟩)
    go_round
    case rel=>exact ⟨k+1,by omega,by go_num,by rw[HT.out,List.any_append,HA.out];simp[HQ.out]⟩
    case measure=>simp[intOf];omega
   |true=>
    rw[hq] at hcx;have HQ:=Lib.hid hq;have HX:=Lib.hid hcx;clear hq hcx;go_wp2_with (go_at_call 147;refine HX.out.mono ?_;rintro e w' ⟨rfl,rfl⟩);go_ret;exact ⟨.inl ⟨k,rfl,by rw[List.any_eq_true];exact ⟨x,HI.out,HQ.out⟩⟩,rfl⟩
  ·have e:xs.take k=xs:=List.take_of_length_le (by rw[HL.out];omega);have hA:=HA.out;rw[e] at hA;have uY:=Lib.hid hA;clear hA e;go_wp2;go_ret;exact ⟨.inr ⟨rfl,uY.out⟩,rfl⟩
theorem jf (lo hi:Int) (a b r n:Nat) (xs:List Int) (w:World) (hn:xs.length=n) (hsm:n≤1000) (hr:av w r 3 (ints xs).toArray) (ha:w.cell? ⟨a,0,none⟩=some (.int .i64 lo)) (hb:w.cell? ⟨b,0,none⟩=some (.int .i64 hi)):
 Calls Tryz.prog 146 #[.slice (some ⟨r,0,none⟩) n n,.func (.func 147) #[] #[.pointer (some ⟨a,0,none⟩),.pointer (some ⟨b,0,none⟩)]] w fun e w'=>e= .returned (.bool (xs.any (outside lo hi)))∧w=w':=by
 have H:=Lib.hid (qi lo hi a b r n xs w hn hsm hr ha hb);clear hr ha hb;go_enter Tryz.func146,Tryz.ntmps146;go_wp2_with fail;refine H.out.mono ?_;rintro e w' ⟨⟨k,rfl,he⟩|⟨rfl,he⟩,rfl⟩
 ·have HE:=Lib.hid he;clear he;go_wp2;go_ret;exact ⟨aG (by rw[HE.out]),rfl⟩
 ·have HE:=Lib.hid he;clear he;go_wp2;go_ret;exact ⟨aG (by rw[HE.out]),rfl⟩
theorem DR (lo hi:Int) (r n:Nat) (xs:List Int) (w:World) (hn:xs.length=n) (hsm:n≤1000) (hr:av w r 3 (ints xs).toArray):
 Calls Tryz.prog 106 #[.int .i64 lo,.int .i64 hi,.slice (some ⟨r,0,none⟩) n n] w fun e w'=>e= .returned (.bool (!xs.any (outside lo hi)))∧Below w.heap.size w w':=by
 have ba:=(av.new w 3 #[.int .i64 lo]).alloc (.cells #[.int .i64 hi] 3);have bb:=av.new (w.alloc (.cells #[.int .i64 lo] 3)) 3 #[.int .i64 hi];have br:=(hr.alloc (.cells #[.int .i64 lo] 3)).alloc (.cells #[.int .i64 hi] 3);simp only[World.size_alloc] at bb;have ca:=ba.cell 0;have cb:=bb.cell 0;rw[List.getElem?_toArray] at ca cb;simp only[List.getElem?_cons_zero] at ca cb;have hc:=jf lo hi w.heap.size (w.heap.size+1) r n xs ((w.alloc (.cells #[.int .i64 lo] 3)).alloc (.cells #[.int .i64 hi] 3)) hn hsm br ca cb;have H:=Lib.hid hc;clear ba bb br ca cb hc hr;go_enter Tryz.func106,Tryz.ntmps106;go_wp2_with (go_at_call 146;refine H.out.mono ?_;rintro e w' ⟨rfl,rfl⟩);go_ret;exact ⟨rfl,((Below.refl _ _).alloc (Nat.le_refl _) _).alloc (by simp) _⟩
theorem iG (lo hi:Int) (xs:List Int) (cs:Array Value) (hcs:cs=(ints xs).toArray) (n r:Nat) (hn:xs.length=n) (hsm:n≤1000) {w W:World} {g:Nat} {a0 a1 a2 a3 a4 a5 a6:Int} (h:iR w g a0 a1 a2 a3 a4 a5 a6 W) (hr:W.heap.size=r):
 Calls Tryz.prog 106 #[.int .i64 lo,.int .i64 hi,.slice (some ⟨r,0,none⟩) n n] (W.alloc (.cells cs 3)) fun e w'=>e= .returned (.bool (within lo hi xs))∧iR w g a0 a1 a2 a3 a4 a5 a6 w':=by
 subst hcs hr;refine (DR lo hi W.heap.size n xs _ hn hsm (av.new W 3 _)).mono ?_;rintro e w' ⟨rfl,hk⟩;have hk2:=hk.mono (B':=w.heap.size) (by have:=h.2.size;simp;omega);have h0:=h.2.alloc h.2.size (.cells (ints xs).toArray 3);exact ⟨rfl,(h.1.alloc _).below hk (by have:=h.1.lt;simp;omega),h0.trans hk2⟩
theorem dP (lo hi x:Int) (r:Nat) {w W:World} {g:Nat} {a0 a1 a2 a3 a4 a5 a6:Int} (h:iR w g a0 a1 a2 a3 a4 a5 a6 W) (hr:W.heap.size=r):
 Calls Tryz.prog 106 #[.int .i64 lo,.int .i64 hi,.slice (some ⟨r,0,none⟩) 1 1] (W.alloc (.cells #[.int .i64 x] 3)) fun e w'=>e= .returned (.bool (within lo hi [x]))∧iR w g a0 a1 a2 a3 a4 a5 a6 w':=
 iG lo hi [x] _ rfl 1 r rfl (by decide) h hr
theorem dQ (lo hi x y:Int) (r:Nat) {w W:World} {g:Nat} {a0 a1 a2 a3 a4 a5 a6:Int} (h:iR w g a0 a1 a2 a3 a4 a5 a6 W) (hr:W.heap.size=r):
 Calls Tryz.prog 106 #[.int .i64 lo,.int .i64 hi,.slice (some ⟨r,0,none⟩) 2 2] (W.alloc (.cells #[.int .i64 x,.int .i64 y] 3)) fun e w'=>e= .returned (.bool (within lo hi [x,y]))∧iR w g a0 a1 a2 a3 a4 a5 a6 w':=
 iG lo hi [x,y] _ rfl 2 r rfl (by decide) h hr
set_option maxRecDepth 100000 in
set_option maxHeartbeats 1000000 in
theorem uM (a0 a1 a2 a3 a4 a5 a6:Int) (w:World):Calls Tryz.prog 51 #[.agg (BS a0 a1 a2 a3 a4 a5 a6)] w fun e w'=>e= .returned (.bool (gK a0 a1 a2 a3 a4 a5 a6))∧Below w.heap.size w w':=by
 have hc:=iR.new w a0 a1 a2 a3 a4 a5 a6;obtain ⟨b,hb⟩:∃b,gK a0 a1 a2 a3 a4 a5 a6=b:=⟨_,rfl⟩
 rw[hb];unfold gK at hb;unfold BS;go_enter Tryz.func51,Tryz.ntmps51;go_wp2_with fail;have hz:=World.size_alloc w (.cells #[.int .i64 a0,.int .i64 a1,.int .i64 a2,.int .i64 a3,.int .i64 a4,.int .i64 a5,.int .i64 a6] 30);generalize w.alloc (.cells #[.int .i64 a0,.int .i64 a1,.int .i64 a2,.int .i64 a3,.int .i64 a4,.int .i64 a5,.int .i64 a6] 30)=w0 at*;obtain ⟨x0,x1,x2,x3,x4,x5,x6⟩:=hc.seven;cases h1:within 0 1024 [a0] with
 |false=>
  simp[h1] at hb;subst hb;go_wp2_with (go_at_call 106;first
   |((with_reducible refine (dQ _ _ _ _ _ (by assumption) (by first|assumption|exact rfl)).mono ?_);rintro e w9 ⟨rfl,hc⟩;obtain ⟨x0,x1,x2,x3,x4,x5,x6⟩:=hc.seven)
   |((with_reducible refine (dP _ _ _ _ (by assumption) (by first|assumption|exact rfl)).mono ?_);rintro e w9 ⟨rfl,hc⟩;obtain ⟨x0,x1,x2,x3,x4,x5,x6⟩:=hc.seven))
  go_ret;exact ⟨rfl,(by assumption:iR w _ a0 a1 a2 a3 a4 a5 a6 _).2⟩
 |true=>
 cases h2:within 0 1048576 [a1] with
 |false=>
  simp[h1,h2] at hb;subst hb;go_wp2_with (go_at_call 106;first
   |((with_reducible refine (dQ _ _ _ _ _ (by assumption) (by first|assumption|exact rfl)).mono ?_);rintro e w9 ⟨rfl,hc⟩;obtain ⟨x0,x1,x2,x3,x4,x5,x6⟩:=hc.seven)
   |((with_reducible refine (dP _ _ _ _ (by assumption) (by first|assumption|exact rfl)).mono ?_);rintro e w9 ⟨rfl,hc⟩;obtain ⟨x0,x1,x2,x3,x4,x5,x6⟩:=hc.seven))
  go_ret;exact ⟨rfl,(by assumption:iR w _ a0 a1 a2 a3 a4 a5 a6 _).2⟩
 |true=>
 cases h3:within 1 1048576 [a2] with
 |false=>
  simp[h1,h2,h3] at hb;subst hb;go_wp2_with (go_at_call 106;first
   |((with_reducible refine (dQ _ _ _ _ _ (by assumption) (by first|assumption|exact rfl)).mono ?_);rintro e w9 ⟨rfl,hc⟩;obtain ⟨x0,x1,x2,x3,x4,x5,x6⟩:=hc.seven)
   |((with_reducible refine (dP _ _ _ _ (by assumption) (by first|assumption|exact rfl)).mono ?_);rintro e w9 ⟨rfl,hc⟩;obtain ⟨x0,x1,x2,x3,x4,x5,x6⟩:=hc.seven))
  go_ret;exact ⟨rfl,(by assumption:iR w _ a0 a1 a2 a3 a4 a5 a6 _).2⟩
 |true=>
 cases h4:within 0 1048576 [a3,a4] with
 |false=>
  simp[h1,h2,h3,h4] at hb;subst hb;go_wp2_with (go_at_call 106;first
   |((with_reducible refine (dQ _ _ _ _ _ (by assumption) (by first|assumption|exact rfl)).mono ?_);rintro e w9 ⟨rfl,hc⟩;obtain ⟨x0,x1,x2,x3,x4,x5,x6⟩:=hc.seven)
   |((with_reducible refine (dP _ _ _ _ (by assumption) (by first|assumption|exact rfl)).mono ?_);rintro e w9 ⟨rfl,hc⟩;obtain ⟨x0,x1,x2,x3,x4,x5,x6⟩:=hc.seven))
  go_ret;exact ⟨rfl,(by assumption:iR w _ a0 a1 a2 a3 a4 a5 a6 _).2⟩
 |true=>
 cases h5:within 0 64 [a5] with
 |false=>
  simp[h1,h2,h3,h4,h5] at hb;subst hb;go_wp2_with (go_at_call 106;first
   |((with_reducible refine (dQ _ _ _ _ _ (by assumption) (by first|assumption|exact rfl)).mono ?_);rintro e w9 ⟨rfl,hc⟩;obtain ⟨x0,x1,x2,x3,x4,x5,x6⟩:=hc.seven)
   |((with_reducible refine (dP _ _ _ _ (by assumption) (by first|assumption|exact rfl)).mono ?_);rintro e w9 ⟨rfl,hc⟩;obtain ⟨x0,x1,x2,x3,x4,x5,x6⟩:=hc.seven))
  go_ret;exact ⟨rfl,(by assumption:iR w _ a0 a1 a2 a3 a4 a5 a6 _).2⟩
 |true=>
 have h6:within 1 1048576 [a6]=b:=by simpa[h1,h2,h3,h4,h5] using hb
 clear hb;go_wp2_with (go_at_call 106;first
  |((with_reducible refine (dQ _ _ _ _ _ (by assumption) (by first|assumption|exact rfl)).mono ?_);rintro e w9 ⟨rfl,hc⟩;obtain ⟨x0,x1,x2,x3,x4,x5,x6⟩:=hc.seven)
  |((with_reducible refine (dP _ _ _ _ (by assumption) (by first|assumption|exact rfl)).mono ?_);rintro e w9 ⟨rfl,hc⟩;obtain ⟨x0,x1,x2,x3,x4,x5,x6⟩:=hc.seven))
 go_ret;exact ⟨rfl,(by assumption:iR w _ a0 a1 a2 a3 a4 a5 a6 _).2⟩
end Go.Proofs.YtiecgfahidpldaaGreat.Rq
namespace Go.Proofs.YtiecgfahidpldaaGreat
open Go.RowKit Go.Shelf
attribute [local go_sem] Oper.semAt_some
def Li (w:World) (a0 a1 a2 a3 a4 a5 a6:Int) (e:Ending) (w':World):Prop:=
 Below w.heap.size w w'∧
  (
   (gK a0 a1 a2 a3 a4 a5 a6=true∧∃g M T,e= .returned (.tuple #[.pointer (some ⟨g,0,none⟩),.int .i64 0])∧bO w' T g M 0 ⟨a0,a1,a2,a3,a4,a5,a6⟩ oo (.slice none 0 0)∧∀k,T k≠0→w.heap.size≤k)∨
   (gK a0 a1 a2 a3 a4 a5 a6=false∧e= .returned (.tuple #[.pointer none,.int .i64 2])))
set_option maxRecDepth 100000 in
theorem yO (a0 a1 a2 a3 a4 a5 a6:Int) (w:World):Calls Tryz.prog 19 #[.agg (BS a0 a1 a2 a3 a4 a5 a6)] w (Li w a0 a1 a2 a3 a4 a5 a6):=by
 have hmm:= @run_makeMap Tryz.prog;have hc:=iR.new w a0 a1 a2 a3 a4 a5 a6;have hcall:=fun W=>Rq.uM a0 a1 a2 a3 a4 a5 a6 W
 obtain ⟨b,hb⟩:∃b,gK a0 a1 a2 a3 a4 a5 a6=b:=⟨_,rfl⟩
 simp only[hb] at hcall;have HB:=Lib.hid hb;clear hb;unfold BS at*;have hz:=World.size_alloc w (.cells #[.int .i64 a0,.int .i64 a1,.int .i64 a2,.int .i64 a3,.int .i64 a4,.int .i64 a5,.int .i64 a6] 30);have x:=hc.seven;obtain ⟨x0,x1,x2,x3,x4,x5,x6⟩:=x;have HC:=Lib.hid hc;have Q5:=Lib.hid hcall;clear hc hcall;go_enter Tryz.func19,Tryz.ntmps19;go_wp2_with fail;generalize w.alloc (.cells #[.int .i64 a0,.int .i64 a1,.int .i64 a2,.int .i64 a3,.int .i64 a4,.int .i64 a5,.int .i64 a6] 30)=w0 at*;refine (Q5.out _).mono ?_;rintro e1 w1 ⟨rfl,hb1⟩;have hc1:iR w w.heap.size a0 a1 a2 a3 a4 a5 a6 w1:=⟨HC.out.1.below hb1 HC.out.1.lt,HC.out.2.trans (hb1.mono HC.out.2.size)⟩;obtain ⟨y0,y1,y2,y3,y4,y5,y6⟩:=hc1.seven;have IU:=Lib.hid hc1;clear x0 x1 x2 x3 x4 x5 x6 hb1 hc1;cases b with
 |true=>
  go_wp2
  go_ret2
  have hsz:=IU.out.2.size;have Lj:=(bY.made Tryz.prog 3 w1);refine ⟨((IU.out.2.alloc IU.out.2.size _).alloc (by simp;omega) _),.inl ⟨HB.out,w1.heap.size+1,w1.heap.size,fun k=>if k=w1.heap.size+1 then 1 else if k=w1.heap.size then 2 else 0,by simp,?_,fun k hk=> ?_⟩⟩
  ·have hb:=av.new (w1.alloc (.map #[] 0)) 33 (vM ⟨a0,a1,a2,a3,a4,a5,a6⟩ w1.heap.size (.slice none 0 0) oo);rw[World.size_alloc] at hb;refine ⟨hb,if_pos rfl,?_,fun k hk=> ?_,World.ownsRow_nil _ _ _ _,fun k e=>by simp[Value.ownBlock] at e,fun _=>none,?_,fun k=>⟨fun _=>rfl,fun p hp=>by simp[oo] at hp⟩⟩
   ·show (if _ then _ else _)=_
    rw[if_neg (by omega),if_pos rfl]
   ·simp only[World.size_alloc];split at hk
    ·omega
    ·split at hk
     ·omega
     ·exact absurd rfl hk
   ·exact Lj.same (Below.heap_alloc _ _ _ (by simp))
  ·dsimp only at hk;split at hk
   ·omega
   ·split at hk
    ·omega
    ·exact absurd rfl hk
 |false=>
  go_wp2
  go_ret2
  exact ⟨IU.out.2,.inr ⟨HB.out,rfl⟩⟩
end Go.Proofs.YtiecgfahidpldaaGreat
namespace Go.Proofs.YtiecgfahidpldaaGreat
section
open Go.RowKit Go.Shelf
attribute [local go_sem] Oper.semAt_some
theorem rC.take {p:Sp} (h:rC p) (x:fu):rC (dz p x):=by
 intro k hk;unfold dz at hk ⊢;dsimp only at hk ⊢;rw[(jF _ _ _).1];unfold fT;simp only[List.length_append,List.length_replicate];split at hk
 ·cases hk;omega
 ·have:=h k hk;omega
theorem jg.get {st:Rc} (h:jg st) (k:Nat):rC (dA st k):=by
 unfold dA;cases hm:st.m k with
 |none=>intro j hj;cases hj
 |some p=>exact h k p hm
theorem jg.yP {st st':Rc} (h:jg st) (hm:st'.m=st.m):jg st':=fun k p hp=>h k p (by rw[←hm];exact hp)
theorem jg.AJ {st:Rc} (h:jg st) (x:fu):jg (iB st x (dA st x.sn)):=by
 intro k p hp;have hp2:dZ st.m x.sn (some (dz (dA st x.sn) x)) k=some p:=hp;unfold dZ at hp2;split at hp2
 ·cases hp2;exact (h.get x.sn).take x
 ·exact h k p hp2
theorem jg.one {st:Rc} (h:jg st) (p:Sp):jg (lY st p):=by
 intro k q hq;have hq2:dZ st.m st.next none k=some q:=hq
 unfold dZ at hq2;split at hq2
 ·cases hq2
 ·exact h k q hq2
theorem jg.oL:∀(f:Nat) {st:Rc},jg st→jg (bu f st).1
 |0,st,h=>h
 |f+1,st,h=>by
  unfold bu;split
  ·exact h
  ·split
   ·exact jg.oL f (h.one _)
   ·exact h
theorem jg.recv {st:Rc} (h:jg st) (c:Cf) (now:Int) (bs:List UInt8):jg (bI c st now bs).1:=by
 have hg:jg (bV c st now):=h.yP (jO c st now);unfold bI;split
 ·exact hg
 ·rename_i x _;unfold vJ;split
  ·exact hg.yP rfl
  ·split
   ·exact hg
   ·dsimp only;refine jg.yP (jg.oL 1024 (hg.AJ x)) ?_;unfold vI j3;dsimp only;split<;>split<;>rfl
theorem yQ (c:Cf) (st:Rc) (now n:Int):(aT c st now n).1.m=st.m:=by
 unfold aT;split
 ·rfl
 ·split
  ·exact jO c st now
  ·exact jO c st now
theorem jg.yR {st:Rc} (h:jg st) (c:Cf) (now n:Int):jg (aT c st now n).1:=h.yP (yQ c st now n)
theorem aM.yR {st:Rc} (ho:aM st) (c:Cf) {now:Int} (hn:now≤9223372036854775807) (n:Int):aM (aT c st now n).1:=by
 have hg:=ho.goes c hn;unfold aT;split
 ·exact ho
 ·split
  ·exact hg
  ·exact ⟨hg.n1,hg.n2,hg.n3,hg.n4,hg.m,hg.op,hg.t1,hg.t2⟩
theorem rT:aM oo∧jg oo:=
 ⟨⟨by decide,by decide,by decide,by decide,fun k p h=>(by cases h),by decide,by decide,by decide⟩,fun k p h=>(by cases h)⟩
def gU (W:World) (base g n:Nat) (c:Cf) (st:Rc):Prop:=∃T M k vo,bO W T g M k c st vo∧k≤n∧aM st∧jg st∧∀j,T j≠0→base≤j
section
variable {W W' w w':World} {base g n:Nat} {c:Cf} {st:Rc}
theorem gU.below (h:gU W base g n c st) (hb:Below W.heap.size W W'):gU W' base g n c st:=let ⟨T,M,k,vo,h1,h2⟩:=h;⟨T,M,k,vo,h1.below hb,h2⟩
theorem MT.below {T:Nat→Nat} (h:Kept (MT T) W W') (ht:∀j,T j≠0→base≤j) (hb:base≤W.heap.size):Below base W W':=
 h.below (fun k _ hk=>ht k hk) hb
theorem ug {W0:World} (h:gU W0 base g n c st) (hB:Below W0.heap.size W0 w) (hcf:zn c) (hn:n<maxLen) (now:Int) (gJ:now≤9223372036854775807) (A:Option Addr) (l cp:Nat) (bs:List UInt8) (hA:Sl w w.heap.size A l cp (bE bs)) (Q6:∀ad,A=some ad→W0.heap.size≤ad.block) (hsm:l≤1000000) (hb:base≤w.heap.size):
 Calls Tryz.prog 8 #[.pointer (some ⟨g,0,none⟩),.int .i64 now,.slice A l cp] w fun e w'=>∃v T',e= .returned (.tuple #[v,.int .i64 ((bI c st now bs).2.2:Nat)])∧bQ w' w.heap.size T' v (bI c st now bs).2.1∧gU w' base g (n+1) c (bI c st now bs).1∧Below base w w'∧∀b,W0.heap.size≤b→b<w.heap.size→w'.heap[b]? =w.heap[b]? :=by
 obtain ⟨T,M,k,vo,h1,h2,h3,h4,h5⟩:=h;have h1':=h1.below hB;have hA2:∀W,Kept (MT T) w W→Sl W W.heap.size A l cp (bE bs):=fun W hW=>by
  refine ⟨hA.len,hA.cap,hA.mx,fun h0=> ?_⟩;obtain ⟨ad,e,hl,hc⟩:=hA.at_ h0;have hz:=Q6 ad e;refine ⟨ad,e,Nat.lt_of_lt_of_le hl hW.size,fun j u hu=> ?_⟩;have hbk:W.heap[(ad.add j).block]? =w.heap[(ad.add j).block]? :=by
   rw[block_add];have e1:=Array.getElem?_eq_getElem hl;rw[e1];refine hW.same _ _ e1 (fun hm=> ?_);unfold MT at hm;have:=h1.lt _ hm;omega
  exact (World.cell?_of_block (a:=ad.add j) hbk).trans (hc j u hu)
 refine (qg h1' h3 hcf (by omega) now gJ A l cp bs hA2 hsm).mono ?_;rintro e w' ⟨T',Di,v,n',rfl,hR,hn',hT,hK,hO⟩;refine ⟨v,T',rfl,hO,⟨T',M,n',Di,hR,by omega,h3.recv c gJ bs,h4.recv c now bs,fun j hj=> ?_⟩,MT.below hK h5 hb,fun b h1b Q7=> ?_⟩
 case refine_2=>
  have e1:=Array.getElem?_eq_getElem Q7;rw[e1];refine hK.same _ _ e1 (fun hm=> ?_);unfold MT at hm;have:=h1.lt _ hm;omega
 rcases Nat.lt_or_ge j w.heap.size with hl|hl
 ·rw[hT j hl] at hj;exact h5 j hj
 ·omega
theorem AY (h:gU w base g n c st) (hcf:zn c) (now:Int) (gJ:now≤9223372036854775807) (N:Int) (hN:N≤9223372036854775807) (hb:base≤w.heap.size):
 Calls Tryz.prog 9 #[.pointer (some ⟨g,0,none⟩),.int .i64 now,.int .i64 N] w fun e w'=>∃v,e= .returned (.tuple #[v,.int .i64 ((aT c st now N).2.2:Nat)])∧w'.ownsRow w.heap.size 5 1 v (aT c st now N).2.1.length (bE (aT c st now N).2.1)∧gU w' base g n c (aT c st now N).1∧Below base w w':=by
 obtain ⟨T,M,k,vo,h1,h2,h3,h4,h5⟩:=h;refine (tV h1 h3 h4 hcf now gJ N hN).mono ?_;rintro e w' ⟨v,rfl,hv,hR,hK⟩;exact ⟨v,rfl,hv,⟨T,M,k,vo,hR,h2,h3.yR c gJ N,h4.yR c now N,h5⟩,MT.below hK h5 hb⟩
theorem DT (h:gU w base g n c st) (hcf:zn c) (now:Int) (gJ:now≤9223372036854775807) (hb:base≤w.heap.size):
 Calls Tryz.prog 12 #[.pointer (some ⟨g,0,none⟩),.int .i64 now] w fun e w'=>e= .returned (.int .i64 0)∧gU w' base g n c (bV c st now)∧Below base w w':=by
 obtain ⟨T,M,k,vo,h1,h2,h3,h4,h5⟩:=h;refine (wI h1 h3 hcf now gJ).mono ?_;rintro e w' ⟨rfl,hR,hK⟩;exact ⟨rfl,⟨T,M,k,vo,hR,h2,h3.goes c gJ,h4.yP (jO c st now),h5⟩,MT.below hK h5 hb⟩
theorem uN (h:gU w base g n c st) (hb:base≤w.heap.size):
 Calls Tryz.prog 14 #[.pointer (some ⟨g,0,none⟩)] w fun e w'=>e= .returned (.agg (mV st))∧gU w' base g n c st∧Below base w w':=by
 obtain ⟨T,M,k,vo,h1,h2⟩:=h;refine (uf h1).mono ?_;rintro e w' ⟨rfl,hB⟩;exact ⟨rfl,⟨T,M,k,vo,h1.below hB,h2⟩,hB.mono hb⟩
end
end
section
open Go.RowKit Go.Shelf
attribute [local go_sem] Oper.semAt_some
theorem gB (x:Int) (w:World):Calls Tryz.prog 11 #[.int .i64 x] w fun e w'=>e= .returned (.int .i64 x)∧w=w':=by
 go_enter Tryz.func11,Tryz.ntmps11;go_wp2;go_ret;exact ⟨rfl,rfl⟩
theorem qj (w:World) (s:ByteArray):Below w.heap.size w (Lib.bytesWorld w 5 s):=
 ⟨rfl,rfl,rfl,by rw[Lib.bytesWorld_size];omega,fun k hk=>Lib.bytesWorld_at_old w _ s k hk⟩
theorem wJ (w:World) (p:List UInt8) (hp:p.length≤1000000):Sl (Lib.bytesWorld w 5 ⟨p.toArray⟩) (Lib.bytesWorld w 5 ⟨p.toArray⟩).heap.size (some ⟨w.heap.size,0,none⟩) p.length (grownCap w p.length 0 5) (bE p):=by
 refine ⟨by simp,grownCap_ge _ _ _ _,Nat.le_trans (grownCap_le_maxLen _ _ _ _ (by unfold maxLen;omega)) (by unfold maxLen;omega),fun _=>⟨_,rfl,lt_of_heap (Lib.bytesWorld_at_new w _ _),fun j u hu=>World.news_of_block (Lib.bytesWorld_at_new w _ _) j u ?_⟩⟩;unfold bE at hu;rw[List.getElem?_map] at hu;unfold Lib.bytesCells;simp only[Array.toList_append,Array.toList_map];rw[List.getElem?_append_left,List.getElem?_map]
 ·exact hu
 ·have:=(List.getElem?_eq_some_iff.1 (Option.map_eq_some_iff.1 hu).choose_spec.1).1;simpa using this
structure rU (w:World) (base:Nat) (A:Option Addr) (n c:Nat) (ws:List (List UInt8)):Prop where
 len:ws.length=n
 cap:n≤c
 mx:c≤9223372036854775807
 at_:0<n→∃ad,A=some ad∧base≤ad.block∧ad.block<w.heap.size∧∀j q,ws[j]? =some q→w.cell? (ad.add j)=some (.string ⟨q.toArray⟩)
theorem rU.keep {w w':World} {base:Nat} {A:Option Addr} {n c:Nat} {ws:List (List UInt8)} (h:rU w base A n c ws) (hz:w.heap.size≤w'.heap.size) (hk:∀b,base≤b→b<w.heap.size→w'.heap[b]? =w.heap[b]?):rU w' base A n c ws:=
 ⟨h.len,h.cap,h.mx,fun h0=>by
  obtain ⟨ad,e,h1,h2,h3⟩:=h.at_ h0;refine ⟨ad,e,h1,by omega,fun j q hq=> ?_⟩;have hbk:w'.heap[(ad.add j).block]? =w.heap[(ad.add j).block]? :=by rw[block_add];exact hk _ h1 h2
  exact (World.cell?_of_block (a:=ad.add j) hbk).trans (h3 j q hq)⟩
def Ll (w:World) (A:Option Addr) (n c:Nat) (outs:List (List UInt8)):Prop:=
 n≤c∧c≤9223372036854775807∧∀i q,outs[i]? =some q→∃ad A3 c3,A=some ad∧w.cell? (ad.add i)=some (.slice A3 q.length c3)∧Sl w w.heap.size A3 q.length c3 (bE q)
theorem bQ.read {w:World} {base:Nat} {T:Nat→Nat} {v:Value} {outs:List (List UInt8)} (h:bQ w base T v outs):∃A c,v= .slice A outs.length c∧Ll w A outs.length c outs:=by
 obtain ⟨vs,h1,_,h3⟩:=h;obtain ⟨A,c,rfl,hs,_⟩:=aK h1;refine ⟨A,c,rfl,hs.cap,hs.mx,fun i q hq=> ?_⟩;obtain ⟨vi,hv,ho,_⟩:=h3 i q hq;obtain ⟨A3,c3,rfl,hs3,_⟩:=aK ho;have hi:=(List.getElem?_eq_some_iff.1 hq).1;obtain ⟨ad,e,_,hc⟩:=hs.at_ (by omega);exact ⟨ad,A3,c3,e,hc i _ hv,hs3⟩
def dR (w:World) (base g n:Nat) (c:Cf) (st:Rc) (e:Ending) (w':World):Prop:=e= .returned (.bool true)∧gU w' base g n c st∧Below base w w'
set_option maxRecDepth 100000 in
set_option maxHeartbeats 2000000 in
theorem dn {W0 w:World} {base g n:Nat} {c:Cf} {st:Rc} (h:gU W0 base g n c st) (hB:Below W0.heap.size W0 w) (hcf:zn c) (hn:n<maxLen) (now:Int) (gJ:now≤9223372036854775807) (bs:List UInt8) (hsm:bs.length≤1000000) (hb:base≤W0.heap.size)
 (A:Option Addr) (m cw:Nat) (ws:List (List UInt8)) (hws:rU w W0.heap.size A m cw ws) (hm:m≤1000000) (hout:(bI c st now bs).2=(ws,0)):
 Calls Tryz.prog 29 #[.pointer (some ⟨g,0,none⟩),.int .i64 now,.string ⟨bs.toArray⟩,.slice A m cw] w (dR w base g (n+1) c (bI c st now bs).1):=by
 have hbb:=qj w ⟨bs.toArray⟩;have hsl:=wJ w bs hsm;have hzz:=hB.size;have hrc:=ug h (hB.trans (hbb.mono hzz)) hcf hn now gJ _ bs.length _ bs hsl (fun ad e=>by cases e;exact hzz) hsm (by have:=hbb.size;omega);have kc:=fun (W:World)=>Lib.run_convert_string_bytes (P:=Tryz.prog) W 9 22 5 ⟨bs.toArray⟩ (u:= .string) (by kernel_rfl) und29 und5
 have hs1:(⟨bs.toArray⟩:ByteArray).size=bs.length:=by simp[ByteArray.size]
 rw[hs1] at kc;rw[hout] at hrc;dsimp only at hrc;have yM:=Lib.hid hrc;have zi:=Lib.hid hbb;have HW:=Lib.hid hws;have hl:=hws.len;have su:=Lib.hid (show base≤w.heap.size by omega);have hcap:=hws.cap;have hmx:=hws.mx;clear hrc hbb hsl hout h hs1 hB hws hzz;subst hl;generalize (bI c st now bs).1=s1 at*;generalize (⟨bs.toArray⟩:ByteArray)=ba at*;go_enter Tryz.func29,Tryz.ntmps29;go_wp2_with fail;refine yM.out.mono ?_;rintro e1 w1 ⟨v,T',rfl,hO,hE,hb1,hkp⟩;obtain ⟨A2,c2,rfl,IV⟩:=hO.read;have GZ:=(HW.out.keep zi.out.size (fun b _ hb2=>zi.out.block b hb2)).keep (by have:=hb1.size;have:=zi.out.size;have:=su.out;omega) (fun b h1 h2=>hkp b h1 h2);have HB1:=Lib.hid ((zi.out.mono su.out).trans hb1);have HE:=Lib.hid hE;have HO:=Lib.hid IV;have HW1:=Lib.hid GZ;have ho1:=IV.1;have ho2:=IV.2.1;clear yM zi HW hO hE hb1 hkp IV GZ;go_wp2_with (go_at_call 11;refine (gB _ _).mono ?_;rintro e1 w2 ⟨rfl,rfl⟩);have hl2:ws.length≤1000000:=hm;obtain ⟨N,hN⟩:∃N,ws.length=N:=⟨_,rfl⟩
 rw[hN] at hl2 ho1 HW1 HO hm hcap ⊢
 go_loopw [11] (fun i wr=>∃k q:Nat,k≤N∧i= .int .i64 k∧wr=w1.drewN q) (fun i _=>N-(intOf i).toNat)
 case atStart=>exact ⟨0,0,Nat.zero_le _,rfl,rfl⟩
 case round=>
  obtain ⟨k,q,hk,rfl,rfl⟩:=hrel;have HE2:=Lib.hid (HE.out.below ((Below.refl _ w1).drewN q));have HB2:=Lib.hid (HB1.out.drewN q);by_cases hlt:k<N
  ·obtain ⟨x,hx⟩:∃x,ws[k]? =some x:=⟨_,List.getElem?_eq_getElem (by omega)⟩
   obtain ⟨ad,A3,c3,rfl,k1,k2⟩:=HO.out.2.2 k x hx;obtain ⟨PY,rfl,_,_,k3⟩:=HW1.out.at_ (by omega);have k4:=k3 k x hx;have SF:=fun r=>o9 ((k2.drewN q).drewN r)
   have Q8:=fun r=>o9 (k2.drewN r)
   clear k3 k2 hx;generalize (⟨x.toArray⟩:ByteArray)=xa at*;go_wp2_with fail
   go_quiet (fail)
   go_wp2_with fail
   go_roundw
   case rel=>exact ⟨k+1,q+nq,by omega,by go_num,rfl⟩
   case measure=>simp[intOf];omega
  ·go_wp2;go_ret;exact ⟨rfl,HE2.out,HB2.out⟩
set_option maxRecDepth 100000 in
set_option maxHeartbeats 2000000 in
theorem ed {w:World} {base g n:Nat} {c:Cf} {st:Rc} (h:gU w base g n c st) (hcf:zn c) (now:Int) (gJ:now≤9223372036854775807) (hb:base≤w.heap.size) (ws:List UInt8) (hout:(aT c st now 9).2=(ws,0)):
 Calls Tryz.prog 30 #[.pointer (some ⟨g,0,none⟩),.int .i64 now,.string ⟨ws.toArray⟩] w (dR w base g n c (aT c st now 9).1):=by
 have hg:=AY h hcf now gJ 9 (by omega) hb;rw[hout] at hg;dsimp only at hg;have hg2:Calls Tryz.prog 9 #[.pointer (some ⟨g,0,none⟩),.int .i64 now,.int .i64 9] w fun e w'=>∃A2 c2,e= .returned (.tuple #[.slice A2 ws.length c2,.int .i64 0])∧(convert 22 9 (.slice A2 ws.length c2)).run Tryz.prog w'= .ok (.string ⟨ws.toArray⟩) w'∧gU w' base g n c (aT c st now 9).1∧Below base w w':=by
  refine hg.mono ?_;rintro e w' ⟨v,rfl,hv,hE,hB⟩;obtain ⟨A2,c2,rfl,hs,_⟩:=aK hv;exact ⟨A2,c2,rfl,o9 hs,hE,hB⟩
 have HG:=Lib.hid hg2;clear hg hg2 h hout;generalize (aT c st now 9).1=s1 at*;generalize (⟨ws.toArray⟩:ByteArray)=wa at*;go_enter Tryz.func30,Tryz.ntmps30;go_wp2_with (first
  |(go_at_call 9;refine HG.out.mono ?_;rintro e1 w1 ⟨A2,c2,rfl,hcv,hE,hB⟩)
  |(go_at_call 11;refine (gB _ _).mono ?_;rintro e1 w2 ⟨rfl,rfl⟩))
 go_ret;exact ⟨rfl,hE,hB⟩
end
section
open Go.RowKit Go.Shelf
attribute [local go_sem] Oper.semAt_some
def wc:Cf:=⟨0,0,1,5,3,0,1⟩
theorem jR:zn wc:=⟨by decide,by decide,by decide,by decide⟩
def IW:Rc:=oo
def IX:Rc:=(bI wc IW 0 [136,0,104,101,108]).1
theorem Q9:(bI wc IW 0 [136,0,104,101,108]).2=([],0):=by decide+kernel
def DU:Rc:=(bI wc IX 1 [176,1,108,111]).1
theorem Ra:(bI wc IX 1 [176,1,108,111]).2=([[104,101,108,108,111]],0):=by decide+kernel
theorem Rb:mV DU= #[.int .i64 2,.int .i64 2,.int .i64 2,.bool false,.int .i64 0,.int .i64 0,.bool true,.int .i64 0]:=by kernel_rfl
theorem Re (w:World):(binOp .neq 49 (.agg #[.int .i64 2,.int .i64 2,.int .i64 2,.bool false,.int .i64 0,.int .i64 0,.bool true,.int .i64 0]) (.agg #[.int .i64 2,.int .i64 2,.int .i64 2,.bool false,.int .i64 0,.int .i64 0,.bool true,.int .i64 0])).run Tryz.prog w= .ok (.bool false) w:=by kernel_rfl
def IY:Rc:=(aT wc DU 1 9).1
theorem Rf:(aT wc DU 1 9).2=([0,8],0):=by decide+kernel
def IZ:Rc:=(aT wc IY 1 9).1
theorem Rh:(aT wc IY 1 9).2=([],0):=by decide+kernel
def DV:Rc:=(bI wc IZ 2 [160,3,120]).1
theorem Ri:(bI wc IZ 2 [160,3,120]).2=([],0):=by decide+kernel
theorem Rj:mV DV= #[.int .i64 2,.int .i64 2,.int .i64 4,.bool true,.int .i64 4,.int .i64 7,.bool true,.int .i64 4]:=by kernel_rfl
theorem Rk (w:World):(binOp .neq 49 (.agg #[.int .i64 2,.int .i64 2,.int .i64 4,.bool true,.int .i64 4,.int .i64 7,.bool true,.int .i64 4]) (.agg #[.int .i64 2,.int .i64 2,.int .i64 4,.bool true,.int .i64 4,.int .i64 7,.bool true,.int .i64 4])).run Tryz.prog w= .ok (.bool false) w:=by kernel_rfl
def I1:Rc:=(aT wc DV 3 9).1
theorem Rl:(aT wc DV 3 9).2=([],0):=by decide+kernel
def Lm:Rc:=(aT wc I1 4 9).1
theorem Rm:(aT wc I1 4 9).2=([0,8],0):=by decide+kernel
def I4:Rc:=bV wc Lm 7
def I5:Rc:=(aT wc I4 7 9).1
theorem Lp:(aT wc I4 7 9).2=([0,18,1,0],0):=by decide+kernel
def AZ:Rc:=(bI wc I5 8 [208,2,128,1,121]).1
theorem Lr:(bI wc I5 8 [208,2,128,1,121]).2=([],0):=by decide+kernel
def A8:Rc:=(bI wc AZ 8 [200,2,0,0,122]).1
theorem Ls:(bI wc AZ 8 [200,2,0,0,122]).2=([[122,121],[120]],0):=by decide+kernel
def Ba:Rc:=(bI wc A8 9 [208,4,128,1,97]).1
theorem Lt:(bI wc A8 9 [208,4,128,1,97]).2=([],0):=by decide+kernel
def Bb:Rc:=(bI wc Ba 8 [5]).1
theorem Lu:(bI wc Ba 8 [5]).2=([],5):=by decide+kernel
def Lv:Rc:=(bI wc Bb 9 [128,4,97,98,99]).1
theorem Lx:(bI wc Bb 9 [128,4,97,98,99]).2=([],9):=by decide+kernel
theorem yS (W:World) (ws:List (List UInt8)) (hsm:ws.length≤1000):rU (W.alloc (.cells (ws.map (fun q=>Value.string ⟨q.toArray⟩)).toArray 9)) W.heap.size (some ⟨W.heap.size,0,none⟩) ws.length ws.length ws:=by
 have hb:=av.new W 9 (ws.map (fun q=>Value.string ⟨q.toArray⟩)).toArray;by_cases hl:ws.length≤9223372036854775807
 ·refine ⟨rfl,Nat.le_refl _,hl,fun h0=>⟨_,rfl,Nat.le_refl _,hb.lt,fun j q hq=> ?_⟩⟩;have hg:(ws.map (fun q=>Value.string ⟨q.toArray⟩)).toArray[j]? =some (.string ⟨q.toArray⟩):=by simp[hq]
  rw[Addr.add_lit,Nat.zero_add];exact (hb.cell j).trans hg
 ·exact absurd hsm (by omega)
section
variable {W:World} {base g:Nat}
theorem Rn (h:gU W base g 0 wc IW) (hb:base≤W.heap.size):Calls Tryz.prog 29 #[.pointer (some ⟨g,0,none⟩),.int .i64 0,.string ⟨#[136,0,104,101,108]⟩,.slice none 0 0] W (dR W base g 1 wc IX):=
 dn h (Below.refl _ W) jR (by unfold maxLen;omega) 0 (by omega) [136,0,104,101,108] (by decide) hb none 0 0 [] ⟨rfl,by omega,by omega,fun h0=>by omega⟩ (by omega) Q9
theorem Ro (h:gU W base g 1 wc IX) (hb:base≤W.heap.size):Calls Tryz.prog 29 #[.pointer (some ⟨g,0,none⟩),.int .i64 1,.string ⟨#[176,1,108,111]⟩,.slice (some ⟨W.heap.size,0,none⟩) 1 1] (W.alloc (.cells #[.string ⟨#[104,101,108,108,111]⟩] 9)) (dR W base g 2 wc DU):=
 (dn h ((Below.refl _ W).alloc (Nat.le_refl _) _) jR (by unfold maxLen;omega) 1 (by omega) [176,1,108,111] (by decide) hb _ 1 1 [[104,101,108,108,111]] (yS W [[104,101,108,108,111]] (by decide)) (by omega) Ra).mono fun e w' ⟨e1,hE,hB⟩=>⟨e1,hE,((Below.refl base W).alloc hb _).trans hB⟩
theorem Rp (h:gU W base g 2 wc DU) (hb:base≤W.heap.size):Calls Tryz.prog 14 #[.pointer (some ⟨g,0,none⟩)] W fun e w'=>e= .returned (.agg #[.int .i64 2,.int .i64 2,.int .i64 2,.bool false,.int .i64 0,.int .i64 0,.bool true,.int .i64 0])∧gU w' base g 2 wc DU∧Below base W w':=by
 refine (uN h hb).mono fun e w' ⟨e1,hE,hB⟩=> ?_
 rw[Rb] at e1;exact ⟨e1,hE,hB⟩
theorem Rs (h:gU W base g 2 wc DU) (hb:base≤W.heap.size):Calls Tryz.prog 30 #[.pointer (some ⟨g,0,none⟩),.int .i64 1,.string ⟨#[0,8]⟩] W (dR W base g 2 wc IY):=
 ed h jR 1 (by omega) hb [0,8] Rf
theorem Rt (h:gU W base g 2 wc IY) (hb:base≤W.heap.size):Calls Tryz.prog 30 #[.pointer (some ⟨g,0,none⟩),.int .i64 1,.string ⟨#[]⟩] W (dR W base g 2 wc IZ):=
 ed h jR 1 (by omega) hb [] Rh
theorem Ru (h:gU W base g 2 wc IZ) (hb:base≤W.heap.size):Calls Tryz.prog 29 #[.pointer (some ⟨g,0,none⟩),.int .i64 2,.string ⟨#[160,3,120]⟩,.slice none 0 0] W (dR W base g 3 wc DV):=
 dn h (Below.refl _ W) jR (by unfold maxLen;omega) 2 (by omega) [160,3,120] (by decide) hb none 0 0 [] ⟨rfl,by omega,by omega,fun h0=>by omega⟩ (by omega) Ri
theorem Rv (h:gU W base g 3 wc DV) (hb:base≤W.heap.size):Calls Tryz.prog 14 #[.pointer (some ⟨g,0,none⟩)] W fun e w'=>e= .returned (.agg #[.int .i64 2,.int .i64 2,.int .i64 4,.bool true,.int .i64 4,.int .i64 7,.bool true,.int .i64 4])∧gU w' base g 3 wc DV∧Below base W w':=by
 refine (uN h hb).mono fun e w' ⟨e1,hE,hB⟩=> ?_
 rw[Rj] at e1;exact ⟨e1,hE,hB⟩
theorem Rw (h:gU W base g 3 wc DV) (hb:base≤W.heap.size):Calls Tryz.prog 30 #[.pointer (some ⟨g,0,none⟩),.int .i64 3,.string ⟨#[]⟩] W (dR W base g 3 wc I1):=
 ed h jR 3 (by omega) hb [] Rl
theorem Rx (h:gU W base g 3 wc I1) (hb:base≤W.heap.size):Calls Tryz.prog 30 #[.pointer (some ⟨g,0,none⟩),.int .i64 4,.string ⟨#[0,8]⟩] W (dR W base g 3 wc Lm):=
 ed h jR 4 (by omega) hb [0,8] Rm
theorem LA (h:gU W base g 3 wc Lm) (hb:base≤W.heap.size):Calls Tryz.prog 12 #[.pointer (some ⟨g,0,none⟩),.int .i64 7] W fun e w'=>e= .returned (.int .i64 0)∧gU w' base g 3 wc I4∧Below base W w':=
 DT h jR 7 (by omega) hb
theorem LB (h:gU W base g 3 wc I4) (hb:base≤W.heap.size):Calls Tryz.prog 30 #[.pointer (some ⟨g,0,none⟩),.int .i64 7,.string ⟨#[0,18,1,0]⟩] W (dR W base g 3 wc I5):=
 ed h jR 7 (by omega) hb [0,18,1,0] Lp
theorem LC (h:gU W base g 3 wc I5) (hb:base≤W.heap.size):Calls Tryz.prog 29 #[.pointer (some ⟨g,0,none⟩),.int .i64 8,.string ⟨#[208,2,128,1,121]⟩,.slice none 0 0] W (dR W base g 4 wc AZ):=
 dn h (Below.refl _ W) jR (by unfold maxLen;omega) 8 (by omega) [208,2,128,1,121] (by decide) hb none 0 0 [] ⟨rfl,by omega,by omega,fun h0=>by omega⟩ (by omega) Lr
theorem LD (h:gU W base g 4 wc AZ) (hb:base≤W.heap.size):Calls Tryz.prog 29 #[.pointer (some ⟨g,0,none⟩),.int .i64 8,.string ⟨#[200,2,0,0,122]⟩,.slice (some ⟨W.heap.size,0,none⟩) 2 2] (W.alloc (.cells #[.string ⟨#[122,121]⟩,.string ⟨#[120]⟩] 9)) (dR W base g 5 wc A8):=
 (dn h ((Below.refl _ W).alloc (Nat.le_refl _) _) jR (by unfold maxLen;omega) 8 (by omega) [200,2,0,0,122] (by decide) hb _ 2 2 [[122,121],[120]] (yS W [[122,121],[120]] (by decide)) (by omega) Ls).mono fun e w' ⟨e1,hE,hB⟩=>⟨e1,hE,((Below.refl base W).alloc hb _).trans hB⟩
theorem LF (h:gU W base g 5 wc A8) (hb:base≤W.heap.size):Calls Tryz.prog 29 #[.pointer (some ⟨g,0,none⟩),.int .i64 9,.string ⟨#[208,4,128,1,97]⟩,.slice none 0 0] W (dR W base g 6 wc Ba):=
 dn h (Below.refl _ W) jR (by unfold maxLen;omega) 9 (by omega) [208,4,128,1,97] (by decide) hb none 0 0 [] ⟨rfl,by omega,by omega,fun h0=>by omega⟩ (by omega) Lt
theorem LG (h:gU W base g 6 wc Ba) (hb:base≤W.heap.size) (fr:Nat × Nat):Calls Tryz.prog 8 #[.pointer (some ⟨g,0,none⟩),.int .i64 8,.slice (some ⟨W.heap.size,0,none⟩) 1 1] (W.alloc (.cells #[.int .u8 5] 5 fr)) fun e w'=>∃A c,e= .returned (.tuple #[.slice A 0 c,.int .i64 5])∧gU w' base g 7 wc Bb∧Below base W w':=by
 have hs:Sl (W.alloc (.cells #[.int .u8 5] 5 fr)) (W.alloc (.cells #[.int .u8 5] 5 fr)).heap.size (some ⟨W.heap.size,0,none⟩) 1 1 (bE [5]):=pq (jy W _) rfl (by simp);have hr:=ug h ((Below.refl _ W).alloc (Nat.le_refl _) (.cells #[.int .u8 5] 5 fr)) jR (by unfold maxLen;omega) 8 (by omega) _ 1 1 [5] hs (fun ad e=>by cases e;exact Nat.le_refl _) (by omega) (by simp;omega);rw[Lu] at hr;refine hr.mono fun e w' ⟨v,T',e1,hO,hE,hB,_⟩=> ?_
 obtain ⟨A,c,rfl,_⟩:=hO.read;exact ⟨A,c,e1,hE,((Below.refl base W).alloc hb _).trans hB⟩
theorem LH (h:gU W base g 7 wc Bb) (hb:base≤W.heap.size) (fr:Nat × Nat):Calls Tryz.prog 8 #[.pointer (some ⟨g,0,none⟩),.int .i64 9,.slice (some ⟨W.heap.size,0,none⟩) 5 5] (W.alloc (.cells #[.int .u8 128,.int .u8 4,.int .u8 97,.int .u8 98,.int .u8 99] 5 fr)) fun e w'=>∃A c,e= .returned (.tuple #[.slice A 0 c,.int .i64 9])∧gU w' base g 8 wc Lv∧Below base W w':=by
 have hs:Sl (W.alloc (.cells #[.int .u8 128,.int .u8 4,.int .u8 97,.int .u8 98,.int .u8 99] 5 fr)) (W.alloc (.cells #[.int .u8 128,.int .u8 4,.int .u8 97,.int .u8 98,.int .u8 99] 5 fr)).heap.size (some ⟨W.heap.size,0,none⟩) 5 5 (bE [128,4,97,98,99]):=pq (jy W _) rfl (by simp);have hr:=ug h ((Below.refl _ W).alloc (Nat.le_refl _) (.cells #[.int .u8 128,.int .u8 4,.int .u8 97,.int .u8 98,.int .u8 99] 5 fr)) jR (by unfold maxLen;omega) 9 (by omega) _ 5 5 [128,4,97,98,99] hs (fun ad e=>by cases e;exact Nat.le_refl _) (by omega) (by simp;omega);rw[Lx] at hr;refine hr.mono fun e w' ⟨v,T',e1,hO,hE,hB,_⟩=> ?_
 obtain ⟨A,c,rfl,_⟩:=hO.read;exact ⟨A,c,e1,hE,((Below.refl base W).alloc hb _).trans hB⟩
end
set_option maxRecDepth 100000 in
set_option maxHeartbeats 4000000 in
theorem iH (w:World):Calls Tryz.prog 7 #[] w fun e w'=>e= .returned (.bool true)∧Below w.heap.size w w':=by
 have hnew:=yO 0 0 1 5 3 0 1 w;have hnew:Calls Tryz.prog 19 #[.agg (BS 0 0 1 5 3 0 1)] w fun e w'=>∃g,e= .returned (.tuple #[.pointer (some ⟨g,0,none⟩),.int .i64 0])∧gU w' w.heap.size g 0 wc IW∧Below w.heap.size w w':=by
  refine hnew.mono ?_;rintro e w' ⟨hB,⟨_,g,M,T,rfl,hR,hT⟩|⟨hf,_⟩⟩
  ·exact ⟨g,rfl,⟨T,M,0,_,hR,Nat.le_refl _,rT.1,rT.2,hT⟩,hB⟩
  ·exact absurd hf (by decide)
 have LJ:=Lib.hid hnew;have q3:=Re;have q7:=Rk;have kc:=fun (w:World) (C:Array Value) (n c:Nat)=>Lib.run_convert_bytes_const (P:=Tryz.prog) w 22 5 C n c und29 und5
 clear hnew;go_enter Tryz.func7,Tryz.ntmps7;go_upto_region 2 with (go_at_call 19;refine LJ.out.mono ?_;rintro e1 w1 ⟨g,rfl,hE0,hB⟩)
 go_wp2_with (first
  |(go_at_call 11;refine (gB _ _).mono ?_;rintro e1 w2 ⟨rfl,rfl⟩)
  |(go_at_call 29;(with_reducible refine (Rn hE0 hB.size).mono ?_);rintro e3 w3 ⟨rfl,hE1,hb1⟩;have hB1:=hB.trans hb1)
  |(go_at_call 29;(with_reducible refine (Ro hE1 hB1.size).mono ?_);rintro e4 w4 ⟨rfl,hE2,hb2⟩;have hB2:=hB1.trans hb2)
  |(go_at_call 14;(with_reducible refine (Rp hE2 hB2.size).mono ?_);rintro e5 w5 ⟨rfl,Ry,hb3⟩;have hB3:=hB2.trans hb3)
  |(go_at_call 30;(with_reducible refine (Rs Ry hB3.size).mono ?_);rintro e6 w6 ⟨rfl,Rz,hb4⟩;have hB4:=hB3.trans hb4)
  |(go_at_call 30;(with_reducible refine (Rt Rz hB4.size).mono ?_);rintro e7 w7 ⟨rfl,RA,hb5⟩;have lS:=hB4.trans hb5)
  |(go_at_call 29;(with_reducible refine (Ru RA lS.size).mono ?_);rintro e8 w8 ⟨rfl,RB,hb6⟩;have zV:=lS.trans hb6)
  |(go_at_call 14;(with_reducible refine (Rv RB zV.size).mono ?_);rintro e9 w9 ⟨rfl,RD,sw⟩;have zb:=zV.trans sw)
  |(go_at_call 30;(with_reducible refine (Rw RD zb.size).mono ?_);rintro e10 Lc ⟨rfl,RE,ze⟩;have Bq:=zb.trans ze)
  |(go_at_call 30;(with_reducible refine (Rx RE Bq.size).mono ?_);rintro e11 zu ⟨rfl,RF,fZ⟩;have Ic:=Bq.trans fZ)
  |(go_at_call 12;(with_reducible refine (LA RF Ic.size).mono ?_);rintro e12 Ld ⟨rfl,LK,yT⟩;have G7:=Ic.trans yT)
  |(go_at_call 30;(with_reducible refine (LB LK G7.size).mono ?_);rintro e13 GN ⟨rfl,LM,dS⟩;have G8:=G7.trans dS)
  |(go_at_call 29;(with_reducible refine (LC LM G8.size).mono ?_);rintro e14 QV ⟨rfl,LP,rR⟩;have G9:=G8.trans rR)
  |(go_at_call 29;(with_reducible refine (LD LP G9.size).mono ?_);rintro e15 SG ⟨rfl,LQ,LU⟩;have He:=G9.trans LU)
  |(go_at_call 29;(with_reducible refine (LF LQ He.size).mono ?_);rintro e16 w16 ⟨rfl,LV,LW⟩;have Hf:=He.trans LW)
  |(go_at_call 8;(with_reducible refine (LG LV Hf.size _).mono ?_);rintro e17 SH ⟨SI,c15,rfl,LX,LY⟩;have Hg:=Hf.trans LY)
  |(go_at_call 8;(with_reducible refine (LH LX Hg.size _).mono ?_);rintro e18 SK ⟨SL,c16,rfl,RG,LZ⟩;have L5:=Hg.trans LZ)
  |fail)
 go_ret;exact ⟨rfl,L5⟩
end
section
open Go.RowKit Go.Shelf
attribute [local go_sem] Oper.semAt_some
def dH (w:World) (v:Value):Prop:=v= .pointer none∨∃g,v= .pointer (some ⟨g,0,none⟩)∧g<w.heap.size∧w.cell? ⟨g,7,none⟩=some (.map none)
section
variable {w w':World} {v:Value}
theorem dH.below (h:dH w v) (hb:Below w.heap.size w w'):dH w' v:=by
 rcases h with rfl|⟨g,rfl,hl,h⟩
 ·exact .inl rfl
 ·exact .inr ⟨g,rfl,Nat.lt_of_lt_of_le hl hb.size,(hb.cell (p:=⟨g,7,none⟩) hl).trans h⟩
theorem dH.ptr (h:dH w v):∃p,v= .pointer p:=by
 rcases h with rfl|⟨g,rfl,_⟩
 ·exact ⟨_,rfl⟩
 ·exact ⟨_,rfl⟩
theorem dw (h:dH w v):Calls Tryz.prog 31 #[v] w fun e w'=>e= .returned (.bool true)∧w=w':=by
 rcases h with rfl|⟨g,rfl,_,h⟩
 ·exact vN w
 ·exact tF g w h
set_option maxRecDepth 10000 in
set_option maxHeartbeats 1000000 in
theorem oM (h:dH w v) (now:Int) (A:Option Addr) (n c:Nat):Calls Tryz.prog 8 #[v,.int .i64 now,.slice A n c] w fun e w'=>e= .returned (.tuple #[.slice none 0 0,.int .i64 1])∧Below w.heap.size w w':=by
 have hB:=(((Below.refl w.heap.size w).alloc (Nat.le_refl _) (.cells #[.slice none 0 0] 34)).alloc (by simp) (.cells #[.int .i64 0] 35));have HN:=Lib.hid (dw (h.below hB));have HB:=Lib.hid hB;clear h hB;go_enter Tryz.func8,Tryz.ntmps8;go_wp2_with (go_at_call 31;refine HN.out.mono ?_;rintro e1 w1 ⟨rfl,rfl⟩);refine bodyPost_ret (v:= .tuple #[.slice none 0 0,.int .i64 1]) ?_ rfl ?_
 ·have b0:=(av.new w 34 #[.slice none 0 0]).alloc (.cells #[.int .i64 1] 35);have b1:=av.new (w.alloc (.cells #[.slice none 0 0] 34)) 35 #[.int .i64 1];rw[World.size_alloc] at b1;have q0:=b0.cell 0;have q1:=b1.cell 0;simp[results,Tryz.results8,go_sem]
 ·exact ⟨rfl,((Below.refl w.heap.size w).alloc (Nat.le_refl _) _).alloc (by simp) _⟩
theorem mW (h:dH w v) (now n:Int):Calls Tryz.prog 9 #[v,.int .i64 now,.int .i64 n] w fun e w'=>e= .returned (.tuple #[.slice none 0 0,.int .i64 1])∧Below w.heap.size w w':=by
 have HN:=Lib.hid (dw h);clear h;go_enter Tryz.func9,Tryz.ntmps9;go_wp2_with (go_at_call 31;refine HN.out.mono ?_;rintro e1 w1 ⟨rfl,rfl⟩)
 go_ret2
 exact ⟨rfl,Below.refl _ _⟩
theorem oN (h:dH w v) (now:Int):Calls Tryz.prog 12 #[v,.int .i64 now] w fun e w'=>e= .returned (.int .i64 1)∧Below w.heap.size w w':=by
 have HN:=Lib.hid (dw h);clear h;go_enter Tryz.func12,Tryz.ntmps12;go_wp2_with (go_at_call 31;refine HN.out.mono ?_;rintro e1 w1 ⟨rfl,rfl⟩);go_ret;exact ⟨rfl,Below.refl _ _⟩
theorem oO (h:dH w v):Calls Tryz.prog 16 #[v] w fun e w'=>e= .returned (.pointer none)∧Below w.heap.size w w':=by
 have HN:=Lib.hid (dw h);clear h;go_enter Tryz.func16,Tryz.ntmps16;go_wp2_with (go_at_call 31;refine HN.out.mono ?_;rintro e1 w1 ⟨rfl,rfl⟩);go_ret;exact ⟨rfl,Below.refl _ _⟩
theorem mX (h:dH w v):Calls Tryz.prog 14 #[v] w fun e w'=>e= .returned (.agg #[.int .i64 0,.int .i64 0,.int .i64 0,.bool false,.int .i64 0,.int .i64 0,.bool false,.int .i64 0])∧Below w.heap.size w w':=by
 have hB:=(Below.refl w.heap.size w).alloc (Nat.le_refl _) (.cells #[.int .i64 0,.int .i64 0,.int .i64 0,.bool false,.int .i64 0,.int .i64 0,.bool false,.int .i64 0] 49);have HZ:=Lib.hid (av.new w 49 #[.int .i64 0,.int .i64 0,.int .i64 0,.bool false,.int .i64 0,.int .i64 0,.bool false,.int .i64 0]);have HN:=Lib.hid (dw (h.below hB));have HB:=Lib.hid hB;clear h hB;go_enter Tryz.func14,Tryz.ntmps14;go_wp2_with (go_at_call 31;refine HN.out.mono ?_;rintro e1 w1 ⟨rfl,rfl⟩);refine bodyPost_ret (v:= .agg #[.int .i64 0,.int .i64 0,.int .i64 0,.bool false,.int .i64 0,.int .i64 0,.bool false,.int .i64 0]) ?_ rfl ⟨rfl,(Below.refl _ w).alloc (Nat.le_refl _) _⟩;rw[fK rfl];go_simp
set_option maxRecDepth 100000 in
set_option maxHeartbeats 1000000 in
theorem oP (h:dH w v) (now:Int):Calls Tryz.prog 13 #[v,.int .i64 now] w fun e w'=>e= .returned (.bool false)∧Below w.heap.size w w':=by
 have fq:Tryz.prog.follows .mixedOrders=true:=by kernel_rfl
 have hno:Calls Tryz.prog 31 #[v] w.drew fun e w'=>e= .returned (.bool true)∧w'=w.drew:=(dw (h.below (Below.refl _ w).drew)).mono fun _ _ hh=>⟨hh.1,hh.2.symm⟩
 have wP:=Lib.hid hno;clear h hno;go_enter Tryz.func13,Tryz.ntmps13;go_wp2_with fail;refine wp_region_still_lit fq (by kernel_rfl) ?_
 still_step
 still_call wP.out
 repeat (with_reducible refine wpStill_step (fun K hK=> ?_);go_simp;with_reducible refine hK _ ?_;clear hK K)
 with_reducible refine wpStill_nil ?_
 go_wp2
 all_goals
  go_ret;exact ⟨rfl,(Below.refl _ w).drew⟩
theorem kL (h:dH w v):Calls Tryz.prog 10 #[v] w fun e w'=>e= .returned (.tuple #[.agg #[.int .i64 0,.slice none 0 0],.int .i64 1])∧Below w.heap.size w w':=by
 have hB:=(Below.refl w.heap.size w).alloc (Nat.le_refl _) (.cells #[.int .i64 0,.slice none 0 0] 42);have HZ:=Lib.hid (av.new w 42 #[.int .i64 0,.slice none 0 0]);have HN:=Lib.hid (dw (h.below hB));have HB:=Lib.hid hB;clear h hB;go_enter Tryz.func10,Tryz.ntmps10;go_wp2_with (go_at_call 31;refine HN.out.mono ?_;rintro e1 w1 ⟨rfl,rfl⟩);refine bodyPost_ret (v:= .tuple #[.agg #[.int .i64 0,.slice none 0 0],.int .i64 1]) ?_ rfl ⟨rfl,(Below.refl _ w).alloc (Nat.le_refl _) _⟩;simp[results,Tryz.results10,go_sem]
end
end
section
open Go.RowKit Go.Shelf
attribute [local go_sem] Oper.semAt_some
section
def uO (F:Fence) (n:Nat) (P:Program) (g:Nat) (lb:Array Value) (w:World):Prop:=
 ∀(l:Nat) (J:World→Prop) (W:World),Below w.heap.size w W→OwnFrom W.heap.size (fun (_:Unit) X=>J X)→J W→
  CallsIn F n P g (#[.func (.yield l) #[] #[]]++lb) W fun e W'=>(∃v,e= .returned v)∧J W'
theorem kS {F:Fence} {n:Nat} {P:Program} {g:Operand} {ps:Array Tmp} {assign body:Code} {Q:Exit→Act→World→Prop} {a:Act} {w:World}
 (hro:F.round=none) (h1:1≤n) {gf:Nat} {lb:Array Value} (hg:a.eval g= .func (.func gf) #[] lb) (hFg:F.fn gf) (eg:∀args w,(callFunc gf args).run P w= .ok (.enter gf args) w)
 {w0:World} (hseq:uO F (n-1) P gf lb w0) (hb0:Below w0.heap.size w0 w)
 (I:World→Prop) (hI:OwnFrom w.heap.size (fun (_:Unit) X=>I X)) (h0:I w)
 (hdone:∀(D:Nat) (W:World),w.heap.size≤D→I W→W.heap[D]? =some (.deferred (some []))→Q .normal {a with defers:= {target:= .collected D,args:= #[]}::a.defers} W):
 (Code.rangeFunc g ps assign body).wpIn F n P Q a w:=by
 refine wpIn_rangeFunc fun fn hfn=> ?_
 rw[hro]
 let R:LoopState→Loop:=fun st=> {state:=st,pending:=none,fn,tmps:=a.tmps,params:=ps,assign,body,defers:=w.heap.size}
 let W1:=(w.alloc (.deferred (some []))).alloc (.loop (R .ready))
 have hsz:W1.heap.size=w.heap.size+2:=by simp[W1]
 have hL1:W1.heap[w.heap.size+1]? =some (.loop (R .ready)):=by
  have:=World.alloc_heap_new (w.alloc (.deferred (some []))) (.loop (R .ready));rwa [World.size_alloc] at this
 have hD1:W1.heap[w.heap.size]? =some (.deferred (some [])):=(Below.heap_alloc _ _ _ (by simp)).trans (World.alloc_heap_new w _);have hBW:Below w0.heap.size w0 W1:=hb0.trans ((((Below.refl _ w).alloc (Nat.le_refl _) _).alloc (by simp) _).mono hb0.size)
 let J:World→Prop:=fun W=>I W∧W.heap[w.heap.size+1]? =some (.loop (R .ready))∧W.heap[w.heap.size]? =some (.deferred (some []))
 have hJ:OwnFrom W1.heap.size (fun (_:Unit) X=>J X):=fun k A B row hs hgr hr=>by
  have keeps:=fun (i:Nat) (o:Obj) (ho:A.heap[i]? =some o) (hi:i<W1.heap.size)=>(hgr.block i (lt_of_heap ho) (fun e=>by have:=(hr i e.symm).1;omega)).trans ho
  refine ⟨hI () A B row hs.1 hgr (fun r e=> ?_),keeps _ _ hs.2.1 (by omega),keeps _ _ hs.2.2 (by omega)⟩;obtain ⟨h2,o,ho,hw⟩:=hr r e;exact ⟨by omega,o,ho,hw⟩
 refine ⟨w.heap.size+1,[{target:= .collected w.heap.size,args:= #[]}],W1,{target:= .fn (.func gf) lb,args:= #[.func (.yield (w.heap.size+1)) #[] #[]]},W1,gf,
  #[.func (.yield (w.heap.size+1)) #[] #[]]++lb,W1,run_enterLoop_outer _ _ _ _ _,?_,?_,?_,fun _=>h1,?_⟩
 ·simp only[resolve,hg];simp[go_sem]
 ·intro f' hf';simp[Target.leads] at hf';subst hf';exact hFg
 ·simp[invoke,go_sem,eg]
 refine (hseq (w.heap.size+1) J W1 hBW hJ ⟨hI.alloc (s:=()) _ (hI.alloc (s:=()) _ h0),hL1,hD1⟩).mono ?_;rintro e W2 ⟨⟨v,rfl⟩,hi,hl,hd⟩;exact ⟨none,_,run_endLoop (P:=P) hl (by simp[R]),hdone _ _ (Nat.le_refl _) (hI.putObj (s:=()) _ hi (by omega) hl rfl) ((World.putObj_heap_other (by omega)).trans hd)⟩
end
def kE (k now N:Int) (A:Option Addr) (n c:Nat):Array Value:= #[.int .i64 k,.int .i64 now,.int .i64 N,.slice A n c]
set_option maxRecDepth 100000 in
set_option maxHeartbeats 1000000 in
theorem wK (b:Nat) (k now N:Int) (A:Option Addr) (n c:Nat) (w:World) (h:av w b 24 (kE k now N A n c)) (_hn:n≤c) (_hc:c≤9223372036854775807):
 Calls Tryz.prog 6 #[.slice (some ⟨b,0,none⟩) 1 1,.int .i64 1] w fun e w'=>e= .returned (.bool (decide (n≤300)))∧w=w':=by
 have x0:w.cell? ⟨b,0,none⟩=some (.int .i64 k):=h.cell 0;have x1:w.cell? ⟨b,1,none⟩=some (.int .i64 now):=h.cell 1;have x2:w.cell? ⟨b,2,none⟩=some (.int .i64 N):=h.cell 2;have x3:w.cell? ⟨b,3,none⟩=some (.slice A n c):=h.cell 3;clear h;go_enter Tryz.func6,Tryz.ntmps6;go_wp2;go_loopg [5] 1 (fun gk s5 wr=>wr=w∧((s5= .int .i64 0∧gk=1)∨(s5= .int .i64 1∧gk=0∧n≤300)))
 case atStart=>exact ⟨rfl,.inl ⟨rfl,rfl⟩⟩
 case round=>
  obtain ⟨rfl,⟨rfl,uF⟩|⟨rfl,uF,hle⟩⟩:=hrel
  ·have Ie:=Lib.hid uF;clear uF;by_cases hl:n≤300
   ·have d1:decide ((300:Int)<(n:Int))=false:=by simp;omega
    go_wp2
    go_roundg 0
    case measure=>rw[Ie.out];omega
    case rel=>exact ⟨rfl,.inr ⟨by go_num,rfl,hl⟩⟩
   ·have d1:decide ((300:Int)<(n:Int))=true:=by simp;omega
    have d2:decide (n≤300)=false:=by simp;omega
    have D2:=Lib.hid d2;clear d2 hl;go_wp2;go_ret;exact ⟨by rw[D2.out];rfl,rfl⟩
  ·have d2:decide (n≤300)=true:=by simpa using hle
   have D2:=Lib.hid d2;clear d2 hle;go_wp2;go_ret;exact ⟨by rw[D2.out];rfl,rfl⟩
def Hl (w:World) (e:Ending) (w':World):Prop:=
 ∃G,e= .returned (.func (.func 97) #[] #[.pointer (some ⟨G,0,none⟩)])∧w.heap.size≤G∧av w' G 95 #[.slice none 0 0]∧Below w.heap.size w w'
set_option maxRecDepth 100000 in
set_option maxHeartbeats 1000000 in
theorem wL {v:Value} {w:World} (h:dH w v):Calls Tryz.prog 44 #[v] w (Hl w):=by
 have hl:Below w.heap.size w ((w.alloc (.cells #[v] 28)).alloc (.cells #[.slice none 0 0] 95)):=((Below.refl w.heap.size w).alloc (Nat.le_refl _) _).alloc (by simp) _;have hN:dH ((w.alloc (.cells #[v] 28)).alloc (.cells #[.slice none 0 0] 95)) v:=h.below hl;have HN:=Lib.hid (dw hN);have hb:av ((w.alloc (.cells #[v] 28)).alloc (.cells #[.slice none 0 0] 95)) (w.heap.size+1) 95 #[.slice none 0 0]:=by simpa using av.new (w.alloc (.cells #[v] 28)) 95 #[.slice none 0 0]
 have hb0:=(av.new w 28 #[v]).alloc (.cells #[.slice none 0 0] 95);have HB:=Lib.hid hb;have HL:=Lib.hid hl;obtain ⟨p,rfl⟩:=h.ptr;clear h hN hl hb;go_enter Tryz.func44,Tryz.ntmps44;go_wp2_with (go_at_call 31;refine HN.out.mono ?_;rintro e1 w1 ⟨rfl,rfl⟩);go_ret;exact ⟨w.heap.size+1,rfl,by omega,HB.out,HL.out⟩
set_option maxRecDepth 100000 in
set_option maxHeartbeats 2000000 in
theorem uh (n:Nat) (G:Nat) (w:World) (hg:av w G 95 #[.slice none 0 0]):
 uO Fence.wide n Tryz.prog 97 #[.pointer (some ⟨G,0,none⟩)] w:=fun l J W hW _ h0=>by
 have hg':=hg.below hW hg.lt;refine callsIn_of_wp Tryz.func97 rfl trivial ?_ rfl;simp only[Tryz.ntmps97,List.size_toArray,List.length_cons,List.length_nil,Nat.reduceAdd,Nat.reduceSub,Array.replicate_succ,Array.replicate_zero,List.push_toArray,List.append_toArray,List.nil_append,List.cons_append];have hcw:=hg'.cell 0;simp at hcw;refine dW ?_
 gi_wp2
 refine wpIn_label ?_
 gi_wp2
 gi_loopw [7] (fun i wr=>i= .int .i64 0∧J wr) (fun _ _=>0)
 case atStart=>exact ⟨rfl,h0⟩
 case round=>
  obtain ⟨rfl,hJs⟩:=hrel
  gi_wp2
  first
   |go_end0
   |(rw[Exit.noGoto_normal];go_end0)
  exact ⟨⟨_,rfl⟩,hJs⟩
theorem Ho (lb:Array Value) (w:World):(binOp .eql 97 (.func (.func 97) #[] lb) .nilFunc).run Tryz.prog w= .ok (.bool false) w:=by kernel_rfl
def uP (w:World) (e:Ending) (w':World):Prop:=e= .returned (.bool true)∧Below w.heap.size w w'
set_option maxRecDepth 100000 in
set_option maxHeartbeats 2000000 in
theorem uQ {v:Value} {w:World} (h:dH w v):Calls Tryz.prog 15 #[v,.slice none 0 0,.int .i64 9] w (uP w):=by
 refine (callsIn_wide (n:=7)).1 ?_;have hba:Below w.heap.size w (((w.alloc (.cells #[.slice none 0 0] 95)).alloc (.cells #[.int .i64 9] 3)).alloc (.cells #[.bool false] 4)):=(((Below.refl _ w).alloc (Nat.le_refl _) _).alloc (by simp) _).alloc (by simp;omega) _;have hN:=h.below hba;have Ol:=wL hN;have b4:av (((w.alloc (.cells #[.slice none 0 0] 95)).alloc (.cells #[.int .i64 9] 3)).alloc (.cells #[.bool false] 4)) w.heap.size 95 #[.slice none 0 0]:=((av.new w 95 _).alloc _).alloc _;have b5:av (((w.alloc (.cells #[.slice none 0 0] 95)).alloc (.cells #[.int .i64 9] 3)).alloc (.cells #[.bool false] 4)) (w.heap.size+1) 3 #[.int .i64 9]:=by
  have:=(av.new (w.alloc (.cells #[.slice none 0 0] 95)) 3 #[.int .i64 9]).alloc (.cells #[.bool false] 4);simpa using this
 have b6:av (((w.alloc (.cells #[.slice none 0 0] 95)).alloc (.cells #[.int .i64 9] 3)).alloc (.cells #[.bool false] 4)) (w.heap.size+2) 4 #[.bool false]:=by
  have:=av.new ((w.alloc (.cells #[.slice none 0 0] 95)).alloc (.cells #[.int .i64 9] 3)) 4 #[.bool false];simpa using this
 have RH:=Ho;have RI:=Lib.hid Ol;have L6:=Lib.hid hba;have H4:=Lib.hid b4;have H5:=Lib.hid b5;have H6:=Lib.hid b6;clear Ol hba b4 b5 b6 h hN;refine callsIn_of_wp_marks Tryz.func15 rfl trivial ?_ rfl;simp only[Tryz.ntmps15,List.size_toArray,List.length_cons,List.length_nil,Nat.reduceAdd,Nat.reduceSub,Array.replicate_succ,Array.replicate_zero,List.push_toArray,List.append_toArray,List.nil_append,List.cons_append];refine wpIn_wide.2 ?_;go_wp2_with (go_at_call 44;refine RI.out.mono ?_;rintro e1 w1 ⟨G,rfl,hG,Om,hb1⟩);have hsz1:=hb1.size;simp at hsz1 hG;have b8:=av.new w1 3 #[.int .i64 0];have Bq:Below w.heap.size w (w1.alloc (.cells #[.int .i64 0] 3)):=(L6.out.trans (hb1.mono L6.out.size)).alloc (by omega) _;have c4:=(H4.out.below hb1 H4.out.lt).alloc (.cells #[.int .i64 0] 3);have c5:=(H5.out.below hb1 H5.out.lt).alloc (.cells #[.int .i64 0] 3);have c6:=(H6.out.below hb1 H6.out.lt).alloc (.cells #[.int .i64 0] 3);have K4:=Lib.hid c4;have K5:=Lib.hid c5;have K6:=Lib.hid c6;have K8:=Lib.hid b8;have KB:=Lib.hid Bq;have HG:=Lib.hid Om;clear c4 c5 c6 b8 Bq H4 H5 H6 L6 hb1 Om;apply (wpIn_wide (n:=7)).1;apply kS (gf:=97) (lb:= #[.pointer (some ⟨G,0,none⟩)]) rfl (by omega) rfl trivial (enters_of Tryz.func97 (by kernel_rfl) rfl)
  (uh _ G w1 HG.out) ((Below.refl _ w1).alloc (Nat.le_refl _) _) (fun X=>Below (w1.alloc (.cells #[.int .i64 0] 3)).heap.size (w1.alloc (.cells #[.int .i64 0] 3)) X)
 case hI=>exact fun s X Y row hs hg hr=>hs.grown hg hs.size (fun r e=>(hr r e).1)
 case h0=>exact Below.refl _ _
 case hdone=>
  intro D W3 hD hI pY;simp at hD;have d4:=K4.out.below hI K4.out.lt;have d5:=K5.out.below hI K5.out.lt;have d6:=K6.out.below hI K6.out.lt;have d8:=K8.out.below hI K8.out.lt;have x4:=d4.cell 0;have x5:=d5.cell 0;have x6:=d6.cell 0;have x8:=d8.cell 0;have f6:=d6.frozen 0;simp at x4 x5 x6 x8;have hB3:Below w.heap.size w W3:=KB.out.trans (hI.mono KB.out.size);have L8:=d6.aF 0 (.bool true);simp at L8;have BU:(W3.setCell ⟨w.heap.size+2,0,none⟩ (.bool true)).heap[D]? =some (.deferred (some [])):=(Below.heap_setCell W3 ⟨w.heap.size+2,0,none⟩ (.bool true) D (by simp;omega)).trans pY;have On:=L8.grown (grownBy_putObj' (W3.setCell ⟨w.heap.size+2,0,none⟩ (.bool true)) D (.deferred none)) (by simp;omega);have hB4:=(hB3.setCell (p:=⟨w.heap.size+2,0,none⟩) (by simp) (.bool true)).grown (grownBy_putObj' (W3.setCell ⟨w.heap.size+2,0,none⟩ (.bool true)) D (.deferred none)) (by have:=hB3.size;simp[World.setCell];omega) (fun j hj=>by cases hj;omega);have HR:=Lib.hid BU;have RJ:=Lib.hid On;have vU:=Lib.hid hB4;clear d4 d5 d6 d8 hB3 L8 BU On hB4 pY hI
  gi_wp2
  go_wp2;have q0:((W3.setCell ⟨w.heap.size+1+1,0,none⟩ (.bool true)).putObj D (.deferred none)).cell? ⟨w.heap.size+1+1,0,none⟩=some (.bool true):=RJ.out.cell 0;refine ⟨by simp,.inl ⟨_,_,rfl,run_takeDeferred HR.out,?_⟩⟩;exact ⟨.bool true,by simp[results,Tryz.results15,go_sem,q0],rfl,vU.out⟩
end
end Go.Proofs.YtiecgfahidpldaaGreat
