/- Status: the state between two rounds of its loop; an acknowledged PDU in memory; Status of a failed transmitter, or of an invalid report. The calls of a nil or of a zero transmitter. New: the check of a configuration, the constructor. amsend: advance. -/
import Derived.Test.YtiecgfahidpldaaGreatM3ad
import Derived.Test.YtiecgfahidpldaaGreatM3ae
import Derived.Test.YtiecgfahidpldaaGreatM3ah
import Derived.Test.YtiecgfahidpldaaGreatM3ai
import Derived.Test.YtiecgfahidpldaaGreatM3aj
import Derived.Test.YtiecgfahidpldaaGreatM3al
import Derived.Test.YtiecgfahidpldaaGreatM3an
import Derived.Test.YtiecgfahidpldaaGreatM3ao
import Derived.Deep.DeepCutAuto
import Derived.Deep.CutBlock
import Derived.Deep.LoopGhost
import Derived.BigRegion
namespace Go.Proofs.YtiecgfahidpldaaGreat
section
open Go.RowKit Go.Shelf
attribute [local go_sem] Oper.semAt_some
def Br (c:Cf) (m:Ou→List (Nat × Nat)) (st:Sd) (k:Nat):Sd:= {st with out:=(aX c m k st.out).1,failed:=st.failed||(aX c m k st.out).2}
theorem Oz (c:Cf) (m:Ou→List (Nat × Nat)) (st:Sd):Br c m st 0=st:=by
 obtain ⟨q,d,f,t,fi,o,p,b,po,wa,ex,ow,fa,no⟩:=st;simp[Br,aX]
theorem Kq (c:Cf) (m:Ou→List (Nat × Nat)) (st:Sd) (k:Nat):(Br c m st k).out[k]? =st.out[k]? :=by
 show (aX c m k st.out).1[k]? =st.out[k]?
 rw[jk,if_neg (Nat.lt_irrefl k)]
theorem Gc {c:Cf} {m:Ou→List (Nat × Nat)} {st:Sd} {k:Nat} {x:Ou} (hx:st.out[k]? =some x):Br c m st (k+1)=lV (Br c m st k) k (bQ c m x):=by
 have h1:(aX c m (k+1) st.out).1=(aX c m k st.out).1.set k (bQ c m x).1:=by
  apply List.ext_getElem?;intro i;rw[jk,List.getElem?_set,jk,kF];have hk:=(List.getElem?_eq_some_iff.1 hx).1;by_cases hik:k=i
  ·subst hik;rw[if_pos (by omega),if_pos rfl,if_pos hk,hx];rfl
  ·rw[if_neg hik];by_cases hlt:i<k
   ·rw[if_pos (by omega),if_pos hlt]
   ·rw[if_neg (by omega),if_neg hlt]
 have h2:(aX c m (k+1) st.out).2=((aX c m k st.out).2||(bQ c m x).2):=by
  simp only[aX];rw[List.take_add_one,hx];simp
 unfold Br lV;rw[h1,h2,Bool.or_assoc]
theorem Lv {c:Cf} {m:Ou→List (Nat × Nat)} {st:Sd} {k:Nat} {x:Ou} (hx:st.out[k]? =some x) (ha:x.bS=true):Br c m st (k+1)=Br c m st k:=by
 have hg:=Kq c m st k;rw[hx] at hg;rw[Gc hx];have e:bQ c m x=(x,false):=by unfold bQ;rw[if_pos ha]
 rw[e];unfold lV;have h3:(Br c m st k).out.set k x=(Br c m st k).out:=by
  apply List.ext_getElem?;intro i;rw[List.getElem?_set];split
  ·rename_i hik;subst hik;split
   ·exact hg.symm
   ·rename_i hl;exact (List.getElem?_eq_none (by omega)).symm
  ·rfl
 simp only[h3,Bool.or_false]
section
variable {D F:Nat→Prop} {g:Nat} {c:Cf} {st:Sd} {vq vo:Value} {vs os:List Value} {w:World}
theorem dY.confirm (h:dY w D F g c st vq vs vo os) {i p:Nat} {x:Ou} {Ap Ar:Option Addr} {cp cr:Nat} {vp:List Value} (hx:st.out[i]? =some x) (hp:os[i]? =some (.pointer (some ⟨p,0,none⟩))) (hO:gK w D F p x Ap cp vp Ar cr):
 dY ((w.setCell ⟨p,9,none⟩ (.bool true)).setCell ⟨p,10,none⟩ (.slice none 0 0)) D F g c (lV st i ({x with bS:=true,pend:= []},false)) vq vs vo os∧Kept (fun k _=>D k) w ((w.setCell ⟨p,9,none⟩ (.bool true)).setCell ⟨p,10,none⟩ (.slice none 0 0)):=by
 obtain ⟨h1,o1⟩:=h.IA hx hp hO 9 (.bool true) (z:= {x with bS:=true}) (by simp[uN,ay]) rfl hO.rs hO.rf;have hil:=(List.getElem?_eq_some_iff.1 hx).1;have hx1:(st.out.set i {x with bS:=true})[i]? =some {x with bS:=true}:=List.getElem?_set_self hil;obtain ⟨h2,_⟩:=h1.IA hx1 hp o1 10 (.slice none 0 0) (z:= {x with bS:=true,pend:= []}) (J8:=none) (KU:=0) (by simp[uN,ay]) rfl (cZ.nil _) (fun ad e=>by cases e);have e:lV st i ({x with bS:=true,pend:= []},false)= {st with out:=(st.out.set i {x with bS:=true}).set i {x with bS:=true,pend:= []}}:=by
  unfold lV;rw[List.set_set,Bool.or_false]
 rw[e];exact ⟨h2,((Kept.refl _ w).setCell (p:=⟨p,9,none⟩) (fun _ _=>hO.d) _).setCell (p:=⟨p,10,none⟩) (fun _ _=>hO.d) _⟩
theorem dY.OA {w0:World} (h:dY w0 D F g c st vq vs vo os) {b:Nat} (hF:∀k,F k→k<w.heap.size) (hb:w.heap.size≤b) (j:Nat) (u:Value):dY (w0.setCell ⟨b,j,none⟩ u) D F g c st vq vs vo os:=
 h.stay fun k hk=>fB (fun e=>by have:=hF k hk;have e2:k=b:=e;omega)
theorem Kept.OA {M:Nat→Obj→Prop} {w0:World} (hk:Kept M w w0) {b:Nat} (hb:w.heap.size≤b) (j:Nat) (u:Value):Kept M w (w0.setCell ⟨b,j,none⟩ u):=
 ⟨hk.os,hk.tape,hk.output,Nat.le_trans hk.size (by simp[World.setCell]),fun k o ho hm=>(fB (fun e=>by have:=(Array.getElem?_eq_some_iff.1 ho).1;have e2:k=b:=e;omega)).trans (hk.same k o ho hm)⟩
structure T6 (w:World) (g:Nat) (aI:Int) (A:Option Addr) (n cc:Nat) (w0:World):Prop where
 b:Below w.heap.size w w0
 s:aA w0 w.heap.size 55 #[.pointer (some ⟨g,0,none⟩)]
 r:aA w0 (w.heap.size+1) 42 #[.int .i64 aI,.slice A n cc]
 e:aA w0 (w.heap.size+1+1) 35 #[.int .i64 0]
 z:w0.heap.size=w.heap.size+3
theorem T6.mk' (w:World) (g:Nat) (aI:Int) (A:Option Addr) (n cc:Nat):T6 w g aI A n cc (((w.alloc (.cells #[.pointer (some ⟨g,0,none⟩)] 55)).alloc (.cells #[.int .i64 aI,.slice A n cc] 42)).alloc (.cells #[.int .i64 0] 35)):=by
 have h1:=((aA.new w 55 #[.pointer (some ⟨g,0,none⟩)]).alloc (.cells #[.int .i64 aI,.slice A n cc] 42)).alloc (.cells #[.int .i64 0] 35);have h2:=(aA.new (w.alloc (.cells #[.pointer (some ⟨g,0,none⟩)] 55)) 42 #[.int .i64 aI,.slice A n cc]).alloc (.cells #[.int .i64 0] 35);have h3:=aA.new ((w.alloc (.cells #[.pointer (some ⟨g,0,none⟩)] 55)).alloc (.cells #[.int .i64 aI,.slice A n cc] 42)) 35 #[.int .i64 0];simp only[World.size_alloc] at h2 h3;exact ⟨(((Below.refl _ w).alloc (Nat.le_refl _) _).alloc (by simp) _).alloc (by simp;omega) _,h1,h2,h3,by simp⟩
end
end
section
open Go.RowKit Go.Shelf
attribute [local go_sem] Oper.semAt_some
section
variable {w w':World} {v:Value}
end
end
section
open Go.RowKit Go.Shelf
attribute [local go_sem] Oper.semAt_some
def outside (lo hi x:Int):Bool:=decide (x<lo)||decide (hi<x)
def ints (xs:List Int):List Value:=xs.map (Value.int .i64)
def T7 (b:Bool) (w:World) (e:Ending) (w':World):Prop:=((∃k:Nat,e= .returned (.int .i64 k)∧b=true)∨(e= .returned (.int .i64 (-1))∧b=false))∧w=w'
theorem Ea (lo hi x:Int) (a b:Nat) (w:World) (ha:w.cell? ⟨a,0,none⟩=some (.int .i64 lo)) (hb:w.cell? ⟨b,0,none⟩=some (.int .i64 hi)):Calls Tryz.prog 169 #[.int .i64 x,.pointer (some ⟨a,0,none⟩),.pointer (some ⟨b,0,none⟩)] w fun e w'=>e= .returned (.bool (outside lo hi x))∧w=w':=by
 by_cases h1:x<lo
 ·have e1:outside lo hi x=true:=by simp[outside,h1]
  have H1:=Lib.hid e1;clear e1;go_enter Tryz.func169,Tryz.ntmps169;go_wp2;go_ret;exact ⟨bH H1.out.symm,rfl⟩
 ·have h1':decide (x<lo)=false:=by simpa using h1
  have e1:decide (hi<x)=outside lo hi x:=by simp[outside,h1']
  have H1:=Lib.hid e1;clear e1;go_enter Tryz.func169,Tryz.ntmps169;go_wp2;go_ret;exact ⟨bH H1.out,rfl⟩
theorem Eb (lo hi:Int) (a b r n:Nat) (xs:List Int) (w:World) (hn:xs.length=n) (hsm:n≤1000) (hr:aA w r 3 (ints xs).toArray) (ha:w.cell? ⟨a,0,none⟩=some (.int .i64 lo)) (hb:w.cell? ⟨b,0,none⟩=some (.int .i64 hi)):
 Calls Tryz.prog 172 #[.slice (some ⟨r,0,none⟩) n n,.func (.func 169) #[] #[.pointer (some ⟨a,0,none⟩),.pointer (some ⟨b,0,none⟩)]] w (T7 (xs.any (outside lo hi)) w):=by
 have HC:=Lib.hid fun x=>Ea lo hi x a b w ha hb
 have HL:=Lib.hid hn;clear hn ha hb;go_enter Tryz.func172,Tryz.ntmps172;go_wp2
 go_loop [8] (fun i=>∃k:Nat,k≤n∧i= .int .i64 k∧(xs.take k).any (outside lo hi)=false) (fun i=>n-(intOf i).toNat)
 case atStart=>exact ⟨0,Nat.zero_le _,rfl,by simp⟩
 case round=>
  obtain ⟨k,hk,rfl,hall⟩:=hrel;have HA:=Lib.hid hall;clear hall;by_cases hlt:k<n
  ·have hkl:k<xs.length:=by rw[HL.out];exact hlt
   obtain ⟨x,hx⟩:∃x,xs[k]? =some x:=⟨_,List.getElem?_eq_getElem hkl⟩
   have hcell:=hr.cell k;rw[List.getElem?_toArray,ints,List.getElem?_map,hx] at hcell;simp at hcell;have htk:xs.take (k+1)=xs.take k++ [x]:=by rw[List.take_add_one,hx];rfl
   have hin:x∈xs:=List.mem_of_getElem? hx;have HT:=Lib.hid htk;have HI:=Lib.hid hin;have hcx:=HC.out x;clear htk hin hkl hx;cases hq:outside lo hi x with
   |false=>
    rw[hq] at hcx;have HQ:=Lib.hid hq;have HX:=Lib.hid hcx;clear hq hcx;go_wp2_with (go_at_call 169;refine HX.out.mono ?_;rintro e w' ⟨rfl,rfl⟩)
    go_round
    case rel=>exact ⟨k+1,by omega,by go_num,by rw[HT.out,List.any_append,HA.out];simp[HQ.out]⟩
    case measure=>simp[intOf];omega
   |true=>
    rw[hq] at hcx;have HQ:=Lib.hid hq;have HX:=Lib.hid hcx;clear hq hcx;go_wp2_with (go_at_call 169;refine HX.out.mono ?_;rintro e w' ⟨rfl,rfl⟩);go_ret;exact ⟨.inl ⟨k,rfl,by rw[List.any_eq_true];exact ⟨x,HI.out,HQ.out⟩⟩,rfl⟩
  ·have e:xs.take k=xs:=List.take_of_length_le (by rw[HL.out];omega);have hA:=HA.out;rw[e] at hA;have xu:=Lib.hid hA;clear hA e;go_wp2;go_ret;exact ⟨.inr ⟨rfl,xu.out⟩,rfl⟩
theorem rV (lo hi:Int) (a b r n:Nat) (xs:List Int) (w:World) (hn:xs.length=n) (hsm:n≤1000) (hr:aA w r 3 (ints xs).toArray) (ha:w.cell? ⟨a,0,none⟩=some (.int .i64 lo)) (hb:w.cell? ⟨b,0,none⟩=some (.int .i64 hi)):
 Calls Tryz.prog 146 #[.slice (some ⟨r,0,none⟩) n n,.func (.func 169) #[] #[.pointer (some ⟨a,0,none⟩),.pointer (some ⟨b,0,none⟩)]] w fun e w'=>e= .returned (.bool (xs.any (outside lo hi)))∧w=w':=by
 have H:=Lib.hid (Eb lo hi a b r n xs w hn hsm hr ha hb);clear hr ha hb;go_enter Tryz.func146,Tryz.ntmps146;go_wp2_with fail;refine H.out.mono ?_;rintro e w' ⟨⟨k,rfl,he⟩|⟨rfl,he⟩,rfl⟩
 ·have HE:=Lib.hid he;clear he;go_wp2;go_ret;exact ⟨bH (by rw[HE.out]),rfl⟩
 ·have HE:=Lib.hid he;clear he;go_wp2;go_ret;exact ⟨bH (by rw[HE.out]),rfl⟩
theorem VR (lo hi:Int) (r n:Nat) (xs:List Int) (w:World) (hn:xs.length=n) (hsm:n≤1000) (hr:aA w r 3 (ints xs).toArray):
 Calls Tryz.prog 141 #[.int .i64 lo,.int .i64 hi,.slice (some ⟨r,0,none⟩) n n] w fun e w'=>e= .returned (.bool (!xs.any (outside lo hi)))∧Below w.heap.size w w':=by
 have ba:=(aA.new w 3 #[.int .i64 lo]).alloc (.cells #[.int .i64 hi] 3);have bb:=aA.new (w.alloc (.cells #[.int .i64 lo] 3)) 3 #[.int .i64 hi];have br:=(hr.alloc (.cells #[.int .i64 lo] 3)).alloc (.cells #[.int .i64 hi] 3);simp only[World.size_alloc] at bb;have ca:=ba.cell 0;have cb:=bb.cell 0;rw[List.getElem?_toArray] at ca cb;simp only[List.getElem?_cons_zero] at ca cb;have hc:=rV lo hi w.heap.size (w.heap.size+1) r n xs ((w.alloc (.cells #[.int .i64 lo] 3)).alloc (.cells #[.int .i64 hi] 3)) hn hsm br ca cb;have H:=Lib.hid hc;clear ba bb br ca cb hc hr;go_enter Tryz.func141,Tryz.ntmps141;go_wp2_with (go_at_call 146;refine H.out.mono ?_;rintro e w' ⟨rfl,rfl⟩);go_ret;exact ⟨rfl,((Below.refl _ _).alloc (Nat.le_refl _) _).alloc (by simp) _⟩
def within (lo hi:Int) (xs:List Int):Bool:= !xs.any (outside lo hi)
def iT (a0 a1 a2 a3 a4 a5 a6:Int):Bool:=within 0 1024 [a0]&&(within 0 1048576 [a1]&&(within 1 1048576 [a2]&&(within 0 1048576 [a3,a4]&&(within 0 64 [a5]&&within 1 1048576 [a6]))))
def ML (a0 a1 a2 a3 a4 a5 a6:Int):Array Value:= #[.int .i64 a0,.int .i64 a1,.int .i64 a2,.int .i64 a3,.int .i64 a4,.int .i64 a5,.int .i64 a6]
def qV (w:World) (g:Nat) (a0 a1 a2 a3 a4 a5 a6:Int) (W:World):Prop:=aA W g 30 (ML a0 a1 a2 a3 a4 a5 a6)∧Below w.heap.size w W
theorem qV.seven {w W:World} {g:Nat} {a0 a1 a2 a3 a4 a5 a6:Int} (h:qV w g a0 a1 a2 a3 a4 a5 a6 W):W.cell? ⟨g,0,none⟩=some (.int .i64 a0)∧W.cell? ⟨g,1,none⟩=some (.int .i64 a1)∧W.cell? ⟨g,2,none⟩=some (.int .i64 a2)∧W.cell? ⟨g,3,none⟩=some (.int .i64 a3)∧W.cell? ⟨g,4,none⟩=some (.int .i64 a4)∧W.cell? ⟨g,5,none⟩=some (.int .i64 a5)∧W.cell? ⟨g,6,none⟩=some (.int .i64 a6):=
 ⟨h.1.cell 0,h.1.cell 1,h.1.cell 2,h.1.cell 3,h.1.cell 4,h.1.cell 5,h.1.cell 6⟩
theorem qV.new (w:World) (a0 a1 a2 a3 a4 a5 a6:Int):qV w w.heap.size a0 a1 a2 a3 a4 a5 a6 (w.alloc (.cells #[.int .i64 a0,.int .i64 a1,.int .i64 a2,.int .i64 a3,.int .i64 a4,.int .i64 a5,.int .i64 a6] 30)):=⟨aA.new w 30 _,(Below.refl _ _).alloc (Nat.le_refl _) _⟩
def Zw (a0 a1 a2 a3 a4 a5 a6:Int):Array Value:= #[.int .i64 a0,.int .i64 a1,.int .i64 a2,.int .i64 a3,.int .i64 a4,.int .i64 a5,.int .i64 a6,.slice none 0 0,.int .i64 0,.int .i64 0,.int .i64 0,.int .i64 0,.slice none 0 0,.int .i64 0,.int .i64 0,.int .i64 0,.bool false,.int .i64 0,.bool false,.bool false,.int .i64 0]
def A32 (w:World) (a0 a1 a2 a3 a4 a5 a6:Int) (e:Ending) (w':World):Prop:=
 Below w.heap.size w w'∧
  ((iT a0 a1 a2 a3 a4 a5 a6=true∧∃s,e= .returned (.tuple #[.pointer (some ⟨s,0,none⟩),.int .i64 0])∧w.heap.size≤s∧aA w' s 113 (Zw a0 a1 a2 a3 a4 a5 a6))∨(iT a0 a1 a2 a3 a4 a5 a6=false∧e= .returned (.tuple #[.pointer none,.int .i64 2])))
theorem qF (lo hi:Int) (xs:List Int) (cs:Array Value) (hcs:cs=(ints xs).toArray) (n r:Nat) (hn:xs.length=n) (hsm:n≤1000) {w W:World} {g:Nat} {a0 a1 a2 a3 a4 a5 a6:Int} (h:qV w g a0 a1 a2 a3 a4 a5 a6 W) (hr:W.heap.size=r):
 Calls Tryz.prog 141 #[.int .i64 lo,.int .i64 hi,.slice (some ⟨r,0,none⟩) n n] (W.alloc (.cells cs 3)) fun e w'=>e= .returned (.bool (within lo hi xs))∧qV w g a0 a1 a2 a3 a4 a5 a6 w':=by
 subst hcs hr;refine (VR lo hi W.heap.size n xs _ hn hsm (aA.new W 3 _)).mono ?_;rintro e w' ⟨rfl,hk⟩;have hk2:=hk.mono (B':=w.heap.size) (by have:=h.2.size;simp;omega);have h0:=h.2.alloc h.2.size (.cells (ints xs).toArray 3);exact ⟨rfl,(h.1.alloc _).below hk (by have:=h.1.lt;simp;omega),h0.trans hk2⟩
theorem j3 (lo hi x:Int) (r:Nat) {w W:World} {g:Nat} {a0 a1 a2 a3 a4 a5 a6:Int} (h:qV w g a0 a1 a2 a3 a4 a5 a6 W) (hr:W.heap.size=r):
 Calls Tryz.prog 141 #[.int .i64 lo,.int .i64 hi,.slice (some ⟨r,0,none⟩) 1 1] (W.alloc (.cells #[.int .i64 x] 3)) fun e w'=>e= .returned (.bool (within lo hi [x]))∧qV w g a0 a1 a2 a3 a4 a5 a6 w':=
 qF lo hi [x] _ rfl 1 r rfl (by decide) h hr
theorem j4 (lo hi x y:Int) (r:Nat) {w W:World} {g:Nat} {a0 a1 a2 a3 a4 a5 a6:Int} (h:qV w g a0 a1 a2 a3 a4 a5 a6 W) (hr:W.heap.size=r):
 Calls Tryz.prog 141 #[.int .i64 lo,.int .i64 hi,.slice (some ⟨r,0,none⟩) 2 2] (W.alloc (.cells #[.int .i64 x,.int .i64 y] 3)) fun e w'=>e= .returned (.bool (within lo hi [x,y]))∧qV w g a0 a1 a2 a3 a4 a5 a6 w':=
 qF lo hi [x,y] _ rfl 2 r rfl (by decide) h hr
set_option maxRecDepth 100000 in
set_option maxHeartbeats 1000000 in
theorem Ec (a0 a1 a2 a3 a4 a5 a6:Int) (w:World):Calls Tryz.prog 98 #[.agg (ML a0 a1 a2 a3 a4 a5 a6)] w fun e w'=>e= .returned (.bool (iT a0 a1 a2 a3 a4 a5 a6))∧Below w.heap.size w w':=by
 have hc:=qV.new w a0 a1 a2 a3 a4 a5 a6;obtain ⟨b,hb⟩:∃b,iT a0 a1 a2 a3 a4 a5 a6=b:=⟨_,rfl⟩
 rw[hb];unfold iT at hb;unfold ML;go_enter Tryz.func98,Tryz.ntmps98;go_wp2_with fail;have hz:=World.size_alloc w (.cells #[.int .i64 a0,.int .i64 a1,.int .i64 a2,.int .i64 a3,.int .i64 a4,.int .i64 a5,.int .i64 a6] 30);generalize w.alloc (.cells #[.int .i64 a0,.int .i64 a1,.int .i64 a2,.int .i64 a3,.int .i64 a4,.int .i64 a5,.int .i64 a6] 30)=w0 at*;obtain ⟨x0,x1,x2,x3,x4,x5,x6⟩:=hc.seven;cases h1:within 0 1024 [a0] with
 |false=>
  simp[h1] at hb;subst hb;go_wp2_with (go_at_call 141;first
   |((with_reducible refine (j4 _ _ _ _ _ (by assumption) (by first|assumption|exact rfl)).mono ?_);rintro e w9 ⟨rfl,hc⟩;obtain ⟨x0,x1,x2,x3,x4,x5,x6⟩:=hc.seven)
   |((with_reducible refine (j3 _ _ _ _ (by assumption) (by first|assumption|exact rfl)).mono ?_);rintro e w9 ⟨rfl,hc⟩;obtain ⟨x0,x1,x2,x3,x4,x5,x6⟩:=hc.seven))
  go_ret;exact ⟨rfl,(by assumption:qV w _ a0 a1 a2 a3 a4 a5 a6 _).2⟩
 |true=>
 cases h2:within 0 1048576 [a1] with
 |false=>
  simp[h1,h2] at hb;subst hb;go_wp2_with (go_at_call 141;first
   |((with_reducible refine (j4 _ _ _ _ _ (by assumption) (by first|assumption|exact rfl)).mono ?_);rintro e w9 ⟨rfl,hc⟩;obtain ⟨x0,x1,x2,x3,x4,x5,x6⟩:=hc.seven)
   |((with_reducible refine (j3 _ _ _ _ (by assumption) (by first|assumption|exact rfl)).mono ?_);rintro e w9 ⟨rfl,hc⟩;obtain ⟨x0,x1,x2,x3,x4,x5,x6⟩:=hc.seven))
  go_ret;exact ⟨rfl,(by assumption:qV w _ a0 a1 a2 a3 a4 a5 a6 _).2⟩
 |true=>
 cases h3:within 1 1048576 [a2] with
 |false=>
  simp[h1,h2,h3] at hb;subst hb;go_wp2_with (go_at_call 141;first
   |((with_reducible refine (j4 _ _ _ _ _ (by assumption) (by first|assumption|exact rfl)).mono ?_);rintro e w9 ⟨rfl,hc⟩;obtain ⟨x0,x1,x2,x3,x4,x5,x6⟩:=hc.seven)
   |((with_reducible refine (j3 _ _ _ _ (by assumption) (by first|assumption|exact rfl)).mono ?_);rintro e w9 ⟨rfl,hc⟩;obtain ⟨x0,x1,x2,x3,x4,x5,x6⟩:=hc.seven))
  go_ret;exact ⟨rfl,(by assumption:qV w _ a0 a1 a2 a3 a4 a5 a6 _).2⟩
 |true=>
 cases h4:within 0 1048576 [a3,a4] with
 |false=>
  simp[h1,h2,h3,h4] at hb;subst hb;go_wp2_with (go_at_call 141;first
   |((with_reducible refine (j4 _ _ _ _ _ (by assumption) (by first|assumption|exact rfl)).mono ?_);rintro e w9 ⟨rfl,hc⟩;obtain ⟨x0,x1,x2,x3,x4,x5,x6⟩:=hc.seven)
   |((with_reducible refine (j3 _ _ _ _ (by assumption) (by first|assumption|exact rfl)).mono ?_);rintro e w9 ⟨rfl,hc⟩;obtain ⟨x0,x1,x2,x3,x4,x5,x6⟩:=hc.seven))
  go_ret;exact ⟨rfl,(by assumption:qV w _ a0 a1 a2 a3 a4 a5 a6 _).2⟩
 |true=>
 cases h5:within 0 64 [a5] with
 |false=>
  simp[h1,h2,h3,h4,h5] at hb;subst hb;go_wp2_with (go_at_call 141;first
   |((with_reducible refine (j4 _ _ _ _ _ (by assumption) (by first|assumption|exact rfl)).mono ?_);rintro e w9 ⟨rfl,hc⟩;obtain ⟨x0,x1,x2,x3,x4,x5,x6⟩:=hc.seven)
   |((with_reducible refine (j3 _ _ _ _ (by assumption) (by first|assumption|exact rfl)).mono ?_);rintro e w9 ⟨rfl,hc⟩;obtain ⟨x0,x1,x2,x3,x4,x5,x6⟩:=hc.seven))
  go_ret;exact ⟨rfl,(by assumption:qV w _ a0 a1 a2 a3 a4 a5 a6 _).2⟩
 |true=>
 have h6:within 1 1048576 [a6]=b:=by simpa[h1,h2,h3,h4,h5] using hb
 clear hb;go_wp2_with (go_at_call 141;first
  |((with_reducible refine (j4 _ _ _ _ _ (by assumption) (by first|assumption|exact rfl)).mono ?_);rintro e w9 ⟨rfl,hc⟩;obtain ⟨x0,x1,x2,x3,x4,x5,x6⟩:=hc.seven)
  |((with_reducible refine (j3 _ _ _ _ (by assumption) (by first|assumption|exact rfl)).mono ?_);rintro e w9 ⟨rfl,hc⟩;obtain ⟨x0,x1,x2,x3,x4,x5,x6⟩:=hc.seven))
 go_ret;exact ⟨rfl,(by assumption:qV w _ a0 a1 a2 a3 a4 a5 a6 _).2⟩
set_option maxRecDepth 100000 in
theorem Zx (a0 a1 a2 a3 a4 a5 a6:Int) (w:World):Calls Tryz.prog 47 #[.agg (ML a0 a1 a2 a3 a4 a5 a6)] w (A32 w a0 a1 a2 a3 a4 a5 a6):=by
 have hc:=qV.new w a0 a1 a2 a3 a4 a5 a6;have hcall:=fun W=>Ec a0 a1 a2 a3 a4 a5 a6 W
 obtain ⟨b,hb⟩:∃b,iT a0 a1 a2 a3 a4 a5 a6=b:=⟨_,rfl⟩
 simp only[hb] at hcall;have HB:=Lib.hid hb;clear hb;unfold ML at*;have hz:=World.size_alloc w (.cells #[.int .i64 a0,.int .i64 a1,.int .i64 a2,.int .i64 a3,.int .i64 a4,.int .i64 a5,.int .i64 a6] 30);have x:=hc.seven;obtain ⟨x0,x1,x2,x3,x4,x5,x6⟩:=x;have HC:=Lib.hid hc;have HCA:=Lib.hid hcall;clear hc hcall;go_enter Tryz.func47,Tryz.ntmps47;go_wp2_with fail;generalize w.alloc (.cells #[.int .i64 a0,.int .i64 a1,.int .i64 a2,.int .i64 a3,.int .i64 a4,.int .i64 a5,.int .i64 a6] 30)=w0 at*;refine (HCA.out _).mono ?_;rintro e1 w1 ⟨rfl,hb1⟩;have hc1:qV w w.heap.size a0 a1 a2 a3 a4 a5 a6 w1:=⟨HC.out.1.below hb1 HC.out.1.lt,HC.out.2.trans (hb1.mono HC.out.2.size)⟩;obtain ⟨y0,y1,y2,y3,y4,y5,y6⟩:=hc1.seven;have RL:=Lib.hid hc1;clear x0 x1 x2 x3 x4 x5 x6 hb1 hc1;cases b with
 |true=>
  go_wp2
  go_ret2
  exact ⟨RL.out.2.alloc RL.out.2.size _,.inl ⟨HB.out,_,rfl,RL.out.2.size,aA.new _ _ _⟩⟩
 |false=>
  go_wp2
  go_ret2
  exact ⟨RL.out.2,.inr ⟨HB.out,rfl⟩⟩
end
section
open Go.RowKit Go.Shelf
attribute [local go_sem] Oper.semAt_some
def pQ (st:Sd) (x:Ou) (r:List Ou):Sd:= {st with out:=r,front:=st.front+ay x,first:=(st.first+1)%1024}
def nX (st:Sd) (x:List UInt8) (r:List (List UInt8)):Sd:= {st with queue:=r,front:=st.front-x.length,taken:=st.taken-x.length,done:=st.done+1}
theorem CF {st:Sd} {x:Ou} {r:List Ou} (h:st.out=x::r) (ha:x.bS=true):fA (pQ st x r)=fA st:=by
 unfold fA pQ;simp only[h,aS,if_pos ha];have e1:(st.first+1)%1024+(aS r).1=(st.first+1)%1024+(aS r).1:=rfl;have e2:((st.first+1)%1024+(aS r).1)%1024=(st.first+((aS r).1+1))%1024:=by omega
 have e3:st.front+ay x+(aS r).2.1=st.front+((aS r).2.1+ay x):=by omega
 rw[e2,e3]
theorem Gd {l:List Ou} (h:∀x r,l=x::r→x.bS=false):aS l=(0,0,l):=by
 cases l with
 |nil=>rfl
 |cons x r=>
  have:=h x r rfl;simp[aS,this]
theorem CG {st:Sd} {x:List UInt8} {r:List (List UInt8)} (h:st.queue=x::r) (hf:x.length≤st.front) (ho:aS st.out=(0,0,st.out)) (_hfi:st.first<1024):fA (nX st x r)=fA st:=by
 unfold fA nX;simp only[h,ho,Nat.add_zero];have e:gQ (x::r) st.front=((gQ r (st.front-x.length)).1+1,(gQ r (st.front-x.length)).2.1+x.length,(gQ r (st.front-x.length)).2.2.1,(gQ r (st.front-x.length)).2.2.2):=by
  rw[gQ,if_pos hf]
 rw[e];simp only;have e1:st.taken-x.length-(gQ r (st.front-x.length)).2.1=st.taken-((gQ r (st.front-x.length)).2.1+x.length):=by omega
 have e2:st.done+1+(gQ r (st.front-x.length)).1=st.done+((gQ r (st.front-x.length)).1+1):=by omega
 rw[e1,e2]
theorem Gf {st:Sd} (ho:aS st.out=(0,0,st.out)) (hq:∀x r,st.queue=x::r→st.front<x.length) (hfi:st.first<1024):fA st=st:=by
 unfold fA;simp only[ho,Nat.add_zero];have e:gQ st.queue st.front=(0,0,st.front,st.queue):=by
  cases hqq:st.queue with
  |nil=>rfl
  |cons x r=>
   have:=hq x r hqq;rw[gQ,if_neg (by omega)]
 rw[e];simp only[Nat.sub_zero,Nat.add_zero,Nat.mod_eq_of_lt hfi]
section
variable {D F:Nat→Prop} {g:Nat} {c:Cf} {st:Sd} {vq vo:Value} {vs os:List Value} {w:World}
theorem dY.Ua (h:dY w D F g c st vq vs vo os) {x:Ou} {r:List Ou} {v:Value} {os':List Value} {kX:Value} (ho:st.out=x::r) (hos:os=v::os') (hq:dA w 0 118 kX r.length os') (hb:∀k,aL kX=some k→D k):
 dY (w.setCell ⟨g,12,none⟩ kX) D F g c {st with out:=r} vq vs kX os':=by
 subst hos;have hbk:=h.blk.aC 12 kX;have hlt:∀k,F k→k<(w.setCell ⟨g,12,none⟩ kX).heap.size:=fun k hk=>by
  have:=h.lt k hk;simpa[World.setCell] using this
 refine ⟨hbk,h.gd,h.sub,hlt,h.qr.store h.blk (by decide) _,h.qd,fun i p hi=> ?_,hq.store h.blk (by decide) _,hb,fun i y hi=> ?_,fun i j u hi hj=> ?_⟩
 ·obtain ⟨A,cc,e,hs,hf⟩:=h.qe i p hi;exact ⟨A,cc,e,hs.stay fun ad ea=>fB (fun e2=>(hf ad ea).2 (by
   have e3:ad.block=g:=e2;rw[e3];exact h.gd)),hf⟩
 ·obtain ⟨p,Ap,cp,vp,Ar,cr,e,hx⟩:=h.oe (i+1) y (by rw[ho];simpa using hi);exact ⟨p,Ap,cp,vp,Ar,cr,by simpa using e,hx.far h.gd (fun e=>h.blk.off hx.blk (by decide) e) 12 kX⟩
 ·have:=h.inj (i+1) (j+1) u (by simpa using hi) (by simpa using hj);omega
theorem dY.Ub (h:dY w D F g c st vq vs vo os) {x:List UInt8} {r:List (List UInt8)} {v:Value} {vs':List Value} {oG:Value} (ho:st.queue=x::r) (hos:vs=v::vs') (hq:dA w 0 22 oG r.length vs') (hb:∀k,aL oG=some k→D k):
 dY (w.setCell ⟨g,7,none⟩ oG) D F g c {st with queue:=r} oG vs' vo os:=by
 subst hos;have hbk:=h.blk.aC 7 oG;have hlt:∀k,F k→k<(w.setCell ⟨g,7,none⟩ oG).heap.size:=fun k hk=>by
  have:=h.lt k hk;simpa[World.setCell] using this
 refine ⟨hbk,h.gd,h.sub,hlt,hq.store h.blk (by decide) _,hb,fun i p hi=> ?_,h.nR.store h.blk (by decide) _,h.od,fun i y hi=> ?_,h.inj⟩
 ·obtain ⟨A,cc,e,hs,hf⟩:=h.qe (i+1) p (by rw[ho];simpa using hi);exact ⟨A,cc,by simpa using e,hs.stay fun ad ea=>fB (fun e2=>(hf ad ea).2 (by
   have e3:ad.block=g:=e2;rw[e3];exact h.gd)),hf⟩
 ·obtain ⟨p,Ap,cp,vp,Ar,cr,e,hx⟩:=h.oe i y hi;exact ⟨p,Ap,cp,vp,Ar,cr,e,hx.far h.gd (fun e=>h.blk.off hx.blk (by decide) e) 7 oG⟩
def RN (w:World) (D F:Nat→Prop) (g:Nat) (c:Cf) (st:Sd) (vq:Value) (vs:List Value) (E:Sd→Prop) (gk:Nat) (wr:World):Prop:=
 ∃st' kX os',gk=st'.out.length∧dY wr D F g c st' vq vs kX os'∧Kept (fun k _=>D k) w wr∧fA st'=fA st∧st'.taken=st'.front+sizes st'.out∧st'.taken≤1048576∧st'.queue=st.queue∧st'.first<1024∧st'.done=st.done∧st'.out.length≤512∧E st'
def Zy (w:World) (D F:Nat→Prop) (g:Nat) (c:Cf) (st:Sd) (vo:Value) (os:List Value) (gk:Nat) (wr:World):Prop:=
 ∃st' oG vs',gk=st'.queue.length∧dY wr D F g c st' oG vs' vo os∧Kept (fun k _=>D k) w wr∧fA st'=fA st∧st'.front≤st'.taken∧st'.taken≤1048576∧st'.first<1024∧aS st'.out=(0,0,st'.out)∧st'.done+st'.queue.length≤9000000000000∧(∀s∈st'.queue,s.length≤9000)
set_option maxRecDepth 100000 in
set_option maxHeartbeats 4000000 in
theorem Ed (h:dY w D F g c st vq vs vo os) (hI:st.taken=st.front+sizes st.out) (ht:st.taken≤1048576) (hf:st.first<1024) (hw:st.out.length≤512) (hd:st.done≤1000000000000) (NH:st.queue.length≤1048576) (hsd:∀s∈st.queue,s.length≤9000):
 Calls Tryz.prog 60 #[.pointer (some ⟨g,0,none⟩)] w fun e w'=>e= .returned (.tuple #[])∧∃oG vs' kX os',dY w' D F g c (fA st) oG vs' kX os'∧Kept (fun k _=>D k) w w':=by
 have HH:=Lib.hid h;have HI:=Lib.hid hI;have Tn:=Lib.hid hsd;clear h hI hsd;go_enter Tryz.func60,Tryz.ntmps60
 go_upto_block 0 with (fail)
 go_cut [] (fun wx=>∃gk,RN w D F g c st vq vs (fun s=>aS s.out=(0,0,s.out)) gk wx)
 case first=>
  go_wp2_with fail;go_loopg [] st.out.length (fun gk wr=>RN w D F g c st vq vs (fun _=>True) gk wr)
  case atStart=>exact ⟨st,vo,os,rfl,HH.out,Kept.refl _ w,rfl,HI.out,ht,rfl,hf,rfl,hw,trivial⟩
  case round=>
   obtain ⟨s1,Ve,os1,rfl,hA,hk,had,htk,htl,hqq,hfi,hdn,hol,-⟩:=hrel;have rP:=hA.blk.cell 12;simp[dh] at rP;cases hout:s1.out with
   |nil=>
    have hR:RN w D F g c st vq vs (fun s=>aS s.out=(0,0,s.out)) s1.out.length wr:=⟨s1,Ve,os1,rfl,hA,hk,had,htk,htl,hqq,hfi,hdn,hol,by show aS s1.out=(0,0,s1.out);rw[hout];rfl⟩;have HR:=Lib.hid hR;obtain ⟨A,cc,rfl,hs⟩:=hA.Ni;have hc1:=hs.cap;have hc2:=hs.mx;rw[hout] at hc1 rP;simp only[List.length_nil] at hc1 rP;clear hA hk had htk hqq hdn hR hs hout;go_wp2;go_meet;exact ⟨_,HR.out⟩
   |cons x r=>
    obtain ⟨p,Ap,cp,vp,Ar,cr,he,ho⟩:=hA.oe 0 x (by rw[hout];rfl);obtain ⟨z0,z7,z8,z9,Kg,QN⟩:=ho.cells;have hq:=hA.nR;rw[hout] at hq;simp only[List.length_cons] at hq;obtain ⟨v,os2,hos⟩:∃v os2,os1=v::os2:=by
     cases hos:os1 with
     |nil=>rw[hos] at he;simp at he
     |cons v t=>exact ⟨v,t,rfl⟩
    subst hos;simp only[List.getElem?_cons_zero,Option.some.injEq] at he;subst he;obtain ⟨q,oo,cap,rfl,hcap1,hcap2⟩:∃q oo cap,Ve= .slice (some ⟨q,oo,none⟩) (r.length+1) cap∧r.length+1≤cap∧cap≤9223372036854775807:=by
     rcases hq.2 with ⟨_,h0⟩|⟨q,oo,cap,cur,e,_,_,h1,h2,_⟩
     ·omega
     ·exact ⟨q,oo,cap,e,h1,by unfold maxLen at h2;omega⟩
    have yq:=hq.cells 0 _ rfl;simp only[Nat.add_zero] at yq;cases hac:x.bS with
    |false=>
     rw[hac] at z9;have hR:RN w D F g c st vq vs (fun s=>aS s.out=(0,0,s.out)) s1.out.length wr:=⟨s1,_,_,rfl,hA,hk,had,htk,htl,hqq,hfi,hdn,hol,by show aS s1.out=(0,0,s1.out);rw[hout];exact Gd fun y t e=>by cases e;exact hac⟩;have HR:=Lib.hid hR;clear hA hk had htk hqq hdn hR hq hout hac ho z0 z7 z8 Kg QN;go_wp2;go_meet;exact ⟨_,HR.out⟩
    |true=>
     rw[hac] at z9;have hsz:sizes s1.out=ay x+sizes r:=by rw[hout,jV]
     have hfs:s1.front+ay x≤1048576:=by omega
     have y9:=hA.blk.cell 9;have e9:=hA.blk.frozen 9;simp[dh] at y9;have hA1:=hA.ny 9 (.int .i64 ((s1.front:Int)+(ay x:Nat))) (st':= {s1 with front:=s1.front+ay x}) (by simp[dh]) rfl rfl;have hk1:=hk.setCell (p:=⟨g,9,none⟩) (fun _ _=>hA.gd) (.int .i64 ((s1.front:Int)+(ay x:Nat)));have HA1:=Lib.hid hA1.drew;have sH:=Lib.hid hk1.drew;have HQ:=Lib.hid hq;have qG:=Lib.hid hout;have wu:=Lib.hid hsz;have HAC:=Lib.hid hac;have Kr:=Lib.hid had;have HQQ:=Lib.hid hqq;have HDN:=Lib.hid hdn;have Lx:=Lib.hid htk;clear hA hk hA1 hk1 hq hout hsz hac had hqq hdn htk ho z0 z7 Kg QN;have hand:bits BinOp.and IntKind.i64 ((s1.first:Int)+1) 1023=(((s1.first+1)%1024:Nat):Int):=by rw[tq];omega
     go_wp2_with fail
     go_region
     generalize (wr.setCell ⟨g,9,none⟩ (.int .i64 ((s1.front:Int)+(ay x:Nat)))).drew=w1 at*;clear y9 rP e9 yq z8 z9;have rP:=HA1.out.blk.cell 12;have e12:=HA1.out.blk.frozen 12;simp[dh] at rP;have hq1:=HA1.out.nR;have hlo:({s1 with front:=s1.front+ay x}:Sd).out.length=r.length+1:=by show s1.out.length=_;rw[qG.out];rfl
     rw[hlo] at hq1;have HQ:=Lib.hid hq1;clear hq1 hlo;by_cases hc1:cap=1
     ·subst hc1;obtain rfl:r= []:=List.eq_nil_of_length_eq_zero (by omega);simp only[List.length_nil,Nat.zero_add] at*;have Ie:dA w1 0 118 (.slice (some ⟨q,oo,none⟩) 0 0) 0 os2:=by
       have:=HQ.out.tail;rw[if_pos rfl] at this;exact this
      have hA2:=HA1.out.Ua (x:=x) (r:= []) (v:= .pointer (some ⟨p,0,none⟩)) (os':=os2) (kX:= .slice (some ⟨q,oo,none⟩) 0 0) qG.out rfl Ie (fun k hk=>HA1.out.od k hk);have OB:=hA2.blk.cell 11;have e11:=hA2.blk.frozen 11;simp[dh] at OB;have hA3:=hA2.ny 11 (.int .i64 (((s1.first+1)%1024:Nat):Int)) (st':=pQ s1 x []) (by simp[dh,pQ]) rfl rfl;have hk3:=(sH.out.setCell (p:=⟨g,12,none⟩) (fun _ _=>HA1.out.gd) (.slice (some ⟨q,oo,none⟩) 0 0)).setCell (p:=⟨g,11,none⟩) (fun _ _=>HA1.out.gd) (.int .i64 (((s1.first+1)%1024:Nat):Int));have vw:=Lib.hid hA3;have lI:=Lib.hid hk3;have HAND:=Lib.hid hand;clear Ie hA2 hA3 hk3 hand;go_upto_region 3 with (fail)
      generalize w1.setCell ⟨g,12,none⟩ (.slice (some ⟨q,oo,none⟩) 0 0)=w2 at*;have hand:=HAND.out;go_wp2
      go_roundg 0
      case measure=>have:=qG.out;simp[this]
      case rel=>
       exact ⟨pQ s1 x [],_,os2,rfl,vw.out,lI.out,(CF qG.out HAC.out).trans Kr.out,by have:=Lx.out;have:=wu.out;simp only[pQ];omega,htl,HQQ.out,Nat.mod_lt _ (by decide),HDN.out,by simp[pQ],trivial⟩
     ·have hc2:¬cap=1:=hc1;have Ie:dA w1 0 118 (.slice (some ⟨q,oo+1,none⟩) r.length (cap-1)) r.length os2:=by
       have:=HQ.out.tail;rw[if_neg hc2] at this;exact this
      have hA2:=HA1.out.Ua (x:=x) (r:=r) (v:= .pointer (some ⟨p,0,none⟩)) (os':=os2) (kX:= .slice (some ⟨q,oo+1,none⟩) r.length (cap-1)) qG.out rfl Ie (fun k hk=>HA1.out.od k hk);have OB:=hA2.blk.cell 11;have e11:=hA2.blk.frozen 11;simp[dh] at OB;have hA3:=hA2.ny 11 (.int .i64 (((s1.first+1)%1024:Nat):Int)) (st':=pQ s1 x r) (by simp[dh,pQ]) rfl rfl;have hk3:=(sH.out.setCell (p:=⟨g,12,none⟩) (fun _ _=>HA1.out.gd) (.slice (some ⟨q,oo+1,none⟩) r.length (cap-1))).setCell (p:=⟨g,11,none⟩) (fun _ _=>HA1.out.gd) (.int .i64 (((s1.first+1)%1024:Nat):Int));have vw:=Lib.hid hA3;have lI:=Lib.hid hk3;have HAND:=Lib.hid hand;clear Ie hA2 hA3 hk3 hand;go_upto_region 3 with (fail)
      generalize w1.setCell ⟨g,12,none⟩ (.slice (some ⟨q,oo+1,none⟩) r.length (cap-1))=w2 at*;have hand:=HAND.out;go_wp2
      go_roundg r.length
      case measure=>have:=qG.out;simp[this]
      case rel=>
       exact ⟨pQ s1 x r,_,os2,rfl,vw.out,lI.out,(CF qG.out HAC.out).trans Kr.out,by have:=Lx.out;have:=wu.out;simp only[pQ];omega,htl,HQQ.out,Nat.mod_lt _ (by decide),HDN.out,by have:=qG.out;rw[this] at hol;simp at hol;simp only[pQ];omega,trivial⟩
 case rest=>
 obtain ⟨gk0,st1,Ve,os1,-,hA1,hk1,Zz,aeM,ZA,VS,ZB,ZC,aeN,ZD⟩:=hcut;have H1:Zy w D F g c st Ve os1 st1.queue.length wc:=⟨st1,vq,vs,rfl,hA1,hk1,Zz,by omega,ZA,ZB,ZD,by rw[VS,ZC];omega,fun s hs=>Tn.out s (by rw[←VS];exact hs)⟩;have H1H:=Lib.hid H1;clear hA1 hk1 Zz aeM ZA VS ZB ZC aeN ZD H1 HH HI Tn hw hd NH ht hf;go_wp2_with fail;go_loopg [] st1.queue.length (fun gk wr=>Zy w D F g c st Ve os1 gk wr)
 case atStart=>exact H1H.out
 case round=>
  obtain ⟨s1,vq1,vs1,rfl,hA,hk,had,hft,htl,hfi,hao,hdn,hsd⟩:=hrel;have y7:=hA.blk.cell 7;have y9:=hA.blk.cell 9;simp[dh] at y7 y9;clear H1H;cases hout:s1.queue with
  |nil=>
   have hR:fA st=s1:=by rw[←had];exact Gf hao (fun x r e=>by rw[hout] at e;cases e) hfi
   have HR:=Lib.hid hR;have HA:=Lib.hid hA;have HK:=Lib.hid hk;obtain ⟨A,cc,rfl,hs⟩:=hA.Nh;have hc1:=hs.sl.cap;have hc2:=hs.sl.mx;rw[hout] at hc1 y7;simp only[List.length_nil] at hc1 y7;clear hA hk had hR hs hout hao;go_wp2
   go_quiet (fail)
   go_wp2
   go_end0
   rw[HR.out];exact ⟨rfl,_,_,_,_,HA.out.drewN _,HK.out.iA _⟩
  |cons x r=>
   have hq:=hA.qr;rw[hout] at hq;simp only[List.length_cons] at hq;obtain ⟨v,vs2,hos⟩:∃v vs2,vs1=v::vs2:=by
    cases hos:vs1 with
    |nil=>rw[hos] at hq;have:=hq.1;simp at this
    |cons v t=>exact ⟨v,t,rfl⟩
   subst hos;obtain ⟨Ax,cx,hex,hsx,_⟩:=hA.qe 0 x (by rw[hout];rfl);simp only[List.getElem?_cons_zero,Option.some.injEq] at hex;subst hex;have hxc:=hsx.cap;have hxm:=hsx.mx;have hx9:=hsd x (by rw[hout];simp);obtain ⟨q,oo,cap,rfl,hcap1,hcap2⟩:∃q oo cap,vq1= .slice (some ⟨q,oo,none⟩) (r.length+1) cap∧r.length+1≤cap∧cap≤9223372036854775807:=by
    rcases hq.2 with ⟨_,h0⟩|⟨q,oo,cap,cur,e,_,_,h1,h2,_⟩
    ·omega
    ·exact ⟨q,oo,cap,e,h1,by unfold maxLen at h2;omega⟩
   have yq:=hq.cells 0 _ rfl;simp only[Nat.add_zero] at yq;by_cases hge:x.length≤s1.front
   ·have d1:decide (x.length≤s1.front)=true:=decide_eq_true hge;have HAO:=Lib.hid hao;have Kr:=Lib.hid had;have aeO:=Lib.hid hsd;have qG:=Lib.hid hout;have HDN:=Lib.hid hdn;have alg:s1.done+(r.length+1)≤9000000000000:=by rw[hout] at hdn;simpa using hdn
    have HA:=Lib.hid hA;have HK:=Lib.hid hk;clear hA hk had hao hsd hout hdn hq hsx;go_wp2_with fail
    go_quiet (fail)
    go_wp2_with fail;have CB:=HA.out.drewN nq;have hk0:=HK.out.iA nq;clear y7 y9 yq;generalize wr.drewN nq=w0 at*;have y9:=CB.blk.cell 9;have Ah:=CB.blk.cell 10;have e9:=CB.blk.frozen 9;have e10:=CB.blk.frozen 10;simp[dh] at y9 Ah;have hA1:=((CB.ny 9 (.int .i64 ((s1.front:Int)-(x.length:Nat))) (st':= {s1 with front:=s1.front-x.length}) (by simp[dh];omega) rfl rfl).ny 10 (.int .i64 ((s1.taken:Int)-(x.length:Nat))) (st':= {s1 with front:=s1.front-x.length,taken:=s1.taken-x.length}) (by simp[dh];omega) rfl rfl).drew;have hk1:=((hk0.setCell (p:=⟨g,9,none⟩) (fun _ _=>CB.gd) (.int .i64 ((s1.front:Int)-(x.length:Nat)))).setCell (p:=⟨g,10,none⟩) (fun _ _=>CB.gd) (.int .i64 ((s1.taken:Int)-(x.length:Nat)))).drew;have HA1:=Lib.hid hA1;have sH:=Lib.hid hk1;clear CB hk0 hA1 hk1 HA HK;refine bM (fun w'=>w'.cell? ⟨g,9,none⟩=some (.int .i64 (s1.front:Nat))∧w'.cell? ⟨g,10,none⟩=some (.int .i64 (s1.taken:Nat))) [16,19] (by kernel_rfl) ?_;have hHeld:w0.drew.cell? ⟨g,9,none⟩=some (.int .i64 (s1.front:Nat))∧w0.drew.cell? ⟨g,10,none⟩=some (.int .i64 (s1.taken:Nat)):=⟨y9,Ah⟩;refine tkY 0 ?_ rfl (Or.inl ⟨by rfl,?_⟩) hHeld ?_;rotate_left
    ·intro w' hSw;go_simp
     try with_reducible rfl
    try simp only[Act.put,zzA,zzE,yo,UM,zzD]
    refine tkY 1 ?_ rfl (Or.inl ⟨by rfl,?_⟩) hHeld ?_;rotate_left
    ·intro w' hSw;go_simp
     try with_reducible rfl
    try simp only[Act.put,zzA,zzE,zzF,yo,UM,zzD]
    refine tkY 2 ?_ rfl (Or.inl ⟨by rfl,?_⟩) hHeld ?_;rotate_left
    ·intro w' hSw;go_simp
     try with_reducible rfl
    try simp only[Act.put,zzA,zzE,zzF,yo,UM,zzD]
    refine tkY 3 ?_ rfl (Or.inl ⟨by rfl,?_⟩) hHeld ?_;rotate_left
    ·intro w' hSw;go_simp
     try with_reducible rfl
    try simp only[Act.put,zzA,zzE,zzF,yo,UM,zzD]
    refine tkY 4 ?_ rfl (Or.inl ⟨by rfl,?_⟩) hHeld ?_;rotate_left
    ·intro w' hSw;go_simp
     try with_reducible rfl
    try simp only[Act.put,zzA,zzE,zzF,yo,UM,zzD]
    refine tkX [16,19] 5 ?_ rfl (Or.inl ⟨by rfl,?_⟩) hHeld ?_;rotate_left
    ·intro w' hSw;obtain ⟨hS1,hS2⟩:=hSw;go_simp
     try with_reducible rfl
    try simp only[Act.put,zzA,zzE,zzF,yo,UM,zzD]
    refine tkY 6 ?_ rfl (Or.inl ⟨by rfl,?_⟩) hHeld ?_;rotate_left
    ·intro w' hSw;go_simp
     try with_reducible rfl
    try simp only[Act.put,zzA,zzE,zzF,yo,UM,zzD]
    refine tkY 7 ?_ rfl (Or.inl ⟨by rfl,?_⟩) hHeld ?_;rotate_left
    ·intro w' hSw;go_simp
     try with_reducible rfl
    try simp only[Act.put,zzA,zzE,zzF,yo,UM,zzD]
    refine tkY 8 ?_ rfl (Or.inl ⟨by rfl,?_⟩) hHeld ?_;rotate_left
    ·intro w' hSw;go_simp
     try with_reducible rfl
    try simp only[Act.put,zzA,zzE,zzF,yo,UM,zzD]
    refine tkY 9 ?_ rfl (Or.inl ⟨by rfl,?_⟩) hHeld ?_;rotate_left
    ·intro w' hSw;go_simp
     try with_reducible rfl
    try simp only[Act.put,zzA,zzE,zzF,yo,UM,zzD]
    refine tkY 10 ?_ rfl (Or.inl ⟨by rfl,?_⟩) hHeld ?_;rotate_left
    ·intro w' hSw;go_simp
     try with_reducible rfl
    try simp only[Act.put,zzA,zzE,zzF,yo,UM,zzD]
    refine tkX [16,19] 11 ?_ rfl (Or.inl ⟨by rfl,?_⟩) hHeld ?_;rotate_left
    ·intro w' hSw;obtain ⟨hS1,hS2⟩:=hSw;go_simp
     try with_reducible rfl
    try simp only[Act.put,zzA,zzE,zzF,yo,UM,zzD]
    refine tkY 12 ?_ rfl (Or.inl ⟨by rfl,?_⟩) hHeld ?_;rotate_left
    ·intro w' hSw;go_simp
     try with_reducible rfl
    try simp only[Act.put,zzA,zzE,zzF,yo,UM,zzD]
    refine tkY 13 ?_ rfl (Or.inl ⟨by rfl,?_⟩) hHeld ?_;rotate_left
    ·intro w' hSw;go_simp
     try with_reducible rfl
    try simp only[Act.put,zzA,zzE,zzF,yo,UM,zzD]
    refine tkY 14 ?_ rfl (Or.inl ⟨by rfl,?_⟩) hHeld ?_;rotate_left
    ·intro w' hSw;go_simp
     try with_reducible rfl
    try simp only[Act.put,zzA,zzE,zzF,yo,UM,zzD]
    refine tkY 15 ?_ rfl (Or.inl ⟨by rfl,?_⟩) hHeld ?_;rotate_left
    ·intro w' hSw;go_simp
     try with_reducible rfl
    try simp only[Act.put,zzA,zzE,zzF,yo,UM,zzD]
    refine aQ (i:=16) rfl (by kernel_rfl) (by kernel_rfl) (by rfl) (fun K hK=> ?_);go_simp;refine hK _ _ ?_;clear hK K
    try simp only[Act.put,zzA,zzE,zzF,yo,UM,zzD]
    refine tkZ 17 ?_ rfl (Or.inl ⟨by rfl,?_⟩) ?_;rotate_left
    ·intro w' hSw;go_simp
     try with_reducible rfl
    try simp only[Act.put,zzA,zzE,zzF,yo,UM,zzD]
    refine tkZ 18 ?_ rfl (Or.inl ⟨by rfl,?_⟩) ?_;rotate_left
    ·intro w' hSw;go_simp
     try with_reducible rfl
    try simp only[Act.put,zzA,zzE,zzF,yo,UM,zzD]
    refine aQ (i:=19) rfl (by kernel_rfl) (by kernel_rfl) (by rfl) (fun K hK=> ?_);go_simp;refine hK _ _ ?_;clear hK K
    try simp only[Act.put,zzA,zzE,zzF,yo,UM,zzD]
    refine aU (by kernel_rfl) ?_ _;rw[IntWalk.i64_in ((s1.front:Int)-(x.length:Nat)) (by omega),IntWalk.i64_in ((s1.taken:Int)-(x.length:Nat)) (by omega)];generalize ((w0.setCell ⟨g,9,none⟩ (.int .i64 ((s1.front:Int)-(x.length:Nat)))).setCell ⟨g,10,none⟩ (.int .i64 ((s1.taken:Int)-(x.length:Nat)))).drew=w1 at*;clear y9 Ah e9 e10 hHeld;have y7:=HA1.out.blk.cell 7;have e7:=HA1.out.blk.frozen 7;simp[dh] at y7;have hq1:=HA1.out.qr;have hlo:({s1 with front:=s1.front-x.length,taken:=s1.taken-x.length}:Sd).queue.length=r.length+1:=by show s1.queue.length=_;rw[qG.out];rfl
    rw[hlo] at hq1;have HQ:=Lib.hid hq1;clear hq1 hlo;by_cases hc1:cap=1
    ·subst hc1;obtain rfl:r= []:=List.eq_nil_of_length_eq_zero (by omega);simp only[List.length_nil,Nat.zero_add] at*;have Ie:dA w1 0 22 (.slice (some ⟨q,oo,none⟩) 0 0) 0 vs2:=by
      have:=HQ.out.tail;rw[if_pos rfl] at this;exact this
     have hA2:=HA1.out.Ub (x:=x) (r:= []) (v:= .slice Ax x.length cx) (vs':=vs2) (oG:= .slice (some ⟨q,oo,none⟩) 0 0) qG.out rfl Ie (fun k hk=>HA1.out.qd k hk);have y8:=hA2.blk.cell 8;have e8:=hA2.blk.frozen 8;simp[dh] at y8;have hA3:=hA2.ny 8 (.int .i64 ((s1.done:Int)+1)) (st':=nX s1 x []) (by simp[dh,nX]) rfl rfl;have hk3:=(sH.out.setCell (p:=⟨g,7,none⟩) (fun _ _=>HA1.out.gd) (.slice (some ⟨q,oo,none⟩) 0 0)).setCell (p:=⟨g,8,none⟩) (fun _ _=>HA1.out.gd) (.int .i64 ((s1.done:Int)+1));have vw:=Lib.hid hA3;have lI:=Lib.hid hk3;clear Ie hA2 hA3 hk3;go_upto_region 8 with (fail)
     generalize w1.setCell ⟨g,7,none⟩ (.slice (some ⟨q,oo,none⟩) 0 0)=w2 at*;go_wp2
     go_roundg 0
     case measure=>have:=qG.out;simp[this]
     case rel=>
      exact ⟨nX s1 x [],_,vs2,rfl,vw.out,lI.out,(CG qG.out hge HAO.out hfi).trans Kr.out,by simp only[nX];omega,by simp only[nX];omega,hfi,HAO.out,by show s1.done+1+0≤_;omega,fun s hs=>by simp[nX] at hs⟩
    ·have hc2:¬cap=1:=hc1;have Ie:dA w1 0 22 (.slice (some ⟨q,oo+1,none⟩) r.length (cap-1)) r.length vs2:=by
      have:=HQ.out.tail;rw[if_neg hc2] at this;exact this
     have hA2:=HA1.out.Ub (x:=x) (r:=r) (v:= .slice Ax x.length cx) (vs':=vs2) (oG:= .slice (some ⟨q,oo+1,none⟩) r.length (cap-1)) qG.out rfl Ie (fun k hk=>HA1.out.qd k hk);have y8:=hA2.blk.cell 8;have e8:=hA2.blk.frozen 8;simp[dh] at y8;have hA3:=hA2.ny 8 (.int .i64 ((s1.done:Int)+1)) (st':=nX s1 x r) (by simp[dh,nX]) rfl rfl;have hk3:=(sH.out.setCell (p:=⟨g,7,none⟩) (fun _ _=>HA1.out.gd) (.slice (some ⟨q,oo+1,none⟩) r.length (cap-1))).setCell (p:=⟨g,8,none⟩) (fun _ _=>HA1.out.gd) (.int .i64 ((s1.done:Int)+1));have vw:=Lib.hid hA3;have lI:=Lib.hid hk3;clear Ie hA2 hA3 hk3;go_upto_region 8 with (fail)
     generalize w1.setCell ⟨g,7,none⟩ (.slice (some ⟨q,oo+1,none⟩) r.length (cap-1))=w2 at*;go_wp2
     go_roundg r.length
     case measure=>have:=qG.out;simp[this]
     case rel=>
      exact ⟨nX s1 x r,_,vs2,rfl,vw.out,lI.out,(CG qG.out hge HAO.out hfi).trans Kr.out,by simp only[nX];omega,by simp only[nX];omega,hfi,HAO.out,by show s1.done+1+r.length≤_;omega,fun s hs=>aeO.out s (by rw[qG.out];exact List.mem_cons_of_mem _ hs)⟩
   ·have d1:decide (x.length≤s1.front)=false:=decide_eq_false hge;have hR:fA st=s1:=by rw[←had];exact Gf hao (fun y t e=>by rw[hout] at e;cases e;omega) hfi
    have HR:=Lib.hid hR;have HA:=Lib.hid hA;have HK:=Lib.hid hk;clear hA hk had hR hout hao hq hsx;go_wp2_with fail
    go_quiet (fail)
    go_wp2
    go_end0
    rw[HR.out];exact ⟨rfl,_,_,_,_,HA.out.drewN _,HK.out.iA _⟩
end
end
end Go.Proofs.YtiecgfahidpldaaGreat
