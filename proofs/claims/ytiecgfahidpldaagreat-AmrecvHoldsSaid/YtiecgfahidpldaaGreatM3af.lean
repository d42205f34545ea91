/- The reference's bits: FromUint, Put. The reference's bits: Valid, Pack, Bytes, Align. The reference of layer 30: Size, Valid, Framing. The reference of layer 30: Tail, Encode. ampdu.Valid: conditions that are closures, all of them. ampdu.Encode. Plain mathematics: decoding undoes encoding of unacknowledged mode PDUs, and encoding undoes decoding. Plain mathematics: encodings cut short. law30.UmpduHolds: the walk. Lemmas for the walk of law30.UmpduCuts: the wanted chunk that the law builds. The reference's reader: Unpack, NewReader, Uint, Get, Align. The reference's reader: Get, Align. The reference's Rest: lengths. A range over a function whose elements are known by their number: the round's body may use which element it is given. A region that draws its order, within a round of a range over a function: it may be walked as outside of one. ampdu.Bounds: the iterator over the bounds of the parts. ampdu.Bounds: what the iterator gives. ampdu.Cut. -/
import Derived.Test.YtiecgfahidpldaaGreatM3aa
import Derived.Test.YtiecgfahidpldaaGreatM3ab
import Derived.Test.YtiecgfahidpldaaGreatM3ac
import Derived.Test.YtiecgfahidpldaaGreatM3ad
import Derived.Test.YtiecgfahidpldaaGreatM3ae
import Derived.Deep.DeepCutAuto
import Derived.Deep.RegionLaw
import Derived.Deep.RegionHeld3
import Derived.Deep.CutBlock
namespace Go.Proofs.YtiecgfahidpldaaGreat
open Go.RowKit
end Go.Proofs.YtiecgfahidpldaaGreat
namespace Go.Proofs.YtiecgfahidpldaaGreat
open Go.RowKit
end Go.Proofs.YtiecgfahidpldaaGreat
namespace Go.Proofs.YtiecgfahidpldaaGreat
open Go.RowKit
theorem Du (ps:List (List UInt8)) (M:Nat) (h:∀p∈ps,p.length≤M):au ps≤M*ps.length:=by
 induction ps with
 |nil=>simp[au]
 |cons p ps ih=>
  have h1:=h p (by simp);have h2:=ih (fun q hq=>h q (by simp[hq]));unfold au at h2 ⊢;rw[List.map_cons,List.sum_cons,List.length_cons,Nat.mul_succ];omega
def UT (b:Bool) (w:World) (e:Ending) (w':World):Prop:=e= .returned (.bool b)∧Below w.heap.size w w'
end Go.Proofs.YtiecgfahidpldaaGreat
namespace Go.Proofs.YtiecgfahidpldaaGreat
open Go.RowKit
end Go.Proofs.YtiecgfahidpldaaGreat
namespace Go.Proofs.YtiecgfahidpldaaGreat
open Go.RowKit
set_option maxHeartbeats 400000 in
theorem AZ (b:Nat) (jO:List Value) (bs:List Bool) (Inv:World→Prop) (w:World) (hlen:bs.length=jO.length) (hsm:jO.length≤1000) (hI:∀W,Inv W→aA W b 27 jO.toArray)
 (hcall:∀(i:Nat) (fv:Value) (x:Bool) (W:World),jO[i]? =some fv→bs[i]? =some x→(∀y∈bs.take i,y=true)→Inv W→Calls Tryz.prog 153 #[fv] W fun e W'=>e= .returned (.bool (!x))∧Inv W')
 (h0:Inv w):Calls Tryz.prog 174 #[.slice (some ⟨b,0,none⟩) jO.length jO.length,.func (.func 153) #[] #[]] w (BQ bs Inv):=by
 have HC:=Lib.hid hcall;have HI:=Lib.hid hI;have HL:=Lib.hid hlen;clear hcall hI hlen;obtain ⟨N,hN⟩:∃N,N=jO.length:=⟨_,rfl⟩
 rw[←hN] at hsm ⊢;have HN:=Lib.hid hN;clear hN;go_enter Tryz.func174,Tryz.ntmps174;go_wp2
 go_loopw [8] (fun i wr=>∃k:Nat,k≤N∧i= .int .i64 k∧(∀y∈bs.take k,y=true)∧Inv wr) (fun i _=>N-(intOf i).toNat)
 case atStart=>exact ⟨0,Nat.zero_le _,rfl,by simp,h0⟩
 case round=>
  clear h0;obtain ⟨k,hk,rfl,hall,hinv⟩:=hrel;have HA:=Lib.hid hall;clear hall;by_cases hlt:k<N
  ·obtain ⟨fv,iq⟩:∃fv,jO[k]? =some fv:=⟨_,List.getElem?_eq_getElem (by rw[←HN.out];exact hlt)⟩
   obtain ⟨x,hx⟩:∃x,bs[k]? =some x:=⟨_,List.getElem?_eq_getElem (by rw[HL.out,←HN.out];exact hlt)⟩
   have hcl:=HC.out k fv x wr iq hx HA.out hinv;have hcell:=(HI.out wr hinv).cell k;rw[List.getElem?_toArray,iq] at hcell;have pJ:=Lib.hid hcl;have HX:=Lib.hid hx;clear hcl iq hx;cases x with
   |true=>
    go_wp2_with (go_at_call 153;refine pJ.out.mono ?_;rintro e w' ⟨rfl,hi'⟩)
    go_roundw
    case rel=>exact ⟨k+1,by omega,by go_num,by
     intro y hy;rw[List.take_add_one,HX.out,List.mem_append] at hy;rcases hy with hy|hy
     ·exact HA.out y hy
     ·simpa using hy,hi'⟩
    case measure=>simp[intOf];omega
   |false=>
    go_wp2_with (go_at_call 153;refine pJ.out.mono ?_;rintro e w' ⟨rfl,hi'⟩);go_ret;refine ⟨.inl ⟨k,rfl,?_⟩,hi'⟩;rw[List.all_eq_false];exact ⟨false,List.mem_of_getElem? HX.out,by simp⟩
  ·have e:bs.take k=bs:=List.take_of_length_le (by rw[HL.out,←HN.out];omega);have hA:=HA.out;rw[e] at hA;have xu:=Lib.hid hA;clear hA e;go_wp2;go_ret;exact ⟨.inr ⟨rfl,by rw[List.all_eq_true];exact xu.out⟩,hinv⟩
theorem vk (b:Nat) (jO:List Value) (bs:List Bool) (Inv:World→Prop) (w:World)
 (h:Calls Tryz.prog 174 #[.slice (some ⟨b,0,none⟩) jO.length jO.length,.func (.func 153) #[] #[]] w (BQ bs Inv)):
 Calls Tryz.prog 152 #[.slice (some ⟨b,0,none⟩) jO.length jO.length,.func (.func 153) #[] #[]] w fun e w'=>e= .returned (.bool (!bs.all id))∧Inv w':=by
 have H:=Lib.hid h;clear h;go_enter Tryz.func152,Tryz.ntmps152;go_wp2_with fail;refine H.out.mono ?_;rintro e w' ⟨⟨k,rfl,ha⟩|⟨rfl,ha⟩,hi⟩
 ·have HA:=Lib.hid ha;clear ha;go_wp2;go_ret;exact ⟨bH (by rw[HA.out];rfl),hi⟩
 ·have HA:=Lib.hid ha;clear ha;go_wp2;go_ret;exact ⟨bH (by rw[HA.out];rfl),hi⟩
theorem Nj (b:Nat) (jO:List Value) (bs:List Bool) (Inv:World→Prop) (w:World)
 (h:Calls Tryz.prog 152 #[.slice (some ⟨b,0,none⟩) jO.length jO.length,.func (.func 153) #[] #[]] w fun e w'=>e= .returned (.bool (!bs.all id))∧Inv w'):
 Calls Tryz.prog 121 #[.slice (some ⟨b,0,none⟩) jO.length jO.length] w fun e w'=>e= .returned (.bool (bs.all id))∧Inv w':=by
 have H:=Lib.hid h;clear h;go_enter Tryz.func121,Tryz.ntmps121;go_wp2_with fail;refine H.out.mono ?_;rintro e w' ⟨rfl,hi⟩;go_wp2;go_ret;exact ⟨bH (by simp),hi⟩
def aY (sn:Int) (po sg la:Bool) (off:Int) (s e:Bool) (A:Option Addr) (n c:Nat):Array Value:= #[.int .i64 sn,.bool po,.bool sg,.bool la,.int .i64 off,.bool s,.bool e,.slice A n c]
def l8 (sn:Int) (sg la:Bool) (off:Int) (ps:List (List UInt8)):List Bool:=
 [decide (0≤sn∧sn<1024),nk ps,if sg then decide (0≤off∧off≤32767-(au ps:Int)) else !la&&decide (off=0)]
def eP (sn:Int) (sg la:Bool) (off:Int) (ps:List (List UInt8)):Bool:=(l8 sn sg la off ps).all id
theorem aA.eight {w:World} {g:Nat} {t:TypeId} {x0 x1 x2 x3 x4 x5 x6 x7:Value} (b:aA w g t #[x0,x1,x2,x3,x4,x5,x6,x7]):
 w.cell? ⟨g,0,none⟩=some x0∧w.cell? ⟨g,1,none⟩=some x1∧w.cell? ⟨g,2,none⟩=some x2∧w.cell? ⟨g,3,none⟩=some x3∧w.cell? ⟨g,4,none⟩=some x4∧w.cell? ⟨g,5,none⟩=some x5∧w.cell? ⟨g,6,none⟩=some x6∧w.cell? ⟨g,7,none⟩=some x7:=
 ⟨b.cell 0,b.cell 1,b.cell 2,b.cell 3,b.cell 4,b.cell 5,b.cell 6,b.cell 7⟩
section
variable (bp:Nat) (sn:Int) (po sg la:Bool) (off:Int) (s e:Bool) (A:Option Addr) (n c:Nat) (vs:List Value) (ps:List (List UInt8)) (w:World)
theorem UU (hb:aA w bp 72 (aY sn po sg la off s e A n c)):
 Calls Tryz.prog 119 #[.pointer (some ⟨bp,0,none⟩)] w fun e w'=>e= .returned (.bool (!la&&decide (off=0)))∧w=w':=by
 obtain ⟨x0,x1,x2,x3,x4,x5,x6,x7⟩:=hb.eight;have hd:(off==0)=decide (off=0):=by rw[Bool.eq_iff_iff];simp
 generalize decide (off=0)=d at*;cases la with
 |false=>
  go_enter Tryz.func119,Tryz.ntmps119;go_wp2;go_ret;exact ⟨rfl,rfl⟩
 |true=>
  go_enter Tryz.func119,Tryz.ntmps119;go_wp2;go_ret;exact ⟨rfl,rfl⟩
theorem UW (hb:aA w bp 72 (aY sn po sg la off s e A n c)):
 Calls Tryz.prog 122 #[.pointer (some ⟨bp,0,none⟩)] w fun e w'=>e= .returned (.bool (decide (0≤sn∧sn<1024)))∧w=w':=by
 obtain ⟨x0,x1,x2,x3,x4,x5,x6,x7⟩:=hb.eight;by_cases h0:0≤sn
 ·by_cases h1:sn<1024
  ·rw[decide_eq_true (p:=0≤sn∧sn<1024) ⟨h0,h1⟩];go_enter Tryz.func122,Tryz.ntmps122;go_wp2;go_ret;exact ⟨rfl,rfl⟩
  ·rw[decide_eq_false (p:=0≤sn∧sn<1024) (by omega)];go_enter Tryz.func122,Tryz.ntmps122;go_wp2;go_ret;exact ⟨rfl,rfl⟩
 ·rw[decide_eq_false (p:=0≤sn∧sn<1024) (by omega)];go_enter Tryz.func122,Tryz.ntmps122;go_wp2;go_ret;exact ⟨rfl,rfl⟩
theorem UX (h:gD w w.heap.size A n c vs ps) (hn:n≤1048576) (hle:∀p∈ps,p.length≤1099511627776) (hb:aA w bp 72 (aY sn po sg la off s e A n c)):
 Calls Tryz.prog 123 #[.pointer (some ⟨bp,0,none⟩)] w fun e w'=>e= .returned (.bool (nk ps))∧Below w.heap.size w w':=by
 obtain ⟨x0,x1,x2,x3,x4,x5,x6,x7⟩:=hb.eight;have hv:=KO s e A n c vs ps w h hn hle;have HV:=Lib.hid hv;clear hv hle;generalize nk ps=r at*;go_enter Tryz.func123,Tryz.ntmps123;go_wp2_with (go_at_call 124;refine HV.out.mono ?_;rintro e w' ⟨rfl,hb⟩);go_ret;exact ⟨rfl,hb⟩
set_option maxRecDepth 100000 in
set_option maxHeartbeats 800000 in
theorem UY (h:gD w w.heap.size A n c vs ps) (hn:n≤1048576) (hle:∀p∈ps,p.length≤1099511627776) (hb:aA w bp 72 (aY sn po sg la off s e A n c)):
 Calls Tryz.prog 120 #[.pointer (some ⟨bp,0,none⟩)] w fun e w'=>e= .returned (.bool (decide (0≤off∧off≤32767-(au ps:Int))))∧Below w.heap.size w w':=by
 obtain ⟨x0,x1,x2,x3,x4,x5,x6,x7⟩:=hb.eight;by_cases h0:0≤off
 ·have hsz:=nL s e A n c vs ps w.drew h.drew' hn hle;have hsum:au ps≤1152921504606846976:=by
   have:=Du ps _ hle;have h2:=h.len;have:1099511627776*ps.length≤1099511627776*1048576:=Nat.mul_le_mul_left _ (by omega);omega
  have HZ:=Lib.hid hsz;clear hsz hle;generalize au ps=S at*;have hd0:decide (0≤off)=true:=by simpa using h0
  have hdd:decide (0≤off∧off≤32767-(S:Int))=decide (off≤32767-(S:Int)):=by simp[h0]
  rw[hdd];clear hdd;go_enter Tryz.func120,Tryz.ntmps120;go_wp2;have hbp:bp<w.drew.heap.size:=hb.lt
  go_region_held3 (fun w'=>w'.cell? ⟨bp,4,none⟩=some (.int .i64 off)∧w'.cell? ⟨bp,5,none⟩=some (.bool s)∧w'.cell? ⟨bp,6,none⟩=some (.bool e)∧w'.cell? ⟨bp,7,none⟩=some (.slice A n c))
   (first|(refine ⟨(hb1.cell (p:=⟨bp,4,none⟩) hbp).trans x4,(hb1.cell (p:=⟨bp,5,none⟩) hbp).trans x5,(hb1.cell (p:=⟨bp,6,none⟩) hbp).trans x6,(hb1.cell (p:=⟨bp,7,none⟩) hbp).trans x7⟩)|go_keep)
   ((go_at_call 72;refine HZ.out.mono ?_;rintro e1 w1 ⟨rfl,hb1⟩))
  go_wp2;go_ret;refine ⟨bH ?_,((Below.refl w.heap.size w).drew).trans hb1⟩;rw[IntWalk.i64_in _ (by omega)]
 ·rw[decide_eq_false (p:=0≤off∧off≤32767-(au ps:Int)) (by omega)];have hd0:decide (0≤off)=false:=by simpa using h0
  clear hle h;go_enter Tryz.func120,Tryz.ntmps120;go_wp2
  go_quiet (fail)
  go_wp2;go_ret;exact ⟨rfl,(Below.refl _ w).drewN _⟩
theorem Dv (EH:Nat) (x:Bool) (hf:EH=119∨EH=120∨EH=122∨EH=123) (h:Calls Tryz.prog EH #[.pointer (some ⟨bp,0,none⟩)] w fun e w'=>e= .returned (.bool x)∧Below w.heap.size w w'):
 Calls Tryz.prog 153 #[.func (.func EH) #[] #[.pointer (some ⟨bp,0,none⟩)]] w fun e w'=>e= .returned (.bool (!x))∧Below w.heap.size w w':=by
 have H:=Lib.hid h;clear h;rcases hf with rfl|rfl|rfl|rfl
 ·go_enter Tryz.func153,Tryz.ntmps153;go_wp2_with (go_at_call 119;refine H.out.mono ?_;rintro e w' ⟨rfl,hb⟩);go_ret;exact ⟨rfl,hb⟩
 ·go_enter Tryz.func153,Tryz.ntmps153;go_wp2_with (go_at_call 120;refine H.out.mono ?_;rintro e w' ⟨rfl,hb⟩);go_ret;exact ⟨rfl,hb⟩
 ·go_enter Tryz.func153,Tryz.ntmps153;go_wp2_with (go_at_call 122;refine H.out.mono ?_;rintro e w' ⟨rfl,hb⟩);go_ret;exact ⟨rfl,hb⟩
 ·go_enter Tryz.func153,Tryz.ntmps153;go_wp2_with (go_at_call 123;refine H.out.mono ?_;rintro e w' ⟨rfl,hb⟩);go_ret;exact ⟨rfl,hb⟩
theorem IC (b:Nat) (h:gD w w.heap.size A n c vs ps) (hn:n≤1048576) (hle:∀p∈ps,p.length≤1099511627776) (hbp:aA w bp 72 (aY sn po sg la off s e A n c)) (f3:Nat) (hf3:f3=if sg then 120 else 119)
 (hb:aA w b 27 #[.func (.func 122) #[] #[.pointer (some ⟨bp,0,none⟩)],.func (.func 123) #[] #[.pointer (some ⟨bp,0,none⟩)],.func (.func f3) #[] #[.pointer (some ⟨bp,0,none⟩)]]):
 Calls Tryz.prog 121 #[.slice (some ⟨b,0,none⟩) 3 3] w fun e w'=>e= .returned (.bool (eP sn sg la off ps))∧Below w.heap.size w w':=by
 refine Nj b [.func (.func 122) #[] #[.pointer (some ⟨bp,0,none⟩)],.func (.func 123) #[] #[.pointer (some ⟨bp,0,none⟩)],.func (.func f3) #[] #[.pointer (some ⟨bp,0,none⟩)]] (l8 sn sg la off ps) (fun W=>Below w.heap.size w W) w ?_;refine vk b _ (l8 sn sg la off ps) (fun W=>Below w.heap.size w W) w ?_;refine AZ b _ (l8 sn sg la off ps) (fun W=>Below w.heap.size w W) w rfl (by simp) (fun W hW=>hb.below hW hb.lt) ?_ (Below.refl _ _);intro i fv x W iq hx hpre hW;have hS:=(h.below hW).more hW.size;have hbW:=hbp.below hW hbp.lt;have key:Calls Tryz.prog 153 #[fv] W fun e W'=>e= .returned (.bool (!x))∧Below W.heap.size W W':=by
  match i,iq,hx,hpre with
  |0,iq,hx,_=>
   simp only[l8,List.getElem?_cons_zero,Option.some.injEq] at iq hx;subst iq hx;exact Dv bp W 122 _ (by omega) ((UW bp sn po sg la off s e A n c W hbW).mono fun e W' hh=>⟨hh.1,by rw[←hh.2];exact Below.refl _ _⟩)
  |1,iq,hx,_=>
   simp only[l8,List.getElem?_cons_zero,List.getElem?_cons_succ,Option.some.injEq] at iq hx;subst iq hx;exact Dv bp W 123 _ (by omega) (UX bp sn po sg la off s e A n c vs ps W hS hn hle hbW)
  |2,iq,hx,_=>
   simp only[l8,List.getElem?_cons_zero,List.getElem?_cons_succ,Option.some.injEq] at iq hx;subst iq hx;cases sg with
   |true=>
    simp only[if_true] at hf3 ⊢;subst hf3;exact Dv bp W 120 _ (by omega) (UY bp sn po true la off s e A n c vs ps W hS hn hle hbW)
   |false=>
    simp only[Bool.false_eq_true,if_false] at hf3 ⊢;subst hf3;exact Dv bp W 119 _ (by omega) ((UU bp sn po false la off s e A n c W hbW).mono fun e W' hh=>⟨hh.1,by rw[←hh.2];exact Below.refl _ _⟩)
  |i+3,iq,_,_=>simp at iq
 exact key.mono fun e W' hh=>⟨hh.1,hW.trans (hh.2.mono hW.size)⟩
set_option maxHeartbeats 800000 in
theorem oP (h:gD w w.heap.size A n c vs ps) (hn:n≤1048576) (hle:∀p∈ps,p.length≤1099511627776):
 Calls Tryz.prog 71 #[.agg (aY sn po sg la off s e A n c)] w (UT (eP sn sg la off ps) w):=by
 have E4:=Lib.hid hle;clear hle;obtain ⟨f3,hf3⟩:∃f3,f3=if sg then 120 else 119:=⟨_,rfl⟩
 have hB:=(((Below.refl w.heap.size w).alloc (Nat.le_refl _) (.cells (aY sn po sg la off s e A n c) 72))).alloc (by simp) (.cells #[.func (.func 122) #[] #[.pointer (some ⟨w.heap.size,0,none⟩)],.func (.func 123) #[] #[.pointer (some ⟨w.heap.size,0,none⟩)],.func (.func f3) #[] #[.pointer (some ⟨w.heap.size,0,none⟩)]] 27);have b0:=(aA.new w 72 (aY sn po sg la off s e A n c)).alloc (.cells #[.func (.func 122) #[] #[.pointer (some ⟨w.heap.size,0,none⟩)],.func (.func 123) #[] #[.pointer (some ⟨w.heap.size,0,none⟩)],.func (.func f3) #[] #[.pointer (some ⟨w.heap.size,0,none⟩)]] 27);have b1:=aA.new (w.alloc (.cells (aY sn po sg la off s e A n c) 72)) 27 #[.func (.func 122) #[] #[.pointer (some ⟨w.heap.size,0,none⟩)],.func (.func 123) #[] #[.pointer (some ⟨w.heap.size,0,none⟩)],.func (.func f3) #[] #[.pointer (some ⟨w.heap.size,0,none⟩)]];simp only[World.size_alloc] at b1;have hall:=IC w.heap.size sn po sg la off s e A n c vs ps _ (w.heap.size+1) ((h.below hB).more hB.size) hn E4.out b0 f3 hf3 b1;have lT:=Lib.hid hall;have HB:=Lib.hid hB;clear hall b0 b1 hB;generalize eP sn sg la off ps=r at*;unfold aY at*;cases sg with
 |true=>
  simp only[if_true] at hf3;subst hf3;go_enter Tryz.func71,Tryz.ntmps71;go_wp2_with (go_at_call 121;refine lT.out.mono ?_;rintro e w' ⟨rfl,hb⟩);go_ret;exact ⟨rfl,HB.out.trans (hb.mono HB.out.size)⟩
 |false=>
  simp only[Bool.false_eq_true,if_false] at hf3;subst hf3;go_enter Tryz.func71,Tryz.ntmps71;go_wp2_with (go_at_call 121;refine lT.out.mono ?_;rintro e w' ⟨rfl,hb⟩);go_ret;exact ⟨rfl,HB.out.trans (hb.mono HB.out.size)⟩
end
end Go.Proofs.YtiecgfahidpldaaGreat
namespace Go.Proofs.YtiecgfahidpldaaGreat
open Go.RowKit
theorem Fg (b:Bool) (w:World):Calls Tryz.prog 75 #[.bool b] w fun e w'=>e= .returned (.int .u64 b.toNat)∧w=w':=by
 cases b
 ·go_enter Tryz.func75,Tryz.ntmps75;go_wp2;go_ret;exact ⟨rfl,rfl⟩
 ·go_enter Tryz.func75,Tryz.ntmps75;go_wp2;go_ret;exact ⟨rfl,rfl⟩
theorem jW (b:Bool) (w:World):Calls Tryz.prog 75 #[.bool b] w fun e w'=>e= .returned (.int .u64 b.toNat)∧w'=w:=(Fg b w).mono fun _ _ h=>⟨h.1,h.2.symm⟩
def gZ (po sg:Bool):List (Nat × Nat):= [(1,1),(sg.toNat,1),(po.toNat,1)]
def jF (sn:Nat) (s e:Bool) (n:Nat):List (Nat × Nat):= [((!s).toNat,1),((!e).toNat,1),((decide (1<n)).toNat,1),(sn,10)]
def lF (la:Bool) (off:Nat):List (Nat × Nat):= [(la.toNat,1),(off,15)]
def jG (sn:Nat) (po sg la:Bool) (off:Nat) (s e:Bool) (n:Nat):List Bool:=aB (gZ po sg)++aB (jF sn s e n)++(if sg then aB (lF la off) else [])
theorem nA (sn:Nat) (po sg la:Bool) (off:Nat) (s e:Bool) (n:Nat):(jG sn po sg la off s e n).length=if sg then 32 else 16:=by
 cases sg<;>simp[jG,aB,gZ,jF,lF]
theorem rM {B g k:Nat} {cs:Array Value} {t:TypeId} (ht:t≠5) (hk:k≠g):¬Mw B g k (.cells cs t (0,0)):=by
 rintro ⟨_,e|⟨cs',fr,e⟩⟩
 ·exact hk e
 ·cases e;exact ht rfl
theorem oC.lt {w:World} {B g:Nat} {l:List Bool} (h:oC w B g l):g<w.heap.size:=by obtain ⟨_,v,hb,_⟩:=h;exact hb.lt
def nC (sn:Nat) (po sg la:Bool) (off:Nat) (s e:Bool) (ps:List (List UInt8)):List UInt8:=pack (jG sn po sg la off s e ps.length++dI ps (ps.length-1))++ps.flatten
theorem yD (b:Bool):b.toNat≤1:=by cases b<;>simp
theorem ID (b:Bool):(1:Nat)≤64∧b.toNat<2 ^ 1∧b.toNat<18446744073709551616:=⟨by omega,by have:=yD b;omega,by have:=yD b;omega⟩
structure QB (sn:Int) (sg la:Bool) (off:Int) (ps:List (List UInt8)):Prop where
 sn0:0≤sn
 sn1:sn<1024
 vp:nk ps=true
 seg:sg=true→0≤off∧off≤32767-(au ps:Int)
 whole:sg=false→la=false∧off=0
theorem iF (sn:Int) (sg la:Bool) (off:Int) (ps:List (List UInt8)):eP sn sg la off ps=true↔QB sn sg la off ps:=by
 unfold eP l8;simp only[List.all_cons,List.all_nil,Bool.and_true,id,Bool.and_eq_true,decide_eq_true_eq];constructor
 ·rintro ⟨⟨h1,h2⟩,h3,h4⟩;refine ⟨h1,h2,h3,fun hs=> ?_,fun hs=> ?_⟩
  ·subst hs;simpa using h4
  ·subst hs;simpa using h4
 ·rintro ⟨h1,h2,h3,h4,h5⟩;refine ⟨⟨h1,h2⟩,h3,?_⟩;cases sg with
  |true=>simpa using h4 rfl
  |false=>simpa using h5 rfl
set_option maxRecDepth 100000 in
set_option maxHeartbeats 4000000 in
theorem rO (sn:Nat) (po sg la:Bool) (off:Nat) (s e:Bool) (A:Option Addr) (n c:Nat) (vs:List Value) (ps:List (List UInt8)) (w:World) (h:gD w w.heap.size A n c vs ps) (hv:eP sn sg la off ps=true) (hoff:off≤32767):
 Calls Tryz.prog 26 #[.agg (aY sn po sg la off s e A n c)] w (ql w.heap.size 5 w (nC sn po sg la off s e ps).length (cu (nC sn po sg la off s e ps)) 0):=by
 have hva:=(iF sn sg la off ps).1 hv;obtain ⟨hlo,hhi,hpos,hshort,hsum⟩:=(fK ps).1 hva.vp;have hsn:sn≤1023:=by have:=hva.sn1;omega
 have hlen:=h.len;have qY:∀p∈ps,p.length≤1099511627776:=fun p hp=>by have:=fJ hp;omega
 have hB:=(Below.refl w.heap.size w).alloc (Nat.le_refl _) (.cells (aY sn po sg la off s e A n c) 72);have Nl:=oP sn po sg la off s e A n c vs ps _ ((h.below hB).more hB.size) (by omega) qY;rw[hv] at Nl;have HB:=Lib.hid hB;have HV:=Lib.hid Nl;have HL:=Lib.hid hlen;have HS:=Lib.hid hshort;have Dw:=Lib.hid hsum;have bx:=aA.new w 72 (aY sn po sg la off s e A n c);clear hB Nl hv hlen hpos hshort qY hva hsum;unfold aY at*;go_enter Tryz.func26,Tryz.ntmps26;go_wp2_with fail;refine HV.out.mono ?_;rintro e1 w1 ⟨rfl,hb1⟩;have hbw:Below w.heap.size w w1:=HB.out.trans (hb1.mono HB.out.size)
 replace bx:=bx.below hb1 bx.lt
 have hlt1:=bx.lt;clear HV hb1 HB;have hW2:oC (w1.alloc (.cells #[.slice none 0 0,.int .i64 0] 141)) w1.heap.size w1.heap.size []:=⟨Nat.le_refl _,_,aA.new w1 _ _,World.ownsRow_nil _ _ _ _⟩;have hbw2:=hbw.alloc hbw.size (.cells #[.slice none 0 0,.int .i64 0] 141);have hg2:w1.heap.size+1=(w1.alloc (.cells #[.slice none 0 0,.int .i64 0] 141)).heap.size:=by simp
 replace bx:=bx.alloc (.cells #[.slice none 0 0,.int .i64 0] 141)
 go_wp2_with fail;generalize w1.alloc (.cells #[.slice none 0 0,.int .i64 0] 141)=w2 at*;generalize w1.heap.size=g at*;clear hbw;obtain ⟨x0,x1,x2,x3,x4,x5,x6,x7⟩:=bx.eight;have x5':w2.drew.cell? ⟨w.heap.size,5,none⟩=some (.bool s):=x5;have x6':w2.drew.cell? ⟨w.heap.size,6,none⟩=some (.bool e):=x6;have x7':w2.drew.cell? ⟨w.heap.size,7,none⟩=some (.slice A n c):=x7;have hwl:w.heap.size<w2.heap.size:=bx.lt
 go_region
 go_wp2;have b5:=(aA.new w2 70 #[.bool s,.bool e,.slice A n c]).drew
 replace bx:=(bx.alloc (.cells #[.bool s,.bool e,.slice A n c] 70)).drew
 replace hW2:oC (w2.alloc (.cells #[.bool s,.bool e,.slice A n c] 70)).drew g g []:=hW2.alloc _
 have Nn:=(hbw2.alloc hbw2.size (.cells #[.bool s,.bool e,.slice A n c] 70)).drew;generalize (w2.alloc (.cells #[.bool s,.bool e,.slice A n c] 70)).drew=w3 at*;rw[←hg2] at b5 ⊢;clear x0 x1 x2 x3 x4 x5 x6 x7 x5' x6' x7' hbw2 hwl hg2;obtain ⟨x0,x1,x2,x3,x4,x5,x6,x7⟩:=bx.eight;refine wp_region_still_tail 9 (by kernel_rfl) (by kernel_rfl) ?_;simp only[List.take_succ_cons,List.take_zero,List.drop_succ_cons,List.drop_zero]
 still_step
 still_step
 still_step
 still_call (jW _ _)
 still_step
 still_step
 still_step
 still_call (jW _ _)
 still_step
 refine wpStill_nil ?_;change wpList _ _ _ _ _ w3.drew
 replace hW2:oC w3.drew g g []:=hW2
 replace Nn:=Nn.drew
 replace bx:=bx.drew
 replace b5:=b5.drew
 generalize w3.drew=w4 at*;clear x0 x1 x2 x3 x4 x5 x6 x7;have hput:=je g g w4.heap.size [] (gZ po sg) (w4.alloc (.cells (bJ (gZ po sg)).toArray 144)) (hW2.alloc _) (by simp) (by simp[gZ]) (aA.new _ _ _) (by
  intro x hx;simp only[gZ,List.mem_cons,List.not_mem_nil,or_false] at hx;rcases hx with rfl|rfl|rfl
  ·exact ⟨by omega,by decide,by omega⟩
  ·exact ID sg
  ·exact ID po)
 rw[List.nil_append] at hput;have MG:bJ (gZ po sg)= [.int .u64 1,.int .i64 1,.int .u64 sg.toNat,.int .i64 1,.int .u64 po.toNat,.int .i64 1]:=rfl;have Cc:(gZ po sg).length=3:=rfl;rw[MG,Cc] at hput;have mH:=Lib.hid hput;clear hput MG Cc;go_wp2_with fail;refine mH.out.mono ?_;rintro e5 w5 ⟨rfl,Tj,hk5⟩;have hg4:=hW2.lt;have Np:=(Nn.alloc Nn.size _).trans ((hk5.below (B:=g) (fun _ _ h=>h.1) (by simp;omega)).mono (by omega))
 replace bx:=(bx.alloc _).kept hk5 (rM (by decide) (by omega))
 replace b5:=(b5.alloc _).kept hk5 (rM (by decide) (by omega))
 clear mH hW2 hk5 Nn hg4;obtain ⟨x0,x1,x2,x3,x4,x5,x6,x7⟩:=bx.eight;obtain ⟨y0,y1,y2⟩:=b5.three;have hwr:IntKind.u64.wrap (sn:Int)=sn:=by rw[IntKind.wrap_u64];omega
 have hdn:decide ((1:Int)<n)=decide (1<n):=by rw[Bool.eq_iff_iff];simp;omega
 go_wp2_with fail;refine wp_region_still_tail 18 (by kernel_rfl) (by kernel_rfl) ?_;simp only[List.take_succ_cons,List.take_zero,List.drop_succ_cons,List.drop_zero]
 still_step
 still_step
 still_step
 still_call (jW _ _)
 still_step
 still_step
 still_step
 still_step
 still_call (jW _ _)
 still_step
 still_step
 still_step
 still_call (jW _ _)
 still_step
 still_step
 still_step
 still_step
 still_step
 refine wpStill_nil ?_;change wpList _ _ _ _ _ w5.drew
 replace Tj:oC w5.drew g g (aB (gZ po sg)):=Tj
 replace Np:=Np.drew
 replace bx:=bx.drew
 replace b5:=b5.drew
 generalize w5.drew=w6 at*;clear x0 x1 x2 x3 x4 x5 x6 x7 y0 y1 y2 hwr hdn;have hput:=je g g w6.heap.size (aB (gZ po sg)) (jF sn s e n) (w6.alloc (.cells (bJ (jF sn s e n)).toArray 144)) (Tj.alloc _) (by simp[aB,gZ]) (by simp[jF]) (aA.new _ _ _) (by
  intro x hx;simp only[jF,List.mem_cons,List.not_mem_nil,or_false] at hx;rcases hx with rfl|rfl|rfl|rfl
  ·exact ID _
  ·exact ID _
  ·exact ID _
  ·exact ⟨by omega,by simp;omega,by omega⟩)
 have MG:bJ (jF sn s e n)= [.int .u64 (!s).toNat,.int .i64 1,.int .u64 (!e).toNat,.int .i64 1,.int .u64 (decide (1<n)).toNat,.int .i64 1,.int .u64 sn,.int .i64 10]:=rfl;have Cc:(jF sn s e n).length=4:=rfl;rw[MG,Cc] at hput;have mH:=Lib.hid hput;clear hput MG Cc;go_wp2_with fail;refine mH.out.mono ?_;rintro e7 w7 ⟨rfl,Nq,Hr⟩;have QC:=Tj.lt;have yE:=(Np.alloc Np.size _).trans ((Hr.below (B:=g) (fun _ _ h=>h.1) (by simp;omega)).mono (by omega))
 replace bx:=(bx.alloc _).kept Hr (rM (by decide) (by omega))
 replace b5:=(b5.alloc _).kept Hr (rM (by decide) (by omega))
 clear mH Tj Hr Np QC;obtain ⟨x0,x1,x2,x3,x4,x5,x6,x7⟩:=bx.eight;go_upto_if 50 with (fail)
 go_cut [] (fun wx=>oC wx g g (jG sn po sg la off s e n)∧Below w.heap.size w wx∧aA wx (g+1) 70 #[.bool s,.bool e,.slice A n c])
 case first=>
  cases sg with
  |false=>
   go_wp2_with fail;go_meet;exact ⟨by simpa[jG] using Nq,yE,b5⟩
  |true=>
   have hwr:IntKind.u64.wrap (off:Int)=off:=by rw[IntKind.wrap_u64];omega
   go_wp2_with fail;refine wp_region_still_tail 8 (by kernel_rfl) (by kernel_rfl) ?_;simp only[List.take_succ_cons,List.take_zero,List.drop_succ_cons,List.drop_zero]
   still_step
   still_step
   still_call (jW _ _)
   still_step
   still_step
   still_step
   still_step
   still_step
   refine wpStill_nil ?_;change wpList _ _ _ _ _ w7.drew
   replace Nq:oC w7.drew g g (aB (gZ po true)++aB (jF sn s e n)):=Nq
   replace yE:=yE.drew
   replace b5:=b5.drew
   generalize w7.drew=w8 at*;clear x0 x1 x2 x3 x4 x5 x6 x7 hwr;have hput:=je g g w8.heap.size _ (lF la off) (w8.alloc (.cells (bJ (lF la off)).toArray 144)) (Nq.alloc _) (by simp[aB,gZ,jF]) (by simp[lF]) (aA.new _ _ _) (by
    intro x hx;simp only[lF,List.mem_cons,List.not_mem_nil,or_false] at hx;rcases hx with rfl|rfl
    ·exact ID _
    ·exact ⟨by omega,by simp;omega,by omega⟩)
   have MG:bJ (lF la off)= [.int .u64 la.toNat,.int .i64 1,.int .u64 off,.int .i64 15]:=rfl;have Cc:(lF la off).length=2:=rfl;rw[MG,Cc] at hput;have mH:=Lib.hid hput;clear hput MG Cc;go_wp2_with fail;refine mH.out.mono ?_;rintro e9 w9 ⟨rfl,hW9,Xk⟩;have QD:=Nq.lt;have adJ:=(yE.alloc yE.size _).trans ((Xk.below (B:=g) (fun _ _ h=>h.1) (by simp;omega)).mono (by omega))
   replace b5:=(b5.alloc _).kept Xk (rM (by decide) (by omega))
   clear mH;go_wp2_with fail;go_meet;exact ⟨by simpa[jG] using hW9,adJ,b5⟩
 case rest=>
  clear Nq yE b5 bx x0 x1 x2 x3 x4 x5 x6 x7;obtain ⟨Nr,QE,b1⟩:=hcut;obtain ⟨y0,y1,c12⟩:=b1.three;have Yp:=nA sn po sg la off s e n;have Yq:(jG sn po sg la off s e n).length≤32∧(jG sn po sg la off s e n).length%8=0:=by rw[Yp];split<;>omega
  have Yr:=Lib.hid Yq;have henc:nC sn po sg la off s e ps=pack (jG sn po sg la off s e n++dI ps (n-1))++ps.flatten:=by rw[←HL.out];rfl
  have HE:=Lib.hid henc;clear henc Yp Yq;generalize hH:jG sn po sg la off s e n=H at*;generalize hEE:nC sn po sg la off s e ps=EE at*;clear hH hEE;have hcap:=h.sl.cap;have hmx:=h.sl.mx;obtain ⟨m,hm⟩:∃m,n=m+1:=⟨n-1,by have:=HL.out;omega⟩
  subst hm;have em:m+1-1=m:=by omega
  rw[em] at HE;clear em;have hm63:m≤63:=by have:=HL.out;omega
  rw[show ((m+1:Nat):Int)=(m:Int)+1 from by omega];go_wp2
  go_loopw [67] (fun i wr=>∃k:Nat,k≤m∧i= .int .i64 k∧oC wr g g (H++dI ps k)∧Kept (Mw g g) wc wr) (fun i _=>m-(intOf i).toNat)
  case atStart=>exact ⟨0,Nat.zero_le _,rfl,by simpa[dI] using Nr,Kept.refl _ _⟩
  case round=>
   obtain ⟨k,hk,rfl,Ns,Tk⟩:=hrel;have IE:=Tk.below (B:=g) (fun _ _ h=>h.1) (by have:=Nr.lt;omega);have IG:=QE.trans (IE.mono (by omega));by_cases hlt:k<m
   ·obtain ⟨ad,Ai,ci,rfl,hb,hc,hsl⟩:=(h.below IG).get (k:=k) (by omega);have hp:=HS.out k (by rw[HL.out];omega);have hls:=Dn ps k;have hlf:jC ps k= [((decide (k+2<m+1)).toNat,1),((ps[k]?.getD []).length,11)]:=by unfold jC;rw[HL.out]
    rw[hlf] at hls;generalize ps[k]?.getD []=p at*;have Nt:=Lib.hid hls;clear hls hlf;obtain ⟨d,hd⟩:∃d:Bool,decide (k+2<m+1)=d:=⟨_,rfl⟩
    have hd':decide ((k:Int)+2<(m:Int)+1)=d:=by rw[←hd,Bool.eq_iff_iff];simp;omega
    rw[hd] at Nt;clear hd;have hwp:IntKind.u64.wrap (p.length:Int)=p.length:=by rw[IntKind.wrap_u64];omega
    have hlk:(H++dI ps k).length<1000000:=by
     rw[List.length_append];have:=lU ps k;have:=Yr.out.1;omega
    have hput:=je g g wr.heap.size (H++dI ps k) [(d.toNat,1),(p.length,11)] (wr.alloc (.cells (bJ [(d.toNat,1),(p.length,11)]).toArray 144)) (Ns.alloc _) hlk (by simp) (aA.new _ _ _) (by
     intro x hx;simp only[List.mem_cons,List.not_mem_nil,or_false] at hx;rcases hx with rfl|rfl
     ·exact ID d
     ·exact ⟨by omega,by simp;omega,by omega⟩)
    simp only[bJ,List.length_cons,List.length_nil,Nat.zero_add,Nat.reduceAdd] at hput;have mH:=Lib.hid hput;clear hput hlk;go_wp2_with fail;refine (Fg _ _).mono ?_;rintro e5 w5 ⟨rfl,rfl⟩;go_wp2_with fail;refine mH.out.mono ?_;rintro e6 w6 ⟨rfl,hW6,pP⟩;clear mH;go_wp2
    go_roundw
    case rel=>exact ⟨k+1,by omega,by go_num,by rw[Nt.out,←List.append_assoc];exact hW6,(Tk.alloc _).trans pP⟩
    case measure=>simp[intOf];omega
   ·obtain rfl:k=m:=by omega
    clear hlt hk;have Yt:(H++dI ps k).length≤32+12*k:=by rw[List.length_append,lU];have:=Yr.out.1;omega
    have hgr:g<wr.heap.size:=Ns.lt;have hal:=Im g g _ wr Ns (by omega);have xB:=Lib.hid hal;have Yu:=Lib.hid Yt;clear hal Yt;go_wp2_with (go_at_call 76;refine xB.out.mono ?_;rintro e7 w7 ⟨rfl,Nq,Hr⟩);obtain ⟨i0,hi,hz0,hz1,hz2⟩:=info_parts qP;have hpk:pack (H++dI ps k++List.replicate (8*aV (H++dI ps k).length-(H++dI ps k).length) false)=pack (H++dI ps k):=EW _ _ (by unfold aV;omega);have hpl:(pack (H++dI ps k)).length≤1000:=by have e:=jh (H++dI ps k);have:=Yu.out;unfold aV at e;omega
    have Xl:(H++dI ps k++List.replicate (8*aV (H++dI ps k).length-(H++dI ps k).length) false).length<1000000000:=by
     have e:=Yu.out;rw[List.length_append,List.length_replicate];unfold aV;omega
    rw[←hpk] at HE hpl;clear hpk;generalize H++dI ps k++List.replicate (8*aV (H++dI ps k).length-(H++dI ps k).length) false=L at*;have II:=Hr.below (B:=g) (fun _ _ h=>h.1) (by omega);have yE:=IG.trans (II.mono (by omega));have b17:=(b1.kept Tk (rM (by decide) (by omega))).kept Hr (rM (by decide) (by omega));have c7:=b17.cell 2;simp at c7;have Ce:=h.below yE;have yF:=Lib.hid hpl;clear Hr IG IE Tk Ns xB b1 c12 Nr QE hpl;have HLl:=Lib.hid Xl;clear Xl;have hwl:=b17.lt;have hws:=yE.size
    go_region_held3 (fun w'=>w'.cell? ⟨g+1,2,none⟩=some (.slice A (k+1) c))
     (first|(rw[J9.cell_far _ (by simp;omega) (fun e=>by have:=(hv8.lt _ e.symm).1;simp at this;omega)];assumption)|(rw[oQ.cell (p:=⟨g+1,2,none⟩) (by simp;omega)];assumption)|(rw[tC.cell (p:=⟨g+1,2,none⟩) (by simp;omega)];assumption)|go_keep)
     (first
      |(
       go_at_call 77
       refine (BL g g L w7.drew Nq HLl.out).mono ?_;rintro e8 w8 ⟨v8,rfl,hv8,tC⟩;have hz8:w7.heap.size≤w8.heap.size:=tC.size)
      |(
       go_at_call 78
       refine (xX A (k+1) c vs ps w8 (((Ce.drew').below (tC.mono (by simp;omega))).more (by have:=tC.size;simp at this;omega)) (by have:=Dw.out;omega)).mono ?_;rintro e9 w9 ⟨v9,rfl,Xm,oQ⟩;obtain ⟨A9,c9,rfl,hs9,_⟩:=aP Xm;have hz9:w8.heap.size≤w9.heap.size:=oQ.size)
      |(
       refine dS _ (by rfl) _ _ 22 (by rfl) w7.heap.size 5 i0 (.int .u8 0) 1 und29 hi hz0 hz1 hz2 rfl v8 (pack L).length (cu (pack L)) (by rfl) (own_below hv8 oQ (Nat.le_refl _)) w9.heap.size A9 (au ps) c9 (cu ps.flatten) (by rfl) hs9 (Dg _) (by have:=Dw.out;have:=yF.out;unfold maxLen;omega) (by have:=Dw.out;have:=yF.out;omega) (by have:=tC.size;have:=oQ.size;simp at*;omega) ?_;intro v10 EI UZ J9 ahd))
    go_wp2
    go_ret2
    refine ⟨v10,rfl,?_,((yE.drew.trans (tC.mono yE.size)).trans (oQ.mono (by omega))).grown J9 (by omega) (fun j hj=>by have:=(hv8.lt j hj).1;simp at this;omega)⟩;have hfl:EE.length=(pack L).length+au ps:=by rw[HE.out,List.length_append,iy]
    rw[hfl,HE.out];have:=aW UZ (base':=w.heap.size) (by omega);simpa[cu] using this
end Go.Proofs.YtiecgfahidpldaaGreat
namespace Go.Proofs.YtiecgfahidpldaaGreat
theorem fO (a b c:List Bool) (d:List UInt8) (p k:Nat) (hp:a.length=p) (hk:b.length=k):aG (pack (a++(b++c))++d) p k=b:=by
 subst hp hk;rw[ES _ _ _ _ (by simp),List.drop_left,List.take_left]
def lb:List Nat→List Bool
 | []=> []
 |n::l=>(bitsOf (decide (0<l.length)).toNat 1++bitsOf n 11)++lb l
theorem Cg:∀l,(lb l).length=12*l.length
 | []=>rfl
 |n::l=>by simp[lb,Cg l];omega
theorem tF (c:List Bool) (d:List UInt8):∀(l:List Nat) (a:List Bool) (f:Nat) (acc:List Nat),(∀n∈l,1≤n∧n≤2047)→l.length<f→acc.length+l.length≤63→
 eU (pack (a++(lb l++c))++d) f (decide (0<l.length)) a.length acc= .inr (acc++l,a.length+12*l.length)
 | [],a,f,acc,_,_,_=>by simp[eU]
 |n::l,a,f,acc,hl,hf,hacc=>by
  obtain ⟨f,rfl⟩:∃g,f=g+1:=⟨f-1,by simp at hf;omega⟩
  have hn:=hl n (by simp);have e:a++(lb (n::l)++c)=a++((bitsOf (decide (0<l.length)).toNat 1++bitsOf n 11)++(lb l++c)):=by simp[lb]
  have hv:=fO a (bitsOf (decide (0<l.length)).toNat 1++bitsOf n 11) (lb l++c) d a.length 12 rfl (by simp);have hval:val (bitsOf (decide (0<l.length)).toNat 1++bitsOf n 11)=(decide (0<l.length)).toNat*2048+n:=by
   rw[val_append,jd 11 n (by omega),jd 1 _ (by cases decide (0<l.length)<;>simp)];simp
  have ih:=tF c d l (a++(bitsOf (decide (0<l.length)).toNat 1++bitsOf n 11)) f (acc++ [n]) (fun m hm=>hl m (by simp[hm])) (by simp at hf;omega) (by simp at hacc ⊢;omega);rw[e];have hlen:a.length+12≤8*(pack (a++((bitsOf (decide (0<l.length)).toNat 1++bitsOf n 11)++(lb l++c)))++d).length:=by
   simp[aV];omega
  simp only[List.length_cons,show decide (0<l.length+1)=true by simp,eU];rw[if_neg (by omega),hv,hval,if_neg (by simp at hacc;omega)];rw[show ((decide (0<l.length)).toNat*2048+n)%2048=n by omega,show decide (((decide (0<l.length)).toNat*2048+n)/2048=1)=decide (0<l.length) by
   rw[show ((decide (0<l.length)).toNat*2048+n)/2048=(decide (0<l.length)).toNat by omega];cases decide (0<l.length)<;>simp]
  simp only[List.append_assoc] at ih ⊢;rw[show (a++(bitsOf (decide (0<l.length)).toNat 1++bitsOf n 11)).length=a.length+12 by simp] at ih;rw[ih];simp;omega
theorem IJ (ps:List (List UInt8)):dI ps (ps.length-1)=lb ((ps.take (ps.length-1)).map List.length):=by
 have key:∀j i,i+j=ps.length-1→((List.range' i j).flatMap fun i=>aB (jC ps i))=lb (((ps.drop i).take j).map List.length):=by
  intro j
  induction j with
  |zero=>intro i _;simp[lb]
  |succ j ih=>
   intro i hi;have hlt:i<ps.length:=by omega
   rw[List.range'_succ,List.flatMap_cons,ih (i+1) (by omega),List.drop_eq_getElem_cons hlt,List.take_succ_cons,List.map_cons,lb]
   congr 1
   have h1:aB (jC ps i)=bitsOf (decide (i+2<ps.length)).toNat 1++bitsOf (ps[i]?.getD []).length 11:=by simp[aB,jC]
   rw[h1,List.getElem?_eq_getElem hlt,Option.getD_some]
   congr 4
   simp;omega
 have:=key (ps.length-1) 0 (by omega);rw[List.drop_zero,←List.range_eq_range'] at this;exact this
theorem tH:∀(l:List (List UInt8)) (x:List UInt8),splitBy (l.map List.length) (l.flatten++x)=l++ [x]
 | [],x=>by simp[splitBy]
 |p::l,x=>by simp[splitBy,tH l x]
theorem qT (b:Bool):val (bitsOf b.toNat 1)=b.toNat:=jd 1 _ (by cases b<;>simp)
theorem IK {ps:List (List UInt8)} (h:1≤ps.length):∃l x,ps=l++ [x]:=by
 have hne:ps≠ []:=by intro e;simp[e] at h
 exact ⟨ps.dropLast,ps.getLast hne,(List.dropLast_concat_getLast hne).symm⟩
end Go.Proofs.YtiecgfahidpldaaGreat
namespace Go.Proofs.YtiecgfahidpldaaGreat
theorem tJ (bs:List UInt8):∀(f:Nat) (more:Bool) (pos:Nat) (acc:List Nat) (er:Nat),eU bs f more pos acc= .inl er→er≠0
 |_,false,pos,acc,er,h=>by simp[eU] at h
 |0,true,_,_,er,h=>by simp[eU] at h;omega
 |f+1,true,pos,acc,er,h=>by
  simp only[eU] at h;split at h
  ·cases h;omega
  ·split at h
   ·cases h;omega
   ·exact tJ bs f _ _ _ er h
theorem IP {l:List (List UInt8)} {x:List UInt8} (hv:oJ (l++ [x])):l.length≤63∧∀p∈l,1≤p.length∧p.length≤2047:=by
 refine ⟨by have:=hv.hi;simp at this;omega,fun p hp=>⟨hv.pos p (by simp[hp]),?_⟩⟩;obtain ⟨i,hi,rfl⟩:=List.getElem_of_mem hp;have:=hv.short i (by simp;omega);rw[List.getElem?_append_left hi,List.getElem?_eq_getElem hi] at this;exact this
end Go.Proofs.YtiecgfahidpldaaGreat
namespace Go.Proofs.YtiecgfahidpldaaGreat
open Go.RowKit
theorem Below.drew' {w w':World} (h:Below w.drew.heap.size w.drew w'):Below w.heap.size w w':=((Below.refl w.heap.size w).drew).trans h
end Go.Proofs.YtiecgfahidpldaaGreat
namespace Go.Proofs.YtiecgfahidpldaaGreat
open Go.RowKit
theorem Sl.Yv {w:World} {B:Nat} {A:Option Addr} {n c k:Nat} {xs:List Value} (h:Sl w B A n c xs) (hk:k≤n):Sl w B A k c (xs.take k):=by
 have hl:=h.len;refine ⟨by simp;omega,by have:=h.cap;omega,h.mx,fun hp=> ?_⟩;obtain ⟨ad,e,hb,hc⟩:=h.at_ (by omega);refine ⟨ad,e,hb,fun j u hu=>hc j u ?_⟩;rw[List.getElem?_take] at hu;split at hu
 ·exact hu
 ·cases hu
end Go.Proofs.YtiecgfahidpldaaGreat
namespace Go.Proofs.YtiecgfahidpldaaGreat
open Go.RowKit
theorem dZ {w:World} {base:Nat} {e:TypeId} {A:Option Addr} {c n:Nat} {xs:List Value} (h:w.ownsRow base e 1 (.slice A n c) n xs):Sl w w.heap.size A n c xs:=by
 obtain ⟨A',c',he,hs,_⟩:=aP h;cases he;exact hs
theorem aO {w:World} {base:Nat} {e t:TypeId} {v:Value} {n g i:Nat} {xs:List Value} {cs:Array Value} (h:w.ownsRow base e 1 v n xs) (hg:aA w g t cs) (hne:e≠t) (u:Value):(w.setCell ⟨g,i,none⟩ u).ownsRow base e 1 v n xs:=
 h.kept (aJ w g i u) (.inr (aF h hg hne))
end Go.Proofs.YtiecgfahidpldaaGreat
namespace Go.Proofs.YtiecgfahidpldaaGreat
open Go.RowKit
theorem Sl.mid {w:World} {B n c a m:Nat} {A:Option Addr} {xs:List Value} (h:Sl w B A n c xs) (hm:a+m≤n):Sl w B (if c=a then A else A.map (·.add a)) m (c-a) ((xs.drop a).take m):=by
 have h1:=h.cut (k:=a) (by omega);exact h1.Yv (k:=m) (by omega)
end Go.Proofs.YtiecgfahidpldaaGreat
namespace Go.Proofs.YtiecgfahidpldaaGreat
open Go.RowKit
theorem ku (W:World) (x:Value) (t:TypeId):Sl (W.alloc (.cells #[x] t)).drew (W.alloc (.cells #[x] t)).heap.size (some ⟨W.heap.size,0,none⟩) 1 1 [x]:=
 (rH (xs:= [x]) (lY W (.cells #[x] t)) rfl (by simp)).drew
end Go.Proofs.YtiecgfahidpldaaGreat
namespace Go.Proofs.YtiecgfahidpldaaGreat
open Go.RowKit Go.Shelf
def IQ (F:Fence) (n:Nat) (P:Program) (g:Nat) (lb:Array Value) (vals:Nat→Array Value) (N:Nat) (Kp:World→World→Prop) (w:World):Prop:=
 ∀(l:Nat) (J:Nat→World→Prop) (W:World),Below w.heap.size w W→AbidesFrom W.heap.size J→
  (∀k W1,k<N→J k W1→YieldAt F (n-1) P l (vals k) W1 fun e W'=>e= .returned (.bool true)∧J (k+1) W'∧Kp W1 W')→J 0 W→
  CallsIn F n P g (#[.func (.yield l) #[] #[]]++lb) W fun e W'=>(∃v,e= .returned v)∧J N W'
def U0 (B:Nat) (Kp:World→World→Prop) (I:Nat→World→Prop) (k:Nat) (W:World):Exit→Act→World→Prop
 | .normal,_,W'=>KeepsFrom B W W'∧Kp W W'∧I k W'
 |_,_,_=>False
variable {F:Fence} {n:Nat} {P:Program}
theorem l9 {g:Operand} {ps:Array Tmp} {assign body:Code} {Q:Exit→Act→World→Prop} {a:Act} {w:World}
 (hro:F.round=none) (h1:1≤n) {gf:Nat} {lb:Array Value} (hg:a.eval g= .func (.func gf) #[] lb) (hFg:F.fn gf) (eg:∀args w,(callFunc gf args).run P w= .ok (.enter gf args) w)
 {vals:Nat→Array Value} {N:Nat} {Kp:World→World→Prop} {w0:World} (hseq:IQ F (n-1) P gf lb vals N Kp w0)
 (hKt:∀{A B C:World},Kp A B→Kp B C→Kp A C) (hKb:∀(W:World) (l:Nat) (o o':Obj),w.heap.size≤l→W.heap[l]? =some o→o.isCells=false→o.isWalk=false→Kp W (W.putObj l o')) (hb0:Below w0.heap.size w0 w)
 (hps:∀k,(vals k).size=ps.size) (I:Nat→World→Prop) (hI:OwnFrom w.heap.size I) (h0:I 0 w) (a₁:Nat→Act)
 (hassign:∀(l k:Nat) (W:World) (K:Act→World→Prop),K (a₁ k) W→
  assign.wpIn (F.inRound l) (n-1-1) P (Exit.then K (fun _ _ _=>False)) {tmps:=(ps.zip (vals k)).foldl (fun t (p,v)=>t.setIfInBounds p v) a.tmps,defers:= []} W)
 (hbody:∀(l k:Nat) (W:World),k<N→I k W→body.wpIn (F.inRound l) (n-1-1) P (U0 w.heap.size Kp I (k+1) W) (a₁ k) W)
 (hdone:∀(D:Nat) (W:World),w.heap.size≤D→I N W→W.heap[D]? =some (.deferred (some []))→Q .normal {a with defers:= {target:= .collected D,args:= #[]}::a.defers} W):
 (Code.rangeFunc g ps assign body).wpIn F n P Q a w:=by
 refine wpIn_rangeFunc fun fn hfn=> ?_
 rw[hro]
 let R:LoopState→Loop:=fun st=> {state:=st,pending:=none,fn,tmps:=a.tmps,params:=ps,assign,body,defers:=w.heap.size}
 let W1:=(w.alloc (.deferred (some []))).alloc (.loop (R .ready))
 have hsz:W1.heap.size=w.heap.size+2:=by simp[W1]
 have hL1:W1.heap[w.heap.size+1]? =some (.loop (R .ready)):=by
  have:=World.alloc_heap_new (w.alloc (.deferred (some []))) (.loop (R .ready));rwa [World.size_alloc] at this
 have hD1:W1.heap[w.heap.size]? =some (.deferred (some [])):=(Below.heap_alloc _ _ _ (by simp)).trans (World.alloc_heap_new w _);have hBW:Below w0.heap.size w0 W1:=hb0.trans ((((Below.refl _ w).alloc (Nat.le_refl _) _).alloc (by simp) _).mono hb0.size)
 let J:Nat→World→Prop:=fun k W=>I k W∧W.heap[w.heap.size+1]? =some (.loop (R .ready))∧W.heap[w.heap.size]? =some (.deferred (some []))
 have hJ:AbidesFrom W1.heap.size J:=fun k A B row hs hgr hr=>by
  have keeps:=fun (i:Nat) (o:Obj) (ho:A.heap[i]? =some o) (hw:o.isWalk=false)=>(grownBy_keeps hgr (fun r e=>(hr r e).2) ho hw).trans ho
  refine ⟨hI k A B row hs.1 hgr (fun r e=> ?_),keeps _ _ hs.2.1 rfl,keeps _ _ hs.2.2 rfl⟩;obtain ⟨h2,o,ho,hw⟩:=hr r e;exact ⟨by omega,o,ho,Obj.not_cells_of_walk hw⟩
 refine ⟨w.heap.size+1,[{target:= .collected w.heap.size,args:= #[]}],W1,{target:= .fn (.func gf) lb,args:= #[.func (.yield (w.heap.size+1)) #[] #[]]},W1,gf,
  #[.func (.yield (w.heap.size+1)) #[] #[]]++lb,W1,run_enterLoop_outer _ _ _ _ _,?_,?_,?_,fun _=>h1,?_⟩
 ·simp only[resolve,hg];simp[go_sem]
 ·intro f' hf';simp[Target.leads] at hf';subst hf';exact hFg
 ·simp[invoke,go_sem,eg]
 refine (hseq (w.heap.size+1) J W1 hBW hJ (fun k W hk hjk=> ?_) ⟨hI.alloc _ (hI.alloc _ h0),hL1,hD1⟩).mono ?_
 ·
  obtain ⟨hi,hl,hd⟩:=hjk;have hlt:w.heap.size+1<W.heap.size:=(Array.getElem?_eq_some_iff.1 hl).1;refine ⟨fn,_,assign,body,run_yield (P:=P) (args:=vals k) hl (hps k),roundIn_of_wpIn hfn (hassign _ k W _ ⟨_,run_beginRound hl rfl,?_⟩)⟩;have hlb:(W.putObj (w.heap.size+1) (.loop (R .busy))).heap[w.heap.size+1]? =some (.loop (R .busy)):=World.putObj_heap_same hlt;have hdb:(W.putObj (w.heap.size+1) (.loop (R .busy))).heap[w.heap.size]? =some (.deferred (some [])):=(World.putObj_heap_other (by omega)).trans hd;refine wpIn_mono (hbody _ k _ hk (hI.putObj _ hi (by omega) hl rfl)) ?_;rintro ex a3 W3 hp;cases ex with
  |normal=>
   obtain ⟨hk3,hkp,hi3⟩:=hp;have hl3:=hk3.same _ _ (by omega) hlb rfl;have hd3:=hk3.same _ _ (Nat.le_refl _) hdb rfl;refine ⟨_,_,run_endRound (P:=P) none hl3,rfl,⟨hI.putObj _ hi3 (by omega) hl3 rfl,World.putObj_heap_same (Array.getElem?_eq_some_iff.1 hl3).1,(World.putObj_heap_other (by omega)).trans hd3⟩,?_⟩;exact hKt (hKt (hKb _ _ _ _ (by omega) hl rfl rfl) hkp) (hKb _ _ _ _ (by omega) hl3 rfl rfl)
  |ret=>exact hp.elim
  |exit id=>exact hp.elim
  |goto t=>exact hp.elim
  |panic ch=>exact hp.elim
  |outgrown=>exact hp.elim
 ·
  rintro e W2 ⟨⟨v,rfl⟩,hi,hl,hd⟩;exact ⟨none,_,run_endLoop (P:=P) hl (by simp[R]),hdone _ _ (Nat.le_refl _) (hI.putObj _ hi (by omega) hl rfl) ((World.putObj_heap_other (by omega)).trans hd)⟩
end Go.Proofs.YtiecgfahidpldaaGreat
namespace Go.Proofs.YtiecgfahidpldaaGreat
open Go.RowKit Go.Shelf
variable {n:Nat} {P:Program} {Q:Exit→Act→World→Prop}
theorem yG {l:Nat} {o:Oper} {a:Act} {K:Act→World→Prop} {r:Result Next} (h:o.upon P a K Q r):o.uponIn (Fence.wide.inRound l) n P a K Q r:=by
 cases r with
 |ok nx w=>
  cases nx<;>simp only[Oper.upon,Oper.uponIn] at h ⊢
  case value v=>exact h
  case skip=>exact h
  case defer d=>exact h
  case enter f args=>exact ⟨fun hh=>(by cases hh),CallsIn.inRound l (callsIn_wide.2 h)⟩
  case row row args=>exact ⟨fun hh=>(by cases hh),fun c cs _=>let ⟨v,w',r,s⟩:=h c cs;⟨v,w',r,stepsIn_wide.2 s⟩⟩
  all_goals exact h.elim
 |halt x w=>
  cases x<;>simp only[Oper.upon,Oper.uponIn] at h ⊢
  all_goals first|exact h|exact h.elim
def mR (o:Oper):Bool:=match o.op with
 | .defer _=>false
 |_=>true
theorem Dx {o:Oper} (h:mR o=true):∀c,o.op≠ .defer c:=fun c e=>by
 unfold mR at h;rw[e] at h;cases h
variable {ops:Array Oper} {md:Region.Mode} {l:Nat}
theorem yH (hd:ops.toList.all mR=true) (hout:¬LetsOut Q) {i:Nat} {K:Act→World→Prop} {a:Act} {w:World} (h:wpOp P ops Q i K a w):wpOpIn (Fence.wide.inRound l) n P ops Q i K a w:=by
 unfold wpOp at h;unfold wpOpIn;cases ho:ops[i]? with
 |none=>rw[ho] at h;exact h
 |some o=>
  rw[ho] at h;simp only[] at h ⊢;have hp:mR o=true:=by
   rw[List.all_eq_true] at hd;exact hd o (by rw[Array.mem_toList_iff];exact Array.mem_of_getElem? ho)
  split
  ·rename_i hw;rw[if_pos hw] at h;rcases h with h|h
   ·refine ⟨fun _ _=>trivial,?_⟩;rw[Oper.semAt_eq _ _ _ (Dx hp)];exact yG h
   ·exact absurd h.2 hout
  ·rename_i hw;rw[if_neg hw] at h;exact ⟨fun _ _=>trivial,h⟩
theorem iL (hd:ops.toList.all mR=true) (hout:¬LetsOut Q):∀(fuel:Nat) (listed:Array Bool) (a:Act) (w:World),wpAny P md ops Q fuel listed a w→wpAnyIn (Fence.wide.inRound l) n P md ops Q fuel listed a w
 |0,_,_,_,h=>h
 |fuel+1,_,_,_,h=>⟨h.1,fun i hi=>yH hd hout (wpOp_mono (fun a' w' h'=>iL hd hout fuel _ a' w' h') (h.2 i hi))⟩
theorem mU {S:World→Prop} {id:Nat} {a:Act} {w:World} (hm:P.follows .mixedOrders=true) (hd:ops.toList.all mR=true) (hout:¬LetsOut Q) (hS:S w.drew)
 (h:S w.drew→wpAnyH P .any ops Q S ops.size (Array.replicate ops.size false) a w.drew):(Code.region id ops true).wpIn (Fence.wide.inRound l) n P Q a w:=
 wpIn_region_any hm (iL hd hout _ _ _ _ (wpAny_of_held _ _ _ _ (h hS)))
end Go.Proofs.YtiecgfahidpldaaGreat
namespace Go.Proofs.YtiecgfahidpldaaGreat
open Go.RowKit Go.Shelf
attribute [local go_sem] Oper.semAt_some
def qZ (off:Nat) (ps:List (List UInt8)) (k:Nat):List Nat:=(List.range (k+1)).map fun i=>off+au (ps.take i)
theorem KW (off:Nat) (ps:List (List UInt8)) (k:Nat):qZ off ps (k+1)=qZ off ps k++ [off+au (ps.take (k+1))]:=by simp[qZ,List.range_succ]
theorem yI (off:Nat) (ps:List (List UInt8)) (k i:Nat) (h:i≤k):(qZ off ps k)[i]? =some (off+au (ps.take i)):=by
 simp[qZ,show i<k+1 by omega]
def Fh (w:World) (off:Nat) (ps:List (List UInt8)) (e:Ending) (w':World):Prop:=
 ∃g v,e= .returned (.func (.func 126) #[] #[.pointer (some ⟨g,0,none⟩)])∧w.heap.size≤g∧aA w' g 162 #[v]∧w'.ownsRow w.heap.size 3 1 v (ps.length+1) (jE (qZ off ps ps.length))∧Below w.heap.size w w'
set_option maxRecDepth 100000 in
set_option maxHeartbeats 2000000 in
theorem yJ (sn:Int) (po sg la:Bool) (off:Nat) (s e:Bool) (A:Option Addr) (n c:Nat) (vs:List Value) (ps:List (List UInt8)) (w:World) (h:gD w w.heap.size A n c vs ps) (hn:n≤1000) (hoff:off≤1000000) (hsum:au ps≤1000000):
 Calls Tryz.prog 73 #[.agg (aY sn po sg la off s e A n c)] w (Fh w off ps):=by
 obtain ⟨i0,hi,hz0,hz1,hz2⟩:=info_parts xY;have HL:=Lib.hid h.len;have sN:=Lib.hid hsum;clear hsum;unfold aY;go_enter Tryz.func73,Tryz.ntmps73;go_wp2;have hB0:=(((Below.refl w.heap.size w).alloc (Nat.le_refl _) (.cells (aY sn po sg la off s e A n c) 72)).alloc (by simp) (.cells #[.int .i64 off] 3)).alloc (by simp;omega) (.cells #[.slice (some ⟨w.heap.size+1,0,none⟩) 1 1] 162);have hG0:=aA.new ((w.alloc (.cells (aY sn po sg la off s e A n c) 72)).alloc (.cells #[.int .i64 off] 3)) 162 #[.slice (some ⟨w.heap.size+1,0,none⟩) 1 1];simp only[World.size_alloc] at hG0;have hO0:(((w.alloc (.cells (aY sn po sg la off s e A n c) 72)).alloc (.cells #[.int .i64 off] 3)).alloc (.cells #[.slice (some ⟨w.heap.size+1,0,none⟩) 1 1] 162)).ownsRow w.heap.size 3 1 (.slice (some ⟨w.heap.size+1,0,none⟩) 1 1) 1 [.int .i64 off]:=by
  have:=(World.ownsRow_lit (base:=w.heap.size) (e:=3) (size:=1) (w.alloc (.cells (aY sn po sg la off s e A n c) 72)) #[.int .i64 off] 1 (by simp) (by unfold maxLen;omega) rfl).alloc (.cells #[.slice (some ⟨w.heap.size+1,0,none⟩) 1 1] 162);rw[World.size_alloc] at this;exact this
 unfold aY at hB0 hG0 hO0;generalize ((w.alloc (.cells #[.int .i64 sn,.bool po,.bool sg,.bool la,.int .i64 off,.bool s,.bool e,.slice A n c] 72)).alloc (.cells #[.int .i64 off] 3)).alloc (.cells #[.slice (some ⟨w.heap.size+1,0,none⟩) 1 1] 162)=w1 at*
 go_loopw [13] (fun i wr=>∃(k:Nat) (v:Value),k≤n∧i= .int .i64 k∧aA wr (w.heap.size+1+1) 162 #[v]∧wr.ownsRow w.heap.size 3 1 v (k+1) (jE (qZ off ps k))∧Below w.heap.size w wr) (fun i _=>n-(intOf i).toNat)
 case atStart=>exact ⟨0,_,Nat.zero_le _,rfl,hG0,by simpa[qZ,jE,au] using hO0,hB0⟩
 case round=>
  clear hB0 hG0 hO0;obtain ⟨k,v,hk,rfl,bG,hown,hB⟩:=hrel;by_cases hlt:k<n
  ·obtain ⟨ad,Ai,ci,rfl,hbk,hc,hsl⟩:=(h.below hB).get hlt;have hs1:=gF ps k (by rw[HL.out];exact hlt);have hle1:=Nat.le_trans (cK ps (k+1)) sN.out;have hbs:=KW off ps k;have hlast:=yI off ps k k (Nat.le_refl _);generalize ps[k]?.getD []=p at*;rw[hs1] at hbs;generalize au (List.take k ps)=S at*;have hle2:S+p.length≤1000000:=by omega
   have Yw:=Lib.hid hbs;clear hs1 hbs hle1;obtain ⟨gv,cap,rfl,hgl,lN⟩:=hown.form (by omega);have hcl:=hown.cellAt k (by omega);have Yx:(jE (qZ off ps k))[k]? =some (.int .i64 ((off:Int)+S)):=by simp[jE,hlast]
   rw[Yx] at hcl;clear Yx hlast;have g0:=bG.cell 0;have gf:=bG.frozen 0;simp at g0;have hGl:=bG.lt;have hw1:IntKind.i64.wrap ((k:Int)+1)=(k:Int)+1:=IntWalk.i64_in _ (by omega);have hk1:(k:Int)+1-1=k:=by omega
   have hk2:IntKind.i64.wrap (k:Int)=k:=IntWalk.i64_in _ (by omega);have hk3:IntKind.i64.wrap ((off:Int)+S+p.length)=(off:Int)+S+p.length:=IntWalk.i64_in _ (by omega);have hk4:(k:Int)<(k:Int)+1:=by omega
   go_upto_block 1 with (fail)
   go_cut [] (fun wx=>∃(A5:Option Addr) (c5:Nat),aA wx (w.heap.size+1+1) 162 #[.slice A5 (k+1+1) c5]∧wx.ownsRow w.heap.size 3 1 (.slice A5 (k+1+1) c5) (k+1+1) (jE (qZ off ps (k+1)))∧Below w.heap.size w wx)
   case first=>
    go_wp2
    go_region_law ((refine dS _ (by rfl) _ _ 162 (by rfl) w.heap.size 3 i0 (.int .i64 0) 8 Io hi hz0 hz1 hz2 rfl (.slice (some ⟨gv,0,none⟩) (k+1) cap) (k+1) (jE (qZ off ps k)) (by rfl) (World.ownsRow.drew' (hown.alloc (.cells #[.int .i64 ((off:Int)+S+p.length)] 3))) (wr.alloc (.cells #[.int .i64 ((off:Int)+S+p.length)] 3)).heap.size (some ⟨wr.heap.size,0,none⟩) 1 1 [.int .i64 ((off:Int)+S+p.length)] (by rfl) (ku wr (.int .i64 ((off:Int)+S+p.length)) 3) (by simp[Value.oneCell']) (by unfold maxLen;omega) (by omega) (by have:=hB.size;simp;omega) ?_;intro v5 w5 hown5 bF _;obtain ⟨A5,c5,rfl,hs5,_⟩:=aP hown5;have uO:=(bG.alloc (.cells #[.int .i64 ((off:Int)+S+p.length)] 3)).drew.grown bF (fun e=>aF hown bG (by decide) e.symm);have q2:=uO.cell 0;have q3:=uO.frozen 0;simp at q2))
    all_goals
     have hG6:=uO.aC 0 (.slice A5 (k+1+1) c5);simp at hG6;have hown6:=aO (i:=0) hown5 uO (by decide) (.slice A5 (k+1+1) c5);have oD:=(((hB.alloc hB.size (.cells #[.int .i64 ((off:Int)+S+p.length)] 3)).drew).grown bF (by have:=hB.size;simp;omega) (fun g hg=>by have:=(hown.lt g hg).1;omega)).setCell (p:=⟨w.heap.size+1+1,0,none⟩) (by simp;omega) (.slice A5 (k+1+1) c5);go_wp2_with fail;go_meet;refine ⟨A5,c5,hG6,?_,oD⟩;rw[Yw.out];have e1:jE (qZ off ps k++ [off+(S+p.length)])=jE (qZ off ps k)++ [.int .i64 ((off:Int)+S+p.length)]:=by simp[jE];omega
     rw[e1];exact hown6
   case rest=>
    obtain ⟨A5,c5,hG6,hown6,oD⟩:=hcut;clear hw1 hk1 hk2 hk3 hk4;go_wp2
    go_roundw
    case rel=>exact ⟨k+1,_,by omega,by go_num,hG6,hown6,oD⟩
    case measure=>simp[intOf];omega
  ·have hkn:k=ps.length:=by rw[HL.out];omega
   rw[hkn] at hown;clear hkn;go_wp2;go_ret;exact ⟨_,_,rfl,by omega,bG,hown,hB⟩
end Go.Proofs.YtiecgfahidpldaaGreat
namespace Go.Proofs.YtiecgfahidpldaaGreat
open Go.RowKit Go.Shelf
attribute [local go_sem] Oper.semAt_some
def xC (off:Nat) (ps:List (List UInt8)) (k:Nat):Array Value:= #[.int .i64 ((off+au (ps.take k):Nat):Int),.int .i64 ((off+au (ps.take (k+1)):Nat):Int)]
set_option maxRecDepth 100000 in
set_option maxHeartbeats 2000000 in
theorem vV (n:Nat) (hn:1≤n) (g B:Nat) (v:Value) (off:Nat) (ps:List (List UInt8)) (_hoff:off≤1000000) (hsum:au ps≤1000000) (hlen:ps.length≤1000) (M:Nat→Obj→Prop) (w:World)
 (hg:aA w g 162 #[v]) (hv:w.ownsRow B 3 1 v (ps.length+1) (jE (qZ off ps ps.length))) (hMg:¬M g (.cells #[v] 162 (0,0))) (MZ:∀k o,v.ownBlock=some k→¬M k o):
 IQ Fence.wide n Tryz.prog 126 #[.pointer (some ⟨g,0,none⟩)] (xC off ps) ps.length (Kept M) w:=fun l J W hW _ hY h0=>by
 have hg':=hg.below hW hg.lt;have hv':W.ownsRow B 3 1 v (ps.length+1) (jE (qZ off ps ps.length)):=hv.kept (row:=none) ⟨hW.os,hW.tape,hW.output,hW.size,fun k hk _=>hW.block k hk⟩ (by
  rcases hb:v.ownBlock with _|k
  ·exact .inl rfl
  ·exact .inr (by simp))
 have hvk:∀wr,Kept M W wr→wr.ownsRow B 3 1 v (ps.length+1) (jE (qZ off ps ps.length)):=fun wr hk=>kH hv' hk (fun k o _ hk2=>MZ k o hk2)
 have UD:=Lib.hid hvk;clear hvk;obtain ⟨gv,cap,rfl,hgl,lN⟩:=hv'.form (by omega);have HY:=Lib.hid hY;clear hY;have hcap:ps.length+1≤cap∧cap≤9223372036854775807:=by
  have hs:=dZ hv';exact ⟨hs.cap,hs.mx⟩
 refine callsIn_of_wp Tryz.func126 rfl trivial ?_ rfl;simp only[Tryz.ntmps126,List.size_toArray,List.length_cons,List.length_nil,Nat.reduceAdd,Nat.reduceSub,Array.replicate_succ,Array.replicate_zero,List.push_toArray,List.append_toArray,List.nil_append,List.cons_append];have hcw:=hg'.cell 0;simp at hcw;refine ji ?_
 gi_wp2
 refine wpIn_label ?_
 gi_wp2
 gi_loopw [11] (fun i wr=>∃k:Nat,k≤ps.length∧i= .int .i64 k∧J k wr∧Kept M W wr) (fun i _=>ps.length-(intOf i).toNat)
 case atStart=>exact ⟨0,Nat.zero_le _,by simp,h0,Kept.refl _ _⟩
 case round=>
  obtain ⟨k,hk,rfl,hJs,hnx⟩:=hrel;by_cases hlt:k<ps.length
  ·have M0:=UD.out wr hnx;have hgr:=hg'.kept hnx hMg;have hc0:=hgr.cell 0;simp at hc0;have hck:=M0.cellAt k (by omega);have adN:=M0.cellAt (k+1) (by omega);have e0:=yI off ps ps.length k (by omega);have e1:=yI off ps ps.length (k+1) (by omega);have EF:=HY.out k wr hlt hJs;unfold xC at EF;have b0:au (ps.take k)≤1000000:=Nat.le_trans (cK ps k) hsum;have b1:au (ps.take (k+1))≤1000000:=Nat.le_trans (cK ps (k+1)) hsum;simp only[jE,List.getElem?_map,e0,e1,Option.map_some] at hck adN;generalize off+au (ps.take k)=a at*;generalize off+au (ps.take (k+1))=b at*;obtain ⟨fn,tmps,assign,body,hy,hR⟩:=EF;clear e0 e1 b0 b1 M0
   gi_wp2
   refine hR.mono ?_;rintro e W3 ⟨rfl,hJ3,hk3⟩
   gi_wp2
   go_roundw
   case rel=>exact ⟨k+1,by omega,by go_num,hJ3,hnx.trans hk3⟩
   case measure=>simp[intOf];omega
  ·have e:k=ps.length:=by omega
   have Dl:J ps.length wr:=by rw[e] at hJs;exact hJs
   clear e hJs
   gi_wp2
   rw[Exit.noGoto_normal]
   go_end0
   exact ⟨⟨_,rfl⟩,Dl⟩
end Go.Proofs.YtiecgfahidpldaaGreat
namespace Go.Proofs.YtiecgfahidpldaaGreat
section
open Go.RowKit Go.Shelf
attribute [local go_sem] Oper.semAt_some
def aN (w:World) (base:Nat) (vo:Value) (ps:List (List UInt8)):Prop:=
 ∃vs,w.ownsRow base 22 1 vo ps.length vs∧∀(i:Nat) (p:List UInt8),ps[i]? =some p→∃A c,vs[i]? =some (.slice A p.length c)∧w.ownsRow base 5 1 (.slice A p.length c) p.length (cu p)
def Nu (w:World) (er:Int) (en:Ending) (w':World):Prop:=
 en= .returned (.tuple #[.agg (aY 0 false false false 0 false false none 0 0),.int .i64 er])∧Below w.heap.size w w'
def Fj (w:World) (sn:Int) (gN:Bool) (fr:Int) (s e:Bool) (ps:List (List UInt8)) (en:Ending) (w':World):Prop:=
 Below w.heap.size w w'∧∃A c,en= .returned (.tuple #[.agg (aY sn false true gN fr s e A ps.length c),.int .i64 0])∧aN w' w.heap.size (.slice A ps.length c) ps
theorem aA.Ba {w:World} {g:Nat} {t:TypeId} {x0 x1 x2 x3 x4 x5 x6 x7:Value} (b:aA w g t #[x0,x1,x2,x3,x4,x5,x6,x7]) (u0 u1 u2 u3 u4 u5 u6 u7:Value):
 aA ((((((((w.setCell ⟨g,0,none⟩ u0).setCell ⟨g,1,none⟩ u1).setCell ⟨g,2,none⟩ u2).setCell ⟨g,3,none⟩ u3).setCell ⟨g,4,none⟩ u4).setCell ⟨g,5,none⟩ u5).setCell ⟨g,6,none⟩ u6).setCell ⟨g,7,none⟩ u7) g t #[u0,u1,u2,u3,u4,u5,u6,u7]:=by
 have:=(((((((b.aC 0 u0).aC 1 u1).aC 2 u2).aC 3 u3).aC 4 u4).aC 5 u5).aC 6 u6).aC 7 u7;simpa using this
theorem iG {B:Nat} {a w:World} (hb:Below B a w) {g:Nat} (hg:B≤g) (u0 u1 u2 u3 u4 u5 u6 u7:Value):
 Below B a ((((((((w.setCell ⟨g,0,none⟩ u0).setCell ⟨g,1,none⟩ u1).setCell ⟨g,2,none⟩ u2).setCell ⟨g,3,none⟩ u3).setCell ⟨g,4,none⟩ u4).setCell ⟨g,5,none⟩ u5).setCell ⟨g,6,none⟩ u6).setCell ⟨g,7,none⟩ u7):=
 (((((((hb.setCell (p:=⟨g,0,none⟩) hg u0).setCell (p:=⟨g,1,none⟩) hg u1).setCell (p:=⟨g,2,none⟩) hg u2).setCell (p:=⟨g,3,none⟩) hg u3).setCell (p:=⟨g,4,none⟩) hg u4).setCell (p:=⟨g,5,none⟩) hg u5).setCell (p:=⟨g,6,none⟩) hg u6).setCell (p:=⟨g,7,none⟩) hg u7
set_option maxRecDepth 100000 in
set_option maxHeartbeats 8000000 in
theorem IR (sn:Int) (po sg la:Bool) (off:Nat) (s e:Bool) (A:Option Addr) (n c:Nat) (vs:List Value) (ps:List (List UInt8)) (fr till:Int) (w:World) (h:gD w w.heap.size A n c vs ps)
 (hv:eP sn sg la off ps=true) (hoff:off≤32767) (hbad:fr<off∨till≤fr∨(off:Int)+au ps<till):
 Calls Tryz.prog 25 #[.agg (aY sn po sg la off s e A n c),.int .i64 fr,.int .i64 till] w (Nu w 6):=by
 refine (callsIn_wide (n:=5)).1 ?_;have hva:=(iF sn sg la off ps).1 hv;obtain ⟨hlo,hhi,hpos,hshort,hsum⟩:=(fK ps).1 hva.vp;have hlen:=h.len;have qY:∀p∈ps,p.length≤1099511627776:=fun p hp=>by have:=fJ hp;omega
 have hB:=((((Below.refl w.heap.size w).alloc (Nat.le_refl _) (.cells (aY sn po sg la off s e A n c) 72)).alloc (by simp) (.cells #[.int .i64 fr] 3)).alloc (by simp;omega) (.cells #[.int .i64 till] 3)).alloc (by simp;omega) (.cells (aY 0 false false false 0 false false none 0 0) 72);have hA:=(h.below hB).more hB.size;have Nl:=oP sn po sg la off s e A n c vs ps _ hA (by omega) qY;rw[hv] at Nl;have b0:=(((aA.new w 72 (aY sn po sg la off s e A n c)).alloc (.cells #[.int .i64 fr] 3)).alloc (.cells #[.int .i64 till] 3)).alloc (.cells (aY 0 false false false 0 false false none 0 0) 72);have b1:=((aA.new (w.alloc (.cells (aY sn po sg la off s e A n c) 72)) 3 #[.int .i64 fr]).alloc (.cells #[.int .i64 till] 3)).alloc (.cells (aY 0 false false false 0 false false none 0 0) 72);have b2:=(aA.new ((w.alloc (.cells (aY sn po sg la off s e A n c) 72)).alloc (.cells #[.int .i64 fr] 3)) 3 #[.int .i64 till]).alloc (.cells (aY 0 false false false 0 false false none 0 0) 72);have b3:=aA.new (((w.alloc (.cells (aY sn po sg la off s e A n c) 72)).alloc (.cells #[.int .i64 fr] 3)).alloc (.cells #[.int .i64 till] 3)) 72 (aY 0 false false false 0 false false none 0 0);simp only[World.size_alloc] at b1 b2 b3;have HB:=Lib.hid hB;have HV:=Lib.hid Nl;have E4:=Lib.hid qY;have iM:=Lib.hid hlen;clear hB Nl qY hv hva hpos hshort hlen;unfold aY at*;refine callsIn_of_wp_marks Tryz.func25 rfl trivial ?_ rfl
 simp only[Tryz.ntmps25,List.size_toArray,List.length_cons,List.length_nil,Nat.reduceAdd,Nat.reduceSub,Array.replicate_succ,Array.replicate_zero,List.push_toArray,List.append_toArray,List.nil_append,List.cons_append];refine wpIn_wide.2 ?_;go_wp2_with fail;generalize (((w.alloc (.cells #[.int .i64 sn,.bool po,.bool sg,.bool la,.int .i64 off,.bool s,.bool e,.slice A n c] 72)).alloc (.cells #[.int .i64 fr] 3)).alloc (.cells #[.int .i64 till] 3)).alloc (.cells #[.int .i64 0,.bool false,.bool false,.bool false,.int .i64 0,.bool false,.bool false,.slice none 0 0] 72)=w0 at*;refine HV.out.mono ?_;rintro e1 w1 ⟨rfl,hb1⟩
 replace b0:=b0.below hb1 b0.lt
 replace b1:=b1.below hb1 b1.lt
 replace b2:=b2.below hb1 b2.lt
 replace b3:=b3.below hb1 b3.lt
 have hA1:=(hA.below hb1).more hb1.size;have hB1:=HB.out.trans (hb1.mono HB.out.size);obtain ⟨x0,x1,x2,x3,x4,x5,x6,x7⟩:=b0.eight;clear hA hb1 HV HB;have hsz:=nL s e A n c vs ps w1.drew hA1.drew' (by have:=iM.out;omega) E4.out;have HZ:=Lib.hid hsz;clear hsz E4;generalize au ps=S at*;have hbl:w.heap.size<w1.drew.heap.size:=b0.lt;have hwrap:IntKind.i64.wrap ((off:Int)+S)=(off:Int)+S:=IntWalk.i64_in _ (by omega);go_wp2_with fail
 go_region_held3 (fun w'=>w'.cell? ⟨w.heap.size,4,none⟩=some (.int .i64 off)∧w'.cell? ⟨w.heap.size,5,none⟩=some (.bool s)∧w'.cell? ⟨w.heap.size,6,none⟩=some (.bool e)∧w'.cell? ⟨w.heap.size,7,none⟩=some (.slice A n c))
  (first|(refine ⟨(hb2.cell (p:=⟨w.heap.size,4,none⟩) hbl).trans x4,(hb2.cell (p:=⟨w.heap.size,5,none⟩) hbl).trans x5,(hb2.cell (p:=⟨w.heap.size,6,none⟩) hbl).trans x6,(hb2.cell (p:=⟨w.heap.size,7,none⟩) hbl).trans x7⟩)|go_keep)
  ((go_at_call 72;refine HZ.out.mono ?_;rintro e2 w2 ⟨rfl,hb2⟩))
 clear hwrap
 replace b0:=b0.drew.below hb2 b0.lt
 replace b1:=b1.drew.below hb2 b1.lt
 replace b2:=b2.drew.below hb2 b2.lt
 replace b3:=b3.drew.below hb2 b3.lt
 have hB2:=(hB1.drew).trans (hb2.mono (by have:=hB1.size;simpa using this));clear x0 x1 x2 x3 x4 x5 x6 x7 hB1 hA1 HZ hb2;obtain ⟨x0,x1,x2,x3,x4,x5,x6,x7⟩:=b0.eight;have y1:=b1.cell 0;have y2:=b2.cell 0;simp at y1 y2;obtain ⟨z0,z1,z2,z3,z4,z5,z6,z7⟩:=b3.eight;have f0:=b3.frozen 0;have f1:=b3.frozen 1;have f2:=b3.frozen 2;have f3:=b3.frozen 3;have f4:=b3.frozen 4;have f5:=b3.frozen 5;have f6:=b3.frozen 6;have f7:=b3.frozen 7;obtain ⟨q0,q1,q2,q3,q4,q5,q6,q7⟩:=(b3.Ba (.int .i64 0) (.bool false) (.bool false) (.bool false) (.int .i64 0) (.bool false) (.bool false) (.slice none 0 0)).eight;have HQ:=Lib.hid (And.intro q0 (And.intro q1 (And.intro q2 (And.intro q3 (And.intro q4 (And.intro q5 (And.intro q6 q7)))))));clear q0 q1 q2 q3 q4 q5 q6 q7;have hcase:fr<off∨(¬fr<off∧till≤fr)∨(¬fr<off∧¬till≤fr∧(off:Int)+S<till):=by omega
 clear hbad;rcases hcase with h1|⟨h1,h2⟩|⟨h1,h2,h3⟩
 all_goals
  go_wp2;obtain ⟨q0,q1,q2,q3,q4,q5,q6,q7⟩:=HQ.out;exact ⟨.tuple #[.agg #[.int .i64 0,.bool false,.bool false,.bool false,.int .i64 0,.bool false,.bool false,.slice none 0 0],.int .i64 6],by simp[results,Tryz.results25,go_sem,q0,q1,q2,q3,q4,q5,q6,q7],rfl,iG hB2 (by omega) _ _ _ _ _ _ _ _⟩
end
end Go.Proofs.YtiecgfahidpldaaGreat
