/- ampdu.Valid: conditions that are closures, all of them. ampdu.Encode. A range over a function whose elements are known by their number: the round's body may use which element it is given. A region that draws its order, within a round of a range over a function: it may be walked as outside of one. ampdu.Bounds: the iterator over the bounds of the parts. ampdu.Bounds: what the iterator gives. ampdu.Cut. -/
import Derived.Test.YtbhiklnljiehiaaGreatM0ab
import Derived.Test.YtbhiklnljiehiaaGreatM0ac
import Derived.Test.YtbhiklnljiehiaaGreatM0ad
import Derived.Test.YtbhiklnljiehiaaGreatM0ae
import Derived.Test.YtbhiklnljiehiaaGreatM0ag
import Derived.Deep.DeepCutAuto
import Derived.Deep.RegionHeld3
import Derived.Deep.CutBlock
namespace Go.Proofs.YtbhiklnljiehiaaGreat
open Go.RowKit
set_option maxHeartbeats 400000 in
theorem zX (b:Nat) (jC:List Value) (bs:List Bool) (Inv:World→Prop) (w:World) (hlen:bs.length=jC.length) (hsm:jC.length≤1000) (hI:∀W,Inv W→au W b 26 jC.toArray)
 (hcall:∀(i:Nat) (fv:Value) (x:Bool) (W:World),jC[i]? =some fv→bs[i]? =some x→(∀y∈bs.take i,y=true)→Inv W→Calls Tryz.prog 210 #[fv] W fun e W'=>e= .returned (.bool (!x))∧Inv W')
 (h0:Inv w):Calls Tryz.prog 221 #[.slice (some ⟨b,0,none⟩) jC.length jC.length,.func (.func 210) #[] #[]] w (AY bs Inv):=by
 have HC:=Lib.hid hcall;have HI:=Lib.hid hI;have HL:=Lib.hid hlen;clear hcall hI hlen;obtain ⟨N,hN⟩:∃N,N=jC.length:=⟨_,rfl⟩
 rw[←hN] at hsm ⊢;have HN:=Lib.hid hN;clear hN;go_enter Tryz.func221,Tryz.ntmps221;go_wp2
 go_loopw [8] (fun i wr=>∃k:Nat,k≤N∧i= .int .i64 k∧(∀y∈bs.take k,y=true)∧Inv wr) (fun i _=>N-(intOf i).toNat)
 case atStart=>exact ⟨0,Nat.zero_le _,rfl,by simp,h0⟩
 case round=>
  clear h0;obtain ⟨k,hk,rfl,hall,hinv⟩:=hrel;have HA:=Lib.hid hall;clear hall;by_cases hlt:k<N
  ·obtain ⟨fv,gP⟩:∃fv,jC[k]? =some fv:=⟨_,List.getElem?_eq_getElem (by rw[←HN.out];exact hlt)⟩
   obtain ⟨x,hx⟩:∃x,bs[k]? =some x:=⟨_,List.getElem?_eq_getElem (by rw[HL.out,←HN.out];exact hlt)⟩
   have hcl:=HC.out k fv x wr gP hx HA.out hinv;have hcell:=(HI.out wr hinv).cell k;rw[List.getElem?_toArray,gP] at hcell;have qP:=Lib.hid hcl;have HX:=Lib.hid hx;clear hcl gP hx;cases x with
   |true=>
    go_wp2_with (go_at_call 210;refine qP.out.mono ?_;rintro e w' ⟨rfl,hi'⟩)
    go_roundw
    case rel=>exact ⟨k+1,by omega,by go_num,by
     intro y hy;rw[List.take_add_one,HX.out,List.mem_append] at hy;rcases hy with hy|hy
     ·exact HA.out y hy
     ·simpa using hy,hi'⟩
    case measure=>simp[intOf];omega
   |false=>
    go_wp2_with (go_at_call 210;refine qP.out.mono ?_;rintro e w' ⟨rfl,hi'⟩);go_ret;refine ⟨.inl ⟨k,rfl,?_⟩,hi'⟩;rw[List.all_eq_false];exact ⟨false,List.mem_of_getElem? HX.out,by simp⟩
  ·have e:bs.take k=bs:=List.take_of_length_le (by rw[HL.out,←HN.out];omega);have hA:=HA.out;rw[e] at hA;have wK:=Lib.hid hA;clear hA e;go_wp2;go_ret;exact ⟨.inr ⟨rfl,by rw[List.all_eq_true];exact wK.out⟩,hinv⟩
theorem uO (b:Nat) (jC:List Value) (bs:List Bool) (Inv:World→Prop) (w:World)
 (h:Calls Tryz.prog 221 #[.slice (some ⟨b,0,none⟩) jC.length jC.length,.func (.func 210) #[] #[]] w (AY bs Inv)):
 Calls Tryz.prog 206 #[.slice (some ⟨b,0,none⟩) jC.length jC.length,.func (.func 210) #[] #[]] w fun e w'=>e= .returned (.bool (!bs.all id))∧Inv w':=by
 have H:=Lib.hid h;clear h;go_enter Tryz.func206,Tryz.ntmps206;go_wp2_with fail;refine H.out.mono ?_;rintro e w' ⟨⟨k,rfl,ha⟩|⟨rfl,ha⟩,hi⟩
 ·have HA:=Lib.hid ha;clear ha;go_wp2;go_ret;exact ⟨bu (by rw[HA.out];rfl),hi⟩
 ·have HA:=Lib.hid ha;clear ha;go_wp2;go_ret;exact ⟨bu (by rw[HA.out];rfl),hi⟩
theorem Mb (b:Nat) (jC:List Value) (bs:List Bool) (Inv:World→Prop) (w:World)
 (h:Calls Tryz.prog 206 #[.slice (some ⟨b,0,none⟩) jC.length jC.length,.func (.func 210) #[] #[]] w fun e w'=>e= .returned (.bool (!bs.all id))∧Inv w'):
 Calls Tryz.prog 192 #[.slice (some ⟨b,0,none⟩) jC.length jC.length] w fun e w'=>e= .returned (.bool (bs.all id))∧Inv w':=by
 have H:=Lib.hid h;clear h;go_enter Tryz.func192,Tryz.ntmps192;go_wp2_with fail;refine H.out.mono ?_;rintro e w' ⟨rfl,hi⟩;go_wp2;go_ret;exact ⟨bu (by simp),hi⟩
def bq (sn:Int) (po sg la:Bool) (off:Int) (s e:Bool) (A:Option Addr) (n c:Nat):Array Value:= #[.int .i64 sn,.bool po,.bool sg,.bool la,.int .i64 off,.bool s,.bool e,.slice A n c]
def mg (sn:Int) (sg la:Bool) (off:Int) (ps:List (List UInt8)):List Bool:=
 [decide (0≤sn∧sn<1024),l7 ps,if sg then decide (0≤off∧off≤32767-(ah ps:Int)) else !la&&decide (off=0)]
def gK (sn:Int) (sg la:Bool) (off:Int) (ps:List (List UInt8)):Bool:=(mg sn sg la off ps).all id
theorem au.eight {w:World} {g:Nat} {t:TypeId} {x0 x1 x2 x3 x4 x5 x6 x7:Value} (b:au w g t #[x0,x1,x2,x3,x4,x5,x6,x7]):
 w.cell? ⟨g,0,none⟩=some x0∧w.cell? ⟨g,1,none⟩=some x1∧w.cell? ⟨g,2,none⟩=some x2∧w.cell? ⟨g,3,none⟩=some x3∧w.cell? ⟨g,4,none⟩=some x4∧w.cell? ⟨g,5,none⟩=some x5∧w.cell? ⟨g,6,none⟩=some x6∧w.cell? ⟨g,7,none⟩=some x7:=
 ⟨b.cell 0,b.cell 1,b.cell 2,b.cell 3,b.cell 4,b.cell 5,b.cell 6,b.cell 7⟩
section
variable (bp:Nat) (sn:Int) (po sg la:Bool) (off:Int) (s e:Bool) (A:Option Addr) (n c:Nat) (vs:List Value) (ps:List (List UInt8)) (w:World)
theorem Tz (hb:au w bp 148 (bq sn po sg la off s e A n c)):
 Calls Tryz.prog 190 #[.pointer (some ⟨bp,0,none⟩)] w fun e w'=>e= .returned (.bool (!la&&decide (off=0)))∧w=w':=by
 obtain ⟨x0,x1,x2,x3,x4,x5,x6,x7⟩:=hb.eight;have hd:(off==0)=decide (off=0):=by rw[Bool.eq_iff_iff];simp
 generalize decide (off=0)=d at*;cases la with
 |false=>
  go_enter Tryz.func190,Tryz.ntmps190;go_wp2;go_ret;exact ⟨rfl,rfl⟩
 |true=>
  go_enter Tryz.func190,Tryz.ntmps190;go_wp2;go_ret;exact ⟨rfl,rfl⟩
theorem TA (hb:au w bp 148 (bq sn po sg la off s e A n c)):
 Calls Tryz.prog 193 #[.pointer (some ⟨bp,0,none⟩)] w fun e w'=>e= .returned (.bool (decide (0≤sn∧sn<1024)))∧w=w':=by
 obtain ⟨x0,x1,x2,x3,x4,x5,x6,x7⟩:=hb.eight;by_cases h0:0≤sn
 ·by_cases h1:sn<1024
  ·rw[decide_eq_true (p:=0≤sn∧sn<1024) ⟨h0,h1⟩];go_enter Tryz.func193,Tryz.ntmps193;go_wp2;go_ret;exact ⟨rfl,rfl⟩
  ·rw[decide_eq_false (p:=0≤sn∧sn<1024) (by omega)];go_enter Tryz.func193,Tryz.ntmps193;go_wp2;go_ret;exact ⟨rfl,rfl⟩
 ·rw[decide_eq_false (p:=0≤sn∧sn<1024) (by omega)];go_enter Tryz.func193,Tryz.ntmps193;go_wp2;go_ret;exact ⟨rfl,rfl⟩
theorem TB (h:jg w w.heap.size A n c vs ps) (hn:n≤1048576) (hle:∀p∈ps,p.length≤1099511627776) (hb:au w bp 148 (bq sn po sg la off s e A n c)):
 Calls Tryz.prog 194 #[.pointer (some ⟨bp,0,none⟩)] w fun e w'=>e= .returned (.bool (l7 ps))∧Below w.heap.size w w':=by
 obtain ⟨x0,x1,x2,x3,x4,x5,x6,x7⟩:=hb.eight;have hv:=JF s e A n c vs ps w h hn hle;have HV:=Lib.hid hv;clear hv hle;generalize l7 ps=r at*;go_enter Tryz.func194,Tryz.ntmps194;go_wp2_with (go_at_call 195;refine HV.out.mono ?_;rintro e w' ⟨rfl,hb⟩);go_ret;exact ⟨rfl,hb⟩
set_option maxRecDepth 100000 in
set_option maxHeartbeats 800000 in
theorem TC (h:jg w w.heap.size A n c vs ps) (hn:n≤1048576) (hle:∀p∈ps,p.length≤1099511627776) (hb:au w bp 148 (bq sn po sg la off s e A n c)):
 Calls Tryz.prog 191 #[.pointer (some ⟨bp,0,none⟩)] w fun e w'=>e= .returned (.bool (decide (0≤off∧off≤32767-(ah ps:Int))))∧Below w.heap.size w w':=by
 obtain ⟨x0,x1,x2,x3,x4,x5,x6,x7⟩:=hb.eight;by_cases h0:0≤off
 ·have hsz:=pz s e A n c vs ps w.drew h.drew' hn hle;have hsum:ah ps≤1152921504606846976:=by
   have:=CF ps _ hle;have h2:=h.len;have:1099511627776*ps.length≤1099511627776*1048576:=Nat.mul_le_mul_left _ (by omega);omega
  have HZ:=Lib.hid hsz;clear hsz hle;generalize ah ps=S at*;have hd0:decide (0≤off)=true:=by simpa using h0
  have hdd:decide (0≤off∧off≤32767-(S:Int))=decide (off≤32767-(S:Int)):=by simp[h0]
  rw[hdd];clear hdd;go_enter Tryz.func191,Tryz.ntmps191;go_wp2;have hbp:bp<w.drew.heap.size:=hb.lt
  go_region_held3 (fun w'=>w'.cell? ⟨bp,4,none⟩=some (.int .i64 off)∧w'.cell? ⟨bp,5,none⟩=some (.bool s)∧w'.cell? ⟨bp,6,none⟩=some (.bool e)∧w'.cell? ⟨bp,7,none⟩=some (.slice A n c))
   (first|(refine ⟨(hb1.cell (p:=⟨bp,4,none⟩) hbp).trans x4,(hb1.cell (p:=⟨bp,5,none⟩) hbp).trans x5,(hb1.cell (p:=⟨bp,6,none⟩) hbp).trans x6,(hb1.cell (p:=⟨bp,7,none⟩) hbp).trans x7⟩)|go_keep)
   ((go_at_call 88;refine HZ.out.mono ?_;rintro e1 w1 ⟨rfl,hb1⟩))
  go_wp2;go_ret;refine ⟨bu ?_,((Below.refl w.heap.size w).drew).trans hb1⟩;rw[IntWalk.i64_in _ (by omega)]
 ·rw[decide_eq_false (p:=0≤off∧off≤32767-(ah ps:Int)) (by omega)];have hd0:decide (0≤off)=false:=by simpa using h0
  clear hle h;go_enter Tryz.func191,Tryz.ntmps191;go_wp2
  go_quiet (fail)
  go_wp2;go_ret;exact ⟨rfl,(Below.refl _ w).drewN _⟩
theorem CJ (DT:Nat) (x:Bool) (hf:DT=190∨DT=191∨DT=193∨DT=194) (h:Calls Tryz.prog DT #[.pointer (some ⟨bp,0,none⟩)] w fun e w'=>e= .returned (.bool x)∧Below w.heap.size w w'):
 Calls Tryz.prog 210 #[.func (.func DT) #[] #[.pointer (some ⟨bp,0,none⟩)]] w fun e w'=>e= .returned (.bool (!x))∧Below w.heap.size w w':=by
 have H:=Lib.hid h;clear h;rcases hf with rfl|rfl|rfl|rfl
 ·go_enter Tryz.func210,Tryz.ntmps210;go_wp2_with (go_at_call 190;refine H.out.mono ?_;rintro e w' ⟨rfl,hb⟩);go_ret;exact ⟨rfl,hb⟩
 ·go_enter Tryz.func210,Tryz.ntmps210;go_wp2_with (go_at_call 191;refine H.out.mono ?_;rintro e w' ⟨rfl,hb⟩);go_ret;exact ⟨rfl,hb⟩
 ·go_enter Tryz.func210,Tryz.ntmps210;go_wp2_with (go_at_call 193;refine H.out.mono ?_;rintro e w' ⟨rfl,hb⟩);go_ret;exact ⟨rfl,hb⟩
 ·go_enter Tryz.func210,Tryz.ntmps210;go_wp2_with (go_at_call 194;refine H.out.mono ?_;rintro e w' ⟨rfl,hb⟩);go_ret;exact ⟨rfl,hb⟩
theorem GL (b:Nat) (h:jg w w.heap.size A n c vs ps) (hn:n≤1048576) (hle:∀p∈ps,p.length≤1099511627776) (hbp:au w bp 148 (bq sn po sg la off s e A n c)) (f3:Nat) (hf3:f3=if sg then 191 else 190)
 (hb:au w b 26 #[.func (.func 193) #[] #[.pointer (some ⟨bp,0,none⟩)],.func (.func 194) #[] #[.pointer (some ⟨bp,0,none⟩)],.func (.func f3) #[] #[.pointer (some ⟨bp,0,none⟩)]]):
 Calls Tryz.prog 192 #[.slice (some ⟨b,0,none⟩) 3 3] w fun e w'=>e= .returned (.bool (gK sn sg la off ps))∧Below w.heap.size w w':=by
 refine Mb b [.func (.func 193) #[] #[.pointer (some ⟨bp,0,none⟩)],.func (.func 194) #[] #[.pointer (some ⟨bp,0,none⟩)],.func (.func f3) #[] #[.pointer (some ⟨bp,0,none⟩)]] (mg sn sg la off ps) (fun W=>Below w.heap.size w W) w ?_;refine uO b _ (mg sn sg la off ps) (fun W=>Below w.heap.size w W) w ?_;refine zX b _ (mg sn sg la off ps) (fun W=>Below w.heap.size w W) w rfl (by simp) (fun W hW=>hb.below hW hb.lt) ?_ (Below.refl _ _);intro i fv x W gP hx hpre hW;have hS:=(h.below hW).more hW.size;have hbW:=hbp.below hW hbp.lt;have key:Calls Tryz.prog 210 #[fv] W fun e W'=>e= .returned (.bool (!x))∧Below W.heap.size W W':=by
  match i,gP,hx,hpre with
  |0,gP,hx,_=>
   simp only[mg,List.getElem?_cons_zero,Option.some.injEq] at gP hx;subst gP hx;exact CJ bp W 193 _ (by omega) ((TA bp sn po sg la off s e A n c W hbW).mono fun e W' hh=>⟨hh.1,by rw[←hh.2];exact Below.refl _ _⟩)
  |1,gP,hx,_=>
   simp only[mg,List.getElem?_cons_zero,List.getElem?_cons_succ,Option.some.injEq] at gP hx;subst gP hx;exact CJ bp W 194 _ (by omega) (TB bp sn po sg la off s e A n c vs ps W hS hn hle hbW)
  |2,gP,hx,_=>
   simp only[mg,List.getElem?_cons_zero,List.getElem?_cons_succ,Option.some.injEq] at gP hx;subst gP hx;cases sg with
   |true=>
    simp only[if_true] at hf3 ⊢;subst hf3;exact CJ bp W 191 _ (by omega) (TC bp sn po true la off s e A n c vs ps W hS hn hle hbW)
   |false=>
    simp only[Bool.false_eq_true,if_false] at hf3 ⊢;subst hf3;exact CJ bp W 190 _ (by omega) ((Tz bp sn po false la off s e A n c W hbW).mono fun e W' hh=>⟨hh.1,by rw[←hh.2];exact Below.refl _ _⟩)
  |i+3,gP,_,_=>simp at gP
 exact key.mono fun e W' hh=>⟨hh.1,hW.trans (hh.2.mono hW.size)⟩
set_option maxHeartbeats 800000 in
theorem rq (h:jg w w.heap.size A n c vs ps) (hn:n≤1048576) (hle:∀p∈ps,p.length≤1099511627776):
 Calls Tryz.prog 152 #[.agg (bq sn po sg la off s e A n c)] w (Tn (gK sn sg la off ps) w):=by
 have S7:=Lib.hid hle;clear hle;obtain ⟨f3,hf3⟩:∃f3,f3=if sg then 191 else 190:=⟨_,rfl⟩
 have hB:=(((Below.refl w.heap.size w).alloc (Nat.le_refl _) (.cells (bq sn po sg la off s e A n c) 148))).alloc (by simp) (.cells #[.func (.func 193) #[] #[.pointer (some ⟨w.heap.size,0,none⟩)],.func (.func 194) #[] #[.pointer (some ⟨w.heap.size,0,none⟩)],.func (.func f3) #[] #[.pointer (some ⟨w.heap.size,0,none⟩)]] 26);have b0:=(au.new w 148 (bq sn po sg la off s e A n c)).alloc (.cells #[.func (.func 193) #[] #[.pointer (some ⟨w.heap.size,0,none⟩)],.func (.func 194) #[] #[.pointer (some ⟨w.heap.size,0,none⟩)],.func (.func f3) #[] #[.pointer (some ⟨w.heap.size,0,none⟩)]] 26);have b1:=au.new (w.alloc (.cells (bq sn po sg la off s e A n c) 148)) 26 #[.func (.func 193) #[] #[.pointer (some ⟨w.heap.size,0,none⟩)],.func (.func 194) #[] #[.pointer (some ⟨w.heap.size,0,none⟩)],.func (.func f3) #[] #[.pointer (some ⟨w.heap.size,0,none⟩)]];simp only[World.size_alloc] at b1;have hall:=GL w.heap.size sn po sg la off s e A n c vs ps _ (w.heap.size+1) ((h.below hB).more hB.size) hn S7.out b0 f3 hf3 b1;have oK:=Lib.hid hall;have HB:=Lib.hid hB;clear hall b0 b1 hB;generalize gK sn sg la off ps=r at*;unfold bq at*;cases sg with
 |true=>
  simp only[if_true] at hf3;subst hf3;go_enter Tryz.func152,Tryz.ntmps152;go_wp2_with (go_at_call 192;refine oK.out.mono ?_;rintro e w' ⟨rfl,hb⟩);go_ret;exact ⟨rfl,HB.out.trans (hb.mono HB.out.size)⟩
 |false=>
  simp only[Bool.false_eq_true,if_false] at hf3;subst hf3;go_enter Tryz.func152,Tryz.ntmps152;go_wp2_with (go_at_call 192;refine oK.out.mono ?_;rintro e w' ⟨rfl,hb⟩);go_ret;exact ⟨rfl,HB.out.trans (hb.mono HB.out.size)⟩
end
end Go.Proofs.YtbhiklnljiehiaaGreat
namespace Go.Proofs.YtbhiklnljiehiaaGreat
open Go.RowKit
theorem Eu (b:Bool) (w:World):Calls Tryz.prog 171 #[.bool b] w fun e w'=>e= .returned (.int .u64 b.toNat)∧w=w':=by
 cases b
 ·go_enter Tryz.func171,Tryz.ntmps171;go_wp2;go_ret;exact ⟨rfl,rfl⟩
 ·go_enter Tryz.func171,Tryz.ntmps171;go_wp2;go_ret;exact ⟨rfl,rfl⟩
theorem jM (b:Bool) (w:World):Calls Tryz.prog 171 #[.bool b] w fun e w'=>e= .returned (.int .u64 b.toNat)∧w'=w:=(Eu b w).mono fun _ _ h=>⟨h.1,h.2.symm⟩
def iC (po sg:Bool):List (Nat × Nat):= [(1,1),(sg.toNat,1),(po.toNat,1)]
def jV (sn:Nat) (s e:Bool) (n:Nat):List (Nat × Nat):= [((!s).toNat,1),((!e).toNat,1),((decide (1<n)).toNat,1),(sn,10)]
def lT (la:Bool) (off:Nat):List (Nat × Nat):= [(la.toNat,1),(off,15)]
def mh (sn:Nat) (po sg la:Bool) (off:Nat) (s e:Bool) (n:Nat):List Bool:=aG (iC po sg)++aG (jV sn s e n)++(if sg then aG (lT la off) else [])
theorem zY (sn:Nat) (po sg la:Bool) (off:Nat) (s e:Bool) (n:Nat):(mh sn po sg la off s e n).length=if sg then 32 else 16:=by
 cases sg<;>simp[mh,aG,iC,jV,lT]
theorem ru {B g k:Nat} {cs:Array Value} {t:TypeId} (ht:t≠5) (hk:k≠g):¬Mw B g k (.cells cs t (0,0)):=by
 rintro ⟨_,e|⟨cs',fr,e⟩⟩
 ·exact hk e
 ·cases e;exact ht rfl
theorem nJ.lt {w:World} {B g:Nat} {l:List Bool} (h:nJ w B g l):g<w.heap.size:=by obtain ⟨_,v,hb,_⟩:=h;exact hb.lt
def wo (sn:Nat) (po sg la:Bool) (off:Nat) (s e:Bool) (ps:List (List UInt8)):List UInt8:=pack (mh sn po sg la off s e ps.length++dI ps (ps.length-1))++ps.flatten
theorem xX (b:Bool):b.toNat≤1:=by cases b<;>simp
theorem GM (b:Bool):(1:Nat)≤64∧b.toNat<2 ^ 1∧b.toNat<18446744073709551616:=⟨by omega,by have:=xX b;omega,by have:=xX b;omega⟩
structure Ps (sn:Int) (sg la:Bool) (off:Int) (ps:List (List UInt8)):Prop where
 sn0:0≤sn
 sn1:sn<1024
 vp:l7 ps=true
 seg:sg=true→0≤off∧off≤32767-(ah ps:Int)
 whole:sg=false→la=false∧off=0
theorem rz (sn:Int) (sg la:Bool) (off:Int) (ps:List (List UInt8)):gK sn sg la off ps=true↔Ps sn sg la off ps:=by
 unfold gK mg;simp only[List.all_cons,List.all_nil,Bool.and_true,id,Bool.and_eq_true,decide_eq_true_eq];constructor
 ·rintro ⟨⟨h1,h2⟩,h3,h4⟩;refine ⟨h1,h2,h3,fun hs=> ?_,fun hs=> ?_⟩
  ·subst hs;simpa using h4
  ·subst hs;simpa using h4
 ·rintro ⟨h1,h2,h3,h4,h5⟩;refine ⟨⟨h1,h2⟩,h3,?_⟩;cases sg with
  |true=>simpa using h4 rfl
  |false=>simpa using h5 rfl
set_option maxRecDepth 100000 in
set_option maxHeartbeats 4000000 in
theorem xY (sn:Nat) (po sg la:Bool) (off:Nat) (s e:Bool) (A:Option Addr) (n c:Nat) (vs:List Value) (ps:List (List UInt8)) (w:World) (h:jg w w.heap.size A n c vs ps) (hv:gK sn sg la off ps=true) (hoff:off≤32767):
 Calls Tryz.prog 132 #[.agg (bq sn po sg la off s e A n c)] w (pF w.heap.size 5 w (wo sn po sg la off s e ps).length (bV (wo sn po sg la off s e ps)) 0):=by
 have hva:=(rz sn sg la off ps).1 hv;obtain ⟨hlo,hhi,hpos,hshort,hsum⟩:=(nN ps).1 hva.vp;have hsn:sn≤1023:=by have:=hva.sn1;omega
 have hlen:=h.len;have wu:∀p∈ps,p.length≤1099511627776:=fun p hp=>by have:=gJ hp;omega
 have hB:=(Below.refl w.heap.size w).alloc (Nat.le_refl _) (.cells (bq sn po sg la off s e A n c) 148);have TD:=rq sn po sg la off s e A n c vs ps _ ((h.below hB).more hB.size) (by omega) wu;rw[hv] at TD;have HB:=Lib.hid hB;have HV:=Lib.hid TD;have HL:=Lib.hid hlen;have HS:=Lib.hid hshort;have CK:=Lib.hid hsum;have bx:=au.new w 148 (bq sn po sg la off s e A n c);clear hB TD hv hlen hpos hshort wu hva hsum;unfold bq at*;go_enter Tryz.func132,Tryz.ntmps132;go_wp2_with fail;refine HV.out.mono ?_;rintro e1 w1 ⟨rfl,hb1⟩;have hbw:Below w.heap.size w w1:=HB.out.trans (hb1.mono HB.out.size)
 replace bx:=bx.below hb1 bx.lt
 have hlt1:=bx.lt;clear HV hb1 HB;have hW2:nJ (w1.alloc (.cells #[.slice none 0 0,.int .i64 0] 202)) w1.heap.size w1.heap.size []:=⟨Nat.le_refl _,_,au.new w1 _ _,World.ownsRow_nil _ _ _ _⟩;have hbw2:=hbw.alloc hbw.size (.cells #[.slice none 0 0,.int .i64 0] 202);have hg2:w1.heap.size+1=(w1.alloc (.cells #[.slice none 0 0,.int .i64 0] 202)).heap.size:=by simp
 replace bx:=bx.alloc (.cells #[.slice none 0 0,.int .i64 0] 202)
 go_wp2_with fail;generalize w1.alloc (.cells #[.slice none 0 0,.int .i64 0] 202)=w2 at*;generalize w1.heap.size=g at*;clear hbw;obtain ⟨x0,x1,x2,x3,x4,x5,x6,x7⟩:=bx.eight;have x5':w2.drew.cell? ⟨w.heap.size,5,none⟩=some (.bool s):=x5;have x6':w2.drew.cell? ⟨w.heap.size,6,none⟩=some (.bool e):=x6;have x7':w2.drew.cell? ⟨w.heap.size,7,none⟩=some (.slice A n c):=x7;have hwl:w.heap.size<w2.heap.size:=bx.lt
 go_region
 go_wp2;have b5:=(au.new w2 145 #[.bool s,.bool e,.slice A n c]).drew
 replace bx:=(bx.alloc (.cells #[.bool s,.bool e,.slice A n c] 145)).drew
 replace hW2:nJ (w2.alloc (.cells #[.bool s,.bool e,.slice A n c] 145)).drew g g []:=hW2.alloc _
 have Mc:=(hbw2.alloc hbw2.size (.cells #[.bool s,.bool e,.slice A n c] 145)).drew;generalize (w2.alloc (.cells #[.bool s,.bool e,.slice A n c] 145)).drew=w3 at*;rw[←hg2] at b5 ⊢;clear x0 x1 x2 x3 x4 x5 x6 x7 x5' x6' x7' hbw2 hwl hg2;obtain ⟨x0,x1,x2,x3,x4,x5,x6,x7⟩:=bx.eight;refine wp_region_still_tail 9 (by kernel_rfl) (by kernel_rfl) ?_;simp only[List.take_succ_cons,List.take_zero,List.drop_succ_cons,List.drop_zero]
 still_step
 still_step
 still_step
 still_call (jM _ _)
 still_step
 still_step
 still_step
 still_call (jM _ _)
 still_step
 refine wpStill_nil ?_;change wpList _ _ _ _ _ w3.drew
 replace hW2:nJ w3.drew g g []:=hW2
 replace Mc:=Mc.drew
 replace bx:=bx.drew
 replace b5:=b5.drew
 generalize w3.drew=w4 at*;clear x0 x1 x2 x3 x4 x5 x6 x7;have hput:=iT g g w4.heap.size [] (iC po sg) (w4.alloc (.cells (bF (iC po sg)).toArray 206)) (hW2.alloc _) (by simp) (by simp[iC]) (au.new _ _ _) (by
  intro x hx;simp only[iC,List.mem_cons,List.not_mem_nil,or_false] at hx;rcases hx with rfl|rfl|rfl
  ·exact ⟨by omega,by decide,by omega⟩
  ·exact GM sg
  ·exact GM po)
 rw[List.nil_append] at hput;have Om:bF (iC po sg)= [.int .u64 1,.int .i64 1,.int .u64 sg.toNat,.int .i64 1,.int .u64 po.toNat,.int .i64 1]:=rfl;have DU:(iC po sg).length=3:=rfl;rw[Om,DU] at hput;have lD:=Lib.hid hput;clear hput Om DU;go_wp2_with fail;refine lD.out.mono ?_;rintro e5 w5 ⟨rfl,Ry,hk5⟩;have hg4:=hW2.lt;have Md:=(Mc.alloc Mc.size _).trans ((hk5.below (B:=g) (fun _ _ h=>h.1) (by simp;omega)).mono (by omega))
 replace bx:=(bx.alloc _).kept hk5 (ru (by decide) (by omega))
 replace b5:=(b5.alloc _).kept hk5 (ru (by decide) (by omega))
 clear lD hW2 hk5 Mc hg4;obtain ⟨x0,x1,x2,x3,x4,x5,x6,x7⟩:=bx.eight;obtain ⟨y0,y1,y2⟩:=b5.three;have hwr:IntKind.u64.wrap (sn:Int)=sn:=by rw[IntKind.wrap_u64];omega
 have hdn:decide ((1:Int)<n)=decide (1<n):=by rw[Bool.eq_iff_iff];simp;omega
 go_wp2_with fail;refine wp_region_still_tail 18 (by kernel_rfl) (by kernel_rfl) ?_;simp only[List.take_succ_cons,List.take_zero,List.drop_succ_cons,List.drop_zero]
 still_step
 still_step
 still_step
 still_call (jM _ _)
 still_step
 still_step
 still_step
 still_step
 still_call (jM _ _)
 still_step
 still_step
 still_step
 still_call (jM _ _)
 still_step
 still_step
 still_step
 still_step
 still_step
 refine wpStill_nil ?_;change wpList _ _ _ _ _ w5.drew
 replace Ry:nJ w5.drew g g (aG (iC po sg)):=Ry
 replace Md:=Md.drew
 replace bx:=bx.drew
 replace b5:=b5.drew
 generalize w5.drew=w6 at*;clear x0 x1 x2 x3 x4 x5 x6 x7 y0 y1 y2 hwr hdn;have hput:=iT g g w6.heap.size (aG (iC po sg)) (jV sn s e n) (w6.alloc (.cells (bF (jV sn s e n)).toArray 206)) (Ry.alloc _) (by simp[aG,iC]) (by simp[jV]) (au.new _ _ _) (by
  intro x hx;simp only[jV,List.mem_cons,List.not_mem_nil,or_false] at hx;rcases hx with rfl|rfl|rfl|rfl
  ·exact GM _
  ·exact GM _
  ·exact GM _
  ·exact ⟨by omega,by simp;omega,by omega⟩)
 have Om:bF (jV sn s e n)= [.int .u64 (!s).toNat,.int .i64 1,.int .u64 (!e).toNat,.int .i64 1,.int .u64 (decide (1<n)).toNat,.int .i64 1,.int .u64 sn,.int .i64 10]:=rfl;have DU:(jV sn s e n).length=4:=rfl;rw[Om,DU] at hput;have lD:=Lib.hid hput;clear hput Om DU;go_wp2_with fail;refine lD.out.mono ?_;rintro e7 w7 ⟨rfl,LZ,wO⟩;have Pt:=Ry.lt;have xZ:=(Md.alloc Md.size _).trans ((wO.below (B:=g) (fun _ _ h=>h.1) (by simp;omega)).mono (by omega))
 replace bx:=(bx.alloc _).kept wO (ru (by decide) (by omega))
 replace b5:=(b5.alloc _).kept wO (ru (by decide) (by omega))
 clear lD Ry wO Md Pt;obtain ⟨x0,x1,x2,x3,x4,x5,x6,x7⟩:=bx.eight;go_upto_if 50 with (fail)
 go_cut [] (fun wx=>nJ wx g g (mh sn po sg la off s e n)∧Below w.heap.size w wx∧au wx (g+1) 145 #[.bool s,.bool e,.slice A n c])
 case first=>
  cases sg with
  |false=>
   go_wp2_with fail;go_meet;exact ⟨by simpa[mh] using LZ,xZ,b5⟩
  |true=>
   have hwr:IntKind.u64.wrap (off:Int)=off:=by rw[IntKind.wrap_u64];omega
   go_wp2_with fail;refine wp_region_still_tail 8 (by kernel_rfl) (by kernel_rfl) ?_;simp only[List.take_succ_cons,List.take_zero,List.drop_succ_cons,List.drop_zero]
   still_step
   still_step
   still_call (jM _ _)
   still_step
   still_step
   still_step
   still_step
   still_step
   refine wpStill_nil ?_;change wpList _ _ _ _ _ w7.drew
   replace LZ:nJ w7.drew g g (aG (iC po true)++aG (jV sn s e n)):=LZ
   replace xZ:=xZ.drew
   replace b5:=b5.drew
   generalize w7.drew=w8 at*;clear x0 x1 x2 x3 x4 x5 x6 x7 hwr;have hput:=iT g g w8.heap.size _ (lT la off) (w8.alloc (.cells (bF (lT la off)).toArray 206)) (LZ.alloc _) (by simp[aG,iC,jV]) (by simp[lT]) (au.new _ _ _) (by
    intro x hx;simp only[lT,List.mem_cons,List.not_mem_nil,or_false] at hx;rcases hx with rfl|rfl
    ·exact GM _
    ·exact ⟨by omega,by simp;omega,by omega⟩)
   have Om:bF (lT la off)= [.int .u64 la.toNat,.int .i64 1,.int .u64 off,.int .i64 15]:=rfl;have DU:(lT la off).length=2:=rfl;rw[Om,DU] at hput;have lD:=Lib.hid hput;clear hput Om DU;go_wp2_with fail;refine lD.out.mono ?_;rintro e9 w9 ⟨rfl,hW9,Pp⟩;have Pv:=LZ.lt;have abQ:=(xZ.alloc xZ.size _).trans ((Pp.below (B:=g) (fun _ _ h=>h.1) (by simp;omega)).mono (by omega))
   replace b5:=(b5.alloc _).kept Pp (ru (by decide) (by omega))
   clear lD;go_wp2_with fail;go_meet;exact ⟨by simpa[mh] using hW9,abQ,b5⟩
 case rest=>
  clear LZ xZ b5 bx x0 x1 x2 x3 x4 x5 x6 x7;obtain ⟨Tj,Pg,b1⟩:=hcut;obtain ⟨y0,y1,c12⟩:=b1.three;have W9:=zY sn po sg la off s e n;have Xo:(mh sn po sg la off s e n).length≤32∧(mh sn po sg la off s e n).length%8=0:=by rw[W9];split<;>omega
  have Xa:=Lib.hid Xo;have henc:wo sn po sg la off s e ps=pack (mh sn po sg la off s e n++dI ps (n-1))++ps.flatten:=by rw[←HL.out];rfl
  have HE:=Lib.hid henc;clear henc W9 Xo;generalize hH:mh sn po sg la off s e n=H at*;generalize hEE:wo sn po sg la off s e ps=EE at*;clear hH hEE;have hcap:=h.sl.cap;have hmx:=h.sl.mx;obtain ⟨m,hm⟩:∃m,n=m+1:=⟨n-1,by have:=HL.out;omega⟩
  subst hm;have em:m+1-1=m:=by omega
  rw[em] at HE;clear em;have hm63:m≤63:=by have:=HL.out;omega
  rw[show ((m+1:Nat):Int)=(m:Int)+1 from by omega];go_wp2
  go_loopw [67] (fun i wr=>∃k:Nat,k≤m∧i= .int .i64 k∧nJ wr g g (H++dI ps k)∧Kept (Mw g g) wc wr) (fun i _=>m-(intOf i).toNat)
  case atStart=>exact ⟨0,Nat.zero_le _,rfl,by simpa[dI] using Tj,Kept.refl _ _⟩
  case round=>
   obtain ⟨k,hk,rfl,LY,Rw⟩:=hrel;have GD:=Rw.below (B:=g) (fun _ _ h=>h.1) (by have:=Tj.lt;omega);have GG:=Pg.trans (GD.mono (by omega));by_cases hlt:k<m
   ·obtain ⟨ad,Ai,ci,rfl,hb,hc,hsl⟩:=(h.below GG).get (k:=k) (by omega);have hp:=HS.out k (by rw[HL.out];omega);have hls:=Co ps k;have hlf:mM ps k= [((decide (k+2<m+1)).toNat,1),((ps[k]?.getD []).length,11)]:=by unfold mM;rw[HL.out]
    rw[hlf] at hls;generalize ps[k]?.getD []=p at*;have HLS:=Lib.hid hls;clear hls hlf;obtain ⟨d,hd⟩:∃d:Bool,decide (k+2<m+1)=d:=⟨_,rfl⟩
    have hd':decide ((k:Int)+2<(m:Int)+1)=d:=by rw[←hd,Bool.eq_iff_iff];simp;omega
    rw[hd] at HLS;clear hd;have hwp:IntKind.u64.wrap (p.length:Int)=p.length:=by rw[IntKind.wrap_u64];omega
    have hlk:(H++dI ps k).length<1000000:=by
     rw[List.length_append];have:=pE ps k;have:=Xa.out.1;omega
    have hput:=iT g g wr.heap.size (H++dI ps k) [(d.toNat,1),(p.length,11)] (wr.alloc (.cells (bF [(d.toNat,1),(p.length,11)]).toArray 206)) (LY.alloc _) hlk (by simp) (au.new _ _ _) (by
     intro x hx;simp only[List.mem_cons,List.not_mem_nil,or_false] at hx;rcases hx with rfl|rfl
     ·exact GM d
     ·exact ⟨by omega,by simp;omega,by omega⟩)
    simp only[bF,List.length_cons,List.length_nil,Nat.zero_add,Nat.reduceAdd] at hput;have lD:=Lib.hid hput;clear hput hlk;go_wp2_with fail;refine (Eu _ _).mono ?_;rintro e5 w5 ⟨rfl,rfl⟩;go_wp2_with fail;refine lD.out.mono ?_;rintro e6 w6 ⟨rfl,hW6,lG⟩;clear lD;go_wp2
    go_roundw
    case rel=>exact ⟨k+1,by omega,by go_num,by rw[HLS.out,←List.append_assoc];exact hW6,(Rw.alloc _).trans lG⟩
    case measure=>simp[intOf];omega
   ·obtain rfl:k=m:=by omega
    clear hlt hk;have Xp:(H++dI ps k).length≤32+12*k:=by rw[List.length_append,pE];have:=Xa.out.1;omega
    have hgr:g<wr.heap.size:=LY.lt;have hal:=Gn g g _ wr LY (by omega);have qX:=Lib.hid hal;have Xq:=Lib.hid Xp;clear hal Xp;go_wp2_with (go_at_call 172;refine qX.out.mono ?_;rintro e7 w7 ⟨rfl,LZ,wO⟩);obtain ⟨i0,hi,hz0,hz1,hz2⟩:=info_parts qh;have hpk:pack (H++dI ps k++List.replicate (8*bO (H++dI ps k).length-(H++dI ps k).length) false)=pack (H++dI ps k):=Ea _ _ (by unfold bO;omega);have hpl:(pack (H++dI ps k)).length≤1000:=by have e:=vE (H++dI ps k);have:=Xq.out;unfold bO at e;omega
    have VK:(H++dI ps k++List.replicate (8*bO (H++dI ps k).length-(H++dI ps k).length) false).length<1000000000:=by
     have e:=Xq.out;rw[List.length_append,List.length_replicate];unfold bO;omega
    rw[←hpk] at HE hpl;clear hpk;generalize H++dI ps k++List.replicate (8*bO (H++dI ps k).length-(H++dI ps k).length) false=L at*;have Pj:=wO.below (B:=g) (fun _ _ h=>h.1) (by omega);have xZ:=GG.trans (Pj.mono (by omega));have b17:=(b1.kept Rw (ru (by decide) (by omega))).kept wO (ru (by decide) (by omega));have c7:=b17.cell 2;simp at c7;have qE:=h.below xZ;have CO:=Lib.hid hpl;clear wO GG GD Rw LY qX b1 c12 Tj Pg hpl;have HLl:=Lib.hid VK;clear VK;have hwl:=b17.lt;have hws:=xZ.size
    go_region_held3 (fun w'=>w'.cell? ⟨g+1,2,none⟩=some (.slice A (k+1) c))
     (first|(rw[I9.cell_far _ (by simp;omega) (fun e=>by have:=(GN.lt _ e.symm).1;simp at this;omega)];assumption)|(rw[ig.cell (p:=⟨g+1,2,none⟩) (by simp;omega)];assumption)|(rw[Me.cell (p:=⟨g+1,2,none⟩) (by simp;omega)];assumption)|go_keep)
     (first
      |(
       go_at_call 124
       refine (AQ g g L w7.drew LZ HLl.out).mono ?_;rintro e8 w8 ⟨v8,rfl,GN,Me⟩;have hz8:w7.heap.size≤w8.heap.size:=Me.size)
      |(
       go_at_call 173
       refine (xD A (k+1) c vs ps w8 (((qE.drew').below (Me.mono (by simp;omega))).more (by have:=Me.size;simp at this;omega)) (by have:=CK.out;omega)).mono ?_;rintro e9 w9 ⟨v9,rfl,Lc,ig⟩;obtain ⟨A9,c9,rfl,hs9,_⟩:=aZ Lc;have hz9:w8.heap.size≤w9.heap.size:=ig.size)
      |(
       refine eU _ (by rfl) _ _ 31 (by rfl) w7.heap.size 5 i0 (.int .u8 0) 1 und29 hi hz0 hz1 hz2 rfl v8 (pack L).length (bV (pack L)) (by rfl) (own_below GN ig (Nat.le_refl _)) w9.heap.size A9 (ah ps) c9 (bV ps.flatten) (by rfl) hs9 (Ci _) (by have:=CK.out;have:=CO.out;unfold maxLen;omega) (by have:=CK.out;have:=CO.out;omega) (by have:=Me.size;have:=ig.size;simp at*;omega) ?_;intro v10 On TE I9 afb))
    go_wp2
    go_ret2
    refine ⟨v10,rfl,?_,((xZ.drew.trans (Me.mono xZ.size)).trans (ig.mono (by omega))).grown I9 (by omega) (fun j hj=>by have:=(GN.lt j hj).1;simp at this;omega)⟩;have hfl:EE.length=(pack L).length+ah ps:=by rw[HE.out,List.length_append,kT]
    rw[hfl,HE.out];have:=aR TE (base':=w.heap.size) (by omega);simpa[bV] using this
end Go.Proofs.YtbhiklnljiehiaaGreat
namespace Go.Proofs.YtbhiklnljiehiaaGreat
open Go.RowKit Go.Shelf
def GQ (F:Fence) (n:Nat) (P:Program) (g:Nat) (lb:Array Value) (vals:Nat→Array Value) (N:Nat) (Kp:World→World→Prop) (w:World):Prop:=
 ∀(l:Nat) (J:Nat→World→Prop) (W:World),Below w.heap.size w W→AbidesFrom W.heap.size J→
  (∀k W1,k<N→J k W1→YieldAt F (n-1) P l (vals k) W1 fun e W'=>e= .returned (.bool true)∧J (k+1) W'∧Kp W1 W')→J 0 W→
  CallsIn F n P g (#[.func (.yield l) #[] #[]]++lb) W fun e W'=>(∃v,e= .returned v)∧J N W'
def TF (B:Nat) (Kp:World→World→Prop) (I:Nat→World→Prop) (k:Nat) (W:World):Exit→Act→World→Prop
 | .normal,_,W'=>KeepsFrom B W W'∧Kp W W'∧I k W'
 |_,_,_=>False
variable {F:Fence} {n:Nat} {P:Program}
theorem kZ {g:Operand} {ps:Array Tmp} {assign body:Code} {Q:Exit→Act→World→Prop} {a:Act} {w:World}
 (hro:F.round=none) (h1:1≤n) {gf:Nat} {lb:Array Value} (hg:a.eval g= .func (.func gf) #[] lb) (hFg:F.fn gf) (eg:∀args w,(callFunc gf args).run P w= .ok (.enter gf args) w)
 {vals:Nat→Array Value} {N:Nat} {Kp:World→World→Prop} {w0:World} (hseq:GQ F (n-1) P gf lb vals N Kp w0)
 (hKt:∀{A B C:World},Kp A B→Kp B C→Kp A C) (hKb:∀(W:World) (l:Nat) (o o':Obj),w.heap.size≤l→W.heap[l]? =some o→o.isCells=false→o.isWalk=false→Kp W (W.putObj l o')) (hb0:Below w0.heap.size w0 w)
 (hps:∀k,(vals k).size=ps.size) (I:Nat→World→Prop) (hI:OwnFrom w.heap.size I) (h0:I 0 w) (a₁:Nat→Act)
 (hassign:∀(l k:Nat) (W:World) (K:Act→World→Prop),K (a₁ k) W→
  assign.wpIn (F.inRound l) (n-1-1) P (Exit.then K (fun _ _ _=>False)) {tmps:=(ps.zip (vals k)).foldl (fun t (p,v)=>t.setIfInBounds p v) a.tmps,defers:= []} W)
 (hbody:∀(l k:Nat) (W:World),k<N→I k W→body.wpIn (F.inRound l) (n-1-1) P (TF w.heap.size Kp I (k+1) W) (a₁ k) W)
 (hdone:∀(D:Nat) (W:World),w.heap.size≤D→I N W→W.heap[D]? =some (.deferred (some []))→Q .normal {a with defers:= {target:= .collected D,args:= #[]}::a.defers} W):
 (Code.rangeFunc g ps assign body).wpIn F n P Q a w:=by
 refine wpIn_rangeFunc fun fn hfn=> ?_
 rw[hro]
 let R:LoopState→Loop:=fun st=> {state:=st,pending:=none,fn,tmps:=a.tmps,params:=ps,assign,body,defers:=w.heap.size}
 let W1:=(w.alloc (.deferred (some []))).alloc (.loop (R .ready))
 have hsz:W1.heap.size=w.heap.size+2:=by simp[W1]
 have hL1:W1.heap[w.heap.size+1]? =some (.loop (R .ready)):=by
  have:=World.alloc_heap_new (w.alloc (.deferred (some []))) (.loop (R .ready));rwa [World.size_alloc] at this
 have hD1:W1.heap[w.heap.size]? =some (.deferred (some [])):=(Below.heap_alloc _ _ _ (by simp)).trans (World.alloc_heap_new w _);have hBW:Below w0.heap.size w0 W1:=hb0.trans ((((Below.refl _ w).alloc (Nat.le_refl _) _).alloc (by simp) _).mono hb0.size)
 let J:Nat→World→Prop:=fun k W=>I k W∧W.heap[w.heap.size+1]? =some (.loop (R .ready))∧W.heap[w.heap.size]? =some (.deferred (some []))
 have hJ:AbidesFrom W1.heap.size J:=fun k A B row hs hgr hr=>by
  have keeps:=fun (i:Nat) (o:Obj) (ho:A.heap[i]? =some o) (hw:o.isWalk=false)=>(grownBy_keeps hgr (fun r e=>(hr r e).2) ho hw).trans ho
  refine ⟨hI k A B row hs.1 hgr (fun r e=> ?_),keeps _ _ hs.2.1 rfl,keeps _ _ hs.2.2 rfl⟩;obtain ⟨h2,o,ho,hw⟩:=hr r e;exact ⟨by omega,o,ho,Obj.not_cells_of_walk hw⟩
 refine ⟨w.heap.size+1,[{target:= .collected w.heap.size,args:= #[]}],W1,{target:= .fn (.func gf) lb,args:= #[.func (.yield (w.heap.size+1)) #[] #[]]},W1,gf,
  #[.func (.yield (w.heap.size+1)) #[] #[]]++lb,W1,run_enterLoop_outer _ _ _ _ _,?_,?_,?_,fun _=>h1,?_⟩
 ·simp only[resolve,hg];simp[go_sem]
 ·intro f' hf';simp[Target.leads] at hf';subst hf';exact hFg
 ·simp[invoke,go_sem,eg]
 refine (hseq (w.heap.size+1) J W1 hBW hJ (fun k W hk hjk=> ?_) ⟨hI.alloc _ (hI.alloc _ h0),hL1,hD1⟩).mono ?_
 ·
  obtain ⟨hi,hl,hd⟩:=hjk;have hlt:w.heap.size+1<W.heap.size:=(Array.getElem?_eq_some_iff.1 hl).1;refine ⟨fn,_,assign,body,run_yield (P:=P) (args:=vals k) hl (hps k),roundIn_of_wpIn hfn (hassign _ k W _ ⟨_,run_beginRound hl rfl,?_⟩)⟩;have hlb:(W.putObj (w.heap.size+1) (.loop (R .busy))).heap[w.heap.size+1]? =some (.loop (R .busy)):=World.putObj_heap_same hlt;have hdb:(W.putObj (w.heap.size+1) (.loop (R .busy))).heap[w.heap.size]? =some (.deferred (some [])):=(World.putObj_heap_other (by omega)).trans hd;refine wpIn_mono (hbody _ k _ hk (hI.putObj _ hi (by omega) hl rfl)) ?_;rintro ex a3 W3 hp;cases ex with
  |normal=>
   obtain ⟨hk3,hkp,hi3⟩:=hp;have hl3:=hk3.same _ _ (by omega) hlb rfl;have hd3:=hk3.same _ _ (Nat.le_refl _) hdb rfl;refine ⟨_,_,run_endRound (P:=P) none hl3,rfl,⟨hI.putObj _ hi3 (by omega) hl3 rfl,World.putObj_heap_same (Array.getElem?_eq_some_iff.1 hl3).1,(World.putObj_heap_other (by omega)).trans hd3⟩,?_⟩;exact hKt (hKt (hKb _ _ _ _ (by omega) hl rfl rfl) hkp) (hKb _ _ _ _ (by omega) hl3 rfl rfl)
  |ret=>exact hp.elim
  |exit id=>exact hp.elim
  |goto t=>exact hp.elim
  |panic ch=>exact hp.elim
  |outgrown=>exact hp.elim
 ·
  rintro e W2 ⟨⟨v,rfl⟩,hi,hl,hd⟩;exact ⟨none,_,run_endLoop (P:=P) hl (by simp[R]),hdone _ _ (Nat.le_refl _) (hI.putObj _ hi (by omega) hl rfl) ((World.putObj_heap_other (by omega)).trans hd)⟩
end Go.Proofs.YtbhiklnljiehiaaGreat
namespace Go.Proofs.YtbhiklnljiehiaaGreat
open Go.RowKit Go.Shelf
variable {n:Nat} {P:Program} {Q:Exit→Act→World→Prop}
theorem yc {l:Nat} {o:Oper} {a:Act} {K:Act→World→Prop} {r:Result Next} (h:o.upon P a K Q r):o.uponIn (Fence.wide.inRound l) n P a K Q r:=by
 cases r with
 |ok nx w=>
  cases nx<;>simp only[Oper.upon,Oper.uponIn] at h ⊢
  case value v=>exact h
  case skip=>exact h
  case defer d=>exact h
  case enter f args=>exact ⟨fun hh=>(by cases hh),CallsIn.inRound l (callsIn_wide.2 h)⟩
  case row row args=>exact ⟨fun hh=>(by cases hh),fun c cs _=>let ⟨v,w',r,s⟩:=h c cs;⟨v,w',r,stepsIn_wide.2 s⟩⟩
  all_goals exact h.elim
 |halt x w=>
  cases x<;>simp only[Oper.upon,Oper.uponIn] at h ⊢
  all_goals first|exact h|exact h.elim
def lU (o:Oper):Bool:=match o.op with
 | .defer _=>false
 |_=>true
theorem CQ {o:Oper} (h:lU o=true):∀c,o.op≠ .defer c:=fun c e=>by
 unfold lU at h;rw[e] at h;cases h
variable {ops:Array Oper} {md:Region.Mode} {l:Nat}
theorem yg (hd:ops.toList.all lU=true) (hout:¬LetsOut Q) {i:Nat} {K:Act→World→Prop} {a:Act} {w:World} (h:wpOp P ops Q i K a w):wpOpIn (Fence.wide.inRound l) n P ops Q i K a w:=by
 unfold wpOp at h;unfold wpOpIn;cases ho:ops[i]? with
 |none=>rw[ho] at h;exact h
 |some o=>
  rw[ho] at h;simp only[] at h ⊢;have hp:lU o=true:=by
   rw[List.all_eq_true] at hd;exact hd o (by rw[Array.mem_toList_iff];exact Array.mem_of_getElem? ho)
  split
  ·rename_i hw;rw[if_pos hw] at h;rcases h with h|h
   ·refine ⟨fun _ _=>trivial,?_⟩;rw[Oper.semAt_eq _ _ _ (CQ hp)];exact yc h
   ·exact absurd h.2 hout
  ·rename_i hw;rw[if_neg hw] at h;exact ⟨fun _ _=>trivial,h⟩
theorem iD (hd:ops.toList.all lU=true) (hout:¬LetsOut Q):∀(fuel:Nat) (listed:Array Bool) (a:Act) (w:World),wpAny P md ops Q fuel listed a w→wpAnyIn (Fence.wide.inRound l) n P md ops Q fuel listed a w
 |0,_,_,_,h=>h
 |fuel+1,_,_,_,h=>⟨h.1,fun i hi=>yg hd hout (wpOp_mono (fun a' w' h'=>iD hd hout fuel _ a' w' h') (h.2 i hi))⟩
theorem lV {S:World→Prop} {id:Nat} {a:Act} {w:World} (hm:P.follows .mixedOrders=true) (hd:ops.toList.all lU=true) (hout:¬LetsOut Q) (hS:S w.drew)
 (h:S w.drew→wpAnyH P .any ops Q S ops.size (Array.replicate ops.size false) a w.drew):(Code.region id ops true).wpIn (Fence.wide.inRound l) n P Q a w:=
 wpIn_region_any hm (iD hd hout _ _ _ _ (wpAny_of_held _ _ _ _ (h hS)))
end Go.Proofs.YtbhiklnljiehiaaGreat
namespace Go.Proofs.YtbhiklnljiehiaaGreat
open Go.RowKit Go.Shelf
attribute [local go_sem] Oper.semAt_some
def qx (off:Nat) (ps:List (List UInt8)) (k:Nat):List Nat:=(List.range (k+1)).map fun i=>off+ah (ps.take i)
theorem JS (off:Nat) (ps:List (List UInt8)) (k:Nat):qx off ps (k+1)=qx off ps k++ [off+ah (ps.take (k+1))]:=by simp[qx,List.range_succ]
theorem yh (off:Nat) (ps:List (List UInt8)) (k i:Nat) (h:i≤k):(qx off ps k)[i]? =some (off+ah (ps.take i)):=by
 simp[qx,show i<k+1 by omega]
def Ev (w:World) (off:Nat) (ps:List (List UInt8)) (e:Ending) (w':World):Prop:=
 ∃g v,e= .returned (.func (.func 197) #[] #[.pointer (some ⟨g,0,none⟩)])∧w.heap.size≤g∧au w' g 75 #[v]∧w'.ownsRow w.heap.size 3 1 v (ps.length+1) (iI (qx off ps ps.length))∧Below w.heap.size w w'
set_option maxRecDepth 100000 in
set_option maxHeartbeats 2000000 in
theorem yj (sn:Int) (po sg la:Bool) (off:Nat) (s e:Bool) (A:Option Addr) (n c:Nat) (vs:List Value) (ps:List (List UInt8)) (w:World) (h:jg w w.heap.size A n c vs ps) (hn:n≤1000) (hoff:off≤1000000) (hsum:ah ps≤1000000):
 Calls Tryz.prog 155 #[.agg (bq sn po sg la off s e A n c)] w (Ev w off ps):=by
 obtain ⟨i0,hi,hz0,hz1,hz2⟩:=info_parts xE;have HL:=Lib.hid h.len;have um:=Lib.hid hsum;clear hsum;unfold bq;go_enter Tryz.func155,Tryz.ntmps155;go_wp2;have hB0:=(((Below.refl w.heap.size w).alloc (Nat.le_refl _) (.cells (bq sn po sg la off s e A n c) 148)).alloc (by simp) (.cells #[.int .i64 off] 3)).alloc (by simp;omega) (.cells #[.slice (some ⟨w.heap.size+1,0,none⟩) 1 1] 75);have hG0:=au.new ((w.alloc (.cells (bq sn po sg la off s e A n c) 148)).alloc (.cells #[.int .i64 off] 3)) 75 #[.slice (some ⟨w.heap.size+1,0,none⟩) 1 1];simp only[World.size_alloc] at hG0;have hO0:(((w.alloc (.cells (bq sn po sg la off s e A n c) 148)).alloc (.cells #[.int .i64 off] 3)).alloc (.cells #[.slice (some ⟨w.heap.size+1,0,none⟩) 1 1] 75)).ownsRow w.heap.size 3 1 (.slice (some ⟨w.heap.size+1,0,none⟩) 1 1) 1 [.int .i64 off]:=by
  have:=(World.ownsRow_lit (base:=w.heap.size) (e:=3) (size:=1) (w.alloc (.cells (bq sn po sg la off s e A n c) 148)) #[.int .i64 off] 1 (by simp) (by unfold maxLen;omega) rfl).alloc (.cells #[.slice (some ⟨w.heap.size+1,0,none⟩) 1 1] 75);rw[World.size_alloc] at this;exact this
 unfold bq at hB0 hG0 hO0;generalize ((w.alloc (.cells #[.int .i64 sn,.bool po,.bool sg,.bool la,.int .i64 off,.bool s,.bool e,.slice A n c] 148)).alloc (.cells #[.int .i64 off] 3)).alloc (.cells #[.slice (some ⟨w.heap.size+1,0,none⟩) 1 1] 75)=w1 at*
 go_loopw [13] (fun i wr=>∃(k:Nat) (v:Value),k≤n∧i= .int .i64 k∧au wr (w.heap.size+1+1) 75 #[v]∧wr.ownsRow w.heap.size 3 1 v (k+1) (iI (qx off ps k))∧Below w.heap.size w wr) (fun i _=>n-(intOf i).toNat)
 case atStart=>exact ⟨0,_,Nat.zero_le _,rfl,hG0,by simpa[qx,iI,ah] using hO0,hB0⟩
 case round=>
  clear hB0 hG0 hO0;obtain ⟨k,v,hk,rfl,bG,hown,hB⟩:=hrel;by_cases hlt:k<n
  ·obtain ⟨ad,Ai,ci,rfl,hbk,hc,hsl⟩:=(h.below hB).get hlt;have hs1:=gT ps k (by rw[HL.out];exact hlt);have hle1:=Nat.le_trans (dw ps (k+1)) um.out;have hbs:=JS off ps k;have hlast:=yh off ps k k (Nat.le_refl _);generalize ps[k]?.getD []=p at*;rw[hs1] at hbs;generalize ah (List.take k ps)=S at*;have hle2:S+p.length≤1000000:=by omega
   have Xr:=Lib.hid hbs;clear hs1 hbs hle1;obtain ⟨gv,cap,rfl,hgl,kz⟩:=hown.form (by omega);have hcl:=hown.cellAt k (by omega);have Xt:(iI (qx off ps k))[k]? =some (.int .i64 ((off:Int)+S)):=by simp[iI,hlast]
   rw[Xt] at hcl;clear Xt hlast;have g0:=bG.cell 0;have gf:=bG.frozen 0;simp at g0;have hGl:=bG.lt;have hw1:IntKind.i64.wrap ((k:Int)+1)=(k:Int)+1:=IntWalk.i64_in _ (by omega);have hk1:(k:Int)+1-1=k:=by omega
   have hk2:IntKind.i64.wrap (k:Int)=k:=IntWalk.i64_in _ (by omega);have hk3:IntKind.i64.wrap ((off:Int)+S+p.length)=(off:Int)+S+p.length:=IntWalk.i64_in _ (by omega);have hk4:(k:Int)<(k:Int)+1:=by omega
   go_upto_block 1 with (fail)
   go_cut [] (fun wx=>∃(A5:Option Addr) (c5:Nat),au wx (w.heap.size+1+1) 75 #[.slice A5 (k+1+1) c5]∧wx.ownsRow w.heap.size 3 1 (.slice A5 (k+1+1) c5) (k+1+1) (iI (qx off ps (k+1)))∧Below w.heap.size w wx)
   case first=>
    go_wp2
    go_region_law ((refine eU _ (by rfl) _ _ 75 (by rfl) w.heap.size 3 i0 (.int .i64 0) 8 Gp hi hz0 hz1 hz2 rfl (.slice (some ⟨gv,0,none⟩) (k+1) cap) (k+1) (iI (qx off ps k)) (by rfl) (World.ownsRow.drew' (hown.alloc (.cells #[.int .i64 ((off:Int)+S+p.length)] 3))) (wr.alloc (.cells #[.int .i64 ((off:Int)+S+p.length)] 3)).heap.size (some ⟨wr.heap.size,0,none⟩) 1 1 [.int .i64 ((off:Int)+S+p.length)] (by rfl) (qj wr (.int .i64 ((off:Int)+S+p.length)) 3) (by simp[Value.oneCell']) (by unfold maxLen;omega) (by omega) (by have:=hB.size;simp;omega) ?_;intro v5 w5 hown5 dF _;obtain ⟨A5,c5,rfl,hs5,_⟩:=aZ hown5;have wQ:=(bG.alloc (.cells #[.int .i64 ((off:Int)+S+p.length)] 3)).drew.grown dF (fun e=>aI hown bG (by decide) e.symm);have q2:=wQ.cell 0;have q3:=wQ.frozen 0;simp at q2))
    all_goals
     have hG6:=wQ.av 0 (.slice A5 (k+1+1) c5);simp at hG6;have hown6:=aJ (i:=0) hown5 wQ (by decide) (.slice A5 (k+1+1) c5);have lg:=(((hB.alloc hB.size (.cells #[.int .i64 ((off:Int)+S+p.length)] 3)).drew).grown dF (by have:=hB.size;simp;omega) (fun g hg=>by have:=(hown.lt g hg).1;omega)).setCell (p:=⟨w.heap.size+1+1,0,none⟩) (by simp;omega) (.slice A5 (k+1+1) c5);go_wp2_with fail;go_meet;refine ⟨A5,c5,hG6,?_,lg⟩;rw[Xr.out];have e1:iI (qx off ps k++ [off+(S+p.length)])=iI (qx off ps k)++ [.int .i64 ((off:Int)+S+p.length)]:=by simp[iI];omega
     rw[e1];exact hown6
   case rest=>
    obtain ⟨A5,c5,hG6,hown6,lg⟩:=hcut;clear hw1 hk1 hk2 hk3 hk4;go_wp2
    go_roundw
    case rel=>exact ⟨k+1,_,by omega,by go_num,hG6,hown6,lg⟩
    case measure=>simp[intOf];omega
  ·have hkn:k=ps.length:=by rw[HL.out];omega
   rw[hkn] at hown;clear hkn;go_wp2;go_ret;exact ⟨_,_,rfl,by omega,bG,hown,hB⟩
end Go.Proofs.YtbhiklnljiehiaaGreat
namespace Go.Proofs.YtbhiklnljiehiaaGreat
open Go.RowKit Go.Shelf
attribute [local go_sem] Oper.semAt_some
def wR (off:Nat) (ps:List (List UInt8)) (k:Nat):Array Value:= #[.int .i64 ((off+ah (ps.take k):Nat):Int),.int .i64 ((off+ah (ps.take (k+1)):Nat):Int)]
set_option maxRecDepth 100000 in
set_option maxHeartbeats 2000000 in
theorem vO (n:Nat) (hn:1≤n) (g B:Nat) (v:Value) (off:Nat) (ps:List (List UInt8)) (_hoff:off≤1000000) (hsum:ah ps≤1000000) (hlen:ps.length≤1000) (M:Nat→Obj→Prop) (w:World)
 (hg:au w g 75 #[v]) (hv:w.ownsRow B 3 1 v (ps.length+1) (iI (qx off ps ps.length))) (hMg:¬M g (.cells #[v] 75 (0,0))) (OU:∀k o,v.ownBlock=some k→¬M k o):
 GQ Fence.wide n Tryz.prog 197 #[.pointer (some ⟨g,0,none⟩)] (wR off ps) ps.length (Kept M) w:=fun l J W hW _ hY h0=>by
 have hg':=hg.below hW hg.lt;have hv':W.ownsRow B 3 1 v (ps.length+1) (iI (qx off ps ps.length)):=hv.kept (row:=none) ⟨hW.os,hW.tape,hW.output,hW.size,fun k hk _=>hW.block k hk⟩ (by
  rcases hb:v.ownBlock with _|k
  ·exact .inl rfl
  ·exact .inr (by simp))
 have hvk:∀wr,Kept M W wr→wr.ownsRow B 3 1 v (ps.length+1) (iI (qx off ps ps.length)):=fun wr hk=>jl hv' hk (fun k o _ hk2=>OU k o hk2)
 have WH:=Lib.hid hvk;clear hvk;obtain ⟨gv,cap,rfl,hgl,kz⟩:=hv'.form (by omega);have HY:=Lib.hid hY;clear hY;have hcap:ps.length+1≤cap∧cap≤9223372036854775807:=by
  have hs:=ed hv';exact ⟨hs.cap,hs.mx⟩
 refine callsIn_of_wp Tryz.func197 rfl trivial ?_ rfl;simp only[Tryz.ntmps197,List.size_toArray,List.length_cons,List.length_nil,Nat.reduceAdd,Nat.reduceSub,Array.replicate_succ,Array.replicate_zero,List.push_toArray,List.append_toArray,List.nil_append,List.cons_append];have hcw:=hg'.cell 0;simp at hcw;refine jY ?_
 gi_wp2
 refine wpIn_label ?_
 gi_wp2
 gi_loopw [11] (fun i wr=>∃k:Nat,k≤ps.length∧i= .int .i64 k∧J k wr∧Kept M W wr) (fun i _=>ps.length-(intOf i).toNat)
 case atStart=>exact ⟨0,Nat.zero_le _,by simp,h0,Kept.refl _ _⟩
 case round=>
  obtain ⟨k,hk,rfl,hJs,hnx⟩:=hrel;by_cases hlt:k<ps.length
  ·have Rn:=WH.out wr hnx;have hgr:=hg'.kept hnx hMg;have hc0:=hgr.cell 0;simp at hc0;have hck:=Rn.cellAt k (by omega);have abS:=Rn.cellAt (k+1) (by omega);have e0:=yh off ps ps.length k (by omega);have e1:=yh off ps ps.length (k+1) (by omega);have IX:=HY.out k wr hlt hJs;unfold wR at IX;have b0:ah (ps.take k)≤1000000:=Nat.le_trans (dw ps k) hsum;have b1:ah (ps.take (k+1))≤1000000:=Nat.le_trans (dw ps (k+1)) hsum;simp only[iI,List.getElem?_map,e0,e1,Option.map_some] at hck abS;generalize off+ah (ps.take k)=a at*;generalize off+ah (ps.take (k+1))=b at*;obtain ⟨fn,tmps,assign,body,hy,hR⟩:=IX;clear e0 e1 b0 b1 Rn
   gi_wp2
   refine hR.mono ?_;rintro e W3 ⟨rfl,hJ3,hk3⟩
   gi_wp2
   go_roundw
   case rel=>exact ⟨k+1,by omega,by go_num,hJ3,hnx.trans hk3⟩
   case measure=>simp[intOf];omega
  ·have e:k=ps.length:=by omega
   have Gr:J ps.length wr:=by rw[e] at hJs;exact hJs
   clear e hJs
   gi_wp2
   rw[Exit.noGoto_normal]
   go_end0
   exact ⟨⟨_,rfl⟩,Gr⟩
end Go.Proofs.YtbhiklnljiehiaaGreat
namespace Go.Proofs.YtbhiklnljiehiaaGreat
section
open Go.RowKit Go.Shelf
attribute [local go_sem] Oper.semAt_some
def aW (w:World) (base:Nat) (vo:Value) (ps:List (List UInt8)):Prop:=
 ∃vs,w.ownsRow base 31 1 vo ps.length vs∧∀(i:Nat) (p:List UInt8),ps[i]? =some p→∃A c,vs[i]? =some (.slice A p.length c)∧w.ownsRow base 5 1 (.slice A p.length c) p.length (bV p)
def Ew (w:World) (sn:Int) (kr:Bool) (fr:Int) (s e:Bool) (ps:List (List UInt8)) (en:Ending) (w':World):Prop:=
 Below w.heap.size w w'∧∃A c,en= .returned (.tuple #[.agg (bq sn false true kr fr s e A ps.length c),.int .i64 0])∧aW w' w.heap.size (.slice A ps.length c) ps
theorem au.Mf {w:World} {g:Nat} {t:TypeId} {x0 x1 x2 x3 x4 x5 x6 x7:Value} (b:au w g t #[x0,x1,x2,x3,x4,x5,x6,x7]) (u0 u1 u2 u3 u4 u5 u6 u7:Value):
 au ((((((((w.setCell ⟨g,0,none⟩ u0).setCell ⟨g,1,none⟩ u1).setCell ⟨g,2,none⟩ u2).setCell ⟨g,3,none⟩ u3).setCell ⟨g,4,none⟩ u4).setCell ⟨g,5,none⟩ u5).setCell ⟨g,6,none⟩ u6).setCell ⟨g,7,none⟩ u7) g t #[u0,u1,u2,u3,u4,u5,u6,u7]:=by
 have:=(((((((b.av 0 u0).av 1 u1).av 2 u2).av 3 u3).av 4 u4).av 5 u5).av 6 u6).av 7 u7;simpa using this
theorem nU {B:Nat} {a w:World} (hb:Below B a w) {g:Nat} (hg:B≤g) (u0 u1 u2 u3 u4 u5 u6 u7:Value):
 Below B a ((((((((w.setCell ⟨g,0,none⟩ u0).setCell ⟨g,1,none⟩ u1).setCell ⟨g,2,none⟩ u2).setCell ⟨g,3,none⟩ u3).setCell ⟨g,4,none⟩ u4).setCell ⟨g,5,none⟩ u5).setCell ⟨g,6,none⟩ u6).setCell ⟨g,7,none⟩ u7):=
 (((((((hb.setCell (p:=⟨g,0,none⟩) hg u0).setCell (p:=⟨g,1,none⟩) hg u1).setCell (p:=⟨g,2,none⟩) hg u2).setCell (p:=⟨g,3,none⟩) hg u3).setCell (p:=⟨g,4,none⟩) hg u4).setCell (p:=⟨g,5,none⟩) hg u5).setCell (p:=⟨g,6,none⟩) hg u6).setCell (p:=⟨g,7,none⟩) hg u7
end
end Go.Proofs.YtbhiklnljiehiaaGreat
