/- law30: same, num, few, fails. law30: wor. -/
import Derived.Test.YtbhiklnljiehiaaGreatM2ae
import Derived.Laws.IdiomStrings
import Derived.Laws.BytesArg
import Derived.Lib.SlBytesConst
import Derived.Lib.BufferRead
import Derived.Lib.SmallJoins
import Derived.Deep.DeepCutAuto
namespace Go.Proofs.YtbhiklnljiehiaaGreat
open Go.RowKit
theorem und5:Tryz.prog.underlying 5=some (.int .u8):=by kernel_rfl
theorem Zk:Tryz.prog.underlying 9=some .string:=by kernel_rfl
theorem tT {w:World} {B n c:Nat} {A:Option Addr} {l:List UInt8} (h:Sl w B A n c (bO l)):(convert 31 9 (.slice A n c)).run Tryz.prog w= .ok (.string ⟨l.toArray⟩) w:=by
 have hl:l.length=n:=by simpa using h.len
 subst hl;rcases A with _|a
 ·have h0:l.length=0:=by
   rcases Nat.eq_zero_or_pos l.length with h0|h0
   ·exact h0
   ·obtain ⟨_,e,_⟩:=h.at_ h0;cases e
  have:l= []:=List.eq_nil_of_length_eq_zero h0;subst this;exact Lib.run_convert_nil_bytes w 31 9 5 c und29 und5 Zk
 ·refine run_convert_bytes_back w 31 9 5 a c l und29 und5 Zk (fun j hj=> ?_);obtain ⟨ad,e,_,hc⟩:=h.at_ (by omega);injection e with e
  subst e;refine hc j _ ?_;unfold bO;rw[List.getElem?_map,List.getElem?_eq_getElem hj];rfl
def Og (w:World) (e:Ending) (w':World):Prop:=e= .returned (.bool true)∧Below w.heap.size w w'
end Go.Proofs.YtbhiklnljiehiaaGreat
namespace Go.Proofs.YtbhiklnljiehiaaGreat
open Go.RowKit
theorem vB {w:World} {b:Nat} {cs:Array Value} {t:TypeId} {fr:Nat × Nat} {xs:List Value} (h:w.heap[b]? =some (.cells cs t fr)) (e:cs.toList=xs) (hn:xs.length≤9223372036854775807):Sl w w.heap.size (some ⟨b,0,none⟩) xs.length xs.length xs:=
 ⟨rfl,aN,hn,fun _=>⟨_,rfl,lt_of_heap h,fun j u hu=>by rw[←e] at hu;exact World.news_of_block h j u hu⟩⟩
theorem jC (w:World) (o:Obj):(w.alloc o).heap[w.heap.size]? =some o:=heap_alloc_new w o
end Go.Proofs.YtbhiklnljiehiaaGreat
namespace Go.Proofs.YtbhiklnljiehiaaGreat
open Go.RowKit
def pY (w wr:World):Prop:=∃q,w.drewN q=wr
theorem pY.refl (w:World):pY w w:=⟨0,rfl⟩
theorem pY.more {w wr:World} (h:pY w wr) (k:Nat):pY w (wr.drewN k):=by
 obtain ⟨q,rfl⟩:=h;exact ⟨q+k,(World.drewN_drewN w q k).symm⟩
theorem iO.Uw {w wr:World} {B n c:Nat} {A:Option Addr} {vs:List Value} {ps:List (List UInt8)} (h:iO w B A n c vs ps) (hd:pY w wr):iO wr B A n c vs ps:=by
 obtain ⟨q,rfl⟩:=hd;exact ⟨h.sl.drewN q,h.len,fun i p hi=>let ⟨Ai,ci,e,hs⟩:=h.each i p hi;⟨Ai,ci,e,hs.drewN q⟩⟩
theorem pY.size {w wr:World} (h:pY w wr):wr.heap.size=w.heap.size:=by
 obtain ⟨q,rfl⟩:=h;rfl
theorem pY.below {w wr:World} (h:pY w wr) (B:Nat):Below B w wr:=by
 obtain ⟨q,rfl⟩:=h;exact (Below.refl B w).drewN q
end Go.Proofs.YtbhiklnljiehiaaGreat
namespace Go.Proofs.YtbhiklnljiehiaaGreat
open Go.RowKit
end Go.Proofs.YtbhiklnljiehiaaGreat
namespace Go.Proofs.YtbhiklnljiehiaaGreat
open Go.RowKit
theorem au.three {w:World} {g:Nat} {t:TypeId} {x y z:Value} (b:au w g t #[x,y,z]):w.cell? ⟨g,0,none⟩=some x∧w.cell? ⟨g,1,none⟩=some y∧w.cell? ⟨g,2,none⟩=some z:=
 ⟨b.cell 0,b.cell 1,b.cell 2⟩
end Go.Proofs.YtbhiklnljiehiaaGreat
namespace Go.Proofs.YtbhiklnljiehiaaGreat
open Go.RowKit
set_option maxHeartbeats 400000 in
theorem Bl (b:Nat) (jN:List Value) (bs:List Bool) (Inv:World→Prop) (w:World) (hlen:bs.length=jN.length) (hsm:jN.length≤1000) (hI:∀W,Inv W→au W b 26 jN.toArray)
 (hcall:∀(i:Nat) (fv:Value) (x:Bool) (W:World),jN[i]? =some fv→bs[i]? =some x→(∀y∈bs.take i,y=true)→Inv W→Calls Tryz.prog 210 #[fv] W fun e W'=>e= .returned (.bool (!x))∧Inv W')
 (h0:Inv w):Calls Tryz.prog 221 #[.slice (some ⟨b,0,none⟩) jN.length jN.length,.func (.func 210) #[] #[]] w (Cj bs Inv):=by
 have HC:=ah hcall;have HI:=ah hI;have HL:=ah hlen;clear hcall hI hlen;obtain ⟨N,hN⟩:∃N,N=jN.length:=⟨_,rfl⟩
 rw[←hN] at hsm ⊢;have HN:=ah hN;clear hN;go_enter Tryz.func221,Tryz.ntmps221;go_wp2
 go_loopw [8] (fun i wr=>∃k:Nat,k≤N∧i= .int .i64 k∧(∀y∈bs.take k,y=true)∧Inv wr) (fun i _=>N-(intOf i).toNat)
 case atStart=>exact ⟨0,Nat.zero_le _,rfl,by simp,h0⟩
 case round=>
  clear h0;obtain ⟨k,hk,rfl,hall,hinv⟩:=hrel;have HA:=ah hall;clear hall;by_cases hlt:k<N
  ·obtain ⟨fv,iw⟩:∃fv,jN[k]? =some fv:=⟨_,List.getElem?_eq_getElem (by rw[←HN.out];exact hlt)⟩
   obtain ⟨x,hx⟩:∃x,bs[k]? =some x:=⟨_,List.getElem?_eq_getElem (by rw[HL.out,←HN.out];exact hlt)⟩
   have hcl:=HC.out k fv x wr iw hx HA.out hinv;have hcell:=(HI.out wr hinv).cell k;rw[List.getElem?_toArray,iw] at hcell;have pV:=ah hcl;have HX:=ah hx;clear hcl iw hx;cases x with
   |true=>
    go_wp2_with (go_at_call 210;refine pV.out.mono ?_;rintro e w' ⟨rfl,hi'⟩)
    go_roundw
    case rel=>exact ⟨k+1,by omega,by go_num,by
     intro y hy;rw[List.take_add_one,HX.out,List.mem_append] at hy;rcases hy with hy|hy
     ·exact HA.out y hy
     ·simpa using hy,hi'⟩
    case measure=>simp[intOf];omega
   |false=>
    go_wp2_with (go_at_call 210;refine pV.out.mono ?_;rintro e w' ⟨rfl,hi'⟩);go_ret;refine ⟨.inl ⟨k,rfl,?_⟩,hi'⟩;rw[List.all_eq_false];exact ⟨false,List.mem_of_getElem? HX.out,by simp⟩
  ·have e:bs.take k=bs:=List.take_of_length_le (by rw[HL.out,←HN.out];omega);have hA:=HA.out;rw[e] at hA;have xP:=ah hA;clear hA e;go_wp2;go_ret;exact ⟨.inr ⟨rfl,by rw[List.all_eq_true];exact xP.out⟩,hinv⟩
theorem vN (b:Nat) (jN:List Value) (bs:List Bool) (Inv:World→Prop) (w:World)
 (h:Calls Tryz.prog 221 #[.slice (some ⟨b,0,none⟩) jN.length jN.length,.func (.func 210) #[] #[]] w (Cj bs Inv)):
 Calls Tryz.prog 206 #[.slice (some ⟨b,0,none⟩) jN.length jN.length,.func (.func 210) #[] #[]] w fun e w'=>e= .returned (.bool (!bs.all id))∧Inv w':=by
 have H:=ah h;clear h;go_enter Tryz.func206,Tryz.ntmps206;go_wp2_with fail;refine H.out.mono ?_;rintro e w' ⟨⟨k,rfl,ha⟩|⟨rfl,ha⟩,hi⟩
 ·have HA:=ah ha;clear ha;go_wp2;go_ret;exact ⟨bI (by rw[HA.out];rfl),hi⟩
 ·have HA:=ah ha;clear ha;go_wp2;go_ret;exact ⟨bI (by rw[HA.out];rfl),hi⟩
theorem OI (b:Nat) (jN:List Value) (bs:List Bool) (Inv:World→Prop) (w:World)
 (h:Calls Tryz.prog 206 #[.slice (some ⟨b,0,none⟩) jN.length jN.length,.func (.func 210) #[] #[]] w fun e w'=>e= .returned (.bool (!bs.all id))∧Inv w'):
 Calls Tryz.prog 192 #[.slice (some ⟨b,0,none⟩) jN.length jN.length] w fun e w'=>e= .returned (.bool (bs.all id))∧Inv w':=by
 have H:=ah h;clear h;go_enter Tryz.func192,Tryz.ntmps192;go_wp2_with fail;refine H.out.mono ?_;rintro e w' ⟨rfl,hi⟩;go_wp2;go_ret;exact ⟨bI (by simp),hi⟩
def bH (sn:Int) (po sg la:Bool) (off:Int) (s e:Bool) (A:Option Addr) (n c:Nat):Array Value:= #[.int .i64 sn,.bool po,.bool sg,.bool la,.int .i64 off,.bool s,.bool e,.slice A n c]
def mJ (sn:Int) (sg la:Bool) (off:Int) (ps:List (List UInt8)):List Bool:=
 [decide (0≤sn∧sn<1024),mG ps,if sg then decide (0≤off∧off≤32767-(aj ps:Int)) else !la&&decide (off=0)]
def gY (sn:Int) (sg la:Bool) (off:Int) (ps:List (List UInt8)):Bool:=(mJ sn sg la off ps).all id
theorem au.eight {w:World} {g:Nat} {t:TypeId} {x0 x1 x2 x3 x4 x5 x6 x7:Value} (b:au w g t #[x0,x1,x2,x3,x4,x5,x6,x7]):
 w.cell? ⟨g,0,none⟩=some x0∧w.cell? ⟨g,1,none⟩=some x1∧w.cell? ⟨g,2,none⟩=some x2∧w.cell? ⟨g,3,none⟩=some x3∧w.cell? ⟨g,4,none⟩=some x4∧w.cell? ⟨g,5,none⟩=some x5∧w.cell? ⟨g,6,none⟩=some x6∧w.cell? ⟨g,7,none⟩=some x7:=
 ⟨b.cell 0,b.cell 1,b.cell 2,b.cell 3,b.cell 4,b.cell 5,b.cell 6,b.cell 7⟩
section
variable (bp:Nat) (sn:Int) (po sg la:Bool) (off:Int) (s e:Bool) (A:Option Addr) (n c:Nat) (vs:List Value) (ps:List (List UInt8)) (w:World)
theorem Wl (hb:au w bp 148 (bH sn po sg la off s e A n c)):
 Calls Tryz.prog 190 #[.pointer (some ⟨bp,0,none⟩)] w fun e w'=>e= .returned (.bool (!la&&decide (off=0)))∧w=w':=by
 obtain ⟨x0,x1,x2,x3,x4,x5,x6,x7⟩:=hb.eight;have hd:(off==0)=decide (off=0):=by rw[Bool.eq_iff_iff];simp
 generalize decide (off=0)=d at*;cases la with
 |false=>
  go_enter Tryz.func190,Tryz.ntmps190;go_wp2;go_ret;exact ⟨rfl,rfl⟩
 |true=>
  go_enter Tryz.func190,Tryz.ntmps190;go_wp2;go_ret;exact ⟨rfl,rfl⟩
theorem Wm (hb:au w bp 148 (bH sn po sg la off s e A n c)):
 Calls Tryz.prog 193 #[.pointer (some ⟨bp,0,none⟩)] w fun e w'=>e= .returned (.bool (decide (0≤sn∧sn<1024)))∧w=w':=by
 obtain ⟨x0,x1,x2,x3,x4,x5,x6,x7⟩:=hb.eight;by_cases h0:0≤sn
 ·by_cases h1:sn<1024
  ·rw[decide_eq_true (p:=0≤sn∧sn<1024) ⟨h0,h1⟩];go_enter Tryz.func193,Tryz.ntmps193;go_wp2;go_ret;exact ⟨rfl,rfl⟩
  ·rw[decide_eq_false (p:=0≤sn∧sn<1024) (by omega)];go_enter Tryz.func193,Tryz.ntmps193;go_wp2;go_ret;exact ⟨rfl,rfl⟩
 ·rw[decide_eq_false (p:=0≤sn∧sn<1024) (by omega)];go_enter Tryz.func193,Tryz.ntmps193;go_wp2;go_ret;exact ⟨rfl,rfl⟩
theorem Wn (h:iO w w.heap.size A n c vs ps) (hn:n≤1048576) (hle:∀p∈ps,p.length≤1099511627776) (hb:au w bp 148 (bH sn po sg la off s e A n c)):
 Calls Tryz.prog 194 #[.pointer (some ⟨bp,0,none⟩)] w fun e w'=>e= .returned (.bool (mG ps))∧Below w.heap.size w w':=by
 obtain ⟨x0,x1,x2,x3,x4,x5,x6,x7⟩:=hb.eight;have hv:=LB s e A n c vs ps w h hn hle;have HV:=ah hv;clear hv hle;generalize mG ps=r at*;go_enter Tryz.func194,Tryz.ntmps194;go_wp2_with (go_at_call 195;refine HV.out.mono ?_;rintro e w' ⟨rfl,hb⟩);go_ret;exact ⟨rfl,hb⟩
set_option maxRecDepth 100000 in
set_option maxHeartbeats 800000 in
theorem Wo (h:iO w w.heap.size A n c vs ps) (hn:n≤1048576) (hle:∀p∈ps,p.length≤1099511627776) (hb:au w bp 148 (bH sn po sg la off s e A n c)):
 Calls Tryz.prog 191 #[.pointer (some ⟨bp,0,none⟩)] w fun e w'=>e= .returned (.bool (decide (0≤off∧off≤32767-(aj ps:Int))))∧Below w.heap.size w w':=by
 obtain ⟨x0,x1,x2,x3,x4,x5,x6,x7⟩:=hb.eight;by_cases h0:0≤off
 ·have hsz:=pU s e A n c vs ps w.drew h.drew' hn hle;have hsum:aj ps≤1152921504606846976:=by
   have:=DI ps _ hle;have h2:=h.len;have:1099511627776*ps.length≤1099511627776*1048576:=Nat.mul_le_mul_left _ (by omega);omega
  have HZ:=ah hsz;clear hsz hle;generalize aj ps=S at*;have hd0:decide (0≤off)=true:=by simpa using h0
  have hdd:decide (0≤off∧off≤32767-(S:Int))=decide (off≤32767-(S:Int)):=by simp[h0]
  rw[hdd];clear hdd;go_enter Tryz.func191,Tryz.ntmps191;go_wp2;have hbp:bp<w.drew.heap.size:=hb.lt
  go_region_held3 (fun w'=>w'.cell? ⟨bp,4,none⟩=some (.int .i64 off)∧w'.cell? ⟨bp,5,none⟩=some (.bool s)∧w'.cell? ⟨bp,6,none⟩=some (.bool e)∧w'.cell? ⟨bp,7,none⟩=some (.slice A n c))
   (first|(refine ⟨(hb1.cell (p:=⟨bp,4,none⟩) hbp).trans x4,(hb1.cell (p:=⟨bp,5,none⟩) hbp).trans x5,(hb1.cell (p:=⟨bp,6,none⟩) hbp).trans x6,(hb1.cell (p:=⟨bp,7,none⟩) hbp).trans x7⟩)|go_keep)
   ((go_at_call 88;refine HZ.out.mono ?_;rintro e1 w1 ⟨rfl,hb1⟩))
  go_wp2;go_ret;refine ⟨bI ?_,((Below.refl w.heap.size w).drew).trans hb1⟩;rw[IntWalk.i64_in _ (by omega)]
 ·rw[decide_eq_false (p:=0≤off∧off≤32767-(aj ps:Int)) (by omega)];have hd0:decide (0≤off)=false:=by simpa using h0
  clear hle h;go_enter Tryz.func191,Tryz.ntmps191;go_wp2
  go_quiet (fail)
  go_wp2;go_ret;exact ⟨rfl,(Below.refl _ w).drewN _⟩
theorem DX (EZ:Nat) (x:Bool) (hf:EZ=190∨EZ=191∨EZ=193∨EZ=194) (h:Calls Tryz.prog EZ #[.pointer (some ⟨bp,0,none⟩)] w fun e w'=>e= .returned (.bool x)∧Below w.heap.size w w'):
 Calls Tryz.prog 210 #[.func (.func EZ) #[] #[.pointer (some ⟨bp,0,none⟩)]] w fun e w'=>e= .returned (.bool (!x))∧Below w.heap.size w w':=by
 have H:=ah h;clear h;rcases hf with rfl|rfl|rfl|rfl
 ·go_enter Tryz.func210,Tryz.ntmps210;go_wp2_with (go_at_call 190;refine H.out.mono ?_;rintro e w' ⟨rfl,hb⟩);go_ret;exact ⟨rfl,hb⟩
 ·go_enter Tryz.func210,Tryz.ntmps210;go_wp2_with (go_at_call 191;refine H.out.mono ?_;rintro e w' ⟨rfl,hb⟩);go_ret;exact ⟨rfl,hb⟩
 ·go_enter Tryz.func210,Tryz.ntmps210;go_wp2_with (go_at_call 193;refine H.out.mono ?_;rintro e w' ⟨rfl,hb⟩);go_ret;exact ⟨rfl,hb⟩
 ·go_enter Tryz.func210,Tryz.ntmps210;go_wp2_with (go_at_call 194;refine H.out.mono ?_;rintro e w' ⟨rfl,hb⟩);go_ret;exact ⟨rfl,hb⟩
theorem Ja (b:Nat) (h:iO w w.heap.size A n c vs ps) (hn:n≤1048576) (hle:∀p∈ps,p.length≤1099511627776) (hbp:au w bp 148 (bH sn po sg la off s e A n c)) (f3:Nat) (hf3:f3=if sg then 191 else 190)
 (hb:au w b 26 #[.func (.func 193) #[] #[.pointer (some ⟨bp,0,none⟩)],.func (.func 194) #[] #[.pointer (some ⟨bp,0,none⟩)],.func (.func f3) #[] #[.pointer (some ⟨bp,0,none⟩)]]):
 Calls Tryz.prog 192 #[.slice (some ⟨b,0,none⟩) 3 3] w fun e w'=>e= .returned (.bool (gY sn sg la off ps))∧Below w.heap.size w w':=by
 refine OI b [.func (.func 193) #[] #[.pointer (some ⟨bp,0,none⟩)],.func (.func 194) #[] #[.pointer (some ⟨bp,0,none⟩)],.func (.func f3) #[] #[.pointer (some ⟨bp,0,none⟩)]] (mJ sn sg la off ps) (fun W=>Below w.heap.size w W) w ?_;refine vN b _ (mJ sn sg la off ps) (fun W=>Below w.heap.size w W) w ?_;refine Bl b _ (mJ sn sg la off ps) (fun W=>Below w.heap.size w W) w rfl (by simp) (fun W hW=>hb.below hW hb.lt) ?_ (Below.refl _ _);intro i fv x W iw hx hpre hW;have hS:=(h.below hW).more hW.size;have hbW:=hbp.below hW hbp.lt;have key:Calls Tryz.prog 210 #[fv] W fun e W'=>e= .returned (.bool (!x))∧Below W.heap.size W W':=by
  match i,iw,hx,hpre with
  |0,iw,hx,_=>
   simp only[mJ,List.getElem?_cons_zero,Option.some.injEq] at iw hx;subst iw hx;exact DX bp W 193 _ (by omega) ((Wm bp sn po sg la off s e A n c W hbW).mono fun e W' hh=>⟨hh.1,by rw[←hh.2];exact Below.refl _ _⟩)
  |1,iw,hx,_=>
   simp only[mJ,List.getElem?_cons_zero,List.getElem?_cons_succ,Option.some.injEq] at iw hx;subst iw hx;exact DX bp W 194 _ (by omega) (Wn bp sn po sg la off s e A n c vs ps W hS hn hle hbW)
  |2,iw,hx,_=>
   simp only[mJ,List.getElem?_cons_zero,List.getElem?_cons_succ,Option.some.injEq] at iw hx;subst iw hx;cases sg with
   |true=>
    simp only[if_true] at hf3 ⊢;subst hf3;exact DX bp W 191 _ (by omega) (Wo bp sn po true la off s e A n c vs ps W hS hn hle hbW)
   |false=>
    simp only[Bool.false_eq_true,if_false] at hf3 ⊢;subst hf3;exact DX bp W 190 _ (by omega) ((Wl bp sn po false la off s e A n c W hbW).mono fun e W' hh=>⟨hh.1,by rw[←hh.2];exact Below.refl _ _⟩)
  |i+3,iw,_,_=>simp at iw
 exact key.mono fun e W' hh=>⟨hh.1,hW.trans (hh.2.mono hW.size)⟩
set_option maxHeartbeats 800000 in
theorem su (h:iO w w.heap.size A n c vs ps) (hn:n≤1048576) (hle:∀p∈ps,p.length≤1099511627776):
 Calls Tryz.prog 152 #[.agg (bH sn po sg la off s e A n c)] w (VU (gY sn sg la off ps) w):=by
 have VO:=ah hle;clear hle;obtain ⟨f3,hf3⟩:∃f3,f3=if sg then 191 else 190:=⟨_,rfl⟩
 have hB:=(((Below.refl w.heap.size w).alloc (aN) (.cells (bH sn po sg la off s e A n c) 148))).alloc (by simp) (.cells #[.func (.func 193) #[] #[.pointer (some ⟨w.heap.size,0,none⟩)],.func (.func 194) #[] #[.pointer (some ⟨w.heap.size,0,none⟩)],.func (.func f3) #[] #[.pointer (some ⟨w.heap.size,0,none⟩)]] 26);have b0:=(au.new w 148 (bH sn po sg la off s e A n c)).alloc (.cells #[.func (.func 193) #[] #[.pointer (some ⟨w.heap.size,0,none⟩)],.func (.func 194) #[] #[.pointer (some ⟨w.heap.size,0,none⟩)],.func (.func f3) #[] #[.pointer (some ⟨w.heap.size,0,none⟩)]] 26);have b1:=au.new (w.alloc (.cells (bH sn po sg la off s e A n c) 148)) 26 #[.func (.func 193) #[] #[.pointer (some ⟨w.heap.size,0,none⟩)],.func (.func 194) #[] #[.pointer (some ⟨w.heap.size,0,none⟩)],.func (.func f3) #[] #[.pointer (some ⟨w.heap.size,0,none⟩)]];simp only[World.size_alloc] at b1;have hall:=Ja w.heap.size sn po sg la off s e A n c vs ps _ (w.heap.size+1) ((h.below hB).more hB.size) hn VO.out b0 f3 hf3 b1;have mZ:=ah hall;have HB:=ah hB;clear hall b0 b1 hB;generalize gY sn sg la off ps=r at*;unfold bH at*;cases sg with
 |true=>
  simp only[if_true] at hf3;subst hf3;go_enter Tryz.func152,Tryz.ntmps152;go_wp2_with (go_at_call 192;refine mZ.out.mono ?_;rintro e w' ⟨rfl,hb⟩);go_ret;exact ⟨rfl,HB.out.trans (hb.mono HB.out.size)⟩
 |false=>
  simp only[Bool.false_eq_true,if_false] at hf3;subst hf3;go_enter Tryz.func152,Tryz.ntmps152;go_wp2_with (go_at_call 192;refine mZ.out.mono ?_;rintro e w' ⟨rfl,hb⟩);go_ret;exact ⟨rfl,HB.out.trans (hb.mono HB.out.size)⟩
end
end Go.Proofs.YtbhiklnljiehiaaGreat
namespace Go.Proofs.YtbhiklnljiehiaaGreat
open Go.RowKit
theorem FL (b:Bool) (w:World):Calls Tryz.prog 171 #[.bool b] w fun e w'=>e= .returned (.int .u64 b.toNat)∧w=w':=by
 cases b
 ·go_enter Tryz.func171,Tryz.ntmps171;go_wp2;go_ret;exact ⟨rfl,rfl⟩
 ·go_enter Tryz.func171,Tryz.ntmps171;go_wp2;go_ret;exact ⟨rfl,rfl⟩
theorem jW (b:Bool) (w:World):Calls Tryz.prog 171 #[.bool b] w fun e w'=>e= .returned (.int .u64 b.toNat)∧w'=w:=(FL b w).mono fun _ _ h=>⟨h.1,h.2.symm⟩
def iL (po sg:Bool):List (Nat × Nat):= [(1,1),(sg.toNat,1),(po.toNat,1)]
def kg (sn:Nat) (s e:Bool) (n:Nat):List (Nat × Nat):= [((!s).toNat,1),((!e).toNat,1),((decide (1<n)).toNat,1),(sn,10)]
def mg (la:Bool) (off:Nat):List (Nat × Nat):= [(la.toNat,1),(off,15)]
def mK (sn:Nat) (po sg la:Bool) (off:Nat) (s e:Bool) (n:Nat):List Bool:=aH (iL po sg)++aH (kg sn s e n)++(if sg then aH (mg la off) else [])
theorem Bn (sn:Nat) (po sg la:Bool) (off:Nat) (s e:Bool) (n:Nat):(mK sn po sg la off s e n).length=if sg then 32 else 16:=by
 cases sg<;>simp[mK,aH,iL,kg,mg]
theorem sD {B g k:Nat} {cs:Array Value} {t:TypeId} (ht:t≠5) (hk:k≠g):¬Mw B g k (.cells cs t (0,0)):=by
 rintro ⟨_,e|⟨cs',fr,e⟩⟩
 ·exact hk e
 ·cases e;exact ht rfl
theorem nR.lt {w:World} {B g:Nat} {l:List Bool} (h:nR w B g l):g<w.heap.size:=by obtain ⟨_,v,hb,_⟩:=h;exact hb.lt
def xC (sn:Nat) (po sg la:Bool) (off:Nat) (s e:Bool) (ps:List (List UInt8)):List UInt8:=pack (mK sn po sg la off s e ps.length++dQ ps (ps.length-1))++ps.flatten
theorem yY (b:Bool):b.toNat≤1:=by cases b<;>simp
theorem Jb (b:Bool):(1:Nat)≤64∧b.toNat<2 ^ 1∧b.toNat<18446744073709551616:=⟨by omega,by have:=yY b;omega,by have:=yY b;omega⟩
structure Sc (sn:Int) (sg la:Bool) (off:Int) (ps:List (List UInt8)):Prop where
 sn0:0≤sn
 sn1:sn<1024
 vp:mG ps=true
 seg:sg=true→0≤off∧off≤32767-(aj ps:Int)
 whole:sg=false→la=false∧off=0
theorem sF (sn:Int) (sg la:Bool) (off:Int) (ps:List (List UInt8)):gY sn sg la off ps=true↔Sc sn sg la off ps:=by
 unfold gY mJ;simp only[List.all_cons,List.all_nil,Bool.and_true,id,Bool.and_eq_true,decide_eq_true_eq];constructor
 ·rintro ⟨⟨h1,h2⟩,h3,h4⟩;refine ⟨h1,h2,h3,fun hs=> ?_,fun hs=> ?_⟩
  ·subst hs;simpa using h4
  ·subst hs;simpa using h4
 ·rintro ⟨h1,h2,h3,h4,h5⟩;refine ⟨⟨h1,h2⟩,h3,?_⟩;cases sg with
  |true=>simpa using h4 rfl
  |false=>simpa using h5 rfl
set_option maxRecDepth 100000 in
set_option maxHeartbeats 4000000 in
theorem yZ (sn:Nat) (po sg la:Bool) (off:Nat) (s e:Bool) (A:Option Addr) (n c:Nat) (vs:List Value) (ps:List (List UInt8)) (w:World) (h:iO w w.heap.size A n c vs ps) (hv:gY sn sg la off ps=true) (hoff:off≤32767):
 Calls Tryz.prog 132 #[.agg (bH sn po sg la off s e A n c)] w (pX w.heap.size 5 w (xC sn po sg la off s e ps).length (bO (xC sn po sg la off s e ps)) 0):=by
 have hva:=(sF sn sg la off ps).1 hv;obtain ⟨hlo,hhi,hpos,hshort,hsum⟩:=(nT ps).1 hva.vp;have hsn:sn≤1023:=by have:=hva.sn1;omega
 have hlen:=h.len;have xD:∀p∈ps,p.length≤1099511627776:=fun p hp=>by have:=gW hp;omega
 have hB:=(Below.refl w.heap.size w).alloc (aN) (.cells (bH sn po sg la off s e A n c) 148);have Wp:=su sn po sg la off s e A n c vs ps _ ((h.below hB).more hB.size) (by omega) xD;rw[hv] at Wp;have HB:=ah hB;have HV:=ah Wp;have HL:=ah hlen;have HS:=ah hshort;have DY:=ah hsum;have bx:=au.new w 148 (bH sn po sg la off s e A n c);clear hB Wp hv hlen hpos hshort xD hva hsum;unfold bH at*;go_enter Tryz.func132,Tryz.ntmps132;go_wp2_with fail;refine HV.out.mono ?_;rintro e1 w1 ⟨rfl,hb1⟩;have hbw:Below w.heap.size w w1:=HB.out.trans (hb1.mono HB.out.size)
 replace bx:=bx.below hb1 bx.lt
 have hlt1:=bx.lt;clear HV hb1 HB;have hW2:nR (w1.alloc (.cells #[.slice none 0 0,.int .i64 0] 202)) w1.heap.size w1.heap.size []:=⟨aN,_,au.new w1 _ _,World.ownsRow_nil _ _ _ _⟩;have hbw2:=hbw.alloc hbw.size (.cells #[.slice none 0 0,.int .i64 0] 202);have hg2:w1.heap.size+1=(w1.alloc (.cells #[.slice none 0 0,.int .i64 0] 202)).heap.size:=by simp
 replace bx:=bx.alloc (.cells #[.slice none 0 0,.int .i64 0] 202)
 go_wp2_with fail;generalize w1.alloc (.cells #[.slice none 0 0,.int .i64 0] 202)=w2 at*;generalize w1.heap.size=g at*;clear hbw;obtain ⟨x0,x1,x2,x3,x4,x5,x6,x7⟩:=bx.eight;have x5':w2.drew.cell? ⟨w.heap.size,5,none⟩=some (.bool s):=x5;have x6':w2.drew.cell? ⟨w.heap.size,6,none⟩=some (.bool e):=x6;have x7':w2.drew.cell? ⟨w.heap.size,7,none⟩=some (.slice A n c):=x7;have hwl:w.heap.size<w2.heap.size:=bx.lt
 go_region
 go_wp2;have b5:=(au.new w2 145 #[.bool s,.bool e,.slice A n c]).drew
 replace bx:=(bx.alloc (.cells #[.bool s,.bool e,.slice A n c] 145)).drew
 replace hW2:nR (w2.alloc (.cells #[.bool s,.bool e,.slice A n c] 145)).drew g g []:=hW2.alloc _
 have OJ:=(hbw2.alloc hbw2.size (.cells #[.bool s,.bool e,.slice A n c] 145)).drew;generalize (w2.alloc (.cells #[.bool s,.bool e,.slice A n c] 145)).drew=w3 at*;rw[←hg2] at b5 ⊢;clear x0 x1 x2 x3 x4 x5 x6 x7 x5' x6' x7' hbw2 hwl hg2;obtain ⟨x0,x1,x2,x3,x4,x5,x6,x7⟩:=bx.eight;refine wp_region_still_tail 9 (by kernel_rfl) (by kernel_rfl) ?_;simp only[List.take_succ_cons,List.take_zero,List.drop_succ_cons,List.drop_zero]
 still_step
 still_step
 still_step
 still_call (jW _ _)
 still_step
 still_step
 still_step
 still_call (jW _ _)
 still_step
 refine wpStill_nil ?_;change wpList _ _ _ _ _ w3.drew
 replace hW2:nR w3.drew g g []:=hW2
 replace OJ:=OJ.drew
 replace bx:=bx.drew
 replace b5:=b5.drew
 generalize w3.drew=w4 at*;clear x0 x1 x2 x3 x4 x5 x6 x7;have hput:=jb g g w4.heap.size [] (iL po sg) (w4.alloc (.cells (bK (iL po sg)).toArray 206)) (hW2.alloc _) (by simp) (by simp[iL]) (au.new _ _ _) (by
  intro x hx;simp only[iL,List.mem_cons,List.not_mem_nil,or_false] at hx;rcases hx with rfl|rfl|rfl
  ·exact ⟨by omega,by decide,by omega⟩
  ·exact Jb sg
  ·exact Jb po)
 rw[List.nil_append] at hput;have Q0:bK (iL po sg)= [.int .u64 1,.int .i64 1,.int .u64 sg.toNat,.int .i64 1,.int .u64 po.toNat,.int .i64 1]:=rfl;have E5:(iL po sg).length=3:=rfl;rw[Q0,E5] at hput;have lT:=ah hput;clear hput Q0 E5;go_wp2_with fail;refine lT.out.mono ?_;rintro e5 w5 ⟨rfl,UE,hk5⟩;have hg4:=hW2.lt;have OL:=(OJ.alloc OJ.size _).trans ((hk5.below (B:=g) (fun _ _ h=>h.1) (by simp;omega)).mono (by omega))
 replace bx:=(bx.alloc _).kept hk5 (sD (by decide) (by omega))
 replace b5:=(b5.alloc _).kept hk5 (sD (by decide) (by omega))
 clear lT hW2 hk5 OJ hg4;obtain ⟨x0,x1,x2,x3,x4,x5,x6,x7⟩:=bx.eight;obtain ⟨y0,y1,y2⟩:=b5.three;have hwr:IntKind.u64.wrap (sn:Int)=sn:=by rw[IntKind.wrap_u64];omega
 have hdn:decide ((1:Int)<n)=decide (1<n):=by rw[Bool.eq_iff_iff];simp;omega
 go_wp2_with fail;refine wp_region_still_tail 18 (by kernel_rfl) (by kernel_rfl) ?_;simp only[List.take_succ_cons,List.take_zero,List.drop_succ_cons,List.drop_zero]
 still_step
 still_step
 still_step
 still_call (jW _ _)
 still_step
 still_step
 still_step
 still_step
 still_call (jW _ _)
 still_step
 still_step
 still_step
 still_call (jW _ _)
 still_step
 still_step
 still_step
 still_step
 still_step
 refine wpStill_nil ?_;change wpList _ _ _ _ _ w5.drew
 replace UE:nR w5.drew g g (aH (iL po sg)):=UE
 replace OL:=OL.drew
 replace bx:=bx.drew
 replace b5:=b5.drew
 generalize w5.drew=w6 at*;clear x0 x1 x2 x3 x4 x5 x6 x7 y0 y1 y2 hwr hdn;have hput:=jb g g w6.heap.size (aH (iL po sg)) (kg sn s e n) (w6.alloc (.cells (bK (kg sn s e n)).toArray 206)) (UE.alloc _) (by simp[aH,iL]) (by simp[kg]) (au.new _ _ _) (by
  intro x hx;simp only[kg,List.mem_cons,List.not_mem_nil,or_false] at hx;rcases hx with rfl|rfl|rfl|rfl
  ·exact Jb _
  ·exact Jb _
  ·exact Jb _
  ·exact ⟨by omega,by simp;omega,by omega⟩)
 have Q0:bK (kg sn s e n)= [.int .u64 (!s).toNat,.int .i64 1,.int .u64 (!e).toNat,.int .i64 1,.int .u64 (decide (1<n)).toNat,.int .i64 1,.int .u64 sn,.int .i64 10]:=rfl;have E5:(kg sn s e n).length=4:=rfl;rw[Q0,E5] at hput;have lT:=ah hput;clear hput Q0 E5;go_wp2_with fail;refine lT.out.mono ?_;rintro e7 w7 ⟨rfl,Oz,xU⟩;have Se:=UE.lt;have za:=(OL.alloc OL.size _).trans ((xU.below (B:=g) (fun _ _ h=>h.1) (by simp;omega)).mono (by omega))
 replace bx:=(bx.alloc _).kept xU (sD (by decide) (by omega))
 replace b5:=(b5.alloc _).kept xU (sD (by decide) (by omega))
 clear lT UE xU OL Se;obtain ⟨x0,x1,x2,x3,x4,x5,x6,x7⟩:=bx.eight;go_upto_if 50 with (fail)
 go_cut [] (fun wx=>nR wx g g (mK sn po sg la off s e n)∧Below w.heap.size w wx∧au wx (g+1) 145 #[.bool s,.bool e,.slice A n c])
 case first=>
  cases sg with
  |false=>
   go_wp2_with fail;go_meet;exact ⟨by simpa[mK] using Oz,za,b5⟩
  |true=>
   have hwr:IntKind.u64.wrap (off:Int)=off:=by rw[IntKind.wrap_u64];omega
   go_wp2_with fail;refine wp_region_still_tail 8 (by kernel_rfl) (by kernel_rfl) ?_;simp only[List.take_succ_cons,List.take_zero,List.drop_succ_cons,List.drop_zero]
   still_step
   still_step
   still_call (jW _ _)
   still_step
   still_step
   still_step
   still_step
   still_step
   refine wpStill_nil ?_;change wpList _ _ _ _ _ w7.drew
   replace Oz:nR w7.drew g g (aH (iL po true)++aH (kg sn s e n)):=Oz
   replace za:=za.drew
   replace b5:=b5.drew
   generalize w7.drew=w8 at*;clear x0 x1 x2 x3 x4 x5 x6 x7 hwr;have hput:=jb g g w8.heap.size _ (mg la off) (w8.alloc (.cells (bK (mg la off)).toArray 206)) (Oz.alloc _) (by simp[aH,iL,kg]) (by simp[mg]) (au.new _ _ _) (by
    intro x hx;simp only[mg,List.mem_cons,List.not_mem_nil,or_false] at hx;rcases hx with rfl|rfl
    ·exact Jb _
    ·exact ⟨by omega,by simp;omega,by omega⟩)
   have Q0:bK (mg la off)= [.int .u64 la.toNat,.int .i64 1,.int .u64 off,.int .i64 15]:=rfl;have E5:(mg la off).length=2:=rfl;rw[Q0,E5] at hput;have lT:=ah hput;clear hput Q0 E5;go_wp2_with fail;refine lT.out.mono ?_;rintro e9 w9 ⟨rfl,hW9,R9⟩;have Sf:=Oz.lt;have aeo:=(za.alloc za.size _).trans ((R9.below (B:=g) (fun _ _ h=>h.1) (by simp;omega)).mono (by omega))
   replace b5:=(b5.alloc _).kept R9 (sD (by decide) (by omega))
   clear lT;go_wp2_with fail;go_meet;exact ⟨by simpa[mK] using hW9,aeo,b5⟩
 case rest=>
  clear Oz za b5 bx x0 x1 x2 x3 x4 x5 x6 x7;obtain ⟨V6,RZ,b1⟩:=hcut;obtain ⟨y0,y1,c12⟩:=b1.three;have Zw:=Bn sn po sg la off s e n;have ZJ:(mK sn po sg la off s e n).length≤32∧(mK sn po sg la off s e n).length%8=0:=by rw[Zw];split<;>omega
  have Zx:=ah ZJ;have henc:xC sn po sg la off s e ps=pack (mK sn po sg la off s e n++dQ ps (n-1))++ps.flatten:=by rw[←HL.out];rfl
  have HE:=ah henc;clear henc Zw ZJ;generalize hH:mK sn po sg la off s e n=H at*;generalize hEE:xC sn po sg la off s e ps=EE at*;clear hH hEE;have hcap:=h.sl.cap;have hmx:=h.sl.mx;obtain ⟨m,hm⟩:∃m,n=m+1:=⟨n-1,by have:=HL.out;omega⟩
  subst hm;have em:m+1-1=m:=by omega
  rw[em] at HE;clear em;have hm63:m≤63:=by have:=HL.out;omega
  rw[show ((m+1:Nat):Int)=(m:Int)+1 from by omega];go_wp2
  go_loopw [67] (fun i wr=>∃k:Nat,k≤m∧i= .int .i64 k∧nR wr g g (H++dQ ps k)∧Kept (Mw g g) wc wr) (fun i _=>m-(intOf i).toNat)
  case atStart=>exact ⟨0,Nat.zero_le _,rfl,by simpa[dQ] using V6,Kept.refl _ _⟩
  case round=>
   obtain ⟨k,hk,rfl,Oy,UD⟩:=hrel;have I4:=UD.below (B:=g) (fun _ _ h=>h.1) (by have:=V6.lt;omega);have I5:=RZ.trans (I4.mono (by omega));by_cases hlt:k<m
   ·obtain ⟨ad,Ai,ci,rfl,hb,hc,hsl⟩:=(h.below I5).get (k:=k) (by omega);have hp:=HS.out k (by rw[HL.out];omega);have hls:=DD ps k;have hlf:ng ps k= [((decide (k+2<m+1)).toNat,1),((ps[k]?.getD []).length,11)]:=by unfold ng;rw[HL.out]
    rw[hlf] at hls;generalize ps[k]?.getD []=p at*;have HLS:=ah hls;clear hls hlf;obtain ⟨d,hd⟩:∃d:Bool,decide (k+2<m+1)=d:=⟨_,rfl⟩
    have hd':decide ((k:Int)+2<(m:Int)+1)=d:=by rw[←hd,Bool.eq_iff_iff];simp;omega
    rw[hd] at HLS;clear hd;have hwp:IntKind.u64.wrap (p.length:Int)=p.length:=by rw[IntKind.wrap_u64];omega
    have hlk:(H++dQ ps k).length<1000000:=by
     rw[List.length_append];have:=pW ps k;have:=Zx.out.1;omega
    have hput:=jb g g wr.heap.size (H++dQ ps k) [(d.toNat,1),(p.length,11)] (wr.alloc (.cells (bK [(d.toNat,1),(p.length,11)]).toArray 206)) (Oy.alloc _) hlk (by simp) (au.new _ _ _) (by
     intro x hx;simp only[List.mem_cons,List.not_mem_nil,or_false] at hx;rcases hx with rfl|rfl
     ·exact Jb d
     ·exact ⟨by omega,by simp;omega,by omega⟩)
    simp only[bK,List.length_cons,List.length_nil,Nat.zero_add,Nat.reduceAdd] at hput;have lT:=ah hput;clear hput hlk;go_wp2_with fail;refine (FL _ _).mono ?_;rintro e5 w5 ⟨rfl,rfl⟩;go_wp2_with fail;refine lT.out.mono ?_;rintro e6 w6 ⟨rfl,hW6,lg⟩;clear lT;go_wp2
    go_roundw
    case rel=>exact ⟨k+1,by omega,by go_num,by rw[HLS.out,←List.append_assoc];exact hW6,(UD.alloc _).trans lg⟩
    case measure=>simp[intOf];omega
   ·obtain rfl:k=m:=by omega
    clear hlt hk;have ZK:(H++dQ ps k).length≤32+12*k:=by rw[List.length_append,pW];have:=Zx.out.1;omega
    have hgr:g<wr.heap.size:=Oy.lt;have hal:=IG g g _ wr Oy (by omega);have r9:=ah hal;have ZL:=ah ZK;clear hal ZK;go_wp2_with (go_at_call 172;refine r9.out.mono ?_;rintro e7 w7 ⟨rfl,Oz,xU⟩);obtain ⟨i0,hi,hz0,hz1,hz2⟩:=info_parts qK;have hpk:pack (H++dQ ps k++List.replicate (8*bJ (H++dQ ps k).length-(H++dQ ps k).length) false)=pack (H++dQ ps k):=Fq _ _ (by unfold bJ;omega);have hpl:(pack (H++dQ ps k)).length≤1000:=by have e:=pN (H++dQ ps k);have:=ZL.out;unfold bJ at e;omega
    have YA:(H++dQ ps k++List.replicate (8*bJ (H++dQ ps k).length-(H++dQ ps k).length) false).length<1000000000:=by
     have e:=ZL.out;rw[List.length_append,List.length_replicate];unfold bJ;omega
    rw[←hpk] at HE hpl;clear hpk;generalize H++dQ ps k++List.replicate (8*bJ (H++dQ ps k).length-(H++dQ ps k).length) false=L at*;have R4:=xU.below (B:=g) (fun _ _ h=>h.1) (by omega);have za:=I5.trans (R4.mono (by omega));have b17:=(b1.kept UD (sD (by decide) (by omega))).kept xU (sD (by decide) (by omega));have c7:=b17.cell 2;simp at c7;have rC:=h.below za;have Bo:=ah hpl;clear xU I5 I4 UD Oy r9 b1 c12 V6 RZ hpl;have HLl:=ah YA;clear YA;have hwl:=b17.lt;have hws:=za.size
    go_region_held3 (fun w'=>w'.cell? ⟨g+1,2,none⟩=some (.slice A (k+1) c))
     (first|(rw[KH.cell_far _ (by simp;omega) (fun e=>by have:=(NE.lt _ e.symm).1;simp at this;omega)];assumption)|(rw[oq.cell (p:=⟨g+1,2,none⟩) (by simp;omega)];assumption)|(rw[OM.cell (p:=⟨g+1,2,none⟩) (by simp;omega)];assumption)|go_keep)
     (first
      |(
       go_at_call 124
       refine (Ce g g L w7.drew Oz HLl.out).mono ?_;rintro e8 w8 ⟨v8,rfl,NE,OM⟩;have hz8:w7.heap.size≤w8.heap.size:=OM.size)
      |(
       go_at_call 173
       refine (yE A (k+1) c vs ps w8 (((rC.drew').below (OM.mono (by simp;omega))).more (by have:=OM.size;simp at this;omega)) (by have:=DY.out;omega)).mono ?_;rintro e9 w9 ⟨v9,rfl,NF,oq⟩;obtain ⟨A9,c9,rfl,hs9,_⟩:=bq NF;have hz9:w8.heap.size≤w9.heap.size:=oq.size)
      |(
       refine fu _ (by rfl) _ _ 31 (by rfl) w7.heap.size 5 i0 (.int .u8 0) 1 und29 hi hz0 hz1 hz2 rfl v8 (pack L).length (bO (pack L)) (by rfl) (own_below NE oq (aN)) w9.heap.size A9 (aj ps) c9 (bO ps.flatten) (by rfl) hs9 (Du _) (by have:=DY.out;have:=Bo.out;unfold maxLen;omega) (by have:=DY.out;have:=Bo.out;omega) (by have:=OM.size;have:=oq.size;simp at*;omega) ?_;intro v10 OO Wq KH ahC))
    go_wp2
    go_ret2
    refine ⟨v10,rfl,?_,((za.drew.trans (OM.mono za.size)).trans (oq.mono (by omega))).grown KH (by omega) (fun j hj=>by have:=(NE.lt j hj).1;simp at this;omega)⟩;have hfl:EE.length=(pack L).length+aj ps:=by rw[HE.out,List.length_append,lu]
    rw[hfl,HE.out];have:=aU Wq (base':=w.heap.size) (by omega);simpa[bO] using this
end Go.Proofs.YtbhiklnljiehiaaGreat
