/- law30: same, num, few, fails. law30: wor. -/
import Derived.Test.YtbhiklnljiehiaaGreatM3ae
import Derived.Laws.IdiomStrings
import Derived.Laws.BytesArg
import Derived.Lib.SlBytesConst
import Derived.Lib.BufferRead
import Derived.Lib.SmallJoins
import Derived.Deep.DeepCutAuto
set_option maxHeartbeats 4000000
set_option maxRecDepth 100000
namespace Go.Proofs.YtbhiklnljiehiaaGreat
open RowKit Tryz
theorem und5:prog.underlying 5=some (.int .u8):=by kernel_rfl
theorem afd:prog.underlying 9=some .string:=by kernel_rfl
theorem zY {w:World} {B n c:Nat} {A:Option Addr} {l:List UInt8} (h:Sl w B A n c (dz l)):(convert 31 9 (.slice A n c)).run prog w= .ok (.string ⟨l.toArray⟩) w:=by
 have hl:l.length=n:=by simpa using h.len
 subst hl;rcases A with _|a
 ·have h0:l.length=0:=by
   rcases oV l.length with h0|h0
   ·exact h0
   ·obtain ⟨_,e,_⟩:=h.at_ h0;cases e
  have:l= []:=nV h0;subst this;exact Lib.run_convert_nil_bytes w 31 9 5 c und29 und5 afd
 ·refine run_convert_bytes_back w 31 9 5 a c l und29 und5 afd (fun j hj=> ?_);obtain ⟨ad,e,_,hc⟩:=h.at_ (by omega);injection e with e
  subst e;refine hc j _ ?_;unfold dz;rw[oW,gX hj];rfl
theorem BK {w:World} {b:Nat} {cs:Array Value} {t:TypeId} {fr:Nat × Nat} {xs:List Value} (h:w.heap[b]? =some (.cells cs t fr)) (e:cs.toList=xs) (hn:xs.length<=9223372036854775807):Sl w w (some ⟨b,0,none⟩) xs.length xs.length xs:=
 ⟨rfl,aL,hn,fun _=>⟨_,rfl,lt_of_heap h,fun j u hu=>by rw[<-e] at hu;exact World.news_of_block h j u hu⟩⟩
theorem sN (w:World) (o:Obj):(w.alloc o).heap[w.heap.size]? =some o:=Et w o
def afe (w wr:World):Prop:=∃q,w.drewN q=wr
theorem av.three {w:World} {g:Nat} {t:TypeId} {x y z:Value} (b:av w g t #[x,y,z]):w.cell? g=some x/\w.cell? ⟨g,1,none⟩=some y/\w.cell? ⟨g,2,none⟩=some z:=
 ⟨b.cell 0,b.cell 1,b.cell 2⟩
theorem Hr (b:Nat) (ng:List Value) (bs:List Bool) (Inv:World->Prop) (w:World) (hlen:bs.length=ng.length) (hsm:ng.length<=1000) (hI:∀W,Inv W->av W b 26 ng.toArray)
 (hcall:∀(i:Nat) (fv:Value) (x:Bool) (W:World),ng[i]? =some fv->bs[i]? =some x->(∀y∈bs.take i,y=true)->Inv W->Calls prog 210 #[fv] W fun e W'=>e= .returned (.bool (!x))/\Inv W')
 (h0:Inv w):Calls prog 221 #[.slice (some ⟨b,0,none⟩) ng.length ng.length,.func (.func 210) #[] #[]] w (IV bs Inv):=by
 have HC:=ah hcall;have HI:=ah hI;have HL:=ah hlen;clear hcall hI hlen;obtain ⟨N,hN⟩:∃N,N=ng.length:=⟨_,rfl⟩
 rw[<-hN] at hsm ⊢;have HN:=ah hN;clear hN;go_enter func221,ntmps221;go_wp2
 go_loopw [8] (fun i wr=>∃k:Nat,k<=N/\i= .int .i64 k/\(∀y∈bs.take k,y=true)/\Inv wr) (fun i _=>N-(intOf i).toNat)
 case atStart=>exact ⟨0,eH _,rfl,by simp,h0⟩
 case round=>
  clear h0;obtain ⟨k,hk,rfl,hall,hinv⟩:=hrel;have HA:=ah hall;clear hall;by_cases hlt:k<N
  ·obtain ⟨fv,jE⟩:∃fv,ng[k]? =some fv:=⟨_,gX (by rw[<-HN.out];exact hlt)⟩
   obtain ⟨x,hx⟩:∃x,bs[k]? =some x:=⟨_,gX (by rw[HL.out,<-HN.out];exact hlt)⟩
   have hcl:=HC.out k fv x wr jE hx HA.out hinv;have hcell:=(HI.out wr hinv).cell k;rw[nW,jE] at hcell;have yB:=ah hcl;have HX:=ah hx;clear hcl jE hx;cases x with
   |true=>
    go_wp2_with (go_at_call 210;refine yB.out.mono ?_;rintro e w' ⟨rfl,hi'⟩)
    go_roundw
    case rel=>exact ⟨k+1,by omega,by go_num,by
     intro y hy;rw[pX,HX.out,iH] at hy;rcases hy with hy|hy
     ·exact HA.out y hy
     ·simpa using hy,hi'⟩
    case measure=>simp[intOf];omega
   |false=>
    go_wp2_with (go_at_call 210;refine yB.out.mono ?_;rintro e w' ⟨rfl,hi'⟩);go_ret;refine ⟨.inl ⟨k,rfl,?_⟩,hi'⟩;rw[List.all_eq_false];exact ⟨false,iT HX.out,by simp⟩
  ·have e:bs.take k=bs:=kI (by rw[HL.out,<-HN.out];omega);have hA:=HA.out;rw[e] at hA;have DU:=ah hA;clear hA e;go_wp2;go_ret;exact ⟨.inr ⟨rfl,by rw[Dq];exact DU.out⟩,hinv⟩
theorem BL (b:Nat) (ng:List Value) (bs:List Bool) (Inv:World->Prop) (w:World)
 (h:Calls prog 221 #[.slice (some ⟨b,0,none⟩) ng.length ng.length,.func (.func 210) #[] #[]] w (IV bs Inv)):
 Calls prog 206 #[.slice (some ⟨b,0,none⟩) ng.length ng.length,.func (.func 210) #[] #[]] w fun e w'=>e= .returned (.bool (!bs.all id))/\Inv w':=by
 have H:=ah h;clear h;go_enter func206,ntmps206;go_wp2_with fail;refine H.out.mono ?_;rintro e w' ⟨⟨k,rfl,ha⟩|⟨rfl,ha⟩,hi⟩
 ·have HA:=ah ha;clear ha;go_wp2;go_ret;exact ⟨dm (by rw[HA.out];rfl),hi⟩
 ·have HA:=ah ha;clear ha;go_wp2;go_ret;exact ⟨dm (by rw[HA.out];rfl),hi⟩
theorem Un (b:Nat) (ng:List Value) (bs:List Bool) (Inv:World->Prop) (w:World)
 (h:Calls prog 206 #[.slice (some ⟨b,0,none⟩) ng.length ng.length,.func (.func 210) #[] #[]] w fun e w'=>e= .returned (.bool (!bs.all id))/\Inv w'):
 Calls prog 192 #[.slice (some ⟨b,0,none⟩) ng.length ng.length] w fun e w'=>e= .returned (.bool (bs.all id))/\Inv w':=by
 have H:=ah h;clear h;go_enter func192,ntmps192;go_wp2_with fail;refine H.out.mono ?_;rintro e w' ⟨rfl,hi⟩;go_wp2;go_ret;exact ⟨dm (by simp),hi⟩
def dh (sn:Int) (po sg la:Bool) (off:Int) (s e:Bool) (A:Option Addr) (n c:Nat):Array Value:= #[sn,.bool po,.bool sg,.bool la,off,.bool s,.bool e,.slice A n c]
def rQ (sn:Int) (sg la:Bool) (off:Int) (ps:List (List UInt8)):List Bool:=
 [decide (0<=sn/\sn<1024),rM ps,if sg then decide (0<=off/\off<=32767-(aj ps:Int)) else !la&&decide (off=0)]
def iZ (sn:Int) (sg la:Bool) (off:Int) (ps:List (List UInt8)):Bool:=(rQ sn sg la off ps).all id
theorem av.eight {w:World} {g:Nat} {t:TypeId} {x0 x1 x2 x3 x4 x5 x6 x7:Value} (b:av w g t #[x0,x1,x2,x3,x4,x5,x6,x7]):
 w.cell? g=some x0/\w.cell? ⟨g,1,none⟩=some x1/\w.cell? ⟨g,2,none⟩=some x2/\w.cell? ⟨g,3,none⟩=some x3/\w.cell? ⟨g,4,none⟩=some x4/\w.cell? ⟨g,5,none⟩=some x5/\w.cell? ⟨g,6,none⟩=some x6/\w.cell? ⟨g,7,none⟩=some x7:=
 ⟨b.cell 0,b.cell 1,b.cell 2,b.cell 3,b.cell 4,b.cell 5,b.cell 6,b.cell 7⟩
section
variable (bp:Nat) (sn:Int) (po sg la:Bool) (off:Int) (s e:Bool) (A:Option Addr) (n c:Nat) (vs:List Value) (ps:List (List UInt8)) (w:World)
theorem abx (hb:av w bp 148 (dh sn po sg la off s e A n c)):
 Calls prog 190 #[.pointer (some bp)] w fun e w'=>e= .returned (.bool (!la&&decide (off=0)))/\w=w':=by
 obtain ⟨x0,x1,x2,x3,x4,x5,x6,x7⟩:=hb.eight;have hd:(off==0)=decide (off=0):=by rw[mr];simp
 generalize decide (off=0)=d at*;cases la with
 |false=>
  go_enter func190,ntmps190;go_wp2;go_ret;exact ⟨rfl,rfl⟩
 |true=>
  go_enter func190,ntmps190;go_wp2;go_ret;exact ⟨rfl,rfl⟩
theorem aby (hb:av w bp 148 (dh sn po sg la off s e A n c)):
 Calls prog 193 #[.pointer (some bp)] w fun e w'=>e= .returned (.bool (decide (0<=sn/\sn<1024)))/\w=w':=by
 obtain ⟨x0,x1,x2,x3,x4,x5,x6,x7⟩:=hb.eight;by_cases h0:0<=sn
 ·by_cases h1:sn<1024
  ·rw[iK (p:=0<=sn/\sn<1024) ⟨h0,h1⟩];go_enter func193,ntmps193;go_wp2;go_ret;exact ⟨rfl,rfl⟩
  ·rw[iP (p:=0<=sn/\sn<1024) (by omega)];go_enter func193,ntmps193;go_wp2;go_ret;exact ⟨rfl,rfl⟩
 ·rw[iP (p:=0<=sn/\sn<1024) (by omega)];go_enter func193,ntmps193;go_wp2;go_ret;exact ⟨rfl,rfl⟩
theorem abz (h:jW w w A n c vs ps) (hn:n<=1048576) (hle:∀p∈ps,p.length<=1099511627776) (hb:av w bp 148 (dh sn po sg la off s e A n c)):
 Calls prog 194 #[.pointer (some bp)] w fun e w'=>e= .returned (.bool (rM ps))/\Below w w w':=by
 obtain ⟨x0,x1,x2,x3,x4,x5,x6,x7⟩:=hb.eight;have hv:=Ry s e A n c vs ps w h hn hle;have HV:=ah hv;clear hv hle;generalize rM ps=r at*;go_enter func194,ntmps194;go_wp2_with (go_at_call 195;refine HV.out.mono ?_;rintro e w' ⟨rfl,hb⟩);go_ret;exact ⟨rfl,hb⟩
theorem abA (h:jW w w A n c vs ps) (hn:n<=1048576) (hle:∀p∈ps,p.length<=1099511627776) (hb:av w bp 148 (dh sn po sg la off s e A n c)):
 Calls prog 191 #[.pointer (some bp)] w fun e w'=>e= .returned (.bool (decide (0<=off/\off<=32767-(aj ps:Int))))/\Below w w w':=by
 obtain ⟨x0,x1,x2,x3,x4,x5,x6,x7⟩:=hb.eight;by_cases h0:0<=off
 ·have hsz:=vX s e A n c vs ps w.drew h.drew' hn hle;have hsum:aj ps<=1152921504606846976:=by
   have:=Kh ps _ hle;have h2:=h.len;have:1099511627776*ps.length<=1099511627776*1048576:=Nat.mul_le_mul_left _ (by omega);omega
  have HZ:=ah hsz;clear hsz hle;generalize aj ps=S at*;have hd0:decide (0<=off)=true:=by simpa using h0
  have hdd:decide (0<=off/\off<=32767-(S:Int))=decide (off<=32767-(S:Int)):=by simp[h0]
  rw[hdd];clear hdd;go_enter func191,ntmps191;go_wp2;have hbp:bp<w.drew.heap.size:=hb.lt
  go_region_held3 (fun w'=>w'.cell? ⟨bp,4,none⟩=some (.int .i64 off)/\w'.cell? ⟨bp,5,none⟩=some (.bool s)/\w'.cell? ⟨bp,6,none⟩=some (.bool e)/\w'.cell? ⟨bp,7,none⟩=some (.slice A n c))
   (first|(refine ⟨(hb1.cell (p:=⟨bp,4,none⟩) hbp).trans x4,(hb1.cell (p:=⟨bp,5,none⟩) hbp).trans x5,(hb1.cell (p:=⟨bp,6,none⟩) hbp).trans x6,(hb1.cell (p:=⟨bp,7,none⟩) hbp).trans x7⟩)|go_keep)
   ((go_at_call 88;refine HZ.out.mono ?_;rintro e1 w1 ⟨rfl,hb1⟩))
  go_wp2;go_ret;refine ⟨dm ?_,((bS w w).drew).trans hb1⟩;rw[iG _ (by omega)]
 ·rw[iP (p:=0<=off/\off<=32767-(aj ps:Int)) (by omega)];have hd0:decide (0<=off)=false:=by simpa using h0
  clear hle h;go_enter func191,ntmps191;go_wp2
  go_quiet (fail)
  go_wp2;go_ret;exact ⟨rfl,(bS _ w).drewN _⟩
theorem Ki (LG:Nat) (x:Bool) (hf:LG=190\/LG=191\/LG=193\/LG=194) (h:Calls prog LG #[.pointer (some bp)] w fun e w'=>e= .returned (.bool x)/\Below w w w'):
 Calls prog 210 #[.func (.func LG) #[] #[.pointer (some bp)]] w fun e w'=>e= .returned (.bool (!x))/\Below w w w':=by
 have H:=ah h;clear h;rcases hf with rfl|rfl|rfl|rfl
 ·go_enter func210,ntmps210;go_wp2_with (go_at_call 190;refine H.out.mono ?_;rintro e w' ⟨rfl,hb⟩);go_ret;exact ⟨rfl,hb⟩
 ·go_enter func210,ntmps210;go_wp2_with (go_at_call 191;refine H.out.mono ?_;rintro e w' ⟨rfl,hb⟩);go_ret;exact ⟨rfl,hb⟩
 ·go_enter func210,ntmps210;go_wp2_with (go_at_call 193;refine H.out.mono ?_;rintro e w' ⟨rfl,hb⟩);go_ret;exact ⟨rfl,hb⟩
 ·go_enter func210,ntmps210;go_wp2_with (go_at_call 194;refine H.out.mono ?_;rintro e w' ⟨rfl,hb⟩);go_ret;exact ⟨rfl,hb⟩
theorem OI (b:Nat) (h:jW w w A n c vs ps) (hn:n<=1048576) (hle:∀p∈ps,p.length<=1099511627776) (hbp:av w bp 148 (dh sn po sg la off s e A n c)) (f3:Nat) (hf3:f3=if sg then 191 else 190)
 (hb:av w b 26 #[.func (.func 193) #[] #[.pointer (some bp)],.func (.func 194) #[] #[.pointer (some bp)],.func (.func f3) #[] #[.pointer (some bp)]]):
 Calls prog 192 #[.slice (some ⟨b,0,none⟩) 3 3] w fun e w'=>e= .returned (.bool (iZ sn sg la off ps))/\Below w w w':=by
 refine Un b [.func (.func 193) #[] #[.pointer (some bp)],.func (.func 194) #[] #[.pointer (some bp)],.func (.func f3) #[] #[.pointer (some bp)]] (rQ sn sg la off ps) (fun W=>Below w w W) w ?_;refine BL b _ (rQ sn sg la off ps) (fun W=>Below w w W) w ?_;refine Hr b _ (rQ sn sg la off ps) (fun W=>Below w w W) w rfl (by simp) (fun W hW=>hb.below hW hb.lt) ?_ (bS _ _);intro i fv x W jE hx hpre hW;have hS:=(h.below hW).more hW.size;have hbW:=hbp.below hW hbp.lt;have key:Calls prog 210 #[fv] W fun e W'=>e= .returned (.bool (!x))/\Below W W W':=by
  match i,jE,hx,hpre with
  |0,jE,hx,_=>
   simp only[rQ,oH,sj] at jE hx;subst jE hx;exact Ki bp W 193 _ (by omega) ((aby bp sn po sg la off s e A n c W hbW).mono fun e W' hh=>⟨hh.1,by rw[<-hh.2];exact bS _ _⟩)
  |1,jE,hx,_=>
   simp only[rQ,oH,Dn,sj] at jE hx;subst jE hx;exact Ki bp W 194 _ (by omega) (abz bp sn po sg la off s e A n c vs ps W hS hn hle hbW)
  |2,jE,hx,_=>
   simp only[rQ,oH,Dn,sj] at jE hx;subst jE hx;cases sg with
   |true=>
    simp only[kE] at hf3 ⊢;subst hf3;exact Ki bp W 191 _ (by omega) (abA bp sn po true la off s e A n c vs ps W hS hn hle hbW)
   |false=>
    simp only[mq,l7] at hf3 ⊢;subst hf3;exact Ki bp W 190 _ (by omega) ((abx bp sn po false la off s e A n c W hbW).mono fun e W' hh=>⟨hh.1,by rw[<-hh.2];exact bS _ _⟩)
  |i+3,jE,_,_=>simp at jE
 exact key.mono fun e W' hh=>⟨hh.1,hW.trans (hh.2.mono hW.size)⟩
theorem yC (h:jW w w A n c vs ps) (hn:n<=1048576) (hle:∀p∈ps,p.length<=1099511627776):
 Calls prog 152 #[.agg (dh sn po sg la off s e A n c)] w (abw (iZ sn sg la off ps) w):=by
 have HLE:=ah hle;clear hle;obtain ⟨f3,hf3⟩:∃f3,f3=if sg then 191 else 190:=⟨_,rfl⟩
 have hB:=(((bS w w).alloc (aL) (.cells (dh sn po sg la off s e A n c) 148))).alloc (by simp) (.cells #[.func (.func 193) #[] #[.pointer (some w)],.func (.func 194) #[] #[.pointer (some w)],.func (.func f3) #[] #[.pointer (some w)]] 26);have b0:=(av.new w 148 (dh sn po sg la off s e A n c)).alloc (.cells #[.func (.func 193) #[] #[.pointer (some w)],.func (.func 194) #[] #[.pointer (some w)],.func (.func f3) #[] #[.pointer (some w)]] 26);have b1:=av.new (w.alloc (.cells (dh sn po sg la off s e A n c) 148)) 26 #[.func (.func 193) #[] #[.pointer (some w)],.func (.func 194) #[] #[.pointer (some w)],.func (.func f3) #[] #[.pointer (some w)]];simp only[mZ] at b1;have hall:=OI w sn po sg la off s e A n c vs ps _ (w+1) ((h.below hB).more hB.size) hn HLE.out b0 f3 hf3 b1;have qM:=ah hall;have HB:=ah hB;clear hall b0 b1 hB;generalize iZ sn sg la off ps=r at*;unfold dh at*;cases sg with
 |true=>
  simp only[kE] at hf3;subst hf3;go_enter func152,ntmps152;go_wp2_with (go_at_call 192;refine qM.out.mono ?_;rintro e w' ⟨rfl,hb⟩);go_ret;exact ⟨rfl,HB.out.trans (hb.mono HB.out.size)⟩
 |false=>
  simp only[mq,l7] at hf3;subst hf3;go_enter func152,ntmps152;go_wp2_with (go_at_call 192;refine qM.out.mono ?_;rintro e w' ⟨rfl,hb⟩);go_ret;exact ⟨rfl,HB.out.trans (hb.mono HB.out.size)⟩
end
theorem Mg (b:Bool) (w:World):Calls prog 171 #[.bool b] w fun e w'=>e= .returned (.int .u64 b.toNat)/\w=w':=by
 cases b
 ·go_enter func171,ntmps171;go_wp2;go_ret;exact ⟨rfl,rfl⟩
 ·go_enter func171,ntmps171;go_wp2;go_ret;exact ⟨rfl,rfl⟩
theorem nJ (b:Bool) (w:World):Calls prog 171 #[.bool b] w fun e w'=>e= .returned (.int .u64 b.toNat)/\w'=w:=(Mg b w).mono fun _ _ h=>⟨h.1,h.2.symm⟩
def jD (po sg:Bool):List (Nat × Nat):= [(1,1),(sg.toNat,1),(po.toNat,1)]
def mK (sn:Nat) (s e:Bool) (n:Nat):List (Nat × Nat):= [((!s).toNat,1),((!e).toNat,1),((decide (1<n)).toNat,1),(sn,10)]
def pF (la:Bool) (off:Nat):List (Nat × Nat):= [(la.toNat,1),(off,15)]
def mM (sn:Nat) (po sg la:Bool) (off:Nat) (s e:Bool) (n:Nat):List Bool:=aC (jD po sg)++aC (mK sn s e n)++(if sg then aC (pF la off) else [])
theorem rR (sn:Nat) (po sg la:Bool) (off:Nat) (s e:Bool) (n:Nat):(mM sn po sg la off s e n).length=if sg then 32 else 16:=by
 cases sg<;>simp[mM,aC,jD,mK,pF]
theorem yD {B g k:Nat} {cs:Array Value} {t:TypeId} (ht:t≠5) (hk:k≠g):¬Mw B g k (.cells cs t (0,0)):=by
 rintro ⟨_,e|⟨cs',fr,e⟩⟩
 ·exact hk e
 ·cases e;exact ht rfl
theorem tV.lt {w:World} {B g:Nat} {l:List Bool} (h:tV w B g l):g<w:=by obtain ⟨_,v,hb,_⟩:=h;exact hb.lt
def qO (sn:Nat) (po sg la:Bool) (off:Nat) (s e:Bool) (ps:List (List UInt8)):List UInt8:=pack (mM sn po sg la off s e ps.length++fE ps (ps.length-1))++ps.flatten
theorem EU (b:Bool):b.toNat<=1:=by cases b<;>simp
theorem OJ (b:Bool):(1:Nat)<=64/\b.toNat<2 ^ 1/\b.toNat<18446744073709551616:=⟨by omega,by have:=EU b;omega,by have:=EU b;omega⟩
structure XP (sn:Int) (sg la:Bool) (off:Int) (ps:List (List UInt8)):Prop where
 sn0:0<=sn
 sn1:sn<1024
 vp:rM ps=true
 seg:sg=true->0<=off/\off<=32767-(aj ps:Int)
 whole:sg=false->la=false/\off=0
theorem qo (sn:Int) (sg la:Bool) (off:Int) (ps:List (List UInt8)):iZ sn sg la off ps=true↔XP sn sg la off ps:=by
 unfold iZ rQ;simp only[List.all_cons,List.all_nil,Bool.and_true,id,gD,gY];constructor
 ·rintro ⟨⟨h1,h2⟩,h3,h4⟩;refine ⟨h1,h2,h3,fun hs=> ?_,fun hs=> ?_⟩
  ·subst hs;simpa using h4
  ·subst hs;simpa using h4
 ·rintro ⟨h1,h2,h3,h4,h5⟩;refine ⟨⟨h1,h2⟩,h3,?_⟩;cases sg with
  |true=>simpa using h4 rfl
  |false=>simpa using h5 rfl
theorem EV (sn:Nat) (po sg la:Bool) (off:Nat) (s e:Bool) (A:Option Addr) (n c:Nat) (vs:List Value) (ps:List (List UInt8)) (w:World) (h:jW w w A n c vs ps) (hv:iZ sn sg la off ps=true) (hoff:off<=32767):
 Calls prog 132 #[.agg (dh sn po sg la off s e A n c)] w (vY w 5 w (qO sn po sg la off s e ps).length (dz (qO sn po sg la off s e ps)) 0):=by
 have hva:=(qo sn sg la off ps).1 hv;obtain ⟨hlo,hhi,hpos,hshort,hsum⟩:=(nI ps).1 hva.vp;have hsn:sn<=1023:=by have:=hva.sn1;omega
 have hlen:=h.len;have Dx:∀p∈ps,p.length<=1099511627776:=fun p hp=>by have:=jw hp;omega
 have hB:=(bS w w).alloc (aL) (.cells (dh sn po sg la off s e A n c) 148);have WW:=yC sn po sg la off s e A n c vs ps _ ((h.below hB).more hB.size) (by omega) Dx;rw[hv] at WW;have HB:=ah hB;have HV:=ah WW;have HL:=ah hlen;have HS:=ah hshort;have Kj:=ah hsum;have bx:=av.new w 148 (dh sn po sg la off s e A n c);clear hB WW hv hlen hpos hshort Dx hva hsum;unfold dh at*;go_enter func132,ntmps132;go_wp2_with fail;refine HV.out.mono ?_;rintro e1 w1 ⟨rfl,hb1⟩;have hbw:Below w w w1:=HB.out.trans (hb1.mono HB.out.size)
 replace bx:=bx.below hb1 bx.lt
 have hlt1:=bx.lt;clear HV hb1 HB;have hW2:tV (w1.alloc (.cells #[.slice none 0 0,.int .i64 0] 202)) w1 w1.heap.size []:=⟨aL,_,av.new w1 _ _,jl _ _ _ _⟩;have hbw2:=hbw.alloc hbw.size (.cells #[.slice none 0 0,.int .i64 0] 202);have hg2:w1.heap.size+1=(w1.alloc (.cells #[.slice none 0 0,.int .i64 0] 202)).heap.size:=by simp
 replace bx:=bx.alloc (.cells #[.slice none 0 0,.int .i64 0] 202)
 go_wp2_with fail;generalize w1.alloc (.cells #[.slice none 0 0,.int .i64 0] 202)=w2 at*;generalize w1.heap.size=g at*;clear hbw;obtain ⟨x0,x1,x2,x3,x4,x5,x6,x7⟩:=bx.eight;have x5':w2.drew.cell? ⟨w,5,none⟩=some (.bool s):=x5;have x6':w2.drew.cell? ⟨w,6,none⟩=some (.bool e):=x6;have x7':w2.drew.cell? ⟨w,7,none⟩=some (.slice A n c):=x7;have hwl:w.heap.size<w2.heap.size:=bx.lt
 go_region
 go_wp2;have b5:=(av.new w2 145 #[.bool s,.bool e,.slice A n c]).drew
 replace bx:=(bx.alloc (.cells #[.bool s,.bool e,.slice A n c] 145)).drew
 replace hW2:tV (w2.alloc (.cells #[.bool s,.bool e,.slice A n c] 145)).drew g g []:=hW2.alloc _
 have Uo:=(hbw2.alloc hbw2.size (.cells #[.bool s,.bool e,.slice A n c] 145)).drew;generalize (w2.alloc (.cells #[.bool s,.bool e,.slice A n c] 145)).drew=w3 at*;rw[<-hg2] at b5 ⊢;clear x0 x1 x2 x3 x4 x5 x6 x7 x5' x6' x7' hbw2 hwl hg2;obtain ⟨x0,x1,x2,x3,x4,x5,x6,x7⟩:=bx.eight;refine wp_region_still_tail 9 (by kernel_rfl) (by kernel_rfl) ?_;simp only[kJ,nu,pV,ny]
 still_step
 still_step
 still_step
 still_call (nJ _ _)
 still_step
 still_step
 still_step
 still_call (nJ _ _)
 still_step
 refine oK ?_;change wpList _ _ _ _ _ w3.drew
 replace hW2:tV w3.drew g g []:=hW2
 replace Uo:=Uo.drew
 replace bx:=bx.drew
 replace b5:=b5.drew
 generalize w3.drew=w4 at*;clear x0 x1 x2 x3 x4 x5 x6 x7;have hput:=lg g g w4 [] (jD po sg) (w4.alloc (.cells (dA (jD po sg)).toArray 206)) (hW2.alloc _) (by simp) (by simp[jD]) (av.new _ _ _) (by
  intro x hx;simp only[jD,nE,Dp,uQ] at hx;rcases hx with rfl|rfl|rfl
  ·exact ⟨by omega,by decide,by omega⟩
  ·exact OJ sg
  ·exact OJ po)
 rw[pY] at hput;have TB:dA (jD po sg)= [.int .u64 1,.int .i64 1,.int .u64 sg.toNat,.int .i64 1,.int .u64 po.toNat,.int .i64 1]:=rfl;have GJ:(jD po sg).length=3:=rfl;rw[TB,GJ] at hput;have qL:=ah hput;clear hput TB GJ;go_wp2_with fail;refine qL.out.mono ?_;rintro e5 w5 ⟨rfl,ZW,hk5⟩;have hg4:=hW2.lt;have Up:=(Uo.alloc Uo.size _).trans ((hk5.below (B:=g) (fun _ _ h=>h.1) (by simp;omega)).mono (by omega))
 replace bx:=(bx.alloc _).kept hk5 (yD (by decide) (by omega))
 replace b5:=(b5.alloc _).kept hk5 (yD (by decide) (by omega))
 clear qL hW2 hk5 Uo hg4;obtain ⟨x0,x1,x2,x3,x4,x5,x6,x7⟩:=bx.eight;obtain ⟨y0,y1,y2⟩:=b5.three;have hwr:IntKind.u64.wrap (sn:Int)=sn:=by rw[Cz];omega
 have hdn:decide ((1:Int)<n)=decide (1<n):=by rw[mr];simp;omega
 go_wp2_with fail;refine wp_region_still_tail 18 (by kernel_rfl) (by kernel_rfl) ?_;simp only[kJ,nu,pV,ny]
 still_step
 still_step
 still_step
 still_call (nJ _ _)
 still_step
 still_step
 still_step
 still_step
 still_call (nJ _ _)
 still_step
 still_step
 still_step
 still_call (nJ _ _)
 still_step
 still_step
 still_step
 still_step
 still_step
 refine oK ?_;change wpList _ _ _ _ _ w5.drew
 replace ZW:tV w5.drew g g (aC (jD po sg)):=ZW
 replace Up:=Up.drew
 replace bx:=bx.drew
 replace b5:=b5.drew
 generalize w5.drew=w6 at*;clear x0 x1 x2 x3 x4 x5 x6 x7 y0 y1 y2 hwr hdn;have hput:=lg g g w6 (aC (jD po sg)) (mK sn s e n) (w6.alloc (.cells (dA (mK sn s e n)).toArray 206)) (ZW.alloc _) (by simp[aC,jD]) (by simp[mK]) (av.new _ _ _) (by
  intro x hx;simp only[mK,nE,Dp,uQ] at hx;rcases hx with rfl|rfl|rfl|rfl
  ·exact OJ _
  ·exact OJ _
  ·exact OJ _
  ·exact ⟨by omega,by simp;omega,by omega⟩)
 have TB:dA (mK sn s e n)= [.int .u64 (!s).toNat,.int .i64 1,.int .u64 (!e).toNat,.int .i64 1,.int .u64 (decide (1<n)).toNat,.int .i64 1,.int .u64 sn,.int .i64 10]:=rfl;have GJ:(mK sn s e n).length=4:=rfl;rw[TB,GJ] at hput;have qL:=ah hput;clear hput TB GJ;go_wp2_with fail;refine qL.out.mono ?_;rintro e7 w7 ⟨rfl,Uq,DW⟩;have XQ:=ZW.lt;have EW:=(Up.alloc Up.size _).trans ((DW.below (B:=g) (fun _ _ h=>h.1) (by simp;omega)).mono (by omega))
 replace bx:=(bx.alloc _).kept DW (yD (by decide) (by omega))
 replace b5:=(b5.alloc _).kept DW (yD (by decide) (by omega))
 clear qL ZW DW Up XQ;obtain ⟨x0,x1,x2,x3,x4,x5,x6,x7⟩:=bx.eight;go_upto_if 50 with (fail)
 go_cut [] (fun wx=>tV wx g g (mM sn po sg la off s e n)/\Below w w wx/\av wx (g+1) 145 #[.bool s,.bool e,.slice A n c])
 case first=>
  cases sg with
  |false=>
   go_wp2_with fail;go_meet;exact ⟨by simpa[mM] using Uq,EW,b5⟩
  |true=>
   have hwr:IntKind.u64.wrap (off:Int)=off:=by rw[Cz];omega
   go_wp2_with fail;refine wp_region_still_tail 8 (by kernel_rfl) (by kernel_rfl) ?_;simp only[kJ,nu,pV,ny]
   still_step
   still_step
   still_call (nJ _ _)
   still_step
   still_step
   still_step
   still_step
   still_step
   refine oK ?_;change wpList _ _ _ _ _ w7.drew
   replace Uq:tV w7.drew g g (aC (jD po true)++aC (mK sn s e n)):=Uq
   replace EW:=EW.drew
   replace b5:=b5.drew
   generalize w7.drew=w8 at*;clear x0 x1 x2 x3 x4 x5 x6 x7 hwr;have hput:=lg g g w8 _ (pF la off) (w8.alloc (.cells (dA (pF la off)).toArray 206)) (Uq.alloc _) (by simp[aC,jD,mK]) (by simp[pF]) (av.new _ _ _) (by
    intro x hx;simp only[pF,nE,Dp,uQ] at hx;rcases hx with rfl|rfl
    ·exact OJ _
    ·exact ⟨by omega,by simp;omega,by omega⟩)
   have TB:dA (pF la off)= [.int .u64 la.toNat,.int .i64 1,.int .u64 off,.int .i64 15]:=rfl;have GJ:(pF la off).length=2:=rfl;rw[TB,GJ] at hput;have qL:=ah hput;clear hput TB GJ;go_wp2_with fail;refine qL.out.mono ?_;rintro e9 w9 ⟨rfl,hW9,XR⟩;have XT:=Uq.lt;have akh:=(EW.alloc EW.size _).trans ((XR.below (B:=g) (fun _ _ h=>h.1) (by simp;omega)).mono (by omega))
   replace b5:=(b5.alloc _).kept XR (yD (by decide) (by omega))
   clear qL;go_wp2_with fail;go_meet;exact ⟨by simpa[mM] using hW9,akh,b5⟩
 case rest=>
  clear Uq EW b5 bx x0 x1 x2 x3 x4 x5 x6 x7;obtain ⟨hW4,XU,b1⟩:=hcut;obtain ⟨y0,y1,c12⟩:=b1.three;have hlH:=rR sn po sg la off s e n;have afg:(mM sn po sg la off s e n).length<=32/\(mM sn po sg la off s e n).length%8=0:=by rw[hlH];split<;>omega
  have HLH:=ah afg;have henc:qO sn po sg la off s e ps=pack (mM sn po sg la off s e n++fE ps (n-1))++ps.flatten:=by rw[<-HL.out];rfl
  have HE:=ah henc;clear henc hlH afg;generalize hH:mM sn po sg la off s e n=H at*;generalize hEE:qO sn po sg la off s e ps=EE at*;clear hH hEE;have hcap:=h.sl.cap;have hmx:=h.sl.mx;obtain ⟨m,hm⟩:∃m,n=m+1:=⟨n-1,by have:=HL.out;omega⟩
  subst hm;have em:m+1-1=m:=by omega
  rw[em] at HE;clear em;have hm63:m<=63:=by have:=HL.out;omega
  rw[show ((m+1:Nat):Int)=(m:Int)+1 from by omega];go_wp2
  go_loopw [67] (fun i wr=>∃k:Nat,k<=m/\i= .int .i64 k/\tV wr g g (H++fE ps k)/\Kept (Mw g g) wc wr) (fun i _=>m-(intOf i).toNat)
  case atStart=>exact ⟨0,eH _,rfl,by simpa[fE] using hW4,Kept.refl _ _⟩
  case round=>
   obtain ⟨k,hk,rfl,Ur,ZX⟩:=hrel;have OL:=ZX.below (B:=g) (fun _ _ h=>h.1) (by have:=hW4.lt;omega);have OM:=XU.trans (OL.mono (by omega));by_cases hlt:k<m
   ·obtain ⟨ad,Ai,ci,rfl,hb,hc,hsl⟩:=(h.below OM).get (k:=k) (by omega);have hp:=HS.out k (by rw[HL.out];omega);have hls:=J7 ps k;have hlf:mF ps k= [((decide (k+2<m+1)).toNat,1),((ps[k]?.getD []).length,11)]:=by unfold mF;rw[HL.out]
    rw[hlf] at hls;generalize ps[k]?.getD []=p at*;have HLS:=ah hls;clear hls hlf;obtain ⟨d,hd⟩:∃d:Bool,decide (k+2<m+1)=d:=⟨_,rfl⟩
    have hd':decide ((k:Int)+2<(m:Int)+1)=d:=by rw[<-hd,mr];simp;omega
    rw[hd] at HLS;clear hd;have hwp:IntKind.u64.wrap (p.length:Int)=p.length:=by rw[Cz];omega
    have hlk:(H++fE ps k).length<1000000:=by
     rw[l8];have:=qg ps k;have:=HLH.out.1;omega
    have hput:=lg g g wr (H++fE ps k) [(d.toNat,1),(p.length,11)] (wr.alloc (.cells (dA [(d.toNat,1),(p.length,11)]).toArray 206)) (Ur.alloc _) hlk (by simp) (av.new _ _ _) (by
     intro x hx;simp only[nE,Dp,uQ] at hx;rcases hx with rfl|rfl
     ·exact OJ d
     ·exact ⟨by omega,by simp;omega,by omega⟩)
    simp only[dA,jh,gQ,jA,Nat.reduceAdd] at hput;have qL:=ah hput;clear hput hlk;go_wp2_with fail;refine (Mg _ _).mono ?_;rintro e5 w5 ⟨rfl,rfl⟩;go_wp2_with fail;refine qL.out.mono ?_;rintro e6 w6 ⟨rfl,hW6,qP⟩;clear qL;go_wp2
    go_roundw
    case rel=>exact ⟨k+1,by omega,by go_num,by rw[HLS.out,<-oJ];exact hW6,(ZX.alloc _).trans qP⟩
    case measure=>simp[intOf];omega
   ·obtain rfl:k=m:=by omega
    clear hlt hk;have afi:(H++fE ps k).length<=32+12*k:=by rw[l8,qg];have:=HLH.out.1;omega
    have hgr:g<wr:=Ur.lt;have hal:=Ox g g _ wr Ur (by omega);have yE:=ah hal;have afj:=ah afi;clear hal afi;go_wp2_with (go_at_call 172;refine yE.out.mono ?_;rintro e7 w7 ⟨rfl,Uq,DW⟩);obtain ⟨i0,hi,hz0,hz1,hz2⟩:=vz xg;have hpk:pack (H++fE ps k++List.replicate (8*bI (H++fE ps k).length-(H++fE ps k).length) false)=pack (H++fE ps k):=L5 _ _ (by unfold bI;omega);have hpl:(pack (H++fE ps k)).length<=1000:=by have e:=ji (H++fE ps k);have:=afj.out;unfold bI at e;omega
    have hLl:(H++fE ps k++List.replicate (8*bI (H++fE ps k).length-(H++fE ps k).length) false).length<1000000000:=by
     have e:=afj.out;rw[l8,LQ];unfold bI;omega
    rw[<-hpk] at HE hpl;clear hpk;generalize H++fE ps k++List.replicate (8*bI (H++fE ps k).length-(H++fE ps k).length) false=L at*;have XV:=DW.below (B:=g) (fun _ _ h=>h.1) (by omega);have EW:=OM.trans (XV.mono (by omega));have b17:=(b1.kept ZX (yD (by decide) (by omega))).kept DW (yD (by decide) (by omega));have c7:=b17.cell 2;simp at c7;have hS7:=h.below EW;have Kk:=ah hpl;clear DW OM OL ZX Ur yE b1 c12 hW4 XU hpl;have HLl:=ah hLl;clear hLl;have hwl:=b17.lt;have hws:=EW.size
    go_region_held3 (fun w'=>w'.cell? ⟨g+1,2,none⟩=some (.slice A (k+1) c))
     (first|(rw[QF.cell_far _ (by simp;omega) (fun e=>by have:=(OO.lt _ e.symm).1;simp at this;omega)];assumption)|(rw[yF.cell (p:=⟨g+1,2,none⟩) (by simp;omega)];assumption)|(rw[OP.cell (p:=⟨g+1,2,none⟩) (by simp;omega)];assumption)|go_keep)
     (first
      |(
       go_at_call 124
       refine (IK g g L w7.drew Uq HLl.out).mono ?_;rintro e8 w8 ⟨v8,rfl,OO,OP⟩;have hz8:w7.heap.size<=w8.heap.size:=OP.size)
      |(
       go_at_call 173
       refine (ED A (k+1) c vs ps w8 (((hS7.drew').below (OP.mono (by simp;omega))).more (by have:=OP.size;simp at this;omega)) (by have:=Kj.out;omega)).mono ?_;rintro e9 w9 ⟨v9,rfl,TC,yF⟩;obtain ⟨A9,c9,rfl,hs9,_⟩:=aY TC;have hz9:w8.heap.size<=w9.heap.size:=yF.size)
      |(
       refine fA _ (by rfl) _ _ 31 (by rfl) w7 5 i0 (.int .u8 0) 1 und29 hi hz0 hz1 hz2 rfl v8 (pack L).length (dz (pack L)) (by rfl) (own_below OO yF (aL)) w9 A9 (aj ps) c9 (dz ps.flatten) (by rfl) hs9 (J2 _) (by have:=Kj.out;have:=Kk.out;unfold maxLen;omega) (by have:=Kj.out;have:=Kk.out;omega) (by have:=OP.size;have:=yF.size;simp at*;omega) ?_;intro v10 WX abC QF anD))
    go_wp2
    go_ret2
    refine ⟨v10,rfl,?_,((EW.drew.trans (OP.mono EW.size)).trans (yF.mono (by omega))).grown QF (by omega) (fun j hj=>by have:=(OO.lt j hj).1;simp at this;omega)⟩;have hfl:EE.length=(pack L).length+aj ps:=by rw[HE.out,l8,jH]
    rw[hfl,HE.out];have:=bF abC (base':=w.heap.size) (by omega);simpa[dz] using this
end Go.Proofs.YtbhiklnljiehiaaGreat
