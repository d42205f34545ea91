/- law37: AmNone walked. Arguments opened: a call of law37. -/
import Derived.Test.YtbhiklnljiehiaaGreatM0aa
import Derived.Test.YtbhiklnljiehiaaGreatM0az
import Derived.Deep.Strs
namespace Go.Proofs.YtbhiklnljiehiaaGreat
section
open Go.RowKit Go.Shelf
attribute [local go_sem] Oper.semAt_some
def aaj (w:World) (e:Ending) (w':World):Prop:=e= .returned (.bool true)∧Below w.heap.size w w'
theorem SC (w:World):(binOp .eql 65 (.agg #[.int .i64 0,.int .i64 0,.int .i64 0,.int .i64 0,.int .i64 0,.bool false,.int .i64 0,.bool false,.int .i64 0,.bool false]) (.agg #[.int .i64 0,.int .i64 0,.int .i64 0,.int .i64 0,.int .i64 0,.bool false,.int .i64 0,.bool false,.int .i64 0,.bool false])).run Tryz.prog w= .ok (.bool true) w:=by kernel_rfl
theorem SE (w:World):(binOp .eql 68 (.agg #[.int .i64 0,.int .i64 0,.int .i64 0,.bool false,.int .i64 0,.int .i64 0,.bool false,.int .i64 0]) (.agg #[.int .i64 0,.int .i64 0,.int .i64 0,.bool false,.int .i64 0,.int .i64 0,.bool false,.int .i64 0])).run Tryz.prog w= .ok (.bool true) w:=by kernel_rfl
set_option maxRecDepth 100000 in
set_option maxHeartbeats 4000000 in
theorem IR (k now N:Int) (A:Option Addr) (n c:Nat) (zero:Bool) (w:World) (hn:n≤c∧c≤9223372036854775807):
 Calls Tryz.prog 5 #[.agg (nH k now N A n c),.bool zero] w (aaj w):=by
 have b0:=au.new w 46 (nH k now N A n c);have hb0:Below w.heap.size w ((w.alloc (.cells (nH k now N A n c) 46)).alloc (.cells (nH k now N A n c) 46)):=((Below.refl w.heap.size w).alloc (Nat.le_refl _) _).alloc (by simp) _;have b1:au ((w.alloc (.cells (nH k now N A n c) 46)).alloc (.cells (nH k now N A n c) 46)) (w.heap.size+1) 46 (nH k now N A n c):=by simpa using au.new (w.alloc (.cells (nH k now N A n c) 46)) 46 (nH k now N A n c)
 have hfe:=KW _ k now N A n c _ b1 hn.1 hn.2;have HFE:=Lib.hid hfe;have HB1:=Lib.hid hb0;have H1:=Lib.hid (b0.alloc (.cells (nH k now N A n c) 46));have hnc:=hn.1;have hcm:=hn.2;clear hfe b0 hb0 b1 hn;unfold nH at*;go_enter Tryz.func5,Tryz.ntmps5;go_wp2_with fail;generalize (w.alloc (.cells #[.int .i64 k,.int .i64 now,.int .i64 N,.slice A n c] 46)).alloc (.cells #[.int .i64 k,.int .i64 now,.int .i64 N,.slice A n c] 46)=w1 at*;refine HFE.out.mono ?_;rintro e1 w2 ⟨rfl,rfl⟩;clear HFE;obtain ⟨b,hb⟩:∃b,decide (n≤300)=b:=⟨_,rfl⟩
 rw[hb];clear hb;cases b with
 |false=>
  go_wp2_with fail;refine (qf _).mono ?_;rintro e1 w3 ⟨rfl,hb3⟩;go_wp2;go_ret;exact ⟨rfl,HB1.out.trans (hb3.mono HB1.out.size)⟩
 |true=>
  cases zero with
  |false=>
   have HN:=Lib.hid (fun (W:World) (hW:Below w1.heap.size w1 W)=>(show iQ W (.pointer none) from .inl rfl));have H2:=H1;have uj:=HB1;have MJ:=Lib.hid (fun (W:World) (hW:Below w1.heap.size w1 W)=>(vY (HN.out W hW) now N).mono (fun e w' hh=>(⟨hh.1,hW.trans (hh.2.mono hW.size)⟩:e= .returned (.tuple #[.slice none 0 0,.int .i64 1])∧Below w1.heap.size w1 w')));have NP:=Lib.hid (fun (W:World) (hW:Below w1.heap.size w1 W)=>(qN (HN.out W hW) now A n c).mono (fun e w' hh=>(⟨hh.1,hW.trans (hh.2.mono hW.size)⟩:e= .returned (.tuple #[.slice none 0 0,.int .i64 1])∧Below w1.heap.size w1 w')));have I5:=Lib.hid (fun (W:World) (hW:Below w1.heap.size w1 W)=>(tZ (HN.out W hW) A n c).mono (fun e w' hh=>(⟨hh.1,hW.trans (hh.2.mono hW.size)⟩:e= .returned (.int .i64 1)∧Below w1.heap.size w1 w')));have HTI:=Lib.hid (fun (W:World) (hW:Below w1.heap.size w1 W)=>(zB (HN.out W hW) now).mono (fun e w' hh=>(⟨hh.1,hW.trans (hh.2.mono hW.size)⟩:e= .returned (.int .i64 1)∧Below w1.heap.size w1 w')));have HBU:=Lib.hid (fun (W:World) (hW:Below w1.heap.size w1 W)=>(qg (HN.out W hW)).mono (fun e w' hh=>(⟨hh.1,hW.trans (hh.2.mono hW.size)⟩:e= .returned (.int .i64 0)∧Below w1.heap.size w1 w')));have DV:=Lib.hid (fun (W:World) (hW:Below w1.heap.size w1 W)=>(qM (HN.out W hW) now).mono (fun e w' hh=>(⟨hh.1,hW.trans (hh.2.mono hW.size)⟩:e= .returned (.bool false)∧Below w1.heap.size w1 w')))
   have QO:=Lib.hid (fun (W:World) (hW:Below w1.heap.size w1 W)=>(oI (HN.out W hW)).mono (fun e w' hh=>(⟨hh.1,hW.trans (hh.2.mono hW.size)⟩:e= .returned (.int .i64 0)∧Below w1.heap.size w1 w')));have HUN:=Lib.hid (fun (W:World) (hW:Below w1.heap.size w1 W)=>(uf (HN.out W hW)).mono (fun e w' hh=>(⟨hh.1,hW.trans (hh.2.mono hW.size)⟩:e= .returned (.slice none 0 0)∧Below w1.heap.size w1 w')));have Wy:=Lib.hid (fun (W:World) (hW:Below w1.heap.size w1 W)=>(ug (HN.out W hW)).mono (fun e w' hh=>(⟨hh.1,hW.trans (hh.2.mono hW.size)⟩:e= .returned (.bool false)∧Below w1.heap.size w1 w')));have HSE:=Lib.hid (fun (W:World) (hW:Below w1.heap.size w1 W)=>(jW (HN.out W hW)).mono (fun e w' hh=>(⟨hh.1,hW.trans (hh.2.mono hW.size)⟩:e= .returned (.agg #[.int .i64 0,.int .i64 0,.int .i64 0,.int .i64 0,.int .i64 0,.bool false,.int .i64 0,.bool false,.int .i64 0,.bool false])∧Below w1.heap.size w1 w')));have HRV:=Lib.hid (fun (W:World) (hW:Below w1.heap.size w1 W)=>(oJ (HN.out W hW)).mono (fun e w' hh=>(⟨hh.1,hW.trans (hh.2.mono hW.size)⟩:e= .returned (.agg #[.int .i64 0,.int .i64 0,.int .i64 0,.bool false,.int .i64 0,.int .i64 0,.bool false,.int .i64 0])∧Below w1.heap.size w1 w')));have V6:=Lib.hid (fun (W:World) (hW:Below w1.heap.size w1 W)=>(zA (HN.out W hW)).mono (fun e w' hh=>(⟨hh.1,hW.trans (hh.2.mono hW.size)⟩:e= .returned (.pointer none)∧Below w1.heap.size w1 w')))
   have HWO:=Lib.hid (fun (W:World) (hW:Below w1.heap.size w1 W)=>(qf W).mono (fun e w' hh=>(⟨hh.1,hW.trans (hh.2.mono hW.size)⟩:e= .returned (.bool true)∧Below w1.heap.size w1 w')));have HC:=Lib.hid (fun (W:World) (hW:Below w1.heap.size w1 W)=>(show W.cell? ⟨w.heap.size,1,none⟩=some (.int .i64 now)∧W.cell? ⟨w.heap.size,2,none⟩=some (.int .i64 N)∧W.cell? ⟨w.heap.size,3,none⟩=some (.slice A n c) from ⟨(H2.out.below hW H2.out.lt).cell 1,(H2.out.below hW H2.out.lt).cell 2,(H2.out.below hW H2.out.lt).cell 3⟩));have ig:=Below.refl w1.heap.size w1;have q65:=SC;have q68:=SE;obtain ⟨c1,c2,c3⟩:=HC.out _ ig;go_wp2_with (first
    |(go_at_call 20;refine (nG _ _).mono ?_;rintro e1 w9 ⟨rfl,rfl⟩)
    |(go_at_call 18;refine (MJ.out _ (by assumption)).mono ?_;rintro e1 w9 ⟨rfl,ig⟩;obtain ⟨c1,c2,c3⟩:=HC.out _ ig)
    |(go_at_call 19;refine (NP.out _ (by assumption)).mono ?_;rintro e1 w9 ⟨rfl,ig⟩;obtain ⟨c1,c2,c3⟩:=HC.out _ ig)
    |(go_at_call 21;refine (I5.out _ (by assumption)).mono ?_;rintro e1 w9 ⟨rfl,ig⟩;obtain ⟨c1,c2,c3⟩:=HC.out _ ig)
    |(go_at_call 22;refine (HTI.out _ (by assumption)).mono ?_;rintro e1 w9 ⟨rfl,ig⟩;obtain ⟨c1,c2,c3⟩:=HC.out _ ig)
    |(go_at_call 23;refine (HBU.out _ (by assumption)).mono ?_;rintro e1 w9 ⟨rfl,ig⟩;obtain ⟨c1,c2,c3⟩:=HC.out _ ig)
    |(go_at_call 24;refine (DV.out _ (by assumption)).mono ?_;rintro e1 w9 ⟨rfl,ig⟩;obtain ⟨c1,c2,c3⟩:=HC.out _ ig)
    |(go_at_call 25;refine (QO.out _ (by assumption)).mono ?_;rintro e1 w9 ⟨rfl,ig⟩;obtain ⟨c1,c2,c3⟩:=HC.out _ ig)
    |(go_at_call 26;refine (HUN.out _ (by assumption)).mono ?_;rintro e1 w9 ⟨rfl,ig⟩;obtain ⟨c1,c2,c3⟩:=HC.out _ ig)
    |(go_at_call 16;refine (Wy.out _ (by assumption)).mono ?_;rintro e1 w9 ⟨rfl,ig⟩;obtain ⟨c1,c2,c3⟩:=HC.out _ ig)
    |(go_at_call 27;refine (HSE.out _ (by assumption)).mono ?_;rintro e1 w9 ⟨rfl,ig⟩;obtain ⟨c1,c2,c3⟩:=HC.out _ ig)
    |(go_at_call 28;refine (HRV.out _ (by assumption)).mono ?_;rintro e1 w9 ⟨rfl,ig⟩;obtain ⟨c1,c2,c3⟩:=HC.out _ ig)
    |(go_at_call 29;refine (V6.out _ (by assumption)).mono ?_;rintro e1 w9 ⟨rfl,ig⟩;obtain ⟨c1,c2,c3⟩:=HC.out _ ig)
    |(go_at_call 10;refine (HWO.out _ (by assumption)).mono ?_;rintro e1 w9 ⟨rfl,ig⟩;obtain ⟨c1,c2,c3⟩:=HC.out _ ig))
   go_ret;exact ⟨rfl,uj.out.trans (ig.mono uj.out.size)⟩
  |true=>
   go_upto_region 6 with (fail)
   have hz:=au.new w1 52 #[.pointer none,.pointer none];have hb2:=(Below.refl w1.heap.size w1).alloc (Nat.le_refl _) (.cells #[.pointer none,.pointer none] 52);generalize w1.alloc (.cells #[.pointer none,.pointer none] 52)=w2 at*;have HZ:=Lib.hid hz;have HN:=Lib.hid (fun (W:World) (hW:Below w2.heap.size w2 W)=>(show iQ W (.pointer (some ⟨w1.heap.size,0,none⟩)) from iQ.zero (HZ.out.below hW HZ.out.lt)));have H2:=Lib.hid (H1.out.below hb2 H1.out.lt);have uj:=Lib.hid (HB1.out.trans (hb2.mono HB1.out.size));clear hz hb2;have MJ:=Lib.hid (fun (W:World) (hW:Below w2.heap.size w2 W)=>(vY (HN.out W hW) now N).mono (fun e w' hh=>(⟨hh.1,hW.trans (hh.2.mono hW.size)⟩:e= .returned (.tuple #[.slice none 0 0,.int .i64 1])∧Below w2.heap.size w2 w')));have NP:=Lib.hid (fun (W:World) (hW:Below w2.heap.size w2 W)=>(qN (HN.out W hW) now A n c).mono (fun e w' hh=>(⟨hh.1,hW.trans (hh.2.mono hW.size)⟩:e= .returned (.tuple #[.slice none 0 0,.int .i64 1])∧Below w2.heap.size w2 w')));have I5:=Lib.hid (fun (W:World) (hW:Below w2.heap.size w2 W)=>(tZ (HN.out W hW) A n c).mono (fun e w' hh=>(⟨hh.1,hW.trans (hh.2.mono hW.size)⟩:e= .returned (.int .i64 1)∧Below w2.heap.size w2 w')));have HTI:=Lib.hid (fun (W:World) (hW:Below w2.heap.size w2 W)=>(zB (HN.out W hW) now).mono (fun e w' hh=>(⟨hh.1,hW.trans (hh.2.mono hW.size)⟩:e= .returned (.int .i64 1)∧Below w2.heap.size w2 w')))
   have HBU:=Lib.hid (fun (W:World) (hW:Below w2.heap.size w2 W)=>(qg (HN.out W hW)).mono (fun e w' hh=>(⟨hh.1,hW.trans (hh.2.mono hW.size)⟩:e= .returned (.int .i64 0)∧Below w2.heap.size w2 w')));have DV:=Lib.hid (fun (W:World) (hW:Below w2.heap.size w2 W)=>(qM (HN.out W hW) now).mono (fun e w' hh=>(⟨hh.1,hW.trans (hh.2.mono hW.size)⟩:e= .returned (.bool false)∧Below w2.heap.size w2 w')));have QO:=Lib.hid (fun (W:World) (hW:Below w2.heap.size w2 W)=>(oI (HN.out W hW)).mono (fun e w' hh=>(⟨hh.1,hW.trans (hh.2.mono hW.size)⟩:e= .returned (.int .i64 0)∧Below w2.heap.size w2 w')));have HUN:=Lib.hid (fun (W:World) (hW:Below w2.heap.size w2 W)=>(uf (HN.out W hW)).mono (fun e w' hh=>(⟨hh.1,hW.trans (hh.2.mono hW.size)⟩:e= .returned (.slice none 0 0)∧Below w2.heap.size w2 w')));have Wy:=Lib.hid (fun (W:World) (hW:Below w2.heap.size w2 W)=>(ug (HN.out W hW)).mono (fun e w' hh=>(⟨hh.1,hW.trans (hh.2.mono hW.size)⟩:e= .returned (.bool false)∧Below w2.heap.size w2 w')));have HSE:=Lib.hid (fun (W:World) (hW:Below w2.heap.size w2 W)=>(jW (HN.out W hW)).mono (fun e w' hh=>(⟨hh.1,hW.trans (hh.2.mono hW.size)⟩:e= .returned (.agg #[.int .i64 0,.int .i64 0,.int .i64 0,.int .i64 0,.int .i64 0,.bool false,.int .i64 0,.bool false,.int .i64 0,.bool false])∧Below w2.heap.size w2 w')))
   have HRV:=Lib.hid (fun (W:World) (hW:Below w2.heap.size w2 W)=>(oJ (HN.out W hW)).mono (fun e w' hh=>(⟨hh.1,hW.trans (hh.2.mono hW.size)⟩:e= .returned (.agg #[.int .i64 0,.int .i64 0,.int .i64 0,.bool false,.int .i64 0,.int .i64 0,.bool false,.int .i64 0])∧Below w2.heap.size w2 w')));have V6:=Lib.hid (fun (W:World) (hW:Below w2.heap.size w2 W)=>(zA (HN.out W hW)).mono (fun e w' hh=>(⟨hh.1,hW.trans (hh.2.mono hW.size)⟩:e= .returned (.pointer none)∧Below w2.heap.size w2 w')));have HWO:=Lib.hid (fun (W:World) (hW:Below w2.heap.size w2 W)=>(qf W).mono (fun e w' hh=>(⟨hh.1,hW.trans (hh.2.mono hW.size)⟩:e= .returned (.bool true)∧Below w2.heap.size w2 w')));have HC:=Lib.hid (fun (W:World) (hW:Below w2.heap.size w2 W)=>(show W.cell? ⟨w.heap.size,1,none⟩=some (.int .i64 now)∧W.cell? ⟨w.heap.size,2,none⟩=some (.int .i64 N)∧W.cell? ⟨w.heap.size,3,none⟩=some (.slice A n c) from ⟨(H2.out.below hW H2.out.lt).cell 1,(H2.out.below hW H2.out.lt).cell 2,(H2.out.below hW H2.out.lt).cell 3⟩));have ig:=Below.refl w2.heap.size w2;have q65:=SC;have q68:=SE;obtain ⟨c1,c2,c3⟩:=HC.out _ ig;go_wp2_with (first
    |(go_at_call 20;refine (nG _ _).mono ?_;rintro e1 w9 ⟨rfl,rfl⟩)
    |(go_at_call 18;refine (MJ.out _ (by assumption)).mono ?_;rintro e1 w9 ⟨rfl,ig⟩;obtain ⟨c1,c2,c3⟩:=HC.out _ ig)
    |(go_at_call 19;refine (NP.out _ (by assumption)).mono ?_;rintro e1 w9 ⟨rfl,ig⟩;obtain ⟨c1,c2,c3⟩:=HC.out _ ig)
    |(go_at_call 21;refine (I5.out _ (by assumption)).mono ?_;rintro e1 w9 ⟨rfl,ig⟩;obtain ⟨c1,c2,c3⟩:=HC.out _ ig)
    |(go_at_call 22;refine (HTI.out _ (by assumption)).mono ?_;rintro e1 w9 ⟨rfl,ig⟩;obtain ⟨c1,c2,c3⟩:=HC.out _ ig)
    |(go_at_call 23;refine (HBU.out _ (by assumption)).mono ?_;rintro e1 w9 ⟨rfl,ig⟩;obtain ⟨c1,c2,c3⟩:=HC.out _ ig)
    |(go_at_call 24;refine (DV.out _ (by assumption)).mono ?_;rintro e1 w9 ⟨rfl,ig⟩;obtain ⟨c1,c2,c3⟩:=HC.out _ ig)
    |(go_at_call 25;refine (QO.out _ (by assumption)).mono ?_;rintro e1 w9 ⟨rfl,ig⟩;obtain ⟨c1,c2,c3⟩:=HC.out _ ig)
    |(go_at_call 26;refine (HUN.out _ (by assumption)).mono ?_;rintro e1 w9 ⟨rfl,ig⟩;obtain ⟨c1,c2,c3⟩:=HC.out _ ig)
    |(go_at_call 16;refine (Wy.out _ (by assumption)).mono ?_;rintro e1 w9 ⟨rfl,ig⟩;obtain ⟨c1,c2,c3⟩:=HC.out _ ig)
    |(go_at_call 27;refine (HSE.out _ (by assumption)).mono ?_;rintro e1 w9 ⟨rfl,ig⟩;obtain ⟨c1,c2,c3⟩:=HC.out _ ig)
    |(go_at_call 28;refine (HRV.out _ (by assumption)).mono ?_;rintro e1 w9 ⟨rfl,ig⟩;obtain ⟨c1,c2,c3⟩:=HC.out _ ig)
    |(go_at_call 29;refine (V6.out _ (by assumption)).mono ?_;rintro e1 w9 ⟨rfl,ig⟩;obtain ⟨c1,c2,c3⟩:=HC.out _ ig)
    |(go_at_call 10;refine (HWO.out _ (by assumption)).mono ?_;rintro e1 w9 ⟨rfl,ig⟩;obtain ⟨c1,c2,c3⟩:=HC.out _ ig))
   go_ret;exact ⟨rfl,uj.out.trans (ig.mono uj.out.size)⟩
end
section
open Go.ChangeShapes Go.WideShapes Go.ChangeAt Go.RowKit Go.Deep Go.Joins
theorem Rm {α:Type} {cs:Array α} (h:cs.size=4):∃c0 c1 c2 c3,cs= #[c0,c1,c2,c3]:=by
 obtain ⟨l⟩:=cs
 match l,h with
 | [c0,c1,c2,c3],_=>exact ⟨c0,c1,c2,c3,rfl⟩
section
variable {H:Type} {enc:TypeId × Value→H} {w:World} {base:Nat} {spare:Nat→Bool} {held:Bool}
theorem IU:Tryz.prog.cellsOf 46=4:=by kernel_rfl
theorem F6:Tryz.prog.cellsOf 31=1∧Tryz.prog.cellsOf 3=1:=⟨by kernel_rfl,by kernel_rfl⟩
theorem F7 {fuel:Nat} {c0 c1 c2 c3:Value} {x:DataW H × List MemPlace} (h:DataW.trod enc Tryz.prog w base spare held fuel 46 [c0,c1,c2,c3]=some x):
 ∃(k now N:Int) (A:Option Addr) (n c:Nat),c0= .int .i64 k∧c1= .int .i64 now∧c2= .int .i64 N∧c3= .slice A n c∧n≤c∧c≤9223372036854775807:=by
 obtain ⟨y0,y1,y2,y3,n,hx,_,h0,h1,h2,h3⟩:=trod_struct4 Tryz.underlying46 h;simp[F6] at h0 h1 h2 h3;obtain ⟨A,nn,c,l,rfl,rfl,hs⟩:=Gm h3;obtain ⟨k0,e0,_,_⟩:=DataW.trod_int Tryz.underlying3 h0;obtain ⟨k1,e1,_,_⟩:=DataW.trod_int Tryz.underlying3 h1;obtain ⟨k2,e2,_,_⟩:=DataW.trod_int Tryz.underlying3 h2;simp at e0 e1 e2;exact ⟨k0,k1,k2,A,_,c,e0,e1,e2,rfl,hs.cap,hs.mx⟩
set_option maxRecDepth 100000 in
theorem IV {r:Reach} {b0:Nat} {v:Value} {d:DataW H} {p:List MemPlace} (hv:Value.okWide Tryz.prog w r b0 46 v) (h:DataW.Trod enc Tryz.prog w base spare held 46 v d p):
 ∃(k now N:Int) (A:Option Addr) (n c:Nat),v= .agg (nH k now N A n c)∧n≤c∧c≤9223372036854775807:=by
 obtain ⟨cs,rfl,hsz⟩:=okWide_struct Tryz.underlying46 hv;obtain ⟨c0,c1,c2,c3,rfl⟩:=Rm (hsz.trans IU);obtain ⟨fuel,hf⟩:=h;obtain ⟨k,now,N,A,n,c,rfl,rfl,rfl,rfl,hs⟩:=F7 (by simpa[Value.cells] using hf);exact ⟨k,now,N,A,n,c,rfl,hs⟩
end
end
end Go.Proofs.YtbhiklnljiehiaaGreat
