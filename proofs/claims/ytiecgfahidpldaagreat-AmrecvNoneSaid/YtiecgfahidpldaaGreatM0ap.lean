/- law36: AmrecvNone walked. Arguments opened: a call of law36. -/
import Derived.Test.YtiecgfahidpldaaGreatM0aa
import Derived.Test.YtiecgfahidpldaaGreatM0ao
import Derived.Deep.Strs
namespace Go.Proofs.YtiecgfahidpldaaGreat
section
open Go.RowKit Go.Shelf
attribute [local go_sem] Oper.semAt_some
theorem BV (w:World):(binOp .eql 49 (.agg #[.int .i64 0,.int .i64 0,.int .i64 0,.bool false,.int .i64 0,.int .i64 0,.bool false,.int .i64 0]) (.agg #[.int .i64 0,.int .i64 0,.int .i64 0,.bool false,.int .i64 0,.int .i64 0,.bool false,.int .i64 0])).run Tryz.prog w= .ok (.bool true) w:=by kernel_rfl
set_option maxRecDepth 100000 in
set_option maxHeartbeats 4000000 in
theorem mY (k now N:Int) (A:Option Addr) (n c:Nat) (zero:Bool) (w:World) (hn:n≤c∧c≤9223372036854775807):
 Calls Tryz.prog 3 #[.agg (kE k now N A n c),.bool zero] w (uP w):=by
 have b0:=av.new w 24 (kE k now N A n c);have hb0:Below w.heap.size w ((w.alloc (.cells (kE k now N A n c) 24)).alloc (.cells (kE k now N A n c) 24)):=((Below.refl w.heap.size w).alloc (Nat.le_refl _) _).alloc (by simp) _;have b1:av ((w.alloc (.cells (kE k now N A n c) 24)).alloc (.cells (kE k now N A n c) 24)) (w.heap.size+1) 24 (kE k now N A n c):=by simpa using av.new (w.alloc (.cells (kE k now N A n c) 24)) 24 (kE k now N A n c)
 have hfe:=wK _ k now N A n c _ b1 hn.1 hn.2;have Oo:=Lib.hid hfe;have HB1:=Lib.hid hb0;have H1:=Lib.hid (b0.alloc (.cells (kE k now N A n c) 24));have hnc:=hn.1;have hcm:=hn.2;clear hfe b0 hb0 b1 hn;unfold kE at*;go_enter Tryz.func3,Tryz.ntmps3;go_wp2_with fail;generalize (w.alloc (.cells #[.int .i64 k,.int .i64 now,.int .i64 N,.slice A n c] 24)).alloc (.cells #[.int .i64 k,.int .i64 now,.int .i64 N,.slice A n c] 24)=w1 at*;refine Oo.out.mono ?_;rintro e1 w2 ⟨rfl,rfl⟩;clear Oo;obtain ⟨b,hb⟩:∃b,decide (n≤300)=b:=⟨_,rfl⟩
 rw[hb];clear hb;cases b with
 |false=>
  go_wp2_with fail;refine (iH _).mono ?_;rintro e1 w3 ⟨rfl,hb3⟩;go_wp2;go_ret;exact ⟨rfl,HB1.out.trans (hb3.mono HB1.out.size)⟩
 |true=>
  cases zero with
  |false=>
   have HN:=Lib.hid (fun (W:World) (hW:Below w1.heap.size w1 W)=>(show dH W (.pointer none) from .inl rfl));have H2:=H1;have BM:=HB1;have yM:=Lib.hid (fun (W:World) (hW:Below w1.heap.size w1 W)=>(oM (HN.out W hW) now A n c).mono (fun e w' hh=>(⟨hh.1,hW.trans (hh.2.mono hW.size)⟩:e= .returned (.tuple #[.slice none 0 0,.int .i64 1])∧Below w1.heap.size w1 w')));have L9:=Lib.hid (fun (W:World) (hW:Below w1.heap.size w1 W)=>(mW (HN.out W hW) now N).mono (fun e w' hh=>(⟨hh.1,hW.trans (hh.2.mono hW.size)⟩:e= .returned (.tuple #[.slice none 0 0,.int .i64 1])∧Below w1.heap.size w1 w')));have uz:=Lib.hid (fun (W:World) (hW:Below w1.heap.size w1 W)=>(kL (HN.out W hW)).mono (fun e w' hh=>(⟨hh.1,hW.trans (hh.2.mono hW.size)⟩:e= .returned (.tuple #[.agg #[.int .i64 0,.slice none 0 0],.int .i64 1])∧Below w1.heap.size w1 w')));have Ma:=Lib.hid (fun (W:World) (hW:Below w1.heap.size w1 W)=>(oN (HN.out W hW) now).mono (fun e w' hh=>(⟨hh.1,hW.trans (hh.2.mono hW.size)⟩:e= .returned (.int .i64 1)∧Below w1.heap.size w1 w')));have Mb:=Lib.hid (fun (W:World) (hW:Below w1.heap.size w1 W)=>(oP (HN.out W hW) now).mono (fun e w' hh=>(⟨hh.1,hW.trans (hh.2.mono hW.size)⟩:e= .returned (.bool false)∧Below w1.heap.size w1 w')))
   have Mc:=Lib.hid (fun (W:World) (hW:Below w1.heap.size w1 W)=>(mX (HN.out W hW)).mono (fun e w' hh=>(⟨hh.1,hW.trans (hh.2.mono hW.size)⟩:e= .returned (.agg #[.int .i64 0,.int .i64 0,.int .i64 0,.bool false,.int .i64 0,.int .i64 0,.bool false,.int .i64 0])∧Below w1.heap.size w1 w')));have Md:=Lib.hid (fun (W:World) (hW:Below w1.heap.size w1 W)=>(oO (HN.out W hW)).mono (fun e w' hh=>(⟨hh.1,hW.trans (hh.2.mono hW.size)⟩:e= .returned (.pointer none)∧Below w1.heap.size w1 w')));have Me:=Lib.hid (fun (W:World) (hW:Below w1.heap.size w1 W)=>(uQ (HN.out W hW)).mono (fun e w' (hh:uP W e w')=>(⟨hh.1,hW.trans (hh.2.mono hW.size)⟩:e= .returned (.bool true)∧Below w1.heap.size w1 w')));have Mf:=Lib.hid (fun (W:World) (hW:Below w1.heap.size w1 W)=>(iH W).mono (fun e w' hh=>(⟨hh.1,hW.trans (hh.2.mono hW.size)⟩:e= .returned (.bool true)∧Below w1.heap.size w1 w')));have HC:=Lib.hid (fun (W:World) (hW:Below w1.heap.size w1 W)=>(show W.cell? ⟨w.heap.size,1,none⟩=some (.int .i64 now)∧W.cell? ⟨w.heap.size,2,none⟩=some (.int .i64 N)∧W.cell? ⟨w.heap.size,3,none⟩=some (.slice A n c) from ⟨(H2.out.below hW H2.out.lt).cell 1,(H2.out.below hW H2.out.lt).cell 2,(H2.out.below hW H2.out.lt).cell 3⟩));have fZ:=Below.refl w1.heap.size w1;have RL:=BV;obtain ⟨c1,c2,c3⟩:=HC.out _ fZ;go_upto_region 8 with (first
    |(go_at_call 8;refine (yM.out _ (by assumption)).mono ?_;rintro e1 w9 ⟨rfl,fZ⟩;obtain ⟨c1,c2,c3⟩:=HC.out _ fZ)
    |(go_at_call 9;refine (L9.out _ (by assumption)).mono ?_;rintro e1 w9 ⟨rfl,fZ⟩;obtain ⟨c1,c2,c3⟩:=HC.out _ fZ))
   go_wp2_with fail;refine (uz.out _ (by assumption)).mono ?_;rintro e1 w9 ⟨rfl,fZ⟩;go_upto_region 9 with (fail)
   have Mg:=fZ.size;have DW:=av.new w9 42 #[.int .i64 0,.slice none 0 0];have yT:=fZ.alloc Mg (.cells #[.int .i64 0,.slice none 0 0] 42);have Mh:=Lib.hid (fun (W:World) (hW:Below (w9.heap.size+1) (w9.alloc (.cells #[.int .i64 0,.slice none 0 0] 42)) W)=>(show W.cell? ⟨w9.heap.size,0,none⟩=some (.int .i64 0)∧W.cell? ⟨w9.heap.size,1,none⟩=some (.slice none 0 0) from ⟨(DW.below hW (by omega)).cell 0,(DW.below hW (by omega)).cell 1⟩));have dS:=Below.refl (w9.heap.size+1) (w9.alloc (.cells #[.int .i64 0,.slice none 0 0] 42));generalize w9.alloc (.cells #[.int .i64 0,.slice none 0 0] 42)=Lc at*;obtain ⟨c1,c2,c3⟩:=HC.out _ yT;obtain ⟨d1,d2⟩:=Mh.out _ dS;clear fZ DW dS;go_wp2_with (first
    |(go_at_call 11;refine (gB _ _).mono ?_;rintro e1 w9 ⟨rfl,rfl⟩)
    |(go_at_call 12;refine (Ma.out _ (by assumption)).mono ?_;rintro e1 zu ⟨rfl,dS⟩;obtain ⟨c1,c2,c3⟩:=HC.out _ dS)
    |(go_at_call 13;refine (Mb.out _ (by assumption)).mono ?_;rintro e1 zu ⟨rfl,dS⟩;obtain ⟨c1,c2,c3⟩:=HC.out _ dS)
    |(go_at_call 14;refine (Mc.out _ (by assumption)).mono ?_;rintro e1 zu ⟨rfl,dS⟩;obtain ⟨c1,c2,c3⟩:=HC.out _ dS)
    |(go_at_call 16;refine (Md.out _ (by assumption)).mono ?_;rintro e1 zu ⟨rfl,dS⟩;obtain ⟨c1,c2,c3⟩:=HC.out _ dS)
    |(go_at_call 15;refine (Me.out _ (by assumption)).mono ?_;rintro e1 zu ⟨rfl,dS⟩;obtain ⟨c1,c2,c3⟩:=HC.out _ dS))
   refine (Mf.out _ (by assumption)).mono ?_;rintro e1 Ld ⟨rfl,rR⟩;go_wp2;go_ret;exact ⟨rfl,BM.out.trans (rR.mono BM.out.size)⟩
  |true=>
   go_upto_region 6 with (fail)
   have hz:=av.new w1 33 #[.int .i64 0,.int .i64 0,.int .i64 0,.int .i64 0,.int .i64 0,.int .i64 0,.int .i64 0,.map none,.int .i64 0,.int .i64 0,.int .i64 0,.bool false,.int .i64 0,.int .i64 0,.bool false,.int .i64 0,.int .i64 0,.slice none 0 0,.bool false];have hb2:=(Below.refl w1.heap.size w1).alloc (Nat.le_refl _) (.cells #[.int .i64 0,.int .i64 0,.int .i64 0,.int .i64 0,.int .i64 0,.int .i64 0,.int .i64 0,.map none,.int .i64 0,.int .i64 0,.int .i64 0,.bool false,.int .i64 0,.int .i64 0,.bool false,.int .i64 0,.int .i64 0,.slice none 0 0,.bool false] 33);generalize w1.alloc (.cells #[.int .i64 0,.int .i64 0,.int .i64 0,.int .i64 0,.int .i64 0,.int .i64 0,.int .i64 0,.map none,.int .i64 0,.int .i64 0,.int .i64 0,.bool false,.int .i64 0,.int .i64 0,.bool false,.int .i64 0,.int .i64 0,.slice none 0 0,.bool false] 33)=w2 at*;have HZ:=Lib.hid hz;have HN:=Lib.hid (fun (W:World) (hW:Below w2.heap.size w2 W)=>(show dH W (.pointer (some ⟨w1.heap.size,0,none⟩)) from .inr ⟨w1.heap.size,rfl,(HZ.out.below hW HZ.out.lt).lt,(HZ.out.below hW HZ.out.lt).cell 7⟩));have H2:=Lib.hid (H1.out.below hb2 H1.out.lt);have BM:=Lib.hid (HB1.out.trans (hb2.mono HB1.out.size));clear hz hb2;have yM:=Lib.hid (fun (W:World) (hW:Below w2.heap.size w2 W)=>(oM (HN.out W hW) now A n c).mono (fun e w' hh=>(⟨hh.1,hW.trans (hh.2.mono hW.size)⟩:e= .returned (.tuple #[.slice none 0 0,.int .i64 1])∧Below w2.heap.size w2 w')))
   have L9:=Lib.hid (fun (W:World) (hW:Below w2.heap.size w2 W)=>(mW (HN.out W hW) now N).mono (fun e w' hh=>(⟨hh.1,hW.trans (hh.2.mono hW.size)⟩:e= .returned (.tuple #[.slice none 0 0,.int .i64 1])∧Below w2.heap.size w2 w')));have uz:=Lib.hid (fun (W:World) (hW:Below w2.heap.size w2 W)=>(kL (HN.out W hW)).mono (fun e w' hh=>(⟨hh.1,hW.trans (hh.2.mono hW.size)⟩:e= .returned (.tuple #[.agg #[.int .i64 0,.slice none 0 0],.int .i64 1])∧Below w2.heap.size w2 w')));have Ma:=Lib.hid (fun (W:World) (hW:Below w2.heap.size w2 W)=>(oN (HN.out W hW) now).mono (fun e w' hh=>(⟨hh.1,hW.trans (hh.2.mono hW.size)⟩:e= .returned (.int .i64 1)∧Below w2.heap.size w2 w')));have Mb:=Lib.hid (fun (W:World) (hW:Below w2.heap.size w2 W)=>(oP (HN.out W hW) now).mono (fun e w' hh=>(⟨hh.1,hW.trans (hh.2.mono hW.size)⟩:e= .returned (.bool false)∧Below w2.heap.size w2 w')));have Mc:=Lib.hid (fun (W:World) (hW:Below w2.heap.size w2 W)=>(mX (HN.out W hW)).mono (fun e w' hh=>(⟨hh.1,hW.trans (hh.2.mono hW.size)⟩:e= .returned (.agg #[.int .i64 0,.int .i64 0,.int .i64 0,.bool false,.int .i64 0,.int .i64 0,.bool false,.int .i64 0])∧Below w2.heap.size w2 w')));have Md:=Lib.hid (fun (W:World) (hW:Below w2.heap.size w2 W)=>(oO (HN.out W hW)).mono (fun e w' hh=>(⟨hh.1,hW.trans (hh.2.mono hW.size)⟩:e= .returned (.pointer none)∧Below w2.heap.size w2 w')))
   have Me:=Lib.hid (fun (W:World) (hW:Below w2.heap.size w2 W)=>(uQ (HN.out W hW)).mono (fun e w' (hh:uP W e w')=>(⟨hh.1,hW.trans (hh.2.mono hW.size)⟩:e= .returned (.bool true)∧Below w2.heap.size w2 w')));have Mf:=Lib.hid (fun (W:World) (hW:Below w2.heap.size w2 W)=>(iH W).mono (fun e w' hh=>(⟨hh.1,hW.trans (hh.2.mono hW.size)⟩:e= .returned (.bool true)∧Below w2.heap.size w2 w')));have HC:=Lib.hid (fun (W:World) (hW:Below w2.heap.size w2 W)=>(show W.cell? ⟨w.heap.size,1,none⟩=some (.int .i64 now)∧W.cell? ⟨w.heap.size,2,none⟩=some (.int .i64 N)∧W.cell? ⟨w.heap.size,3,none⟩=some (.slice A n c) from ⟨(H2.out.below hW H2.out.lt).cell 1,(H2.out.below hW H2.out.lt).cell 2,(H2.out.below hW H2.out.lt).cell 3⟩));have fZ:=Below.refl w2.heap.size w2;have RL:=BV;obtain ⟨c1,c2,c3⟩:=HC.out _ fZ;go_upto_region 8 with (first
    |(go_at_call 8;refine (yM.out _ (by assumption)).mono ?_;rintro e1 w9 ⟨rfl,fZ⟩;obtain ⟨c1,c2,c3⟩:=HC.out _ fZ)
    |(go_at_call 9;refine (L9.out _ (by assumption)).mono ?_;rintro e1 w9 ⟨rfl,fZ⟩;obtain ⟨c1,c2,c3⟩:=HC.out _ fZ))
   go_wp2_with fail;refine (uz.out _ (by assumption)).mono ?_;rintro e1 w9 ⟨rfl,fZ⟩;go_upto_region 9 with (fail)
   have Mg:=fZ.size;have DW:=av.new w9 42 #[.int .i64 0,.slice none 0 0];have yT:=fZ.alloc Mg (.cells #[.int .i64 0,.slice none 0 0] 42);have Mh:=Lib.hid (fun (W:World) (hW:Below (w9.heap.size+1) (w9.alloc (.cells #[.int .i64 0,.slice none 0 0] 42)) W)=>(show W.cell? ⟨w9.heap.size,0,none⟩=some (.int .i64 0)∧W.cell? ⟨w9.heap.size,1,none⟩=some (.slice none 0 0) from ⟨(DW.below hW (by omega)).cell 0,(DW.below hW (by omega)).cell 1⟩));have dS:=Below.refl (w9.heap.size+1) (w9.alloc (.cells #[.int .i64 0,.slice none 0 0] 42));generalize w9.alloc (.cells #[.int .i64 0,.slice none 0 0] 42)=Lc at*;obtain ⟨c1,c2,c3⟩:=HC.out _ yT;obtain ⟨d1,d2⟩:=Mh.out _ dS;clear fZ DW dS;go_wp2_with (first
    |(go_at_call 11;refine (gB _ _).mono ?_;rintro e1 w9 ⟨rfl,rfl⟩)
    |(go_at_call 12;refine (Ma.out _ (by assumption)).mono ?_;rintro e1 zu ⟨rfl,dS⟩;obtain ⟨c1,c2,c3⟩:=HC.out _ dS)
    |(go_at_call 13;refine (Mb.out _ (by assumption)).mono ?_;rintro e1 zu ⟨rfl,dS⟩;obtain ⟨c1,c2,c3⟩:=HC.out _ dS)
    |(go_at_call 14;refine (Mc.out _ (by assumption)).mono ?_;rintro e1 zu ⟨rfl,dS⟩;obtain ⟨c1,c2,c3⟩:=HC.out _ dS)
    |(go_at_call 16;refine (Md.out _ (by assumption)).mono ?_;rintro e1 zu ⟨rfl,dS⟩;obtain ⟨c1,c2,c3⟩:=HC.out _ dS)
    |(go_at_call 15;refine (Me.out _ (by assumption)).mono ?_;rintro e1 zu ⟨rfl,dS⟩;obtain ⟨c1,c2,c3⟩:=HC.out _ dS))
   refine (Mf.out _ (by assumption)).mono ?_;rintro e1 Ld ⟨rfl,rR⟩;go_wp2;go_ret;exact ⟨rfl,BM.out.trans (rR.mono BM.out.size)⟩
end
section
open Go.ChangeShapes Go.WideShapes Go.ChangeAt Go.RowKit Go.Deep Go.Joins
theorem Bc {α:Type} {cs:Array α} (h:cs.size=4):∃c0 c1 c2 c3,cs= #[c0,c1,c2,c3]:=by
 obtain ⟨l⟩:=cs
 match l,h with
 | [c0,c1,c2,c3],_=>exact ⟨c0,c1,c2,c3,rfl⟩
section
variable {H:Type} {enc:TypeId × Value→H} {w:World} {base:Nat} {spare:Nat→Bool} {held:Bool}
theorem uj:Tryz.prog.cellsOf 24=4:=by kernel_rfl
theorem rV:Tryz.prog.cellsOf 22=1∧Tryz.prog.cellsOf 3=1:=⟨by kernel_rfl,by kernel_rfl⟩
theorem rW {fuel:Nat} {c0 c1 c2 c3:Value} {x:DataW H × List MemPlace} (h:DataW.trod enc Tryz.prog w base spare held fuel 24 [c0,c1,c2,c3]=some x):
 ∃(k now N:Int) (A:Option Addr) (n c:Nat),c0= .int .i64 k∧c1= .int .i64 now∧c2= .int .i64 N∧c3= .slice A n c∧n≤c∧c≤9223372036854775807:=by
 obtain ⟨y0,y1,y2,y3,n,hx,_,h0,h1,h2,h3⟩:=trod_struct4 Tryz.underlying24 h;simp[rV] at h0 h1 h2 h3;obtain ⟨A,nn,c,l,rfl,rfl,hs⟩:=sG h3;obtain ⟨k0,e0,_,_⟩:=DataW.trod_int Tryz.underlying3 h0;obtain ⟨k1,e1,_,_⟩:=DataW.trod_int Tryz.underlying3 h1;obtain ⟨k2,e2,_,_⟩:=DataW.trod_int Tryz.underlying3 h2;simp at e0 e1 e2;exact ⟨k0,k1,k2,A,_,c,e0,e1,e2,rfl,hs.cap,hs.mx⟩
set_option maxRecDepth 100000 in
theorem uk {r:Reach} {b0:Nat} {v:Value} {d:DataW H} {p:List MemPlace} (hv:Value.okWide Tryz.prog w r b0 24 v) (h:DataW.Trod enc Tryz.prog w base spare held 24 v d p):
 ∃(k now N:Int) (A:Option Addr) (n c:Nat),v= .agg (kE k now N A n c)∧n≤c∧c≤9223372036854775807:=by
 obtain ⟨cs,rfl,hsz⟩:=okWide_struct Tryz.underlying24 hv;obtain ⟨c0,c1,c2,c3,rfl⟩:=Bc (hsz.trans uj);obtain ⟨fuel,hf⟩:=h;obtain ⟨k,now,N,A,n,c,rfl,rfl,rfl,rfl,hs⟩:=rW (by simpa[Value.cells] using hf);exact ⟨k,now,N,A,n,c,rfl,hs⟩
end
end
end Go.Proofs.YtiecgfahidpldaaGreat
