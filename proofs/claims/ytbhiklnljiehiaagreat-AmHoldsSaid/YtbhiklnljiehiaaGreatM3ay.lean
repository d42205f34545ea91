/- State. -/
import Derived.Test.YtbhiklnljiehiaaGreatM3ax
import Derived.Laws.ResultCell
set_option maxHeartbeats 4000000
set_option maxRecDepth 10000
namespace Go.Proofs.YtbhiklnljiehiaaGreat
open RowKit Shelf Tryz
attribute [local go_sem] Oper.semAt_some
theorem rZ {fn:Func} {p:Tmp} {ty:TypeId} (h:fn.results= #[.cell p ty]) (tmps:Array Value) (P:Program) (w:World):
 (results fn tmps).run P w=((asAddr (tmps.getD p undef)).run P w).andThen fun a w₁=>(loadVar ty a).run P w₁:=by
 simp only[results,h];simp[Sem.run_bind,Result.andThen]
theorem bAl {w w':World} (h:Below w.heap.size w w') (o:Obj):Below w.heap.size w (w'.alloc o):=h.alloc h.size o
theorem ace {w w':World} (h:Below w.heap.size w w') (i:Nat) (u:Value):Below w.heap.size w (w'.setCell ⟨w.heap.size,i,none⟩ u):=h.setCell (p:=⟨w.heap.size,i,none⟩) (aL) u
def Xk (st:Sd):Array Value:=
 #[.int .i64 (st.first:Nat),.int .i64 (dM st:Nat),.int .i64 (st.fG:Nat),.int .i64 (st.bytes:Nat),.int .i64 (if st.wait=true then ((st.polled:Nat):Int) else 0),.bool st.wait,.int .i64 (if st.wait=true then st.bu else 0),.bool st.dI,.int .i64 (st.done:Nat),.bool st.failed]
section
variable {D F:Nat->Prop} {g:Nat} {c:Cf} {st:Sd} {vq vo:Value} {vs os:List Value} {w:World}
theorem Px (h:gu w D F g c st vq vs vo os) (ht:1<=c.timer) (h1:st.first<1024) (h2:st.out.length<=1000000):
 Calls prog 61 #[.pointer (some ⟨g,0,none⟩)] w fun e w'=>e= .returned (.agg (Xk st))/\Below w.heap.size w w':=by
 have z:Array Value:= #[.int .i64 0,.int .i64 0,.int .i64 0,.int .i64 0,.int .i64 0,.bool false,.int .i64 0,.bool false,.int .i64 0,.bool false];have HZ:=ah (av.new w 65 #[.int .i64 0,.int .i64 0,.int .i64 0,.int .i64 0,.int .i64 0,.bool false,.int .i64 0,.bool false,.int .i64 0,.bool false]);have HB:=ah ((bS w.heap.size w).alloc (aL) (.cells #[.int .i64 0,.int .i64 0,.int .i64 0,.int .i64 0,.int .i64 0,.bool false,.int .i64 0,.bool false,.int .i64 0,.bool false] 65));have HH:=ah (h.below HB.out);clear h z;go_enter func61,ntmps61;go_wp2_with fail;generalize w.alloc (.cells #[.int .i64 0,.int .i64 0,.int .i64 0,.int .i64 0,.int .i64 0,.bool false,.int .i64 0,.bool false,.int .i64 0,.bool false] 65)=w0 at*;refine (lu HH.out ht).mono ?_;obtain ⟨r,hr⟩:∃r:Int,(if st.failed=true then 8 else 0)=r:=⟨_,rfl⟩
 have dr:(r==1)=false:=by rw[<-hr];cases st.failed<;>rfl
 simp only[hr];clear hr;rintro e1 w1 ⟨rfl,rfl⟩;go_wp2_with fail;have y9:=HH.out.blk.cell 11;have y13:=HH.out.blk.cell 13;have Jg:=HH.out.blk.cell 14;have CZ:=HH.out.blk.cell 16;have Ku:=HH.out.blk.cell 18;have y8:=HH.out.blk.cell 8;have y19:=HH.out.blk.cell 19;have hgl:=HH.out.blk.lt;simp[fV] at y9 y13 Jg CZ Ku y8 y19;have hS:∀W,Below w0.heap.size w0 W->(W.cell? ⟨g,11,none⟩=some (.int .i64 (st.first:Nat))/\W.cell? ⟨g,13,none⟩=some (.int .i64 (st.fG:Nat))/\W.cell? ⟨g,14,none⟩=some (.int .i64 (st.bytes:Nat))/\W.cell? ⟨g,16,none⟩=some (.bool st.wait)/\W.cell? ⟨g,18,none⟩=some (.bool st.dI)/\W.cell? ⟨g,8,none⟩=some (.int .i64 (st.done:Nat))/\W.cell? ⟨g,19,none⟩=some (.bool st.failed)):=fun W hW=>
  ⟨(hW.cell (p:=⟨g,11,none⟩) hgl).trans y9,(hW.cell (p:=⟨g,13,none⟩) hgl).trans y13,(hW.cell (p:=⟨g,14,none⟩) hgl).trans Jg,(hW.cell (p:=⟨g,16,none⟩) hgl).trans CZ,(hW.cell (p:=⟨g,18,none⟩) hgl).trans Ku,(hW.cell (p:=⟨g,8,none⟩) hgl).trans y8,(hW.cell (p:=⟨g,19,none⟩) hgl).trans y19⟩
 have HS:=ah hS;have hnx:∀W,Below w0.heap.size w0 W->Calls prog 87 #[.pointer (some ⟨g,0,none⟩)] W fun e w'=>e= .returned (.int .i64 (dM st:Nat))/\∃q,W.drewN q=w':=fun W hW=>
  (xw (HH.out.below hW) h1 h2).mono fun e w' hh=>⟨hh.1,by obtain ⟨q,rfl⟩:=hh.2;exact ⟨q,rfl⟩⟩
 have hn0:Calls prog 87 #[.pointer (some ⟨g,0,none⟩)] w0.drew fun e w'=>e= .returned (.int .i64 (dM st:Nat))/\Below w0.heap.size w0 w':=
  (xw (HH.out.below (bS _ w0).drew) h1 h2).mono fun e w' hh=>⟨hh.1,by obtain ⟨q,rfl⟩:=hh.2;exact (bS _ w0).drew.drewN q⟩
 have HN0:=ah hn0;have Jh:=ah hnx;clear hn0;clear hnx;clear hS;go_cut [3] from 8 to 38 (fun s3 wx=>∃b,s3= .pointer (some ⟨b,0,none⟩)/\av wx b 65 #[.int .i64 (st.first:Nat),.int .i64 (dM st:Nat),.int .i64 (st.fG:Nat),.int .i64 (st.bytes:Nat),.int .i64 0,.bool st.wait,.int .i64 0,.bool st.dI,.int .i64 (st.done:Nat),.bool st.failed]/\Below w0.heap.size w0 wx/\w0.heap.size<=b)
 case first=>
  have hb0:=bS w0.heap.size w0
  go_region_held3 (fun W=>W.cell? ⟨g,11,none⟩=some (.int .i64 (st.first:Nat))/\W.cell? ⟨g,13,none⟩=some (.int .i64 (st.fG:Nat))/\W.cell? ⟨g,14,none⟩=some (.int .i64 (st.bytes:Nat))/\W.cell? ⟨g,16,none⟩=some (.bool st.wait)/\W.cell? ⟨g,18,none⟩=some (.bool st.dI)/\W.cell? ⟨g,8,none⟩=some (.int .i64 (st.done:Nat))/\W.cell? ⟨g,19,none⟩=some (.bool st.failed))
   (first|(with_reducible (refine HS.out _ ?_;(repeat first|assumption|refine Below.drew ?_|refine Below.drewN ?_ _|refine bAl ?_ _|refine ace ?_ _ _);done))|go_keep)
   (first
    |(go_at_call 87;with_reducible (refine HN0.out.mono ?_);rintro e7 w7 ⟨rfl,qT⟩)
    |(go_at_call 87;refine (Jh.out _ (by (repeat first|assumption|refine Below.drew ?_|refine Below.drewN ?_ _|refine bAl ?_ _|refine ace ?_ _ _))).mono ?_;rintro e7 w7 ⟨rfl,q7,rfl⟩)
    |fail)
  ·go_wp2;go_meet;exact ⟨_,rfl,av.new _ _ _,qT.alloc qT.size _,qT.size⟩
  ·go_wp2;go_meet;refine ⟨_,rfl,?_,?_,aL⟩
   ·have b:=((((((((((((av.new w0 65 #[.int .i64 0,.int .i64 0,.int .i64 0,.int .i64 0,.int .i64 0,.bool false,.int .i64 0,.bool false,.int .i64 0,.bool false]).drewN (1+q7)).ay 0 (.int .i64 (st.first:Nat))).ay 1 (.int .i64 (dM st:Nat))).ay 2 (.int .i64 (st.fG:Nat))).ay 3 (.int .i64 (st.bytes:Nat))).ay 4 (.int .i64 0)).ay 5 (.bool st.wait)).ay 6 (.int .i64 0)).ay 7 (.bool st.dI)).ay 8 (.int .i64 (st.done:Nat))).ay 9 (.bool st.failed));simpa using b
   ·with_reducible (repeat first|assumption|refine Below.drew ?_|refine Below.drewN ?_ _|refine bAl ?_ _|refine ace ?_ _ _)
 case rest=>
 obtain ⟨b,rfl,hbk,hbb,hbl⟩:=hcut
 replace CZ:=(hbb.cell (p:=⟨g,16,none⟩) hgl).trans CZ
 have Oo:=(HH.out.below hbb).blk.cell 15;have UH:=(HH.out.below hbb).blk.cell 17;have HZ2:=ah (HZ.out.below hbb HZ.out.lt);simp[fV] at Oo UH;have hgb:g≠b:=by omega
 have Om:=ah hbb;have hzl:w.heap.size<w0.heap.size:=HZ.out.lt;cases hwt:st.wait with
 |false=>
  rw[hwt] at hbk CZ;have hst:Xk st= #[.int .i64 (st.first:Nat),.int .i64 (dM st:Nat),.int .i64 (st.fG:Nat),.int .i64 (st.bytes:Nat),.int .i64 0,.bool false,.int .i64 0,.bool st.dI,.int .i64 (st.done:Nat),.bool st.failed]:=by unfold Xk;rw[hwt];rfl
  have HST:=ah hst;have hb2:=hbk;have Py:=hbb;clear hst hwt hbk hbb Oo UH HS HN0 Jh Om HZ2;have hZ3:=HZ.out.below Py HZ.out.lt;have HZ3:=ah hZ3;have Vd:=ah (HB.out.trans (Py.mono HB.out.size));have b0:=hb2.cell 0;have b1:=hb2.cell 1;have b2:=hb2.cell 2;have b3:=hb2.cell 3;have b4:=hb2.cell 4;have b5:=hb2.cell 5;have b6:=hb2.cell 6;have b7:=hb2.cell 7;have b8:=hb2.cell 8;have b9:=hb2.cell 9;have fb:=hb2.frozen;simp at b0 b1 b2 b3 b4 b5 b6 b7 b8 b9;have z0:=hZ3.cell 0;have z1:=hZ3.cell 1;have z2:=hZ3.cell 2;have z3:=hZ3.cell 3;have z4:=hZ3.cell 4;have z5:=hZ3.cell 5;have z6:=hZ3.cell 6;have z7:=hZ3.cell 7;have z8:=hZ3.cell 8;have z9:=hZ3.cell 9;have fz:=hZ3.frozen;simp at z0 z1 z2 z3 z4 z5 z6 z7 z8 z9;clear hb2 hZ3 Py;go_wp2;have hz:=((((((((((HZ3.out.ay 0 (.int .i64 (st.first:Nat))).ay 1 (.int .i64 (dM st:Nat))).ay 2 (.int .i64 (st.fG:Nat))).ay 3 (.int .i64 (st.bytes:Nat))).ay 4 (.int .i64 0)).ay 5 (.bool false)).ay 6 (.int .i64 0)).ay 7 (.bool st.dI)).ay 8 (.int .i64 (st.done:Nat))).ay 9 (.bool st.failed));simp at hz;have HF:=ah hz
  have HE:=ah ((((((((((Vd.out.setCell (p:=⟨w.heap.size,0,none⟩) (aL) (.int .i64 (st.first:Nat))).setCell (p:=⟨w.heap.size,1,none⟩) (aL) (.int .i64 (dM st:Nat))).setCell (p:=⟨w.heap.size,2,none⟩) (aL) (.int .i64 (st.fG:Nat))).setCell (p:=⟨w.heap.size,3,none⟩) (aL) (.int .i64 (st.bytes:Nat))).setCell (p:=⟨w.heap.size,4,none⟩) (aL) (.int .i64 0)).setCell (p:=⟨w.heap.size,5,none⟩) (aL) (.bool false)).setCell (p:=⟨w.heap.size,6,none⟩) (aL) (.int .i64 0)).setCell (p:=⟨w.heap.size,7,none⟩) (aL) (.bool st.dI)).setCell (p:=⟨w.heap.size,8,none⟩) (aL) (.int .i64 (st.done:Nat))).setCell (p:=⟨w.heap.size,9,none⟩) (aL) (.bool st.failed));clear hz b0 b1 b2 b3 b4 b5 b6 b7 b8 b9 z0 z1 z2 z3 z4 z5 z6 z7 z8 z9 fb fz;refine oZ (v:= .agg #[.int .i64 (st.first:Nat),.int .i64 (dM st:Nat),.int .i64 (st.fG:Nat),.int .i64 (st.bytes:Nat),.int .i64 0,.bool false,.int .i64 0,.bool st.dI,.int .i64 (st.done:Nat),.bool st.failed]) ?_ rfl ?_
  ·rw[rZ rfl];have e0:=HF.out.cell 0;have e1:=HF.out.cell 1;have e2:=HF.out.cell 2;have e3:=HF.out.cell 3;have e4:=HF.out.cell 4;have e5:=HF.out.cell 5;have e6:=HF.out.cell 6;have e7:=HF.out.cell 7;have e8:=HF.out.cell 8;have e9:=HF.out.cell 9;go_simp
   done
  ·exact ⟨by rw[HST.out],HE.out⟩
 |true=>
  rw[hwt] at hbk CZ;have hst:Xk st= #[.int .i64 (st.first:Nat),.int .i64 (dM st:Nat),.int .i64 (st.fG:Nat),.int .i64 (st.bytes:Nat),.int .i64 (st.polled:Nat),.bool true,.int .i64 st.bu,.bool st.dI,.int .i64 (st.done:Nat),.bool st.failed]:=by unfold Xk;rw[hwt];rfl
  have HST:=ah hst;have HBK:=ah hbk;have b4:=hbk.cell 4;have b6:=hbk.cell 6;have f4:=hbk.frozen 4;have f6:=hbk.frozen 6;simp at b4 b6;clear hst hwt hbk hbb HS HN0 Jh HZ2;go_wp2_with fail
  go_region
  all_goals
   go_upto_region 6 with (fail)
   have Py:=((Om.out.setCell (p:=⟨b,4,none⟩) (by show w0.heap.size<=b;omega) (.int .i64 (st.polled:Nat))).setCell (p:=⟨b,6,none⟩) (by show w0.heap.size<=b;omega) (.int .i64 st.bu)).drew;have hb2:=((HBK.out.ay 4 (.int .i64 (st.polled:Nat))).ay 6 (.int .i64 st.bu)).drew;simp at hb2;clear Oo CZ UH b4 b6 f4 f6;generalize ((wc.setCell ⟨b,4,none⟩ (.int .i64 (st.polled:Nat))).setCell ⟨b,6,none⟩ (.int .i64 st.bu)).drew=wd at*;have hZ3:=HZ.out.below Py HZ.out.lt;have HZ3:=ah hZ3;have Vd:=ah (HB.out.trans (Py.mono HB.out.size));have b0:=hb2.cell 0;have b1:=hb2.cell 1;have b2:=hb2.cell 2;have b3:=hb2.cell 3;have b4:=hb2.cell 4;have b5:=hb2.cell 5;have b6:=hb2.cell 6;have b7:=hb2.cell 7;have b8:=hb2.cell 8;have b9:=hb2.cell 9;have fb:=hb2.frozen;simp at b0 b1 b2 b3 b4 b5 b6 b7 b8 b9;have z0:=hZ3.cell 0;have z1:=hZ3.cell 1;have z2:=hZ3.cell 2;have z3:=hZ3.cell 3;have z4:=hZ3.cell 4;have z5:=hZ3.cell 5;have z6:=hZ3.cell 6;have z7:=hZ3.cell 7;have z8:=hZ3.cell 8;have z9:=hZ3.cell 9;have fz:=hZ3.frozen;simp at z0 z1 z2 z3 z4 z5 z6 z7 z8 z9;clear hb2 hZ3 Py;go_wp2;have hz:=((((((((((HZ3.out.ay 0 (.int .i64 (st.first:Nat))).ay 1 (.int .i64 (dM st:Nat))).ay 2 (.int .i64 (st.fG:Nat))).ay 3 (.int .i64 (st.bytes:Nat))).ay 4 (.int .i64 (st.polled:Nat))).ay 5 (.bool true)).ay 6 (.int .i64 st.bu)).ay 7 (.bool st.dI)).ay 8 (.int .i64 (st.done:Nat))).ay 9 (.bool st.failed));simp at hz;have HF:=ah hz
   have HE:=ah ((((((((((Vd.out.setCell (p:=⟨w.heap.size,0,none⟩) (aL) (.int .i64 (st.first:Nat))).setCell (p:=⟨w.heap.size,1,none⟩) (aL) (.int .i64 (dM st:Nat))).setCell (p:=⟨w.heap.size,2,none⟩) (aL) (.int .i64 (st.fG:Nat))).setCell (p:=⟨w.heap.size,3,none⟩) (aL) (.int .i64 (st.bytes:Nat))).setCell (p:=⟨w.heap.size,4,none⟩) (aL) (.int .i64 (st.polled:Nat))).setCell (p:=⟨w.heap.size,5,none⟩) (aL) (.bool true)).setCell (p:=⟨w.heap.size,6,none⟩) (aL) (.int .i64 st.bu)).setCell (p:=⟨w.heap.size,7,none⟩) (aL) (.bool st.dI)).setCell (p:=⟨w.heap.size,8,none⟩) (aL) (.int .i64 (st.done:Nat))).setCell (p:=⟨w.heap.size,9,none⟩) (aL) (.bool st.failed));clear hz b0 b1 b2 b3 b4 b5 b6 b7 b8 b9 z0 z1 z2 z3 z4 z5 z6 z7 z8 z9 fb fz;refine oZ (v:= .agg #[.int .i64 (st.first:Nat),.int .i64 (dM st:Nat),.int .i64 (st.fG:Nat),.int .i64 (st.bytes:Nat),.int .i64 (st.polled:Nat),.bool true,.int .i64 st.bu,.bool st.dI,.int .i64 (st.done:Nat),.bool st.failed]) ?_ rfl ?_
   ·rw[rZ rfl];have e0:=HF.out.cell 0;have e1:=HF.out.cell 1;have e2:=HF.out.cell 2;have e3:=HF.out.cell 3;have e4:=HF.out.cell 4;have e5:=HF.out.cell 5;have e6:=HF.out.cell 6;have e7:=HF.out.cell 7;have e8:=HF.out.cell 8;have e9:=HF.out.cell 9;go_simp
    done
   ·exact ⟨by rw[HST.out],HE.out⟩
end
section
variable (w:World)
theorem Nb (a0 a1 b0 b1:Nat) (h:a1<1000000):
 Calls prog 187 #[.agg #[.int .i64 (a0:Int),.int .i64 (a1:Int)],.agg #[.int .i64 (b0:Int),.int .i64 (b1:Int)]] w fun e w'=>e= .returned (.tuple #[.agg #[.int .i64 (a0:Int),.int .i64 (b1:Int)],.bool (decide (a1+1=b0))])/\Below w w w':=by
 have hw1:IntKind.i64.wrap ((a1:Int)+1)=(a1:Int)+1:=iG _ (by omega);have hd:decide ((a1:Int)+1=(b0:Int))=decide (a1+1=b0):=by
  rcases Nat.decEq (a1+1) b0 with h1|h1
  ·rw[iP h1];exact iP (by omega)
  ·rw[iK h1];exact iK (by omega)
 go_enter func187,ntmps187;go_wp2;have ba:=((av.new w 39 #[.int .i64 (a0:Int),.int .i64 (a1:Int)]).alloc (.cells #[.int .i64 (b0:Int),.int .i64 (b1:Int)] 39)).alloc (.cells #[.int .i64 0,.int .i64 0] 39);have bb:=(av.new (w.alloc (.cells #[.int .i64 (a0:Int),.int .i64 (a1:Int)] 39)) 39 #[.int .i64 (b0:Int),.int .i64 (b1:Int)]).alloc (.cells #[.int .i64 0,.int .i64 0] 39);have bc:=av.new ((w.alloc (.cells #[.int .i64 (a0:Int),.int .i64 (a1:Int)] 39)).alloc (.cells #[.int .i64 (b0:Int),.int .i64 (b1:Int)] 39)) 39 #[.int .i64 0,.int .i64 0];simp only[mZ] at bb bc;have hB:Below w w (((w.alloc (.cells #[.int .i64 (a0:Int),.int .i64 (a1:Int)] 39)).alloc (.cells #[.int .i64 (b0:Int),.int .i64 (b1:Int)] 39)).alloc (.cells #[.int .i64 0,.int .i64 0] 39)):=(((bS _ w).alloc (aL) _).alloc (by simp) _).alloc (by simp;omega) _;generalize ((w.alloc (.cells #[.int .i64 (a0:Int),.int .i64 (a1:Int)] 39)).alloc (.cells #[.int .i64 (b0:Int),.int .i64 (b1:Int)] 39)).alloc (.cells #[.int .i64 0,.int .i64 0] 39)=w1 at*;have HB:=ah hB;have x0:=ba.cell 0;have x1:=ba.cell 1;have y0:=bb.cell 0;have y1:=bb.cell 1;have c0:=bc.cell 0;have c1:=bc.cell 1;have fc:=bc.frozen 0;have fc1:=bc.frozen 1;simp at x0 x1 y0 y1 c0 c1;have BC:=ah bc;clear ba bb bc hB
 go_region
 all_goals
  go_wp2_with fail;have bz:=((BC.out.ay 0 (.int .i64 (a0:Int))).ay 1 (.int .i64 (b1:Int)));simp at bz;have z0:=bz.cell 0;have z1:=bz.cell 1;simp at z0 z1;have hbeq:((a1:Int)+1==(b0:Int))=decide (a1+1=b0):=by
   rw[<-hd];rfl
  have HBZ:=ah ((HB.out.setCell (p:=⟨w.heap.size+1+1,0,none⟩) (by simp;omega) (.int .i64 (a0:Int))).setCell (p:=⟨w.heap.size+1+1,1,none⟩) (by simp;omega) (.int .i64 (b1:Int))).drew;clear bz;refine oZ (v:= .tuple #[.agg #[.int .i64 (a0:Int),.int .i64 (b1:Int)],.bool ((a1:Int)+1==(b0:Int))]) ?_ rfl ?_
  ·rw[results_cell_tmp rfl];go_simp
   done
  ·exact ⟨by rw[hbeq],HBZ.out⟩
end
def Ci (x:Nk):Nat:=if x.part=true then 42 else 12
def uW (l:List Nk):Nat:=(l.map Ci).sum
def oO (l:List Nk):Nat:=(15+uW l+7)/8
def nk0:Nk:=⟨0,false,0,0⟩
def FD (more:Bool) (x:Nk):List (Nat × Nat):=
 [(x.sn.toNat,10),(more.toNat,1),(x.part.toNat,1)]++(if x.part=true then [(x.fr.toNat,15),(x.lt.toNat,15)] else [])
def lT (l:List Nk):Nat->List (Nat × Nat)
 |0=> []
 |k+1=>lT l k++FD (decide (k+1<l.length)) (l[k]?.getD nk0)
def qB (aA:Nat) (l:List Nk):List UInt8:=pack (aC ([(0,4),(aA,10),((decide (0<l.length)).toNat,1)]++lT l l.length))
theorem iN (a b:List (Nat × Nat)):aC (a++b)=aC a++aC b:=by simp[aC]
theorem Pp (l:List Nk) (k:Nat) (x:Nk) (h:l[k]? =some x):uW (l.take (k+1))=uW (l.take k)+Ci x:=by
 unfold uW;rw[pX,h];simp
theorem UZ (l:List Nk):uW l<=42*l.length:=by
 induction l with
 |nil=>simp[uW]
 |cons x r ih=>
  simp only[uW,vw,zK,jh] at ih ⊢;have:Ci x<=42:=by unfold Ci;split<;>omega
  omega
section
variable (w:World)
theorem Cj (b:Bool):Calls prog 123 #[.bool b] w fun e w'=>e= .returned (.int .u64 b.toNat)/\w'=w:=by
 cases b
 ·go_enter func123,ntmps123;go_wp2;go_ret;exact ⟨rfl,rfl⟩
 ·go_enter func123,ntmps123;go_wp2;go_ret;exact ⟨rfl,rfl⟩
theorem dD.get {w:World} {A:Option Addr} {n c:Nat} {l:List Nk} (h:dD w A n c l) {k:Nat} (hk:k<n):∃ad x,A=some ad/\l[k]? =some x/\(ad.add (k*4)).block<w.heap.size/\
 w.cell? (ad.add (k*4))=some (.int .i64 x.sn)/\w.cell? ⟨(ad.add (k*4)).block,(ad.add (k*4)).off+1,none⟩=some (.bool x.part)/\w.cell? ⟨(ad.add (k*4)).block,(ad.add (k*4)).off+2,none⟩=some (.int .i64 x.fr)/\w.cell? ⟨(ad.add (k*4)).block,(ad.add (k*4)).off+3,none⟩=some (.int .i64 x.lt):=by
 have hl:=h.len;obtain ⟨x,hx⟩:∃x,l[k]? =some x:=⟨_,gX (by omega)⟩
 obtain ⟨ad,e,hb,hc⟩:=h.at_ (by omega);obtain ⟨k0,k1,k2,k3⟩:=hc k x hx;exact ⟨ad,x,e,hx,by rw[block_add];exact hb,k0,k1,k2,k3⟩
theorem dD.take {w:World} {A:Option Addr} {n c:Nat} {l:List Nk} (h:dD w A n c l) {k:Nat} (hk:k<=n):dD w A k k (l.take k):=by
 have hl:=h.len;have hc:=h.cap;have hm:=h.mx;refine ⟨by rw[kz];omega,aL,by omega,fun h0=> ?_⟩;obtain ⟨ad,e,hb,hcl⟩:=h.at_ (by omega);refine ⟨ad,e,hb,fun j r hr=>hcl j r ?_⟩;rw[pW] at hr;split at hr
 ·exact hr
 ·cases hr
theorem dD.takeC {w:World} {A:Option Addr} {n c c':Nat} {l:List Nk} (h:dD w A n c l) {k:Nat} (hk:k<=n) (h1:k<=c') (h2:c'<=9223372036854775807):dD w A k c' (l.take k):=
 let h3:=h.take hk
 ⟨h3.len,h1,h2,h3.at_⟩
theorem dD.vE {w:World} {A:Option Addr} {n c b o:Nat} {l:List Nk} (h:dD w A n c l) (hlt:∀ad,A=some ad->ad.block≠b) (u:Value):dD (w.setCell ⟨b,o,none⟩ u) A n c l:=
 ⟨h.len,h.cap,h.mx,fun hn=>by
  obtain ⟨ad,e,hl,hc⟩:=h.at_ hn;have hB:=hlt ad e;refine ⟨ad,e,by simpa[World.setCell] using hl,fun j r hr=> ?_⟩;obtain ⟨k0,k1,k2,k3⟩:=hc j r hr;have hbk:(w.setCell ⟨b,o,none⟩ u).heap[(ad.add (j*4)).block]? =w.heap[(ad.add (j*4)).block]? :=by rw[block_add];exact lZ w ⟨b,o,none⟩ u _ hB
  exact ⟨(Ei (a:=ad.add (j*4)) hbk).trans k0,(Ei (a:=⟨(ad.add (j*4)).block,_,none⟩) hbk).trans k1,(Ei (a:=⟨(ad.add (j*4)).block,_,none⟩) hbk).trans k2,(Ei (a:=⟨(ad.add (j*4)).block,_,none⟩) hbk).trans k3⟩⟩
theorem dD.U0 {w w':World} {A:Option Addr} {n c B:Nat} {l:List Nk} (h:dD w A n c l) (hb:Below B w w') (hlt:∀ad,A=some ad->0<n->ad.block<B):dD w' A n c l:=
 ⟨h.len,h.cap,h.mx,fun hn=>by
  obtain ⟨ad,e,hl,hc⟩:=h.at_ hn;have hB:=hlt ad e hn;have hbk:(ad.add (0*4)).block=ad.block:=block_add _ _;refine ⟨ad,e,zD hl hb.size,fun j r hr=> ?_⟩;obtain ⟨k0,k1,k2,k3⟩:=hc j r hr;have hbk:(ad.add (j*4)).block<B:=by rw[block_add];exact hB
  exact ⟨(hb.cell hbk).trans k0,(hb.cell (p:=⟨(ad.add (j*4)).block,_,none⟩) hbk).trans k1,(hb.cell (p:=⟨(ad.add (j*4)).block,_,none⟩) hbk).trans k2,(hb.cell (p:=⟨(ad.add (j*4)).block,_,none⟩) hbk).trans k3⟩⟩
theorem R9 (A:Option Addr) (n c:Nat) (l:List Nk) (h:dD w A n c l) (hn:n<=1000000):
 Calls prog 121 #[.slice A n c] w fun e w'=>e= .returned (.int .i64 (oO l:Nat))/\Below w w w':=by
 have hlen:=h.len;have hcap:=h.cap;have hmx:=h.mx;have HL:=ah hlen;have HH:=ah h;clear hlen h;go_enter func121,ntmps121;go_wp2
 go_loopw [3,8] (fun t i wr=>∃k S:Nat,k<=n/\S=uW (l.take k)/\i= .int .i64 k/\t= .int .i64 ((15+S:Nat):Int)/\Below w w wr) (fun _ i _=>n-(intOf i).toNat)
 case atStart=>exact ⟨0,0,eH _,by simp[uW],rfl,rfl,bS _ _⟩
 case round=>
  obtain ⟨k,S,hk,hS,rfl,rfl,hb⟩:=hrel;have hSb:S<=42*k:=by rw[hS];have:=UZ (l.take k);have h2:(l.take k).length<=k:=List.length_take_le _ _;omega
  have hws:=hb.size;by_cases hlt:k<n
  ·obtain ⟨ad,x,rfl,hx,hbk,k0,k1,k2,k3⟩:=(HH.out.below hb).get hlt;have hsu:=Pp l k x hx;have HZ:=ah (av.new wr 197 #[x.sn,.bool x.part,x.fr,x.lt]);have HX:=ah hx;have c1:=HZ.out.cell 1;simp at c1;rw[<-hS] at hsu;cases hp:x.part with
   |false=>
    rw[hp] at k1;have KC:uW (l.take (k+1))=S+12:=by rw[hsu];unfold Ci;rw[hp];rfl
    have Xf:=ah KC;have HS:=ah hS;have HP:=ah hp;clear hsu KC hS hx hp;go_wp2
    go_roundw
    case rel=>exact ⟨k+1,S+12,by omega,Xf.out.symm,by go_num,by go_num,hb.alloc (by omega) _⟩
    case measure=>simp[intOf];omega
   |true=>
    rw[hp] at k1;have KC:uW (l.take (k+1))=S+42:=by rw[hsu];unfold Ci;rw[hp];rfl
    have Xf:=ah KC;have HS:=ah hS;have HP:=ah hp;clear hsu KC hS hx hp;go_wp2
    go_roundw
    case rel=>exact ⟨k+1,S+42,by omega,Xf.out.symm,by go_num,by go_num,hb.alloc (by omega) _⟩
    case measure=>simp[intOf];omega
  ·obtain rfl:k=n:=by omega
   have e:oO l=(15+S+7)/8:=by
    unfold oO;rw[hS,kI (by have:=HL.out;omega)]
   have HE:=ah e;have HS:=ah hS;clear e hS;go_wp2;go_ret;refine ⟨?_,hb⟩;rw[HE.out];have:((15+S:Nat):Int)+7=((15+S+7:Nat):Int):=by omega
   first
   |rfl
   |(congr 2;omega)
end
theorem FX {P:Program} {ops:Array Oper} {Q:Exit->Act->World->Prop} {md:Region.Mode} {S:World->Prop} {L:List Nat} {i k:Nat} {oi ok:Oper} {fuel:Nat} {listed:Array Bool} {a:Act} {w:World} (hi:ops[i]? =some oi) (hk:ops[k]? =some ok) (hr:Region.ready md ops listed= [i,k]) (hwi:Region.wanted oi (yielded ops a.tmps)=true) (hwk:Region.wanted ok (yielded ops a.tmps)=true)
 (h:∀K:Act->World->Prop,(∀a' w',S w'->dP P md ops Q S L fuel (listed.setIfInBounds i true) a' w'->K a' w')->oi.wp P a w K Q)
 (h2:∀K:Act->World->Prop,(∀a' w',S w'->dP P md ops Q S L fuel (listed.setIfInBounds k true) a' w'->K a' w')->ok.wp P a w K Q):dP P md ops Q S L (fuel+1) listed a w:=by
 refine ⟨fun h0=>(by rw[hr] at h0;cases h0),fun j hj=> ?_⟩;rw[hr] at hj;simp only[nE,Dp,uQ] at hj;rcases hj with rfl|rfl
 ·unfold wpOp;simp only[hi,hwi,kE];exact .inl (h _ fun a' w' hs h'=>⟨fun _=>hs,h'⟩)
 ·unfold wpOp;simp only[hk,hwk,kE];exact .inl (h2 _ fun a' w' hs h'=>⟨fun _=>hs,h'⟩)
section
variable (w:World)
theorem YL (r:List (Nat × Nat)) (y:Nat × Nat) (a b:Nat):((sV (r++ [y])).set (r.length*2) (.int .i64 (a:Int))).set (r.length*2+1) (.int .i64 (b:Int))=sV (r++ [(a,b)]):=by
 have h:=yO r;rw[D4,D4,<-h,List.set_append_right _ _ (by omega),List.set_append_right _ _ (by omega)];simp[sV]
theorem Vm (w:World) (x:Nat × Nat):fQ (w.alloc (.cells #[.int .i64 (x.1:Int),.int .i64 (x.2:Int)] 39)) (some ⟨w,0,none⟩) 1 1 [x]:=
 ⟨rfl,aL,by omega,fun _=>⟨_,rfl,by simp,fun j r hr=>by
  cases j with
  |zero=>
   simp at hr;subst hr;have b:=av.new w 39 #[.int .i64 (x.1:Int),.int .i64 (x.2:Int)];exact ⟨b.cell 0,b.cell 1⟩
  |succ j=>simp at hr⟩⟩
def aao (w:World) (base:Nat) (v:Value) (l:List (Nat × Nat)) (x:Nat × Nat) (e:Ending) (w':World):Prop:=
 ∃v',e= .returned v'/\w'.ownsRow base 39 2 v' (gN l x).length (sV (gN l x))/\Kept (fun k _=>some k=v.ownBlock) w w'/\(v'.ownBlock=v.ownBlock\/∃k,v'.ownBlock=some k/\w.heap.size<=k)
theorem Nc (base:Nat) (v:Value) (l:List (Nat × Nat)) (x:Nat × Nat) (hown:w.ownsRow base 39 2 v l.length (sV l)) (hbase:base<=w) (hlen:l.length<=100000) (hsm:∀r∈l,r.2<1000000):
 Calls prog 186 #[v,.agg #[.int .i64 (x.1:Int),.int .i64 (x.2:Int)],.func (.func 187) #[] #[]] w (aao w base v l x):=by
 have hown1:=hown.alloc (.cells #[.int .i64 (x.1:Int),.int .i64 (x.2:Int)] 39);have bx:=av.new w 39 #[.int .i64 (x.1:Int),.int .i64 (x.2:Int)];have hB:Below w w (w.alloc (.cells #[.int .i64 (x.1:Int),.int .i64 (x.2:Int)] 39)):=(bS _ w).alloc (aL) _;have hz:=mZ w (.cells #[.int .i64 (x.1:Int),.int .i64 (x.2:Int)] 39);rcases List.eq_nil_or_concat l with rfl|⟨r,y,rfl⟩
 ·obtain ⟨A,cp,rfl,hsp,_⟩:=fQ.eu (l:= []) hown;obtain ⟨i0,hi,hz0,hz1,hz2⟩:=wH;have Ik:(w.alloc (.cells #[.int .i64 (x.1:Int),.int .i64 (x.2:Int)] 39)).cell? w=some (.int .i64 (x.1:Int)):=bx.cell 0;have Il:(w.alloc (.cells #[.int .i64 (x.1:Int),.int .i64 (x.2:Int)] 39)).cell? ⟨w,1,none⟩=some (.int .i64 (x.2:Int)):=bx.cell 1;have HB:=ah hB;have HO:=ah hown1;clear hB hown hown1 hsp bx hsm;simp only[gQ] at HO ⊢;go_enter func186,ntmps186;go_upto_region 7 with (fail)
  have HZ:=ah hz;clear hz;generalize w.alloc (.cells #[.int .i64 (x.1:Int),.int .i64 (x.2:Int)] 39)=w0 at*;have TK:=ah (Vm w0 x);have HA:=ah (HO.out.alloc (.cells #[.int .i64 (x.1:Int),.int .i64 (x.2:Int)] 39));have hbw:base<=(w0.alloc (.cells #[.int .i64 (x.1:Int),.int .i64 (x.2:Int)] 39)).heap.size:=by have:=HZ.out;simp;omega
  go_wp2_with (at_builtin;refine ja _ rfl _ _ 150 rfl base 39 i0 (.agg #[.int .i64 0,.int .i64 0]) 16 yP hi hz0 hz1 hz2 rfl (.slice A 0 cp) 0 (sV []) rfl HA.out (some ⟨w0,0,none⟩) 1 1 [x] rfl TK.out ?c3 ?c4 hbw ?_)
  case c3=>unfold maxLen;omega
  case c4=>omega
  intro v5 w5 hown5 dV hv5;go_wp2_with fail;go_ret;refine ⟨v5,rfl,?_,?_,?_⟩
  ·simpa[gN,sV] using hown5
  ·exact ((Kept.eZ HB.out).trans (Kept.eZ ((bS _ w0).alloc (aL) _))).grown dV (fun k e o ho=>e.symm)
  ·rcases hv5 with e|e
   ·exact .inl e
   ·refine .inr ⟨_,e,?_⟩;have:=HB.out.size;simp;omega
 ·simp only[List.concat_eq_append] at*;have hm:gN (r++ [y]) x=if y.2+1=x.1 then r++ [(y.1,x.2)] else r++ [y]++ [x]:=by
   unfold gN;simp
  obtain ⟨gv,cap,rfl,hgl,oL⟩:=hown1.form (by simp);have hlr:(r++ [y]).length=r.length+1:=by simp
  have hc0:=hown1.cellAt (r.length*2) (by rw[hlr];omega);have hc1:=hown1.cellAt (r.length*2+1) (by rw[hlr];omega);obtain ⟨e0,e1⟩:=D5 (r++ [y]) r.length y (by simp);rw[e0] at hc0;rw[e1] at hc1;have hfr:=hown1.frozenAt;have hy:=hsm y (by simp);have hcap:r.length+1<=cap:=by
   obtain ⟨A,c,e,hs,_⟩:=fQ.eu (l:=r++ [y]) hown1;injection e with _ _ e3
   rw[e3];have:=hs.cap;omega
  have Vn:r.length+1<=100000:=by omega
  have hmx:cap<=9223372036854775807:=by
   obtain ⟨A,c,e,hs,_⟩:=fQ.eu (l:=r++ [y]) hown1;injection e with _ _ e3
   rw[e3];exact hs.mx
  have hlt:=bx.lt;have hw1:IntKind.i64.wrap ((r.length:Int)+1-1)=(r.length:Int):=by rw[iG _ (by omega)];omega
  have hw3:IntKind.i64.wrap (r.length:Int)=(r.length:Int):=iG _ (by omega);have hw2:(r.length:Int)<(r.length:Int)+1:=by omega
  have HC:=fun W:World=>Nb W y.1 y.2 x.1 x.2 hy
  have HCC:=ah HC;have HO:=ah hown1;have BX:=ah bx;have HB:=ah hB;have HM:=ah hm;have HV:=ah hlr;rw[hlr];clear e0 e1 hown hown1 bx hB HC hm hsm hlen hlr;have Ik:(w.alloc (.cells #[.int .i64 (x.1:Int),.int .i64 (x.2:Int)] 39)).cell? w=some (.int .i64 (x.1:Int)):=BX.out.cell 0;have Il:(w.alloc (.cells #[.int .i64 (x.1:Int),.int .i64 (x.2:Int)] 39)).cell? ⟨w,1,none⟩=some (.int .i64 (x.2:Int)):=BX.out.cell 1;go_enter func186,ntmps186;go_wp2_with fail;have hsz:=mZ w (.cells #[.int .i64 (x.1:Int),.int .i64 (x.2:Int)] 39);generalize hW0:w.alloc (.cells #[.int .i64 (x.1:Int),.int .i64 (x.2:Int)] 39)=w0 at*;clear hW0;go_cut [8,9] from 14 to 24 (fun s8 s9 wx=>∃bj,s8= .pointer (some ⟨bj,0,none⟩)/\s9= .bool (decide (y.2+1=x.1))/\w0.heap.size<=bj/\av wx bj 39 #[.int .i64 (y.1:Int),.int .i64 (x.2:Int)]/\Below w0 w0 wx)
  case first=>
   refine bX (fun w'=>w'.cell? ⟨gv,r.length*2,none⟩=some (.int .i64 (y.1:Int))/\w'.cell? ⟨gv,r.length*2+1,none⟩=some (.int .i64 (y.2:Int))/\w'.cell? w=some (.int .i64 (x.1:Int))/\w'.cell? ⟨w,1,none⟩=some (.int .i64 (x.2:Int))) [12] (by kernel_rfl) ?_;have hHeld:=(show (fun w'=>w'.cell? ⟨gv,r.length*2,none⟩=some (.int .i64 (y.1:Int))/\w'.cell? ⟨gv,r.length*2+1,none⟩=some (.int .i64 (y.2:Int))/\w'.cell? w=some (.int .i64 (x.1:Int))/\w'.cell? ⟨w,1,none⟩=some (.int .i64 (x.2:Int))) w0.drew from ⟨hc0,hc1,Ik,Il⟩);refine aW 0 ?_;refine aW 1 ?_;refine aW 2 ?_;refine aW 3 ?_;refine aW 4 ?_;refine jq [7,8,9,12] 5 ?_;refine jq [7,8,9,12] 6 ?_;refine FX (i:=7) (k:=11) rfl rfl (by kernel_rfl) (by rfl) (by rfl) (fun K hK=> ?_) (fun K hK=> ?_)
   ·go_simp;refine (HCC.out _).mono ?_;rintro e w1 ⟨rfl,hb1⟩;have hb2:Below w0 w0 w1:=((bS _ w0).drew).trans hb1;refine hK _ _ ⟨(hb2.cell (p:=⟨gv,r.length*2,none⟩) oL).trans hc0,(hb2.cell (p:=⟨gv,r.length*2+1,none⟩) oL).trans hc1,(hb2.cell (p:=⟨w,0,none⟩) hlt).trans Ik,(hb2.cell (p:=⟨w,1,none⟩) hlt).trans Il⟩ ?_;clear hK K hHeld;have hHeld:=(show (fun w'=>w'.cell? ⟨gv,r.length*2,none⟩=some (.int .i64 (y.1:Int))/\w'.cell? ⟨gv,r.length*2+1,none⟩=some (.int .i64 (y.2:Int))/\w'.cell? w=some (.int .i64 (x.1:Int))/\w'.cell? ⟨w,1,none⟩=some (.int .i64 (x.2:Int))) w1 from ⟨(hb2.cell (p:=⟨gv,r.length*2,none⟩) oL).trans hc0,(hb2.cell (p:=⟨gv,r.length*2+1,none⟩) oL).trans hc1,(hb2.cell (p:=⟨w,0,none⟩) hlt).trans Ik,(hb2.cell (p:=⟨w,1,none⟩) hlt).trans Il⟩)
    try simp only[Act.put,gJ]
    refine aW 8 ?_;refine aW 9 ?_;refine aW 10 ?_;have hb3:Below w0 w0 (w1.alloc (.cells #[.int .i64 0,.int .i64 0] 39)):=hb2.alloc hb2.size _;refine aU (i:=11) rfl (by kernel_rfl) (by rfl) (fun K hK=> ?_);go_simp;refine hK _ _ ⟨(hb3.cell (p:=⟨gv,r.length*2,none⟩) oL).trans hc0,(hb3.cell (p:=⟨gv,r.length*2+1,none⟩) oL).trans hc1,(hb3.cell (p:=⟨w,0,none⟩) hlt).trans Ik,(hb3.cell (p:=⟨w,1,none⟩) hlt).trans Il⟩ ?_;clear hK K hHeld
    try simp only[Act.put,gJ]
    have HBS:=ah (av.new w1 39 #[.int .i64 (y.1:Int),.int .i64 (x.2:Int)]);have Ij:=ah (hb2.alloc hb2.size (.cells #[.int .i64 (y.1:Int),.int .i64 (x.2:Int)] 39));have HZ:=ah hb2.size;refine dB (i:=12) rfl (by kernel_rfl) (by kernel_rfl) (by rfl) (fun K hK=> ?_);go_simp;refine hK _ _ ?_;clear hK K
    try simp only[Act.put,gJ]
    refine xL 13 ?_;refine bW (by kernel_rfl) ?_ _;go_wp2_with fail;go_meet;exact ⟨_,rfl,rfl,HZ.out,HBS.out,Ij.out⟩
   ·have hb2:Below w0 w0 (w0.drew.alloc (.cells #[.int .i64 0,.int .i64 0] 39)):=((bS _ w0).drew).alloc (aL) _;go_simp;refine hK _ _ ⟨(hb2.cell (p:=⟨gv,r.length*2,none⟩) oL).trans hc0,(hb2.cell (p:=⟨gv,r.length*2+1,none⟩) oL).trans hc1,(hb2.cell (p:=⟨w,0,none⟩) hlt).trans Ik,(hb2.cell (p:=⟨w,1,none⟩) hlt).trans Il⟩ ?_;clear hK K hHeld
    try simp only[Act.put,gJ]
    refine aU (i:=7) rfl (by kernel_rfl) (by rfl) (fun K hK=> ?_);go_simp;refine (HCC.out _).mono ?_;rintro e w1 ⟨rfl,hb1⟩;have hb3:Below w0 w0 w1:=hb2.trans (hb1.mono hb2.size);refine hK _ _ ⟨(hb3.cell (p:=⟨gv,r.length*2,none⟩) oL).trans hc0,(hb3.cell (p:=⟨gv,r.length*2+1,none⟩) oL).trans hc1,(hb3.cell (p:=⟨w,0,none⟩) hlt).trans Ik,(hb3.cell (p:=⟨w,1,none⟩) hlt).trans Il⟩ ?_;clear hK K;have hHeld:=(show (fun w'=>w'.cell? ⟨gv,r.length*2,none⟩=some (.int .i64 (y.1:Int))/\w'.cell? ⟨gv,r.length*2+1,none⟩=some (.int .i64 (y.2:Int))/\w'.cell? w=some (.int .i64 (x.1:Int))/\w'.cell? ⟨w,1,none⟩=some (.int .i64 (x.2:Int))) w1 from ⟨(hb3.cell (p:=⟨gv,r.length*2,none⟩) oL).trans hc0,(hb3.cell (p:=⟨gv,r.length*2+1,none⟩) oL).trans hc1,(hb3.cell (p:=⟨w,0,none⟩) hlt).trans Ik,(hb3.cell (p:=⟨w,1,none⟩) hlt).trans Il⟩)
    try simp only[Act.put,gJ]
    refine aW 8 ?_;refine aW 9 ?_;refine aW 10 ?_;have hbz:av w1 w0 39 #[.int .i64 0,.int .i64 0]:=(av.new w0.drew 39 #[.int .i64 0,.int .i64 0]).below hb1 (by simp);have hb4:=(hb3.setCell (p:=⟨w0,0,none⟩) (aL) (.int .i64 (y.1:Int))).setCell (p:=⟨w0,1,none⟩) (aL) (.int .i64 (x.2:Int));have hbj:=Nat.le_refl w0;rw[hsz] at hbz hb4 hbj;have hbs:=(hbz.ay 0 (.int .i64 (y.1:Int))).ay 1 (.int .i64 (x.2:Int));simp at hbs;have HBS:=ah hbs;have Ij:=ah hb4;have HZ:=ah hbj;have fz:=hbz.frozen 0;have fz1:=hbz.frozen 1;have cz0:=hbz.cell 0;have cz1:=hbz.cell 1;simp at cz0 cz1;clear hbs hb4 hbz hbj;refine dB (i:=12) rfl (by kernel_rfl) (by kernel_rfl) (by rfl) (fun K hK=> ?_);go_simp;refine hK _ _ ?_;clear hK K
    try simp only[Act.put,gJ]
    refine xL 13 ?_;refine bW (by kernel_rfl) ?_ _;go_wp2_with fail;go_meet;exact ⟨_,rfl,rfl,by omega,HBS.out,by rw[hsz];exact Ij.out⟩
  case rest=>
   obtain ⟨bj,rfl,rfl,hbj,bk,hb4⟩:=hcut;have hc0':=(hb4.cell (p:=⟨gv,r.length*2,none⟩) oL).trans hc0;have hc1':=(hb4.cell (p:=⟨gv,r.length*2+1,none⟩) oL).trans hc1;have hx0:=(hb4.cell (p:=⟨w,0,none⟩) hlt).trans Ik;have hx1:=(hb4.cell (p:=⟨w,1,none⟩) hlt).trans Il;have hO4:wc.ownsRow base 39 2 (.slice (some ⟨gv,0,none⟩) (r++ [y]).length cap) (r++ [y]).length (sV (r++ [y])):=
    HO.out.kept (row:=none) ⟨hb4.os,hb4.tape,hb4.output,hb4.size,fun k hk _=>hb4.block k hk⟩ (.inr (by simp[Value.ownBlock]))
   have hfr:=hO4.frozenAt;have Pj:=ah hO4;have HKP:=ah ((Kept.eZ (M:=fun k (_:Obj)=>some k=some gv) HB.out).trans (Kept.eZ hb4));clear hO4;have k0:=bk.cell 0;have k1:=bk.cell 1;simp at k0 k1;clear hc0 hc1 Ik Il hb4 bk;by_cases hj:y.2+1=x.1
   ·rw[iK hj];go_wp2_with fail;go_ret;have hm:=HM.out;rw[bD hj] at hm;have hs1:=Pj.out.stored (r.length*2) (.int .i64 (y.1:Int));have hs2:=hs1.1.stored (r.length*2+1) (.int .i64 (x.2:Int));have hl:(r++ [y]).length=(r++ [(y.1,x.2)]).length:=by simp
    refine ⟨_,rfl,?_,?_,.inl rfl⟩
    ·rw[hm];have h3:=hs2.1;rw[YL,hl] at h3;rw[HV.out] at*;simpa using h3
    ·exact (HKP.out.setCell (p:=⟨gv,r.length*2,none⟩) (fun _ _=>rfl) _).setCell (p:=⟨gv,r.length*2+1,none⟩) (fun _ _=>rfl) _
   ·rw[iP hj];obtain ⟨i0,hi,hz0,hz1,hz2⟩:=wH;have hm:=HM.out;rw[aP hj] at hm;have HM2:=ah hm;have HA:=ah (Pj.out.alloc (.cells #[.int .i64 (x.1:Int),.int .i64 (x.2:Int)] 39));have TK:=ah (Vm wc x);have hbw:base<=(wc.alloc (.cells #[.int .i64 (x.1:Int),.int .i64 (x.2:Int)] 39)).heap.size:=by have:=HKP.out.size;simp;omega
    clear hm hc0' hc1' k0 k1 HM hfr;go_wp2_with (at_builtin;refine ja _ rfl _ _ 150 rfl base 39 i0 (.agg #[.int .i64 0,.int .i64 0]) 16 yP hi hz0 hz1 hz2 rfl (.slice (some ⟨gv,0,none⟩) (r++ [y]).length cap) (r++ [y]).length (sV (r++ [y])) (by rw[HV.out];rfl) HA.out (some ⟨wc,0,none⟩) 1 1 [x] rfl TK.out ?c3 ?c4 hbw ?_)
    case c3=>unfold maxLen;rw[HV.out];omega
    case c4=>rw[HV.out];omega
    intro v5 w5 hown5 dV hv5;go_wp2_with fail;go_ret;refine ⟨v5,rfl,?_,?_,?_⟩
    ·rw[HM2.out];rw[D4 (r++ [y]) [x]];simpa using hown5
    ·exact (HKP.out.trans (Kept.eZ ((bS _ wc).alloc (aL) _))).grown dV (fun k e o ho=>e.symm)
    ·rcases hv5 with e|e
     ·exact .inl e
     ·refine .inr ⟨_,e,?_⟩;have:=HKP.out.size;simp;omega
end
end Go.Proofs.YtbhiklnljiehiaaGreat
